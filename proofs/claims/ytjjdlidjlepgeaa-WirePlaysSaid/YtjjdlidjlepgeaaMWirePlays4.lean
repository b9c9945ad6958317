/- Of each Go function that WirePlays comes to: a model in plain Lean, and that the program's call does what the model says; no condition. -/
import Derived.Test.YtjjdlidjlepgeaaProg
import Derived.Test.YtjjdlidjlepgeaaVbcbbhpan
import Derived.Test.YtjjdlidjlepgeaaMWirePlays3
namespace Go.Proofs.Ytjjdlidjlepgeaa
open Go Go.Vk
set_option linter.unusedVariables false


def visorlaw19_WirePlays.j1 (k : Nat) (p_52 : Bool) : Option (Bool) := some p_52
def visorlaw19_WirePlays.j3 (k : Nat) (rec92 : Twire_Machine → Tvisorref19_M → Int → Option (Sum (Bool) (Unit))) (x3 : List Tvisorlaw19_Act) (q_114 : Int) (p_153 : Twire_Machine) (p_168 : Tvisorref19_M) : Option (Sum (Bool) (Unit)) := (if 0 ≤ q_114 then (x3[q_114.toNat]?).bind fun e_185 => (visorlaw19_does.m k p_153 p_168 e_185).bind fun v_191 => (bif !v_191.1 then some (.inl false) else (visorlaw19_same.m k v_191.2.1 v_191.2.2).bind fun v_210 => (bif !v_210 then some (.inl false) else rec92 v_191.2.1 v_191.2.2 (IntKind.i64.wrap (q_114 + 1)))) else none)
def visorlaw19_WirePlays.l1 (x3 : List Tvisorlaw19_Act) : Nat → Twire_Machine → Tvisorref19_M → Int → Option (Sum (Bool) (Unit))
  | 0, _, _, _ => none
  | k + 1, q_94, q_105, q_114 => (bif (decide (q_114 < ((x3.length : Nat) : Int))) && (decide (q_114 < 150)) then (if 0 ≤ q_114 then (x3[q_114.toNat]?).bind fun e_124 => (bif (e_124.kind == 10) && (!q_105.dry) then (wire_Machine_Dry.m k q_94).bind fun v_132 => (visorref19_M_Len.m k q_105).bind fun v_146 => visorlaw19_WirePlays.j3 k (visorlaw19_WirePlays.l1 x3 k) x3 q_114 v_132 (⟨q_105.n, 0, q_105.words, 0, 0, v_146, 0, 0, ([] : List Tapi_Op), ([] : List Tapi_Span), ([] : List Int), (⟨([] : List Int), 0, 0⟩ : Tvisorref02_T), true⟩ : Tvisorref19_M) else visorlaw19_WirePlays.j3 k (visorlaw19_WirePlays.l1 x3 k) x3 q_114 q_94 q_105) else none) else some (.inr ()))
def visorlaw19_WirePlays.j2 (k : Nat) (x3 : List Tvisorlaw19_Act) (v_31 : Twire_Machine × Int) (p_89 : Tvisorref19_M) : Option (Bool) := (visorlaw19_WirePlays.l1 x3 k v_31.1 p_89 0).bind fun x => match x with | .inl v => some v | .inr () => (visorlaw19_awake.m k).bind fun v_238 => some v_238
abbrev visorlaw19_WirePlays.R (κ : Ctx) (S : List HP) (x0 : Int) (x1 : Int) (x2 : Int) (x3 : List Tvisorlaw19_Act) (A_x3 : Option Addr) (c_x3 : Nat) (r : Bool) : Ending → World → Prop := fun e w' => e = .returned (.bool r) ∧ Own κ w' (S)
def visorlaw19_WirePlays.m (k : Nat) (x0 : Int) (x1 : Int) (x2 : Int) (x3 : List Tvisorlaw19_Act) : Option Bool := (visorlaw19_tapeWords.m k 40).bind fun v_5 => (tape_New.m k v_5).bind fun v_10 => (tape_Tape_Reserve.m k v_10 x2).bind fun v_20 => (bif !((v_20.1 == 0) == ((decide (x2 ≥ 0)) && (decide (x2 ≤ 40)))) then some false else ((wire_New.m k x0 v_20.2 x1).bind fun v => match v with | (.inl v_28) => (bif (((x0 != 2) && (x0 != 3)) || (decide (x1 < 0))) || (decide (x1 > 1048576)) then (bif v_28.1 == 1 then (visorlaw19_awake.m k).bind fun v_51 => visorlaw19_WirePlays.j1 k v_51 else visorlaw19_WirePlays.j1 k false) else some false) | (.inr v_31) => (bif (((x0 != 2) && (x0 != 3)) || (decide (x1 < 0))) || (decide (x1 > 1048576)) then some false else (bif v_31.2 != 0 then some false else (visorlaw19_tapeWords.m k 40).bind fun v_71 => (visorref19_New.m k x0 v_71 x1).bind fun v_76 => (bif (decide (x2 ≥ 0)) && (decide (x2 ≤ 40)) then visorlaw19_WirePlays.j2 k x3 v_31 (⟨v_76.n, v_76.most, v_76.words, v_76.draws, v_76.fromF, v_76.skip, v_76.kind, v_76.e, v_76.ops, v_76.blocks, v_76.val, (⟨v_76.tape.l, v_76.tape.used, x2⟩ : Tvisorref02_T), v_76.dry⟩ : Tvisorref19_M) else visorlaw19_WirePlays.j2 k x3 v_31 (⟨v_76.n, v_76.most, v_76.words, v_76.draws, v_76.fromF, v_76.skip, v_76.kind, v_76.e, v_76.ops, v_76.blocks, v_76.val, (⟨v_76.tape.l, v_76.tape.used, 0⟩ : Tvisorref02_T), v_76.dry⟩ : Tvisorref19_M))))))

set_option maxRecDepth 100000 in
set_option maxHeartbeats 4000000 in
theorem visorlaw19_WirePlays.ok (k : Nat) (x0 : Int) (x1 : Int) (x2 : Int) (x3 : List Tvisorlaw19_Act) (r : Bool) (hm : visorlaw19_WirePlays.m k x0 x1 x2 x3 = some r) (κ : Ctx) (w : World) (S : List HP) (A_x3 : Option Addr) (c_x3 : Nat) (hx_x3 : Sl κ [] A_x3 c_x3 8 Tvisorlaw19_Act.cells x3) (ho : Own κ w (S)) :
    Calls Try.prog 14 #[.int .i64 x0, .int .i64 x1, .int .i64 x2, .slice A_x3 x3.length c_x3] w (visorlaw19_WirePlays.R κ S x0 x1 x2 x3 A_x3 c_x3 r) := by
  have ht_x3 := hx_x3
  replace hx_x3 := Sl.top (S := S) hx_x3
  unfold visorlaw19_WirePlays.m at hm
  refine Vk.enter [(0, .int .i64 x0), (1, .int .i64 x1), (2, .int .i64 x2), (3, .slice A_x3 x3.length c_x3)] Try.func14 rfl Try.ntmps14 (by kernel_rfl) (Nat.le_of_ble_eq_true (by kernel_rfl)) ho fun a hs => ?_
  refine Vk.seq fun K1 hK1 => ?_
  refine Vk.region ?_
  refine Vk.pures 1 [(8, .bool false)] hs (by kernel_rfl) fun a hs => ?_
  replace hs := hs.pick [0, 1, 2, 3] (L' := [(0, .int .i64 x0), (1, .int .i64 x1), (2, .int .i64 x2), (3, .slice A_x3 x3.length c_x3)]) (by kernel_rfl)
  refine Vk.done (by kernel_rfl) ?_
  refine hK1 _ _ ?_
  clear hK1
  refine Vk.seq fun K2 hK2 => ?_
  refine Vk.region ?_
  obtain ⟨v_5, h_4, hm⟩ := bind_t hm
  refine Vk.step (Vk.call (some 15) 55 #[.int .i64 40] hs (by kernel_rfl) (by kernel_rfl) (by kernel_rfl) ?_)
  refine (visorlaw19_tapeWords.ok k 40 v_5 h_4 κ w (S) hs.own).mono ?_
  rintro _ w ⟨Ar3x0_6, cr3x0_7, rfl, how⟩
  refine ⟨_, _, _, rfl, how, fun a hs => ?_⟩
  obtain ⟨v_10, h_9, hm⟩ := bind_t hm
  refine Vk.step (Vk.call (some 16) 54 #[.slice Ar3x0_6 v_5.length cr3x0_7] hs (by kernel_rfl) (by kernel_rfl) (by kernel_rfl) ?_)
  refine (tape_New.ok k v_5 v_10 h_9 κ w (rowp Ar3x0_6 cr3x0_7 23 1 (eI .u64) v_5 :: S) Ar3x0_6 cr3x0_7 (Own.rowSl 0 hs.own rfl) hs.own).mono ?_
  rintro _ w ⟨br8x0_11, Ar8x0owords_12, cr8x0owords_13, rfl, how⟩
  refine ⟨_, _, _, rfl, how, fun a hs => ?_⟩
  refine Vk.pures 1 [(9, .pointer (some ⟨br8x0_11, 0, none⟩))] hs (by kernel_rfl) fun a hs => ?_
  replace hs := hs.pick [0, 1, 2, 3, 9] (L' := [(0, .int .i64 x0), (1, .int .i64 x1), (2, .int .i64 x2), (3, .slice A_x3 x3.length c_x3), (9, .pointer (some ⟨br8x0_11, 0, none⟩))]) (by kernel_rfl)
  refine Vk.done (by kernel_rfl) ?_
  refine hK2 _ _ ?_
  clear hK2
  refine Vk.seq fun K14 hK14 => ?_
  refine Vk.region ?_
  refine Vk.pures 3 [(19, .bool (decide (x2 ≥ 0))), (18, .bool (decide (x2 ≥ 0))), (17, .int .i64 x2)] hs (by kernel_rfl) fun a hs => ?_
  suffices hj_15 : ∀ a, St 135 a w κ [(0, .int .i64 x0), (1, .int .i64 x1), (2, .int .i64 x2), (3, .slice A_x3 x3.length c_x3), (9, .pointer (some ⟨br8x0_11, 0, none⟩)), (17, .int .i64 x2), (18, .bool (decide (x2 ≥ 0))), (19, .bool (decide (x2 ≥ 0))), (22, .bool ((decide (x2 ≥ 0)) && (decide (x2 ≤ 40))))] (pt br8x0_11 (blk (Ttape_Tape.obj v_10 Ar8x0owords_12 cr8x0owords_13) 158) :: rowp Ar8x0owords_12 cr8x0owords_13 23 1 (eI .u64) v_10.words :: rowp Ar3x0_6 cr3x0_7 23 1 (eI .u64) v_5 :: S) → wpFrom Try.prog _ _ 6 a w by
    rcases Bool.eq_false_or_eq_true (decide (x2 ≥ 0)) with hb | hb
    · replace hs := hs.known (t := 19) hb (by kernel_rfl)
      refine Vk.pures 3 [(22, .bool (decide (x2 ≤ 40))), (21, .bool (decide (x2 ≤ 40))), (20, .int .i64 x2)] hs (by kernel_rfl) fun a hs => ?_
      have hq := hs.pick [0, 1, 2, 3, 9, 17, 18, 19, 22] (L' := [(0, .int .i64 x0), (1, .int .i64 x1), (2, .int .i64 x2), (3, .slice A_x3 x3.length c_x3), (9, .pointer (some ⟨br8x0_11, 0, none⟩)), (17, .int .i64 x2), (18, .bool (decide (x2 ≥ 0))), (19, .bool true), (22, .bool (decide (x2 ≤ 40)))]) (by kernel_rfl)
      exact hj_15 _ (hq.conv (by first | (rw [hb] <;> rfl) | rfl))
    · replace hs := hs.known (t := 19) hb (by kernel_rfl)
      refine Vk.pures 3 [(22, .bool false), (21, undef), (20, undef)] hs (by kernel_rfl) fun a hs => ?_
      have hq := hs.pick [0, 1, 2, 3, 9, 17, 18, 19, 22] (L' := [(0, .int .i64 x0), (1, .int .i64 x1), (2, .int .i64 x2), (3, .slice A_x3 x3.length c_x3), (9, .pointer (some ⟨br8x0_11, 0, none⟩)), (17, .int .i64 x2), (18, .bool (decide (x2 ≥ 0))), (19, .bool false), (22, .bool false)]) (by kernel_rfl)
      exact hj_15 _ (hq.conv (by first | (rw [hb] <;> rfl) | rfl))
  intro a hs
  refine Vk.pures 1 [(10, .bool ((decide (x2 ≥ 0)) && (decide (x2 ≤ 40))))] hs (by kernel_rfl) fun a hs => ?_
  replace hs := hs.pick [0, 1, 2, 3, 9, 10] (L' := [(0, .int .i64 x0), (1, .int .i64 x1), (2, .int .i64 x2), (3, .slice A_x3 x3.length c_x3), (9, .pointer (some ⟨br8x0_11, 0, none⟩)), (10, .bool ((decide (x2 ≥ 0)) && (decide (x2 ≤ 40))))]) (by kernel_rfl)
  refine Vk.done (by kernel_rfl) ?_
  refine hK14 _ _ ?_
  clear hK14
  refine Vk.seq fun K16 hK16 => ?_
  refine Vk.seq fun K17 hK17 => ?_
  refine Vk.region ?_
  refine Vk.pures 2 [(24, .int .i64 x2), (23, .pointer (some ⟨br8x0_11, 0, none⟩))] hs (by kernel_rfl) fun a hs => ?_
  obtain ⟨v_20, h_19, hm⟩ := bind_t hm
  refine Vk.step (Vk.call (some 25) 56 #[.pointer (some ⟨br8x0_11, 0, none⟩), .int .i64 x2] hs (by kernel_rfl) (by kernel_rfl) (by kernel_rfl) ?_)
  refine (tape_Tape_Reserve.ok k v_10 x2 v_20 h_19 κ w (rowp Ar3x0_6 cr3x0_7 23 1 (eI .u64) v_5 :: S) br8x0_11 Ar8x0owords_12 cr8x0owords_13 (Own.to hs.own [0, 1, 2] 3 (by kernel_rfl) (by kernel_rfl))).mono ?_
  rintro _ w ⟨Ar18o0owords_21, cr18o0owords_22, rfl, how⟩
  refine ⟨_, _, _, rfl, how, fun a hs => ?_⟩
  refine Vk.pures 3 [(28, .bool (!((v_20.1 == 0) == ((decide (x2 ≥ 0)) && (decide (x2 ≤ 40)))))), (27, .bool ((decide (x2 ≥ 0)) && (decide (x2 ≤ 40)))), (26, .bool (v_20.1 == 0))] hs (by kernel_rfl) fun a hs => ?_
  replace hs := hs.pick [0, 1, 2, 3, 9, 10, 28] (L' := [(0, .int .i64 x0), (1, .int .i64 x1), (2, .int .i64 x2), (3, .slice A_x3 x3.length c_x3), (9, .pointer (some ⟨br8x0_11, 0, none⟩)), (10, .bool ((decide (x2 ≥ 0)) && (decide (x2 ≤ 40)))), (28, .bool (!((v_20.1 == 0) == ((decide (x2 ≥ 0)) && (decide (x2 ≤ 40))))))]) (by kernel_rfl)
  refine Vk.done (by kernel_rfl) ?_
  refine hK17 _ _ ?_
  clear hK17
  refine Vk.condS (b := !((v_20.1 == 0) == ((decide (x2 ≥ 0)) && (decide (x2 ≤ 40))))) hs (by kernel_rfl) (by kernel_rfl) (fun hb => ?_) (fun hb => ?_)
  · replace hm := bif_t hm hb
    refine Vk.seq fun K23 hK23 => ?_
    refine Vk.region ?_
    refine Vk.pures 1 [(8, .bool false)] hs (by kernel_rfl) fun a hs => ?_
    replace hs := hs.pick [8] (L' := [(8, .bool false)]) (by kernel_rfl)
    refine Vk.done (by kernel_rfl) ?_
    refine hK23 _ _ ?_
    clear hK23
    refine wp_ret ?_
    exact Vk.ret1 (P := Try.prog) (fn := Try.f14) (R := visorlaw19_WirePlays.R κ S x0 x1 x2 x3 A_x3 c_x3 r) (.bool false) hs rfl (by kernel_rfl) (by obtain rfl := Option.some.inj hm; exact ⟨rfl, (Own.to hs.own [] 3 (by kernel_rfl) (by kernel_rfl))⟩)
  · replace hm := bif_f hm hb
    refine wp_skip ?_
    refine hK16 _ _ ?_
    clear hK16
    refine Vk.seq fun K24 hK24 => ?_
    refine Vk.region ?_
    refine Vk.pures 3 [(32, .int .i64 x1), (31, .pointer (some ⟨br8x0_11, 0, none⟩)), (30, .int .i64 x0)] hs (by kernel_rfl) fun a hs => ?_
    obtain ⟨v_27, h_26, hm⟩ := bind_t hm
    refine Vk.step (Vk.call (some 33) 57 #[.int .i64 x0, .pointer (some ⟨br8x0_11, 0, none⟩), .int .i64 x1] hs (by kernel_rfl) (by kernel_rfl) (by kernel_rfl) ?_)
    refine (wire_New.ok k x0 v_20.2 x1 v_27 h_26 κ w (rowp Ar3x0_6 cr3x0_7 23 1 (eI .u64) v_5 :: S) br8x0_11 Ar18o0owords_21 cr18o0owords_22 (Own.to hs.own [0, 1, 2] 3 (by kernel_rfl) (by kernel_rfl))).mono ?_
    rintro _ w (⟨v_28, rfl, Ar25o0owords_29, cr25o0owords_30, rfl, how⟩ | ⟨v_31, rfl, br25x0_32, br25x0otape_33, Ar25x0otapeowords_34, cr25x0otapeowords_35, Ar25x0oops_36, cr25x0oops_37, Ar25x0ovalues_38, cr25x0ovalues_39, Ar25x0oblocks_40, cr25x0oblocks_41, rfl, how⟩)
    · dsimp only at hm
      refine ⟨_, _, _, rfl, how, fun a hs => ?_⟩
      refine Vk.pures 5 [(12, .int .i64 v_28.1), (11, .pointer none), (35, .int .i64 v_28.1), (34, .pointer none), (29, .tuple #[.pointer none, .int .i64 v_28.1])] hs (by kernel_rfl) fun a hs => ?_
      replace hs := hs.pick [0, 1, 2, 3, 10, 11, 12] (L' := [(0, .int .i64 x0), (1, .int .i64 x1), (2, .int .i64 x2), (3, .slice A_x3 x3.length c_x3), (10, .bool ((decide (x2 ≥ 0)) && (decide (x2 ≤ 40)))), (11, .pointer none), (12, .int .i64 v_28.1)]) (by kernel_rfl)
      refine Vk.done (by kernel_rfl) ?_
      refine hK24 _ _ ?_
      refine Vk.seq fun K42 hK42 => ?_
      refine Vk.seq fun K43 hK43 => ?_
      refine Vk.region ?_
      refine Vk.pures 3 [(38, .bool (x0 != 2)), (37, .bool (x0 != 2)), (36, .int .i64 x0)] hs (by kernel_rfl) fun a hs => ?_
      suffices hj_44 : ∀ a, St 135 a w κ [(0, .int .i64 x0), (1, .int .i64 x1), (2, .int .i64 x2), (3, .slice A_x3 x3.length c_x3), (10, .bool ((decide (x2 ≥ 0)) && (decide (x2 ≤ 40)))), (11, .pointer none), (12, .int .i64 v_28.1), (36, .int .i64 x0), (37, .bool (x0 != 2)), (38, .bool (x0 != 2)), (41, .bool ((x0 != 2) && (x0 != 3)))] (pt br8x0_11 (blk (Ttape_Tape.obj v_28.2 Ar25o0owords_29 cr25o0owords_30) 158) :: rowp Ar25o0owords_29 cr25o0owords_30 23 1 (eI .u64) v_28.2.words :: rowp Ar3x0_6 cr3x0_7 23 1 (eI .u64) v_5 :: S) → wpFrom Try.prog _ _ 6 a w by
        rcases Bool.eq_false_or_eq_true (x0 != 2) with hb | hb
        · replace hs := hs.known (t := 38) hb (by kernel_rfl)
          refine Vk.pures 3 [(41, .bool (x0 != 3)), (40, .bool (x0 != 3)), (39, .int .i64 x0)] hs (by kernel_rfl) fun a hs => ?_
          have hq := hs.pick [0, 1, 2, 3, 10, 11, 12, 36, 37, 38, 41] (L' := [(0, .int .i64 x0), (1, .int .i64 x1), (2, .int .i64 x2), (3, .slice A_x3 x3.length c_x3), (10, .bool ((decide (x2 ≥ 0)) && (decide (x2 ≤ 40)))), (11, .pointer none), (12, .int .i64 v_28.1), (36, .int .i64 x0), (37, .bool (x0 != 2)), (38, .bool true), (41, .bool (x0 != 3))]) (by kernel_rfl)
          exact hj_44 _ (hq.conv (by first | (rw [hb] <;> rfl) | rfl))
        · replace hs := hs.known (t := 38) hb (by kernel_rfl)
          refine Vk.pures 3 [(41, .bool false), (40, undef), (39, undef)] hs (by kernel_rfl) fun a hs => ?_
          have hq := hs.pick [0, 1, 2, 3, 10, 11, 12, 36, 37, 38, 41] (L' := [(0, .int .i64 x0), (1, .int .i64 x1), (2, .int .i64 x2), (3, .slice A_x3 x3.length c_x3), (10, .bool ((decide (x2 ≥ 0)) && (decide (x2 ≤ 40)))), (11, .pointer none), (12, .int .i64 v_28.1), (36, .int .i64 x0), (37, .bool (x0 != 2)), (38, .bool false), (41, .bool false)]) (by kernel_rfl)
          exact hj_44 _ (hq.conv (by first | (rw [hb] <;> rfl) | rfl))
      intro a hs
      refine Vk.pures 1 [(42, .bool ((x0 != 2) && (x0 != 3)))] hs (by kernel_rfl) fun a hs => ?_
      suffices hj_45 : ∀ a, St 135 a w κ [(0, .int .i64 x0), (1, .int .i64 x1), (2, .int .i64 x2), (3, .slice A_x3 x3.length c_x3), (10, .bool ((decide (x2 ≥ 0)) && (decide (x2 ≤ 40)))), (11, .pointer none), (12, .int .i64 v_28.1), (36, .int .i64 x0), (37, .bool (x0 != 2)), (38, .bool (x0 != 2)), (41, .bool ((x0 != 2) && (x0 != 3))), (42, .bool ((x0 != 2) && (x0 != 3))), (45, .bool (((x0 != 2) && (x0 != 3)) || (decide (x1 < 0))))] (pt br8x0_11 (blk (Ttape_Tape.obj v_28.2 Ar25o0owords_29 cr25o0owords_30) 158) :: rowp Ar25o0owords_29 cr25o0owords_30 23 1 (eI .u64) v_28.2.words :: rowp Ar3x0_6 cr3x0_7 23 1 (eI .u64) v_5 :: S) → wpFrom Try.prog _ _ 10 a w by
        rcases Bool.eq_false_or_eq_true ((x0 != 2) && (x0 != 3)) with hb | hb
        · replace hs := hs.known (t := 42) hb (by kernel_rfl)
          refine Vk.pures 3 [(45, .bool true), (44, undef), (43, undef)] hs (by kernel_rfl) fun a hs => ?_
          have hq := hs.pick [0, 1, 2, 3, 10, 11, 12, 36, 37, 38, 41, 42, 45] (L' := [(0, .int .i64 x0), (1, .int .i64 x1), (2, .int .i64 x2), (3, .slice A_x3 x3.length c_x3), (10, .bool ((decide (x2 ≥ 0)) && (decide (x2 ≤ 40)))), (11, .pointer none), (12, .int .i64 v_28.1), (36, .int .i64 x0), (37, .bool (x0 != 2)), (38, .bool (x0 != 2)), (41, .bool ((x0 != 2) && (x0 != 3))), (42, .bool true), (45, .bool true)]) (by kernel_rfl)
          exact hj_45 _ (hq.conv (by first | (rw [hb] <;> rfl) | rfl))
        · replace hs := hs.known (t := 42) hb (by kernel_rfl)
          refine Vk.pures 3 [(45, .bool (decide (x1 < 0))), (44, .bool (decide (x1 < 0))), (43, .int .i64 x1)] hs (by kernel_rfl) fun a hs => ?_
          have hq := hs.pick [0, 1, 2, 3, 10, 11, 12, 36, 37, 38, 41, 42, 45] (L' := [(0, .int .i64 x0), (1, .int .i64 x1), (2, .int .i64 x2), (3, .slice A_x3 x3.length c_x3), (10, .bool ((decide (x2 ≥ 0)) && (decide (x2 ≤ 40)))), (11, .pointer none), (12, .int .i64 v_28.1), (36, .int .i64 x0), (37, .bool (x0 != 2)), (38, .bool (x0 != 2)), (41, .bool ((x0 != 2) && (x0 != 3))), (42, .bool false), (45, .bool (decide (x1 < 0)))]) (by kernel_rfl)
          exact hj_45 _ (hq.conv (by first | (rw [hb] <;> rfl) | rfl))
      intro a hs
      refine Vk.pures 1 [(46, .bool (((x0 != 2) && (x0 != 3)) || (decide (x1 < 0))))] hs (by kernel_rfl) fun a hs => ?_
      suffices hj_46 : ∀ a, St 135 a w κ [(0, .int .i64 x0), (1, .int .i64 x1), (2, .int .i64 x2), (3, .slice A_x3 x3.length c_x3), (10, .bool ((decide (x2 ≥ 0)) && (decide (x2 ≤ 40)))), (11, .pointer none), (12, .int .i64 v_28.1), (36, .int .i64 x0), (37, .bool (x0 != 2)), (38, .bool (x0 != 2)), (41, .bool ((x0 != 2) && (x0 != 3))), (42, .bool ((x0 != 2) && (x0 != 3))), (45, .bool (((x0 != 2) && (x0 != 3)) || (decide (x1 < 0)))), (46, .bool (((x0 != 2) && (x0 != 3)) || (decide (x1 < 0)))), (49, .bool ((((x0 != 2) && (x0 != 3)) || (decide (x1 < 0))) || (decide (x1 > 1048576))))] (pt br8x0_11 (blk (Ttape_Tape.obj v_28.2 Ar25o0owords_29 cr25o0owords_30) 158) :: rowp Ar25o0owords_29 cr25o0owords_30 23 1 (eI .u64) v_28.2.words :: rowp Ar3x0_6 cr3x0_7 23 1 (eI .u64) v_5 :: S) → wpFrom Try.prog _ _ 14 a w by
        rcases Bool.eq_false_or_eq_true (((x0 != 2) && (x0 != 3)) || (decide (x1 < 0))) with hb | hb
        · replace hs := hs.known (t := 46) hb (by kernel_rfl)
          refine Vk.pures 3 [(49, .bool true), (48, undef), (47, undef)] hs (by kernel_rfl) fun a hs => ?_
          have hq := hs.pick [0, 1, 2, 3, 10, 11, 12, 36, 37, 38, 41, 42, 45, 46, 49] (L' := [(0, .int .i64 x0), (1, .int .i64 x1), (2, .int .i64 x2), (3, .slice A_x3 x3.length c_x3), (10, .bool ((decide (x2 ≥ 0)) && (decide (x2 ≤ 40)))), (11, .pointer none), (12, .int .i64 v_28.1), (36, .int .i64 x0), (37, .bool (x0 != 2)), (38, .bool (x0 != 2)), (41, .bool ((x0 != 2) && (x0 != 3))), (42, .bool ((x0 != 2) && (x0 != 3))), (45, .bool (((x0 != 2) && (x0 != 3)) || (decide (x1 < 0)))), (46, .bool true), (49, .bool true)]) (by kernel_rfl)
          exact hj_46 _ (hq.conv (by first | (rw [hb] <;> rfl) | rfl))
        · replace hs := hs.known (t := 46) hb (by kernel_rfl)
          refine Vk.pures 3 [(49, .bool (decide (x1 > 1048576))), (48, .bool (decide (x1 > 1048576))), (47, .int .i64 x1)] hs (by kernel_rfl) fun a hs => ?_
          have hq := hs.pick [0, 1, 2, 3, 10, 11, 12, 36, 37, 38, 41, 42, 45, 46, 49] (L' := [(0, .int .i64 x0), (1, .int .i64 x1), (2, .int .i64 x2), (3, .slice A_x3 x3.length c_x3), (10, .bool ((decide (x2 ≥ 0)) && (decide (x2 ≤ 40)))), (11, .pointer none), (12, .int .i64 v_28.1), (36, .int .i64 x0), (37, .bool (x0 != 2)), (38, .bool (x0 != 2)), (41, .bool ((x0 != 2) && (x0 != 3))), (42, .bool ((x0 != 2) && (x0 != 3))), (45, .bool (((x0 != 2) && (x0 != 3)) || (decide (x1 < 0)))), (46, .bool false), (49, .bool (decide (x1 > 1048576)))]) (by kernel_rfl)
          exact hj_46 _ (hq.conv (by first | (rw [hb] <;> rfl) | rfl))
      intro a hs
      replace hs := hs.pick [0, 1, 2, 3, 10, 11, 12, 49] (L' := [(0, .int .i64 x0), (1, .int .i64 x1), (2, .int .i64 x2), (3, .slice A_x3 x3.length c_x3), (10, .bool ((decide (x2 ≥ 0)) && (decide (x2 ≤ 40)))), (11, .pointer none), (12, .int .i64 v_28.1), (49, .bool ((((x0 != 2) && (x0 != 3)) || (decide (x1 < 0))) || (decide (x1 > 1048576))))]) (by kernel_rfl)
      refine Vk.done (by kernel_rfl) ?_
      refine hK43 _ _ ?_
      clear hK43
      refine Vk.condS (b := (((x0 != 2) && (x0 != 3)) || (decide (x1 < 0))) || (decide (x1 > 1048576))) hs (by kernel_rfl) (by kernel_rfl) (fun hb => ?_) (fun hb => ?_)
      · replace hm := bif_t hm hb
        refine Vk.seq fun K47 hK47 => ?_
        have hj47 : ∀ (p_52 : Bool), visorlaw19_WirePlays.j1 k p_52 = some r → ∀ (a : Act) (w : World), St 135 a w κ [(8, .bool p_52)] (S) → K47 a w := by
          intro p_52 hm a w hs
          unfold visorlaw19_WirePlays.j1 at hm
          refine hK47 _ _ ?_
          refine wp_ret ?_
          exact Vk.ret1 (P := Try.prog) (fn := Try.f14) (R := visorlaw19_WirePlays.R κ S x0 x1 x2 x3 A_x3 c_x3 r) (.bool p_52) hs rfl (by kernel_rfl) (by obtain rfl := Option.some.inj hm; exact ⟨rfl, (Own.to hs.own [] 0 (by kernel_rfl) (by kernel_rfl))⟩)
        refine Vk.region ?_
        refine Vk.pures 3 [(52, .bool (v_28.1 == 1)), (51, .bool (v_28.1 == 1)), (50, .int .i64 v_28.1)] hs (by kernel_rfl) fun a hs => ?_
        suffices hj_48 : ∀ a, St 135 a w κ [(0, .int .i64 x0), (1, .int .i64 x1), (2, .int .i64 x2), (3, .slice A_x3 x3.length c_x3), (10, .bool ((decide (x2 ≥ 0)) && (decide (x2 ≤ 40)))), (11, .pointer none), (12, .int .i64 v_28.1), (49, .bool ((((x0 != 2) && (x0 != 3)) || (decide (x1 < 0))) || (decide (x1 > 1048576)))), (50, .int .i64 v_28.1), (51, .bool (v_28.1 == 1)), (52, .bool (v_28.1 == 1)), (55, .bool (v_28.1 == 1))] (pt br8x0_11 (blk (Ttape_Tape.obj v_28.2 Ar25o0owords_29 cr25o0owords_30) 158) :: rowp Ar25o0owords_29 cr25o0owords_30 23 1 (eI .u64) v_28.2.words :: rowp Ar3x0_6 cr3x0_7 23 1 (eI .u64) v_5 :: S) → wpFrom Try.prog _ _ 6 a w by
          rcases Bool.eq_false_or_eq_true (v_28.1 == 1) with hb | hb
          · replace hs := hs.known (t := 52) hb (by kernel_rfl)
            refine Vk.pures 3 [(55, .bool true), (54, .bool true), (53, .pointer none)] hs (by kernel_rfl) fun a hs => ?_
            have hq := hs.pick [0, 1, 2, 3, 10, 11, 12, 49, 50, 51, 52, 55] (L' := [(0, .int .i64 x0), (1, .int .i64 x1), (2, .int .i64 x2), (3, .slice A_x3 x3.length c_x3), (10, .bool ((decide (x2 ≥ 0)) && (decide (x2 ≤ 40)))), (11, .pointer none), (12, .int .i64 v_28.1), (49, .bool ((((x0 != 2) && (x0 != 3)) || (decide (x1 < 0))) || (decide (x1 > 1048576)))), (50, .int .i64 v_28.1), (51, .bool (v_28.1 == 1)), (52, .bool true), (55, .bool true)]) (by kernel_rfl)
            exact hj_48 _ (hq.conv (by first | (rw [hb] <;> rfl) | rfl))
          · replace hs := hs.known (t := 52) hb (by kernel_rfl)
            refine Vk.pures 3 [(55, .bool false), (54, undef), (53, undef)] hs (by kernel_rfl) fun a hs => ?_
            have hq := hs.pick [0, 1, 2, 3, 10, 11, 12, 49, 50, 51, 52, 55] (L' := [(0, .int .i64 x0), (1, .int .i64 x1), (2, .int .i64 x2), (3, .slice A_x3 x3.length c_x3), (10, .bool ((decide (x2 ≥ 0)) && (decide (x2 ≤ 40)))), (11, .pointer none), (12, .int .i64 v_28.1), (49, .bool ((((x0 != 2) && (x0 != 3)) || (decide (x1 < 0))) || (decide (x1 > 1048576)))), (50, .int .i64 v_28.1), (51, .bool (v_28.1 == 1)), (52, .bool false), (55, .bool false)]) (by kernel_rfl)
            exact hj_48 _ (hq.conv (by first | (rw [hb] <;> rfl) | rfl))
        intro a hs
        refine Vk.pures 1 [(56, .bool (v_28.1 == 1))] hs (by kernel_rfl) fun a hs => ?_
        rcases Bool.eq_false_or_eq_true (v_28.1 == 1) with hb | hb
        · replace hm := bif_t hm hb
          replace hs := hs.known (t := 56) hb (by kernel_rfl)
          obtain ⟨v_51, h_50, hm⟩ := bind_t hm
          refine Vk.step (Vk.call (some 57) 66 #[] hs (by kernel_rfl) (by kernel_rfl) (by kernel_rfl) ?_)
          refine (visorlaw19_awake.ok k v_51 h_50 κ w (pt br8x0_11 (blk (Ttape_Tape.obj v_28.2 Ar25o0owords_29 cr25o0owords_30) 158) :: rowp Ar25o0owords_29 cr25o0owords_30 23 1 (eI .u64) v_28.2.words :: rowp Ar3x0_6 cr3x0_7 23 1 (eI .u64) v_5 :: S) hs.own).mono ?_
          rintro _ w ⟨rfl, how⟩
          refine ⟨_, _, _, rfl, how, fun a hs => ?_⟩
          refine Vk.pures 2 [(8, .bool v_51), (58, .bool v_51)] hs (by kernel_rfl) fun a hs => ?_
          replace hs := hs.pick [8] (L' := [(8, .bool v_51)]) (by kernel_rfl)
          refine Vk.done (by kernel_rfl) ?_
          exact hj47 v_51 hm _ _ (hs.go [8] [] 3 (by kernel_rfl) (by kernel_rfl) (by kernel_rfl))
        · replace hm := bif_f hm hb
          replace hs := hs.known (t := 56) hb (by kernel_rfl)
          refine Vk.pures 3 [(8, .bool false), (58, .bool false), (57, undef)] hs (by kernel_rfl) fun a hs => ?_
          replace hs := hs.pick [8] (L' := [(8, .bool false)]) (by kernel_rfl)
          refine Vk.done (by kernel_rfl) ?_
          exact hj47 false hm _ _ (hs.go [8] [] 3 (by kernel_rfl) (by kernel_rfl) (by kernel_rfl))
      · replace hm := bif_f hm hb
        refine wp_skip ?_
        refine hK42 _ _ ?_
        clear hK42
        refine Vk.seq fun K53 hK53 => ?_
        refine Vk.seq fun K54 hK54 => ?_
        refine Vk.region ?_
        refine Vk.pures 3 [(61, .bool (v_28.1 != 0)), (60, .bool (v_28.1 != 0)), (59, .int .i64 v_28.1)] hs (by kernel_rfl) fun a hs => ?_
        suffices hj_55 : ∀ a, St 135 a w κ [(0, .int .i64 x0), (1, .int .i64 x1), (2, .int .i64 x2), (3, .slice A_x3 x3.length c_x3), (10, .bool ((decide (x2 ≥ 0)) && (decide (x2 ≤ 40)))), (11, .pointer none), (12, .int .i64 v_28.1), (49, .bool ((((x0 != 2) && (x0 != 3)) || (decide (x1 < 0))) || (decide (x1 > 1048576)))), (59, .int .i64 v_28.1), (60, .bool (v_28.1 != 0)), (61, .bool (v_28.1 != 0)), (64, .bool true)] (pt br8x0_11 (blk (Ttape_Tape.obj v_28.2 Ar25o0owords_29 cr25o0owords_30) 158) :: rowp Ar25o0owords_29 cr25o0owords_30 23 1 (eI .u64) v_28.2.words :: rowp Ar3x0_6 cr3x0_7 23 1 (eI .u64) v_5 :: S) → wpFrom Try.prog _ _ 6 a w by
          rcases Bool.eq_false_or_eq_true (v_28.1 != 0) with hb | hb
          · replace hs := hs.known (t := 61) hb (by kernel_rfl)
            refine Vk.pures 3 [(64, .bool true), (63, undef), (62, undef)] hs (by kernel_rfl) fun a hs => ?_
            have hq := hs.pick [0, 1, 2, 3, 10, 11, 12, 49, 59, 60, 61, 64] (L' := [(0, .int .i64 x0), (1, .int .i64 x1), (2, .int .i64 x2), (3, .slice A_x3 x3.length c_x3), (10, .bool ((decide (x2 ≥ 0)) && (decide (x2 ≤ 40)))), (11, .pointer none), (12, .int .i64 v_28.1), (49, .bool ((((x0 != 2) && (x0 != 3)) || (decide (x1 < 0))) || (decide (x1 > 1048576)))), (59, .int .i64 v_28.1), (60, .bool (v_28.1 != 0)), (61, .bool true), (64, .bool true)]) (by kernel_rfl)
            exact hj_55 _ (hq.conv (by first | (rw [hb] <;> rfl) | rfl))
          · replace hs := hs.known (t := 61) hb (by kernel_rfl)
            refine Vk.pures 3 [(64, .bool true), (63, .bool true), (62, .pointer none)] hs (by kernel_rfl) fun a hs => ?_
            have hq := hs.pick [0, 1, 2, 3, 10, 11, 12, 49, 59, 60, 61, 64] (L' := [(0, .int .i64 x0), (1, .int .i64 x1), (2, .int .i64 x2), (3, .slice A_x3 x3.length c_x3), (10, .bool ((decide (x2 ≥ 0)) && (decide (x2 ≤ 40)))), (11, .pointer none), (12, .int .i64 v_28.1), (49, .bool ((((x0 != 2) && (x0 != 3)) || (decide (x1 < 0))) || (decide (x1 > 1048576)))), (59, .int .i64 v_28.1), (60, .bool (v_28.1 != 0)), (61, .bool false), (64, .bool true)]) (by kernel_rfl)
            exact hj_55 _ (hq.conv (by first | (rw [hb] <;> rfl) | rfl))
        intro a hs
        replace hs := hs.pick [0, 1, 2, 3, 10, 11, 64] (L' := [(0, .int .i64 x0), (1, .int .i64 x1), (2, .int .i64 x2), (3, .slice A_x3 x3.length c_x3), (10, .bool ((decide (x2 ≥ 0)) && (decide (x2 ≤ 40)))), (11, .pointer none), (64, .bool true)]) (by kernel_rfl)
        refine Vk.done (by kernel_rfl) ?_
        refine hK54 _ _ ?_
        clear hK54
        refine Vk.condT hs (by kernel_rfl) (by kernel_rfl) ?_
        refine Vk.seq fun K56 hK56 => ?_
        refine Vk.region ?_
        refine Vk.pures 1 [(8, .bool false)] hs (by kernel_rfl) fun a hs => ?_
        replace hs := hs.pick [8] (L' := [(8, .bool false)]) (by kernel_rfl)
        refine Vk.done (by kernel_rfl) ?_
        refine hK56 _ _ ?_
        clear hK56
        refine wp_ret ?_
        exact Vk.ret1 (P := Try.prog) (fn := Try.f14) (R := visorlaw19_WirePlays.R κ S x0 x1 x2 x3 A_x3 c_x3 r) (.bool false) hs rfl (by kernel_rfl) (by obtain rfl := Option.some.inj hm; exact ⟨rfl, (Own.to hs.own [] 3 (by kernel_rfl) (by kernel_rfl))⟩)
    · dsimp only at hm
      refine ⟨_, _, _, rfl, how, fun a hs => ?_⟩
      refine Vk.pures 5 [(12, .int .i64 v_31.2), (11, .pointer (some ⟨br25x0_32, 0, none⟩)), (35, .int .i64 v_31.2), (34, .pointer (some ⟨br25x0_32, 0, none⟩)), (29, .tuple #[.pointer (some ⟨br25x0_32, 0, none⟩), .int .i64 v_31.2])] hs (by kernel_rfl) fun a hs => ?_
      replace hs := hs.pick [0, 1, 2, 3, 10, 11, 12] (L' := [(0, .int .i64 x0), (1, .int .i64 x1), (2, .int .i64 x2), (3, .slice A_x3 x3.length c_x3), (10, .bool ((decide (x2 ≥ 0)) && (decide (x2 ≤ 40)))), (11, .pointer (some ⟨br25x0_32, 0, none⟩)), (12, .int .i64 v_31.2)]) (by kernel_rfl)
      refine Vk.done (by kernel_rfl) ?_
      refine hK24 _ _ ?_
      refine Vk.seq fun K57 hK57 => ?_
      refine Vk.seq fun K58 hK58 => ?_
      refine Vk.region ?_
      refine Vk.pures 3 [(38, .bool (x0 != 2)), (37, .bool (x0 != 2)), (36, .int .i64 x0)] hs (by kernel_rfl) fun a hs => ?_
      suffices hj_59 : ∀ a, St 135 a w κ [(0, .int .i64 x0), (1, .int .i64 x1), (2, .int .i64 x2), (3, .slice A_x3 x3.length c_x3), (10, .bool ((decide (x2 ≥ 0)) && (decide (x2 ≤ 40)))), (11, .pointer (some ⟨br25x0_32, 0, none⟩)), (12, .int .i64 v_31.2), (36, .int .i64 x0), (37, .bool (x0 != 2)), (38, .bool (x0 != 2)), (41, .bool ((x0 != 2) && (x0 != 3)))] (pt br25x0_32 (blk (Twire_Machine.obj v_31.1 br25x0otape_33 Ar25x0oops_36 cr25x0oops_37 Ar25x0ovalues_38 cr25x0ovalues_39 Ar25x0oblocks_40 cr25x0oblocks_41) 151) :: pto v_31.1.dry br25x0otape_33 (blk (Ttape_Tape.obj v_31.1.tape Ar25x0otapeowords_34 cr25x0otapeowords_35) 158) :: rowp Ar25x0otapeowords_34 cr25x0otapeowords_35 23 1 (eI .u64) v_31.1.tape.words :: rowp Ar25x0oops_36 cr25x0oops_37 32 6 Tapi_Op.cells v_31.1.ops :: rowp Ar25x0ovalues_38 cr25x0ovalues_39 23 1 (eI .u64) v_31.1.values :: rowp Ar25x0oblocks_40 cr25x0oblocks_41 144 3 Tapi_Span.cells v_31.1.blocks :: rowp Ar3x0_6 cr3x0_7 23 1 (eI .u64) v_5 :: S) → wpFrom Try.prog _ _ 6 a w by
        rcases Bool.eq_false_or_eq_true (x0 != 2) with hb | hb
        · replace hs := hs.known (t := 38) hb (by kernel_rfl)
          refine Vk.pures 3 [(41, .bool (x0 != 3)), (40, .bool (x0 != 3)), (39, .int .i64 x0)] hs (by kernel_rfl) fun a hs => ?_
          have hq := hs.pick [0, 1, 2, 3, 10, 11, 12, 36, 37, 38, 41] (L' := [(0, .int .i64 x0), (1, .int .i64 x1), (2, .int .i64 x2), (3, .slice A_x3 x3.length c_x3), (10, .bool ((decide (x2 ≥ 0)) && (decide (x2 ≤ 40)))), (11, .pointer (some ⟨br25x0_32, 0, none⟩)), (12, .int .i64 v_31.2), (36, .int .i64 x0), (37, .bool (x0 != 2)), (38, .bool true), (41, .bool (x0 != 3))]) (by kernel_rfl)
          exact hj_59 _ (hq.conv (by first | (rw [hb] <;> rfl) | rfl))
        · replace hs := hs.known (t := 38) hb (by kernel_rfl)
          refine Vk.pures 3 [(41, .bool false), (40, undef), (39, undef)] hs (by kernel_rfl) fun a hs => ?_
          have hq := hs.pick [0, 1, 2, 3, 10, 11, 12, 36, 37, 38, 41] (L' := [(0, .int .i64 x0), (1, .int .i64 x1), (2, .int .i64 x2), (3, .slice A_x3 x3.length c_x3), (10, .bool ((decide (x2 ≥ 0)) && (decide (x2 ≤ 40)))), (11, .pointer (some ⟨br25x0_32, 0, none⟩)), (12, .int .i64 v_31.2), (36, .int .i64 x0), (37, .bool (x0 != 2)), (38, .bool false), (41, .bool false)]) (by kernel_rfl)
          exact hj_59 _ (hq.conv (by first | (rw [hb] <;> rfl) | rfl))
      intro a hs
      refine Vk.pures 1 [(42, .bool ((x0 != 2) && (x0 != 3)))] hs (by kernel_rfl) fun a hs => ?_
      suffices hj_60 : ∀ a, St 135 a w κ [(0, .int .i64 x0), (1, .int .i64 x1), (2, .int .i64 x2), (3, .slice A_x3 x3.length c_x3), (10, .bool ((decide (x2 ≥ 0)) && (decide (x2 ≤ 40)))), (11, .pointer (some ⟨br25x0_32, 0, none⟩)), (12, .int .i64 v_31.2), (36, .int .i64 x0), (37, .bool (x0 != 2)), (38, .bool (x0 != 2)), (41, .bool ((x0 != 2) && (x0 != 3))), (42, .bool ((x0 != 2) && (x0 != 3))), (45, .bool (((x0 != 2) && (x0 != 3)) || (decide (x1 < 0))))] (pt br25x0_32 (blk (Twire_Machine.obj v_31.1 br25x0otape_33 Ar25x0oops_36 cr25x0oops_37 Ar25x0ovalues_38 cr25x0ovalues_39 Ar25x0oblocks_40 cr25x0oblocks_41) 151) :: pto v_31.1.dry br25x0otape_33 (blk (Ttape_Tape.obj v_31.1.tape Ar25x0otapeowords_34 cr25x0otapeowords_35) 158) :: rowp Ar25x0otapeowords_34 cr25x0otapeowords_35 23 1 (eI .u64) v_31.1.tape.words :: rowp Ar25x0oops_36 cr25x0oops_37 32 6 Tapi_Op.cells v_31.1.ops :: rowp Ar25x0ovalues_38 cr25x0ovalues_39 23 1 (eI .u64) v_31.1.values :: rowp Ar25x0oblocks_40 cr25x0oblocks_41 144 3 Tapi_Span.cells v_31.1.blocks :: rowp Ar3x0_6 cr3x0_7 23 1 (eI .u64) v_5 :: S) → wpFrom Try.prog _ _ 10 a w by
        rcases Bool.eq_false_or_eq_true ((x0 != 2) && (x0 != 3)) with hb | hb
        · replace hs := hs.known (t := 42) hb (by kernel_rfl)
          refine Vk.pures 3 [(45, .bool true), (44, undef), (43, undef)] hs (by kernel_rfl) fun a hs => ?_
          have hq := hs.pick [0, 1, 2, 3, 10, 11, 12, 36, 37, 38, 41, 42, 45] (L' := [(0, .int .i64 x0), (1, .int .i64 x1), (2, .int .i64 x2), (3, .slice A_x3 x3.length c_x3), (10, .bool ((decide (x2 ≥ 0)) && (decide (x2 ≤ 40)))), (11, .pointer (some ⟨br25x0_32, 0, none⟩)), (12, .int .i64 v_31.2), (36, .int .i64 x0), (37, .bool (x0 != 2)), (38, .bool (x0 != 2)), (41, .bool ((x0 != 2) && (x0 != 3))), (42, .bool true), (45, .bool true)]) (by kernel_rfl)
          exact hj_60 _ (hq.conv (by first | (rw [hb] <;> rfl) | rfl))
        · replace hs := hs.known (t := 42) hb (by kernel_rfl)
          refine Vk.pures 3 [(45, .bool (decide (x1 < 0))), (44, .bool (decide (x1 < 0))), (43, .int .i64 x1)] hs (by kernel_rfl) fun a hs => ?_
          have hq := hs.pick [0, 1, 2, 3, 10, 11, 12, 36, 37, 38, 41, 42, 45] (L' := [(0, .int .i64 x0), (1, .int .i64 x1), (2, .int .i64 x2), (3, .slice A_x3 x3.length c_x3), (10, .bool ((decide (x2 ≥ 0)) && (decide (x2 ≤ 40)))), (11, .pointer (some ⟨br25x0_32, 0, none⟩)), (12, .int .i64 v_31.2), (36, .int .i64 x0), (37, .bool (x0 != 2)), (38, .bool (x0 != 2)), (41, .bool ((x0 != 2) && (x0 != 3))), (42, .bool false), (45, .bool (decide (x1 < 0)))]) (by kernel_rfl)
          exact hj_60 _ (hq.conv (by first | (rw [hb] <;> rfl) | rfl))
      intro a hs
      refine Vk.pures 1 [(46, .bool (((x0 != 2) && (x0 != 3)) || (decide (x1 < 0))))] hs (by kernel_rfl) fun a hs => ?_
      suffices hj_61 : ∀ a, St 135 a w κ [(0, .int .i64 x0), (1, .int .i64 x1), (2, .int .i64 x2), (3, .slice A_x3 x3.length c_x3), (10, .bool ((decide (x2 ≥ 0)) && (decide (x2 ≤ 40)))), (11, .pointer (some ⟨br25x0_32, 0, none⟩)), (12, .int .i64 v_31.2), (36, .int .i64 x0), (37, .bool (x0 != 2)), (38, .bool (x0 != 2)), (41, .bool ((x0 != 2) && (x0 != 3))), (42, .bool ((x0 != 2) && (x0 != 3))), (45, .bool (((x0 != 2) && (x0 != 3)) || (decide (x1 < 0)))), (46, .bool (((x0 != 2) && (x0 != 3)) || (decide (x1 < 0)))), (49, .bool ((((x0 != 2) && (x0 != 3)) || (decide (x1 < 0))) || (decide (x1 > 1048576))))] (pt br25x0_32 (blk (Twire_Machine.obj v_31.1 br25x0otape_33 Ar25x0oops_36 cr25x0oops_37 Ar25x0ovalues_38 cr25x0ovalues_39 Ar25x0oblocks_40 cr25x0oblocks_41) 151) :: pto v_31.1.dry br25x0otape_33 (blk (Ttape_Tape.obj v_31.1.tape Ar25x0otapeowords_34 cr25x0otapeowords_35) 158) :: rowp Ar25x0otapeowords_34 cr25x0otapeowords_35 23 1 (eI .u64) v_31.1.tape.words :: rowp Ar25x0oops_36 cr25x0oops_37 32 6 Tapi_Op.cells v_31.1.ops :: rowp Ar25x0ovalues_38 cr25x0ovalues_39 23 1 (eI .u64) v_31.1.values :: rowp Ar25x0oblocks_40 cr25x0oblocks_41 144 3 Tapi_Span.cells v_31.1.blocks :: rowp Ar3x0_6 cr3x0_7 23 1 (eI .u64) v_5 :: S) → wpFrom Try.prog _ _ 14 a w by
        rcases Bool.eq_false_or_eq_true (((x0 != 2) && (x0 != 3)) || (decide (x1 < 0))) with hb | hb
        · replace hs := hs.known (t := 46) hb (by kernel_rfl)
          refine Vk.pures 3 [(49, .bool true), (48, undef), (47, undef)] hs (by kernel_rfl) fun a hs => ?_
          have hq := hs.pick [0, 1, 2, 3, 10, 11, 12, 36, 37, 38, 41, 42, 45, 46, 49] (L' := [(0, .int .i64 x0), (1, .int .i64 x1), (2, .int .i64 x2), (3, .slice A_x3 x3.length c_x3), (10, .bool ((decide (x2 ≥ 0)) && (decide (x2 ≤ 40)))), (11, .pointer (some ⟨br25x0_32, 0, none⟩)), (12, .int .i64 v_31.2), (36, .int .i64 x0), (37, .bool (x0 != 2)), (38, .bool (x0 != 2)), (41, .bool ((x0 != 2) && (x0 != 3))), (42, .bool ((x0 != 2) && (x0 != 3))), (45, .bool (((x0 != 2) && (x0 != 3)) || (decide (x1 < 0)))), (46, .bool true), (49, .bool true)]) (by kernel_rfl)
          exact hj_61 _ (hq.conv (by first | (rw [hb] <;> rfl) | rfl))
        · replace hs := hs.known (t := 46) hb (by kernel_rfl)
          refine Vk.pures 3 [(49, .bool (decide (x1 > 1048576))), (48, .bool (decide (x1 > 1048576))), (47, .int .i64 x1)] hs (by kernel_rfl) fun a hs => ?_
          have hq := hs.pick [0, 1, 2, 3, 10, 11, 12, 36, 37, 38, 41, 42, 45, 46, 49] (L' := [(0, .int .i64 x0), (1, .int .i64 x1), (2, .int .i64 x2), (3, .slice A_x3 x3.length c_x3), (10, .bool ((decide (x2 ≥ 0)) && (decide (x2 ≤ 40)))), (11, .pointer (some ⟨br25x0_32, 0, none⟩)), (12, .int .i64 v_31.2), (36, .int .i64 x0), (37, .bool (x0 != 2)), (38, .bool (x0 != 2)), (41, .bool ((x0 != 2) && (x0 != 3))), (42, .bool ((x0 != 2) && (x0 != 3))), (45, .bool (((x0 != 2) && (x0 != 3)) || (decide (x1 < 0)))), (46, .bool false), (49, .bool (decide (x1 > 1048576)))]) (by kernel_rfl)
          exact hj_61 _ (hq.conv (by first | (rw [hb] <;> rfl) | rfl))
      intro a hs
      replace hs := hs.pick [0, 1, 2, 3, 10, 11, 12, 49] (L' := [(0, .int .i64 x0), (1, .int .i64 x1), (2, .int .i64 x2), (3, .slice A_x3 x3.length c_x3), (10, .bool ((decide (x2 ≥ 0)) && (decide (x2 ≤ 40)))), (11, .pointer (some ⟨br25x0_32, 0, none⟩)), (12, .int .i64 v_31.2), (49, .bool ((((x0 != 2) && (x0 != 3)) || (decide (x1 < 0))) || (decide (x1 > 1048576))))]) (by kernel_rfl)
      refine Vk.done (by kernel_rfl) ?_
      refine hK58 _ _ ?_
      clear hK58
      refine Vk.condS (b := (((x0 != 2) && (x0 != 3)) || (decide (x1 < 0))) || (decide (x1 > 1048576))) hs (by kernel_rfl) (by kernel_rfl) (fun hb => ?_) (fun hb => ?_)
      · replace hm := bif_t hm hb
        refine Vk.seq fun K62 hK62 => ?_
        refine Vk.region ?_
        refine Vk.pures 3 [(52, .bool (v_31.2 == 1)), (51, .bool (v_31.2 == 1)), (50, .int .i64 v_31.2)] hs (by kernel_rfl) fun a hs => ?_
        suffices hj_63 : ∀ a, St 135 a w κ [(0, .int .i64 x0), (1, .int .i64 x1), (2, .int .i64 x2), (3, .slice A_x3 x3.length c_x3), (10, .bool ((decide (x2 ≥ 0)) && (decide (x2 ≤ 40)))), (11, .pointer (some ⟨br25x0_32, 0, none⟩)), (12, .int .i64 v_31.2), (49, .bool ((((x0 != 2) && (x0 != 3)) || (decide (x1 < 0))) || (decide (x1 > 1048576)))), (50, .int .i64 v_31.2), (51, .bool (v_31.2 == 1)), (52, .bool (v_31.2 == 1)), (55, .bool false)] (pt br25x0_32 (blk (Twire_Machine.obj v_31.1 br25x0otape_33 Ar25x0oops_36 cr25x0oops_37 Ar25x0ovalues_38 cr25x0ovalues_39 Ar25x0oblocks_40 cr25x0oblocks_41) 151) :: pto v_31.1.dry br25x0otape_33 (blk (Ttape_Tape.obj v_31.1.tape Ar25x0otapeowords_34 cr25x0otapeowords_35) 158) :: rowp Ar25x0otapeowords_34 cr25x0otapeowords_35 23 1 (eI .u64) v_31.1.tape.words :: rowp Ar25x0oops_36 cr25x0oops_37 32 6 Tapi_Op.cells v_31.1.ops :: rowp Ar25x0ovalues_38 cr25x0ovalues_39 23 1 (eI .u64) v_31.1.values :: rowp Ar25x0oblocks_40 cr25x0oblocks_41 144 3 Tapi_Span.cells v_31.1.blocks :: rowp Ar3x0_6 cr3x0_7 23 1 (eI .u64) v_5 :: S) → wpFrom Try.prog _ _ 6 a w by
          rcases Bool.eq_false_or_eq_true (v_31.2 == 1) with hb | hb
          · replace hs := hs.known (t := 52) hb (by kernel_rfl)
            refine Vk.pures 3 [(55, .bool false), (54, .bool false), (53, .pointer (some ⟨br25x0_32, 0, none⟩))] hs (by kernel_rfl) fun a hs => ?_
            have hq := hs.pick [0, 1, 2, 3, 10, 11, 12, 49, 50, 51, 52, 55] (L' := [(0, .int .i64 x0), (1, .int .i64 x1), (2, .int .i64 x2), (3, .slice A_x3 x3.length c_x3), (10, .bool ((decide (x2 ≥ 0)) && (decide (x2 ≤ 40)))), (11, .pointer (some ⟨br25x0_32, 0, none⟩)), (12, .int .i64 v_31.2), (49, .bool ((((x0 != 2) && (x0 != 3)) || (decide (x1 < 0))) || (decide (x1 > 1048576)))), (50, .int .i64 v_31.2), (51, .bool (v_31.2 == 1)), (52, .bool true), (55, .bool false)]) (by kernel_rfl)
            exact hj_63 _ (hq.conv (by first | (rw [hb] <;> rfl) | rfl))
          · replace hs := hs.known (t := 52) hb (by kernel_rfl)
            refine Vk.pures 3 [(55, .bool false), (54, undef), (53, undef)] hs (by kernel_rfl) fun a hs => ?_
            have hq := hs.pick [0, 1, 2, 3, 10, 11, 12, 49, 50, 51, 52, 55] (L' := [(0, .int .i64 x0), (1, .int .i64 x1), (2, .int .i64 x2), (3, .slice A_x3 x3.length c_x3), (10, .bool ((decide (x2 ≥ 0)) && (decide (x2 ≤ 40)))), (11, .pointer (some ⟨br25x0_32, 0, none⟩)), (12, .int .i64 v_31.2), (49, .bool ((((x0 != 2) && (x0 != 3)) || (decide (x1 < 0))) || (decide (x1 > 1048576)))), (50, .int .i64 v_31.2), (51, .bool (v_31.2 == 1)), (52, .bool false), (55, .bool false)]) (by kernel_rfl)
            exact hj_63 _ (hq.conv (by first | (rw [hb] <;> rfl) | rfl))
        intro a hs
        refine Vk.pures 4 [(8, .bool false), (58, .bool false), (57, undef), (56, .bool false)] hs (by kernel_rfl) fun a hs => ?_
        replace hs := hs.pick [8] (L' := [(8, .bool false)]) (by kernel_rfl)
        refine Vk.done (by kernel_rfl) ?_
        refine hK62 _ _ ?_
        clear hK62
        refine wp_ret ?_
        exact Vk.ret1 (P := Try.prog) (fn := Try.f14) (R := visorlaw19_WirePlays.R κ S x0 x1 x2 x3 A_x3 c_x3 r) (.bool false) hs rfl (by kernel_rfl) (by obtain rfl := Option.some.inj hm; exact ⟨rfl, (Own.to hs.own [] 7 (by kernel_rfl) (by kernel_rfl))⟩)
      · replace hm := bif_f hm hb
        refine wp_skip ?_
        refine hK57 _ _ ?_
        clear hK57
        refine Vk.seq fun K64 hK64 => ?_
        refine Vk.seq fun K65 hK65 => ?_
        refine Vk.region ?_
        refine Vk.pures 3 [(61, .bool (v_31.2 != 0)), (60, .bool (v_31.2 != 0)), (59, .int .i64 v_31.2)] hs (by kernel_rfl) fun a hs => ?_
        suffices hj_66 : ∀ a, St 135 a w κ [(0, .int .i64 x0), (1, .int .i64 x1), (2, .int .i64 x2), (3, .slice A_x3 x3.length c_x3), (10, .bool ((decide (x2 ≥ 0)) && (decide (x2 ≤ 40)))), (11, .pointer (some ⟨br25x0_32, 0, none⟩)), (12, .int .i64 v_31.2), (49, .bool ((((x0 != 2) && (x0 != 3)) || (decide (x1 < 0))) || (decide (x1 > 1048576)))), (59, .int .i64 v_31.2), (60, .bool (v_31.2 != 0)), (61, .bool (v_31.2 != 0)), (64, .bool (v_31.2 != 0))] (pt br25x0_32 (blk (Twire_Machine.obj v_31.1 br25x0otape_33 Ar25x0oops_36 cr25x0oops_37 Ar25x0ovalues_38 cr25x0ovalues_39 Ar25x0oblocks_40 cr25x0oblocks_41) 151) :: pto v_31.1.dry br25x0otape_33 (blk (Ttape_Tape.obj v_31.1.tape Ar25x0otapeowords_34 cr25x0otapeowords_35) 158) :: rowp Ar25x0otapeowords_34 cr25x0otapeowords_35 23 1 (eI .u64) v_31.1.tape.words :: rowp Ar25x0oops_36 cr25x0oops_37 32 6 Tapi_Op.cells v_31.1.ops :: rowp Ar25x0ovalues_38 cr25x0ovalues_39 23 1 (eI .u64) v_31.1.values :: rowp Ar25x0oblocks_40 cr25x0oblocks_41 144 3 Tapi_Span.cells v_31.1.blocks :: rowp Ar3x0_6 cr3x0_7 23 1 (eI .u64) v_5 :: S) → wpFrom Try.prog _ _ 6 a w by
          rcases Bool.eq_false_or_eq_true (v_31.2 != 0) with hb | hb
          · replace hs := hs.known (t := 61) hb (by kernel_rfl)
            refine Vk.pures 3 [(64, .bool true), (63, undef), (62, undef)] hs (by kernel_rfl) fun a hs => ?_
            have hq := hs.pick [0, 1, 2, 3, 10, 11, 12, 49, 59, 60, 61, 64] (L' := [(0, .int .i64 x0), (1, .int .i64 x1), (2, .int .i64 x2), (3, .slice A_x3 x3.length c_x3), (10, .bool ((decide (x2 ≥ 0)) && (decide (x2 ≤ 40)))), (11, .pointer (some ⟨br25x0_32, 0, none⟩)), (12, .int .i64 v_31.2), (49, .bool ((((x0 != 2) && (x0 != 3)) || (decide (x1 < 0))) || (decide (x1 > 1048576)))), (59, .int .i64 v_31.2), (60, .bool (v_31.2 != 0)), (61, .bool true), (64, .bool true)]) (by kernel_rfl)
            exact hj_66 _ (hq.conv (by first | (rw [hb] <;> rfl) | rfl))
          · replace hs := hs.known (t := 61) hb (by kernel_rfl)
            refine Vk.pures 3 [(64, .bool false), (63, .bool false), (62, .pointer (some ⟨br25x0_32, 0, none⟩))] hs (by kernel_rfl) fun a hs => ?_
            have hq := hs.pick [0, 1, 2, 3, 10, 11, 12, 49, 59, 60, 61, 64] (L' := [(0, .int .i64 x0), (1, .int .i64 x1), (2, .int .i64 x2), (3, .slice A_x3 x3.length c_x3), (10, .bool ((decide (x2 ≥ 0)) && (decide (x2 ≤ 40)))), (11, .pointer (some ⟨br25x0_32, 0, none⟩)), (12, .int .i64 v_31.2), (49, .bool ((((x0 != 2) && (x0 != 3)) || (decide (x1 < 0))) || (decide (x1 > 1048576)))), (59, .int .i64 v_31.2), (60, .bool (v_31.2 != 0)), (61, .bool false), (64, .bool false)]) (by kernel_rfl)
            exact hj_66 _ (hq.conv (by first | (rw [hb] <;> rfl) | rfl))
        intro a hs
        replace hs := hs.pick [0, 1, 2, 3, 10, 11, 64] (L' := [(0, .int .i64 x0), (1, .int .i64 x1), (2, .int .i64 x2), (3, .slice A_x3 x3.length c_x3), (10, .bool ((decide (x2 ≥ 0)) && (decide (x2 ≤ 40)))), (11, .pointer (some ⟨br25x0_32, 0, none⟩)), (64, .bool (v_31.2 != 0))]) (by kernel_rfl)
        refine Vk.done (by kernel_rfl) ?_
        refine hK65 _ _ ?_
        clear hK65
        refine Vk.condS (b := v_31.2 != 0) hs (by kernel_rfl) (by kernel_rfl) (fun hb => ?_) (fun hb => ?_)
        · replace hm := bif_t hm hb
          refine Vk.seq fun K67 hK67 => ?_
          refine Vk.region ?_
          refine Vk.pures 1 [(8, .bool false)] hs (by kernel_rfl) fun a hs => ?_
          replace hs := hs.pick [8] (L' := [(8, .bool false)]) (by kernel_rfl)
          refine Vk.done (by kernel_rfl) ?_
          refine hK67 _ _ ?_
          clear hK67
          refine wp_ret ?_
          exact Vk.ret1 (P := Try.prog) (fn := Try.f14) (R := visorlaw19_WirePlays.R κ S x0 x1 x2 x3 A_x3 c_x3 r) (.bool false) hs rfl (by kernel_rfl) (by obtain rfl := Option.some.inj hm; exact ⟨rfl, (Own.to hs.own [] 7 (by kernel_rfl) (by kernel_rfl))⟩)
        · replace hm := bif_f hm hb
          refine wp_skip ?_
          refine hK64 _ _ ?_
          clear hK64
          refine Vk.seq fun K68 hK68 => ?_
          refine Vk.region ?_
          refine Vk.pures 1 [(65, .int .i64 x0)] hs (by kernel_rfl) fun a hs => ?_
          obtain ⟨v_71, h_70, hm⟩ := bind_t hm
          refine Vk.step (Vk.call (some 66) 55 #[.int .i64 40] hs (by kernel_rfl) (by kernel_rfl) (by kernel_rfl) ?_)
          refine (visorlaw19_tapeWords.ok k 40 v_71 h_70 κ w (pt br25x0_32 (blk (Twire_Machine.obj v_31.1 br25x0otape_33 Ar25x0oops_36 cr25x0oops_37 Ar25x0ovalues_38 cr25x0ovalues_39 Ar25x0oblocks_40 cr25x0oblocks_41) 151) :: pto v_31.1.dry br25x0otape_33 (blk (Ttape_Tape.obj v_31.1.tape Ar25x0otapeowords_34 cr25x0otapeowords_35) 158) :: rowp Ar25x0otapeowords_34 cr25x0otapeowords_35 23 1 (eI .u64) v_31.1.tape.words :: rowp Ar25x0oops_36 cr25x0oops_37 32 6 Tapi_Op.cells v_31.1.ops :: rowp Ar25x0ovalues_38 cr25x0ovalues_39 23 1 (eI .u64) v_31.1.values :: rowp Ar25x0oblocks_40 cr25x0oblocks_41 144 3 Tapi_Span.cells v_31.1.blocks :: rowp Ar3x0_6 cr3x0_7 23 1 (eI .u64) v_5 :: S) hs.own).mono ?_
          rintro _ w ⟨Ar69x0_72, cr69x0_73, rfl, how⟩
          refine ⟨_, _, _, rfl, how, fun a hs => ?_⟩
          refine Vk.pures 1 [(67, .int .i64 x1)] hs (by kernel_rfl) fun a hs => ?_
          replace hs := hs.toRd 0 rfl
          obtain ⟨v_76, h_75, hm⟩ := bind_t hm
          refine Vk.step (Vk.call (some 68) 67 #[.int .i64 x0, .slice Ar69x0_72 v_71.length cr69x0_73, .int .i64 x1] hs (by kernel_rfl) (by kernel_rfl) (by kernel_rfl) ?_)
          refine (visorref19_New.ok k x0 v_71 x1 v_76 h_75 κ w (pt br25x0_32 (blk (Twire_Machine.obj v_31.1 br25x0otape_33 Ar25x0oops_36 cr25x0oops_37 Ar25x0ovalues_38 cr25x0ovalues_39 Ar25x0oblocks_40 cr25x0oblocks_41) 151) :: pto v_31.1.dry br25x0otape_33 (blk (Ttape_Tape.obj v_31.1.tape Ar25x0otapeowords_34 cr25x0otapeowords_35) 158) :: rowp Ar25x0otapeowords_34 cr25x0otapeowords_35 23 1 (eI .u64) v_31.1.tape.words :: rowp Ar25x0oops_36 cr25x0oops_37 32 6 Tapi_Op.cells v_31.1.ops :: rowp Ar25x0ovalues_38 cr25x0ovalues_39 23 1 (eI .u64) v_31.1.values :: rowp Ar25x0oblocks_40 cr25x0oblocks_41 144 3 Tapi_Span.cells v_31.1.blocks :: rowp Ar3x0_6 cr3x0_7 23 1 (eI .u64) v_5 :: S) Ar69x0_72 cr69x0_73 (Own.to hs.own [0, 1, 2, 3, 4, 5, 6, 7] 8 (by kernel_rfl) (by kernel_rfl))).mono ?_
          rintro _ w ⟨br74x0_77, Ar74x0oops_78, cr74x0oops_79, Ar74x0oblocks_80, cr74x0oblocks_81, Ar74x0oval_82, cr74x0oval_83, Ar74x0otapel_84, cr74x0otapel_85, rfl, how⟩
          refine ⟨_, _, _, rfl, how, fun a hs => ?_⟩
          refine Vk.pures 1 [(13, .pointer (some ⟨br74x0_77, 0, none⟩))] hs (by kernel_rfl) fun a hs => ?_
          replace hs := hs.pick [2, 3, 10, 11, 13] (L' := [(2, .int .i64 x2), (3, .slice A_x3 x3.length c_x3), (10, .bool ((decide (x2 ≥ 0)) && (decide (x2 ≤ 40)))), (11, .pointer (some ⟨br25x0_32, 0, none⟩)), (13, .pointer (some ⟨br74x0_77, 0, none⟩))]) (by kernel_rfl)
          refine Vk.done (by kernel_rfl) ?_
          refine hK68 _ _ ?_
          clear hK68
          refine Vk.seq fun K86 hK86 => ?_
          refine Vk.region ?_
          refine Vk.pures 4 [(72, .pointer (some ⟨br74x0_77, 13, none⟩)), (71, .pointer (some ⟨br74x0_77, 11, none⟩)), (70, .pointer (some ⟨br74x0_77, 0, none⟩)), (69, .pointer (some ⟨br74x0_77, 0, none⟩))] hs (by kernel_rfl) fun a hs => ?_
          refine Vk.step (Vk.store1 (b := br74x0_77) (ty := 3) (x := (.tmp 72)) (y := (.const (.int .i64 0))) (off := 13) (C.int .i64 0) 0 hs (by kernel_rfl) (by kernel_rfl) (by kernel_rfl) (by kernel_rfl) (by kernel_rfl) (by kernel_rfl) rfl (Nat.le_of_ble_eq_true (by kernel_rfl)) fun a w hs => ?_)
          replace hs := hs.pick [2, 3, 10, 11, 13] (L' := [(2, .int .i64 x2), (3, .slice A_x3 x3.length c_x3), (10, .bool ((decide (x2 ≥ 0)) && (decide (x2 ≤ 40)))), (11, .pointer (some ⟨br25x0_32, 0, none⟩)), (13, .pointer (some ⟨br74x0_77, 0, none⟩))]) (by kernel_rfl)
          refine Vk.done (by kernel_rfl) ?_
          refine hK86 _ _ ?_
          clear hK86
          refine Vk.seq fun K87 hK87 => ?_
          have hj87 : ∀ (p_89 : Tvisorref19_M), visorlaw19_WirePlays.j2 k x3 v_31 p_89 = some r → ∀ (a : Act) (w : World), St 135 a w κ [(3, .slice A_x3 x3.length c_x3), (11, .pointer (some ⟨br25x0_32, 0, none⟩)), (13, .pointer (some ⟨br74x0_77, 0, none⟩))] (pt br25x0_32 (blk (Twire_Machine.obj v_31.1 br25x0otape_33 Ar25x0oops_36 cr25x0oops_37 Ar25x0ovalues_38 cr25x0ovalues_39 Ar25x0oblocks_40 cr25x0oblocks_41) 151) :: pto v_31.1.dry br25x0otape_33 (blk (Ttape_Tape.obj v_31.1.tape Ar25x0otapeowords_34 cr25x0otapeowords_35) 158) :: rowp Ar25x0otapeowords_34 cr25x0otapeowords_35 23 1 (eI .u64) v_31.1.tape.words :: rowp Ar25x0oops_36 cr25x0oops_37 32 6 Tapi_Op.cells v_31.1.ops :: rowp Ar25x0ovalues_38 cr25x0ovalues_39 23 1 (eI .u64) v_31.1.values :: rowp Ar25x0oblocks_40 cr25x0oblocks_41 144 3 Tapi_Span.cells v_31.1.blocks :: pt br74x0_77 (blk (Tvisorref19_M.obj p_89 Ar74x0oops_78 cr74x0oops_79 Ar74x0oblocks_80 cr74x0oblocks_81 Ar74x0oval_82 cr74x0oval_83 Ar74x0otapel_84 cr74x0otapel_85) 123) :: rowp Ar74x0oops_78 cr74x0oops_79 32 6 Tapi_Op.cells p_89.ops :: rowp Ar74x0oblocks_80 cr74x0oblocks_81 144 3 Tapi_Span.cells p_89.blocks :: rowp Ar74x0oval_82 cr74x0oval_83 23 1 (eI .u64) p_89.val :: rdp κ Ar74x0otapel_84 cr74x0otapel_85 1 (eI .u64) p_89.tape.l :: S) → K87 a w := by
            intro p_89 hm a w hs
            unfold visorlaw19_WirePlays.j2 at hm
            refine hK87 _ _ ?_
            refine Vk.seq fun K90 hK90 => ?_
            refine Vk.seq fun K91 hK91 => ?_
            refine Vk.region ?_
            refine Vk.pures 1 [(14, .int .i64 0)] hs (by kernel_rfl) fun a hs => ?_
            replace hs := hs.pick [3, 11, 13, 14] (L' := [(3, .slice A_x3 x3.length c_x3), (11, .pointer (some ⟨br25x0_32, 0, none⟩)), (13, .pointer (some ⟨br74x0_77, 0, none⟩)), (14, .int .i64 0)]) (by kernel_rfl)
            refine Vk.done (by kernel_rfl) ?_
            refine hK91 _ _ ?_
            clear hK91
            refine wp_block ?_
            obtain ⟨r92, hl92, hm⟩ := bind_t hm
            have hx92 : r92 = Sum.inr () → ∀ (a : Act) (w : World), St 135 a w κ [] (S) → K90 a w := by
              intro he a w hs
              subst r92
              refine hK90 _ _ ?_
              clear hK90
              refine Vk.seq fun K235 hK235 => ?_
              refine Vk.region ?_
              obtain ⟨v_238, h_237, hm⟩ := bind_t hm
              refine Vk.step (Vk.call (some 134) 66 #[] hs (by kernel_rfl) (by kernel_rfl) (by kernel_rfl) ?_)
              refine (visorlaw19_awake.ok k v_238 h_237 κ w (S) hs.own).mono ?_
              rintro _ w ⟨rfl, how⟩
              refine ⟨_, _, _, rfl, how, fun a hs => ?_⟩
              refine Vk.pures 1 [(8, .bool v_238)] hs (by kernel_rfl) fun a hs => ?_
              replace hs := hs.pick [8] (L' := [(8, .bool v_238)]) (by kernel_rfl)
              refine Vk.done (by kernel_rfl) ?_
              refine hK235 _ _ ?_
              clear hK235
              refine wp_ret ?_
              exact Vk.ret1 (P := Try.prog) (fn := Try.f14) (R := visorlaw19_WirePlays.R κ S x0 x1 x2 x3 A_x3 c_x3 r) (.bool v_238) hs rfl (by kernel_rfl) (by obtain rfl := Option.some.inj hm; exact ⟨rfl, (Own.to hs.own [] 0 (by kernel_rfl) (by kernel_rfl))⟩)
            have hret92 : ∀ v, r92 = Sum.inl v → v = r := by intro v he; subst r92; exact Option.some.inj hm
            refine Vk.loopBy (fun k (s : Twire_Machine × Tvisorref19_M × Int) a w => ∃ (b_93 : Nat), ∃ (b_95 : Nat), ∃ (A_96 : Option Addr), ∃ (c_97 : Nat), ∃ (A_98 : Option Addr), ∃ (c_99 : Nat), ∃ (A_100 : Option Addr), ∃ (c_101 : Nat), ∃ (A_102 : Option Addr), ∃ (c_103 : Nat), ∃ (b_104 : Nat), ∃ (A_106 : Option Addr), ∃ (c_107 : Nat), ∃ (A_108 : Option Addr), ∃ (c_109 : Nat), ∃ (A_110 : Option Addr), ∃ (c_111 : Nat), ∃ (A_112 : Option Addr), ∃ (c_113 : Nat), visorlaw19_WirePlays.l1 x3 k s.1 s.2.1 s.2.2 = some r92 ∧ St 135 a w κ [(3, .slice A_x3 x3.length c_x3), (11, .pointer (some ⟨b_93, 0, none⟩)), (13, .pointer (some ⟨b_104, 0, none⟩)), (14, .int .i64 s.2.2)] (pt b_93 (blk (Twire_Machine.obj s.1 b_95 A_98 c_99 A_100 c_101 A_102 c_103) 151) :: pto s.1.dry b_95 (blk (Ttape_Tape.obj s.1.tape A_96 c_97) 158) :: rowp A_96 c_97 23 1 (eI .u64) s.1.tape.words :: rowp A_98 c_99 32 6 Tapi_Op.cells s.1.ops :: rowp A_100 c_101 23 1 (eI .u64) s.1.values :: rowp A_102 c_103 144 3 Tapi_Span.cells s.1.blocks :: pt b_104 (blk (Tvisorref19_M.obj s.2.1 A_106 c_107 A_108 c_109 A_110 c_111 A_112 c_113) 123) :: rowp A_106 c_107 32 6 Tapi_Op.cells s.2.1.ops :: rowp A_108 c_109 144 3 Tapi_Span.cells s.2.1.blocks :: rowp A_110 c_111 23 1 (eI .u64) s.2.1.val :: rdp κ A_112 c_113 1 (eI .u64) s.2.1.tape.l :: S)) k (v_31.1, p_89, 0) ⟨br25x0_32, br25x0otape_33, Ar25x0otapeowords_34, cr25x0otapeowords_35, Ar25x0oops_36, cr25x0oops_37, Ar25x0ovalues_38, cr25x0ovalues_39, Ar25x0oblocks_40, cr25x0oblocks_41, br74x0_77, Ar74x0oops_78, cr74x0oops_79, Ar74x0oblocks_80, cr74x0oblocks_81, Ar74x0oval_82, cr74x0oval_83, Ar74x0otapel_84, cr74x0otapel_85, hl92, hs.go [3, 11, 13, 14] [0, 1, 2, 3, 4, 5, 6, 7, 8, 9, 10] 11 (by kernel_rfl) (by kernel_rfl) (by kernel_rfl)⟩ (fun s a w h => by obtain ⟨_, _, _, _, _, _, _, _, _, _, _, _, _, _, _, _, _, _, _, h1, _⟩ := h; simp [visorlaw19_WirePlays.l1] at h1) (fun k KL92 ih s a w h => ?_)
            obtain ⟨q_94, q_105, q_114⟩ := s
            obtain ⟨b_93, b_95, A_96, c_97, A_98, c_99, A_100, c_101, A_102, c_103, b_104, A_106, c_107, A_108, c_109, A_110, c_111, A_112, c_113, hm, hs⟩ := h
            try dsimp only at hm hs
            rw [visorlaw19_WirePlays.l1] at hm
            refine Vk.seq fun K115 hK115 => ?_
            refine Vk.seq fun K116 hK116 => ?_
            refine Vk.region ?_
            refine Vk.pures 5 [(83, .bool (decide (q_114 < ((x3.length : Nat) : Int)))), (82, .bool (decide (q_114 < ((x3.length : Nat) : Int)))), (81, .int .i64 ((x3.length : Nat) : Int)), (80, .slice A_x3 x3.length c_x3), (79, .int .i64 q_114)] hs (by kernel_rfl) fun a hs => ?_
            suffices hj_117 : ∀ a, St 135 a w κ [(3, .slice A_x3 x3.length c_x3), (11, .pointer (some ⟨b_93, 0, none⟩)), (13, .pointer (some ⟨b_104, 0, none⟩)), (14, .int .i64 q_114), (79, .int .i64 q_114), (80, .slice A_x3 x3.length c_x3), (81, .int .i64 ((x3.length : Nat) : Int)), (82, .bool (decide (q_114 < ((x3.length : Nat) : Int)))), (83, .bool (decide (q_114 < ((x3.length : Nat) : Int)))), (86, .bool ((decide (q_114 < ((x3.length : Nat) : Int))) && (decide (q_114 < 150))))] (pt b_93 (blk (Twire_Machine.obj q_94 b_95 A_98 c_99 A_100 c_101 A_102 c_103) 151) :: pto q_94.dry b_95 (blk (Ttape_Tape.obj q_94.tape A_96 c_97) 158) :: rowp A_96 c_97 23 1 (eI .u64) q_94.tape.words :: rowp A_98 c_99 32 6 Tapi_Op.cells q_94.ops :: rowp A_100 c_101 23 1 (eI .u64) q_94.values :: rowp A_102 c_103 144 3 Tapi_Span.cells q_94.blocks :: pt b_104 (blk (Tvisorref19_M.obj q_105 A_106 c_107 A_108 c_109 A_110 c_111 A_112 c_113) 123) :: rowp A_106 c_107 32 6 Tapi_Op.cells q_105.ops :: rowp A_108 c_109 144 3 Tapi_Span.cells q_105.blocks :: rowp A_110 c_111 23 1 (eI .u64) q_105.val :: rdp κ A_112 c_113 1 (eI .u64) q_105.tape.l :: S) → wpFrom Try.prog _ _ 8 a w by
              rcases Bool.eq_false_or_eq_true (decide (q_114 < ((x3.length : Nat) : Int))) with hb | hb
              · replace hs := hs.known (t := 83) hb (by kernel_rfl)
                refine Vk.pures 3 [(86, .bool (decide (q_114 < 150))), (85, .bool (decide (q_114 < 150))), (84, .int .i64 q_114)] hs (by kernel_rfl) fun a hs => ?_
                have hq := hs.pick [3, 11, 13, 14, 79, 80, 81, 82, 83, 86] (L' := [(3, .slice A_x3 x3.length c_x3), (11, .pointer (some ⟨b_93, 0, none⟩)), (13, .pointer (some ⟨b_104, 0, none⟩)), (14, .int .i64 q_114), (79, .int .i64 q_114), (80, .slice A_x3 x3.length c_x3), (81, .int .i64 ((x3.length : Nat) : Int)), (82, .bool (decide (q_114 < ((x3.length : Nat) : Int)))), (83, .bool true), (86, .bool (decide (q_114 < 150)))]) (by kernel_rfl)
                exact hj_117 _ (hq.conv (by first | (rw [hb] <;> rfl) | rfl))
              · replace hs := hs.known (t := 83) hb (by kernel_rfl)
                refine Vk.pures 3 [(86, .bool false), (85, undef), (84, undef)] hs (by kernel_rfl) fun a hs => ?_
                have hq := hs.pick [3, 11, 13, 14, 79, 80, 81, 82, 83, 86] (L' := [(3, .slice A_x3 x3.length c_x3), (11, .pointer (some ⟨b_93, 0, none⟩)), (13, .pointer (some ⟨b_104, 0, none⟩)), (14, .int .i64 q_114), (79, .int .i64 q_114), (80, .slice A_x3 x3.length c_x3), (81, .int .i64 ((x3.length : Nat) : Int)), (82, .bool (decide (q_114 < ((x3.length : Nat) : Int)))), (83, .bool false), (86, .bool false)]) (by kernel_rfl)
                exact hj_117 _ (hq.conv (by first | (rw [hb] <;> rfl) | rfl))
            intro a hs
            replace hs := hs.pick [3, 11, 13, 14, 86] (L' := [(3, .slice A_x3 x3.length c_x3), (11, .pointer (some ⟨b_93, 0, none⟩)), (13, .pointer (some ⟨b_104, 0, none⟩)), (14, .int .i64 q_114), (86, .bool ((decide (q_114 < ((x3.length : Nat) : Int))) && (decide (q_114 < 150))))]) (by kernel_rfl)
            refine Vk.done (by kernel_rfl) ?_
            refine hK116 _ _ ?_
            clear hK116
            refine Vk.condS (b := (decide (q_114 < ((x3.length : Nat) : Int))) && (decide (q_114 < 150))) hs (by kernel_rfl) (by kernel_rfl) (fun hb => ?_) (fun hb => ?_)
            · replace hm := bif_t hm hb
              refine wp_skip ?_
              refine hK115 _ _ ?_
              clear hK115
              refine Vk.seq fun K118 hK118 => ?_
              refine wp_block ?_
              refine Vk.seq fun K119 hK119 => ?_
              have hj119 : ∀ (p_153 : Twire_Machine) (p_168 : Tvisorref19_M), visorlaw19_WirePlays.j3 k (visorlaw19_WirePlays.l1 x3 k) x3 q_114 p_153 p_168 = some r92 → ∀ (b_152 : Nat) (b_154 : Nat) (A_155 : Option Addr) (c_156 : Nat) (A_158 : Option Addr) (c_159 : Nat) (A_161 : Option Addr) (c_162 : Nat) (A_164 : Option Addr) (c_165 : Nat) (b_167 : Nat) (A_169 : Option Addr) (c_170 : Nat) (A_172 : Option Addr) (c_173 : Nat) (A_175 : Option Addr) (c_176 : Nat) (A_178 : Option Addr) (c_179 : Nat) (a : Act) (w : World), St 135 a w κ [(3, .slice A_x3 x3.length c_x3), (11, .pointer (some ⟨b_152, 0, none⟩)), (13, .pointer (some ⟨b_167, 0, none⟩)), (14, .int .i64 q_114)] (pt b_152 (blk (Twire_Machine.obj p_153 b_154 A_158 c_159 A_161 c_162 A_164 c_165) 151) :: pto p_153.dry b_154 (blk (Ttape_Tape.obj p_153.tape A_155 c_156) 158) :: rowp A_155 c_156 23 1 (eI .u64) p_153.tape.words :: rowp A_158 c_159 32 6 Tapi_Op.cells p_153.ops :: rowp A_161 c_162 23 1 (eI .u64) p_153.values :: rowp A_164 c_165 144 3 Tapi_Span.cells p_153.blocks :: pt b_167 (blk (Tvisorref19_M.obj p_168 A_169 c_170 A_172 c_173 A_175 c_176 A_178 c_179) 123) :: rowp A_169 c_170 32 6 Tapi_Op.cells p_168.ops :: rowp A_172 c_173 144 3 Tapi_Span.cells p_168.blocks :: rowp A_175 c_176 23 1 (eI .u64) p_168.val :: rdp κ A_178 c_179 1 (eI .u64) p_168.tape.l :: S) → K119 a w := by
                intro p_153 p_168 hm b_152 b_154 A_155 c_156 A_158 c_159 A_161 c_162 A_164 c_165 b_167 A_169 c_170 A_172 c_173 A_175 c_176 A_178 c_179 a w hs
                unfold visorlaw19_WirePlays.j3 at hm
                refine hK119 _ _ ?_
                refine Vk.seq fun K181 hK181 => ?_
                refine Vk.region ?_
                refine Vk.pures 7 [(122, .int .i64 q_114), (121, .slice A_x3 x3.length c_x3), (120, .pointer (some ⟨b_167, 0, none⟩)), (119, .pointer (some ⟨b_152, 0, none⟩)), (118, .bool false), (117, .bool false), (116, .pointer (some ⟨b_152, 0, none⟩))] hs (by kernel_rfl) fun a hs => ?_
                obtain ⟨h_182, hm⟩ := ite_t hm
                obtain ⟨e_185, h_183, hm⟩ := bind_t hm
                obtain ⟨b_186, o_187, hA_188, h_184⟩ := Sl.elem hx_x3 h_183
                refine Vk.step (Vk.value (some 123) (.pointer (some ⟨b_186, o_187 + q_114.toNat * 8, none⟩)) hs (by kernel_rfl) (op := (.indexAddr 104 (.tmp 121) (.tmp 122))) (by kernel_rfl) (fun o ho => run_idxSlc (k := .i64) ho (cap := c_x3) (len := x3.length) ((congrArg (fun A => Value.slice A (x3.length) (c_x3)) hA_188) ▸ (by kernel_rfl)) (by kernel_rfl) (by kernel_rfl) (idx_ok h_182 h_183) _) fun a hs => ?_)
                refine Vk.step (Vk.value (some 124) (.agg (vals [C.int .i64 e_185.kind, C.int .i64 e_185.o.kind, C.int .i64 e_185.o.dom, C.int .i64 e_185.o.a, C.int .i64 e_185.o.b, C.int .i64 e_185.o.d, C.int .u64 e_185.o.c, C.int .u64 e_185.x])) hs (by kernel_rfl) (op := (.load 111 (.tmp 123))) (by kernel_rfl) (fun o ho => run_loadN (cs := [C.int .i64 e_185.kind, C.int .i64 e_185.o.kind, C.int .i64 e_185.o.dom, C.int .i64 e_185.o.a, C.int .i64 e_185.o.b, C.int .i64 e_185.o.d, C.int .u64 e_185.o.c, C.int .u64 e_185.x]) ho (by kernel_rfl) (by kernel_rfl) rfl h_184 _ hs.own.drop.drop.drop.drop.drop.drop.drop.drop.drop.drop.drop) fun a hs => ?_)
                obtain ⟨v_191, h_190, hm⟩ := bind_t hm
                refine Vk.step (Vk.call (some 125) 70 #[.pointer (some ⟨b_152, 0, none⟩), .pointer (some ⟨b_167, 0, none⟩), .agg (vals [C.int .i64 e_185.kind, C.int .i64 e_185.o.kind, C.int .i64 e_185.o.dom, C.int .i64 e_185.o.a, C.int .i64 e_185.o.b, C.int .i64 e_185.o.d, C.int .u64 e_185.o.c, C.int .u64 e_185.x])] hs (by kernel_rfl) (by kernel_rfl) (by kernel_rfl) ?_)
                refine (visorlaw19_does.ok k p_153 p_168 e_185 v_191 h_190 κ w (S) b_152 b_154 A_155 c_156 A_158 c_159 A_161 c_162 A_164 c_165 b_167 A_169 c_170 A_172 c_173 A_175 c_176 A_178 c_179 (Own.to hs.own [0, 1, 2, 3, 4, 5, 6, 7, 8, 9, 10] 11 (by kernel_rfl) (by kernel_rfl))).mono ?_
                rintro _ w ⟨Ar189o0otapeowords_192, cr189o0otapeowords_193, Ar189o0oops_194, cr189o0oops_195, Ar189o0ovalues_196, cr189o0ovalues_197, Ar189o0oblocks_198, cr189o0oblocks_199, Ar189o1oops_200, cr189o1oops_201, Ar189o1oblocks_202, cr189o1oblocks_203, Ar189o1oval_204, cr189o1oval_205, Ar189o1otapel_206, cr189o1otapel_207, rfl, how⟩
                refine ⟨_, _, _, rfl, how, fun a hs => ?_⟩
                refine Vk.pures 3 [(128, .bool (!v_191.1)), (127, .bool (!v_191.1)), (126, .bool (!v_191.1))] hs (by kernel_rfl) fun a hs => ?_
                rcases Bool.eq_false_or_eq_true (!v_191.1) with hb | hb
                · replace hm := bif_t hm hb
                  replace hs := hs.known (t := 128) hb (by kernel_rfl)
                  refine Vk.pures 5 [(133, .bool true), (132, undef), (131, undef), (130, undef), (129, undef)] hs (by kernel_rfl) fun a hs => ?_
                  replace hs := hs.pick [3, 11, 13, 14, 119, 120, 121, 122, 123, 124, 125, 126, 133] (L' := [(3, .slice A_x3 x3.length c_x3), (11, .pointer (some ⟨b_152, 0, none⟩)), (13, .pointer (some ⟨b_167, 0, none⟩)), (14, .int .i64 q_114), (119, .pointer (some ⟨b_152, 0, none⟩)), (120, .pointer (some ⟨b_167, 0, none⟩)), (121, .slice A_x3 x3.length c_x3), (122, .int .i64 q_114), (123, .pointer (some ⟨b_186, o_187 + q_114.toNat * 8, none⟩)), (124, .agg (vals [C.int .i64 e_185.kind, C.int .i64 e_185.o.kind, C.int .i64 e_185.o.dom, C.int .i64 e_185.o.a, C.int .i64 e_185.o.b, C.int .i64 e_185.o.d, C.int .u64 e_185.o.c, C.int .u64 e_185.x])), (125, .bool v_191.1), (126, .bool (!v_191.1)), (133, .bool true)]) (by kernel_rfl)
                  refine Vk.done (by kernel_rfl) ?_
                  refine hK181 _ _ ?_
                  refine Vk.condT hs (by kernel_rfl) (by kernel_rfl) ?_
                  refine Vk.seq fun K211 hK211 => ?_
                  refine Vk.region ?_
                  refine Vk.pures 1 [(8, .bool false)] hs (by kernel_rfl) fun a hs => ?_
                  replace hs := hs.pick [8] (L' := [(8, .bool false)]) (by kernel_rfl)
                  refine Vk.done (by kernel_rfl) ?_
                  refine hK211 _ _ ?_
                  clear hK211
                  refine wp_ret ?_
                  exact Vk.ret1 (P := Try.prog) (fn := Try.f14) (R := visorlaw19_WirePlays.R κ S x0 x1 x2 x3 A_x3 c_x3 r) (.bool false) hs rfl (by kernel_rfl) (by obtain rfl := hret92 _ ((Option.some.inj hm).symm); exact ⟨rfl, (Own.to hs.own [] 11 (by kernel_rfl) (by kernel_rfl))⟩)
                · replace hm := bif_f hm hb
                  replace hs := hs.known (t := 128) hb (by kernel_rfl)
                  refine Vk.pures 2 [(130, .pointer (some ⟨b_167, 0, none⟩)), (129, .pointer (some ⟨b_152, 0, none⟩))] hs (by kernel_rfl) fun a hs => ?_
                  obtain ⟨v_210, h_209, hm⟩ := bind_t hm
                  refine Vk.step (Vk.call (some 131) 71 #[.pointer (some ⟨b_152, 0, none⟩), .pointer (some ⟨b_167, 0, none⟩)] hs (by kernel_rfl) (by kernel_rfl) (by kernel_rfl) ?_)
                  refine (visorlaw19_same.ok k v_191.2.1 v_191.2.2 v_210 h_209 κ w (S) b_152 b_154 Ar189o0otapeowords_192 cr189o0otapeowords_193 Ar189o0oops_194 cr189o0oops_195 Ar189o0ovalues_196 cr189o0ovalues_197 Ar189o0oblocks_198 cr189o0oblocks_199 b_167 Ar189o1oops_200 cr189o1oops_201 Ar189o1oblocks_202 cr189o1oblocks_203 Ar189o1oval_204 cr189o1oval_205 Ar189o1otapel_206 cr189o1otapel_207 (Own.to hs.own [0, 1, 2, 3, 4, 5, 6, 7, 8, 9, 10] 11 (by kernel_rfl) (by kernel_rfl))).mono ?_
                  rintro _ w ⟨rfl, how⟩
                  refine ⟨_, _, _, rfl, how, fun a hs => ?_⟩
                  refine Vk.pures 2 [(133, .bool (!v_210)), (132, .bool (!v_210))] hs (by kernel_rfl) fun a hs => ?_
                  replace hs := hs.pick [3, 11, 13, 14, 119, 120, 121, 122, 123, 124, 125, 126, 129, 130, 131, 132, 133] (L' := [(3, .slice A_x3 x3.length c_x3), (11, .pointer (some ⟨b_152, 0, none⟩)), (13, .pointer (some ⟨b_167, 0, none⟩)), (14, .int .i64 q_114), (119, .pointer (some ⟨b_152, 0, none⟩)), (120, .pointer (some ⟨b_167, 0, none⟩)), (121, .slice A_x3 x3.length c_x3), (122, .int .i64 q_114), (123, .pointer (some ⟨b_186, o_187 + q_114.toNat * 8, none⟩)), (124, .agg (vals [C.int .i64 e_185.kind, C.int .i64 e_185.o.kind, C.int .i64 e_185.o.dom, C.int .i64 e_185.o.a, C.int .i64 e_185.o.b, C.int .i64 e_185.o.d, C.int .u64 e_185.o.c, C.int .u64 e_185.x])), (125, .bool v_191.1), (126, .bool (!v_191.1)), (129, .pointer (some ⟨b_152, 0, none⟩)), (130, .pointer (some ⟨b_167, 0, none⟩)), (131, .bool v_210), (132, .bool (!v_210)), (133, .bool (!v_210))]) (by kernel_rfl)
                  refine Vk.done (by kernel_rfl) ?_
                  refine hK181 _ _ ?_
                  refine Vk.condS (b := !v_210) hs (by kernel_rfl) (by kernel_rfl) (fun hb => ?_) (fun hb => ?_)
                  · replace hm := bif_t hm hb
                    refine Vk.seq fun K212 hK212 => ?_
                    refine Vk.region ?_
                    refine Vk.pures 1 [(8, .bool false)] hs (by kernel_rfl) fun a hs => ?_
                    replace hs := hs.pick [8] (L' := [(8, .bool false)]) (by kernel_rfl)
                    refine Vk.done (by kernel_rfl) ?_
                    refine hK212 _ _ ?_
                    clear hK212
                    refine wp_ret ?_
                    exact Vk.ret1 (P := Try.prog) (fn := Try.f14) (R := visorlaw19_WirePlays.R κ S x0 x1 x2 x3 A_x3 c_x3 r) (.bool false) hs rfl (by kernel_rfl) (by obtain rfl := hret92 _ ((Option.some.inj hm).symm); exact ⟨rfl, (Own.to hs.own [] 11 (by kernel_rfl) (by kernel_rfl))⟩)
                  · replace hm := bif_f hm hb
                    refine wp_skip ?_
                    refine hK118 _ _ ?_
                    clear hK118
                    refine Vk.region ?_
                    refine Vk.pures 3 [(14, .int .i64 (IntKind.i64.wrap (q_114 + 1))), (88, .int .i64 (IntKind.i64.wrap (q_114 + 1))), (87, .int .i64 q_114)] hs (by kernel_rfl) fun a hs => ?_
                    replace hs := hs.pick [3, 11, 13, 14, 119, 120, 121, 122, 123, 124, 125, 126, 129, 130, 131, 132] (L' := [(3, .slice A_x3 x3.length c_x3), (11, .pointer (some ⟨b_152, 0, none⟩)), (13, .pointer (some ⟨b_167, 0, none⟩)), (14, .int .i64 (IntKind.i64.wrap (q_114 + 1))), (119, .pointer (some ⟨b_152, 0, none⟩)), (120, .pointer (some ⟨b_167, 0, none⟩)), (121, .slice A_x3 x3.length c_x3), (122, .int .i64 q_114), (123, .pointer (some ⟨b_186, o_187 + q_114.toNat * 8, none⟩)), (124, .agg (vals [C.int .i64 e_185.kind, C.int .i64 e_185.o.kind, C.int .i64 e_185.o.dom, C.int .i64 e_185.o.a, C.int .i64 e_185.o.b, C.int .i64 e_185.o.d, C.int .u64 e_185.o.c, C.int .u64 e_185.x])), (125, .bool v_191.1), (126, .bool (!v_191.1)), (129, .pointer (some ⟨b_152, 0, none⟩)), (130, .pointer (some ⟨b_167, 0, none⟩)), (131, .bool v_210), (132, .bool (!v_210))]) (by kernel_rfl)
                    refine Vk.done (by kernel_rfl) ?_
                    refine ih (v_191.2.1, v_191.2.2, (IntKind.i64.wrap (q_114 + 1))) _ _ ⟨b_152, b_154, Ar189o0otapeowords_192, cr189o0otapeowords_193, Ar189o0oops_194, cr189o0oops_195, Ar189o0ovalues_196, cr189o0ovalues_197, Ar189o0oblocks_198, cr189o0oblocks_199, b_167, Ar189o1oops_200, cr189o1oops_201, Ar189o1oblocks_202, cr189o1oblocks_203, Ar189o1oval_204, cr189o1oval_205, Ar189o1otapel_206, cr189o1otapel_207, hm, hs.go [3, 11, 13, 14] [0, 1, 2, 3, 4, 5, 6, 7, 8, 9, 10] 11 (by kernel_rfl) (by kernel_rfl) (by kernel_rfl)⟩
              refine Vk.seq fun K120 hK120 => ?_
              refine Vk.region ?_
              refine Vk.pures 2 [(90, .int .i64 q_114), (89, .slice A_x3 x3.length c_x3)] hs (by kernel_rfl) fun a hs => ?_
              obtain ⟨h_121, hm⟩ := ite_t hm
              obtain ⟨e_124, h_122, hm⟩ := bind_t hm
              obtain ⟨b_125, o_126, hA_127, h_123⟩ := Sl.elem hx_x3 h_122
              refine Vk.step (Vk.value (some 91) (.pointer (some ⟨b_125, o_126 + q_114.toNat * 8, none⟩)) hs (by kernel_rfl) (op := (.indexAddr 104 (.tmp 89) (.tmp 90))) (by kernel_rfl) (fun o ho => run_idxSlc (k := .i64) ho (cap := c_x3) (len := x3.length) ((congrArg (fun A => Value.slice A (x3.length) (c_x3)) hA_127) ▸ (by kernel_rfl)) (by kernel_rfl) (by kernel_rfl) (idx_ok h_121 h_122) _) fun a hs => ?_)
              refine Vk.pures 1 [(92, .pointer (some ⟨b_125, o_126 + q_114.toNat * 8, none⟩))] hs (by kernel_rfl) fun a hs => ?_
              refine Vk.step (Vk.value (some 93) (.int .i64 e_124.kind) hs (by kernel_rfl) (op := (.load 3 (.tmp 92))) (by kernel_rfl) (fun o ho => run_load1 (b := b_125) (off := o_126 + q_114.toNat * 8) (c := C.int .i64 e_124.kind) ho (by kernel_rfl) (by kernel_rfl) (CellsAt.cell h_123 (i := 0) (by kernel_rfl)) _ hs.own.drop.drop.drop.drop.drop.drop.drop.drop.drop.drop.drop) fun a hs => ?_)
              refine Vk.pures 2 [(95, .bool (e_124.kind == 10)), (94, .bool (e_124.kind == 10))] hs (by kernel_rfl) fun a hs => ?_
              suffices hj_128 : ∀ a, St 135 a w κ [(3, .slice A_x3 x3.length c_x3), (11, .pointer (some ⟨b_93, 0, none⟩)), (13, .pointer (some ⟨b_104, 0, none⟩)), (14, .int .i64 q_114), (86, .bool ((decide (q_114 < ((x3.length : Nat) : Int))) && (decide (q_114 < 150)))), (89, .slice A_x3 x3.length c_x3), (90, .int .i64 q_114), (91, .pointer (some ⟨b_125, o_126 + q_114.toNat * 8, none⟩)), (92, .pointer (some ⟨b_125, o_126 + q_114.toNat * 8, none⟩)), (93, .int .i64 e_124.kind), (94, .bool (e_124.kind == 10)), (95, .bool (e_124.kind == 10)), (101, .bool ((e_124.kind == 10) && (!q_105.dry)))] (pt b_93 (blk (Twire_Machine.obj q_94 b_95 A_98 c_99 A_100 c_101 A_102 c_103) 151) :: pto q_94.dry b_95 (blk (Ttape_Tape.obj q_94.tape A_96 c_97) 158) :: rowp A_96 c_97 23 1 (eI .u64) q_94.tape.words :: rowp A_98 c_99 32 6 Tapi_Op.cells q_94.ops :: rowp A_100 c_101 23 1 (eI .u64) q_94.values :: rowp A_102 c_103 144 3 Tapi_Span.cells q_94.blocks :: pt b_104 (blk (Tvisorref19_M.obj q_105 A_106 c_107 A_108 c_109 A_110 c_111 A_112 c_113) 123) :: rowp A_106 c_107 32 6 Tapi_Op.cells q_105.ops :: rowp A_108 c_109 144 3 Tapi_Span.cells q_105.blocks :: rowp A_110 c_111 23 1 (eI .u64) q_105.val :: rdp κ A_112 c_113 1 (eI .u64) q_105.tape.l :: S) → wpFrom Try.prog _ _ 13 a w by
                rcases Bool.eq_false_or_eq_true (e_124.kind == 10) with hb | hb
                · replace hs := hs.known (t := 95) hb (by kernel_rfl)
                  refine Vk.pures 3 [(98, .pointer (some ⟨b_104, 14, none⟩)), (97, .pointer (some ⟨b_104, 0, none⟩)), (96, .pointer (some ⟨b_104, 0, none⟩))] hs (by kernel_rfl) fun a hs => ?_
                  refine Vk.step (Vk.value (some 99) (.bool q_105.dry) hs (by kernel_rfl) (op := (.load 4 (.tmp 98))) (by kernel_rfl) (fun o ho => run_load1 (b := b_104) (off := 14) (c := C.bool q_105.dry) ho (by kernel_rfl) (by kernel_rfl) (Cell.own 6 rfl (by kernel_rfl)) _ hs.own) fun a hs => ?_)
                  refine Vk.pures 2 [(101, .bool (!q_105.dry)), (100, .bool (!q_105.dry))] hs (by kernel_rfl) fun a hs => ?_
                  have hq := hs.pick [3, 11, 13, 14, 86, 89, 90, 91, 92, 93, 94, 95, 101] (L' := [(3, .slice A_x3 x3.length c_x3), (11, .pointer (some ⟨b_93, 0, none⟩)), (13, .pointer (some ⟨b_104, 0, none⟩)), (14, .int .i64 q_114), (86, .bool ((decide (q_114 < ((x3.length : Nat) : Int))) && (decide (q_114 < 150)))), (89, .slice A_x3 x3.length c_x3), (90, .int .i64 q_114), (91, .pointer (some ⟨b_125, o_126 + q_114.toNat * 8, none⟩)), (92, .pointer (some ⟨b_125, o_126 + q_114.toNat * 8, none⟩)), (93, .int .i64 e_124.kind), (94, .bool (e_124.kind == 10)), (95, .bool true), (101, .bool (!q_105.dry))]) (by kernel_rfl)
                  exact hj_128 _ (hq.conv (by first | (rw [hb] <;> rfl) | rfl))
                · replace hs := hs.known (t := 95) hb (by kernel_rfl)
                  refine Vk.pures 6 [(101, .bool false), (100, undef), (99, undef), (98, undef), (97, undef), (96, undef)] hs (by kernel_rfl) fun a hs => ?_
                  have hq := hs.pick [3, 11, 13, 14, 86, 89, 90, 91, 92, 93, 94, 95, 101] (L' := [(3, .slice A_x3 x3.length c_x3), (11, .pointer (some ⟨b_93, 0, none⟩)), (13, .pointer (some ⟨b_104, 0, none⟩)), (14, .int .i64 q_114), (86, .bool ((decide (q_114 < ((x3.length : Nat) : Int))) && (decide (q_114 < 150)))), (89, .slice A_x3 x3.length c_x3), (90, .int .i64 q_114), (91, .pointer (some ⟨b_125, o_126 + q_114.toNat * 8, none⟩)), (92, .pointer (some ⟨b_125, o_126 + q_114.toNat * 8, none⟩)), (93, .int .i64 e_124.kind), (94, .bool (e_124.kind == 10)), (95, .bool false), (101, .bool false)]) (by kernel_rfl)
                  exact hj_128 _ (hq.conv (by first | (rw [hb] <;> rfl) | rfl))
              intro a hs
              replace hs := hs.pick [3, 11, 13, 14, 101] (L' := [(3, .slice A_x3 x3.length c_x3), (11, .pointer (some ⟨b_93, 0, none⟩)), (13, .pointer (some ⟨b_104, 0, none⟩)), (14, .int .i64 q_114), (101, .bool ((e_124.kind == 10) && (!q_105.dry)))]) (by kernel_rfl)
              refine Vk.done (by kernel_rfl) ?_
              refine hK120 _ _ ?_
              clear hK120
              refine Vk.condS (b := (e_124.kind == 10) && (!q_105.dry)) hs (by kernel_rfl) (by kernel_rfl) (fun hb => ?_) (fun hb => ?_)
              · replace hm := bif_t hm hb
                refine Vk.seq fun K129 hK129 => ?_
                refine Vk.region ?_
                refine Vk.pures 1 [(102, .pointer (some ⟨b_93, 0, none⟩))] hs (by kernel_rfl) fun a hs => ?_
                obtain ⟨v_132, h_131, hm⟩ := bind_t hm
                refine Vk.step (Vk.call (some 103) 68 #[.pointer (some ⟨b_93, 0, none⟩)] hs (by kernel_rfl) (by kernel_rfl) (by kernel_rfl) ?_)
                refine (wire_Machine_Dry.ok k q_94 v_132 h_131 κ w (pt b_104 (blk (Tvisorref19_M.obj q_105 A_106 c_107 A_108 c_109 A_110 c_111 A_112 c_113) 123) :: rowp A_106 c_107 32 6 Tapi_Op.cells q_105.ops :: rowp A_108 c_109 144 3 Tapi_Span.cells q_105.blocks :: rowp A_110 c_111 23 1 (eI .u64) q_105.val :: rdp κ A_112 c_113 1 (eI .u64) q_105.tape.l :: S) b_93 b_95 A_96 c_97 A_98 c_99 A_100 c_101 A_102 c_103 (Own.to hs.own [0, 1, 2, 3, 4, 5, 6, 7, 8, 9, 10] 11 (by kernel_rfl) (by kernel_rfl))).mono ?_
                rintro _ w ⟨br130x0_133, br130x0otape_134, Ar130x0otapeowords_135, cr130x0otapeowords_136, Ar130x0oops_137, cr130x0oops_138, Ar130x0ovalues_139, cr130x0ovalues_140, Ar130x0oblocks_141, cr130x0oblocks_142, rfl, how⟩
                refine ⟨_, _, _, rfl, how, fun a hs => ?_⟩
                refine Vk.pures 1 [(11, .pointer (some ⟨br130x0_133, 0, none⟩))] hs (by kernel_rfl) fun a hs => ?_
                replace hs := hs.pick [3, 11, 13, 14] (L' := [(3, .slice A_x3 x3.length c_x3), (11, .pointer (some ⟨br130x0_133, 0, none⟩)), (13, .pointer (some ⟨b_104, 0, none⟩)), (14, .int .i64 q_114)]) (by kernel_rfl)
                refine Vk.done (by kernel_rfl) ?_
                refine hK129 _ _ ?_
                clear hK129
                obtain ⟨C_143, hC_143⟩ : ∃ X0 : List HP, X0 = (pt br130x0_133 (blk (Twire_Machine.obj v_132 br130x0otape_134 Ar130x0oops_137 cr130x0oops_138 Ar130x0ovalues_139 cr130x0ovalues_140 Ar130x0oblocks_141 cr130x0oblocks_142) 151) :: pto v_132.dry br130x0otape_134 (blk (Ttape_Tape.obj v_132.tape Ar130x0otapeowords_135 cr130x0otapeowords_136) 158) :: rowp Ar130x0otapeowords_135 cr130x0otapeowords_136 23 1 (eI .u64) v_132.tape.words :: rowp Ar130x0oops_137 cr130x0oops_138 32 6 Tapi_Op.cells v_132.ops :: rowp Ar130x0ovalues_139 cr130x0ovalues_140 23 1 (eI .u64) v_132.values :: rowp Ar130x0oblocks_141 cr130x0oblocks_142 144 3 Tapi_Span.cells v_132.blocks :: pt b_93 (blk (Twire_Machine.obj q_94 b_95 A_98 c_99 A_100 c_101 A_102 c_103) 151) :: pto q_94.dry b_95 (blk (Ttape_Tape.obj q_94.tape A_96 c_97) 158) :: rowp A_96 c_97 23 1 (eI .u64) q_94.tape.words :: rowp A_98 c_99 32 6 Tapi_Op.cells q_94.ops :: rowp A_100 c_101 23 1 (eI .u64) q_94.values :: rowp A_102 c_103 144 3 Tapi_Span.cells q_94.blocks :: pt b_104 (blk (Tvisorref19_M.obj q_105 A_106 c_107 A_108 c_109 A_110 c_111 A_112 c_113) 123) :: rowp A_106 c_107 32 6 Tapi_Op.cells q_105.ops :: rowp A_108 c_109 144 3 Tapi_Span.cells q_105.blocks :: rowp A_110 c_111 23 1 (eI .u64) q_105.val :: rdp κ A_112 c_113 1 (eI .u64) q_105.tape.l :: S) := ⟨_, rfl⟩
                refine Vk.drawnT 13 κ C_143 hs (by kernel_rfl) fun w hs => ?_
                have hcz : Own κ w (pt br130x0_133 (blk (Twire_Machine.obj v_132 br130x0otape_134 Ar130x0oops_137 cr130x0oops_138 Ar130x0ovalues_139 cr130x0ovalues_140 Ar130x0oblocks_141 cr130x0oblocks_142) 151) :: pto v_132.dry br130x0otape_134 (blk (Ttape_Tape.obj v_132.tape Ar130x0otapeowords_135 cr130x0otapeowords_136) 158) :: rowp Ar130x0otapeowords_135 cr130x0otapeowords_136 23 1 (eI .u64) v_132.tape.words :: rowp Ar130x0oops_137 cr130x0oops_138 32 6 Tapi_Op.cells v_132.ops :: rowp Ar130x0ovalues_139 cr130x0ovalues_140 23 1 (eI .u64) v_132.values :: rowp Ar130x0oblocks_141 cr130x0oblocks_142 144 3 Tapi_Span.cells v_132.blocks :: pt b_93 (blk (Twire_Machine.obj q_94 b_95 A_98 c_99 A_100 c_101 A_102 c_103) 151) :: pto q_94.dry b_95 (blk (Ttape_Tape.obj q_94.tape A_96 c_97) 158) :: rowp A_96 c_97 23 1 (eI .u64) q_94.tape.words :: rowp A_98 c_99 32 6 Tapi_Op.cells q_94.ops :: rowp A_100 c_101 23 1 (eI .u64) q_94.values :: rowp A_102 c_103 144 3 Tapi_Span.cells q_94.blocks :: pt b_104 (blk (Tvisorref19_M.obj q_105 A_106 c_107 A_108 c_109 A_110 c_111 A_112 c_113) 123) :: rowp A_106 c_107 32 6 Tapi_Op.cells q_105.ops :: rowp A_108 c_109 144 3 Tapi_Span.cells q_105.blocks :: rowp A_110 c_111 23 1 (eI .u64) q_105.val :: rdp κ A_112 c_113 1 (eI .u64) q_105.tape.l :: S) := (Own.to hs.own [0, 1, 2, 3, 4, 5, 6, 7, 8, 9, 10, 11, 12, 13, 14, 15, 16] 17 (by kernel_rfl) (by kernel_rfl))
                have hcl : Own κ w C_143 := by rw [hC_143]; exact hcz
                refine Vk.dPuresT [0, 1, 2, 4, 5, 6, 8] [(112, .pointer (some ⟨b_104, 0, none⟩)), (110, .pointer (some ⟨b_104, 2, none⟩)), (109, .pointer (some ⟨b_104, 0, none⟩)), (108, .pointer (some ⟨b_104, 0, none⟩)), (106, .pointer (some ⟨b_104, 0, none⟩)), (105, .pointer (some ⟨b_104, 0, none⟩)), (104, .pointer (some ⟨b_104, 0, none⟩))] hs (by kernel_rfl) (by repeat' (first | exact Vk.Calm.post | refine Vk.Calm.then ?_ | refine Vk.Calm.inBlock ?_)) hcl (by kernel_rfl) (by kernel_rfl) (fuel := 6) rfl fun a hs => ?_
                refine Vk.dTakeT (i := 3) (some 107) (.int .i64 q_105.n) hs (by kernel_rfl) (by repeat' (first | exact Vk.Calm.post | refine Vk.Calm.then ?_ | refine Vk.Calm.inBlock ?_)) hcl (by kernel_rfl) (by kernel_rfl) (op := (.load 3 (.tmp 106))) (by kernel_rfl) (by kernel_rfl) (fun w hw o ho => by rw [hC_143] at hw; exact run_load1 (b := b_104) (off := 0) (c := C.int .i64 q_105.n) ho (by kernel_rfl) (by kernel_rfl) (Cell.own 12 rfl (by kernel_rfl)) _ hw) fun a hs => ?_
                refine Vk.dTakeT (i := 7) (some 111) (.int .i64 q_105.words) hs (by kernel_rfl) (by repeat' (first | exact Vk.Calm.post | refine Vk.Calm.then ?_ | refine Vk.Calm.inBlock ?_)) hcl (by kernel_rfl) (by kernel_rfl) (op := (.load 3 (.tmp 110))) (by kernel_rfl) (by kernel_rfl) (fun w hw o ho => by rw [hC_143] at hw; exact run_load1 (b := b_104) (off := 2) (c := C.int .i64 q_105.words) ho (by kernel_rfl) (by kernel_rfl) (Cell.own 12 rfl (by kernel_rfl)) _ hw) fun a hs => ?_
                obtain ⟨v_146, h_145, hm⟩ := bind_t hm
                refine Vk.dOnly (i := 9) (by kernel_rfl) (Vk.call (some 113) 69 #[.pointer (some ⟨b_104, 0, none⟩)] hs (by kernel_rfl) (by kernel_rfl) (by kernel_rfl) ?_)
                refine (visorref19_M_Len.ok k q_105 v_146 h_145 κ w (pt br130x0_133 (blk (Twire_Machine.obj v_132 br130x0otape_134 Ar130x0oops_137 cr130x0oops_138 Ar130x0ovalues_139 cr130x0ovalues_140 Ar130x0oblocks_141 cr130x0oblocks_142) 151) :: pto v_132.dry br130x0otape_134 (blk (Ttape_Tape.obj v_132.tape Ar130x0otapeowords_135 cr130x0otapeowords_136) 158) :: rowp Ar130x0otapeowords_135 cr130x0otapeowords_136 23 1 (eI .u64) v_132.tape.words :: rowp Ar130x0oops_137 cr130x0oops_138 32 6 Tapi_Op.cells v_132.ops :: rowp Ar130x0ovalues_139 cr130x0ovalues_140 23 1 (eI .u64) v_132.values :: rowp Ar130x0oblocks_141 cr130x0oblocks_142 144 3 Tapi_Span.cells v_132.blocks :: pt b_93 (blk (Twire_Machine.obj q_94 b_95 A_98 c_99 A_100 c_101 A_102 c_103) 151) :: pto q_94.dry b_95 (blk (Ttape_Tape.obj q_94.tape A_96 c_97) 158) :: rowp A_96 c_97 23 1 (eI .u64) q_94.tape.words :: rowp A_98 c_99 32 6 Tapi_Op.cells q_94.ops :: rowp A_100 c_101 23 1 (eI .u64) q_94.values :: rowp A_102 c_103 144 3 Tapi_Span.cells q_94.blocks :: S) b_104 A_106 c_107 A_108 c_109 A_110 c_111 A_112 c_113 (Own.to hs.own [12, 13, 14, 15, 16, 0, 1, 2, 3, 4, 5, 6, 7, 8, 9, 10, 11] 17 (by kernel_rfl) (by kernel_rfl))).mono ?_
                rintro _ w ⟨rfl, how⟩
                refine ⟨_, _, _, rfl, how, fun a hs => ?_⟩
                replace hcl : Own κ w C_143 := by rw [hC_143]; exact (Own.to hs.own [5, 6, 7, 8, 9, 10, 11, 12, 13, 14, 15, 16, 0, 1, 2, 3, 4] 17 (by kernel_rfl) (by kernel_rfl))
                refine ⟨fun _ => hcl, ?_⟩
                refine Vk.dPuresT [10] [(114, .agg (vals [C.int .i64 q_105.n, C.int .i64 0, C.int .i64 q_105.words, C.int .i64 0, C.int .i64 0, C.int .i64 v_146, C.int .i64 0, C.int .i64 0, C.slc none 0 0, C.slc none 0 0, C.slc none 0 0, C.slc none 0 0, C.int .i64 0, C.int .i64 0, C.bool true]))] hs (by kernel_rfl) (by repeat' (first | exact Vk.Calm.post | refine Vk.Calm.then ?_ | refine Vk.Calm.inBlock ?_)) hcl (by kernel_rfl) (by kernel_rfl) (fuel := 2) rfl fun a hs => ?_
                refine Vk.dOnly (i := 11) (by kernel_rfl) (Vk.box (x := (.tmp 114)) 115 123 [C.int .i64 q_105.n, C.int .i64 0, C.int .i64 q_105.words, C.int .i64 0, C.int .i64 0, C.int .i64 v_146, C.int .i64 0, C.int .i64 0, C.slc none 0 0, C.slc none 0 0, C.slc none 0 0, C.slc none 0 0, C.int .i64 0, C.int .i64 0, C.bool true] hs (by kernel_rfl) (by kernel_rfl) (by kernel_rfl) fun b_147 w a hs => ?_)
                replace hcl : Own κ w C_143 := by rw [hC_143]; exact (Own.to hs.own [6, 7, 8, 9, 10, 11, 12, 13, 14, 15, 16, 17, 1, 2, 3, 4, 5] 18 (by kernel_rfl) (by kernel_rfl))
                refine ⟨fun _ => hcl, ?_⟩
                refine Vk.dPuresT [12] [(13, .pointer (some ⟨b_147, 0, none⟩))] hs (by kernel_rfl) (by repeat' (first | exact Vk.Calm.post | refine Vk.Calm.then ?_ | refine Vk.Calm.inBlock ?_)) hcl (by kernel_rfl) (by kernel_rfl) (fuel := 0) rfl fun a hs => ?_
                replace hs := hs.pick [3, 11, 13, 14] (L' := [(3, .slice A_x3 x3.length c_x3), (11, .pointer (some ⟨br130x0_133, 0, none⟩)), (13, .pointer (some ⟨b_147, 0, none⟩)), (14, .int .i64 q_114)]) (by kernel_rfl)
                refine Vk.dDone (by kernel_rfl) ?_
                replace hs := hs.addRow none 32 6 Tapi_Op.cells
                replace hs := hs.addRow none 144 3 Tapi_Span.cells
                replace hs := hs.addRow none 23 1 (eI .u64)
                replace hs := hs.addRd (A := none) (cap := 0) (sz := 1) (enc := (eI .u64)) (xs := ([] : List Int)) Sl.nil
                exact hj119 v_132 (⟨q_105.n, 0, q_105.words, 0, 0, v_146, 0, 0, ([] : List Tapi_Op), ([] : List Tapi_Span), ([] : List Int), (⟨([] : List Int), 0, 0⟩ : Tvisorref02_T), true⟩ : Tvisorref19_M) hm br130x0_133 br130x0otape_134 Ar130x0otapeowords_135 cr130x0otapeowords_136 Ar130x0oops_137 cr130x0oops_138 Ar130x0ovalues_139 cr130x0ovalues_140 Ar130x0oblocks_141 cr130x0oblocks_142 b_147 none 0 none 0 none 0 none 0 _ _ (hs.go [3, 11, 13, 14] [10, 11, 12, 13, 14, 15, 4, 3, 2, 1, 0] 22 (by kernel_rfl) (by kernel_rfl) (by kernel_rfl))
              · replace hm := bif_f hm hb
                refine wp_skip ?_
                exact hj119 q_94 q_105 hm b_93 b_95 A_96 c_97 A_98 c_99 A_100 c_101 A_102 c_103 b_104 A_106 c_107 A_108 c_109 A_110 c_111 A_112 c_113 _ _ (hs.go [3, 11, 13, 14] [0, 1, 2, 3, 4, 5, 6, 7, 8, 9, 10] 11 (by kernel_rfl) (by kernel_rfl) (by kernel_rfl))
            · replace hm := bif_f hm hb
              refine wp_exit ?_
              exact hx92 (Option.some.inj hm).symm _ _ (hs.go [] [] 11 (by kernel_rfl) (by kernel_rfl) (by kernel_rfl))
          refine Vk.seq fun K88 hK88 => ?_
          refine Vk.region ?_
          refine Vk.pures 1 [(73, .bool ((decide (x2 ≥ 0)) && (decide (x2 ≤ 40))))] hs (by kernel_rfl) fun a hs => ?_
          replace hs := hs.pick [2, 3, 11, 13, 73] (L' := [(2, .int .i64 x2), (3, .slice A_x3 x3.length c_x3), (11, .pointer (some ⟨br25x0_32, 0, none⟩)), (13, .pointer (some ⟨br74x0_77, 0, none⟩)), (73, .bool ((decide (x2 ≥ 0)) && (decide (x2 ≤ 40))))]) (by kernel_rfl)
          refine Vk.done (by kernel_rfl) ?_
          refine hK88 _ _ ?_
          clear hK88
          refine Vk.condS (b := (decide (x2 ≥ 0)) && (decide (x2 ≤ 40))) hs (by kernel_rfl) (by kernel_rfl) (fun hb => ?_) (fun hb => ?_)
          · replace hm := bif_t hm hb
            refine Vk.region ?_
            refine Vk.pures 5 [(78, .pointer (some ⟨br74x0_77, 13, none⟩)), (77, .pointer (some ⟨br74x0_77, 11, none⟩)), (76, .pointer (some ⟨br74x0_77, 0, none⟩)), (75, .int .i64 x2), (74, .pointer (some ⟨br74x0_77, 0, none⟩))] hs (by kernel_rfl) fun a hs => ?_
            refine Vk.step (Vk.store1 (b := br74x0_77) (ty := 3) (x := (.tmp 78)) (y := (.tmp 75)) (off := 13) (C.int .i64 x2) 0 hs (by kernel_rfl) (by kernel_rfl) (by kernel_rfl) (by kernel_rfl) (by kernel_rfl) (by kernel_rfl) rfl (Nat.le_of_ble_eq_true (by kernel_rfl)) fun a w hs => ?_)
            replace hs := hs.pick [3, 11, 13] (L' := [(3, .slice A_x3 x3.length c_x3), (11, .pointer (some ⟨br25x0_32, 0, none⟩)), (13, .pointer (some ⟨br74x0_77, 0, none⟩))]) (by kernel_rfl)
            refine Vk.done (by kernel_rfl) ?_
            exact hj87 (⟨v_76.n, v_76.most, v_76.words, v_76.draws, v_76.fromF, v_76.skip, v_76.kind, v_76.e, v_76.ops, v_76.blocks, v_76.val, (⟨v_76.tape.l, v_76.tape.used, x2⟩ : Tvisorref02_T), v_76.dry⟩ : Tvisorref19_M) hm _ _ (hs.go [3, 11, 13] [5, 6, 7, 8, 9, 10, 0, 1, 2, 3, 4] 12 (by kernel_rfl) (by kernel_rfl) (by kernel_rfl))
          · replace hm := bif_f hm hb
            refine wp_skip ?_
            exact hj87 (⟨v_76.n, v_76.most, v_76.words, v_76.draws, v_76.fromF, v_76.skip, v_76.kind, v_76.e, v_76.ops, v_76.blocks, v_76.val, (⟨v_76.tape.l, v_76.tape.used, 0⟩ : Tvisorref02_T), v_76.dry⟩ : Tvisorref19_M) hm _ _ (hs.go [3, 11, 13] [5, 6, 7, 8, 9, 10, 0, 1, 2, 3, 4] 12 (by kernel_rfl) (by kernel_rfl) (by kernel_rfl))

end Go.Proofs.Ytjjdlidjlepgeaa
