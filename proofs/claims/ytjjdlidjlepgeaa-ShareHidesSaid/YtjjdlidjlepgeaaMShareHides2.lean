/- Of each Go function that ShareHides comes to: a model in plain Lean, and that the program's call does what the model says; no condition. -/
import Derived.Test.YtjjdlidjlepgeaaProg
import Derived.Test.YtjjdlidjlepgeaaVollbmjpn
import Derived.Test.YtjjdlidjlepgeaaMShareHides1
namespace Go.Proofs.Ytjjdlidjlepgeaa
open Go Go.Vk
set_option linter.unusedVariables false


abbrev share_none.R (κ : Ctx) (S : List HP) (r : Cells) : Ending → World → Prop := fun e w' => e = .returned (.agg (vals r)) ∧ Own κ w' (S)
def share_none.m (k : Nat) : Option Cells := some [C.int .i64 (-1), C.int .i64 (-1), C.int .i64 (-1)]

set_option maxRecDepth 100000 in
set_option maxHeartbeats 4000000 in
theorem share_none.ok (k : Nat) (r : Cells) (hm : share_none.m k = some r) (κ : Ctx) (w : World) (S : List HP) (ho : Own κ w (S)) :
    Calls Try.prog 87 #[] w (share_none.R κ S r) := by
  unfold share_none.m at hm
  refine Vk.enter [] Try.func87 rfl Try.ntmps87 (by kernel_rfl) (Nat.le_of_ble_eq_true (by kernel_rfl)) ho fun a hs => ?_
  refine Vk.seq fun K1 hK1 => ?_
  refine Vk.region ?_
  refine Vk.step (Vk.alloc 0 65 [C.int .i64 0, C.int .i64 0, C.int .i64 0] hs (by kernel_rfl) (by kernel_rfl) (by kernel_rfl) fun b_2 w a hs => ?_)
  replace hs := hs.pick [0] (L' := [(0, .pointer (some ⟨b_2, 0, none⟩))]) (by kernel_rfl)
  refine Vk.done (by kernel_rfl) ?_
  refine hK1 _ _ ?_
  clear hK1
  refine Vk.seq fun K3 hK3 => ?_
  refine Vk.region ?_
  refine Vk.pures 2 [(2, .agg (vals [C.int .i64 (-1), C.int .i64 (-1), C.int .i64 (-1)])), (1, .agg (vals [C.int .i64 (-1), C.int .i64 (-1), C.int .i64 (-1)]))] hs (by kernel_rfl) fun a hs => ?_
  refine Vk.step (Vk.storeA (b := b_2) (ty := 65) (x := (.tmp 0)) (y := (.tmp 2)) (sz := 3) [C.int .i64 (-1), C.int .i64 (-1), C.int .i64 (-1)] 0 hs (by kernel_rfl) (by kernel_rfl) (by kernel_rfl) (by kernel_rfl) (by kernel_rfl) rfl (by kernel_rfl) rfl (Eq.trans (b := 3) rfl (Eq.symm rfl)) fun a w hs => ?_)
  replace hs := hs.pick [0] (L' := [(0, .pointer (some ⟨b_2, 0, none⟩))]) (by kernel_rfl)
  refine Vk.done (by kernel_rfl) ?_
  refine hK3 _ _ ?_
  clear hK3
  refine wp_ret ?_
  exact Vk.retC (P := Try.prog) (fn := Try.f87) (R := share_none.R κ S r) [C.int .i64 (-1), C.int .i64 (-1), C.int .i64 (-1)] hs rfl (by kernel_rfl) (sz := 3) (by kernel_rfl) rfl (CellsAt.all 0 rfl) (by obtain rfl := Option.some.inj hm; exact ⟨rfl, (Own.to hs.own [] 1 (by kernel_rfl) (by kernel_rfl))⟩)


def share_Public.j1 (k : Nat) (rec20 : Twire_Machine → Cells → Int → Option (Cells × Twire_Machine)) (q_30 : Cells) (q_31 : Int) (p_64 : Int) (p_65 : Twire_Machine) : Option (Cells × Twire_Machine) := (if 0 ≤ q_31 ∧ q_31 < 3 then (if 0 + q_31.toNat * 1 < q_30.length then rec20 p_65 (q_30.set (0 + q_31.toNat * 1) (C.int .i64 p_64)) (IntKind.i64.wrap (q_31 + 1)) else none) else none)
def share_Public.l1 (x1 : Int) (v_19 : Int) : Nat → Twire_Machine → Cells → Int → Option (Cells × Twire_Machine)
  | 0, _, _, _ => none
  | k + 1, q_21, q_30, q_31 => (bif decide (q_31 < v_19) then (bif decide (q_31 > 0) then (wire_Machine_Const.m k q_21 q_31 0).bind fun v_43 => share_Public.j1 k (share_Public.l1 x1 v_19 k) q_30 q_31 v_43.1 v_43.2 else (wire_Machine_Const.m k q_21 q_31 x1).bind fun v_55 => share_Public.j1 k (share_Public.l1 x1 v_19 k) q_30 q_31 v_55.1 v_55.2) else some (q_30, q_21))
abbrev share_Public.R (κ : Ctx) (S : List HP) (x0 : Twire_Machine) (x1 : Int) (b_x0 : Nat) (b_x0otape : Nat) (A_x0otapeowords : Option Addr) (c_x0otapeowords : Nat) (A_x0oops : Option Addr) (c_x0oops : Nat) (A_x0ovalues : Option Addr) (c_x0ovalues : Nat) (A_x0oblocks : Option Addr) (c_x0oblocks : Nat) (r : (Cells × Twire_Machine)) : Ending → World → Prop := fun e w' => ∃ (A_y0otapeowords : Option Addr), ∃ (c_y0otapeowords : Nat), ∃ (A_y0oops : Option Addr), ∃ (c_y0oops : Nat), ∃ (A_y0ovalues : Option Addr), ∃ (c_y0ovalues : Nat), ∃ (A_y0oblocks : Option Addr), ∃ (c_y0oblocks : Nat), e = .returned (.agg (vals r.1)) ∧ Own κ w' (pt b_x0 (blk (Twire_Machine.obj r.2 b_x0otape A_y0oops c_y0oops A_y0ovalues c_y0ovalues A_y0oblocks c_y0oblocks) 151) :: pt b_x0otape (blk (Ttape_Tape.obj r.2.tape A_y0otapeowords c_y0otapeowords) 158) :: rowp A_y0otapeowords c_y0otapeowords 23 1 (eI .u64) r.2.tape.words :: rowp A_y0oops c_y0oops 32 6 Tapi_Op.cells r.2.ops :: rowp A_y0ovalues c_y0ovalues 23 1 (eI .u64) r.2.values :: rowp A_y0oblocks c_y0oblocks 144 3 Tapi_Span.cells r.2.blocks :: S)
def share_Public.m (k : Nat) (x0 : Twire_Machine) (x1 : Int) : Option (Cells × Twire_Machine) := (share_none.m k).bind fun v_12 => (if v_12.length = 3 then (wire_Machine_N.m k x0).bind fun v_19 => (share_Public.l1 x1 v_19 k x0 v_12 0).bind fun x => match x with | (p_80, p_81) => (if p_80.length = 3 then some (p_80, p_81) else none) else none)

set_option maxRecDepth 100000 in
set_option maxHeartbeats 4000000 in
theorem share_Public.ok (k : Nat) (x0 : Twire_Machine) (x1 : Int) (r : (Cells × Twire_Machine)) (hm : share_Public.m k x0 x1 = some r) (κ : Ctx) (w : World) (S : List HP) (b_x0 : Nat) (b_x0otape : Nat) (A_x0otapeowords : Option Addr) (c_x0otapeowords : Nat) (A_x0oops : Option Addr) (c_x0oops : Nat) (A_x0ovalues : Option Addr) (c_x0ovalues : Nat) (A_x0oblocks : Option Addr) (c_x0oblocks : Nat) (ho : Own κ w (pt b_x0 (blk (Twire_Machine.obj x0 b_x0otape A_x0oops c_x0oops A_x0ovalues c_x0ovalues A_x0oblocks c_x0oblocks) 151) :: pt b_x0otape (blk (Ttape_Tape.obj x0.tape A_x0otapeowords c_x0otapeowords) 158) :: rowp A_x0otapeowords c_x0otapeowords 23 1 (eI .u64) x0.tape.words :: rowp A_x0oops c_x0oops 32 6 Tapi_Op.cells x0.ops :: rowp A_x0ovalues c_x0ovalues 23 1 (eI .u64) x0.values :: rowp A_x0oblocks c_x0oblocks 144 3 Tapi_Span.cells x0.blocks :: S)) :
    Calls Try.prog 86 #[.pointer (some ⟨b_x0, 0, none⟩), .int .u64 x1] w (share_Public.R κ S x0 x1 b_x0 b_x0otape A_x0otapeowords c_x0otapeowords A_x0oops c_x0oops A_x0ovalues c_x0ovalues A_x0oblocks c_x0oblocks r) := by
  unfold share_Public.m at hm
  refine Vk.enter [(0, .pointer (some ⟨b_x0, 0, none⟩)), (1, .int .u64 x1)] Try.func86 rfl Try.ntmps86 (by kernel_rfl) (Nat.le_of_ble_eq_true (by kernel_rfl)) ho fun a hs => ?_
  refine Vk.seq fun K1 hK1 => ?_
  refine Vk.region ?_
  refine Vk.step (Vk.box (x := (.tmp 0)) 2 95 [C.ptr (some ⟨b_x0, 0, none⟩)] hs (by kernel_rfl) (by kernel_rfl) (by kernel_rfl) fun b_2 w a hs => ?_)
  refine Vk.step (Vk.box (x := (.tmp 1)) 3 23 [C.int .u64 x1] hs (by kernel_rfl) (by kernel_rfl) (by kernel_rfl) fun b_3 w a hs => ?_)
  refine Vk.step (Vk.alloc 4 65 [C.int .i64 0, C.int .i64 0, C.int .i64 0] hs (by kernel_rfl) (by kernel_rfl) (by kernel_rfl) fun b_4 w a hs => ?_)
  replace hs := hs.pick [2, 3, 4] (L' := [(2, .pointer (some ⟨b_2, 0, none⟩)), (3, .pointer (some ⟨b_3, 0, none⟩)), (4, .pointer (some ⟨b_4, 0, none⟩))]) (by kernel_rfl)
  refine Vk.done (by kernel_rfl) ?_
  refine hK1 _ _ ?_
  clear hK1
  refine Vk.seq fun K5 hK5 => ?_
  refine Vk.region ?_
  refine Vk.step (Vk.value (some 5) (.pointer (some ⟨b_x0, 0, none⟩)) hs (by kernel_rfl) (op := (.load 95 (.tmp 2))) (by kernel_rfl) (fun o ho => run_load1 (b := b_2) (off := 0) (c := C.ptr (some ⟨b_x0, 0, none⟩)) ho (by kernel_rfl) (by kernel_rfl) (Cell.own 2 rfl (by kernel_rfl)) _ hs.own) fun a hs => ?_)
  refine Vk.pures 1 [(6, .func (.func 120) #[] #[.pointer (some ⟨b_2, 0, none⟩), .pointer (some ⟨b_3, 0, none⟩)])] hs (by kernel_rfl) fun a hs => ?_
  refine Vk.step (Vk.call (some 7) 119 #[.pointer (some ⟨b_x0, 0, none⟩), .func (.func 120) #[] #[.pointer (some ⟨b_2, 0, none⟩), .pointer (some ⟨b_3, 0, none⟩)]] hs (by kernel_rfl) (by kernel_rfl) (by kernel_rfl) ?_)
  refine Vk.enterI [(0, .pointer (some ⟨b_x0, 0, none⟩)), (1, .func (.func 120) #[] #[.pointer (some ⟨b_2, 0, none⟩), .pointer (some ⟨b_3, 0, none⟩)])] Try.func119 rfl Try.ntmps119 (by kernel_rfl) (Nat.le_of_ble_eq_true (by kernel_rfl)) hs.own fun KR6 hKR6 hKP6 a hs => ?_
  refine Vk.seq fun K7 hK7 => ?_
  refine Vk.region ?_
  refine Vk.step (Vk.alloc 4 65 [C.int .i64 0, C.int .i64 0, C.int .i64 0] hs (by kernel_rfl) (by kernel_rfl) (by kernel_rfl) fun b_8 w a hs => ?_)
  replace hs := hs.pick [0, 1, 4] (L' := [(0, .pointer (some ⟨b_x0, 0, none⟩)), (1, .func (.func 120) #[] #[.pointer (some ⟨b_2, 0, none⟩), .pointer (some ⟨b_3, 0, none⟩)]), (4, .pointer (some ⟨b_8, 0, none⟩))]) (by kernel_rfl)
  refine Vk.done (by kernel_rfl) ?_
  refine hK7 _ _ ?_
  clear hK7
  refine Vk.seq fun K9 hK9 => ?_
  refine Vk.region ?_
  obtain ⟨v_12, h_11, hm⟩ := bind_t hm
  refine Vk.step (Vk.call (some 7) 87 #[] hs (by kernel_rfl) (by kernel_rfl) (by kernel_rfl) ?_)
  refine (share_none.ok k v_12 h_11 κ w (pt b_8 (blk [C.int .i64 0, C.int .i64 0, C.int .i64 0] 65) :: pt b_4 (blk [C.int .i64 0, C.int .i64 0, C.int .i64 0] 65) :: pt b_3 (blk [C.int .u64 x1] 23) :: pt b_2 (blk [C.ptr (some ⟨b_x0, 0, none⟩)] 95) :: pt b_x0 (blk (Twire_Machine.obj x0 b_x0otape A_x0oops c_x0oops A_x0ovalues c_x0ovalues A_x0oblocks c_x0oblocks) 151) :: pt b_x0otape (blk (Ttape_Tape.obj x0.tape A_x0otapeowords c_x0otapeowords) 158) :: rowp A_x0otapeowords c_x0otapeowords 23 1 (eI .u64) x0.tape.words :: rowp A_x0oops c_x0oops 32 6 Tapi_Op.cells x0.ops :: rowp A_x0ovalues c_x0ovalues 23 1 (eI .u64) x0.values :: rowp A_x0oblocks c_x0oblocks 144 3 Tapi_Span.cells x0.blocks :: S) hs.own).mono ?_
  rintro _ w ⟨rfl, how⟩
  refine ⟨_, _, _, rfl, how, fun a hs => ?_⟩
  refine Vk.step (Vk.alloc 5 65 [C.int .i64 0, C.int .i64 0, C.int .i64 0] hs (by kernel_rfl) (by kernel_rfl) (by kernel_rfl) fun b_13 w a hs => ?_)
  obtain ⟨h_14, hm⟩ := ite_t hm
  refine Vk.step (Vk.storeA (b := b_13) (ty := 65) (x := (.tmp 5)) (y := (.tmp 7)) (sz := 3) v_12 0 hs (by kernel_rfl) (by kernel_rfl) (by kernel_rfl) (by kernel_rfl) (by kernel_rfl) h_14 (by kernel_rfl) rfl (Eq.trans (b := 3) h_14 (Eq.symm rfl)) fun a w hs => ?_)
  replace hs := hs.pick [0, 1, 4, 5] (L' := [(0, .pointer (some ⟨b_x0, 0, none⟩)), (1, .func (.func 120) #[] #[.pointer (some ⟨b_2, 0, none⟩), .pointer (some ⟨b_3, 0, none⟩)]), (4, .pointer (some ⟨b_8, 0, none⟩)), (5, .pointer (some ⟨b_13, 0, none⟩))]) (by kernel_rfl)
  refine Vk.done (by kernel_rfl) ?_
  refine hK9 _ _ ?_
  clear hK9
  refine Vk.seq fun K15 hK15 => ?_
  refine Vk.seq fun K16 hK16 => ?_
  refine Vk.region ?_
  refine Vk.pures 1 [(8, .pointer (some ⟨b_x0, 0, none⟩))] hs (by kernel_rfl) fun a hs => ?_
  obtain ⟨v_19, h_18, hm⟩ := bind_t hm
  refine Vk.step (Vk.call (some 9) 88 #[.pointer (some ⟨b_x0, 0, none⟩)] hs (by kernel_rfl) (by kernel_rfl) (by kernel_rfl) ?_)
  refine (wire_Machine_N.ok k x0 v_19 h_18 κ w (pt b_13 (blk v_12 65) :: pt b_8 (blk [C.int .i64 0, C.int .i64 0, C.int .i64 0] 65) :: pt b_4 (blk [C.int .i64 0, C.int .i64 0, C.int .i64 0] 65) :: pt b_3 (blk [C.int .u64 x1] 23) :: pt b_2 (blk [C.ptr (some ⟨b_x0, 0, none⟩)] 95) :: S) b_x0 b_x0otape A_x0otapeowords c_x0otapeowords A_x0oops c_x0oops A_x0ovalues c_x0ovalues A_x0oblocks c_x0oblocks (Own.to hs.own [5, 6, 7, 8, 9, 10, 0, 1, 2, 3, 4] 11 (by kernel_rfl) (by kernel_rfl))).mono ?_
  rintro _ w ⟨rfl, how⟩
  refine ⟨_, _, _, rfl, how, fun a hs => ?_⟩
  refine Vk.pures 1 [(10, .int .i64 0)] hs (by kernel_rfl) fun a hs => ?_
  replace hs := hs.pick [1, 4, 5, 9, 10] (L' := [(1, .func (.func 120) #[] #[.pointer (some ⟨b_2, 0, none⟩), .pointer (some ⟨b_3, 0, none⟩)]), (4, .pointer (some ⟨b_8, 0, none⟩)), (5, .pointer (some ⟨b_13, 0, none⟩)), (9, .int .i64 v_19), (10, .int .i64 0)]) (by kernel_rfl)
  refine Vk.done (by kernel_rfl) ?_
  refine hK16 _ _ ?_
  clear hK16
  refine wp_block ?_
  obtain ⟨r20, hl20, hm⟩ := bind_t hm
  have hx20 : ∀ (p_80 : Cells) (p_81 : Twire_Machine), r20 = (p_80, p_81) → ∀ (A_82 : Option Addr) (c_83 : Nat) (A_84 : Option Addr) (c_85 : Nat) (A_86 : Option Addr) (c_87 : Nat) (A_88 : Option Addr) (c_89 : Nat) (a : Act) (w : World), St 21 a w κ [(4, .pointer (some ⟨b_8, 0, none⟩)), (5, .pointer (some ⟨b_13, 0, none⟩))] (pt b_8 (blk [C.int .i64 0, C.int .i64 0, C.int .i64 0] 65) :: pt b_13 (blk p_80 65) :: pt b_x0 (blk (Twire_Machine.obj p_81 b_x0otape A_84 c_85 A_86 c_87 A_88 c_89) 151) :: pt b_x0otape (blk (Ttape_Tape.obj p_81.tape A_82 c_83) 158) :: rowp A_82 c_83 23 1 (eI .u64) p_81.tape.words :: rowp A_84 c_85 32 6 Tapi_Op.cells p_81.ops :: rowp A_86 c_87 23 1 (eI .u64) p_81.values :: rowp A_88 c_89 144 3 Tapi_Span.cells p_81.blocks :: pt b_2 (blk [C.ptr (some ⟨b_x0, 0, none⟩)] 95) :: pt b_3 (blk [C.int .u64 x1] 23) :: pt b_4 (blk [C.int .i64 0, C.int .i64 0, C.int .i64 0] 65) :: S) → K15 a w := by
    intro p_80 p_81 he A_82 c_83 A_84 c_85 A_86 c_87 A_88 c_89 a w hs
    subst r20
    refine hK15 _ _ ?_
    clear hK15
    refine Vk.seq fun K101 hK101 => ?_
    refine Vk.region ?_
    obtain ⟨h_102, hm⟩ := ite_t hm
    refine Vk.step (Vk.value (some 20) (.agg (vals p_80)) hs (by kernel_rfl) (op := (.load 65 (.tmp 5))) (by kernel_rfl) (fun o ho => run_loadN (cs := p_80) ho (by kernel_rfl) (by kernel_rfl) h_102 (CellsAt.all 1 rfl) _ hs.own) fun a hs => ?_)
    refine Vk.step (Vk.storeA (b := b_8) (ty := 65) (x := (.tmp 4)) (y := (.tmp 20)) (sz := 3) p_80 0 hs (by kernel_rfl) (by kernel_rfl) (by kernel_rfl) (by kernel_rfl) (by kernel_rfl) h_102 (by kernel_rfl) rfl (Eq.trans (b := 3) h_102 (Eq.symm rfl)) fun a w hs => ?_)
    replace hs := hs.pick [4] (L' := [(4, .pointer (some ⟨b_8, 0, none⟩))]) (by kernel_rfl)
    refine Vk.done (by kernel_rfl) ?_
    refine hK101 _ _ ?_
    clear hK101
    refine wp_ret ?_
    refine hKP6 _ _ ?_
    refine hKR6 _ _ ?_
    refine Vk.retC (P := Try.prog) (fn := Try.f119) p_80 hs rfl (by kernel_rfl) (sz := 3) (by kernel_rfl) h_102 (CellsAt.all 0 rfl) ⟨_, _, _, rfl, hs.own, fun a hs => ?_⟩
    refine Vk.step (Vk.storeA (b := b_4) (ty := 65) (x := (.tmp 4)) (y := (.tmp 7)) (sz := 3) p_80 10 hs (by kernel_rfl) (by kernel_rfl) (by kernel_rfl) (by kernel_rfl) (by kernel_rfl) h_102 (by kernel_rfl) rfl (Eq.trans (b := 3) h_102 (Eq.symm rfl)) fun a w hs => ?_)
    replace hs := hs.pick [4] (L' := [(4, .pointer (some ⟨b_4, 0, none⟩))]) (by kernel_rfl)
    refine Vk.done (by kernel_rfl) ?_
    refine hK5 _ _ ?_
    clear hK5
    refine wp_ret ?_
    exact Vk.retC (P := Try.prog) (fn := Try.f86) (R := share_Public.R κ S x0 x1 b_x0 b_x0otape A_x0otapeowords c_x0otapeowords A_x0oops c_x0oops A_x0ovalues c_x0ovalues A_x0oblocks c_x0oblocks r) p_80 hs rfl (by kernel_rfl) (sz := 3) (by kernel_rfl) h_102 (CellsAt.all 10 rfl) (by obtain rfl := Option.some.inj hm; exact ⟨A_82, c_83, A_84, c_85, A_86, c_87, A_88, c_89, rfl, (Own.to hs.own [2, 3, 4, 5, 6, 7] 11 (by kernel_rfl) (by kernel_rfl))⟩)
  refine Vk.loopBy (fun k (s : Twire_Machine × Cells × Int) a w => ∃ (A_22 : Option Addr), ∃ (c_23 : Nat), ∃ (A_24 : Option Addr), ∃ (c_25 : Nat), ∃ (A_26 : Option Addr), ∃ (c_27 : Nat), ∃ (A_28 : Option Addr), ∃ (c_29 : Nat), share_Public.l1 x1 v_19 k s.1 s.2.1 s.2.2 = some r20 ∧ St 21 a w κ [(1, .func (.func 120) #[] #[.pointer (some ⟨b_2, 0, none⟩), .pointer (some ⟨b_3, 0, none⟩)]), (4, .pointer (some ⟨b_8, 0, none⟩)), (5, .pointer (some ⟨b_13, 0, none⟩)), (9, .int .i64 v_19), (10, .int .i64 s.2.2)] (pt b_2 (blk [C.ptr (some ⟨b_x0, 0, none⟩)] 95) :: pt b_x0 (blk (Twire_Machine.obj s.1 b_x0otape A_24 c_25 A_26 c_27 A_28 c_29) 151) :: pt b_x0otape (blk (Ttape_Tape.obj s.1.tape A_22 c_23) 158) :: rowp A_22 c_23 23 1 (eI .u64) s.1.tape.words :: rowp A_24 c_25 32 6 Tapi_Op.cells s.1.ops :: rowp A_26 c_27 23 1 (eI .u64) s.1.values :: rowp A_28 c_29 144 3 Tapi_Span.cells s.1.blocks :: pt b_3 (blk [C.int .u64 x1] 23) :: pt b_8 (blk [C.int .i64 0, C.int .i64 0, C.int .i64 0] 65) :: pt b_13 (blk s.2.1 65) :: pt b_4 (blk [C.int .i64 0, C.int .i64 0, C.int .i64 0] 65) :: S)) k (x0, v_12, 0) ⟨A_x0otapeowords, c_x0otapeowords, A_x0oops, c_x0oops, A_x0ovalues, c_x0ovalues, A_x0oblocks, c_x0oblocks, hl20, hs.go [1, 4, 5, 9, 10] [10, 0, 1, 2, 3, 4, 5, 9, 7, 6, 8] 11 (by kernel_rfl) (by kernel_rfl) (by kernel_rfl)⟩ (fun s a w h => by obtain ⟨_, _, _, _, _, _, _, _, h1, _⟩ := h; simp [share_Public.l1] at h1) (fun k KL20 ih s a w h => ?_)
  obtain ⟨q_21, q_30, q_31⟩ := s
  obtain ⟨A_22, c_23, A_24, c_25, A_26, c_27, A_28, c_29, hm, hs⟩ := h
  try dsimp only at hm hs
  rw [share_Public.l1] at hm
  refine Vk.seq fun K32 hK32 => ?_
  refine Vk.region ?_
  refine Vk.pures 1 [(11, .bool (decide (q_31 < v_19)))] hs (by kernel_rfl) fun a hs => ?_
  replace hs := hs.pick [1, 4, 5, 9, 10, 11] (L' := [(1, .func (.func 120) #[] #[.pointer (some ⟨b_2, 0, none⟩), .pointer (some ⟨b_3, 0, none⟩)]), (4, .pointer (some ⟨b_8, 0, none⟩)), (5, .pointer (some ⟨b_13, 0, none⟩)), (9, .int .i64 v_19), (10, .int .i64 q_31), (11, .bool (decide (q_31 < v_19)))]) (by kernel_rfl)
  refine Vk.done (by kernel_rfl) ?_
  refine hK32 _ _ ?_
  clear hK32
  refine Vk.seq fun K33 hK33 => ?_
  refine Vk.condS (b := decide (q_31 < v_19)) hs (by kernel_rfl) (by kernel_rfl) (fun hb => ?_) (fun hb => ?_)
  · replace hm := bif_t hm hb
    refine wp_skip ?_
    refine hK33 _ _ ?_
    clear hK33
    refine Vk.seq fun K34 hK34 => ?_
    refine wp_block ?_
    refine Vk.seq fun K35 hK35 => ?_
    refine Vk.region ?_
    refine Vk.pures 2 [(6, .int .i64 q_31), (12, .int .i64 q_31)] hs (by kernel_rfl) fun a hs => ?_
    replace hs := hs.pick [1, 4, 5, 6, 9, 10] (L' := [(1, .func (.func 120) #[] #[.pointer (some ⟨b_2, 0, none⟩), .pointer (some ⟨b_3, 0, none⟩)]), (4, .pointer (some ⟨b_8, 0, none⟩)), (5, .pointer (some ⟨b_13, 0, none⟩)), (6, .int .i64 q_31), (9, .int .i64 v_19), (10, .int .i64 q_31)]) (by kernel_rfl)
    refine Vk.done (by kernel_rfl) ?_
    refine hK35 _ _ ?_
    clear hK35
    refine Vk.region ?_
    refine Vk.pures 3 [(15, .int .i64 q_31), (14, .func (.func 120) #[] #[.pointer (some ⟨b_2, 0, none⟩), .pointer (some ⟨b_3, 0, none⟩)]), (13, .int .i64 q_31)] hs (by kernel_rfl) fun a hs => ?_
    refine Vk.step (Vk.call (some 16) 120 #[.int .i64 q_31, .pointer (some ⟨b_2, 0, none⟩), .pointer (some ⟨b_3, 0, none⟩)] hs (by kernel_rfl) (by kernel_rfl) (by kernel_rfl) ?_)
    refine Vk.enterI [(0, .int .i64 q_31), (1, .pointer (some ⟨b_2, 0, none⟩)), (2, .pointer (some ⟨b_3, 0, none⟩))] Try.func120 rfl Try.ntmps120 (by kernel_rfl) (Nat.le_of_ble_eq_true (by kernel_rfl)) hs.own fun KR36 hKR36 hKP36 a hs => ?_
    have hj36 : ∀ (p_64 : Int) (p_65 : Twire_Machine), share_Public.j1 k (share_Public.l1 x1 v_19 k) q_30 q_31 p_64 p_65 = some r20 → ∀ (A_66 : Option Addr) (c_67 : Nat) (A_69 : Option Addr) (c_70 : Nat) (A_72 : Option Addr) (c_73 : Nat) (A_75 : Option Addr) (c_76 : Nat) (a : Act) (w : World), St 14 a w κ [(4, .int .i64 p_64)] (pt b_x0 (blk (Twire_Machine.obj p_65 b_x0otape A_69 c_70 A_72 c_73 A_75 c_76) 151) :: pt b_x0otape (blk (Ttape_Tape.obj p_65.tape A_66 c_67) 158) :: rowp A_66 c_67 23 1 (eI .u64) p_65.tape.words :: rowp A_69 c_70 32 6 Tapi_Op.cells p_65.ops :: rowp A_72 c_73 23 1 (eI .u64) p_65.values :: rowp A_75 c_76 144 3 Tapi_Span.cells p_65.blocks :: pt b_2 (blk [C.ptr (some ⟨b_x0, 0, none⟩)] 95) :: pt b_3 (blk [C.int .u64 x1] 23) :: pt b_4 (blk [C.int .i64 0, C.int .i64 0, C.int .i64 0] 65) :: pt b_8 (blk [C.int .i64 0, C.int .i64 0, C.int .i64 0] 65) :: pt b_13 (blk q_30 65) :: S) → KR36 a w := by
      intro p_64 p_65 hm A_66 c_67 A_69 c_70 A_72 c_73 A_75 c_76 a w hs
      unfold share_Public.j1 at hm
      refine hKR36 _ _ ?_
      refine Vk.ret1 (P := Try.prog) (fn := Try.f120) (.int .i64 p_64) hs rfl (by kernel_rfl) ⟨_, _, _, rfl, hs.own, fun a hs => ?_⟩
      refine Vk.pures 1 [(17, .pointer (some ⟨b_13, 0, none⟩))] hs (by kernel_rfl) fun a hs => ?_
      obtain ⟨h_78, hm⟩ := ite_t hm
      refine Vk.step (Vk.value (some 18) (.pointer (some ⟨b_13, 0 + q_31.toNat * 1, none⟩)) hs (by kernel_rfl) (op := (.indexAddr 63 (.tmp 17) (.tmp 13))) (by kernel_rfl) (fun o ho => run_idxArr (k := .i64) ho (by kernel_rfl) (by kernel_rfl) (by kernel_rfl) h_78 _) fun a hs => ?_)
      obtain ⟨h_79, hm⟩ := ite_t hm
      refine Vk.step (Vk.store1 (b := b_13) (ty := 3) (x := (.tmp 18)) (y := (.tmp 16)) (off := 0 + q_31.toNat * 1) (C.int .i64 p_64) 10 hs (by kernel_rfl) (by kernel_rfl) (by kernel_rfl) (by kernel_rfl) (by kernel_rfl) (by kernel_rfl) rfl h_79 fun a w hs => ?_)
      replace hs := hs.pick [1, 4, 5, 9, 10] (L' := [(1, .func (.func 120) #[] #[.pointer (some ⟨b_2, 0, none⟩), .pointer (some ⟨b_3, 0, none⟩)]), (4, .pointer (some ⟨b_8, 0, none⟩)), (5, .pointer (some ⟨b_13, 0, none⟩)), (9, .int .i64 v_19), (10, .int .i64 q_31)]) (by kernel_rfl)
      refine Vk.done (by kernel_rfl) ?_
      refine hK34 _ _ ?_
      clear hK34
      refine Vk.region ?_
      refine Vk.pures 2 [(10, .int .i64 (IntKind.i64.wrap (q_31 + 1))), (19, .int .i64 (IntKind.i64.wrap (q_31 + 1)))] hs (by kernel_rfl) fun a hs => ?_
      replace hs := hs.pick [1, 4, 5, 9, 10] (L' := [(1, .func (.func 120) #[] #[.pointer (some ⟨b_2, 0, none⟩), .pointer (some ⟨b_3, 0, none⟩)]), (4, .pointer (some ⟨b_8, 0, none⟩)), (5, .pointer (some ⟨b_13, 0, none⟩)), (9, .int .i64 v_19), (10, .int .i64 (IntKind.i64.wrap (q_31 + 1)))]) (by kernel_rfl)
      refine Vk.done (by kernel_rfl) ?_
      refine ih (p_65, (q_30.set (0 + q_31.toNat * 1) (C.int .i64 p_64)), (IntKind.i64.wrap (q_31 + 1))) _ _ ⟨A_66, c_67, A_69, c_70, A_72, c_73, A_75, c_76, hm, hs.go [1, 4, 5, 9, 10] [6, 0, 1, 2, 3, 4, 5, 7, 9, 10, 8] 11 (by kernel_rfl) (by kernel_rfl) (by kernel_rfl)⟩
    refine Vk.seq fun K37 hK37 => ?_
    refine Vk.region ?_
    refine Vk.pures 1 [(4, .int .i64 0)] hs (by kernel_rfl) fun a hs => ?_
    replace hs := hs.pick [0, 1, 2] (L' := [(0, .int .i64 q_31), (1, .pointer (some ⟨b_2, 0, none⟩)), (2, .pointer (some ⟨b_3, 0, none⟩))]) (by kernel_rfl)
    refine Vk.done (by kernel_rfl) ?_
    refine hK37 _ _ ?_
    clear hK37
    refine Vk.seq fun K38 hK38 => ?_
    refine Vk.seq fun K39 hK39 => ?_
    refine Vk.region ?_
    refine Vk.pures 2 [(6, .bool (decide (q_31 > 0))), (5, .int .i64 q_31)] hs (by kernel_rfl) fun a hs => ?_
    replace hs := hs.pick [0, 1, 2, 6] (L' := [(0, .int .i64 q_31), (1, .pointer (some ⟨b_2, 0, none⟩)), (2, .pointer (some ⟨b_3, 0, none⟩)), (6, .bool (decide (q_31 > 0)))]) (by kernel_rfl)
    refine Vk.done (by kernel_rfl) ?_
    refine hK39 _ _ ?_
    clear hK39
    refine Vk.condS (b := decide (q_31 > 0)) hs (by kernel_rfl) (by kernel_rfl) (fun hb => ?_) (fun hb => ?_)
    · replace hm := bif_t hm hb
      refine Vk.seq fun K40 hK40 => ?_
      refine Vk.region ?_
      refine Vk.step (Vk.value (some 7) (.pointer (some ⟨b_x0, 0, none⟩)) hs (by kernel_rfl) (op := (.load 95 (.tmp 1))) (by kernel_rfl) (fun o ho => run_load1 (b := b_2) (off := 0) (c := C.ptr (some ⟨b_x0, 0, none⟩)) ho (by kernel_rfl) (by kernel_rfl) (Cell.own 0 rfl (by kernel_rfl)) _ hs.own) fun a hs => ?_)
      refine Vk.pures 1 [(8, .int .i64 q_31)] hs (by kernel_rfl) fun a hs => ?_
      obtain ⟨v_43, h_42, hm⟩ := bind_t hm
      refine Vk.step (Vk.call (some 9) 100 #[.pointer (some ⟨b_x0, 0, none⟩), .int .i64 q_31, .int .u64 0] hs (by kernel_rfl) (by kernel_rfl) (by kernel_rfl) ?_)
      refine (wire_Machine_Const.ok k q_21 q_31 0 v_43 h_42 κ w (pt b_2 (blk [C.ptr (some ⟨b_x0, 0, none⟩)] 95) :: pt b_3 (blk [C.int .u64 x1] 23) :: pt b_8 (blk [C.int .i64 0, C.int .i64 0, C.int .i64 0] 65) :: pt b_13 (blk q_30 65) :: pt b_4 (blk [C.int .i64 0, C.int .i64 0, C.int .i64 0] 65) :: S) b_x0 b_x0otape A_22 c_23 A_24 c_25 A_26 c_27 A_28 c_29 (Own.to hs.own [1, 2, 3, 4, 5, 6, 0, 7, 8, 9, 10] 11 (by kernel_rfl) (by kernel_rfl))).mono ?_
      rintro _ w ⟨Ar41o0otapeowords_44, cr41o0otapeowords_45, Ar41o0oops_46, cr41o0oops_47, Ar41o0ovalues_48, cr41o0ovalues_49, Ar41o0oblocks_50, cr41o0oblocks_51, rfl, how⟩
      refine ⟨_, _, _, rfl, how, fun a hs => ?_⟩
      refine Vk.pures 1 [(4, .int .i64 v_43.1)] hs (by kernel_rfl) fun a hs => ?_
      replace hs := hs.pick [4] (L' := [(4, .int .i64 v_43.1)]) (by kernel_rfl)
      refine Vk.done (by kernel_rfl) ?_
      refine hK40 _ _ ?_
      clear hK40
      refine wp_ret ?_
      refine hKP36 _ _ ?_
      exact hj36 v_43.1 v_43.2 hm Ar41o0otapeowords_44 cr41o0otapeowords_45 Ar41o0oops_46 cr41o0oops_47 Ar41o0ovalues_48 cr41o0ovalues_49 Ar41o0oblocks_50 cr41o0oblocks_51 _ _ (hs.go [4] [0, 1, 2, 3, 4, 5, 6, 7, 10, 8, 9] 11 (by kernel_rfl) (by kernel_rfl) (by kernel_rfl))
    · replace hm := bif_f hm hb
      refine wp_skip ?_
      refine hK38 _ _ ?_
      clear hK38
      refine Vk.seq fun K52 hK52 => ?_
      refine Vk.region ?_
      refine Vk.step (Vk.value (some 10) (.pointer (some ⟨b_x0, 0, none⟩)) hs (by kernel_rfl) (op := (.load 95 (.tmp 1))) (by kernel_rfl) (fun o ho => run_load1 (b := b_2) (off := 0) (c := C.ptr (some ⟨b_x0, 0, none⟩)) ho (by kernel_rfl) (by kernel_rfl) (Cell.own 0 rfl (by kernel_rfl)) _ hs.own) fun a hs => ?_)
      refine Vk.pures 1 [(11, .int .i64 q_31)] hs (by kernel_rfl) fun a hs => ?_
      refine Vk.step (Vk.value (some 12) (.int .u64 x1) hs (by kernel_rfl) (op := (.load 23 (.tmp 2))) (by kernel_rfl) (fun o ho => run_load1 (b := b_3) (off := 0) (c := C.int .u64 x1) ho (by kernel_rfl) (by kernel_rfl) (Cell.own 7 rfl (by kernel_rfl)) _ hs.own) fun a hs => ?_)
      obtain ⟨v_55, h_54, hm⟩ := bind_t hm
      refine Vk.step (Vk.call (some 13) 100 #[.pointer (some ⟨b_x0, 0, none⟩), .int .i64 q_31, .int .u64 x1] hs (by kernel_rfl) (by kernel_rfl) (by kernel_rfl) ?_)
      refine (wire_Machine_Const.ok k q_21 q_31 x1 v_55 h_54 κ w (pt b_2 (blk [C.ptr (some ⟨b_x0, 0, none⟩)] 95) :: pt b_3 (blk [C.int .u64 x1] 23) :: pt b_8 (blk [C.int .i64 0, C.int .i64 0, C.int .i64 0] 65) :: pt b_13 (blk q_30 65) :: pt b_4 (blk [C.int .i64 0, C.int .i64 0, C.int .i64 0] 65) :: S) b_x0 b_x0otape A_22 c_23 A_24 c_25 A_26 c_27 A_28 c_29 (Own.to hs.own [1, 2, 3, 4, 5, 6, 0, 7, 8, 9, 10] 11 (by kernel_rfl) (by kernel_rfl))).mono ?_
      rintro _ w ⟨Ar53o0otapeowords_56, cr53o0otapeowords_57, Ar53o0oops_58, cr53o0oops_59, Ar53o0ovalues_60, cr53o0ovalues_61, Ar53o0oblocks_62, cr53o0oblocks_63, rfl, how⟩
      refine ⟨_, _, _, rfl, how, fun a hs => ?_⟩
      refine Vk.pures 1 [(4, .int .i64 v_55.1)] hs (by kernel_rfl) fun a hs => ?_
      replace hs := hs.pick [4] (L' := [(4, .int .i64 v_55.1)]) (by kernel_rfl)
      refine Vk.done (by kernel_rfl) ?_
      refine hK52 _ _ ?_
      clear hK52
      refine wp_ret ?_
      refine hKP36 _ _ ?_
      exact hj36 v_55.1 v_55.2 hm Ar53o0otapeowords_56 cr53o0otapeowords_57 Ar53o0oops_58 cr53o0oops_59 Ar53o0ovalues_60 cr53o0ovalues_61 Ar53o0oblocks_62 cr53o0oblocks_63 _ _ (hs.go [4] [0, 1, 2, 3, 4, 5, 6, 7, 10, 8, 9] 11 (by kernel_rfl) (by kernel_rfl) (by kernel_rfl))
  · replace hm := bif_f hm hb
    refine wp_exit ?_
    exact hx20 q_30 q_21 (Option.some.inj hm).symm A_22 c_23 A_24 c_25 A_26 c_27 A_28 c_29 _ _ (hs.go [4, 5] [8, 9, 1, 2, 3, 4, 5, 6, 0, 7, 10] 11 (by kernel_rfl) (by kernel_rfl) (by kernel_rfl))


def share_Encode.l1 : Nat → Twire_Machine → Cells → Int → Option (Twire_Machine × Cells)
  | 0, _, _, _ => none
  | k + 1, q_24, q_33, q_34 => (wire_Machine_N.m k q_24).bind fun v_39 => (bif decide (q_34 < v_39) then (wire_Machine_Rand.m k q_24 q_34).bind fun v_43 => (if 0 ≤ q_34 ∧ q_34 < 3 then (if 0 + q_34.toNat * 1 < q_33.length then share_Encode.l1 k v_43.2 (q_33.set (0 + q_34.toNat * 1) (C.int .i64 v_43.1)) (IntKind.i64.wrap (q_34 + 1)) else none) else none) else some (q_24, q_33))
abbrev share_Encode.R (κ : Ctx) (S : List HP) (x0 : Twire_Machine) (x1 : Int) (b_x0 : Nat) (b_x0otape : Nat) (A_x0otapeowords : Option Addr) (c_x0otapeowords : Nat) (A_x0oops : Option Addr) (c_x0oops : Nat) (A_x0ovalues : Option Addr) (c_x0ovalues : Nat) (A_x0oblocks : Option Addr) (c_x0oblocks : Nat) (r : (Cells × Twire_Machine)) : Ending → World → Prop := fun e w' => ∃ (A_y0otapeowords : Option Addr), ∃ (c_y0otapeowords : Nat), ∃ (A_y0oops : Option Addr), ∃ (c_y0oops : Nat), ∃ (A_y0ovalues : Option Addr), ∃ (c_y0ovalues : Nat), ∃ (A_y0oblocks : Option Addr), ∃ (c_y0oblocks : Nat), e = .returned (.agg (vals r.1)) ∧ Own κ w' (pt b_x0 (blk (Twire_Machine.obj r.2 b_x0otape A_y0oops c_y0oops A_y0ovalues c_y0ovalues A_y0oblocks c_y0oblocks) 151) :: pt b_x0otape (blk (Ttape_Tape.obj r.2.tape A_y0otapeowords c_y0otapeowords) 158) :: rowp A_y0otapeowords c_y0otapeowords 23 1 (eI .u64) r.2.tape.words :: rowp A_y0oops c_y0oops 32 6 Tapi_Op.cells r.2.ops :: rowp A_y0ovalues c_y0ovalues 23 1 (eI .u64) r.2.values :: rowp A_y0oblocks c_y0oblocks 144 3 Tapi_Span.cells r.2.blocks :: S)
def share_Encode.m (k : Nat) (x0 : Twire_Machine) (x1 : Int) : Option (Cells × Twire_Machine) := (share_none.m k).bind fun v_6 => (if v_6.length = 3 then (wire_Machine_Begin.m k x0 1).bind fun v_12 => (share_Encode.l1 k v_12 v_6 1).bind fun x => match x with | (p_54, p_63) => (getI .i64 p_63 (1)).bind fun v_77 => (getI .i64 p_63 (2)).bind fun v_79 => (wire_Machine_Key.m k p_54 x1 v_77 v_79).bind fun v_82 => (if 0 < p_63.length then (wire_Machine_End.m k v_82.2).bind fun v_95 => (if (p_63.set (0) (C.int .i64 v_82.1)).length = 3 then some ((p_63.set (0) (C.int .i64 v_82.1)), v_95) else none) else none) else none)

set_option maxRecDepth 100000 in
set_option maxHeartbeats 4000000 in
theorem share_Encode.ok (k : Nat) (x0 : Twire_Machine) (x1 : Int) (r : (Cells × Twire_Machine)) (hm : share_Encode.m k x0 x1 = some r) (κ : Ctx) (w : World) (S : List HP) (b_x0 : Nat) (b_x0otape : Nat) (A_x0otapeowords : Option Addr) (c_x0otapeowords : Nat) (A_x0oops : Option Addr) (c_x0oops : Nat) (A_x0ovalues : Option Addr) (c_x0ovalues : Nat) (A_x0oblocks : Option Addr) (c_x0oblocks : Nat) (ho : Own κ w (pt b_x0 (blk (Twire_Machine.obj x0 b_x0otape A_x0oops c_x0oops A_x0ovalues c_x0ovalues A_x0oblocks c_x0oblocks) 151) :: pt b_x0otape (blk (Ttape_Tape.obj x0.tape A_x0otapeowords c_x0otapeowords) 158) :: rowp A_x0otapeowords c_x0otapeowords 23 1 (eI .u64) x0.tape.words :: rowp A_x0oops c_x0oops 32 6 Tapi_Op.cells x0.ops :: rowp A_x0ovalues c_x0ovalues 23 1 (eI .u64) x0.values :: rowp A_x0oblocks c_x0oblocks 144 3 Tapi_Span.cells x0.blocks :: S)) :
    Calls Try.prog 52 #[.pointer (some ⟨b_x0, 0, none⟩), .int .u64 x1] w (share_Encode.R κ S x0 x1 b_x0 b_x0otape A_x0otapeowords c_x0otapeowords A_x0oops c_x0oops A_x0ovalues c_x0ovalues A_x0oblocks c_x0oblocks r) := by
  unfold share_Encode.m at hm
  refine Vk.enter [(0, .pointer (some ⟨b_x0, 0, none⟩)), (1, .int .u64 x1)] Try.func52 rfl Try.ntmps52 (by kernel_rfl) (Nat.le_of_ble_eq_true (by kernel_rfl)) ho fun a hs => ?_
  refine Vk.seq fun K1 hK1 => ?_
  refine Vk.region ?_
  refine Vk.step (Vk.alloc 4 65 [C.int .i64 0, C.int .i64 0, C.int .i64 0] hs (by kernel_rfl) (by kernel_rfl) (by kernel_rfl) fun b_2 w a hs => ?_)
  replace hs := hs.pick [0, 1, 4] (L' := [(0, .pointer (some ⟨b_x0, 0, none⟩)), (1, .int .u64 x1), (4, .pointer (some ⟨b_2, 0, none⟩))]) (by kernel_rfl)
  refine Vk.done (by kernel_rfl) ?_
  refine hK1 _ _ ?_
  clear hK1
  refine Vk.seq fun K3 hK3 => ?_
  refine Vk.region ?_
  obtain ⟨v_6, h_5, hm⟩ := bind_t hm
  refine Vk.step (Vk.call (some 7) 87 #[] hs (by kernel_rfl) (by kernel_rfl) (by kernel_rfl) ?_)
  refine (share_none.ok k v_6 h_5 κ w (pt b_2 (blk [C.int .i64 0, C.int .i64 0, C.int .i64 0] 65) :: pt b_x0 (blk (Twire_Machine.obj x0 b_x0otape A_x0oops c_x0oops A_x0ovalues c_x0ovalues A_x0oblocks c_x0oblocks) 151) :: pt b_x0otape (blk (Ttape_Tape.obj x0.tape A_x0otapeowords c_x0otapeowords) 158) :: rowp A_x0otapeowords c_x0otapeowords 23 1 (eI .u64) x0.tape.words :: rowp A_x0oops c_x0oops 32 6 Tapi_Op.cells x0.ops :: rowp A_x0ovalues c_x0ovalues 23 1 (eI .u64) x0.values :: rowp A_x0oblocks c_x0oblocks 144 3 Tapi_Span.cells x0.blocks :: S) hs.own).mono ?_
  rintro _ w ⟨rfl, how⟩
  refine ⟨_, _, _, rfl, how, fun a hs => ?_⟩
  refine Vk.step (Vk.alloc 5 65 [C.int .i64 0, C.int .i64 0, C.int .i64 0] hs (by kernel_rfl) (by kernel_rfl) (by kernel_rfl) fun b_7 w a hs => ?_)
  obtain ⟨h_8, hm⟩ := ite_t hm
  refine Vk.step (Vk.storeA (b := b_7) (ty := 65) (x := (.tmp 5)) (y := (.tmp 7)) (sz := 3) v_6 0 hs (by kernel_rfl) (by kernel_rfl) (by kernel_rfl) (by kernel_rfl) (by kernel_rfl) h_8 (by kernel_rfl) rfl (Eq.trans (b := 3) h_8 (Eq.symm rfl)) fun a w hs => ?_)
  replace hs := hs.pick [0, 1, 4, 5] (L' := [(0, .pointer (some ⟨b_x0, 0, none⟩)), (1, .int .u64 x1), (4, .pointer (some ⟨b_2, 0, none⟩)), (5, .pointer (some ⟨b_7, 0, none⟩))]) (by kernel_rfl)
  refine Vk.done (by kernel_rfl) ?_
  refine hK3 _ _ ?_
  clear hK3
  refine Vk.seq fun K9 hK9 => ?_
  refine Vk.region ?_
  refine Vk.pures 1 [(8, .pointer (some ⟨b_x0, 0, none⟩))] hs (by kernel_rfl) fun a hs => ?_
  obtain ⟨v_12, h_11, hm⟩ := bind_t hm
  refine Vk.step (Vk.call (some 9) 61 #[.pointer (some ⟨b_x0, 0, none⟩), .int .i64 1] hs (by kernel_rfl) (by kernel_rfl) (by kernel_rfl) ?_)
  refine (wire_Machine_Begin.ok k x0 1 v_12 h_11 κ w (pt b_7 (blk v_6 65) :: pt b_2 (blk [C.int .i64 0, C.int .i64 0, C.int .i64 0] 65) :: S) b_x0 b_x0otape A_x0otapeowords c_x0otapeowords A_x0oops c_x0oops A_x0ovalues c_x0ovalues A_x0oblocks c_x0oblocks (Own.to hs.own [2, 3, 4, 5, 6, 7, 0, 1] 8 (by kernel_rfl) (by kernel_rfl))).mono ?_
  rintro _ w ⟨Ar10o0otapeowords_13, cr10o0otapeowords_14, Ar10o0oops_15, cr10o0oops_16, Ar10o0ovalues_17, cr10o0ovalues_18, Ar10o0oblocks_19, cr10o0oblocks_20, rfl, how⟩
  refine ⟨_, _, _, rfl, how, fun a hs => ?_⟩
  replace hs := hs.pick [0, 1, 4, 5] (L' := [(0, .pointer (some ⟨b_x0, 0, none⟩)), (1, .int .u64 x1), (4, .pointer (some ⟨b_2, 0, none⟩)), (5, .pointer (some ⟨b_7, 0, none⟩))]) (by kernel_rfl)
  refine Vk.done (by kernel_rfl) ?_
  refine hK9 _ _ ?_
  clear hK9
  refine Vk.seq fun K21 hK21 => ?_
  refine Vk.seq fun K22 hK22 => ?_
  refine Vk.region ?_
  refine Vk.pures 1 [(6, .int .i64 1)] hs (by kernel_rfl) fun a hs => ?_
  replace hs := hs.pick [0, 1, 4, 5, 6] (L' := [(0, .pointer (some ⟨b_x0, 0, none⟩)), (1, .int .u64 x1), (4, .pointer (some ⟨b_2, 0, none⟩)), (5, .pointer (some ⟨b_7, 0, none⟩)), (6, .int .i64 1)]) (by kernel_rfl)
  refine Vk.done (by kernel_rfl) ?_
  refine hK22 _ _ ?_
  clear hK22
  refine wp_block ?_
  obtain ⟨r23, hl23, hm⟩ := bind_t hm
  have hx23 : ∀ (p_54 : Twire_Machine) (p_63 : Cells), r23 = (p_54, p_63) → ∀ (A_55 : Option Addr) (c_56 : Nat) (A_57 : Option Addr) (c_58 : Nat) (A_59 : Option Addr) (c_60 : Nat) (A_61 : Option Addr) (c_62 : Nat) (a : Act) (w : World), St 36 a w κ [(0, .pointer (some ⟨b_x0, 0, none⟩)), (1, .int .u64 x1), (4, .pointer (some ⟨b_2, 0, none⟩)), (5, .pointer (some ⟨b_7, 0, none⟩))] (pt b_x0 (blk (Twire_Machine.obj p_54 b_x0otape A_57 c_58 A_59 c_60 A_61 c_62) 151) :: pt b_x0otape (blk (Ttape_Tape.obj p_54.tape A_55 c_56) 158) :: rowp A_55 c_56 23 1 (eI .u64) p_54.tape.words :: rowp A_57 c_58 32 6 Tapi_Op.cells p_54.ops :: rowp A_59 c_60 23 1 (eI .u64) p_54.values :: rowp A_61 c_62 144 3 Tapi_Span.cells p_54.blocks :: pt b_2 (blk [C.int .i64 0, C.int .i64 0, C.int .i64 0] 65) :: pt b_7 (blk p_63 65) :: S) → K21 a w := by
    intro p_54 p_63 he A_55 c_56 A_57 c_58 A_59 c_60 A_61 c_62 a w hs
    subst r23
    refine hK21 _ _ ?_
    clear hK21
    refine Vk.seq fun K75 hK75 => ?_
    refine Vk.region ?_
    refine Vk.pures 4 [(25, .pointer (some ⟨b_7, 1, none⟩)), (24, .pointer (some ⟨b_7, 0, none⟩)), (23, .int .u64 x1), (22, .pointer (some ⟨b_x0, 0, none⟩))] hs (by kernel_rfl) fun a hs => ?_
    obtain ⟨v_77, h_76, hm⟩ := bind_t hm
    refine Vk.step (Vk.value (some 26) (.int .i64 v_77) hs (by kernel_rfl) (op := (.load 3 (.tmp 25))) (by kernel_rfl) (fun o ho => run_load1 (c := C.int .i64 v_77) ho (by kernel_rfl) (by kernel_rfl) (Cell.own 7 rfl (getI_some h_76)) _ hs.own) fun a hs => ?_)
    refine Vk.pures 2 [(28, .pointer (some ⟨b_7, 2, none⟩)), (27, .pointer (some ⟨b_7, 0, none⟩))] hs (by kernel_rfl) fun a hs => ?_
    obtain ⟨v_79, h_78, hm⟩ := bind_t hm
    refine Vk.step (Vk.value (some 29) (.int .i64 v_79) hs (by kernel_rfl) (op := (.load 3 (.tmp 28))) (by kernel_rfl) (fun o ho => run_load1 (c := C.int .i64 v_79) ho (by kernel_rfl) (by kernel_rfl) (Cell.own 7 rfl (getI_some h_78)) _ hs.own) fun a hs => ?_)
    obtain ⟨v_82, h_81, hm⟩ := bind_t hm
    refine Vk.step (Vk.call (some 30) 59 #[.pointer (some ⟨b_x0, 0, none⟩), .int .u64 x1, .int .i64 v_77, .int .i64 v_79] hs (by kernel_rfl) (by kernel_rfl) (by kernel_rfl) ?_)
    refine (wire_Machine_Key.ok k p_54 x1 v_77 v_79 v_82 h_81 κ w (pt b_2 (blk [C.int .i64 0, C.int .i64 0, C.int .i64 0] 65) :: pt b_7 (blk p_63 65) :: S) b_x0 b_x0otape A_55 c_56 A_57 c_58 A_59 c_60 A_61 c_62 (Own.to hs.own [0, 1, 2, 3, 4, 5, 6, 7] 8 (by kernel_rfl) (by kernel_rfl))).mono ?_
    rintro _ w ⟨Ar80o0otapeowords_83, cr80o0otapeowords_84, Ar80o0oops_85, cr80o0oops_86, Ar80o0ovalues_87, cr80o0ovalues_88, Ar80o0oblocks_89, cr80o0oblocks_90, rfl, how⟩
    refine ⟨_, _, _, rfl, how, fun a hs => ?_⟩
    refine Vk.pures 2 [(32, .pointer (some ⟨b_7, 0, none⟩)), (31, .pointer (some ⟨b_7, 0, none⟩))] hs (by kernel_rfl) fun a hs => ?_
    obtain ⟨h_91, hm⟩ := ite_t hm
    refine Vk.step (Vk.store1 (b := b_7) (ty := 3) (x := (.tmp 32)) (y := (.tmp 30)) (off := 0) (C.int .i64 v_82.1) 7 hs (by kernel_rfl) (by kernel_rfl) (by kernel_rfl) (by kernel_rfl) (by kernel_rfl) (by kernel_rfl) rfl h_91 fun a w hs => ?_)
    replace hs := hs.pick [0, 4, 5] (L' := [(0, .pointer (some ⟨b_x0, 0, none⟩)), (4, .pointer (some ⟨b_2, 0, none⟩)), (5, .pointer (some ⟨b_7, 0, none⟩))]) (by kernel_rfl)
    refine Vk.done (by kernel_rfl) ?_
    refine hK75 _ _ ?_
    clear hK75
    refine Vk.seq fun K92 hK92 => ?_
    refine Vk.region ?_
    refine Vk.pures 1 [(33, .pointer (some ⟨b_x0, 0, none⟩))] hs (by kernel_rfl) fun a hs => ?_
    obtain ⟨v_95, h_94, hm⟩ := bind_t hm
    refine Vk.step (Vk.call (some 34) 63 #[.pointer (some ⟨b_x0, 0, none⟩)] hs (by kernel_rfl) (by kernel_rfl) (by kernel_rfl) ?_)
    refine (wire_Machine_End.ok k v_82.2 v_95 h_94 κ w (pt b_2 (blk [C.int .i64 0, C.int .i64 0, C.int .i64 0] 65) :: pt b_7 (blk (p_63.set (0) (C.int .i64 v_82.1)) 65) :: S) b_x0 b_x0otape Ar80o0otapeowords_83 cr80o0otapeowords_84 Ar80o0oops_85 cr80o0oops_86 Ar80o0ovalues_87 cr80o0ovalues_88 Ar80o0oblocks_89 cr80o0oblocks_90 (Own.to hs.own [0, 1, 2, 3, 4, 5, 6, 7] 8 (by kernel_rfl) (by kernel_rfl))).mono ?_
    rintro _ w ⟨Ar93o0otapeowords_96, cr93o0otapeowords_97, Ar93o0oops_98, cr93o0oops_99, Ar93o0ovalues_100, cr93o0ovalues_101, Ar93o0oblocks_102, cr93o0oblocks_103, rfl, how⟩
    refine ⟨_, _, _, rfl, how, fun a hs => ?_⟩
    replace hs := hs.pick [4, 5] (L' := [(4, .pointer (some ⟨b_2, 0, none⟩)), (5, .pointer (some ⟨b_7, 0, none⟩))]) (by kernel_rfl)
    refine Vk.done (by kernel_rfl) ?_
    refine hK92 _ _ ?_
    clear hK92
    refine Vk.seq fun K104 hK104 => ?_
    refine Vk.region ?_
    obtain ⟨h_105, hm⟩ := ite_t hm
    refine Vk.step (Vk.value (some 35) (.agg (vals (p_63.set (0) (C.int .i64 v_82.1)))) hs (by kernel_rfl) (op := (.load 65 (.tmp 5))) (by kernel_rfl) (fun o ho => run_loadN (cs := (p_63.set (0) (C.int .i64 v_82.1))) ho (by kernel_rfl) (by kernel_rfl) h_105 (CellsAt.all 7 rfl) _ hs.own) fun a hs => ?_)
    refine Vk.step (Vk.storeA (b := b_2) (ty := 65) (x := (.tmp 4)) (y := (.tmp 35)) (sz := 3) (p_63.set (0) (C.int .i64 v_82.1)) 6 hs (by kernel_rfl) (by kernel_rfl) (by kernel_rfl) (by kernel_rfl) (by kernel_rfl) h_105 (by kernel_rfl) rfl (Eq.trans (b := 3) h_105 (Eq.symm rfl)) fun a w hs => ?_)
    replace hs := hs.pick [4] (L' := [(4, .pointer (some ⟨b_2, 0, none⟩))]) (by kernel_rfl)
    refine Vk.done (by kernel_rfl) ?_
    refine hK104 _ _ ?_
    clear hK104
    refine wp_ret ?_
    exact Vk.retC (P := Try.prog) (fn := Try.f52) (R := share_Encode.R κ S x0 x1 b_x0 b_x0otape A_x0otapeowords c_x0otapeowords A_x0oops c_x0oops A_x0ovalues c_x0ovalues A_x0oblocks c_x0oblocks r) (p_63.set (0) (C.int .i64 v_82.1)) hs rfl (by kernel_rfl) (sz := 3) (by kernel_rfl) h_105 (CellsAt.all 6 rfl) (by obtain rfl := Option.some.inj hm; exact ⟨Ar93o0otapeowords_96, cr93o0otapeowords_97, Ar93o0oops_98, cr93o0oops_99, Ar93o0ovalues_100, cr93o0ovalues_101, Ar93o0oblocks_102, cr93o0oblocks_103, rfl, (Own.to hs.own [0, 1, 2, 3, 4, 5] 8 (by kernel_rfl) (by kernel_rfl))⟩)
  refine Vk.loopBy (fun k (s : Twire_Machine × Cells × Int) a w => ∃ (A_25 : Option Addr), ∃ (c_26 : Nat), ∃ (A_27 : Option Addr), ∃ (c_28 : Nat), ∃ (A_29 : Option Addr), ∃ (c_30 : Nat), ∃ (A_31 : Option Addr), ∃ (c_32 : Nat), share_Encode.l1 k s.1 s.2.1 s.2.2 = some r23 ∧ St 36 a w κ [(0, .pointer (some ⟨b_x0, 0, none⟩)), (1, .int .u64 x1), (4, .pointer (some ⟨b_2, 0, none⟩)), (5, .pointer (some ⟨b_7, 0, none⟩)), (6, .int .i64 s.2.2)] (pt b_x0 (blk (Twire_Machine.obj s.1 b_x0otape A_27 c_28 A_29 c_30 A_31 c_32) 151) :: pt b_x0otape (blk (Ttape_Tape.obj s.1.tape A_25 c_26) 158) :: rowp A_25 c_26 23 1 (eI .u64) s.1.tape.words :: rowp A_27 c_28 32 6 Tapi_Op.cells s.1.ops :: rowp A_29 c_30 23 1 (eI .u64) s.1.values :: rowp A_31 c_32 144 3 Tapi_Span.cells s.1.blocks :: pt b_2 (blk [C.int .i64 0, C.int .i64 0, C.int .i64 0] 65) :: pt b_7 (blk s.2.1 65) :: S)) k (v_12, v_6, 1) ⟨Ar10o0otapeowords_13, cr10o0otapeowords_14, Ar10o0oops_15, cr10o0oops_16, Ar10o0ovalues_17, cr10o0ovalues_18, Ar10o0oblocks_19, cr10o0oblocks_20, hl23, hs.go [0, 1, 4, 5, 6] [0, 1, 2, 3, 4, 5, 7, 6] 8 (by kernel_rfl) (by kernel_rfl) (by kernel_rfl)⟩ (fun s a w h => by obtain ⟨_, _, _, _, _, _, _, _, h1, _⟩ := h; simp [share_Encode.l1] at h1) (fun k KL23 ih s a w h => ?_)
  obtain ⟨q_24, q_33, q_34⟩ := s
  obtain ⟨A_25, c_26, A_27, c_28, A_29, c_30, A_31, c_32, hm, hs⟩ := h
  try dsimp only at hm hs
  rw [share_Encode.l1] at hm
  refine Vk.seq fun K35 hK35 => ?_
  refine Vk.seq fun K36 hK36 => ?_
  refine Vk.region ?_
  refine Vk.pures 2 [(11, .pointer (some ⟨b_x0, 0, none⟩)), (10, .int .i64 q_34)] hs (by kernel_rfl) fun a hs => ?_
  obtain ⟨v_39, h_38, hm⟩ := bind_t hm
  refine Vk.step (Vk.call (some 12) 88 #[.pointer (some ⟨b_x0, 0, none⟩)] hs (by kernel_rfl) (by kernel_rfl) (by kernel_rfl) ?_)
  refine (wire_Machine_N.ok k q_24 v_39 h_38 κ w (pt b_2 (blk [C.int .i64 0, C.int .i64 0, C.int .i64 0] 65) :: pt b_7 (blk q_33 65) :: S) b_x0 b_x0otape A_25 c_26 A_27 c_28 A_29 c_30 A_31 c_32 (Own.to hs.own [0, 1, 2, 3, 4, 5, 6, 7] 8 (by kernel_rfl) (by kernel_rfl))).mono ?_
  rintro _ w ⟨rfl, how⟩
  refine ⟨_, _, _, rfl, how, fun a hs => ?_⟩
  refine Vk.pures 1 [(13, .bool (decide (q_34 < v_39)))] hs (by kernel_rfl) fun a hs => ?_
  replace hs := hs.pick [0, 1, 4, 5, 6, 13] (L' := [(0, .pointer (some ⟨b_x0, 0, none⟩)), (1, .int .u64 x1), (4, .pointer (some ⟨b_2, 0, none⟩)), (5, .pointer (some ⟨b_7, 0, none⟩)), (6, .int .i64 q_34), (13, .bool (decide (q_34 < v_39)))]) (by kernel_rfl)
  refine Vk.done (by kernel_rfl) ?_
  refine hK36 _ _ ?_
  clear hK36
  refine Vk.condS (b := decide (q_34 < v_39)) hs (by kernel_rfl) (by kernel_rfl) (fun hb => ?_) (fun hb => ?_)
  · replace hm := bif_t hm hb
    refine wp_skip ?_
    refine hK35 _ _ ?_
    clear hK35
    refine Vk.seq fun K40 hK40 => ?_
    refine wp_block ?_
    refine Vk.region ?_
    refine Vk.pures 3 [(18, .int .i64 q_34), (17, .pointer (some ⟨b_x0, 0, none⟩)), (16, .int .i64 q_34)] hs (by kernel_rfl) fun a hs => ?_
    obtain ⟨v_43, h_42, hm⟩ := bind_t hm
    refine Vk.step (Vk.call (some 19) 89 #[.pointer (some ⟨b_x0, 0, none⟩), .int .i64 q_34] hs (by kernel_rfl) (by kernel_rfl) (by kernel_rfl) ?_)
    refine (wire_Machine_Rand.ok k q_24 q_34 v_43 h_42 κ w (pt b_2 (blk [C.int .i64 0, C.int .i64 0, C.int .i64 0] 65) :: pt b_7 (blk q_33 65) :: S) b_x0 b_x0otape A_25 c_26 A_27 c_28 A_29 c_30 A_31 c_32 (Own.to hs.own [0, 1, 2, 3, 4, 5, 6, 7] 8 (by kernel_rfl) (by kernel_rfl))).mono ?_
    rintro _ w ⟨Ar41o0otapeowords_44, cr41o0otapeowords_45, Ar41o0oops_46, cr41o0oops_47, Ar41o0ovalues_48, cr41o0ovalues_49, Ar41o0oblocks_50, cr41o0oblocks_51, rfl, how⟩
    refine ⟨_, _, _, rfl, how, fun a hs => ?_⟩
    refine Vk.pures 1 [(20, .pointer (some ⟨b_7, 0, none⟩))] hs (by kernel_rfl) fun a hs => ?_
    obtain ⟨h_52, hm⟩ := ite_t hm
    refine Vk.step (Vk.value (some 21) (.pointer (some ⟨b_7, 0 + q_34.toNat * 1, none⟩)) hs (by kernel_rfl) (op := (.indexAddr 63 (.tmp 20) (.tmp 16))) (by kernel_rfl) (fun o ho => run_idxArr (k := .i64) ho (by kernel_rfl) (by kernel_rfl) (by kernel_rfl) h_52 _) fun a hs => ?_)
    obtain ⟨h_53, hm⟩ := ite_t hm
    refine Vk.step (Vk.store1 (b := b_7) (ty := 3) (x := (.tmp 21)) (y := (.tmp 19)) (off := 0 + q_34.toNat * 1) (C.int .i64 v_43.1) 7 hs (by kernel_rfl) (by kernel_rfl) (by kernel_rfl) (by kernel_rfl) (by kernel_rfl) (by kernel_rfl) rfl h_53 fun a w hs => ?_)
    replace hs := hs.pick [0, 1, 4, 5, 6] (L' := [(0, .pointer (some ⟨b_x0, 0, none⟩)), (1, .int .u64 x1), (4, .pointer (some ⟨b_2, 0, none⟩)), (5, .pointer (some ⟨b_7, 0, none⟩)), (6, .int .i64 q_34)]) (by kernel_rfl)
    refine Vk.done (by kernel_rfl) ?_
    refine hK40 _ _ ?_
    clear hK40
    refine Vk.region ?_
    refine Vk.pures 3 [(6, .int .i64 (IntKind.i64.wrap (q_34 + 1))), (15, .int .i64 (IntKind.i64.wrap (q_34 + 1))), (14, .int .i64 q_34)] hs (by kernel_rfl) fun a hs => ?_
    replace hs := hs.pick [0, 1, 4, 5, 6] (L' := [(0, .pointer (some ⟨b_x0, 0, none⟩)), (1, .int .u64 x1), (4, .pointer (some ⟨b_2, 0, none⟩)), (5, .pointer (some ⟨b_7, 0, none⟩)), (6, .int .i64 (IntKind.i64.wrap (q_34 + 1)))]) (by kernel_rfl)
    refine Vk.done (by kernel_rfl) ?_
    refine ih (v_43.2, (q_33.set (0 + q_34.toNat * 1) (C.int .i64 v_43.1)), (IntKind.i64.wrap (q_34 + 1))) _ _ ⟨Ar41o0otapeowords_44, cr41o0otapeowords_45, Ar41o0oops_46, cr41o0oops_47, Ar41o0ovalues_48, cr41o0ovalues_49, Ar41o0oblocks_50, cr41o0oblocks_51, hm, hs.go [0, 1, 4, 5, 6] [0, 1, 2, 3, 4, 5, 6, 7] 8 (by kernel_rfl) (by kernel_rfl) (by kernel_rfl)⟩
  · replace hm := bif_f hm hb
    refine wp_exit ?_
    exact hx23 q_24 q_33 (Option.some.inj hm).symm A_25 c_26 A_27 c_28 A_29 c_30 A_31 c_32 _ _ (hs.go [0, 1, 4, 5] [0, 1, 2, 3, 4, 5, 6, 7] 8 (by kernel_rfl) (by kernel_rfl) (by kernel_rfl))

structure Tvisorlaw20_Pair where
  m : Twire_Machine
  x : Tvisorref19_M
  l : List Cells
  v : List Int
  deriving Inhabited
def Tvisorlaw20_Pair.obj (x : Tvisorlaw20_Pair) (bm : Nat) (bx : Nat) (Al : Option Addr) (cl : Nat) (Av : Option Addr) (cv : Nat) : Cells := [C.ptr (some ⟨bm, 0, none⟩), C.ptr (some ⟨bx, 0, none⟩), C.slc Al x.l.length cl, C.slc Av x.v.length cv]

def visorlaw20_awake.j2 (k : Nat) (p_107 : Bool) : Option (Bool) := some p_107
def visorlaw20_awake.j1 (k : Nat) (rec83 : Int → Int → Option (Int)) (q_85 : Int) (p_102 : Int) : Option (Int) := rec83 p_102 (IntKind.i64.wrap (q_85 + 1))
def visorlaw20_awake.l1 (v_56 : Cells × Twire_Machine) (v_74 : List Int) : Nat → Int → Int → Option (Int)
  | 0, _, _ => none
  | k + 1, q_84, q_85 => (bif decide (q_85 < 3) then (if 0 ≤ q_85 ∧ q_85 < 3 then (getI .i64 v_56.1 q_85.toNat).bind fun v_92 => (bif (decide (v_92 ≥ 0)) && (decide (v_92 < ((v_74.length : Nat) : Int))) then (if 0 ≤ v_92 then (v_74[v_92.toNat]?).bind fun e_98 => visorlaw20_awake.j1 k (visorlaw20_awake.l1 v_56 v_74 k) q_85 (bxor .u64 q_84 e_98) else none) else visorlaw20_awake.j1 k (visorlaw20_awake.l1 v_56 v_74 k) q_85 q_84) else none) else some q_84)
abbrev visorlaw20_awake.R (κ : Ctx) (S : List HP) (r : Bool) : Ending → World → Prop := fun e w' => e = .returned (.bool r) ∧ Own κ w' (S)
def visorlaw20_awake.m (k : Nat) : Option Bool := ((visorlaw20_Begins.m k 2 ([] : List Int) 9).bind fun v => match v with | (.inl v_7) => some false | (.inr v_22) => (bif !v_22.2.2.2.2 then some false else (share_Public.m k v_22.1 7).bind fun v_56 => (if v_56.1.length = 3 then (wire_Machine_Len.m k v_56.2).bind fun v_71 => (bif v_71 == 2 then (wire_Machine_Values.m k v_56.2).bind fun v_74 => (visorlaw20_awake.l1 v_56 v_74 k 0 0).bind fun p_103 => visorlaw20_awake.j2 k (p_103 == 7) else visorlaw20_awake.j2 k false) else none)))

set_option maxRecDepth 100000 in
set_option maxHeartbeats 4000000 in
theorem visorlaw20_awake.ok (k : Nat) (r : Bool) (hm : visorlaw20_awake.m k = some r) (κ : Ctx) (w : World) (S : List HP) (ho : Own κ w (S)) :
    Calls Try.prog 50 #[] w (visorlaw20_awake.R κ S r) := by
  unfold visorlaw20_awake.m at hm
  refine Vk.enter [] Try.func50 rfl Try.ntmps50 (by kernel_rfl) (Nat.le_of_ble_eq_true (by kernel_rfl)) ho fun a hs => ?_
  refine Vk.seq fun K1 hK1 => ?_
  refine Vk.region ?_
  refine Vk.pures 1 [(0, .bool false)] hs (by kernel_rfl) fun a hs => ?_
  replace hs := hs.pick [] (L' := []) (by kernel_rfl)
  refine Vk.done (by kernel_rfl) ?_
  refine hK1 _ _ ?_
  clear hK1
  refine Vk.seq fun K2 hK2 => ?_
  refine Vk.region ?_
  replace hs := hs.addRd (A := none) (cap := 0) (sz := 1) (enc := (eI .u64)) (xs := ([] : List Int)) Sl.nil
  obtain ⟨v_6, h_5, hm⟩ := bind_t hm
  refine Vk.step (Vk.call (some 5) 51 #[.int .i64 2, .slice none 0 0, .int .i64 9] hs (by kernel_rfl) (by kernel_rfl) (by kernel_rfl) ?_)
  refine (visorlaw20_Begins.ok k 2 ([] : List Int) 9 v_6 h_5 κ w (S) none 0 (Own.to hs.own [0] 1 (by kernel_rfl) (by kernel_rfl))).mono ?_
  rintro _ w (⟨v_7, rfl, br4x0x_8, Ar4x0xoops_9, cr4x0xoops_10, Ar4x0xoblocks_11, cr4x0xoblocks_12, Ar4x0xoval_13, cr4x0xoval_14, Ar4x0xotapel_15, cr4x0xotapel_16, Ar4x0l_17, cr4x0l_18, Ar4x0v_19, cr4x0v_20, rfl, how⟩ | ⟨v_22, rfl, br4x0m_23, br4x0motape_24, Ar4x0motapeowords_25, cr4x0motapeowords_26, Ar4x0moops_27, cr4x0moops_28, Ar4x0movalues_29, cr4x0movalues_30, Ar4x0moblocks_31, cr4x0moblocks_32, br4x0x_33, Ar4x0xoops_34, cr4x0xoops_35, Ar4x0xoblocks_36, cr4x0xoblocks_37, Ar4x0xoval_38, cr4x0xoval_39, Ar4x0xotapel_40, cr4x0xotapel_41, Ar4x0l_42, cr4x0l_43, Ar4x0v_44, cr4x0v_45, rfl, how⟩)
  · dsimp only at hm
    refine ⟨_, _, _, rfl, how, fun a hs => ?_⟩
    refine Vk.pures 3 [(7, .bool false), (6, .agg (vals [C.ptr none, C.ptr (some ⟨br4x0x_8, 0, none⟩), C.slc Ar4x0l_17 v_7.2.1.length cr4x0l_18, C.slc Ar4x0v_19 v_7.2.2.length cr4x0v_20])), (4, .tuple #[.agg (vals [C.ptr none, C.ptr (some ⟨br4x0x_8, 0, none⟩), C.slc Ar4x0l_17 v_7.2.1.length cr4x0l_18, C.slc Ar4x0v_19 v_7.2.2.length cr4x0v_20]), .bool false])] hs (by kernel_rfl) fun a hs => ?_
    refine Vk.step (Vk.alloc 1 98 [C.ptr none, C.ptr none, C.slc none 0 0, C.slc none 0 0] hs (by kernel_rfl) (by kernel_rfl) (by kernel_rfl) fun b_21 w a hs => ?_)
    refine Vk.step (Vk.storeA (b := b_21) (ty := 98) (x := (.tmp 1)) (y := (.tmp 6)) (sz := 4) [C.ptr none, C.ptr (some ⟨br4x0x_8, 0, none⟩), C.slc Ar4x0l_17 v_7.2.1.length cr4x0l_18, C.slc Ar4x0v_19 v_7.2.2.length cr4x0v_20] 0 hs (by kernel_rfl) (by kernel_rfl) (by kernel_rfl) (by kernel_rfl) (by kernel_rfl) rfl (by kernel_rfl) rfl (Eq.trans (b := 4) rfl (Eq.symm rfl)) fun a w hs => ?_)
    refine Vk.pures 1 [(2, .bool false)] hs (by kernel_rfl) fun a hs => ?_
    replace hs := hs.pick [1, 2] (L' := [(1, .pointer (some ⟨b_21, 0, none⟩)), (2, .bool false)]) (by kernel_rfl)
    refine Vk.done (by kernel_rfl) ?_
    refine hK2 _ _ ?_
    refine Vk.seq fun K47 hK47 => ?_
    refine Vk.seq fun K48 hK48 => ?_
    refine Vk.region ?_
    refine Vk.pures 2 [(9, .bool true), (8, .bool false)] hs (by kernel_rfl) fun a hs => ?_
    replace hs := hs.pick [1, 9] (L' := [(1, .pointer (some ⟨b_21, 0, none⟩)), (9, .bool true)]) (by kernel_rfl)
    refine Vk.done (by kernel_rfl) ?_
    refine hK48 _ _ ?_
    clear hK48
    refine Vk.condT hs (by kernel_rfl) (by kernel_rfl) ?_
    refine Vk.seq fun K49 hK49 => ?_
    refine Vk.region ?_
    refine Vk.pures 1 [(0, .bool false)] hs (by kernel_rfl) fun a hs => ?_
    replace hs := hs.pick [0] (L' := [(0, .bool false)]) (by kernel_rfl)
    refine Vk.done (by kernel_rfl) ?_
    refine hK49 _ _ ?_
    clear hK49
    refine wp_ret ?_
    exact Vk.ret1 (P := Try.prog) (fn := Try.f50) (R := visorlaw20_awake.R κ S r) (.bool false) hs rfl (by kernel_rfl) (by obtain rfl := Option.some.inj hm; exact ⟨rfl, (Own.to hs.own [] 8 (by kernel_rfl) (by kernel_rfl))⟩)
  · dsimp only at hm
    refine ⟨_, _, _, rfl, how, fun a hs => ?_⟩
    refine Vk.pures 3 [(7, .bool v_22.2.2.2.2), (6, .agg (vals [C.ptr (some ⟨br4x0m_23, 0, none⟩), C.ptr (some ⟨br4x0x_33, 0, none⟩), C.slc Ar4x0l_42 v_22.2.2.1.length cr4x0l_43, C.slc Ar4x0v_44 v_22.2.2.2.1.length cr4x0v_45])), (4, .tuple #[.agg (vals [C.ptr (some ⟨br4x0m_23, 0, none⟩), C.ptr (some ⟨br4x0x_33, 0, none⟩), C.slc Ar4x0l_42 v_22.2.2.1.length cr4x0l_43, C.slc Ar4x0v_44 v_22.2.2.2.1.length cr4x0v_45]), .bool v_22.2.2.2.2])] hs (by kernel_rfl) fun a hs => ?_
    refine Vk.step (Vk.alloc 1 98 [C.ptr none, C.ptr none, C.slc none 0 0, C.slc none 0 0] hs (by kernel_rfl) (by kernel_rfl) (by kernel_rfl) fun b_46 w a hs => ?_)
    refine Vk.step (Vk.storeA (b := b_46) (ty := 98) (x := (.tmp 1)) (y := (.tmp 6)) (sz := 4) [C.ptr (some ⟨br4x0m_23, 0, none⟩), C.ptr (some ⟨br4x0x_33, 0, none⟩), C.slc Ar4x0l_42 v_22.2.2.1.length cr4x0l_43, C.slc Ar4x0v_44 v_22.2.2.2.1.length cr4x0v_45] 0 hs (by kernel_rfl) (by kernel_rfl) (by kernel_rfl) (by kernel_rfl) (by kernel_rfl) rfl (by kernel_rfl) rfl (Eq.trans (b := 4) rfl (Eq.symm rfl)) fun a w hs => ?_)
    refine Vk.pures 1 [(2, .bool v_22.2.2.2.2)] hs (by kernel_rfl) fun a hs => ?_
    replace hs := hs.pick [1, 2] (L' := [(1, .pointer (some ⟨b_46, 0, none⟩)), (2, .bool v_22.2.2.2.2)]) (by kernel_rfl)
    refine Vk.done (by kernel_rfl) ?_
    refine hK2 _ _ ?_
    refine Vk.seq fun K50 hK50 => ?_
    refine Vk.seq fun K51 hK51 => ?_
    refine Vk.region ?_
    refine Vk.pures 2 [(9, .bool (!v_22.2.2.2.2)), (8, .bool v_22.2.2.2.2)] hs (by kernel_rfl) fun a hs => ?_
    replace hs := hs.pick [1, 9] (L' := [(1, .pointer (some ⟨b_46, 0, none⟩)), (9, .bool (!v_22.2.2.2.2))]) (by kernel_rfl)
    refine Vk.done (by kernel_rfl) ?_
    refine hK51 _ _ ?_
    clear hK51
    refine Vk.condS (b := !v_22.2.2.2.2) hs (by kernel_rfl) (by kernel_rfl) (fun hb => ?_) (fun hb => ?_)
    · replace hm := bif_t hm hb
      refine Vk.seq fun K52 hK52 => ?_
      refine Vk.region ?_
      refine Vk.pures 1 [(0, .bool false)] hs (by kernel_rfl) fun a hs => ?_
      replace hs := hs.pick [0] (L' := [(0, .bool false)]) (by kernel_rfl)
      refine Vk.done (by kernel_rfl) ?_
      refine hK52 _ _ ?_
      clear hK52
      refine wp_ret ?_
      exact Vk.ret1 (P := Try.prog) (fn := Try.f50) (R := visorlaw20_awake.R κ S r) (.bool false) hs rfl (by kernel_rfl) (by obtain rfl := Option.some.inj hm; exact ⟨rfl, (Own.to hs.own [] 14 (by kernel_rfl) (by kernel_rfl))⟩)
    · replace hm := bif_f hm hb
      refine wp_skip ?_
      refine hK50 _ _ ?_
      clear hK50
      refine Vk.seq fun K53 hK53 => ?_
      refine Vk.region ?_
      refine Vk.pures 1 [(10, .pointer (some ⟨b_46, 0, none⟩))] hs (by kernel_rfl) fun a hs => ?_
      refine Vk.step (Vk.value (some 11) (.pointer (some ⟨br4x0m_23, 0, none⟩)) hs (by kernel_rfl) (op := (.load 95 (.tmp 10))) (by kernel_rfl) (fun o ho => run_load1 (b := b_46) (off := 0) (c := C.ptr (some ⟨br4x0m_23, 0, none⟩)) ho (by kernel_rfl) (by kernel_rfl) (Cell.own 0 rfl (by kernel_rfl)) _ hs.own) fun a hs => ?_)
      obtain ⟨v_56, h_55, hm⟩ := bind_t hm
      refine Vk.step (Vk.call (some 12) 86 #[.pointer (some ⟨br4x0m_23, 0, none⟩), .int .u64 7] hs (by kernel_rfl) (by kernel_rfl) (by kernel_rfl) ?_)
      refine (share_Public.ok k v_22.1 7 v_56 h_55 κ w (pt b_46 (blk [C.ptr (some ⟨br4x0m_23, 0, none⟩), C.ptr (some ⟨br4x0x_33, 0, none⟩), C.slc Ar4x0l_42 v_22.2.2.1.length cr4x0l_43, C.slc Ar4x0v_44 v_22.2.2.2.1.length cr4x0v_45] 98) :: pt br4x0x_33 (blk (Tvisorref19_M.obj v_22.2.1 Ar4x0xoops_34 cr4x0xoops_35 Ar4x0xoblocks_36 cr4x0xoblocks_37 Ar4x0xoval_38 cr4x0xoval_39 Ar4x0xotapel_40 cr4x0xotapel_41) 123) :: rowp Ar4x0xoops_34 cr4x0xoops_35 32 6 Tapi_Op.cells v_22.2.1.ops :: rowp Ar4x0xoblocks_36 cr4x0xoblocks_37 144 3 Tapi_Span.cells v_22.2.1.blocks :: rowp Ar4x0xoval_38 cr4x0xoval_39 23 1 (eI .u64) v_22.2.1.val :: rdp κ Ar4x0xotapel_40 cr4x0xotapel_41 1 (eI .u64) v_22.2.1.tape.l :: rowp Ar4x0l_42 cr4x0l_43 65 3 eC v_22.2.2.1 :: rowp Ar4x0v_44 cr4x0v_45 23 1 (eI .u64) v_22.2.2.2.1 :: S) br4x0m_23 br4x0motape_24 Ar4x0motapeowords_25 cr4x0motapeowords_26 Ar4x0moops_27 cr4x0moops_28 Ar4x0movalues_29 cr4x0movalues_30 Ar4x0moblocks_31 cr4x0moblocks_32 (Own.to hs.own [1, 2, 3, 4, 5, 6, 0, 7, 8, 9, 10, 11, 12, 13] 14 (by kernel_rfl) (by kernel_rfl))).mono ?_
      rintro _ w ⟨Ar54o0otapeowords_57, cr54o0otapeowords_58, Ar54o0oops_59, cr54o0oops_60, Ar54o0ovalues_61, cr54o0ovalues_62, Ar54o0oblocks_63, cr54o0oblocks_64, rfl, how⟩
      refine ⟨_, _, _, rfl, how, fun a hs => ?_⟩
      refine Vk.step (Vk.alloc 3 65 [C.int .i64 0, C.int .i64 0, C.int .i64 0] hs (by kernel_rfl) (by kernel_rfl) (by kernel_rfl) fun b_65 w a hs => ?_)
      obtain ⟨h_66, hm⟩ := ite_t hm
      refine Vk.step (Vk.storeA (b := b_65) (ty := 65) (x := (.tmp 3)) (y := (.tmp 12)) (sz := 3) v_56.1 0 hs (by kernel_rfl) (by kernel_rfl) (by kernel_rfl) (by kernel_rfl) (by kernel_rfl) h_66 (by kernel_rfl) rfl (Eq.trans (b := 3) h_66 (Eq.symm rfl)) fun a w hs => ?_)
      replace hs := hs.pick [1, 3] (L' := [(1, .pointer (some ⟨b_46, 0, none⟩)), (3, .pointer (some ⟨b_65, 0, none⟩))]) (by kernel_rfl)
      refine Vk.done (by kernel_rfl) ?_
      refine hK53 _ _ ?_
      clear hK53
      refine Vk.seq fun K67 hK67 => ?_
      have hj67 : ∀ (p_107 : Bool), visorlaw20_awake.j2 k p_107 = some r → ∀ (a : Act) (w : World), St 25 a w κ [(0, .bool p_107)] (S) → K67 a w := by
        intro p_107 hm a w hs
        unfold visorlaw20_awake.j2 at hm
        refine hK67 _ _ ?_
        refine wp_ret ?_
        exact Vk.ret1 (P := Try.prog) (fn := Try.f50) (R := visorlaw20_awake.R κ S r) (.bool p_107) hs rfl (by kernel_rfl) (by obtain rfl := Option.some.inj hm; exact ⟨rfl, (Own.to hs.own [] 0 (by kernel_rfl) (by kernel_rfl))⟩)
      obtain ⟨C_68, hC_68⟩ : ∃ X0 : List HP, X0 = (pt b_65 (blk v_56.1 65) :: pt br4x0m_23 (blk (Twire_Machine.obj v_56.2 br4x0motape_24 Ar54o0oops_59 cr54o0oops_60 Ar54o0ovalues_61 cr54o0ovalues_62 Ar54o0oblocks_63 cr54o0oblocks_64) 151) :: pt br4x0motape_24 (blk (Ttape_Tape.obj v_56.2.tape Ar54o0otapeowords_57 cr54o0otapeowords_58) 158) :: rowp Ar54o0otapeowords_57 cr54o0otapeowords_58 23 1 (eI .u64) v_56.2.tape.words :: rowp Ar54o0oops_59 cr54o0oops_60 32 6 Tapi_Op.cells v_56.2.ops :: rowp Ar54o0ovalues_61 cr54o0ovalues_62 23 1 (eI .u64) v_56.2.values :: rowp Ar54o0oblocks_63 cr54o0oblocks_64 144 3 Tapi_Span.cells v_56.2.blocks :: pt b_46 (blk [C.ptr (some ⟨br4x0m_23, 0, none⟩), C.ptr (some ⟨br4x0x_33, 0, none⟩), C.slc Ar4x0l_42 v_22.2.2.1.length cr4x0l_43, C.slc Ar4x0v_44 v_22.2.2.2.1.length cr4x0v_45] 98) :: pt br4x0x_33 (blk (Tvisorref19_M.obj v_22.2.1 Ar4x0xoops_34 cr4x0xoops_35 Ar4x0xoblocks_36 cr4x0xoblocks_37 Ar4x0xoval_38 cr4x0xoval_39 Ar4x0xotapel_40 cr4x0xotapel_41) 123) :: rowp Ar4x0xoops_34 cr4x0xoops_35 32 6 Tapi_Op.cells v_22.2.1.ops :: rowp Ar4x0xoblocks_36 cr4x0xoblocks_37 144 3 Tapi_Span.cells v_22.2.1.blocks :: rowp Ar4x0xoval_38 cr4x0xoval_39 23 1 (eI .u64) v_22.2.1.val :: rdp κ Ar4x0xotapel_40 cr4x0xotapel_41 1 (eI .u64) v_22.2.1.tape.l :: rowp Ar4x0l_42 cr4x0l_43 65 3 eC v_22.2.2.1 :: rowp Ar4x0v_44 cr4x0v_45 23 1 (eI .u64) v_22.2.2.2.1 :: S) := ⟨_, rfl⟩
      refine Vk.drawnT 13 κ C_68 hs (by kernel_rfl) fun w hs => ?_
      have hcz : Own κ w (pt b_65 (blk v_56.1 65) :: pt br4x0m_23 (blk (Twire_Machine.obj v_56.2 br4x0motape_24 Ar54o0oops_59 cr54o0oops_60 Ar54o0ovalues_61 cr54o0ovalues_62 Ar54o0oblocks_63 cr54o0oblocks_64) 151) :: pt br4x0motape_24 (blk (Ttape_Tape.obj v_56.2.tape Ar54o0otapeowords_57 cr54o0otapeowords_58) 158) :: rowp Ar54o0otapeowords_57 cr54o0otapeowords_58 23 1 (eI .u64) v_56.2.tape.words :: rowp Ar54o0oops_59 cr54o0oops_60 32 6 Tapi_Op.cells v_56.2.ops :: rowp Ar54o0ovalues_61 cr54o0ovalues_62 23 1 (eI .u64) v_56.2.values :: rowp Ar54o0oblocks_63 cr54o0oblocks_64 144 3 Tapi_Span.cells v_56.2.blocks :: pt b_46 (blk [C.ptr (some ⟨br4x0m_23, 0, none⟩), C.ptr (some ⟨br4x0x_33, 0, none⟩), C.slc Ar4x0l_42 v_22.2.2.1.length cr4x0l_43, C.slc Ar4x0v_44 v_22.2.2.2.1.length cr4x0v_45] 98) :: pt br4x0x_33 (blk (Tvisorref19_M.obj v_22.2.1 Ar4x0xoops_34 cr4x0xoops_35 Ar4x0xoblocks_36 cr4x0xoblocks_37 Ar4x0xoval_38 cr4x0xoval_39 Ar4x0xotapel_40 cr4x0xotapel_41) 123) :: rowp Ar4x0xoops_34 cr4x0xoops_35 32 6 Tapi_Op.cells v_22.2.1.ops :: rowp Ar4x0xoblocks_36 cr4x0xoblocks_37 144 3 Tapi_Span.cells v_22.2.1.blocks :: rowp Ar4x0xoval_38 cr4x0xoval_39 23 1 (eI .u64) v_22.2.1.val :: rdp κ Ar4x0xotapel_40 cr4x0xotapel_41 1 (eI .u64) v_22.2.1.tape.l :: rowp Ar4x0l_42 cr4x0l_43 65 3 eC v_22.2.2.1 :: rowp Ar4x0v_44 cr4x0v_45 23 1 (eI .u64) v_22.2.2.2.1 :: S) := (Own.to hs.own [0, 1, 2, 3, 4, 5, 6, 7, 8, 9, 10, 11, 12, 13, 14] 15 (by kernel_rfl) (by kernel_rfl))
      have hcl : Own κ w C_68 := by rw [hC_68]; exact hcz
      refine Vk.dPuresT [0] [(13, .pointer (some ⟨b_46, 0, none⟩))] hs (by kernel_rfl) (by repeat' (first | exact Vk.Calm.post | refine Vk.Calm.then ?_ | refine Vk.Calm.inBlock ?_)) hcl (by kernel_rfl) (by kernel_rfl) (fuel := 12) rfl fun a hs => ?_
      refine Vk.dTakeT (i := 1) (some 14) (.pointer (some ⟨br4x0m_23, 0, none⟩)) hs (by kernel_rfl) (by repeat' (first | exact Vk.Calm.post | refine Vk.Calm.then ?_ | refine Vk.Calm.inBlock ?_)) hcl (by kernel_rfl) (by kernel_rfl) (op := (.load 95 (.tmp 13))) (by kernel_rfl) (by kernel_rfl) (fun w hw o ho => by rw [hC_68] at hw; exact run_load1 (b := b_46) (off := 0) (c := C.ptr (some ⟨br4x0m_23, 0, none⟩)) ho (by kernel_rfl) (by kernel_rfl) (Cell.own 7 rfl (by kernel_rfl)) _ hw) fun a hs => ?_
      obtain ⟨v_71, h_70, hm⟩ := bind_t hm
      refine Vk.dOnly (i := 2) (by kernel_rfl) (Vk.call (some 15) 58 #[.pointer (some ⟨br4x0m_23, 0, none⟩)] hs (by kernel_rfl) (by kernel_rfl) (by kernel_rfl) ?_)
      refine (wire_Machine_Len.ok k v_56.2 v_71 h_70 κ w (pt b_65 (blk v_56.1 65) :: pt b_46 (blk [C.ptr (some ⟨br4x0m_23, 0, none⟩), C.ptr (some ⟨br4x0x_33, 0, none⟩), C.slc Ar4x0l_42 v_22.2.2.1.length cr4x0l_43, C.slc Ar4x0v_44 v_22.2.2.2.1.length cr4x0v_45] 98) :: pt br4x0x_33 (blk (Tvisorref19_M.obj v_22.2.1 Ar4x0xoops_34 cr4x0xoops_35 Ar4x0xoblocks_36 cr4x0xoblocks_37 Ar4x0xoval_38 cr4x0xoval_39 Ar4x0xotapel_40 cr4x0xotapel_41) 123) :: rowp Ar4x0xoops_34 cr4x0xoops_35 32 6 Tapi_Op.cells v_22.2.1.ops :: rowp Ar4x0xoblocks_36 cr4x0xoblocks_37 144 3 Tapi_Span.cells v_22.2.1.blocks :: rowp Ar4x0xoval_38 cr4x0xoval_39 23 1 (eI .u64) v_22.2.1.val :: rdp κ Ar4x0xotapel_40 cr4x0xotapel_41 1 (eI .u64) v_22.2.1.tape.l :: rowp Ar4x0l_42 cr4x0l_43 65 3 eC v_22.2.2.1 :: rowp Ar4x0v_44 cr4x0v_45 23 1 (eI .u64) v_22.2.2.2.1 :: S) br4x0m_23 br4x0motape_24 Ar54o0otapeowords_57 cr54o0otapeowords_58 Ar54o0oops_59 cr54o0oops_60 Ar54o0ovalues_61 cr54o0ovalues_62 Ar54o0oblocks_63 cr54o0oblocks_64 (Own.to hs.own [1, 2, 3, 4, 5, 6, 0, 7, 8, 9, 10, 11, 12, 13, 14] 15 (by kernel_rfl) (by kernel_rfl))).mono ?_
      rintro _ w ⟨rfl, how⟩
      refine ⟨_, _, _, rfl, how, fun a hs => ?_⟩
      replace hcl : Own κ w C_68 := by rw [hC_68]; exact (Own.to hs.own [6, 0, 1, 2, 3, 4, 5, 7, 8, 9, 10, 11, 12, 13, 14] 15 (by kernel_rfl) (by kernel_rfl))
      refine ⟨fun _ => hcl, ?_⟩
      refine Vk.dPuresT [3, 4] [(17, .bool (v_71 == 2)), (16, .bool (v_71 == 2))] hs (by kernel_rfl) (by repeat' (first | exact Vk.Calm.post | refine Vk.Calm.then ?_ | refine Vk.Calm.inBlock ?_)) hcl (by kernel_rfl) (by kernel_rfl) (fuel := 8) rfl fun a hs => ?_
      rcases Bool.eq_false_or_eq_true (v_71 == 2) with hb | hb
      · replace hm := bif_t hm hb
        replace hs := hs.known (t := 17) hb (by kernel_rfl)
        refine Vk.dPuresT [5] [(18, .pointer (some ⟨b_46, 0, none⟩))] hs (by kernel_rfl) (by repeat' (first | exact Vk.Calm.post | refine Vk.Calm.then ?_ | refine Vk.Calm.inBlock ?_)) hcl (by kernel_rfl) (by kernel_rfl) (fuel := 7) rfl fun a hs => ?_
        refine Vk.dTakeT (i := 6) (some 19) (.pointer (some ⟨br4x0m_23, 0, none⟩)) hs (by kernel_rfl) (by repeat' (first | exact Vk.Calm.post | refine Vk.Calm.then ?_ | refine Vk.Calm.inBlock ?_)) hcl (by kernel_rfl) (by kernel_rfl) (op := (.load 95 (.tmp 18))) (by kernel_rfl) (by kernel_rfl) (fun w hw o ho => by rw [hC_68] at hw; exact run_load1 (b := b_46) (off := 0) (c := C.ptr (some ⟨br4x0m_23, 0, none⟩)) ho (by kernel_rfl) (by kernel_rfl) (Cell.own 7 rfl (by kernel_rfl)) _ hw) fun a hs => ?_
        refine Vk.dTakeT (i := 8) (some 21) (.agg (vals v_56.1)) hs (by kernel_rfl) (by repeat' (first | exact Vk.Calm.post | refine Vk.Calm.then ?_ | refine Vk.Calm.inBlock ?_)) hcl (by kernel_rfl) (by kernel_rfl) (op := (.load 65 (.tmp 3))) (by kernel_rfl) (by kernel_rfl) (fun w hw o ho => by rw [hC_68] at hw; exact run_loadN (cs := v_56.1) ho (by kernel_rfl) (by kernel_rfl) h_66 (CellsAt.all 0 rfl) _ hw) fun a hs => ?_
        obtain ⟨v_74, h_73, hm⟩ := bind_t hm
        refine Vk.dOnly (i := 7) (by kernel_rfl) (Vk.call (some 20) 53 #[.pointer (some ⟨br4x0m_23, 0, none⟩)] hs (by kernel_rfl) (by kernel_rfl) (by kernel_rfl) ?_)
        refine (wire_Machine_Values.ok k v_56.2 v_74 h_73 κ w (pt b_65 (blk v_56.1 65) :: pt b_46 (blk [C.ptr (some ⟨br4x0m_23, 0, none⟩), C.ptr (some ⟨br4x0x_33, 0, none⟩), C.slc Ar4x0l_42 v_22.2.2.1.length cr4x0l_43, C.slc Ar4x0v_44 v_22.2.2.2.1.length cr4x0v_45] 98) :: pt br4x0x_33 (blk (Tvisorref19_M.obj v_22.2.1 Ar4x0xoops_34 cr4x0xoops_35 Ar4x0xoblocks_36 cr4x0xoblocks_37 Ar4x0xoval_38 cr4x0xoval_39 Ar4x0xotapel_40 cr4x0xotapel_41) 123) :: rowp Ar4x0xoops_34 cr4x0xoops_35 32 6 Tapi_Op.cells v_22.2.1.ops :: rowp Ar4x0xoblocks_36 cr4x0xoblocks_37 144 3 Tapi_Span.cells v_22.2.1.blocks :: rowp Ar4x0xoval_38 cr4x0xoval_39 23 1 (eI .u64) v_22.2.1.val :: rdp κ Ar4x0xotapel_40 cr4x0xotapel_41 1 (eI .u64) v_22.2.1.tape.l :: rowp Ar4x0l_42 cr4x0l_43 65 3 eC v_22.2.2.1 :: rowp Ar4x0v_44 cr4x0v_45 23 1 (eI .u64) v_22.2.2.2.1 :: S) br4x0m_23 br4x0motape_24 Ar54o0otapeowords_57 cr54o0otapeowords_58 Ar54o0oops_59 cr54o0oops_60 Ar54o0ovalues_61 cr54o0ovalues_62 Ar54o0oblocks_63 cr54o0oblocks_64 (Own.to hs.own [0, 1, 2, 3, 4, 5, 6, 7, 8, 9, 10, 11, 12, 13, 14] 15 (by kernel_rfl) (by kernel_rfl))).mono ?_
        rintro _ w ⟨Ar72x0_75, cr72x0_76, rfl, how⟩
        refine ⟨_, _, _, rfl, how, fun a hs => ?_⟩
        replace hcl : Own κ w C_68 := by rw [hC_68]; exact (Own.to hs.own [7, 1, 2, 3, 4, 5, 6, 8, 9, 10, 11, 12, 13, 14, 15] 16 (by kernel_rfl) (by kernel_rfl))
        refine ⟨fun _ => hcl, ?_⟩
        refine Vk.dOnly (i := 9) (by kernel_rfl) (Vk.call (some 22) 48 #[.slice Ar72x0_75 v_74.length cr72x0_76, .agg (vals v_56.1)] hs (by kernel_rfl) (by kernel_rfl) (by kernel_rfl) ?_)
        refine Vk.enterI [(0, .slice Ar72x0_75 v_74.length cr72x0_76), (1, .agg (vals v_56.1))] Try.func48 rfl Try.ntmps48 (by kernel_rfl) (Nat.le_of_ble_eq_true (by kernel_rfl)) hs.own fun KR77 hKR77 hKP77 a hs => ?_
        refine Vk.seq fun K78 hK78 => ?_
        refine Vk.region ?_
        refine Vk.step (Vk.box (x := (.tmp 1)) 3 65 v_56.1 hs (by kernel_rfl) (by kernel_rfl) (by kernel_rfl) fun b_79 w a hs => ?_)
        refine Vk.pures 1 [(4, .int .u64 0)] hs (by kernel_rfl) fun a hs => ?_
        replace hs := hs.pick [0, 3] (L' := [(0, .slice Ar72x0_75 v_74.length cr72x0_76), (3, .pointer (some ⟨b_79, 0, none⟩))]) (by kernel_rfl)
        refine Vk.done (by kernel_rfl) ?_
        refine hK78 _ _ ?_
        clear hK78
        refine Vk.seq fun K80 hK80 => ?_
        refine Vk.region ?_
        refine Vk.pures 1 [(5, .int .u64 0)] hs (by kernel_rfl) fun a hs => ?_
        replace hs := hs.pick [0, 3, 5] (L' := [(0, .slice Ar72x0_75 v_74.length cr72x0_76), (3, .pointer (some ⟨b_79, 0, none⟩)), (5, .int .u64 0)]) (by kernel_rfl)
        refine Vk.done (by kernel_rfl) ?_
        refine hK80 _ _ ?_
        clear hK80
        refine Vk.seq fun K81 hK81 => ?_
        refine Vk.seq fun K82 hK82 => ?_
        refine Vk.region ?_
        refine Vk.pures 1 [(8, .pointer (some ⟨b_79, 0, none⟩))] hs (by kernel_rfl) fun a hs => ?_
        refine Vk.step (Vk.value (some 9) (.agg (vals v_56.1)) hs (by kernel_rfl) (op := (.load 63 (.tmp 8))) (by kernel_rfl) (fun o ho => run_loadN (cs := v_56.1) ho (by kernel_rfl) (by kernel_rfl) h_66 (CellsAt.all 0 rfl) _ hs.own) fun a hs => ?_)
        refine Vk.pures 1 [(10, .int .i64 0)] hs (by kernel_rfl) fun a hs => ?_
        replace hs := hs.pick [0, 5, 9, 10] (L' := [(0, .slice Ar72x0_75 v_74.length cr72x0_76), (5, .int .u64 0), (9, .agg (vals v_56.1)), (10, .int .i64 0)]) (by kernel_rfl)
        refine Vk.done (by kernel_rfl) ?_
        refine hK82 _ _ ?_
        clear hK82
        refine wp_block ?_
        obtain ⟨r83, hl83, hm⟩ := bind_t hm
        have hx83 : ∀ (p_103 : Int), r83 = p_103 → ∀ (a : Act) (w : World), St 29 a w κ [(5, .int .u64 p_103)] (pt b_46 (blk [C.ptr (some ⟨br4x0m_23, 0, none⟩), C.ptr (some ⟨br4x0x_33, 0, none⟩), C.slc Ar4x0l_42 v_22.2.2.1.length cr4x0l_43, C.slc Ar4x0v_44 v_22.2.2.2.1.length cr4x0v_45] 98) :: pt br4x0m_23 (blk (Twire_Machine.obj v_56.2 br4x0motape_24 Ar54o0oops_59 cr54o0oops_60 Ar54o0ovalues_61 cr54o0ovalues_62 Ar54o0oblocks_63 cr54o0oblocks_64) 151) :: pt br4x0motape_24 (blk (Ttape_Tape.obj v_56.2.tape Ar54o0otapeowords_57 cr54o0otapeowords_58) 158) :: rowp Ar54o0otapeowords_57 cr54o0otapeowords_58 23 1 (eI .u64) v_56.2.tape.words :: rowp Ar54o0oops_59 cr54o0oops_60 32 6 Tapi_Op.cells v_56.2.ops :: rowp Ar54o0ovalues_61 cr54o0ovalues_62 23 1 (eI .u64) v_56.2.values :: rowp Ar54o0oblocks_63 cr54o0oblocks_64 144 3 Tapi_Span.cells v_56.2.blocks :: pt br4x0x_33 (blk (Tvisorref19_M.obj v_22.2.1 Ar4x0xoops_34 cr4x0xoops_35 Ar4x0xoblocks_36 cr4x0xoblocks_37 Ar4x0xoval_38 cr4x0xoval_39 Ar4x0xotapel_40 cr4x0xotapel_41) 123) :: rowp Ar4x0xoops_34 cr4x0xoops_35 32 6 Tapi_Op.cells v_22.2.1.ops :: rowp Ar4x0xoblocks_36 cr4x0xoblocks_37 144 3 Tapi_Span.cells v_22.2.1.blocks :: rowp Ar4x0xoval_38 cr4x0xoval_39 23 1 (eI .u64) v_22.2.1.val :: rdp κ Ar4x0xotapel_40 cr4x0xotapel_41 1 (eI .u64) v_22.2.1.tape.l :: rowp Ar4x0l_42 cr4x0l_43 65 3 eC v_22.2.2.1 :: rowp Ar4x0v_44 cr4x0v_45 23 1 (eI .u64) v_22.2.2.2.1 :: pt b_65 (blk v_56.1 65) :: rowp Ar72x0_75 cr72x0_76 23 1 (eI .u64) v_74 :: S) → K81 a w := by
          intro p_103 he a w hs
          subst r83
          refine hK81 _ _ ?_
          clear hK81
          refine Vk.seq fun K106 hK106 => ?_
          refine Vk.region ?_
          refine Vk.pures 2 [(4, .int .u64 p_103), (28, .int .u64 p_103)] hs (by kernel_rfl) fun a hs => ?_
          replace hs := hs.pick [4] (L' := [(4, .int .u64 p_103)]) (by kernel_rfl)
          refine Vk.done (by kernel_rfl) ?_
          refine hK106 _ _ ?_
          clear hK106
          refine wp_ret ?_
          refine hKP77 _ _ ?_
          refine hKR77 _ _ ?_
          refine Vk.ret1 (P := Try.prog) (fn := Try.f48) (.int .u64 p_103) hs rfl (by kernel_rfl) ⟨_, _, _, rfl, hs.own, fun a hs => ?_⟩
          replace hcl : Own κ w C_68 := by rw [hC_68]; exact (Own.to hs.own [14, 1, 2, 3, 4, 5, 6, 0, 7, 8, 9, 10, 11, 12, 13] 16 (by kernel_rfl) (by kernel_rfl))
          refine ⟨fun _ => hcl, ?_⟩
          refine Vk.dPuresT [10, 11, 12] [(0, .bool (p_103 == 7)), (24, .bool (p_103 == 7)), (23, .bool (p_103 == 7))] hs (by kernel_rfl) (by repeat' (first | exact Vk.Calm.post | refine Vk.Calm.then ?_ | refine Vk.Calm.inBlock ?_)) hcl (by kernel_rfl) (by kernel_rfl) (fuel := 0) rfl fun a hs => ?_
          replace hs := hs.pick [0] (L' := [(0, .bool (p_103 == 7))]) (by kernel_rfl)
          refine Vk.dDone (by kernel_rfl) ?_
          exact hj67 (p_103 == 7) hm _ _ (hs.go [0] [] 16 (by kernel_rfl) (by kernel_rfl) (by kernel_rfl))
        refine Vk.loopBy (fun k (s : Int × Int) a w => visorlaw20_awake.l1 v_56 v_74 k s.1 s.2 = some r83 ∧ St 29 a w κ [(0, .slice Ar72x0_75 v_74.length cr72x0_76), (5, .int .u64 s.1), (9, .agg (vals v_56.1)), (10, .int .i64 s.2)] (rowp Ar72x0_75 cr72x0_76 23 1 (eI .u64) v_74 :: pt b_46 (blk [C.ptr (some ⟨br4x0m_23, 0, none⟩), C.ptr (some ⟨br4x0x_33, 0, none⟩), C.slc Ar4x0l_42 v_22.2.2.1.length cr4x0l_43, C.slc Ar4x0v_44 v_22.2.2.2.1.length cr4x0v_45] 98) :: pt br4x0m_23 (blk (Twire_Machine.obj v_56.2 br4x0motape_24 Ar54o0oops_59 cr54o0oops_60 Ar54o0ovalues_61 cr54o0ovalues_62 Ar54o0oblocks_63 cr54o0oblocks_64) 151) :: pt br4x0motape_24 (blk (Ttape_Tape.obj v_56.2.tape Ar54o0otapeowords_57 cr54o0otapeowords_58) 158) :: rowp Ar54o0otapeowords_57 cr54o0otapeowords_58 23 1 (eI .u64) v_56.2.tape.words :: rowp Ar54o0oops_59 cr54o0oops_60 32 6 Tapi_Op.cells v_56.2.ops :: rowp Ar54o0ovalues_61 cr54o0ovalues_62 23 1 (eI .u64) v_56.2.values :: rowp Ar54o0oblocks_63 cr54o0oblocks_64 144 3 Tapi_Span.cells v_56.2.blocks :: pt br4x0x_33 (blk (Tvisorref19_M.obj v_22.2.1 Ar4x0xoops_34 cr4x0xoops_35 Ar4x0xoblocks_36 cr4x0xoblocks_37 Ar4x0xoval_38 cr4x0xoval_39 Ar4x0xotapel_40 cr4x0xotapel_41) 123) :: rowp Ar4x0xoops_34 cr4x0xoops_35 32 6 Tapi_Op.cells v_22.2.1.ops :: rowp Ar4x0xoblocks_36 cr4x0xoblocks_37 144 3 Tapi_Span.cells v_22.2.1.blocks :: rowp Ar4x0xoval_38 cr4x0xoval_39 23 1 (eI .u64) v_22.2.1.val :: rdp κ Ar4x0xotapel_40 cr4x0xotapel_41 1 (eI .u64) v_22.2.1.tape.l :: rowp Ar4x0l_42 cr4x0l_43 65 3 eC v_22.2.2.1 :: rowp Ar4x0v_44 cr4x0v_45 23 1 (eI .u64) v_22.2.2.2.1 :: pt b_65 (blk v_56.1 65) :: S)) k (0, 0) ⟨hl83, hs.go [0, 5, 9, 10] [1, 9, 2, 3, 4, 5, 6, 7, 10, 11, 12, 13, 14, 15, 16, 8] 17 (by kernel_rfl) (by kernel_rfl) (by kernel_rfl)⟩ (fun s a w h => by obtain ⟨h1, _⟩ := h; simp [visorlaw20_awake.l1] at h1) (fun k KL83 ih s a w h => ?_)
        obtain ⟨q_84, q_85⟩ := s
        obtain ⟨hm, hs⟩ := h
        try dsimp only at hm hs
        rw [visorlaw20_awake.l1] at hm
        refine Vk.seq fun K86 hK86 => ?_
        refine Vk.region ?_
        refine Vk.pures 1 [(11, .bool (decide (q_85 < 3)))] hs (by kernel_rfl) fun a hs => ?_
        replace hs := hs.pick [0, 5, 9, 10, 11] (L' := [(0, .slice Ar72x0_75 v_74.length cr72x0_76), (5, .int .u64 q_84), (9, .agg (vals v_56.1)), (10, .int .i64 q_85), (11, .bool (decide (q_85 < 3)))]) (by kernel_rfl)
        refine Vk.done (by kernel_rfl) ?_
        refine hK86 _ _ ?_
        clear hK86
        refine Vk.seq fun K87 hK87 => ?_
        refine Vk.condS (b := decide (q_85 < 3)) hs (by kernel_rfl) (by kernel_rfl) (fun hb => ?_) (fun hb => ?_)
        · replace hm := bif_t hm hb
          refine wp_skip ?_
          refine hK87 _ _ ?_
          clear hK87
          refine Vk.seq fun K88 hK88 => ?_
          have hj88 : ∀ (p_102 : Int), visorlaw20_awake.j1 k (visorlaw20_awake.l1 v_56 v_74 k) q_85 p_102 = some r83 → ∀ (a : Act) (w : World), St 29 a w κ [(0, .slice Ar72x0_75 v_74.length cr72x0_76), (5, .int .u64 p_102), (9, .agg (vals v_56.1)), (10, .int .i64 q_85)] (rowp Ar72x0_75 cr72x0_76 23 1 (eI .u64) v_74 :: pt b_46 (blk [C.ptr (some ⟨br4x0m_23, 0, none⟩), C.ptr (some ⟨br4x0x_33, 0, none⟩), C.slc Ar4x0l_42 v_22.2.2.1.length cr4x0l_43, C.slc Ar4x0v_44 v_22.2.2.2.1.length cr4x0v_45] 98) :: pt br4x0m_23 (blk (Twire_Machine.obj v_56.2 br4x0motape_24 Ar54o0oops_59 cr54o0oops_60 Ar54o0ovalues_61 cr54o0ovalues_62 Ar54o0oblocks_63 cr54o0oblocks_64) 151) :: pt br4x0motape_24 (blk (Ttape_Tape.obj v_56.2.tape Ar54o0otapeowords_57 cr54o0otapeowords_58) 158) :: rowp Ar54o0otapeowords_57 cr54o0otapeowords_58 23 1 (eI .u64) v_56.2.tape.words :: rowp Ar54o0oops_59 cr54o0oops_60 32 6 Tapi_Op.cells v_56.2.ops :: rowp Ar54o0ovalues_61 cr54o0ovalues_62 23 1 (eI .u64) v_56.2.values :: rowp Ar54o0oblocks_63 cr54o0oblocks_64 144 3 Tapi_Span.cells v_56.2.blocks :: pt br4x0x_33 (blk (Tvisorref19_M.obj v_22.2.1 Ar4x0xoops_34 cr4x0xoops_35 Ar4x0xoblocks_36 cr4x0xoblocks_37 Ar4x0xoval_38 cr4x0xoval_39 Ar4x0xotapel_40 cr4x0xotapel_41) 123) :: rowp Ar4x0xoops_34 cr4x0xoops_35 32 6 Tapi_Op.cells v_22.2.1.ops :: rowp Ar4x0xoblocks_36 cr4x0xoblocks_37 144 3 Tapi_Span.cells v_22.2.1.blocks :: rowp Ar4x0xoval_38 cr4x0xoval_39 23 1 (eI .u64) v_22.2.1.val :: rdp κ Ar4x0xotapel_40 cr4x0xotapel_41 1 (eI .u64) v_22.2.1.tape.l :: rowp Ar4x0l_42 cr4x0l_43 65 3 eC v_22.2.2.1 :: rowp Ar4x0v_44 cr4x0v_45 23 1 (eI .u64) v_22.2.2.2.1 :: pt b_65 (blk v_56.1 65) :: S) → K88 a w := by
            intro p_102 hm a w hs
            unfold visorlaw20_awake.j1 at hm
            refine hK88 _ _ ?_
            refine Vk.region ?_
            refine Vk.pures 2 [(10, .int .i64 (IntKind.i64.wrap (q_85 + 1))), (27, .int .i64 (IntKind.i64.wrap (q_85 + 1)))] hs (by kernel_rfl) fun a hs => ?_
            replace hs := hs.pick [0, 5, 9, 10] (L' := [(0, .slice Ar72x0_75 v_74.length cr72x0_76), (5, .int .u64 p_102), (9, .agg (vals v_56.1)), (10, .int .i64 (IntKind.i64.wrap (q_85 + 1)))]) (by kernel_rfl)
            refine Vk.done (by kernel_rfl) ?_
            refine ih (p_102, (IntKind.i64.wrap (q_85 + 1))) _ _ ⟨hm, hs.go [0, 5, 9, 10] [0, 1, 2, 3, 4, 5, 6, 7, 8, 9, 10, 11, 12, 13, 14, 15] 16 (by kernel_rfl) (by kernel_rfl) (by kernel_rfl)⟩
          refine wp_block ?_
          refine Vk.seq fun K89 hK89 => ?_
          refine Vk.region ?_
          obtain ⟨h_90, hm⟩ := ite_t hm
          obtain ⟨v_92, h_91, hm⟩ := bind_t hm
          refine Vk.step (Vk.value (some 12) (.int .i64 v_92) hs (by kernel_rfl) (op := (.index 63 (.tmp 9) (.tmp 10))) (by kernel_rfl) (fun o ho => run_idxVal (k := .i64) (cs := v_56.1) (c := C.int .i64 v_92) ho (by kernel_rfl) (by kernel_rfl) (len := 3) (et := 3) (by kernel_rfl) (by kernel_rfl) (by kernel_rfl) (by kernel_rfl) h_90 (getI_some h_91) _) fun a hs => ?_)
          refine Vk.pures 1 [(7, .int .i64 v_92)] hs (by kernel_rfl) fun a hs => ?_
          replace hs := hs.pick [0, 5, 7, 9, 10] (L' := [(0, .slice Ar72x0_75 v_74.length cr72x0_76), (5, .int .u64 q_84), (7, .int .i64 v_92), (9, .agg (vals v_56.1)), (10, .int .i64 q_85)]) (by kernel_rfl)
          refine Vk.done (by kernel_rfl) ?_
          refine hK89 _ _ ?_
          clear hK89
          refine Vk.seq fun K93 hK93 => ?_
          refine Vk.region ?_
          refine Vk.pures 3 [(15, .bool (decide (v_92 ≥ 0))), (14, .bool (decide (v_92 ≥ 0))), (13, .int .i64 v_92)] hs (by kernel_rfl) fun a hs => ?_
          suffices hj_94 : ∀ a, St 29 a w κ [(0, .slice Ar72x0_75 v_74.length cr72x0_76), (5, .int .u64 q_84), (7, .int .i64 v_92), (9, .agg (vals v_56.1)), (10, .int .i64 q_85), (13, .int .i64 v_92), (14, .bool (decide (v_92 ≥ 0))), (15, .bool (decide (v_92 ≥ 0))), (20, .bool ((decide (v_92 ≥ 0)) && (decide (v_92 < ((v_74.length : Nat) : Int)))))] (rowp Ar72x0_75 cr72x0_76 23 1 (eI .u64) v_74 :: pt b_46 (blk [C.ptr (some ⟨br4x0m_23, 0, none⟩), C.ptr (some ⟨br4x0x_33, 0, none⟩), C.slc Ar4x0l_42 v_22.2.2.1.length cr4x0l_43, C.slc Ar4x0v_44 v_22.2.2.2.1.length cr4x0v_45] 98) :: pt br4x0m_23 (blk (Twire_Machine.obj v_56.2 br4x0motape_24 Ar54o0oops_59 cr54o0oops_60 Ar54o0ovalues_61 cr54o0ovalues_62 Ar54o0oblocks_63 cr54o0oblocks_64) 151) :: pt br4x0motape_24 (blk (Ttape_Tape.obj v_56.2.tape Ar54o0otapeowords_57 cr54o0otapeowords_58) 158) :: rowp Ar54o0otapeowords_57 cr54o0otapeowords_58 23 1 (eI .u64) v_56.2.tape.words :: rowp Ar54o0oops_59 cr54o0oops_60 32 6 Tapi_Op.cells v_56.2.ops :: rowp Ar54o0ovalues_61 cr54o0ovalues_62 23 1 (eI .u64) v_56.2.values :: rowp Ar54o0oblocks_63 cr54o0oblocks_64 144 3 Tapi_Span.cells v_56.2.blocks :: pt br4x0x_33 (blk (Tvisorref19_M.obj v_22.2.1 Ar4x0xoops_34 cr4x0xoops_35 Ar4x0xoblocks_36 cr4x0xoblocks_37 Ar4x0xoval_38 cr4x0xoval_39 Ar4x0xotapel_40 cr4x0xotapel_41) 123) :: rowp Ar4x0xoops_34 cr4x0xoops_35 32 6 Tapi_Op.cells v_22.2.1.ops :: rowp Ar4x0xoblocks_36 cr4x0xoblocks_37 144 3 Tapi_Span.cells v_22.2.1.blocks :: rowp Ar4x0xoval_38 cr4x0xoval_39 23 1 (eI .u64) v_22.2.1.val :: rdp κ Ar4x0xotapel_40 cr4x0xotapel_41 1 (eI .u64) v_22.2.1.tape.l :: rowp Ar4x0l_42 cr4x0l_43 65 3 eC v_22.2.2.1 :: rowp Ar4x0v_44 cr4x0v_45 23 1 (eI .u64) v_22.2.2.2.1 :: pt b_65 (blk v_56.1 65) :: S) → wpFrom Try.prog _ _ 8 a w by
            rcases Bool.eq_false_or_eq_true (decide (v_92 ≥ 0)) with hb | hb
            · replace hs := hs.known (t := 15) hb (by kernel_rfl)
              refine Vk.pures 5 [(20, .bool (decide (v_92 < ((v_74.length : Nat) : Int)))), (19, .bool (decide (v_92 < ((v_74.length : Nat) : Int)))), (18, .int .i64 ((v_74.length : Nat) : Int)), (17, .slice Ar72x0_75 v_74.length cr72x0_76), (16, .int .i64 v_92)] hs (by kernel_rfl) fun a hs => ?_
              have hq := hs.pick [0, 5, 7, 9, 10, 13, 14, 15, 20] (L' := [(0, .slice Ar72x0_75 v_74.length cr72x0_76), (5, .int .u64 q_84), (7, .int .i64 v_92), (9, .agg (vals v_56.1)), (10, .int .i64 q_85), (13, .int .i64 v_92), (14, .bool (decide (v_92 ≥ 0))), (15, .bool true), (20, .bool (decide (v_92 < ((v_74.length : Nat) : Int))))]) (by kernel_rfl)
              exact hj_94 _ (hq.conv (by first | (rw [hb] <;> rfl) | rfl))
            · replace hs := hs.known (t := 15) hb (by kernel_rfl)
              refine Vk.pures 5 [(20, .bool false), (19, undef), (18, undef), (17, undef), (16, undef)] hs (by kernel_rfl) fun a hs => ?_
              have hq := hs.pick [0, 5, 7, 9, 10, 13, 14, 15, 20] (L' := [(0, .slice Ar72x0_75 v_74.length cr72x0_76), (5, .int .u64 q_84), (7, .int .i64 v_92), (9, .agg (vals v_56.1)), (10, .int .i64 q_85), (13, .int .i64 v_92), (14, .bool (decide (v_92 ≥ 0))), (15, .bool false), (20, .bool false)]) (by kernel_rfl)
              exact hj_94 _ (hq.conv (by first | (rw [hb] <;> rfl) | rfl))
          intro a hs
          replace hs := hs.pick [0, 5, 7, 9, 10, 20] (L' := [(0, .slice Ar72x0_75 v_74.length cr72x0_76), (5, .int .u64 q_84), (7, .int .i64 v_92), (9, .agg (vals v_56.1)), (10, .int .i64 q_85), (20, .bool ((decide (v_92 ≥ 0)) && (decide (v_92 < ((v_74.length : Nat) : Int)))))]) (by kernel_rfl)
          refine Vk.done (by kernel_rfl) ?_
          refine hK93 _ _ ?_
          clear hK93
          refine Vk.condS (b := (decide (v_92 ≥ 0)) && (decide (v_92 < ((v_74.length : Nat) : Int)))) hs (by kernel_rfl) (by kernel_rfl) (fun hb => ?_) (fun hb => ?_)
          · replace hm := bif_t hm hb
            refine Vk.region ?_
            refine Vk.pures 3 [(23, .int .i64 v_92), (22, .slice Ar72x0_75 v_74.length cr72x0_76), (21, .int .u64 q_84)] hs (by kernel_rfl) fun a hs => ?_
            obtain ⟨h_95, hm⟩ := ite_t hm
            obtain ⟨e_98, h_96, hm⟩ := bind_t hm
            obtain ⟨b_99, o_100, hA_101, h_97⟩ := Sl.elem (Own.rowSl 0 (Own.to (S' := rowp Ar72x0_75 cr72x0_76 23 1 (eI .u64) v_74 :: S) hs.own [0] 16 (by kernel_rfl) (by kernel_rfl)) rfl) h_96
            refine Vk.step (Vk.value (some 24) (.pointer (some ⟨b_99, o_100 + v_92.toNat * 1, none⟩)) hs (by kernel_rfl) (op := (.indexAddr 73 (.tmp 22) (.tmp 23))) (by kernel_rfl) (fun o ho => run_idxSlc (k := .i64) ho (cap := cr72x0_76) (len := v_74.length) ((congrArg (fun A => Value.slice A (v_74.length) (cr72x0_76)) hA_101) ▸ (by kernel_rfl)) (by kernel_rfl) (by kernel_rfl) (idx_ok h_95 h_96) _) fun a hs => ?_)
            refine Vk.step (Vk.value (some 25) (.int .u64 e_98) hs (by kernel_rfl) (op := (.load 23 (.tmp 24))) (by kernel_rfl) (fun o ho => run_load1 (c := C.int .u64 e_98) ho (by kernel_rfl) (by kernel_rfl) (fun w ho => h_97 w ho 0 _ rfl) _ (Own.to (S' := rowp Ar72x0_75 cr72x0_76 23 1 (eI .u64) v_74 :: S) hs.own [0] 16 (by kernel_rfl) (by kernel_rfl))) fun a hs => ?_)
            refine Vk.pures 2 [(5, .int .u64 (bxor .u64 q_84 e_98)), (26, .int .u64 (bxor .u64 q_84 e_98))] hs (by kernel_rfl) fun a hs => ?_
            replace hs := hs.pick [0, 5, 9, 10] (L' := [(0, .slice Ar72x0_75 v_74.length cr72x0_76), (5, .int .u64 (bxor .u64 q_84 e_98)), (9, .agg (vals v_56.1)), (10, .int .i64 q_85)]) (by kernel_rfl)
            refine Vk.done (by kernel_rfl) ?_
            exact hj88 (bxor .u64 q_84 e_98) hm _ _ (hs.go [0, 5, 9, 10] [0, 1, 2, 3, 4, 5, 6, 7, 8, 9, 10, 11, 12, 13, 14, 15] 16 (by kernel_rfl) (by kernel_rfl) (by kernel_rfl))
          · replace hm := bif_f hm hb
            refine wp_skip ?_
            exact hj88 q_84 hm _ _ (hs.go [0, 5, 9, 10] [0, 1, 2, 3, 4, 5, 6, 7, 8, 9, 10, 11, 12, 13, 14, 15] 16 (by kernel_rfl) (by kernel_rfl) (by kernel_rfl))
        · replace hm := bif_f hm hb
          refine wp_exit ?_
          exact hx83 q_84 (Option.some.inj hm).symm _ _ (hs.go [5] [1, 2, 3, 4, 5, 6, 7, 8, 9, 10, 11, 12, 13, 14, 15, 0] 16 (by kernel_rfl) (by kernel_rfl) (by kernel_rfl))
      · replace hm := bif_f hm hb
        replace hs := hs.known (t := 17) hb (by kernel_rfl)
        refine Vk.dPuresT [5, 6, 7, 8, 9, 10, 11, 12] [(0, .bool false), (24, .bool false), (23, undef), (22, undef), (21, undef), (20, undef), (19, undef), (18, undef)] hs (by kernel_rfl) (by repeat' (first | exact Vk.Calm.post | refine Vk.Calm.then ?_ | refine Vk.Calm.inBlock ?_)) hcl (by kernel_rfl) (by kernel_rfl) (fuel := 0) rfl fun a hs => ?_
        replace hs := hs.pick [0] (L' := [(0, .bool false)]) (by kernel_rfl)
        refine Vk.dDone (by kernel_rfl) ?_
        exact hj67 false hm _ _ (hs.go [0] [] 15 (by kernel_rfl) (by kernel_rfl) (by kernel_rfl))


def share_Value.j1 (k : Nat) (rec7 : Int → Int → Option (Int)) (q_9 : Int) (p_26 : Int) : Option (Int) := rec7 p_26 (IntKind.i64.wrap (q_9 + 1))
def share_Value.l1 (x0 : List Int) (x1 : Cells) : Nat → Int → Int → Option (Int)
  | 0, _, _ => none
  | k + 1, q_8, q_9 => (bif decide (q_9 < 3) then (if 0 ≤ q_9 ∧ q_9 < 3 then (getI .i64 x1 q_9.toNat).bind fun v_16 => (bif (decide (v_16 ≥ 0)) && (decide (v_16 < ((x0.length : Nat) : Int))) then (if 0 ≤ v_16 then (x0[v_16.toNat]?).bind fun e_22 => share_Value.j1 k (share_Value.l1 x0 x1 k) q_9 (bxor .u64 q_8 e_22) else none) else share_Value.j1 k (share_Value.l1 x0 x1 k) q_9 q_8) else none) else some q_8)
abbrev share_Value.R (κ : Ctx) (S : List HP) (x0 : List Int) (x1 : Cells) (A_x0 : Option Addr) (c_x0 : Nat) (r : Int) : Ending → World → Prop := fun e w' => e = .returned (.int .u64 r) ∧ Own κ w' (S)
def share_Value.m (k : Nat) (x0 : List Int) (x1 : Cells) : Option Int := (if x1.length = 3 then (share_Value.l1 x0 x1 k 0 0).bind fun p_27 => some p_27 else none)

set_option maxRecDepth 100000 in
set_option maxHeartbeats 4000000 in
theorem share_Value.ok (k : Nat) (x0 : List Int) (x1 : Cells) (r : Int) (hm : share_Value.m k x0 x1 = some r) (κ : Ctx) (w : World) (S : List HP) (A_x0 : Option Addr) (c_x0 : Nat) (hx_x0 : Sl κ S A_x0 c_x0 1 (eI .u64) x0) (ho : Own κ w (S)) :
    Calls Try.prog 48 #[.slice A_x0 x0.length c_x0, .agg (vals x1)] w (share_Value.R κ S x0 x1 A_x0 c_x0 r) := by
  unfold share_Value.m at hm
  refine Vk.enter [(0, .slice A_x0 x0.length c_x0), (1, .agg (vals x1))] Try.func48 rfl Try.ntmps48 (by kernel_rfl) (Nat.le_of_ble_eq_true (by kernel_rfl)) ho fun a hs => ?_
  refine Vk.seq fun K1 hK1 => ?_
  refine Vk.region ?_
  refine Vk.step (Vk.box (x := (.tmp 1)) 3 65 x1 hs (by kernel_rfl) (by kernel_rfl) (by kernel_rfl) fun b_2 w a hs => ?_)
  refine Vk.pures 1 [(4, .int .u64 0)] hs (by kernel_rfl) fun a hs => ?_
  replace hs := hs.pick [0, 3] (L' := [(0, .slice A_x0 x0.length c_x0), (3, .pointer (some ⟨b_2, 0, none⟩))]) (by kernel_rfl)
  refine Vk.done (by kernel_rfl) ?_
  refine hK1 _ _ ?_
  clear hK1
  refine Vk.seq fun K3 hK3 => ?_
  refine Vk.region ?_
  refine Vk.pures 1 [(5, .int .u64 0)] hs (by kernel_rfl) fun a hs => ?_
  replace hs := hs.pick [0, 3, 5] (L' := [(0, .slice A_x0 x0.length c_x0), (3, .pointer (some ⟨b_2, 0, none⟩)), (5, .int .u64 0)]) (by kernel_rfl)
  refine Vk.done (by kernel_rfl) ?_
  refine hK3 _ _ ?_
  clear hK3
  refine Vk.seq fun K4 hK4 => ?_
  refine Vk.seq fun K5 hK5 => ?_
  refine Vk.region ?_
  refine Vk.pures 1 [(8, .pointer (some ⟨b_2, 0, none⟩))] hs (by kernel_rfl) fun a hs => ?_
  obtain ⟨h_6, hm⟩ := ite_t hm
  refine Vk.step (Vk.value (some 9) (.agg (vals x1)) hs (by kernel_rfl) (op := (.load 63 (.tmp 8))) (by kernel_rfl) (fun o ho => run_loadN (cs := x1) ho (by kernel_rfl) (by kernel_rfl) h_6 (CellsAt.all 0 rfl) _ hs.own) fun a hs => ?_)
  refine Vk.pures 1 [(10, .int .i64 0)] hs (by kernel_rfl) fun a hs => ?_
  replace hs := hs.pick [0, 5, 9, 10] (L' := [(0, .slice A_x0 x0.length c_x0), (5, .int .u64 0), (9, .agg (vals x1)), (10, .int .i64 0)]) (by kernel_rfl)
  refine Vk.done (by kernel_rfl) ?_
  refine hK5 _ _ ?_
  clear hK5
  refine wp_block ?_
  obtain ⟨r7, hl7, hm⟩ := bind_t hm
  have hx7 : ∀ (p_27 : Int), r7 = p_27 → ∀ (a : Act) (w : World), St 29 a w κ [(5, .int .u64 p_27)] (S) → K4 a w := by
    intro p_27 he a w hs
    subst r7
    refine hK4 _ _ ?_
    clear hK4
    refine Vk.seq fun K30 hK30 => ?_
    refine Vk.region ?_
    refine Vk.pures 2 [(4, .int .u64 p_27), (28, .int .u64 p_27)] hs (by kernel_rfl) fun a hs => ?_
    replace hs := hs.pick [4] (L' := [(4, .int .u64 p_27)]) (by kernel_rfl)
    refine Vk.done (by kernel_rfl) ?_
    refine hK30 _ _ ?_
    clear hK30
    refine wp_ret ?_
    exact Vk.ret1 (P := Try.prog) (fn := Try.f48) (R := share_Value.R κ S x0 x1 A_x0 c_x0 r) (.int .u64 p_27) hs rfl (by kernel_rfl) (by obtain rfl := Option.some.inj hm; exact ⟨rfl, (Own.to hs.own [] 0 (by kernel_rfl) (by kernel_rfl))⟩)
  refine Vk.loopBy (fun k (s : Int × Int) a w => share_Value.l1 x0 x1 k s.1 s.2 = some r7 ∧ St 29 a w κ [(0, .slice A_x0 x0.length c_x0), (5, .int .u64 s.1), (9, .agg (vals x1)), (10, .int .i64 s.2)] (S)) k (0, 0) ⟨hl7, hs.go [0, 5, 9, 10] [] 1 (by kernel_rfl) (by kernel_rfl) (by kernel_rfl)⟩ (fun s a w h => by obtain ⟨h1, _⟩ := h; simp [share_Value.l1] at h1) (fun k KL7 ih s a w h => ?_)
  obtain ⟨q_8, q_9⟩ := s
  obtain ⟨hm, hs⟩ := h
  try dsimp only at hm hs
  rw [share_Value.l1] at hm
  refine Vk.seq fun K10 hK10 => ?_
  refine Vk.region ?_
  refine Vk.pures 1 [(11, .bool (decide (q_9 < 3)))] hs (by kernel_rfl) fun a hs => ?_
  replace hs := hs.pick [0, 5, 9, 10, 11] (L' := [(0, .slice A_x0 x0.length c_x0), (5, .int .u64 q_8), (9, .agg (vals x1)), (10, .int .i64 q_9), (11, .bool (decide (q_9 < 3)))]) (by kernel_rfl)
  refine Vk.done (by kernel_rfl) ?_
  refine hK10 _ _ ?_
  clear hK10
  refine Vk.seq fun K11 hK11 => ?_
  refine Vk.condS (b := decide (q_9 < 3)) hs (by kernel_rfl) (by kernel_rfl) (fun hb => ?_) (fun hb => ?_)
  · replace hm := bif_t hm hb
    refine wp_skip ?_
    refine hK11 _ _ ?_
    clear hK11
    refine Vk.seq fun K12 hK12 => ?_
    have hj12 : ∀ (p_26 : Int), share_Value.j1 k (share_Value.l1 x0 x1 k) q_9 p_26 = some r7 → ∀ (a : Act) (w : World), St 29 a w κ [(0, .slice A_x0 x0.length c_x0), (5, .int .u64 p_26), (9, .agg (vals x1)), (10, .int .i64 q_9)] (S) → K12 a w := by
      intro p_26 hm a w hs
      unfold share_Value.j1 at hm
      refine hK12 _ _ ?_
      refine Vk.region ?_
      refine Vk.pures 2 [(10, .int .i64 (IntKind.i64.wrap (q_9 + 1))), (27, .int .i64 (IntKind.i64.wrap (q_9 + 1)))] hs (by kernel_rfl) fun a hs => ?_
      replace hs := hs.pick [0, 5, 9, 10] (L' := [(0, .slice A_x0 x0.length c_x0), (5, .int .u64 p_26), (9, .agg (vals x1)), (10, .int .i64 (IntKind.i64.wrap (q_9 + 1)))]) (by kernel_rfl)
      refine Vk.done (by kernel_rfl) ?_
      refine ih (p_26, (IntKind.i64.wrap (q_9 + 1))) _ _ ⟨hm, hs.go [0, 5, 9, 10] [] 0 (by kernel_rfl) (by kernel_rfl) (by kernel_rfl)⟩
    refine wp_block ?_
    refine Vk.seq fun K13 hK13 => ?_
    refine Vk.region ?_
    obtain ⟨h_14, hm⟩ := ite_t hm
    obtain ⟨v_16, h_15, hm⟩ := bind_t hm
    refine Vk.step (Vk.value (some 12) (.int .i64 v_16) hs (by kernel_rfl) (op := (.index 63 (.tmp 9) (.tmp 10))) (by kernel_rfl) (fun o ho => run_idxVal (k := .i64) (cs := x1) (c := C.int .i64 v_16) ho (by kernel_rfl) (by kernel_rfl) (len := 3) (et := 3) (by kernel_rfl) (by kernel_rfl) (by kernel_rfl) (by kernel_rfl) h_14 (getI_some h_15) _) fun a hs => ?_)
    refine Vk.pures 1 [(7, .int .i64 v_16)] hs (by kernel_rfl) fun a hs => ?_
    replace hs := hs.pick [0, 5, 7, 9, 10] (L' := [(0, .slice A_x0 x0.length c_x0), (5, .int .u64 q_8), (7, .int .i64 v_16), (9, .agg (vals x1)), (10, .int .i64 q_9)]) (by kernel_rfl)
    refine Vk.done (by kernel_rfl) ?_
    refine hK13 _ _ ?_
    clear hK13
    refine Vk.seq fun K17 hK17 => ?_
    refine Vk.region ?_
    refine Vk.pures 3 [(15, .bool (decide (v_16 ≥ 0))), (14, .bool (decide (v_16 ≥ 0))), (13, .int .i64 v_16)] hs (by kernel_rfl) fun a hs => ?_
    suffices hj_18 : ∀ a, St 29 a w κ [(0, .slice A_x0 x0.length c_x0), (5, .int .u64 q_8), (7, .int .i64 v_16), (9, .agg (vals x1)), (10, .int .i64 q_9), (13, .int .i64 v_16), (14, .bool (decide (v_16 ≥ 0))), (15, .bool (decide (v_16 ≥ 0))), (20, .bool ((decide (v_16 ≥ 0)) && (decide (v_16 < ((x0.length : Nat) : Int)))))] (S) → wpFrom Try.prog _ _ 8 a w by
      rcases Bool.eq_false_or_eq_true (decide (v_16 ≥ 0)) with hb | hb
      · replace hs := hs.known (t := 15) hb (by kernel_rfl)
        refine Vk.pures 5 [(20, .bool (decide (v_16 < ((x0.length : Nat) : Int)))), (19, .bool (decide (v_16 < ((x0.length : Nat) : Int)))), (18, .int .i64 ((x0.length : Nat) : Int)), (17, .slice A_x0 x0.length c_x0), (16, .int .i64 v_16)] hs (by kernel_rfl) fun a hs => ?_
        have hq := hs.pick [0, 5, 7, 9, 10, 13, 14, 15, 20] (L' := [(0, .slice A_x0 x0.length c_x0), (5, .int .u64 q_8), (7, .int .i64 v_16), (9, .agg (vals x1)), (10, .int .i64 q_9), (13, .int .i64 v_16), (14, .bool (decide (v_16 ≥ 0))), (15, .bool true), (20, .bool (decide (v_16 < ((x0.length : Nat) : Int))))]) (by kernel_rfl)
        exact hj_18 _ (hq.conv (by first | (rw [hb] <;> rfl) | rfl))
      · replace hs := hs.known (t := 15) hb (by kernel_rfl)
        refine Vk.pures 5 [(20, .bool false), (19, undef), (18, undef), (17, undef), (16, undef)] hs (by kernel_rfl) fun a hs => ?_
        have hq := hs.pick [0, 5, 7, 9, 10, 13, 14, 15, 20] (L' := [(0, .slice A_x0 x0.length c_x0), (5, .int .u64 q_8), (7, .int .i64 v_16), (9, .agg (vals x1)), (10, .int .i64 q_9), (13, .int .i64 v_16), (14, .bool (decide (v_16 ≥ 0))), (15, .bool false), (20, .bool false)]) (by kernel_rfl)
        exact hj_18 _ (hq.conv (by first | (rw [hb] <;> rfl) | rfl))
    intro a hs
    replace hs := hs.pick [0, 5, 7, 9, 10, 20] (L' := [(0, .slice A_x0 x0.length c_x0), (5, .int .u64 q_8), (7, .int .i64 v_16), (9, .agg (vals x1)), (10, .int .i64 q_9), (20, .bool ((decide (v_16 ≥ 0)) && (decide (v_16 < ((x0.length : Nat) : Int)))))]) (by kernel_rfl)
    refine Vk.done (by kernel_rfl) ?_
    refine hK17 _ _ ?_
    clear hK17
    refine Vk.condS (b := (decide (v_16 ≥ 0)) && (decide (v_16 < ((x0.length : Nat) : Int)))) hs (by kernel_rfl) (by kernel_rfl) (fun hb => ?_) (fun hb => ?_)
    · replace hm := bif_t hm hb
      refine Vk.region ?_
      refine Vk.pures 3 [(23, .int .i64 v_16), (22, .slice A_x0 x0.length c_x0), (21, .int .u64 q_8)] hs (by kernel_rfl) fun a hs => ?_
      obtain ⟨h_19, hm⟩ := ite_t hm
      obtain ⟨e_22, h_20, hm⟩ := bind_t hm
      obtain ⟨b_23, o_24, hA_25, h_21⟩ := Sl.elem hx_x0 h_20
      refine Vk.step (Vk.value (some 24) (.pointer (some ⟨b_23, o_24 + v_16.toNat * 1, none⟩)) hs (by kernel_rfl) (op := (.indexAddr 73 (.tmp 22) (.tmp 23))) (by kernel_rfl) (fun o ho => run_idxSlc (k := .i64) ho (cap := c_x0) (len := x0.length) ((congrArg (fun A => Value.slice A (x0.length) (c_x0)) hA_25) ▸ (by kernel_rfl)) (by kernel_rfl) (by kernel_rfl) (idx_ok h_19 h_20) _) fun a hs => ?_)
      refine Vk.step (Vk.value (some 25) (.int .u64 e_22) hs (by kernel_rfl) (op := (.load 23 (.tmp 24))) (by kernel_rfl) (fun o ho => run_load1 (c := C.int .u64 e_22) ho (by kernel_rfl) (by kernel_rfl) (fun w ho => h_21 w ho 0 _ rfl) _ hs.own) fun a hs => ?_)
      refine Vk.pures 2 [(5, .int .u64 (bxor .u64 q_8 e_22)), (26, .int .u64 (bxor .u64 q_8 e_22))] hs (by kernel_rfl) fun a hs => ?_
      replace hs := hs.pick [0, 5, 9, 10] (L' := [(0, .slice A_x0 x0.length c_x0), (5, .int .u64 (bxor .u64 q_8 e_22)), (9, .agg (vals x1)), (10, .int .i64 q_9)]) (by kernel_rfl)
      refine Vk.done (by kernel_rfl) ?_
      exact hj12 (bxor .u64 q_8 e_22) hm _ _ (hs.go [0, 5, 9, 10] [] 0 (by kernel_rfl) (by kernel_rfl) (by kernel_rfl))
    · replace hm := bif_f hm hb
      refine wp_skip ?_
      exact hj12 q_8 hm _ _ (hs.go [0, 5, 9, 10] [] 0 (by kernel_rfl) (by kernel_rfl) (by kernel_rfl))
  · replace hm := bif_f hm hb
    refine wp_exit ?_
    exact hx7 q_8 (Option.some.inj hm).symm _ _ (hs.go [5] [] 0 (by kernel_rfl) (by kernel_rfl) (by kernel_rfl))


def visorref20_Value.j1 (k : Nat) (rec6 : Int → Int → Option (Int)) (q_8 : Int) (p_30 : Int) (p_31 : Int) (p_32 : Bool) : Option (Int) := rec6 p_30 (IntKind.i64.wrap (q_8 + 1))
def visorref20_Value.l1 (x0 : List Int) (x1 : Cells) : Nat → Int → Int → Option (Int)
  | 0, _, _ => none
  | k + 1, q_7, q_8 => (bif decide (q_8 < 3) then (if 0 ≤ q_8 ∧ q_8 < 3 then (getI .i64 x1 (0 + q_8.toNat * 1)).bind fun v_15 => (bif decide (v_15 ≥ 0) then (if 0 ≤ q_8 ∧ q_8 < 3 then (getI .i64 x1 (0 + q_8.toNat * 1)).bind fun v_19 => (bif decide (v_19 < ((x0.length : Nat) : Int)) then (if 0 ≤ q_8 ∧ q_8 < 3 then (getI .i64 x1 (0 + q_8.toNat * 1)).bind fun v_22 => (if 0 ≤ v_22 then (x0[v_22.toNat]?).bind fun e_26 => visorref20_Value.j1 k (visorref20_Value.l1 x0 x1 k) q_8 (bxor .u64 q_7 e_26) v_19 (decide (v_19 < ((x0.length : Nat) : Int))) else none) else none) else visorref20_Value.j1 k (visorref20_Value.l1 x0 x1 k) q_8 q_7 v_19 (decide (v_19 < ((x0.length : Nat) : Int)))) else none) else visorref20_Value.l1 x0 x1 k q_7 (IntKind.i64.wrap (q_8 + 1))) else none) else some q_7)
abbrev visorref20_Value.R (κ : Ctx) (S : List HP) (x0 : List Int) (x1 : Cells) (A_x0 : Option Addr) (c_x0 : Nat) (r : Int) : Ending → World → Prop := fun e w' => e = .returned (.int .u64 r) ∧ Own κ w' (S)
def visorref20_Value.m (k : Nat) (x0 : List Int) (x1 : Cells) : Option Int := (visorref20_Value.l1 x0 x1 k 0 0).bind fun p_34 => some p_34

set_option maxRecDepth 100000 in
set_option maxHeartbeats 4000000 in
theorem visorref20_Value.ok (k : Nat) (x0 : List Int) (x1 : Cells) (r : Int) (hm : visorref20_Value.m k x0 x1 = some r) (κ : Ctx) (w : World) (S : List HP) (A_x0 : Option Addr) (c_x0 : Nat) (hx_x0 : Sl κ S A_x0 c_x0 1 (eI .u64) x0) (ho : Own κ w (S)) :
    Calls Try.prog 49 #[.slice A_x0 x0.length c_x0, .agg (vals x1)] w (visorref20_Value.R κ S x0 x1 A_x0 c_x0 r) := by
  unfold visorref20_Value.m at hm
  refine Vk.enter [(0, .slice A_x0 x0.length c_x0), (1, .agg (vals x1))] Try.func49 rfl Try.ntmps49 (by kernel_rfl) (Nat.le_of_ble_eq_true (by kernel_rfl)) ho fun a hs => ?_
  refine Vk.seq fun K1 hK1 => ?_
  refine Vk.region ?_
  refine Vk.step (Vk.box (x := (.tmp 1)) 3 65 x1 hs (by kernel_rfl) (by kernel_rfl) (by kernel_rfl) fun b_2 w a hs => ?_)
  refine Vk.pures 1 [(4, .int .u64 0)] hs (by kernel_rfl) fun a hs => ?_
  replace hs := hs.pick [0, 3] (L' := [(0, .slice A_x0 x0.length c_x0), (3, .pointer (some ⟨b_2, 0, none⟩))]) (by kernel_rfl)
  refine Vk.done (by kernel_rfl) ?_
  refine hK1 _ _ ?_
  clear hK1
  refine Vk.seq fun K3 hK3 => ?_
  refine Vk.region ?_
  refine Vk.pures 1 [(5, .int .u64 0)] hs (by kernel_rfl) fun a hs => ?_
  replace hs := hs.pick [0, 3, 5] (L' := [(0, .slice A_x0 x0.length c_x0), (3, .pointer (some ⟨b_2, 0, none⟩)), (5, .int .u64 0)]) (by kernel_rfl)
  refine Vk.done (by kernel_rfl) ?_
  refine hK3 _ _ ?_
  clear hK3
  refine Vk.seq fun K4 hK4 => ?_
  refine Vk.seq fun K5 hK5 => ?_
  refine Vk.region ?_
  refine Vk.pures 1 [(6, .int .i64 0)] hs (by kernel_rfl) fun a hs => ?_
  replace hs := hs.pick [0, 3, 5, 6] (L' := [(0, .slice A_x0 x0.length c_x0), (3, .pointer (some ⟨b_2, 0, none⟩)), (5, .int .u64 0), (6, .int .i64 0)]) (by kernel_rfl)
  refine Vk.done (by kernel_rfl) ?_
  refine hK5 _ _ ?_
  clear hK5
  refine wp_block ?_
  obtain ⟨r6, hl6, hm⟩ := bind_t hm
  have hx6 : ∀ (p_34 : Int), r6 = p_34 → ∀ (a : Act) (w : World), St 35 a w κ [(5, .int .u64 p_34)] (S) → K4 a w := by
    intro p_34 he a w hs
    subst r6
    refine hK4 _ _ ?_
    clear hK4
    refine Vk.seq fun K39 hK39 => ?_
    refine Vk.region ?_
    refine Vk.pures 2 [(4, .int .u64 p_34), (34, .int .u64 p_34)] hs (by kernel_rfl) fun a hs => ?_
    replace hs := hs.pick [4] (L' := [(4, .int .u64 p_34)]) (by kernel_rfl)
    refine Vk.done (by kernel_rfl) ?_
    refine hK39 _ _ ?_
    clear hK39
    refine wp_ret ?_
    exact Vk.ret1 (P := Try.prog) (fn := Try.f49) (R := visorref20_Value.R κ S x0 x1 A_x0 c_x0 r) (.int .u64 p_34) hs rfl (by kernel_rfl) (by obtain rfl := Option.some.inj hm; exact ⟨rfl, (Own.to hs.own [] 0 (by kernel_rfl) (by kernel_rfl))⟩)
  refine Vk.loopBy (fun k (s : Int × Int) a w => visorref20_Value.l1 x0 x1 k s.1 s.2 = some r6 ∧ St 35 a w κ [(0, .slice A_x0 x0.length c_x0), (3, .pointer (some ⟨b_2, 0, none⟩)), (5, .int .u64 s.1), (6, .int .i64 s.2)] (pt b_2 (blk x1 65) :: S)) k (0, 0) ⟨hl6, hs.go [0, 3, 5, 6] [0] 1 (by kernel_rfl) (by kernel_rfl) (by kernel_rfl)⟩ (fun s a w h => by obtain ⟨h1, _⟩ := h; simp [visorref20_Value.l1] at h1) (fun k KL6 ih s a w h => ?_)
  obtain ⟨q_7, q_8⟩ := s
  obtain ⟨hm, hs⟩ := h
  try dsimp only at hm hs
  rw [visorref20_Value.l1] at hm
  refine Vk.seq fun K9 hK9 => ?_
  refine Vk.seq fun K10 hK10 => ?_
  refine Vk.region ?_
  refine Vk.pures 2 [(8, .bool (decide (q_8 < 3))), (7, .int .i64 q_8)] hs (by kernel_rfl) fun a hs => ?_
  replace hs := hs.pick [0, 3, 5, 6, 8] (L' := [(0, .slice A_x0 x0.length c_x0), (3, .pointer (some ⟨b_2, 0, none⟩)), (5, .int .u64 q_7), (6, .int .i64 q_8), (8, .bool (decide (q_8 < 3)))]) (by kernel_rfl)
  refine Vk.done (by kernel_rfl) ?_
  refine hK10 _ _ ?_
  clear hK10
  refine Vk.condS (b := decide (q_8 < 3)) hs (by kernel_rfl) (by kernel_rfl) (fun hb => ?_) (fun hb => ?_)
  · replace hm := bif_t hm hb
    refine wp_skip ?_
    refine hK9 _ _ ?_
    clear hK9
    refine Vk.seq fun K11 hK11 => ?_
    have hj33 : ∀ (p_30 : Int) (p_31 : Int) (p_32 : Bool), visorref20_Value.j1 k (visorref20_Value.l1 x0 x1 k) q_8 p_30 p_31 p_32 = some r6 → ∀ (a : Act) (w : World), St 35 a w κ [(0, .slice A_x0 x0.length c_x0), (3, .pointer (some ⟨b_2, 0, none⟩)), (5, .int .u64 p_30), (6, .int .i64 q_8), (17, .int .i64 q_8), (18, .pointer (some ⟨b_2, 0, none⟩)), (19, .pointer (some ⟨b_2, 0 + q_8.toNat * 1, none⟩)), (20, .int .i64 p_31), (21, .slice A_x0 x0.length c_x0), (22, .int .i64 ((x0.length : Nat) : Int)), (23, .bool p_32)] (pt b_2 (blk x1 65) :: S) → K11 a w := by
      intro p_30 p_31 p_32 hm a w hs
      unfold visorref20_Value.j1 at hm
      refine hK11 _ _ ?_
      refine Vk.region ?_
      refine Vk.pures 3 [(6, .int .i64 (IntKind.i64.wrap (q_8 + 1))), (10, .int .i64 (IntKind.i64.wrap (q_8 + 1))), (9, .int .i64 q_8)] hs (by kernel_rfl) fun a hs => ?_
      replace hs := hs.pick [0, 3, 5, 6, 17, 18, 19, 20, 21, 22, 23] (L' := [(0, .slice A_x0 x0.length c_x0), (3, .pointer (some ⟨b_2, 0, none⟩)), (5, .int .u64 p_30), (6, .int .i64 (IntKind.i64.wrap (q_8 + 1))), (17, .int .i64 q_8), (18, .pointer (some ⟨b_2, 0, none⟩)), (19, .pointer (some ⟨b_2, 0 + q_8.toNat * 1, none⟩)), (20, .int .i64 p_31), (21, .slice A_x0 x0.length c_x0), (22, .int .i64 ((x0.length : Nat) : Int)), (23, .bool p_32)]) (by kernel_rfl)
      refine Vk.done (by kernel_rfl) ?_
      refine ih (p_30, (IntKind.i64.wrap (q_8 + 1))) _ _ ⟨hm, hs.go [0, 3, 5, 6] [0] 1 (by kernel_rfl) (by kernel_rfl) (by kernel_rfl)⟩
    refine wp_block ?_
    refine Vk.seq fun K12 hK12 => ?_
    refine Vk.region ?_
    refine Vk.pures 2 [(12, .pointer (some ⟨b_2, 0, none⟩)), (11, .int .i64 q_8)] hs (by kernel_rfl) fun a hs => ?_
    obtain ⟨h_13, hm⟩ := ite_t hm
    refine Vk.step (Vk.value (some 13) (.pointer (some ⟨b_2, 0 + q_8.toNat * 1, none⟩)) hs (by kernel_rfl) (op := (.indexAddr 63 (.tmp 12) (.tmp 11))) (by kernel_rfl) (fun o ho => run_idxArr (k := .i64) ho (by kernel_rfl) (by kernel_rfl) (by kernel_rfl) h_13 _) fun a hs => ?_)
    obtain ⟨v_15, h_14, hm⟩ := bind_t hm
    refine Vk.step (Vk.value (some 14) (.int .i64 v_15) hs (by kernel_rfl) (op := (.load 3 (.tmp 13))) (by kernel_rfl) (fun o ho => run_load1 (c := C.int .i64 v_15) ho (by kernel_rfl) (by kernel_rfl) (Cell.own 0 rfl (getI_some h_14)) _ hs.own) fun a hs => ?_)
    refine Vk.pures 2 [(16, .bool (decide (v_15 ≥ 0))), (15, .bool (decide (v_15 ≥ 0)))] hs (by kernel_rfl) fun a hs => ?_
    rcases Bool.eq_false_or_eq_true (decide (v_15 ≥ 0)) with hb | hb
    · replace hm := bif_t hm hb
      replace hs := hs.known (t := 16) hb (by kernel_rfl)
      refine Vk.pures 2 [(18, .pointer (some ⟨b_2, 0, none⟩)), (17, .int .i64 q_8)] hs (by kernel_rfl) fun a hs => ?_
      obtain ⟨h_17, hm⟩ := ite_t hm
      refine Vk.step (Vk.value (some 19) (.pointer (some ⟨b_2, 0 + q_8.toNat * 1, none⟩)) hs (by kernel_rfl) (op := (.indexAddr 63 (.tmp 18) (.tmp 17))) (by kernel_rfl) (fun o ho => run_idxArr (k := .i64) ho (by kernel_rfl) (by kernel_rfl) (by kernel_rfl) h_17 _) fun a hs => ?_)
      obtain ⟨v_19, h_18, hm⟩ := bind_t hm
      refine Vk.step (Vk.value (some 20) (.int .i64 v_19) hs (by kernel_rfl) (op := (.load 3 (.tmp 19))) (by kernel_rfl) (fun o ho => run_load1 (c := C.int .i64 v_19) ho (by kernel_rfl) (by kernel_rfl) (Cell.own 0 rfl (getI_some h_18)) _ hs.own) fun a hs => ?_)
      refine Vk.pures 4 [(24, .bool (decide (v_19 < ((x0.length : Nat) : Int)))), (23, .bool (decide (v_19 < ((x0.length : Nat) : Int)))), (22, .int .i64 ((x0.length : Nat) : Int)), (21, .slice A_x0 x0.length c_x0)] hs (by kernel_rfl) fun a hs => ?_
      replace hs := hs.pick [0, 3, 5, 6, 17, 18, 19, 20, 21, 22, 23, 24] (L' := [(0, .slice A_x0 x0.length c_x0), (3, .pointer (some ⟨b_2, 0, none⟩)), (5, .int .u64 q_7), (6, .int .i64 q_8), (17, .int .i64 q_8), (18, .pointer (some ⟨b_2, 0, none⟩)), (19, .pointer (some ⟨b_2, 0 + q_8.toNat * 1, none⟩)), (20, .int .i64 v_19), (21, .slice A_x0 x0.length c_x0), (22, .int .i64 ((x0.length : Nat) : Int)), (23, .bool (decide (v_19 < ((x0.length : Nat) : Int)))), (24, .bool (decide (v_19 < ((x0.length : Nat) : Int))))]) (by kernel_rfl)
      refine Vk.done (by kernel_rfl) ?_
      refine hK12 _ _ ?_
      refine Vk.condS (b := decide (v_19 < ((x0.length : Nat) : Int))) hs (by kernel_rfl) (by kernel_rfl) (fun hb => ?_) (fun hb => ?_)
      · replace hm := bif_t hm hb
        refine Vk.region ?_
        refine Vk.pures 4 [(28, .pointer (some ⟨b_2, 0, none⟩)), (27, .int .i64 q_8), (26, .slice A_x0 x0.length c_x0), (25, .int .u64 q_7)] hs (by kernel_rfl) fun a hs => ?_
        obtain ⟨h_20, hm⟩ := ite_t hm
        refine Vk.step (Vk.value (some 29) (.pointer (some ⟨b_2, 0 + q_8.toNat * 1, none⟩)) hs (by kernel_rfl) (op := (.indexAddr 63 (.tmp 28) (.tmp 27))) (by kernel_rfl) (fun o ho => run_idxArr (k := .i64) ho (by kernel_rfl) (by kernel_rfl) (by kernel_rfl) h_20 _) fun a hs => ?_)
        obtain ⟨v_22, h_21, hm⟩ := bind_t hm
        refine Vk.step (Vk.value (some 30) (.int .i64 v_22) hs (by kernel_rfl) (op := (.load 3 (.tmp 29))) (by kernel_rfl) (fun o ho => run_load1 (c := C.int .i64 v_22) ho (by kernel_rfl) (by kernel_rfl) (Cell.own 0 rfl (getI_some h_21)) _ hs.own) fun a hs => ?_)
        obtain ⟨h_23, hm⟩ := ite_t hm
        obtain ⟨e_26, h_24, hm⟩ := bind_t hm
        obtain ⟨b_27, o_28, hA_29, h_25⟩ := Sl.elem hx_x0 h_24
        refine Vk.step (Vk.value (some 31) (.pointer (some ⟨b_27, o_28 + v_22.toNat * 1, none⟩)) hs (by kernel_rfl) (op := (.indexAddr 73 (.tmp 26) (.tmp 30))) (by kernel_rfl) (fun o ho => run_idxSlc (k := .i64) ho (cap := c_x0) (len := x0.length) ((congrArg (fun A => Value.slice A (x0.length) (c_x0)) hA_29) ▸ (by kernel_rfl)) (by kernel_rfl) (by kernel_rfl) (idx_ok h_23 h_24) _) fun a hs => ?_)
        refine Vk.step (Vk.value (some 32) (.int .u64 e_26) hs (by kernel_rfl) (op := (.load 23 (.tmp 31))) (by kernel_rfl) (fun o ho => run_load1 (c := C.int .u64 e_26) ho (by kernel_rfl) (by kernel_rfl) (fun w ho => h_25 w ho 0 _ rfl) _ hs.own.drop) fun a hs => ?_)
        refine Vk.pures 2 [(5, .int .u64 (bxor .u64 q_7 e_26)), (33, .int .u64 (bxor .u64 q_7 e_26))] hs (by kernel_rfl) fun a hs => ?_
        replace hs := hs.pick [0, 3, 5, 6, 17, 18, 19, 20, 21, 22, 23] (L' := [(0, .slice A_x0 x0.length c_x0), (3, .pointer (some ⟨b_2, 0, none⟩)), (5, .int .u64 (bxor .u64 q_7 e_26)), (6, .int .i64 q_8), (17, .int .i64 q_8), (18, .pointer (some ⟨b_2, 0, none⟩)), (19, .pointer (some ⟨b_2, 0 + q_8.toNat * 1, none⟩)), (20, .int .i64 v_19), (21, .slice A_x0 x0.length c_x0), (22, .int .i64 ((x0.length : Nat) : Int)), (23, .bool (decide (v_19 < ((x0.length : Nat) : Int))))]) (by kernel_rfl)
        refine Vk.done (by kernel_rfl) ?_
        exact hj33 (bxor .u64 q_7 e_26) v_19 (decide (v_19 < ((x0.length : Nat) : Int))) hm _ _ (hs.go [0, 3, 5, 6, 17, 18, 19, 20, 21, 22, 23] [0] 1 (by kernel_rfl) (by kernel_rfl) (by kernel_rfl))
      · replace hm := bif_f hm hb
        refine wp_skip ?_
        exact hj33 q_7 v_19 (decide (v_19 < ((x0.length : Nat) : Int))) hm _ _ (hs.go [0, 3, 5, 6, 17, 18, 19, 20, 21, 22, 23] [0] 1 (by kernel_rfl) (by kernel_rfl) (by kernel_rfl))
    · replace hm := bif_f hm hb
      replace hs := hs.known (t := 16) hb (by kernel_rfl)
      refine Vk.pures 8 [(24, .bool false), (23, undef), (22, undef), (21, undef), (20, undef), (19, undef), (18, undef), (17, undef)] hs (by kernel_rfl) fun a hs => ?_
      replace hs := hs.pick [0, 3, 5, 6, 24] (L' := [(0, .slice A_x0 x0.length c_x0), (3, .pointer (some ⟨b_2, 0, none⟩)), (5, .int .u64 q_7), (6, .int .i64 q_8), (24, .bool false)]) (by kernel_rfl)
      refine Vk.done (by kernel_rfl) ?_
      refine hK12 _ _ ?_
      refine Vk.condF hs (by kernel_rfl) (by kernel_rfl) ?_
      refine wp_skip ?_
      refine hK11 _ _ ?_
      refine Vk.region ?_
      refine Vk.pures 3 [(6, .int .i64 (IntKind.i64.wrap (q_8 + 1))), (10, .int .i64 (IntKind.i64.wrap (q_8 + 1))), (9, .int .i64 q_8)] hs (by kernel_rfl) fun a hs => ?_
      replace hs := hs.pick [0, 3, 5, 6] (L' := [(0, .slice A_x0 x0.length c_x0), (3, .pointer (some ⟨b_2, 0, none⟩)), (5, .int .u64 q_7), (6, .int .i64 (IntKind.i64.wrap (q_8 + 1)))]) (by kernel_rfl)
      refine Vk.done (by kernel_rfl) ?_
      refine ih (q_7, (IntKind.i64.wrap (q_8 + 1))) _ _ ⟨hm, hs.go [0, 3, 5, 6] [0] 1 (by kernel_rfl) (by kernel_rfl) (by kernel_rfl)⟩
  · replace hm := bif_f hm hb
    refine wp_exit ?_
    exact hx6 q_7 (Option.some.inj hm).symm _ _ (hs.go [5] [] 1 (by kernel_rfl) (by kernel_rfl) (by kernel_rfl))

end Go.Proofs.Ytjjdlidjlepgeaa
