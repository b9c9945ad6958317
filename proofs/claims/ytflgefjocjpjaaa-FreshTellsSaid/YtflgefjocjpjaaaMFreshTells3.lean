/- Of each Go function that FreshTells comes to: a model in plain Lean, and that the program's call does what the model says; no condition. -/
import Derived.Test.YtflgefjocjpjaaaProg
import Derived.Test.YtflgefjocjpjaaaVeohkolfl
import Derived.Test.YtflgefjocjpjaaaMFreshTells2
namespace Go.Proofs.Ytflgefjocjpjaaa
open Go Go.Vk
set_option linter.unusedVariables false


abbrev fresh_Simple.R (κ : Ctx) (S : List HP) (x0 : Twire_Machine) (x1 : Cells) (b_x0 : Nat) (r : (Cells × Twire_Machine)) : Ending → World → Prop := fun e w' => e = .returned (.agg (vals r.1)) ∧ Own κ w' (Twire_Machine.own b_x0 r.2 :: S)
def fresh_Simple.m (k : Nat) (x0 : Twire_Machine) (x1 : Cells) : Option (Cells × Twire_Machine) := (wire_Machine_N.m k x0).bind fun v_9 => (bif v_9 == 2 then (if x1.length = 3 then (fresh_Full.m k x0 x1).bind fun v_286 => (if v_286.1.length = 3 then some (v_286.1, v_286.2) else none) else none) else (bif v_9 == 3 then (if x1.length = 3 then (wire_Machine_N.m k x0).bind fun v_27 => (bif v_27 == 3 then (wire_Machine_Begin.m k x0 2).bind fun v_31 => (fresh_masks.m k v_31 2).bind fun v_35 => (if v_35.1.length = 3 then (if 0 ≤ (0 : Int) then (([0, 1] : List Int)[0]?).bind fun e_56 => (if 0 ≤ e_56 ∧ e_56 < 3 then (getI .i64 v_35.1 (0 + e_56.toNat * 1)).bind fun v_63 => (if (([] : List Int).length + ([v_63] : List Int).length) * 8 ≤ 140737488355328 then (if 0 ≤ (1 : Int) then (([0, 1] : List Int)[1]?).bind fun e_78 => (if 0 ≤ e_78 ∧ e_78 < 3 then (getI .i64 v_35.1 (0 + e_78.toNat * 1)).bind fun v_85 => (if ((([] : List Int) ++ ([v_63] : List Int)).length + ([v_85] : List Int).length) * 8 ≤ 140737488355328 then (if 0 ≤ (0 : Int) then (([0] : List Int)[0]?).bind fun e_108 => (if 0 ≤ e_108 ∧ e_108 < 3 then (getI .i64 v_35.1 (0 + e_108.toNat * 1)).bind fun v_115 => (if (([] : List Int).length + ([v_115] : List Int).length) * 8 ≤ 140737488355328 then (if 0 ≤ (0 : Int) then (([1] : List Int)[0]?).bind fun e_139 => (if 0 ≤ e_139 ∧ e_139 < 3 then (getI .i64 v_35.1 (0 + e_139.toNat * 1)).bind fun v_146 => (if (([] : List Int).length + ([v_146] : List Int).length) * 8 ≤ 140737488355328 then (wire_Machine_N.m k v_35.2).bind fun v_172 => (bif v_172 == 3 then (if 0 ≤ (0 : Int) then (((([] : List Int) ++ ([v_63] : List Int)) ++ ([v_85] : List Int))[0]?).bind fun e_187 => (getI .i64 x1 (0)).bind fun v_192 => (wire_Machine_Two.m k v_35.2 5 0 v_192 e_187).bind fun v_195 => (if 0 < x1.length then (if 0 ≤ (1 : Int) then (((([] : List Int) ++ ([v_63] : List Int)) ++ ([v_85] : List Int))[1]?).bind fun e_205 => (getI .i64 (x1.set (0) (ci v_195.1)) (0)).bind fun v_210 => (wire_Machine_Two.m k v_195.2 5 0 v_210 e_205).bind fun v_213 => (if 0 < (x1.set (0) (ci v_195.1)).length then (if 0 ≤ (0 : Int) then ((([] : List Int) ++ ([v_115] : List Int))[0]?).bind fun e_232 => (getI .i64 ((x1.set (0) (ci v_195.1)).set (0) (ci v_213.1)) (1)).bind fun v_237 => (wire_Machine_Two.m k v_213.2 5 1 v_237 e_232).bind fun v_240 => (if 1 < ((x1.set (0) (ci v_195.1)).set (0) (ci v_213.1)).length then (if 0 ≤ (0 : Int) then ((([] : List Int) ++ ([v_146] : List Int))[0]?).bind fun e_259 => (getI .i64 (((x1.set (0) (ci v_195.1)).set (0) (ci v_213.1)).set (1) (ci v_240.1)) (2)).bind fun v_264 => (wire_Machine_Two.m k v_240.2 5 2 v_264 e_259).bind fun v_267 => (if 2 < (((x1.set (0) (ci v_195.1)).set (0) (ci v_213.1)).set (1) (ci v_240.1)).length then (wire_Machine_End.m k v_267.2).bind fun v_280 => some (((((x1.set (0) (ci v_195.1)).set (0) (ci v_213.1)).set (1) (ci v_240.1)).set (2) (ci v_267.1)), v_280) else none) else none) else none) else none) else none) else none) else none) else none) else none) else none) else none) else none) else none) else none) else none) else none) else none) else none) else none) else none) else none) else none) else none) else none) else none))

set_option maxRecDepth 100000 in
set_option maxHeartbeats 4000000 in
theorem fresh_Simple.ok (k : Nat) (x0 : Twire_Machine) (x1 : Cells) (r : (Cells × Twire_Machine)) (hm : fresh_Simple.m k x0 x1 = some r) (κ : Ctx) (w : World) (S : List HP) (b_x0 : Nat) (ho : Own κ w (Twire_Machine.own b_x0 x0 :: S)) :
    Calls Try.prog 47 #[pp b_x0, .agg (vals x1)] w (fresh_Simple.R κ S x0 x1 b_x0 r) := by
  unfold fresh_Simple.m at hm
  generalize hRR : fresh_Simple.R κ S x0 x1 b_x0 r = RR
  refine qen [(0, pp b_x0), (1, .agg (vals x1))] Try.func47 Try.ntmps47 ho fun a hs => ?_
  refine qsr fun K1 hK1 => ?_
  refine Vk.step (Vk.box (x := (.tmp 1)) 3 28 x1 hs (by kernel_rfl) (by kernel_rfl) (by kernel_rfl) fun b_2 w a hs => ?_)
  refine Vk.step (Vk.alloc 4 28 [ci 0, ci 0, ci 0] hs (by kernel_rfl) (by kernel_rfl) (by kernel_rfl) fun b_3 w a hs => ?_)
  refine qpe 0 [(0, pp b_x0), (3, pp b_2), (4, pp b_3)] hs fun a hs => hK1 _ _ ?_
  clear hK1
  refine Vk.seq fun K4 hK4 => ?_
  refine qsr fun K5 hK5 => ?_
  refine qpu 1 hs fun a hs => ?_
  obtain ⟨g_6, hs⟩ := hs.unex 2 rfl
  obtain ⟨v_9, h_8, hm⟩ := bind_t hm
  refine Vk.step (Vk.call (some 6) 89 #[pp b_x0] hs (by kernel_rfl) (by kernel_rfl) (by kernel_rfl) ?_)
  refine (wire_Machine_N.ok k x0 v_9 h_8 κ w (pt b_3 (blk [ci 0, ci 0, ci 0] 28) :: pt b_2 (blk x1 28) :: S) b_x0 g_6 (Own.to hs.own [2, 0, 1] 3 (by kernel_rfl) (by kernel_rfl))).mono ?_
  rintro _ w ⟨rfl, how⟩
  refine ⟨_, _, _, rfl, how, fun a hs => ?_⟩
  rcases Bool.eq_false_or_eq_true (v_9 == 2) with hb | hb
  · replace hm := bif_t hm hb
    obtain rfl := Vk.of_beq hb
    refine qpe 1 [(0, pp b_x0), (3, pp b_2), (4, pp b_3), (7, .bool false)] hs fun a hs => hK5 _ _ ?_
    refine qcf hs ?_
    refine wp_skip ?_
    refine hK4 _ _ ?_
    clear hK4
    refine qsr fun K282 hK282 => ?_
    refine qpu 1 hs fun a hs => ?_
    obtain ⟨h_283, hm⟩ := ite_t hm
    refine Vk.step (Vk.value (some 16) (.agg (vals x1)) hs (by kernel_rfl) (op := (.load 28 (.tmp 3))) (by kernel_rfl) (fun o ho => run_loadN (cs := x1) ho (by kernel_rfl) (by kernel_rfl) h_283 (CellsAt.all 2 rfl) _ hs.own) fun a hs => ?_)
    replace hs := hs.toEx (Twire_Machine.parts b_x0 x0) g_6 0 rfl
    obtain ⟨v_286, h_285, hm⟩ := bind_t hm
    refine Vk.step (Vk.call (some 17) 49 #[pp b_x0, .agg (vals x1)] hs (by kernel_rfl) (by kernel_rfl) (by kernel_rfl) ?_)
    refine (fresh_Full.ok k x0 x1 v_286 h_285 κ w (pt b_3 (blk [ci 0, ci 0, ci 0] 28) :: pt b_2 (blk x1 28) :: S) b_x0 (Own.to hs.own [0, 1, 2] 3 (by kernel_rfl) (by kernel_rfl))).mono ?_
    rintro _ w ⟨rfl, how⟩
    refine ⟨_, _, _, rfl, how, fun a hs => ?_⟩
    obtain ⟨h_287, hm⟩ := ite_t hm
    refine Vk.step (Vk.storeA (b := b_3) (ty := 28) (x := (.tmp 4)) (y := (.tmp 17)) (sz := 3) v_286.1 1 hs (by kernel_rfl) (by kernel_rfl) (by kernel_rfl) (by kernel_rfl) (by kernel_rfl) h_287 (by kernel_rfl) rfl (Eq.trans (b := 3) h_287 (Eq.symm rfl)) fun a w hs => ?_)
    refine qpe 0 [(4, pp b_3)] hs fun a hs => hK282 _ _ ?_
    clear hK282
    refine wp_ret ?_
    exact Vk.retC (P := Try.prog) (fn := Try.f47) (R := RR) v_286.1 hs rfl (by kernel_rfl) (sz := 3) (by kernel_rfl) h_287 (CellsAt.all 1 rfl) (by obtain rfl := Option.some.inj hm; subst hRR; exact ⟨rfl, (Own.to hs.own [0] 3 (by kernel_rfl) (by kernel_rfl))⟩)
  · replace hm := bif_f hm hb
    rcases Bool.eq_false_or_eq_true (v_9 == 3) with hb | hb
    · replace hm := bif_t hm hb
      obtain rfl := Vk.of_beq hb
      refine qpe 1 [(0, pp b_x0), (3, pp b_2), (4, pp b_3), (7, .bool true)] hs fun a hs => hK5 _ _ ?_
      refine qct hs ?_
      refine qsr fun K10 hK10 => ?_
      refine qpu 1 hs fun a hs => ?_
      obtain ⟨h_11, hm⟩ := ite_t hm
      refine Vk.step (Vk.value (some 9) (.agg (vals x1)) hs (by kernel_rfl) (op := (.load 28 (.tmp 3))) (by kernel_rfl) (fun o ho => run_loadN (cs := x1) ho (by kernel_rfl) (by kernel_rfl) h_11 (CellsAt.all 2 rfl) _ hs.own) fun a hs => ?_)
      refine Vk.step (Vk.buildOp (sz := 1) (by_ := 8) (t := 159) (e := 3) (parts := #[(0, (.const (vi 0))), (1, (.const (vi 1)))]) (zs := vals [ci 0]) ([0, 1] : List Int) (eI .i64) (some 10) hs (by kernel_rfl) (by kernel_rfl) (by kernel_rfl) (by kernel_rfl) (by decide) rfl (fun x _ => rfl) (Nat.le_of_ble_eq_true (by kernel_rfl)) (by kernel_rfl) fun A_12 w a hs => ?_)
      refine Vk.step (Vk.buildOp (sz := 1) (by_ := 8) (t := 159) (e := 3) (parts := #[(0, (.const (vi 0)))]) (zs := vals [ci 0]) ([0] : List Int) (eI .i64) (some 11) hs (by kernel_rfl) (by kernel_rfl) (by kernel_rfl) (by kernel_rfl) (by decide) rfl (fun x _ => rfl) (Nat.le_of_ble_eq_true (by kernel_rfl)) (by kernel_rfl) fun A_14 w a hs => ?_)
      refine Vk.step (Vk.buildOp (sz := 1) (by_ := 8) (t := 159) (e := 3) (parts := #[(0, (.const (vi 1)))]) (zs := vals [ci 0]) ([1] : List Int) (eI .i64) (some 12) hs (by kernel_rfl) (by kernel_rfl) (by kernel_rfl) (by kernel_rfl) (by decide) rfl (fun x _ => rfl) (Nat.le_of_ble_eq_true (by kernel_rfl)) (by kernel_rfl) fun A_16 w a hs => ?_)
      refine qpu 1 hs fun a hs => ?_
      refine Vk.step (Vk.call (some 14) 125 #[pp b_x0, .agg (vals x1), vi 2, .agg (vals ([C.slc A_12 (([0, 1] : List Int).length) 2, C.slc A_14 (([0] : List Int).length) 1, C.slc A_16 (([1] : List Int).length) 1]))] hs (by kernel_rfl) (by kernel_rfl) (by kernel_rfl) ?_)
      refine Vk.enterI [(0, pp b_x0), (1, .agg (vals x1)), (2, vi 2), (3, .agg (vals ([C.slc A_12 (([0, 1] : List Int).length) 2, C.slc A_14 (([0] : List Int).length) 1, C.slc A_16 (([1] : List Int).length) 1])))] Try.func125 rfl Try.ntmps125 (by kernel_rfl) (Nat.le_of_ble_eq_true (by kernel_rfl)) hs.own fun KR18 hKR18 hKP18 a hs => ?_
      refine qsr fun K19 hK19 => ?_
      refine Vk.step (Vk.box (x := (.tmp 1)) 5 28 x1 hs (by kernel_rfl) (by kernel_rfl) (by kernel_rfl) fun b_20 w a hs => ?_)
      refine Vk.step (Vk.box (x := (.tmp 3)) 7 160 ([C.slc A_12 (([0, 1] : List Int).length) 2, C.slc A_14 (([0] : List Int).length) 1, C.slc A_16 (([1] : List Int).length) 1]) hs (by kernel_rfl) (by kernel_rfl) (by kernel_rfl) fun b_21 w a hs => ?_)
      refine Vk.step (Vk.alloc 8 28 [ci 0, ci 0, ci 0] hs (by kernel_rfl) (by kernel_rfl) (by kernel_rfl) fun b_22 w a hs => ?_)
      refine qpe 0 [(0, pp b_x0), (2, vi 2), (5, pp b_20), (7, pp b_21), (8, pp b_22)] hs fun a hs => hK19 _ _ ?_
      clear hK19
      refine Vk.seq fun K23 hK23 => ?_
      refine qsr fun K24 hK24 => ?_
      refine qpu 1 hs fun a hs => ?_
      obtain ⟨v_27, h_26, hm⟩ := bind_t hm
      refine Vk.step (Vk.call (some 17) 89 #[pp b_x0] hs (by kernel_rfl) (by kernel_rfl) (by kernel_rfl) ?_)
      refine (wire_Machine_N.ok k x0 v_27 h_26 κ w (pt b_22 (blk [ci 0, ci 0, ci 0] 28) :: pt b_21 (blk ([C.slc A_12 (([0, 1] : List Int).length) 2, C.slc A_14 (([0] : List Int).length) 1, C.slc A_16 (([1] : List Int).length) 1]) 160) :: pt b_20 (blk x1 28) :: rowp A_16 1 3 1 (eI .i64) ([1] : List Int) :: rowp A_14 1 3 1 (eI .i64) ([0] : List Int) :: rowp A_12 2 3 1 (eI .i64) ([0, 1] : List Int) :: pt b_3 (blk [ci 0, ci 0, ci 0] 28) :: pt b_2 (blk x1 28) :: S) b_x0 g_6 (Own.to hs.own [6, 0, 1, 2, 3, 4, 5, 7, 8] 9 (by kernel_rfl) (by kernel_rfl))).mono ?_
      rintro _ w ⟨rfl, how⟩
      refine ⟨_, _, _, rfl, how, fun a hs => ?_⟩
      rcases Bool.eq_false_or_eq_true (v_27 == 3) with hb | hb
      · replace hm := bif_t hm hb
        obtain rfl := Vk.of_beq hb
        refine qpe 1 [(0, pp b_x0), (2, vi 2), (5, pp b_20), (7, pp b_21), (8, pp b_22), (18, .bool false)] hs fun a hs => hK24 _ _ ?_
        clear hK24
        refine qcf hs ?_
        refine wp_skip ?_
        refine hK23 _ _ ?_
        clear hK23
        refine qsr fun K28 hK28 => ?_
        refine qpu 1 hs fun a hs => ?_
        replace hs := hs.toEx (Twire_Machine.parts b_x0 x0) g_6 0 rfl
        obtain ⟨v_31, h_30, hm⟩ := bind_t hm
        refine Vk.step (Vk.call (some 22) 90 #[pp b_x0, vi 2] hs (by kernel_rfl) (by kernel_rfl) (by kernel_rfl) ?_)
        refine (wire_Machine_Begin.ok k x0 2 v_31 h_30 κ w (pt b_22 (blk [ci 0, ci 0, ci 0] 28) :: pt b_21 (blk ([C.slc A_12 (([0, 1] : List Int).length) 2, C.slc A_14 (([0] : List Int).length) 1, C.slc A_16 (([1] : List Int).length) 1]) 160) :: pt b_20 (blk x1 28) :: rowp A_16 1 3 1 (eI .i64) ([1] : List Int) :: rowp A_14 1 3 1 (eI .i64) ([0] : List Int) :: rowp A_12 2 3 1 (eI .i64) ([0, 1] : List Int) :: pt b_3 (blk [ci 0, ci 0, ci 0] 28) :: pt b_2 (blk x1 28) :: S) b_x0 (Own.to hs.own [0, 1, 2, 3, 4, 5, 6, 7, 8] 9 (by kernel_rfl) (by kernel_rfl))).mono ?_
        rintro _ w ⟨rfl, how⟩
        refine ⟨_, _, _, rfl, how, fun a hs => ?_⟩
        refine qpe 0 [(0, pp b_x0), (2, vi 2), (5, pp b_20), (7, pp b_21), (8, pp b_22)] hs fun a hs => hK28 _ _ ?_
        clear hK28
        refine qsr fun K32 hK32 => ?_
        refine qpu 2 hs fun a hs => ?_
        obtain ⟨v_35, h_34, hm⟩ := bind_t hm
        refine Vk.step (Vk.call (some 25) 160 #[pp b_x0, vi 2] hs (by kernel_rfl) (by kernel_rfl) (by kernel_rfl) ?_)
        refine (fresh_masks.ok k v_31 2 v_35 h_34 κ w (pt b_22 (blk [ci 0, ci 0, ci 0] 28) :: pt b_21 (blk ([C.slc A_12 (([0, 1] : List Int).length) 2, C.slc A_14 (([0] : List Int).length) 1, C.slc A_16 (([1] : List Int).length) 1]) 160) :: pt b_20 (blk x1 28) :: rowp A_16 1 3 1 (eI .i64) ([1] : List Int) :: rowp A_14 1 3 1 (eI .i64) ([0] : List Int) :: rowp A_12 2 3 1 (eI .i64) ([0, 1] : List Int) :: pt b_3 (blk [ci 0, ci 0, ci 0] 28) :: pt b_2 (blk x1 28) :: S) b_x0 (Own.to hs.own [0, 1, 2, 3, 4, 5, 6, 7, 8] 9 (by kernel_rfl) (by kernel_rfl))).mono ?_
        rintro _ w ⟨rfl, how⟩
        refine ⟨_, _, _, rfl, how, fun a hs => ?_⟩
        refine Vk.step (Vk.alloc 9 26 [ci 0, ci 0, ci 0] hs (by kernel_rfl) (by kernel_rfl) (by kernel_rfl) fun b_36 w a hs => ?_)
        obtain ⟨h_37, hm⟩ := ite_t hm
        refine Vk.step (Vk.storeA (b := b_36) (ty := 26) (x := (.tmp 9)) (y := (.tmp 25)) (sz := 3) v_35.1 0 hs (by kernel_rfl) (by kernel_rfl) (by kernel_rfl) (by kernel_rfl) (by kernel_rfl) h_37 (by kernel_rfl) rfl (Eq.trans (b := 3) h_37 (Eq.symm rfl)) fun a w hs => ?_)
        refine qpe 0 [(0, pp b_x0), (5, pp b_20), (7, pp b_21), (8, pp b_22), (9, pp b_36)] hs fun a hs => hK32 _ _ ?_
        clear hK32
        refine qsr fun K38 hK38 => ?_
        refine Vk.step (Vk.alloc 10 160 [C.slc none 0 0, C.slc none 0 0, C.slc none 0 0] hs (by kernel_rfl) (by kernel_rfl) (by kernel_rfl) fun b_39 w a hs => ?_)
        refine qpe 0 [(0, pp b_x0), (5, pp b_20), (7, pp b_21), (8, pp b_22), (9, pp b_36), (10, pp b_39)] hs fun a hs => hK38 _ _ ?_
        clear hK38
        refine Vk.seq fun K40 hK40 => ?_
        refine qsr fun K41 hK41 => ?_
        refine qln 4 ([C.slc A_12 (([0, 1] : List Int).length) 2, C.slc A_14 (([0] : List Int).length) 1, C.slc A_16 (([1] : List Int).length) 1]) hs rfl fun a hs => ?_
        refine qpe 1 [(0, pp b_x0), (5, pp b_20), (8, pp b_22), (9, pp b_36), (10, pp b_39), (26, .agg (vals ([C.slc A_12 (([0, 1] : List Int).length) 2, C.slc A_14 (([0] : List Int).length) 1, C.slc A_16 (([1] : List Int).length) 1]))), (27, vi 0)] hs fun a hs => hK41 _ _ ?_
        clear hK41
        refine wp_block ?_
        refine Vk.unroll0 40 ?_
        refine Vk.unroll fun KL42 hKL42 => ?_
        refine qsr fun K43 hK43 => ?_
        refine qpe 1 [(0, pp b_x0), (5, pp b_20), (8, pp b_22), (9, pp b_36), (10, pp b_39), (26, .agg (vals ([C.slc A_12 (([0, 1] : List Int).length) 2, C.slc A_14 (([0] : List Int).length) 1, C.slc A_16 (([1] : List Int).length) 1]))), (27, vi 0), (28, .bool true)] hs fun a hs => hK43 _ _ ?_
        clear hK43
        refine Vk.seq fun K44 hK44 => ?_
        refine qct hs ?_
        refine wp_skip ?_
        refine hK44 _ _ ?_
        clear hK44
        refine Vk.seq fun K45 hK45 => ?_
        refine wp_block ?_
        refine qsr fun K46 hK46 => ?_
        refine qpe 4 [(0, pp b_x0), (5, pp b_20), (8, pp b_22), (9, pp b_36), (10, pp b_39), (11, vi 0), (12, .slice A_12 (([0, 1] : List Int).length) 2), (26, .agg (vals ([C.slc A_12 (([0, 1] : List Int).length) 2, C.slc A_14 (([0] : List Int).length) 1, C.slc A_16 (([1] : List Int).length) 1]))), (27, vi 0)] hs fun a hs => hK46 _ _ ?_
        clear hK46
        refine qsr fun K47 hK47 => ?_
        refine qpe 3 [(0, pp b_x0), (5, pp b_20), (8, pp b_22), (9, pp b_36), (10, pp b_39), (11, vi 0), (26, .agg (vals ([C.slc A_12 (([0, 1] : List Int).length) 2, C.slc A_14 (([0] : List Int).length) 1, C.slc A_16 (([1] : List Int).length) 1]))), (27, vi 0), (31, .slice A_12 (([0, 1] : List Int).length) 2), (32, vi 2), (33, vi 0)] hs fun a hs => hK47 _ _ ?_
        clear hK47
        refine wp_block ?_
        refine Vk.unroll0 40 ?_
        refine Vk.unroll fun KL48 hKL48 => ?_
        refine qsr fun K49 hK49 => ?_
        refine qpe 1 [(0, pp b_x0), (5, pp b_20), (8, pp b_22), (9, pp b_36), (10, pp b_39), (11, vi 0), (26, .agg (vals ([C.slc A_12 (([0, 1] : List Int).length) 2, C.slc A_14 (([0] : List Int).length) 1, C.slc A_16 (([1] : List Int).length) 1]))), (27, vi 0), (31, .slice A_12 (([0, 1] : List Int).length) 2), (32, vi 2), (33, vi 0), (34, .bool true)] hs fun a hs => hK49 _ _ ?_
        clear hK49
        refine Vk.seq fun K50 hK50 => ?_
        refine qct hs ?_
        refine wp_skip ?_
        refine hK50 _ _ ?_
        clear hK50
        refine Vk.seq fun K51 hK51 => ?_
        refine wp_block ?_
        refine qsr fun K52 hK52 => ?_
        obtain ⟨h_53, hm⟩ := ite_t hm
        obtain ⟨e_56, h_54, hm⟩ := bind_t hm
        obtain ⟨b_57, o_58, hA_59, h_55⟩ := Sl.elem (Own.rowSl 0 (Own.to (S' := rowp A_12 2 3 1 (eI .i64) ([0, 1] : List Int) :: S) hs.own [8] 11 (by kernel_rfl) (by kernel_rfl)) rfl) h_54
        refine Vk.step (Vk.value (some 35) (.pointer (some ⟨b_57, o_58 + 0 * 1, none⟩)) hs (by kernel_rfl) (op := (.indexAddr 159 (.tmp 31) (.tmp 33))) (by kernel_rfl) (fun o ho => run_idxSlc (k := .i64) ho (cap := 2) (len := ([0, 1] : List Int).length) ((congrArg (fun A => Value.slice A (([0, 1] : List Int).length) (2)) hA_59) ▸ (by kernel_rfl)) (by kernel_rfl) (by kernel_rfl) (idx_ok h_53 h_54) _) fun a hs => ?_)
        refine Vk.step (Vk.value (some 36) (vi e_56) hs (by kernel_rfl) (op := (.load 3 (.tmp 35))) (by kernel_rfl) (fun o ho => run_load1 (c := ci e_56) ho (by kernel_rfl) (by kernel_rfl) (fun w ho => h_55 w ho 0 _ rfl) _ (Own.to (S' := rowp A_12 2 3 1 (eI .i64) ([0, 1] : List Int) :: S) hs.own [8] 11 (by kernel_rfl) (by kernel_rfl))) fun a hs => ?_)
        refine qpe 1 [(0, pp b_x0), (5, pp b_20), (8, pp b_22), (9, pp b_36), (10, pp b_39), (11, vi 0), (14, vi e_56), (26, .agg (vals ([C.slc A_12 (([0, 1] : List Int).length) 2, C.slc A_14 (([0] : List Int).length) 1, C.slc A_16 (([1] : List Int).length) 1]))), (27, vi 0), (31, .slice A_12 (([0, 1] : List Int).length) 2), (32, vi 2), (33, vi 0)] hs fun a hs => hK52 _ _ ?_
        clear hK52
        obtain ⟨C_60, hC_60⟩ : ∃ X0 : List HP, X0 = (pt b_39 (blk [C.slc none 0 0, C.slc none 0 0, C.slc none 0 0] 160) :: pt b_36 (blk v_35.1 26) :: Twire_Machine.own b_x0 v_35.2 :: pt b_22 (blk [ci 0, ci 0, ci 0] 28) :: pt b_21 (blk ([C.slc A_12 (([0, 1] : List Int).length) 2, C.slc A_14 (([0] : List Int).length) 1, C.slc A_16 (([1] : List Int).length) 1]) 160) :: pt b_20 (blk x1 28) :: rowp A_16 1 3 1 (eI .i64) ([1] : List Int) :: rowp A_14 1 3 1 (eI .i64) ([0] : List Int) :: rowp A_12 2 3 1 (eI .i64) ([0, 1] : List Int) :: pt b_3 (blk [ci 0, ci 0, ci 0] 28) :: pt b_2 (blk x1 28) :: S) := ⟨_, rfl⟩
        refine qdr 10 κ C_60 hs fun w hs hqC_60 => ?_
        have hcz : Own κ w (pt b_39 (blk [C.slc none 0 0, C.slc none 0 0, C.slc none 0 0] 160) :: pt b_36 (blk v_35.1 26) :: Twire_Machine.own b_x0 v_35.2 :: pt b_22 (blk [ci 0, ci 0, ci 0] 28) :: pt b_21 (blk ([C.slc A_12 (([0, 1] : List Int).length) 2, C.slc A_14 (([0] : List Int).length) 1, C.slc A_16 (([1] : List Int).length) 1]) 160) :: pt b_20 (blk x1 28) :: rowp A_16 1 3 1 (eI .i64) ([1] : List Int) :: rowp A_14 1 3 1 (eI .i64) ([0] : List Int) :: rowp A_12 2 3 1 (eI .i64) ([0, 1] : List Int) :: pt b_3 (blk [ci 0, ci 0, ci 0] 28) :: pt b_2 (blk x1 28) :: S) := (Own.to hs.own [0, 1, 2, 3, 4, 5, 6, 7, 8, 9, 10] 11 (by kernel_rfl) (by kernel_rfl))
        have hcl : Own κ w C_60 := by rw [hC_60]; exact hcz
        refine qdp (fuel := 7) [0, 1, 2, 4] hs hcl hqC_60 fun a hs => ?_
        refine qdl 3 0 (C.slc none 0 0) hs hcl hqC_60 hC_60 rfl fun a hs => ?_
        obtain ⟨h_61, hm⟩ := ite_t hm
        refine Vk.dTakeT (i := 5) (some 42) (.pointer (some ⟨b_36, 0 + e_56.toNat * 1, none⟩)) hs (by kernel_rfl) hqC_60 hcl (by kernel_rfl) (by kernel_rfl) (op := (.indexAddr 26 (.tmp 9) (.tmp 41))) (by kernel_rfl) (by kernel_rfl) (fun w hw o ho => by rw [hC_60] at hw; exact run_idxArr (k := .i64) ho (by kernel_rfl) (by kernel_rfl) (by kernel_rfl) h_61 _) fun a hs => ?_
        obtain ⟨v_63, h_62, hm⟩ := bind_t hm
        refine Vk.dTakeT (i := 6) (some 43) (vi v_63) hs (by kernel_rfl) hqC_60 hcl (by kernel_rfl) (by kernel_rfl) (op := (.load 3 (.tmp 42))) (by kernel_rfl) (by kernel_rfl) (fun w hw o ho => by rw [hC_60] at hw; exact run_load1 (c := ci v_63) ho (by kernel_rfl) (by kernel_rfl) (Cell.own 1 rfl (getI_some h_62)) _ hw) fun a hs => ?_
        refine Vk.dOnly (i := 7) (by kernel_rfl) (Vk.buildOp (sz := 1) (by_ := 8) (t := 159) (e := 3) (parts := #[(0, (.tmp 43))]) (zs := vals [ci 0]) ([v_63] : List Int) (eI .i64) (some 44) hs (by kernel_rfl) (by kernel_rfl) (by kernel_rfl) (by kernel_rfl) (by decide) rfl (fun x _ => rfl) (Nat.le_of_ble_eq_true (by kernel_rfl)) (by kernel_rfl) fun A_64 w a hs => ?_)
        replace hcl : Own κ w C_60 := by rw [hC_60]; exact (Own.to hs.own [1, 2, 3, 4, 5, 6, 7, 8, 9, 10, 11] 12 (by kernel_rfl) (by kernel_rfl))
        refine ⟨fun _ => hcl, ?_⟩
        replace hs := hs.addRow none 3 1 (eI .i64)
        obtain ⟨h_67, hm⟩ := ite_t hm
        refine Vk.dOnly (i := 8) (by kernel_rfl) (Vk.appendOp (x := (.tmp 40)) (y := (.tmp 44)) (e := 3) (t := 159) (by_ := 8) (sz := 1) (enc := (eI .i64)) (A := none) (cap := 0) (xs := ([] : List Int)) (ys := ([v_63] : List Int)) (B := A_64) (c2 := 1) 0 (some 45) hs (by kernel_rfl) (by kernel_rfl) (by kernel_rfl) (by kernel_rfl) rfl (Sl.lift (fun w ho => (Own.to (S' := rowp A_64 1 3 1 (eI .i64) ([v_63] : List Int) :: S) ho [1] 13 (by kernel_rfl) (by kernel_rfl))) (Own.rowSl 0 (Own.to (S' := rowp A_64 1 3 1 (eI .i64) ([v_63] : List Int) :: S) hs.own [1] 13 (by kernel_rfl) (by kernel_rfl)) rfl)) (by kernel_rfl) (by kernel_rfl) (by decide) (by decide) h_67 fun A_68 c_69 w a hs => ?_)
        replace hcl : Own κ w C_60 := by rw [hC_60]; exact (Own.to hs.own [2, 3, 4, 5, 6, 7, 8, 9, 10, 11, 12] 13 (by kernel_rfl) (by kernel_rfl))
        refine ⟨fun _ => hcl, ?_⟩
        refine qdp (fuel := 1) [9] hs hcl hqC_60 fun a hs => ?_
        refine Vk.dOnly (i := 10) (by kernel_rfl) (Vk.store1 (b := b_39) (ty := 159) (x := (.tmp 46)) (y := (.tmp 45)) (off := 0) (C.slc A_68 ((([] : List Int) ++ ([v_63] : List Int)).length) c_69) 2 hs (by kernel_rfl) (by kernel_rfl) (by kernel_rfl) (by kernel_rfl) (by kernel_rfl) (by kernel_rfl) rfl (Nat.le_of_ble_eq_true (by kernel_rfl)) fun a w hs => ?_)
        refine ⟨fun h => absurd h (by decide), ?_⟩
        replace hs := hs.pick [0, 5, 8, 9, 10, 11, 26, 27, 31, 32, 33] (L' := [(0, pp b_x0), (5, pp b_20), (8, pp b_22), (9, pp b_36), (10, pp b_39), (11, vi 0), (26, .agg (vals ([C.slc A_12 (([0, 1] : List Int).length) 2, C.slc A_14 (([0] : List Int).length) 1, C.slc A_16 (([1] : List Int).length) 1]))), (27, vi 0), (31, .slice A_12 (([0, 1] : List Int).length) 2), (32, vi 2), (33, vi 0)]) (by kernel_rfl)
        refine Vk.dDone (by kernel_rfl) ?_
        refine hK51 _ _ ?_
        clear hK51
        refine Vk.region ?_
        refine qpe 2 [(0, pp b_x0), (5, pp b_20), (8, pp b_22), (9, pp b_36), (10, pp b_39), (11, vi 0), (26, .agg (vals ([C.slc A_12 (([0, 1] : List Int).length) 2, C.slc A_14 (([0] : List Int).length) 1, C.slc A_16 (([1] : List Int).length) 1]))), (27, vi 0), (31, .slice A_12 (([0, 1] : List Int).length) 2), (32, vi 2), (33, vi 1)] hs fun a hs => hKL48 _ _ ?_
        clear hKL48
        refine Vk.unroll fun KL70 hKL70 => ?_
        refine qsr fun K71 hK71 => ?_
        refine qpe 1 [(0, pp b_x0), (5, pp b_20), (8, pp b_22), (9, pp b_36), (10, pp b_39), (11, vi 0), (26, .agg (vals ([C.slc A_12 (([0, 1] : List Int).length) 2, C.slc A_14 (([0] : List Int).length) 1, C.slc A_16 (([1] : List Int).length) 1]))), (27, vi 0), (31, .slice A_12 (([0, 1] : List Int).length) 2), (32, vi 2), (33, vi 1), (34, .bool true)] hs fun a hs => hK71 _ _ ?_
        clear hK71
        refine Vk.seq fun K72 hK72 => ?_
        refine qct hs ?_
        refine wp_skip ?_
        refine hK72 _ _ ?_
        clear hK72
        refine Vk.seq fun K73 hK73 => ?_
        refine wp_block ?_
        refine qsr fun K74 hK74 => ?_
        obtain ⟨h_75, hm⟩ := ite_t hm
        obtain ⟨e_78, h_76, hm⟩ := bind_t hm
        obtain ⟨b_79, o_80, hA_81, h_77⟩ := Sl.elem (Own.rowSl 0 (Own.to (S' := rowp A_12 2 3 1 (eI .i64) ([0, 1] : List Int) :: S) hs.own [10] 13 (by kernel_rfl) (by kernel_rfl)) rfl) h_76
        refine Vk.step (Vk.value (some 35) (.pointer (some ⟨b_79, o_80 + 1 * 1, none⟩)) hs (by kernel_rfl) (op := (.indexAddr 159 (.tmp 31) (.tmp 33))) (by kernel_rfl) (fun o ho => run_idxSlc (k := .i64) ho (cap := 2) (len := ([0, 1] : List Int).length) ((congrArg (fun A => Value.slice A (([0, 1] : List Int).length) (2)) hA_81) ▸ (by kernel_rfl)) (by kernel_rfl) (by kernel_rfl) (idx_ok h_75 h_76) _) fun a hs => ?_)
        refine Vk.step (Vk.value (some 36) (vi e_78) hs (by kernel_rfl) (op := (.load 3 (.tmp 35))) (by kernel_rfl) (fun o ho => run_load1 (c := ci e_78) ho (by kernel_rfl) (by kernel_rfl) (fun w ho => h_77 w ho 0 _ rfl) _ (Own.to (S' := rowp A_12 2 3 1 (eI .i64) ([0, 1] : List Int) :: S) hs.own [10] 13 (by kernel_rfl) (by kernel_rfl))) fun a hs => ?_)
        refine qpe 1 [(0, pp b_x0), (5, pp b_20), (8, pp b_22), (9, pp b_36), (10, pp b_39), (11, vi 0), (14, vi e_78), (26, .agg (vals ([C.slc A_12 (([0, 1] : List Int).length) 2, C.slc A_14 (([0] : List Int).length) 1, C.slc A_16 (([1] : List Int).length) 1]))), (27, vi 0), (31, .slice A_12 (([0, 1] : List Int).length) 2), (32, vi 2), (33, vi 1)] hs fun a hs => hK74 _ _ ?_
        clear hK74
        obtain ⟨C_82, hC_82⟩ : ∃ X0 : List HP, X0 = (rowp A_64 1 3 1 (eI .i64) ([v_63] : List Int) :: pt b_39 (blk ([C.slc A_68 ((([] : List Int) ++ ([v_63] : List Int)).length) c_69, C.slc none 0 0, C.slc none 0 0]) 160) :: pt b_36 (blk v_35.1 26) :: Twire_Machine.own b_x0 v_35.2 :: pt b_22 (blk [ci 0, ci 0, ci 0] 28) :: pt b_21 (blk ([C.slc A_12 (([0, 1] : List Int).length) 2, C.slc A_14 (([0] : List Int).length) 1, C.slc A_16 (([1] : List Int).length) 1]) 160) :: pt b_20 (blk x1 28) :: rowp A_16 1 3 1 (eI .i64) ([1] : List Int) :: rowp A_14 1 3 1 (eI .i64) ([0] : List Int) :: rowp A_12 2 3 1 (eI .i64) ([0, 1] : List Int) :: pt b_3 (blk [ci 0, ci 0, ci 0] 28) :: pt b_2 (blk x1 28) :: S) := ⟨_, rfl⟩
        refine qdr 10 κ C_82 hs fun w hs hqC_82 => ?_
        have hcz : Own κ w (rowp A_64 1 3 1 (eI .i64) ([v_63] : List Int) :: pt b_39 (blk ([C.slc A_68 ((([] : List Int) ++ ([v_63] : List Int)).length) c_69, C.slc none 0 0, C.slc none 0 0]) 160) :: pt b_36 (blk v_35.1 26) :: Twire_Machine.own b_x0 v_35.2 :: pt b_22 (blk [ci 0, ci 0, ci 0] 28) :: pt b_21 (blk ([C.slc A_12 (([0, 1] : List Int).length) 2, C.slc A_14 (([0] : List Int).length) 1, C.slc A_16 (([1] : List Int).length) 1]) 160) :: pt b_20 (blk x1 28) :: rowp A_16 1 3 1 (eI .i64) ([1] : List Int) :: rowp A_14 1 3 1 (eI .i64) ([0] : List Int) :: rowp A_12 2 3 1 (eI .i64) ([0, 1] : List Int) :: pt b_3 (blk [ci 0, ci 0, ci 0] 28) :: pt b_2 (blk x1 28) :: S) := (Own.to hs.own [1, 2, 3, 4, 5, 6, 7, 8, 9, 10, 11, 12] 13 (by kernel_rfl) (by kernel_rfl))
        have hcl : Own κ w C_82 := by rw [hC_82]; exact hcz
        refine qdp (fuel := 7) [0, 1, 2, 4] hs hcl hqC_82 fun a hs => ?_
        refine qdl 3 1 (C.slc A_68 ((([] : List Int) ++ ([v_63] : List Int)).length) c_69) hs hcl hqC_82 hC_82 rfl fun a hs => ?_
        obtain ⟨h_83, hm⟩ := ite_t hm
        refine Vk.dTakeT (i := 5) (some 42) (.pointer (some ⟨b_36, 0 + e_78.toNat * 1, none⟩)) hs (by kernel_rfl) hqC_82 hcl (by kernel_rfl) (by kernel_rfl) (op := (.indexAddr 26 (.tmp 9) (.tmp 41))) (by kernel_rfl) (by kernel_rfl) (fun w hw o ho => by rw [hC_82] at hw; exact run_idxArr (k := .i64) ho (by kernel_rfl) (by kernel_rfl) (by kernel_rfl) h_83 _) fun a hs => ?_
        obtain ⟨v_85, h_84, hm⟩ := bind_t hm
        refine Vk.dTakeT (i := 6) (some 43) (vi v_85) hs (by kernel_rfl) hqC_82 hcl (by kernel_rfl) (by kernel_rfl) (op := (.load 3 (.tmp 42))) (by kernel_rfl) (by kernel_rfl) (fun w hw o ho => by rw [hC_82] at hw; exact run_load1 (c := ci v_85) ho (by kernel_rfl) (by kernel_rfl) (Cell.own 2 rfl (getI_some h_84)) _ hw) fun a hs => ?_
        refine Vk.dOnly (i := 7) (by kernel_rfl) (Vk.buildOp (sz := 1) (by_ := 8) (t := 159) (e := 3) (parts := #[(0, (.tmp 43))]) (zs := vals [ci 0]) ([v_85] : List Int) (eI .i64) (some 44) hs (by kernel_rfl) (by kernel_rfl) (by kernel_rfl) (by kernel_rfl) (by decide) rfl (fun x _ => rfl) (Nat.le_of_ble_eq_true (by kernel_rfl)) (by kernel_rfl) fun A_86 w a hs => ?_)
        replace hcl : Own κ w C_82 := by rw [hC_82]; exact (Own.to hs.own [2, 3, 4, 5, 6, 7, 8, 9, 10, 11, 12, 13] 14 (by kernel_rfl) (by kernel_rfl))
        refine ⟨fun _ => hcl, ?_⟩
        obtain ⟨h_88, hm⟩ := ite_t hm
        refine Vk.dOnly (i := 8) (by kernel_rfl) (Vk.appendOp (x := (.tmp 40)) (y := (.tmp 44)) (e := 3) (t := 159) (by_ := 8) (sz := 1) (enc := (eI .i64)) (A := A_68) (cap := c_69) (xs := ([] : List Int) ++ ([v_63] : List Int)) (ys := ([v_85] : List Int)) (B := A_86) (c2 := 1) 1 (some 45) hs (by kernel_rfl) (by kernel_rfl) (by kernel_rfl) (by kernel_rfl) rfl (Sl.lift (fun w ho => (Own.to (S' := rowp A_86 1 3 1 (eI .i64) ([v_85] : List Int) :: S) ho [0] 14 (by kernel_rfl) (by kernel_rfl))) (Own.rowSl 0 (Own.to (S' := rowp A_86 1 3 1 (eI .i64) ([v_85] : List Int) :: S) hs.own [0] 14 (by kernel_rfl) (by kernel_rfl)) rfl)) (by kernel_rfl) (by kernel_rfl) (by decide) (by decide) h_88 fun A_89 c_90 w a hs => ?_)
        replace hcl : Own κ w C_82 := by rw [hC_82]; exact (Own.to hs.own [2, 3, 4, 5, 6, 7, 8, 9, 10, 11, 12, 13] 14 (by kernel_rfl) (by kernel_rfl))
        refine ⟨fun _ => hcl, ?_⟩
        refine qdp (fuel := 1) [9] hs hcl hqC_82 fun a hs => ?_
        refine Vk.dOnly (i := 10) (by kernel_rfl) (Vk.store1 (b := b_39) (ty := 159) (x := (.tmp 46)) (y := (.tmp 45)) (off := 0) (C.slc A_89 (((([] : List Int) ++ ([v_63] : List Int)) ++ ([v_85] : List Int)).length) c_90) 3 hs (by kernel_rfl) (by kernel_rfl) (by kernel_rfl) (by kernel_rfl) (by kernel_rfl) (by kernel_rfl) rfl (Nat.le_of_ble_eq_true (by kernel_rfl)) fun a w hs => ?_)
        refine ⟨fun h => absurd h (by decide), ?_⟩
        replace hs := hs.pick [0, 5, 8, 9, 10, 11, 26, 27, 31, 32, 33] (L' := [(0, pp b_x0), (5, pp b_20), (8, pp b_22), (9, pp b_36), (10, pp b_39), (11, vi 0), (26, .agg (vals ([C.slc A_12 (([0, 1] : List Int).length) 2, C.slc A_14 (([0] : List Int).length) 1, C.slc A_16 (([1] : List Int).length) 1]))), (27, vi 0), (31, .slice A_12 (([0, 1] : List Int).length) 2), (32, vi 2), (33, vi 1)]) (by kernel_rfl)
        refine Vk.dDone (by kernel_rfl) ?_
        refine hK73 _ _ ?_
        clear hK73
        refine Vk.region ?_
        refine qpe 2 [(0, pp b_x0), (5, pp b_20), (8, pp b_22), (9, pp b_36), (10, pp b_39), (11, vi 0), (26, .agg (vals ([C.slc A_12 (([0, 1] : List Int).length) 2, C.slc A_14 (([0] : List Int).length) 1, C.slc A_16 (([1] : List Int).length) 1]))), (27, vi 0), (31, .slice A_12 (([0, 1] : List Int).length) 2), (32, vi 2), (33, vi 2)] hs fun a hs => hKL70 _ _ ?_
        clear hKL70
        refine Vk.unroll fun KL91 hKL91 => ?_
        refine qsr fun K92 hK92 => ?_
        refine qpe 1 [(0, pp b_x0), (5, pp b_20), (8, pp b_22), (9, pp b_36), (10, pp b_39), (11, vi 0), (26, .agg (vals ([C.slc A_12 (([0, 1] : List Int).length) 2, C.slc A_14 (([0] : List Int).length) 1, C.slc A_16 (([1] : List Int).length) 1]))), (27, vi 0), (31, .slice A_12 (([0, 1] : List Int).length) 2), (32, vi 2), (33, vi 2), (34, .bool false)] hs fun a hs => hK92 _ _ ?_
        clear hK92
        refine Vk.seq fun K93 hK93 => ?_
        refine qcf hs ?_
        refine wp_exit ?_
        refine hK45 _ _ ?_
        clear hK45
        refine Vk.region ?_
        refine qpe 2 [(0, pp b_x0), (5, pp b_20), (8, pp b_22), (9, pp b_36), (10, pp b_39), (26, .agg (vals ([C.slc A_12 (([0, 1] : List Int).length) 2, C.slc A_14 (([0] : List Int).length) 1, C.slc A_16 (([1] : List Int).length) 1]))), (27, vi 1)] hs fun a hs => hKL42 _ _ ?_
        clear hKL42
        refine Vk.unroll fun KL94 hKL94 => ?_
        refine qsr fun K95 hK95 => ?_
        refine qpe 1 [(0, pp b_x0), (5, pp b_20), (8, pp b_22), (9, pp b_36), (10, pp b_39), (26, .agg (vals ([C.slc A_12 (([0, 1] : List Int).length) 2, C.slc A_14 (([0] : List Int).length) 1, C.slc A_16 (([1] : List Int).length) 1]))), (27, vi 1), (28, .bool true)] hs fun a hs => hK95 _ _ ?_
        clear hK95
        refine Vk.seq fun K96 hK96 => ?_
        refine qct hs ?_
        refine wp_skip ?_
        refine hK96 _ _ ?_
        clear hK96
        refine Vk.seq fun K97 hK97 => ?_
        refine wp_block ?_
        refine qsr fun K98 hK98 => ?_
        refine qpe 4 [(0, pp b_x0), (5, pp b_20), (8, pp b_22), (9, pp b_36), (10, pp b_39), (11, vi 1), (12, .slice A_14 (([0] : List Int).length) 1), (26, .agg (vals ([C.slc A_12 (([0, 1] : List Int).length) 2, C.slc A_14 (([0] : List Int).length) 1, C.slc A_16 (([1] : List Int).length) 1]))), (27, vi 1)] hs fun a hs => hK98 _ _ ?_
        clear hK98
        refine qsr fun K99 hK99 => ?_
        refine qpe 3 [(0, pp b_x0), (5, pp b_20), (8, pp b_22), (9, pp b_36), (10, pp b_39), (11, vi 1), (26, .agg (vals ([C.slc A_12 (([0, 1] : List Int).length) 2, C.slc A_14 (([0] : List Int).length) 1, C.slc A_16 (([1] : List Int).length) 1]))), (27, vi 1), (31, .slice A_14 (([0] : List Int).length) 1), (32, vi 1), (33, vi 0)] hs fun a hs => hK99 _ _ ?_
        clear hK99
        refine wp_block ?_
        refine Vk.unroll0 40 ?_
        refine Vk.unroll fun KL100 hKL100 => ?_
        refine qsr fun K101 hK101 => ?_
        refine qpe 1 [(0, pp b_x0), (5, pp b_20), (8, pp b_22), (9, pp b_36), (10, pp b_39), (11, vi 1), (26, .agg (vals ([C.slc A_12 (([0, 1] : List Int).length) 2, C.slc A_14 (([0] : List Int).length) 1, C.slc A_16 (([1] : List Int).length) 1]))), (27, vi 1), (31, .slice A_14 (([0] : List Int).length) 1), (32, vi 1), (33, vi 0), (34, .bool true)] hs fun a hs => hK101 _ _ ?_
        clear hK101
        refine Vk.seq fun K102 hK102 => ?_
        refine qct hs ?_
        refine wp_skip ?_
        refine hK102 _ _ ?_
        clear hK102
        refine Vk.seq fun K103 hK103 => ?_
        refine wp_block ?_
        refine qsr fun K104 hK104 => ?_
        obtain ⟨h_105, hm⟩ := ite_t hm
        obtain ⟨e_108, h_106, hm⟩ := bind_t hm
        obtain ⟨b_109, o_110, hA_111, h_107⟩ := Sl.elem (Own.rowSl 0 (Own.to (S' := rowp A_14 1 3 1 (eI .i64) ([0] : List Int) :: S) hs.own [10] 14 (by kernel_rfl) (by kernel_rfl)) rfl) h_106
        refine Vk.step (Vk.value (some 35) (.pointer (some ⟨b_109, o_110 + 0 * 1, none⟩)) hs (by kernel_rfl) (op := (.indexAddr 159 (.tmp 31) (.tmp 33))) (by kernel_rfl) (fun o ho => run_idxSlc (k := .i64) ho (cap := 1) (len := ([0] : List Int).length) ((congrArg (fun A => Value.slice A (([0] : List Int).length) (1)) hA_111) ▸ (by kernel_rfl)) (by kernel_rfl) (by kernel_rfl) (idx_ok h_105 h_106) _) fun a hs => ?_)
        refine Vk.step (Vk.value (some 36) (vi e_108) hs (by kernel_rfl) (op := (.load 3 (.tmp 35))) (by kernel_rfl) (fun o ho => run_load1 (c := ci e_108) ho (by kernel_rfl) (by kernel_rfl) (fun w ho => h_107 w ho 0 _ rfl) _ (Own.to (S' := rowp A_14 1 3 1 (eI .i64) ([0] : List Int) :: S) hs.own [10] 14 (by kernel_rfl) (by kernel_rfl))) fun a hs => ?_)
        refine qpe 1 [(0, pp b_x0), (5, pp b_20), (8, pp b_22), (9, pp b_36), (10, pp b_39), (11, vi 1), (14, vi e_108), (26, .agg (vals ([C.slc A_12 (([0, 1] : List Int).length) 2, C.slc A_14 (([0] : List Int).length) 1, C.slc A_16 (([1] : List Int).length) 1]))), (27, vi 1), (31, .slice A_14 (([0] : List Int).length) 1), (32, vi 1), (33, vi 0)] hs fun a hs => hK104 _ _ ?_
        clear hK104
        obtain ⟨C_112, hC_112⟩ : ∃ X0 : List HP, X0 = (rowp A_86 1 3 1 (eI .i64) ([v_85] : List Int) :: rowp A_89 c_90 3 1 (eI .i64) ((([] : List Int) ++ ([v_63] : List Int)) ++ ([v_85] : List Int)) :: rowp A_64 1 3 1 (eI .i64) ([v_63] : List Int) :: pt b_39 (blk ([C.slc A_89 (((([] : List Int) ++ ([v_63] : List Int)) ++ ([v_85] : List Int)).length) c_90, C.slc none 0 0, C.slc none 0 0]) 160) :: pt b_36 (blk v_35.1 26) :: Twire_Machine.own b_x0 v_35.2 :: pt b_22 (blk [ci 0, ci 0, ci 0] 28) :: pt b_21 (blk ([C.slc A_12 (([0, 1] : List Int).length) 2, C.slc A_14 (([0] : List Int).length) 1, C.slc A_16 (([1] : List Int).length) 1]) 160) :: pt b_20 (blk x1 28) :: rowp A_16 1 3 1 (eI .i64) ([1] : List Int) :: rowp A_14 1 3 1 (eI .i64) ([0] : List Int) :: rowp A_12 2 3 1 (eI .i64) ([0, 1] : List Int) :: pt b_3 (blk [ci 0, ci 0, ci 0] 28) :: pt b_2 (blk x1 28) :: S) := ⟨_, rfl⟩
        refine qdr 10 κ C_112 hs fun w hs hqC_112 => ?_
        have hcz : Own κ w (rowp A_86 1 3 1 (eI .i64) ([v_85] : List Int) :: rowp A_89 c_90 3 1 (eI .i64) ((([] : List Int) ++ ([v_63] : List Int)) ++ ([v_85] : List Int)) :: rowp A_64 1 3 1 (eI .i64) ([v_63] : List Int) :: pt b_39 (blk ([C.slc A_89 (((([] : List Int) ++ ([v_63] : List Int)) ++ ([v_85] : List Int)).length) c_90, C.slc none 0 0, C.slc none 0 0]) 160) :: pt b_36 (blk v_35.1 26) :: Twire_Machine.own b_x0 v_35.2 :: pt b_22 (blk [ci 0, ci 0, ci 0] 28) :: pt b_21 (blk ([C.slc A_12 (([0, 1] : List Int).length) 2, C.slc A_14 (([0] : List Int).length) 1, C.slc A_16 (([1] : List Int).length) 1]) 160) :: pt b_20 (blk x1 28) :: rowp A_16 1 3 1 (eI .i64) ([1] : List Int) :: rowp A_14 1 3 1 (eI .i64) ([0] : List Int) :: rowp A_12 2 3 1 (eI .i64) ([0, 1] : List Int) :: pt b_3 (blk [ci 0, ci 0, ci 0] 28) :: pt b_2 (blk x1 28) :: S) := (Own.to hs.own [0, 1, 2, 3, 4, 5, 6, 7, 8, 9, 10, 11, 12, 13] 14 (by kernel_rfl) (by kernel_rfl))
        have hcl : Own κ w C_112 := by rw [hC_112]; exact hcz
        refine qdp (fuel := 7) [0, 1, 2, 4] hs hcl hqC_112 fun a hs => ?_
        refine qdl 3 3 (C.slc none 0 0) hs hcl hqC_112 hC_112 rfl fun a hs => ?_
        obtain ⟨h_113, hm⟩ := ite_t hm
        refine Vk.dTakeT (i := 5) (some 42) (.pointer (some ⟨b_36, 0 + e_108.toNat * 1, none⟩)) hs (by kernel_rfl) hqC_112 hcl (by kernel_rfl) (by kernel_rfl) (op := (.indexAddr 26 (.tmp 9) (.tmp 41))) (by kernel_rfl) (by kernel_rfl) (fun w hw o ho => by rw [hC_112] at hw; exact run_idxArr (k := .i64) ho (by kernel_rfl) (by kernel_rfl) (by kernel_rfl) h_113 _) fun a hs => ?_
        obtain ⟨v_115, h_114, hm⟩ := bind_t hm
        refine Vk.dTakeT (i := 6) (some 43) (vi v_115) hs (by kernel_rfl) hqC_112 hcl (by kernel_rfl) (by kernel_rfl) (op := (.load 3 (.tmp 42))) (by kernel_rfl) (by kernel_rfl) (fun w hw o ho => by rw [hC_112] at hw; exact run_load1 (c := ci v_115) ho (by kernel_rfl) (by kernel_rfl) (Cell.own 4 rfl (getI_some h_114)) _ hw) fun a hs => ?_
        refine Vk.dOnly (i := 7) (by kernel_rfl) (Vk.buildOp (sz := 1) (by_ := 8) (t := 159) (e := 3) (parts := #[(0, (.tmp 43))]) (zs := vals [ci 0]) ([v_115] : List Int) (eI .i64) (some 44) hs (by kernel_rfl) (by kernel_rfl) (by kernel_rfl) (by kernel_rfl) (by decide) rfl (fun x _ => rfl) (Nat.le_of_ble_eq_true (by kernel_rfl)) (by kernel_rfl) fun A_116 w a hs => ?_)
        replace hcl : Own κ w C_112 := by rw [hC_112]; exact (Own.to hs.own [1, 2, 3, 4, 5, 6, 7, 8, 9, 10, 11, 12, 13, 14] 15 (by kernel_rfl) (by kernel_rfl))
        refine ⟨fun _ => hcl, ?_⟩
        replace hs := hs.addRow none 3 1 (eI .i64)
        obtain ⟨h_119, hm⟩ := ite_t hm
        refine Vk.dOnly (i := 8) (by kernel_rfl) (Vk.appendOp (x := (.tmp 40)) (y := (.tmp 44)) (e := 3) (t := 159) (by_ := 8) (sz := 1) (enc := (eI .i64)) (A := none) (cap := 0) (xs := ([] : List Int)) (ys := ([v_115] : List Int)) (B := A_116) (c2 := 1) 0 (some 45) hs (by kernel_rfl) (by kernel_rfl) (by kernel_rfl) (by kernel_rfl) rfl (Sl.lift (fun w ho => (Own.to (S' := rowp A_116 1 3 1 (eI .i64) ([v_115] : List Int) :: S) ho [1] 16 (by kernel_rfl) (by kernel_rfl))) (Own.rowSl 0 (Own.to (S' := rowp A_116 1 3 1 (eI .i64) ([v_115] : List Int) :: S) hs.own [1] 16 (by kernel_rfl) (by kernel_rfl)) rfl)) (by kernel_rfl) (by kernel_rfl) (by decide) (by decide) h_119 fun A_120 c_121 w a hs => ?_)
        replace hcl : Own κ w C_112 := by rw [hC_112]; exact (Own.to hs.own [2, 3, 4, 5, 6, 7, 8, 9, 10, 11, 12, 13, 14, 15] 16 (by kernel_rfl) (by kernel_rfl))
        refine ⟨fun _ => hcl, ?_⟩
        refine qdp (fuel := 1) [9] hs hcl hqC_112 fun a hs => ?_
        refine Vk.dOnly (i := 10) (by kernel_rfl) (Vk.store1 (b := b_39) (ty := 159) (x := (.tmp 46)) (y := (.tmp 45)) (off := 1) (C.slc A_120 ((([] : List Int) ++ ([v_115] : List Int)).length) c_121) 5 hs (by kernel_rfl) (by kernel_rfl) (by kernel_rfl) (by kernel_rfl) (by kernel_rfl) (by kernel_rfl) rfl (Nat.le_of_ble_eq_true (by kernel_rfl)) fun a w hs => ?_)
        refine ⟨fun h => absurd h (by decide), ?_⟩
        replace hs := hs.pick [0, 5, 8, 9, 10, 11, 26, 27, 31, 32, 33] (L' := [(0, pp b_x0), (5, pp b_20), (8, pp b_22), (9, pp b_36), (10, pp b_39), (11, vi 1), (26, .agg (vals ([C.slc A_12 (([0, 1] : List Int).length) 2, C.slc A_14 (([0] : List Int).length) 1, C.slc A_16 (([1] : List Int).length) 1]))), (27, vi 1), (31, .slice A_14 (([0] : List Int).length) 1), (32, vi 1), (33, vi 0)]) (by kernel_rfl)
        refine Vk.dDone (by kernel_rfl) ?_
        refine hK103 _ _ ?_
        clear hK103
        refine Vk.region ?_
        refine qpe 2 [(0, pp b_x0), (5, pp b_20), (8, pp b_22), (9, pp b_36), (10, pp b_39), (11, vi 1), (26, .agg (vals ([C.slc A_12 (([0, 1] : List Int).length) 2, C.slc A_14 (([0] : List Int).length) 1, C.slc A_16 (([1] : List Int).length) 1]))), (27, vi 1), (31, .slice A_14 (([0] : List Int).length) 1), (32, vi 1), (33, vi 1)] hs fun a hs => hKL100 _ _ ?_
        clear hKL100
        refine Vk.unroll fun KL122 hKL122 => ?_
        refine qsr fun K123 hK123 => ?_
        refine qpe 1 [(0, pp b_x0), (5, pp b_20), (8, pp b_22), (9, pp b_36), (10, pp b_39), (11, vi 1), (26, .agg (vals ([C.slc A_12 (([0, 1] : List Int).length) 2, C.slc A_14 (([0] : List Int).length) 1, C.slc A_16 (([1] : List Int).length) 1]))), (27, vi 1), (31, .slice A_14 (([0] : List Int).length) 1), (32, vi 1), (33, vi 1), (34, .bool false)] hs fun a hs => hK123 _ _ ?_
        clear hK123
        refine Vk.seq fun K124 hK124 => ?_
        refine qcf hs ?_
        refine wp_exit ?_
        refine hK97 _ _ ?_
        clear hK97
        refine Vk.region ?_
        refine qpe 2 [(0, pp b_x0), (5, pp b_20), (8, pp b_22), (9, pp b_36), (10, pp b_39), (26, .agg (vals ([C.slc A_12 (([0, 1] : List Int).length) 2, C.slc A_14 (([0] : List Int).length) 1, C.slc A_16 (([1] : List Int).length) 1]))), (27, vi 2)] hs fun a hs => hKL94 _ _ ?_
        clear hKL94
        refine Vk.unroll fun KL125 hKL125 => ?_
        refine qsr fun K126 hK126 => ?_
        refine qpe 1 [(0, pp b_x0), (5, pp b_20), (8, pp b_22), (9, pp b_36), (10, pp b_39), (26, .agg (vals ([C.slc A_12 (([0, 1] : List Int).length) 2, C.slc A_14 (([0] : List Int).length) 1, C.slc A_16 (([1] : List Int).length) 1]))), (27, vi 2), (28, .bool true)] hs fun a hs => hK126 _ _ ?_
        clear hK126
        refine Vk.seq fun K127 hK127 => ?_
        refine qct hs ?_
        refine wp_skip ?_
        refine hK127 _ _ ?_
        clear hK127
        refine Vk.seq fun K128 hK128 => ?_
        refine wp_block ?_
        refine qsr fun K129 hK129 => ?_
        refine qpe 4 [(0, pp b_x0), (5, pp b_20), (8, pp b_22), (9, pp b_36), (10, pp b_39), (11, vi 2), (12, .slice A_16 (([1] : List Int).length) 1), (26, .agg (vals ([C.slc A_12 (([0, 1] : List Int).length) 2, C.slc A_14 (([0] : List Int).length) 1, C.slc A_16 (([1] : List Int).length) 1]))), (27, vi 2)] hs fun a hs => hK129 _ _ ?_
        clear hK129
        refine qsr fun K130 hK130 => ?_
        refine qpe 3 [(0, pp b_x0), (5, pp b_20), (8, pp b_22), (9, pp b_36), (10, pp b_39), (11, vi 2), (26, .agg (vals ([C.slc A_12 (([0, 1] : List Int).length) 2, C.slc A_14 (([0] : List Int).length) 1, C.slc A_16 (([1] : List Int).length) 1]))), (27, vi 2), (31, .slice A_16 (([1] : List Int).length) 1), (32, vi 1), (33, vi 0)] hs fun a hs => hK130 _ _ ?_
        clear hK130
        refine wp_block ?_
        refine Vk.unroll0 40 ?_
        refine Vk.unroll fun KL131 hKL131 => ?_
        refine qsr fun K132 hK132 => ?_
        refine qpe 1 [(0, pp b_x0), (5, pp b_20), (8, pp b_22), (9, pp b_36), (10, pp b_39), (11, vi 2), (26, .agg (vals ([C.slc A_12 (([0, 1] : List Int).length) 2, C.slc A_14 (([0] : List Int).length) 1, C.slc A_16 (([1] : List Int).length) 1]))), (27, vi 2), (31, .slice A_16 (([1] : List Int).length) 1), (32, vi 1), (33, vi 0), (34, .bool true)] hs fun a hs => hK132 _ _ ?_
        clear hK132
        refine Vk.seq fun K133 hK133 => ?_
        refine qct hs ?_
        refine wp_skip ?_
        refine hK133 _ _ ?_
        clear hK133
        refine Vk.seq fun K134 hK134 => ?_
        refine wp_block ?_
        refine qsr fun K135 hK135 => ?_
        obtain ⟨h_136, hm⟩ := ite_t hm
        obtain ⟨e_139, h_137, hm⟩ := bind_t hm
        obtain ⟨b_140, o_141, hA_142, h_138⟩ := Sl.elem (Own.rowSl 0 (Own.to (S' := rowp A_16 1 3 1 (eI .i64) ([1] : List Int) :: S) hs.own [11] 16 (by kernel_rfl) (by kernel_rfl)) rfl) h_137
        refine Vk.step (Vk.value (some 35) (.pointer (some ⟨b_140, o_141 + 0 * 1, none⟩)) hs (by kernel_rfl) (op := (.indexAddr 159 (.tmp 31) (.tmp 33))) (by kernel_rfl) (fun o ho => run_idxSlc (k := .i64) ho (cap := 1) (len := ([1] : List Int).length) ((congrArg (fun A => Value.slice A (([1] : List Int).length) (1)) hA_142) ▸ (by kernel_rfl)) (by kernel_rfl) (by kernel_rfl) (idx_ok h_136 h_137) _) fun a hs => ?_)
        refine Vk.step (Vk.value (some 36) (vi e_139) hs (by kernel_rfl) (op := (.load 3 (.tmp 35))) (by kernel_rfl) (fun o ho => run_load1 (c := ci e_139) ho (by kernel_rfl) (by kernel_rfl) (fun w ho => h_138 w ho 0 _ rfl) _ (Own.to (S' := rowp A_16 1 3 1 (eI .i64) ([1] : List Int) :: S) hs.own [11] 16 (by kernel_rfl) (by kernel_rfl))) fun a hs => ?_)
        refine qpe 1 [(0, pp b_x0), (5, pp b_20), (8, pp b_22), (9, pp b_36), (10, pp b_39), (11, vi 2), (14, vi e_139), (26, .agg (vals ([C.slc A_12 (([0, 1] : List Int).length) 2, C.slc A_14 (([0] : List Int).length) 1, C.slc A_16 (([1] : List Int).length) 1]))), (27, vi 2), (31, .slice A_16 (([1] : List Int).length) 1), (32, vi 1), (33, vi 0)] hs fun a hs => hK135 _ _ ?_
        clear hK135
        obtain ⟨C_143, hC_143⟩ : ∃ X0 : List HP, X0 = (rowp A_120 c_121 3 1 (eI .i64) (([] : List Int) ++ ([v_115] : List Int)) :: rowp A_116 1 3 1 (eI .i64) ([v_115] : List Int) :: rowp A_86 1 3 1 (eI .i64) ([v_85] : List Int) :: rowp A_89 c_90 3 1 (eI .i64) ((([] : List Int) ++ ([v_63] : List Int)) ++ ([v_85] : List Int)) :: rowp A_64 1 3 1 (eI .i64) ([v_63] : List Int) :: pt b_39 (blk ([C.slc A_89 (((([] : List Int) ++ ([v_63] : List Int)) ++ ([v_85] : List Int)).length) c_90, C.slc A_120 ((([] : List Int) ++ ([v_115] : List Int)).length) c_121, C.slc none 0 0]) 160) :: pt b_36 (blk v_35.1 26) :: Twire_Machine.own b_x0 v_35.2 :: pt b_22 (blk [ci 0, ci 0, ci 0] 28) :: pt b_21 (blk ([C.slc A_12 (([0, 1] : List Int).length) 2, C.slc A_14 (([0] : List Int).length) 1, C.slc A_16 (([1] : List Int).length) 1]) 160) :: pt b_20 (blk x1 28) :: rowp A_16 1 3 1 (eI .i64) ([1] : List Int) :: rowp A_14 1 3 1 (eI .i64) ([0] : List Int) :: rowp A_12 2 3 1 (eI .i64) ([0, 1] : List Int) :: pt b_3 (blk [ci 0, ci 0, ci 0] 28) :: pt b_2 (blk x1 28) :: S) := ⟨_, rfl⟩
        refine qdr 10 κ C_143 hs fun w hs hqC_143 => ?_
        have hcz : Own κ w (rowp A_120 c_121 3 1 (eI .i64) (([] : List Int) ++ ([v_115] : List Int)) :: rowp A_116 1 3 1 (eI .i64) ([v_115] : List Int) :: rowp A_86 1 3 1 (eI .i64) ([v_85] : List Int) :: rowp A_89 c_90 3 1 (eI .i64) ((([] : List Int) ++ ([v_63] : List Int)) ++ ([v_85] : List Int)) :: rowp A_64 1 3 1 (eI .i64) ([v_63] : List Int) :: pt b_39 (blk ([C.slc A_89 (((([] : List Int) ++ ([v_63] : List Int)) ++ ([v_85] : List Int)).length) c_90, C.slc A_120 ((([] : List Int) ++ ([v_115] : List Int)).length) c_121, C.slc none 0 0]) 160) :: pt b_36 (blk v_35.1 26) :: Twire_Machine.own b_x0 v_35.2 :: pt b_22 (blk [ci 0, ci 0, ci 0] 28) :: pt b_21 (blk ([C.slc A_12 (([0, 1] : List Int).length) 2, C.slc A_14 (([0] : List Int).length) 1, C.slc A_16 (([1] : List Int).length) 1]) 160) :: pt b_20 (blk x1 28) :: rowp A_16 1 3 1 (eI .i64) ([1] : List Int) :: rowp A_14 1 3 1 (eI .i64) ([0] : List Int) :: rowp A_12 2 3 1 (eI .i64) ([0, 1] : List Int) :: pt b_3 (blk [ci 0, ci 0, ci 0] 28) :: pt b_2 (blk x1 28) :: S) := (Own.to hs.own [0, 1, 2, 3, 4, 5, 6, 7, 8, 9, 10, 11, 12, 13, 14, 15] 16 (by kernel_rfl) (by kernel_rfl))
        have hcl : Own κ w C_143 := by rw [hC_143]; exact hcz
        refine qdp (fuel := 7) [0, 1, 2, 4] hs hcl hqC_143 fun a hs => ?_
        refine qdl 3 5 (C.slc none 0 0) hs hcl hqC_143 hC_143 rfl fun a hs => ?_
        obtain ⟨h_144, hm⟩ := ite_t hm
        refine Vk.dTakeT (i := 5) (some 42) (.pointer (some ⟨b_36, 0 + e_139.toNat * 1, none⟩)) hs (by kernel_rfl) hqC_143 hcl (by kernel_rfl) (by kernel_rfl) (op := (.indexAddr 26 (.tmp 9) (.tmp 41))) (by kernel_rfl) (by kernel_rfl) (fun w hw o ho => by rw [hC_143] at hw; exact run_idxArr (k := .i64) ho (by kernel_rfl) (by kernel_rfl) (by kernel_rfl) h_144 _) fun a hs => ?_
        obtain ⟨v_146, h_145, hm⟩ := bind_t hm
        refine Vk.dTakeT (i := 6) (some 43) (vi v_146) hs (by kernel_rfl) hqC_143 hcl (by kernel_rfl) (by kernel_rfl) (op := (.load 3 (.tmp 42))) (by kernel_rfl) (by kernel_rfl) (fun w hw o ho => by rw [hC_143] at hw; exact run_load1 (c := ci v_146) ho (by kernel_rfl) (by kernel_rfl) (Cell.own 6 rfl (getI_some h_145)) _ hw) fun a hs => ?_
        refine Vk.dOnly (i := 7) (by kernel_rfl) (Vk.buildOp (sz := 1) (by_ := 8) (t := 159) (e := 3) (parts := #[(0, (.tmp 43))]) (zs := vals [ci 0]) ([v_146] : List Int) (eI .i64) (some 44) hs (by kernel_rfl) (by kernel_rfl) (by kernel_rfl) (by kernel_rfl) (by decide) rfl (fun x _ => rfl) (Nat.le_of_ble_eq_true (by kernel_rfl)) (by kernel_rfl) fun A_147 w a hs => ?_)
        replace hcl : Own κ w C_143 := by rw [hC_143]; exact (Own.to hs.own [1, 2, 3, 4, 5, 6, 7, 8, 9, 10, 11, 12, 13, 14, 15, 16] 17 (by kernel_rfl) (by kernel_rfl))
        refine ⟨fun _ => hcl, ?_⟩
        replace hs := hs.addRow none 3 1 (eI .i64)
        obtain ⟨h_150, hm⟩ := ite_t hm
        refine Vk.dOnly (i := 8) (by kernel_rfl) (Vk.appendOp (x := (.tmp 40)) (y := (.tmp 44)) (e := 3) (t := 159) (by_ := 8) (sz := 1) (enc := (eI .i64)) (A := none) (cap := 0) (xs := ([] : List Int)) (ys := ([v_146] : List Int)) (B := A_147) (c2 := 1) 0 (some 45) hs (by kernel_rfl) (by kernel_rfl) (by kernel_rfl) (by kernel_rfl) rfl (Sl.lift (fun w ho => (Own.to (S' := rowp A_147 1 3 1 (eI .i64) ([v_146] : List Int) :: S) ho [1] 18 (by kernel_rfl) (by kernel_rfl))) (Own.rowSl 0 (Own.to (S' := rowp A_147 1 3 1 (eI .i64) ([v_146] : List Int) :: S) hs.own [1] 18 (by kernel_rfl) (by kernel_rfl)) rfl)) (by kernel_rfl) (by kernel_rfl) (by decide) (by decide) h_150 fun A_151 c_152 w a hs => ?_)
        replace hcl : Own κ w C_143 := by rw [hC_143]; exact (Own.to hs.own [2, 3, 4, 5, 6, 7, 8, 9, 10, 11, 12, 13, 14, 15, 16, 17] 18 (by kernel_rfl) (by kernel_rfl))
        refine ⟨fun _ => hcl, ?_⟩
        refine qdp (fuel := 1) [9] hs hcl hqC_143 fun a hs => ?_
        refine Vk.dOnly (i := 10) (by kernel_rfl) (Vk.store1 (b := b_39) (ty := 159) (x := (.tmp 46)) (y := (.tmp 45)) (off := 2) (C.slc A_151 ((([] : List Int) ++ ([v_146] : List Int)).length) c_152) 7 hs (by kernel_rfl) (by kernel_rfl) (by kernel_rfl) (by kernel_rfl) (by kernel_rfl) (by kernel_rfl) rfl (Nat.le_of_ble_eq_true (by kernel_rfl)) fun a w hs => ?_)
        refine ⟨fun h => absurd h (by decide), ?_⟩
        replace hs := hs.pick [0, 5, 8, 9, 10, 11, 26, 27, 31, 32, 33] (L' := [(0, pp b_x0), (5, pp b_20), (8, pp b_22), (9, pp b_36), (10, pp b_39), (11, vi 2), (26, .agg (vals ([C.slc A_12 (([0, 1] : List Int).length) 2, C.slc A_14 (([0] : List Int).length) 1, C.slc A_16 (([1] : List Int).length) 1]))), (27, vi 2), (31, .slice A_16 (([1] : List Int).length) 1), (32, vi 1), (33, vi 0)]) (by kernel_rfl)
        refine Vk.dDone (by kernel_rfl) ?_
        refine hK134 _ _ ?_
        clear hK134
        refine Vk.region ?_
        refine qpe 2 [(0, pp b_x0), (5, pp b_20), (8, pp b_22), (9, pp b_36), (10, pp b_39), (11, vi 2), (26, .agg (vals ([C.slc A_12 (([0, 1] : List Int).length) 2, C.slc A_14 (([0] : List Int).length) 1, C.slc A_16 (([1] : List Int).length) 1]))), (27, vi 2), (31, .slice A_16 (([1] : List Int).length) 1), (32, vi 1), (33, vi 1)] hs fun a hs => hKL131 _ _ ?_
        clear hKL131
        refine Vk.unroll fun KL153 hKL153 => ?_
        refine qsr fun K154 hK154 => ?_
        refine qpe 1 [(0, pp b_x0), (5, pp b_20), (8, pp b_22), (9, pp b_36), (10, pp b_39), (11, vi 2), (26, .agg (vals ([C.slc A_12 (([0, 1] : List Int).length) 2, C.slc A_14 (([0] : List Int).length) 1, C.slc A_16 (([1] : List Int).length) 1]))), (27, vi 2), (31, .slice A_16 (([1] : List Int).length) 1), (32, vi 1), (33, vi 1), (34, .bool false)] hs fun a hs => hK154 _ _ ?_
        clear hK154
        refine Vk.seq fun K155 hK155 => ?_
        refine qcf hs ?_
        refine wp_exit ?_
        refine hK128 _ _ ?_
        clear hK128
        refine Vk.region ?_
        refine qpe 2 [(0, pp b_x0), (5, pp b_20), (8, pp b_22), (9, pp b_36), (10, pp b_39), (26, .agg (vals ([C.slc A_12 (([0, 1] : List Int).length) 2, C.slc A_14 (([0] : List Int).length) 1, C.slc A_16 (([1] : List Int).length) 1]))), (27, vi 3)] hs fun a hs => hKL125 _ _ ?_
        clear hKL125
        refine Vk.unroll fun KL156 hKL156 => ?_
        refine qsr fun K157 hK157 => ?_
        refine qpe 1 [(0, pp b_x0), (5, pp b_20), (8, pp b_22), (9, pp b_36), (10, pp b_39), (26, .agg (vals ([C.slc A_12 (([0, 1] : List Int).length) 2, C.slc A_14 (([0] : List Int).length) 1, C.slc A_16 (([1] : List Int).length) 1]))), (27, vi 3), (28, .bool false)] hs fun a hs => hK157 _ _ ?_
        clear hK157
        refine Vk.seq fun K158 hK158 => ?_
        refine qcf hs ?_
        refine wp_exit ?_
        refine hK40 _ _ ?_
        clear hK40
        refine qsr fun K159 hK159 => ?_
        refine qpu 1 hs fun a hs => ?_
        refine Vk.step (Vk.value (some 50) (.agg (vals x1)) hs (by kernel_rfl) (op := (.load 28 (.tmp 5))) (by kernel_rfl) (fun o ho => run_loadN (cs := x1) ho (by kernel_rfl) (by kernel_rfl) h_11 (CellsAt.all 12 rfl) _ hs.own) fun a hs => ?_)
        refine qln 7 ([C.slc A_89 (((([] : List Int) ++ ([v_63] : List Int)) ++ ([v_85] : List Int)).length) c_90, C.slc A_120 ((([] : List Int) ++ ([v_115] : List Int)).length) c_121, C.slc A_151 ((([] : List Int) ++ ([v_146] : List Int)).length) c_152]) hs rfl fun a hs => ?_
        refine Vk.step (Vk.call (some 52) 161 #[pp b_x0, .agg (vals x1), .agg (vals ([C.slc A_89 (((([] : List Int) ++ ([v_63] : List Int)) ++ ([v_85] : List Int)).length) c_90, C.slc A_120 ((([] : List Int) ++ ([v_115] : List Int)).length) c_121, C.slc A_151 ((([] : List Int) ++ ([v_146] : List Int)).length) c_152]))] hs (by kernel_rfl) (by kernel_rfl) (by kernel_rfl) ?_)
        refine Vk.enterI [(0, pp b_x0), (1, .agg (vals x1)), (2, .agg (vals ([C.slc A_89 (((([] : List Int) ++ ([v_63] : List Int)) ++ ([v_85] : List Int)).length) c_90, C.slc A_120 ((([] : List Int) ++ ([v_115] : List Int)).length) c_121, C.slc A_151 ((([] : List Int) ++ ([v_146] : List Int)).length) c_152])))] Try.func161 rfl Try.ntmps161 (by kernel_rfl) (Nat.le_of_ble_eq_true (by kernel_rfl)) hs.own fun KR160 hKR160 hKP160 a hs => ?_
        refine qsr fun K161 hK161 => ?_
        refine Vk.step (Vk.box (x := (.tmp 1)) 4 28 x1 hs (by kernel_rfl) (by kernel_rfl) (by kernel_rfl) fun b_162 w a hs => ?_)
        refine Vk.step (Vk.box (x := (.tmp 2)) 5 160 ([C.slc A_89 (((([] : List Int) ++ ([v_63] : List Int)) ++ ([v_85] : List Int)).length) c_90, C.slc A_120 ((([] : List Int) ++ ([v_115] : List Int)).length) c_121, C.slc A_151 ((([] : List Int) ++ ([v_146] : List Int)).length) c_152]) hs (by kernel_rfl) (by kernel_rfl) (by kernel_rfl) fun b_163 w a hs => ?_)
        refine Vk.step (Vk.alloc 6 28 [ci 0, ci 0, ci 0] hs (by kernel_rfl) (by kernel_rfl) (by kernel_rfl) fun b_164 w a hs => ?_)
        refine qpe 0 [(0, pp b_x0), (4, pp b_162), (5, pp b_163), (6, pp b_164)] hs fun a hs => hK161 _ _ ?_
        clear hK161
        refine qsr fun K165 hK165 => ?_
        refine Vk.step (Vk.value (some 11) (.agg (vals x1)) hs (by kernel_rfl) (op := (.load 28 (.tmp 4))) (by kernel_rfl) (fun o ho => run_loadN (cs := x1) ho (by kernel_rfl) (by kernel_rfl) h_11 (CellsAt.all 2 rfl) _ hs.own) fun a hs => ?_)
        refine Vk.step (Vk.alloc 7 28 [ci 0, ci 0, ci 0] hs (by kernel_rfl) (by kernel_rfl) (by kernel_rfl) fun b_166 w a hs => ?_)
        refine Vk.step (Vk.storeA (b := b_166) (ty := 28) (x := (.tmp 7)) (y := (.tmp 11)) (sz := 3) x1 0 hs (by kernel_rfl) (by kernel_rfl) (by kernel_rfl) (by kernel_rfl) (by kernel_rfl) h_11 (by kernel_rfl) rfl (Eq.trans (b := 3) h_11 (Eq.symm rfl)) fun a w hs => ?_)
        refine qpe 0 [(0, pp b_x0), (5, pp b_163), (6, pp b_164), (7, pp b_166)] hs fun a hs => hK165 _ _ ?_
        clear hK165
        refine Vk.seq fun K167 hK167 => ?_
        refine qsr fun K168 hK168 => ?_
        refine qpu 1 hs fun a hs => ?_
        obtain ⟨g_169, hs⟩ := hs.unex 13 rfl
        obtain ⟨v_172, h_171, hm⟩ := bind_t hm
        refine Vk.step (Vk.call (some 13) 89 #[pp b_x0] hs (by kernel_rfl) (by kernel_rfl) (by kernel_rfl) ?_)
        refine (wire_Machine_N.ok k v_35.2 v_172 h_171 κ w (pt b_166 (blk x1 28) :: pt b_164 (blk [ci 0, ci 0, ci 0] 28) :: pt b_163 (blk ([C.slc A_89 (((([] : List Int) ++ ([v_63] : List Int)) ++ ([v_85] : List Int)).length) c_90, C.slc A_120 ((([] : List Int) ++ ([v_115] : List Int)).length) c_121, C.slc A_151 ((([] : List Int) ++ ([v_146] : List Int)).length) c_152]) 160) :: pt b_162 (blk x1 28) :: rowp A_151 c_152 3 1 (eI .i64) (([] : List Int) ++ ([v_146] : List Int)) :: rowp A_147 1 3 1 (eI .i64) ([v_146] : List Int) :: rowp A_120 c_121 3 1 (eI .i64) (([] : List Int) ++ ([v_115] : List Int)) :: rowp A_116 1 3 1 (eI .i64) ([v_115] : List Int) :: rowp A_86 1 3 1 (eI .i64) ([v_85] : List Int) :: rowp A_89 c_90 3 1 (eI .i64) ((([] : List Int) ++ ([v_63] : List Int)) ++ ([v_85] : List Int)) :: rowp A_64 1 3 1 (eI .i64) ([v_63] : List Int) :: pt b_39 (blk ([C.slc A_89 (((([] : List Int) ++ ([v_63] : List Int)) ++ ([v_85] : List Int)).length) c_90, C.slc A_120 ((([] : List Int) ++ ([v_115] : List Int)).length) c_121, C.slc A_151 ((([] : List Int) ++ ([v_146] : List Int)).length) c_152]) 160) :: pt b_36 (blk v_35.1 26) :: pt b_22 (blk [ci 0, ci 0, ci 0] 28) :: pt b_21 (blk ([C.slc A_12 (([0, 1] : List Int).length) 2, C.slc A_14 (([0] : List Int).length) 1, C.slc A_16 (([1] : List Int).length) 1]) 160) :: pt b_20 (blk x1 28) :: rowp A_16 1 3 1 (eI .i64) ([1] : List Int) :: rowp A_14 1 3 1 (eI .i64) ([0] : List Int) :: rowp A_12 2 3 1 (eI .i64) ([0, 1] : List Int) :: pt b_3 (blk [ci 0, ci 0, ci 0] 28) :: pt b_2 (blk x1 28) :: S) b_x0 g_169 (Own.to hs.own [13, 0, 1, 2, 3, 4, 5, 6, 7, 8, 9, 10, 11, 12, 14, 15, 16, 17, 18, 19, 20, 21] 22 (by kernel_rfl) (by kernel_rfl))).mono ?_
        rintro _ w ⟨rfl, how⟩
        refine ⟨_, _, _, rfl, how, fun a hs => ?_⟩
        rcases Bool.eq_false_or_eq_true (v_172 == 3) with hb | hb
        · replace hm := bif_t hm hb
          obtain rfl := Vk.of_beq hb
          refine qpe 1 [(0, pp b_x0), (5, pp b_163), (6, pp b_164), (7, pp b_166), (13, vi 3), (14, vi 0)] hs fun a hs => hK168 _ _ ?_
          clear hK168
          refine wp_block ?_
          refine Vk.unroll0 40 ?_
          refine Vk.unroll fun KL173 hKL173 => ?_
          refine qsr fun K174 hK174 => ?_
          refine qpe 1 [(0, pp b_x0), (5, pp b_163), (6, pp b_164), (7, pp b_166), (13, vi 3), (14, vi 0), (15, .bool true)] hs fun a hs => hK174 _ _ ?_
          clear hK174
          refine Vk.seq fun K175 hK175 => ?_
          refine qct hs ?_
          refine wp_skip ?_
          refine hK175 _ _ ?_
          clear hK175
          refine Vk.seq fun K176 hK176 => ?_
          refine wp_block ?_
          refine qsr fun K177 hK177 => ?_
          refine qpe 2 [(0, pp b_x0), (5, pp b_163), (6, pp b_164), (7, pp b_166), (8, vi 0), (13, vi 3), (14, vi 0)] hs fun a hs => hK177 _ _ ?_
          clear hK177
          refine qsr fun K178 hK178 => ?_
          refine qpu 2 hs fun a hs => ?_
          refine qld 3 (C.slc A_89 (((([] : List Int) ++ ([v_63] : List Int)) ++ ([v_85] : List Int)).length) c_90) hs rfl fun a hs => ?_
          refine qpe 2 [(0, pp b_x0), (5, pp b_163), (6, pp b_164), (7, pp b_166), (8, vi 0), (13, vi 3), (14, vi 0), (19, .slice A_89 (((([] : List Int) ++ ([v_63] : List Int)) ++ ([v_85] : List Int)).length) c_90), (20, vi 2), (21, vi 0)] hs fun a hs => hK178 _ _ ?_
          clear hK178
          refine wp_block ?_
          refine Vk.unroll0 40 ?_
          refine Vk.unroll fun KL179 hKL179 => ?_
          refine qsr fun K180 hK180 => ?_
          refine qpe 1 [(0, pp b_x0), (5, pp b_163), (6, pp b_164), (7, pp b_166), (8, vi 0), (13, vi 3), (14, vi 0), (19, .slice A_89 (((([] : List Int) ++ ([v_63] : List Int)) ++ ([v_85] : List Int)).length) c_90), (20, vi 2), (21, vi 0), (22, .bool true)] hs fun a hs => hK180 _ _ ?_
          clear hK180
          refine Vk.seq fun K181 hK181 => ?_
          refine qct hs ?_
          refine wp_skip ?_
          refine hK181 _ _ ?_
          clear hK181
          refine Vk.seq fun K182 hK182 => ?_
          refine wp_block ?_
          refine qsr fun K183 hK183 => ?_
          obtain ⟨h_184, hm⟩ := ite_t hm
          obtain ⟨e_187, h_185, hm⟩ := bind_t hm
          obtain ⟨b_188, o_189, hA_190, h_186⟩ := Sl.elem (Own.rowSl 0 (Own.to (S' := rowp A_89 c_90 3 1 (eI .i64) ((([] : List Int) ++ ([v_63] : List Int)) ++ ([v_85] : List Int)) :: S) hs.own [10] 22 (by kernel_rfl) (by kernel_rfl)) rfl) h_185
          refine Vk.step (Vk.value (some 23) (.pointer (some ⟨b_188, o_189 + 0 * 1, none⟩)) hs (by kernel_rfl) (op := (.indexAddr 159 (.tmp 19) (.tmp 21))) (by kernel_rfl) (fun o ho => run_idxSlc (k := .i64) ho (cap := c_90) (len := ((([] : List Int) ++ ([v_63] : List Int)) ++ ([v_85] : List Int)).length) ((congrArg (fun A => Value.slice A (((([] : List Int) ++ ([v_63] : List Int)) ++ ([v_85] : List Int)).length) (c_90)) hA_190) ▸ (by kernel_rfl)) (by kernel_rfl) (by kernel_rfl) (idx_ok h_184 h_185) _) fun a hs => ?_)
          refine Vk.step (Vk.value (some 24) (vi e_187) hs (by kernel_rfl) (op := (.load 3 (.tmp 23))) (by kernel_rfl) (fun o ho => run_load1 (c := ci e_187) ho (by kernel_rfl) (by kernel_rfl) (fun w ho => h_186 w ho 0 _ rfl) _ (Own.to (S' := rowp A_89 c_90 3 1 (eI .i64) ((([] : List Int) ++ ([v_63] : List Int)) ++ ([v_85] : List Int)) :: S) hs.own [10] 22 (by kernel_rfl) (by kernel_rfl))) fun a hs => ?_)
          refine qpe 1 [(0, pp b_x0), (5, pp b_163), (6, pp b_164), (7, pp b_166), (8, vi 0), (10, vi e_187), (13, vi 3), (14, vi 0), (19, .slice A_89 (((([] : List Int) ++ ([v_63] : List Int)) ++ ([v_85] : List Int)).length) c_90), (20, vi 2), (21, vi 0)] hs fun a hs => hK183 _ _ ?_
          clear hK183
          refine Vk.region ?_
          refine qpu 6 hs fun a hs => ?_
          obtain ⟨v_192, h_191, hm⟩ := bind_t hm
          refine Vk.step (Vk.value (some 31) (vi v_192) hs (by kernel_rfl) (op := (.load 3 (.tmp 30))) (by kernel_rfl) (fun o ho => run_load1 (c := ci v_192) ho (by kernel_rfl) (by kernel_rfl) (Cell.own 1 rfl (getI_some h_191)) _ hs.own) fun a hs => ?_)
          refine qpu 1 hs fun a hs => ?_
          replace hs := hs.toEx (Twire_Machine.parts b_x0 v_35.2) g_169 0 rfl
          obtain ⟨v_195, h_194, hm⟩ := bind_t hm
          refine Vk.step (Vk.call (some 33) 150 #[pp b_x0, vi 5, vi 0, vi v_192, vi e_187] hs (by kernel_rfl) (by kernel_rfl) (by kernel_rfl) ?_)
          refine (wire_Machine_Two.ok k v_35.2 5 0 v_192 e_187 v_195 h_194 κ w (pt b_166 (blk x1 28) :: pt b_164 (blk [ci 0, ci 0, ci 0] 28) :: pt b_163 (blk ([C.slc A_89 (((([] : List Int) ++ ([v_63] : List Int)) ++ ([v_85] : List Int)).length) c_90, C.slc A_120 ((([] : List Int) ++ ([v_115] : List Int)).length) c_121, C.slc A_151 ((([] : List Int) ++ ([v_146] : List Int)).length) c_152]) 160) :: pt b_162 (blk x1 28) :: rowp A_151 c_152 3 1 (eI .i64) (([] : List Int) ++ ([v_146] : List Int)) :: rowp A_147 1 3 1 (eI .i64) ([v_146] : List Int) :: rowp A_120 c_121 3 1 (eI .i64) (([] : List Int) ++ ([v_115] : List Int)) :: rowp A_116 1 3 1 (eI .i64) ([v_115] : List Int) :: rowp A_86 1 3 1 (eI .i64) ([v_85] : List Int) :: rowp A_89 c_90 3 1 (eI .i64) ((([] : List Int) ++ ([v_63] : List Int)) ++ ([v_85] : List Int)) :: rowp A_64 1 3 1 (eI .i64) ([v_63] : List Int) :: pt b_39 (blk ([C.slc A_89 (((([] : List Int) ++ ([v_63] : List Int)) ++ ([v_85] : List Int)).length) c_90, C.slc A_120 ((([] : List Int) ++ ([v_115] : List Int)).length) c_121, C.slc A_151 ((([] : List Int) ++ ([v_146] : List Int)).length) c_152]) 160) :: pt b_36 (blk v_35.1 26) :: pt b_22 (blk [ci 0, ci 0, ci 0] 28) :: pt b_21 (blk ([C.slc A_12 (([0, 1] : List Int).length) 2, C.slc A_14 (([0] : List Int).length) 1, C.slc A_16 (([1] : List Int).length) 1]) 160) :: pt b_20 (blk x1 28) :: rowp A_16 1 3 1 (eI .i64) ([1] : List Int) :: rowp A_14 1 3 1 (eI .i64) ([0] : List Int) :: rowp A_12 2 3 1 (eI .i64) ([0, 1] : List Int) :: pt b_3 (blk [ci 0, ci 0, ci 0] 28) :: pt b_2 (blk x1 28) :: S) b_x0 (Own.to hs.own [0, 1, 2, 3, 4, 5, 6, 7, 8, 9, 10, 11, 12, 13, 14, 15, 16, 17, 18, 19, 20, 21] 22 (by kernel_rfl) (by kernel_rfl))).mono ?_
          rintro _ w ⟨rfl, how⟩
          refine ⟨_, _, _, rfl, how, fun a hs => ?_⟩
          refine qpu 2 hs fun a hs => ?_
          obtain ⟨h_196, hm⟩ := ite_t hm
          refine Vk.step (Vk.store1 (b := b_166) (ty := 3) (x := (.tmp 35)) (y := (.tmp 33)) (off := 0) (ci v_195.1) 1 hs (by kernel_rfl) (by kernel_rfl) (by kernel_rfl) (by kernel_rfl) (by kernel_rfl) (by kernel_rfl) rfl h_196 fun a w hs => ?_)
          refine qpe 0 [(0, pp b_x0), (5, pp b_163), (6, pp b_164), (7, pp b_166), (8, vi 0), (13, vi 3), (14, vi 0), (19, .slice A_89 (((([] : List Int) ++ ([v_63] : List Int)) ++ ([v_85] : List Int)).length) c_90), (20, vi 2), (21, vi 0)] hs fun a hs => hK182 _ _ ?_
          clear hK182
          refine Vk.region ?_
          refine qpe 2 [(0, pp b_x0), (5, pp b_163), (6, pp b_164), (7, pp b_166), (8, vi 0), (13, vi 3), (14, vi 0), (19, .slice A_89 (((([] : List Int) ++ ([v_63] : List Int)) ++ ([v_85] : List Int)).length) c_90), (20, vi 2), (21, vi 1)] hs fun a hs => hKL179 _ _ ?_
          clear hKL179
          refine Vk.unroll fun KL197 hKL197 => ?_
          refine qsr fun K198 hK198 => ?_
          refine qpe 1 [(0, pp b_x0), (5, pp b_163), (6, pp b_164), (7, pp b_166), (8, vi 0), (13, vi 3), (14, vi 0), (19, .slice A_89 (((([] : List Int) ++ ([v_63] : List Int)) ++ ([v_85] : List Int)).length) c_90), (20, vi 2), (21, vi 1), (22, .bool true)] hs fun a hs => hK198 _ _ ?_
          clear hK198
          refine Vk.seq fun K199 hK199 => ?_
          refine qct hs ?_
          refine wp_skip ?_
          refine hK199 _ _ ?_
          clear hK199
          refine Vk.seq fun K200 hK200 => ?_
          refine wp_block ?_
          refine qsr fun K201 hK201 => ?_
          obtain ⟨h_202, hm⟩ := ite_t hm
          obtain ⟨e_205, h_203, hm⟩ := bind_t hm
          obtain ⟨b_206, o_207, hA_208, h_204⟩ := Sl.elem (Own.rowSl 0 (Own.to (S' := rowp A_89 c_90 3 1 (eI .i64) ((([] : List Int) ++ ([v_63] : List Int)) ++ ([v_85] : List Int)) :: S) hs.own [10] 22 (by kernel_rfl) (by kernel_rfl)) rfl) h_203
          refine Vk.step (Vk.value (some 23) (.pointer (some ⟨b_206, o_207 + 1 * 1, none⟩)) hs (by kernel_rfl) (op := (.indexAddr 159 (.tmp 19) (.tmp 21))) (by kernel_rfl) (fun o ho => run_idxSlc (k := .i64) ho (cap := c_90) (len := ((([] : List Int) ++ ([v_63] : List Int)) ++ ([v_85] : List Int)).length) ((congrArg (fun A => Value.slice A (((([] : List Int) ++ ([v_63] : List Int)) ++ ([v_85] : List Int)).length) (c_90)) hA_208) ▸ (by kernel_rfl)) (by kernel_rfl) (by kernel_rfl) (idx_ok h_202 h_203) _) fun a hs => ?_)
          refine Vk.step (Vk.value (some 24) (vi e_205) hs (by kernel_rfl) (op := (.load 3 (.tmp 23))) (by kernel_rfl) (fun o ho => run_load1 (c := ci e_205) ho (by kernel_rfl) (by kernel_rfl) (fun w ho => h_204 w ho 0 _ rfl) _ (Own.to (S' := rowp A_89 c_90 3 1 (eI .i64) ((([] : List Int) ++ ([v_63] : List Int)) ++ ([v_85] : List Int)) :: S) hs.own [10] 22 (by kernel_rfl) (by kernel_rfl))) fun a hs => ?_)
          refine qpe 1 [(0, pp b_x0), (5, pp b_163), (6, pp b_164), (7, pp b_166), (8, vi 0), (10, vi e_205), (13, vi 3), (14, vi 0), (19, .slice A_89 (((([] : List Int) ++ ([v_63] : List Int)) ++ ([v_85] : List Int)).length) c_90), (20, vi 2), (21, vi 1)] hs fun a hs => hK201 _ _ ?_
          clear hK201
          refine Vk.region ?_
          refine qpu 6 hs fun a hs => ?_
          obtain ⟨v_210, h_209, hm⟩ := bind_t hm
          refine Vk.step (Vk.value (some 31) (vi v_210) hs (by kernel_rfl) (op := (.load 3 (.tmp 30))) (by kernel_rfl) (fun o ho => run_load1 (c := ci v_210) ho (by kernel_rfl) (by kernel_rfl) (Cell.own 1 rfl (getI_some h_209)) _ hs.own) fun a hs => ?_)
          refine qpu 1 hs fun a hs => ?_
          obtain ⟨v_213, h_212, hm⟩ := bind_t hm
          refine Vk.step (Vk.call (some 33) 150 #[pp b_x0, vi 5, vi 0, vi v_210, vi e_205] hs (by kernel_rfl) (by kernel_rfl) (by kernel_rfl) ?_)
          refine (wire_Machine_Two.ok k v_195.2 5 0 v_210 e_205 v_213 h_212 κ w (pt b_166 (blk (x1.set (0) (ci v_195.1)) 28) :: pt b_164 (blk [ci 0, ci 0, ci 0] 28) :: pt b_163 (blk ([C.slc A_89 (((([] : List Int) ++ ([v_63] : List Int)) ++ ([v_85] : List Int)).length) c_90, C.slc A_120 ((([] : List Int) ++ ([v_115] : List Int)).length) c_121, C.slc A_151 ((([] : List Int) ++ ([v_146] : List Int)).length) c_152]) 160) :: pt b_162 (blk x1 28) :: rowp A_151 c_152 3 1 (eI .i64) (([] : List Int) ++ ([v_146] : List Int)) :: rowp A_147 1 3 1 (eI .i64) ([v_146] : List Int) :: rowp A_120 c_121 3 1 (eI .i64) (([] : List Int) ++ ([v_115] : List Int)) :: rowp A_116 1 3 1 (eI .i64) ([v_115] : List Int) :: rowp A_86 1 3 1 (eI .i64) ([v_85] : List Int) :: rowp A_89 c_90 3 1 (eI .i64) ((([] : List Int) ++ ([v_63] : List Int)) ++ ([v_85] : List Int)) :: rowp A_64 1 3 1 (eI .i64) ([v_63] : List Int) :: pt b_39 (blk ([C.slc A_89 (((([] : List Int) ++ ([v_63] : List Int)) ++ ([v_85] : List Int)).length) c_90, C.slc A_120 ((([] : List Int) ++ ([v_115] : List Int)).length) c_121, C.slc A_151 ((([] : List Int) ++ ([v_146] : List Int)).length) c_152]) 160) :: pt b_36 (blk v_35.1 26) :: pt b_22 (blk [ci 0, ci 0, ci 0] 28) :: pt b_21 (blk ([C.slc A_12 (([0, 1] : List Int).length) 2, C.slc A_14 (([0] : List Int).length) 1, C.slc A_16 (([1] : List Int).length) 1]) 160) :: pt b_20 (blk x1 28) :: rowp A_16 1 3 1 (eI .i64) ([1] : List Int) :: rowp A_14 1 3 1 (eI .i64) ([0] : List Int) :: rowp A_12 2 3 1 (eI .i64) ([0, 1] : List Int) :: pt b_3 (blk [ci 0, ci 0, ci 0] 28) :: pt b_2 (blk x1 28) :: S) b_x0 (Own.to hs.own [0, 1, 2, 3, 4, 5, 6, 7, 8, 9, 10, 11, 12, 13, 14, 15, 16, 17, 18, 19, 20, 21] 22 (by kernel_rfl) (by kernel_rfl))).mono ?_
          rintro _ w ⟨rfl, how⟩
          refine ⟨_, _, _, rfl, how, fun a hs => ?_⟩
          refine qpu 2 hs fun a hs => ?_
          obtain ⟨h_214, hm⟩ := ite_t hm
          refine Vk.step (Vk.store1 (b := b_166) (ty := 3) (x := (.tmp 35)) (y := (.tmp 33)) (off := 0) (ci v_213.1) 1 hs (by kernel_rfl) (by kernel_rfl) (by kernel_rfl) (by kernel_rfl) (by kernel_rfl) (by kernel_rfl) rfl h_214 fun a w hs => ?_)
          refine qpe 0 [(0, pp b_x0), (5, pp b_163), (6, pp b_164), (7, pp b_166), (8, vi 0), (13, vi 3), (14, vi 0), (19, .slice A_89 (((([] : List Int) ++ ([v_63] : List Int)) ++ ([v_85] : List Int)).length) c_90), (20, vi 2), (21, vi 1)] hs fun a hs => hK200 _ _ ?_
          clear hK200
          refine Vk.region ?_
          refine qpe 2 [(0, pp b_x0), (5, pp b_163), (6, pp b_164), (7, pp b_166), (8, vi 0), (13, vi 3), (14, vi 0), (19, .slice A_89 (((([] : List Int) ++ ([v_63] : List Int)) ++ ([v_85] : List Int)).length) c_90), (20, vi 2), (21, vi 2)] hs fun a hs => hKL197 _ _ ?_
          clear hKL197
          refine Vk.unroll fun KL215 hKL215 => ?_
          refine qsr fun K216 hK216 => ?_
          refine qpe 1 [(0, pp b_x0), (5, pp b_163), (6, pp b_164), (7, pp b_166), (8, vi 0), (13, vi 3), (14, vi 0), (19, .slice A_89 (((([] : List Int) ++ ([v_63] : List Int)) ++ ([v_85] : List Int)).length) c_90), (20, vi 2), (21, vi 2), (22, .bool false)] hs fun a hs => hK216 _ _ ?_
          clear hK216
          refine Vk.seq fun K217 hK217 => ?_
          refine qcf hs ?_
          refine wp_exit ?_
          refine hK176 _ _ ?_
          clear hK176
          refine Vk.region ?_
          refine qpe 2 [(0, pp b_x0), (5, pp b_163), (6, pp b_164), (7, pp b_166), (13, vi 3), (14, vi 1)] hs fun a hs => hKL173 _ _ ?_
          clear hKL173
          refine Vk.unroll fun KL218 hKL218 => ?_
          refine qsr fun K219 hK219 => ?_
          refine qpe 1 [(0, pp b_x0), (5, pp b_163), (6, pp b_164), (7, pp b_166), (13, vi 3), (14, vi 1), (15, .bool true)] hs fun a hs => hK219 _ _ ?_
          clear hK219
          refine Vk.seq fun K220 hK220 => ?_
          refine qct hs ?_
          refine wp_skip ?_
          refine hK220 _ _ ?_
          clear hK220
          refine Vk.seq fun K221 hK221 => ?_
          refine wp_block ?_
          refine qsr fun K222 hK222 => ?_
          refine qpe 2 [(0, pp b_x0), (5, pp b_163), (6, pp b_164), (7, pp b_166), (8, vi 1), (13, vi 3), (14, vi 1)] hs fun a hs => hK222 _ _ ?_
          clear hK222
          refine qsr fun K223 hK223 => ?_
          refine qpu 2 hs fun a hs => ?_
          refine qld 3 (C.slc A_120 ((([] : List Int) ++ ([v_115] : List Int)).length) c_121) hs rfl fun a hs => ?_
          refine qpe 2 [(0, pp b_x0), (5, pp b_163), (6, pp b_164), (7, pp b_166), (8, vi 1), (13, vi 3), (14, vi 1), (19, .slice A_120 ((([] : List Int) ++ ([v_115] : List Int)).length) c_121), (20, vi 1), (21, vi 0)] hs fun a hs => hK223 _ _ ?_
          clear hK223
          refine wp_block ?_
          refine Vk.unroll0 40 ?_
          refine Vk.unroll fun KL224 hKL224 => ?_
          refine qsr fun K225 hK225 => ?_
          refine qpe 1 [(0, pp b_x0), (5, pp b_163), (6, pp b_164), (7, pp b_166), (8, vi 1), (13, vi 3), (14, vi 1), (19, .slice A_120 ((([] : List Int) ++ ([v_115] : List Int)).length) c_121), (20, vi 1), (21, vi 0), (22, .bool true)] hs fun a hs => hK225 _ _ ?_
          clear hK225
          refine Vk.seq fun K226 hK226 => ?_
          refine qct hs ?_
          refine wp_skip ?_
          refine hK226 _ _ ?_
          clear hK226
          refine Vk.seq fun K227 hK227 => ?_
          refine wp_block ?_
          refine qsr fun K228 hK228 => ?_
          obtain ⟨h_229, hm⟩ := ite_t hm
          obtain ⟨e_232, h_230, hm⟩ := bind_t hm
          obtain ⟨b_233, o_234, hA_235, h_231⟩ := Sl.elem (Own.rowSl 0 (Own.to (S' := rowp A_120 c_121 3 1 (eI .i64) (([] : List Int) ++ ([v_115] : List Int)) :: S) hs.own [7] 22 (by kernel_rfl) (by kernel_rfl)) rfl) h_230
          refine Vk.step (Vk.value (some 23) (.pointer (some ⟨b_233, o_234 + 0 * 1, none⟩)) hs (by kernel_rfl) (op := (.indexAddr 159 (.tmp 19) (.tmp 21))) (by kernel_rfl) (fun o ho => run_idxSlc (k := .i64) ho (cap := c_121) (len := (([] : List Int) ++ ([v_115] : List Int)).length) ((congrArg (fun A => Value.slice A ((([] : List Int) ++ ([v_115] : List Int)).length) (c_121)) hA_235) ▸ (by kernel_rfl)) (by kernel_rfl) (by kernel_rfl) (idx_ok h_229 h_230) _) fun a hs => ?_)
          refine Vk.step (Vk.value (some 24) (vi e_232) hs (by kernel_rfl) (op := (.load 3 (.tmp 23))) (by kernel_rfl) (fun o ho => run_load1 (c := ci e_232) ho (by kernel_rfl) (by kernel_rfl) (fun w ho => h_231 w ho 0 _ rfl) _ (Own.to (S' := rowp A_120 c_121 3 1 (eI .i64) (([] : List Int) ++ ([v_115] : List Int)) :: S) hs.own [7] 22 (by kernel_rfl) (by kernel_rfl))) fun a hs => ?_)
          refine qpe 1 [(0, pp b_x0), (5, pp b_163), (6, pp b_164), (7, pp b_166), (8, vi 1), (10, vi e_232), (13, vi 3), (14, vi 1), (19, .slice A_120 ((([] : List Int) ++ ([v_115] : List Int)).length) c_121), (20, vi 1), (21, vi 0)] hs fun a hs => hK228 _ _ ?_
          clear hK228
          refine Vk.region ?_
          refine qpu 6 hs fun a hs => ?_
          obtain ⟨v_237, h_236, hm⟩ := bind_t hm
          refine Vk.step (Vk.value (some 31) (vi v_237) hs (by kernel_rfl) (op := (.load 3 (.tmp 30))) (by kernel_rfl) (fun o ho => run_load1 (c := ci v_237) ho (by kernel_rfl) (by kernel_rfl) (Cell.own 1 rfl (getI_some h_236)) _ hs.own) fun a hs => ?_)
          refine qpu 1 hs fun a hs => ?_
          obtain ⟨v_240, h_239, hm⟩ := bind_t hm
          refine Vk.step (Vk.call (some 33) 150 #[pp b_x0, vi 5, vi 1, vi v_237, vi e_232] hs (by kernel_rfl) (by kernel_rfl) (by kernel_rfl) ?_)
          refine (wire_Machine_Two.ok k v_213.2 5 1 v_237 e_232 v_240 h_239 κ w (pt b_166 (blk ((x1.set (0) (ci v_195.1)).set (0) (ci v_213.1)) 28) :: pt b_164 (blk [ci 0, ci 0, ci 0] 28) :: pt b_163 (blk ([C.slc A_89 (((([] : List Int) ++ ([v_63] : List Int)) ++ ([v_85] : List Int)).length) c_90, C.slc A_120 ((([] : List Int) ++ ([v_115] : List Int)).length) c_121, C.slc A_151 ((([] : List Int) ++ ([v_146] : List Int)).length) c_152]) 160) :: pt b_162 (blk x1 28) :: rowp A_151 c_152 3 1 (eI .i64) (([] : List Int) ++ ([v_146] : List Int)) :: rowp A_147 1 3 1 (eI .i64) ([v_146] : List Int) :: rowp A_120 c_121 3 1 (eI .i64) (([] : List Int) ++ ([v_115] : List Int)) :: rowp A_116 1 3 1 (eI .i64) ([v_115] : List Int) :: rowp A_86 1 3 1 (eI .i64) ([v_85] : List Int) :: rowp A_89 c_90 3 1 (eI .i64) ((([] : List Int) ++ ([v_63] : List Int)) ++ ([v_85] : List Int)) :: rowp A_64 1 3 1 (eI .i64) ([v_63] : List Int) :: pt b_39 (blk ([C.slc A_89 (((([] : List Int) ++ ([v_63] : List Int)) ++ ([v_85] : List Int)).length) c_90, C.slc A_120 ((([] : List Int) ++ ([v_115] : List Int)).length) c_121, C.slc A_151 ((([] : List Int) ++ ([v_146] : List Int)).length) c_152]) 160) :: pt b_36 (blk v_35.1 26) :: pt b_22 (blk [ci 0, ci 0, ci 0] 28) :: pt b_21 (blk ([C.slc A_12 (([0, 1] : List Int).length) 2, C.slc A_14 (([0] : List Int).length) 1, C.slc A_16 (([1] : List Int).length) 1]) 160) :: pt b_20 (blk x1 28) :: rowp A_16 1 3 1 (eI .i64) ([1] : List Int) :: rowp A_14 1 3 1 (eI .i64) ([0] : List Int) :: rowp A_12 2 3 1 (eI .i64) ([0, 1] : List Int) :: pt b_3 (blk [ci 0, ci 0, ci 0] 28) :: pt b_2 (blk x1 28) :: S) b_x0 (Own.to hs.own [0, 1, 2, 3, 4, 5, 6, 7, 8, 9, 10, 11, 12, 13, 14, 15, 16, 17, 18, 19, 20, 21] 22 (by kernel_rfl) (by kernel_rfl))).mono ?_
          rintro _ w ⟨rfl, how⟩
          refine ⟨_, _, _, rfl, how, fun a hs => ?_⟩
          refine qpu 2 hs fun a hs => ?_
          obtain ⟨h_241, hm⟩ := ite_t hm
          refine Vk.step (Vk.store1 (b := b_166) (ty := 3) (x := (.tmp 35)) (y := (.tmp 33)) (off := 1) (ci v_240.1) 1 hs (by kernel_rfl) (by kernel_rfl) (by kernel_rfl) (by kernel_rfl) (by kernel_rfl) (by kernel_rfl) rfl h_241 fun a w hs => ?_)
          refine qpe 0 [(0, pp b_x0), (5, pp b_163), (6, pp b_164), (7, pp b_166), (8, vi 1), (13, vi 3), (14, vi 1), (19, .slice A_120 ((([] : List Int) ++ ([v_115] : List Int)).length) c_121), (20, vi 1), (21, vi 0)] hs fun a hs => hK227 _ _ ?_
          clear hK227
          refine Vk.region ?_
          refine qpe 2 [(0, pp b_x0), (5, pp b_163), (6, pp b_164), (7, pp b_166), (8, vi 1), (13, vi 3), (14, vi 1), (19, .slice A_120 ((([] : List Int) ++ ([v_115] : List Int)).length) c_121), (20, vi 1), (21, vi 1)] hs fun a hs => hKL224 _ _ ?_
          clear hKL224
          refine Vk.unroll fun KL242 hKL242 => ?_
          refine qsr fun K243 hK243 => ?_
          refine qpe 1 [(0, pp b_x0), (5, pp b_163), (6, pp b_164), (7, pp b_166), (8, vi 1), (13, vi 3), (14, vi 1), (19, .slice A_120 ((([] : List Int) ++ ([v_115] : List Int)).length) c_121), (20, vi 1), (21, vi 1), (22, .bool false)] hs fun a hs => hK243 _ _ ?_
          clear hK243
          refine Vk.seq fun K244 hK244 => ?_
          refine qcf hs ?_
          refine wp_exit ?_
          refine hK221 _ _ ?_
          clear hK221
          refine Vk.region ?_
          refine qpe 2 [(0, pp b_x0), (5, pp b_163), (6, pp b_164), (7, pp b_166), (13, vi 3), (14, vi 2)] hs fun a hs => hKL218 _ _ ?_
          clear hKL218
          refine Vk.unroll fun KL245 hKL245 => ?_
          refine qsr fun K246 hK246 => ?_
          refine qpe 1 [(0, pp b_x0), (5, pp b_163), (6, pp b_164), (7, pp b_166), (13, vi 3), (14, vi 2), (15, .bool true)] hs fun a hs => hK246 _ _ ?_
          clear hK246
          refine Vk.seq fun K247 hK247 => ?_
          refine qct hs ?_
          refine wp_skip ?_
          refine hK247 _ _ ?_
          clear hK247
          refine Vk.seq fun K248 hK248 => ?_
          refine wp_block ?_
          refine qsr fun K249 hK249 => ?_
          refine qpe 2 [(0, pp b_x0), (5, pp b_163), (6, pp b_164), (7, pp b_166), (8, vi 2), (13, vi 3), (14, vi 2)] hs fun a hs => hK249 _ _ ?_
          clear hK249
          refine qsr fun K250 hK250 => ?_
          refine qpu 2 hs fun a hs => ?_
          refine qld 3 (C.slc A_151 ((([] : List Int) ++ ([v_146] : List Int)).length) c_152) hs rfl fun a hs => ?_
          refine qpe 2 [(0, pp b_x0), (5, pp b_163), (6, pp b_164), (7, pp b_166), (8, vi 2), (13, vi 3), (14, vi 2), (19, .slice A_151 ((([] : List Int) ++ ([v_146] : List Int)).length) c_152), (20, vi 1), (21, vi 0)] hs fun a hs => hK250 _ _ ?_
          clear hK250
          refine wp_block ?_
          refine Vk.unroll0 40 ?_
          refine Vk.unroll fun KL251 hKL251 => ?_
          refine qsr fun K252 hK252 => ?_
          refine qpe 1 [(0, pp b_x0), (5, pp b_163), (6, pp b_164), (7, pp b_166), (8, vi 2), (13, vi 3), (14, vi 2), (19, .slice A_151 ((([] : List Int) ++ ([v_146] : List Int)).length) c_152), (20, vi 1), (21, vi 0), (22, .bool true)] hs fun a hs => hK252 _ _ ?_
          clear hK252
          refine Vk.seq fun K253 hK253 => ?_
          refine qct hs ?_
          refine wp_skip ?_
          refine hK253 _ _ ?_
          clear hK253
          refine Vk.seq fun K254 hK254 => ?_
          refine wp_block ?_
          refine qsr fun K255 hK255 => ?_
          obtain ⟨h_256, hm⟩ := ite_t hm
          obtain ⟨e_259, h_257, hm⟩ := bind_t hm
          obtain ⟨b_260, o_261, hA_262, h_258⟩ := Sl.elem (Own.rowSl 0 (Own.to (S' := rowp A_151 c_152 3 1 (eI .i64) (([] : List Int) ++ ([v_146] : List Int)) :: S) hs.own [5] 22 (by kernel_rfl) (by kernel_rfl)) rfl) h_257
          refine Vk.step (Vk.value (some 23) (.pointer (some ⟨b_260, o_261 + 0 * 1, none⟩)) hs (by kernel_rfl) (op := (.indexAddr 159 (.tmp 19) (.tmp 21))) (by kernel_rfl) (fun o ho => run_idxSlc (k := .i64) ho (cap := c_152) (len := (([] : List Int) ++ ([v_146] : List Int)).length) ((congrArg (fun A => Value.slice A ((([] : List Int) ++ ([v_146] : List Int)).length) (c_152)) hA_262) ▸ (by kernel_rfl)) (by kernel_rfl) (by kernel_rfl) (idx_ok h_256 h_257) _) fun a hs => ?_)
          refine Vk.step (Vk.value (some 24) (vi e_259) hs (by kernel_rfl) (op := (.load 3 (.tmp 23))) (by kernel_rfl) (fun o ho => run_load1 (c := ci e_259) ho (by kernel_rfl) (by kernel_rfl) (fun w ho => h_258 w ho 0 _ rfl) _ (Own.to (S' := rowp A_151 c_152 3 1 (eI .i64) (([] : List Int) ++ ([v_146] : List Int)) :: S) hs.own [5] 22 (by kernel_rfl) (by kernel_rfl))) fun a hs => ?_)
          refine qpe 1 [(0, pp b_x0), (5, pp b_163), (6, pp b_164), (7, pp b_166), (8, vi 2), (10, vi e_259), (13, vi 3), (14, vi 2), (19, .slice A_151 ((([] : List Int) ++ ([v_146] : List Int)).length) c_152), (20, vi 1), (21, vi 0)] hs fun a hs => hK255 _ _ ?_
          clear hK255
          refine Vk.region ?_
          refine qpu 6 hs fun a hs => ?_
          obtain ⟨v_264, h_263, hm⟩ := bind_t hm
          refine Vk.step (Vk.value (some 31) (vi v_264) hs (by kernel_rfl) (op := (.load 3 (.tmp 30))) (by kernel_rfl) (fun o ho => run_load1 (c := ci v_264) ho (by kernel_rfl) (by kernel_rfl) (Cell.own 1 rfl (getI_some h_263)) _ hs.own) fun a hs => ?_)
          refine qpu 1 hs fun a hs => ?_
          obtain ⟨v_267, h_266, hm⟩ := bind_t hm
          refine Vk.step (Vk.call (some 33) 150 #[pp b_x0, vi 5, vi 2, vi v_264, vi e_259] hs (by kernel_rfl) (by kernel_rfl) (by kernel_rfl) ?_)
          refine (wire_Machine_Two.ok k v_240.2 5 2 v_264 e_259 v_267 h_266 κ w (pt b_166 (blk (((x1.set (0) (ci v_195.1)).set (0) (ci v_213.1)).set (1) (ci v_240.1)) 28) :: pt b_164 (blk [ci 0, ci 0, ci 0] 28) :: pt b_163 (blk ([C.slc A_89 (((([] : List Int) ++ ([v_63] : List Int)) ++ ([v_85] : List Int)).length) c_90, C.slc A_120 ((([] : List Int) ++ ([v_115] : List Int)).length) c_121, C.slc A_151 ((([] : List Int) ++ ([v_146] : List Int)).length) c_152]) 160) :: pt b_162 (blk x1 28) :: rowp A_151 c_152 3 1 (eI .i64) (([] : List Int) ++ ([v_146] : List Int)) :: rowp A_147 1 3 1 (eI .i64) ([v_146] : List Int) :: rowp A_120 c_121 3 1 (eI .i64) (([] : List Int) ++ ([v_115] : List Int)) :: rowp A_116 1 3 1 (eI .i64) ([v_115] : List Int) :: rowp A_86 1 3 1 (eI .i64) ([v_85] : List Int) :: rowp A_89 c_90 3 1 (eI .i64) ((([] : List Int) ++ ([v_63] : List Int)) ++ ([v_85] : List Int)) :: rowp A_64 1 3 1 (eI .i64) ([v_63] : List Int) :: pt b_39 (blk ([C.slc A_89 (((([] : List Int) ++ ([v_63] : List Int)) ++ ([v_85] : List Int)).length) c_90, C.slc A_120 ((([] : List Int) ++ ([v_115] : List Int)).length) c_121, C.slc A_151 ((([] : List Int) ++ ([v_146] : List Int)).length) c_152]) 160) :: pt b_36 (blk v_35.1 26) :: pt b_22 (blk [ci 0, ci 0, ci 0] 28) :: pt b_21 (blk ([C.slc A_12 (([0, 1] : List Int).length) 2, C.slc A_14 (([0] : List Int).length) 1, C.slc A_16 (([1] : List Int).length) 1]) 160) :: pt b_20 (blk x1 28) :: rowp A_16 1 3 1 (eI .i64) ([1] : List Int) :: rowp A_14 1 3 1 (eI .i64) ([0] : List Int) :: rowp A_12 2 3 1 (eI .i64) ([0, 1] : List Int) :: pt b_3 (blk [ci 0, ci 0, ci 0] 28) :: pt b_2 (blk x1 28) :: S) b_x0 (Own.to hs.own [0, 1, 2, 3, 4, 5, 6, 7, 8, 9, 10, 11, 12, 13, 14, 15, 16, 17, 18, 19, 20, 21] 22 (by kernel_rfl) (by kernel_rfl))).mono ?_
          rintro _ w ⟨rfl, how⟩
          refine ⟨_, _, _, rfl, how, fun a hs => ?_⟩
          refine qpu 2 hs fun a hs => ?_
          obtain ⟨h_268, hm⟩ := ite_t hm
          refine Vk.step (Vk.store1 (b := b_166) (ty := 3) (x := (.tmp 35)) (y := (.tmp 33)) (off := 2) (ci v_267.1) 1 hs (by kernel_rfl) (by kernel_rfl) (by kernel_rfl) (by kernel_rfl) (by kernel_rfl) (by kernel_rfl) rfl h_268 fun a w hs => ?_)
          refine qpe 0 [(0, pp b_x0), (5, pp b_163), (6, pp b_164), (7, pp b_166), (8, vi 2), (13, vi 3), (14, vi 2), (19, .slice A_151 ((([] : List Int) ++ ([v_146] : List Int)).length) c_152), (20, vi 1), (21, vi 0)] hs fun a hs => hK254 _ _ ?_
          clear hK254
          refine Vk.region ?_
          refine qpe 2 [(0, pp b_x0), (5, pp b_163), (6, pp b_164), (7, pp b_166), (8, vi 2), (13, vi 3), (14, vi 2), (19, .slice A_151 ((([] : List Int) ++ ([v_146] : List Int)).length) c_152), (20, vi 1), (21, vi 1)] hs fun a hs => hKL251 _ _ ?_
          clear hKL251
          refine Vk.unroll fun KL269 hKL269 => ?_
          refine qsr fun K270 hK270 => ?_
          refine qpe 1 [(0, pp b_x0), (5, pp b_163), (6, pp b_164), (7, pp b_166), (8, vi 2), (13, vi 3), (14, vi 2), (19, .slice A_151 ((([] : List Int) ++ ([v_146] : List Int)).length) c_152), (20, vi 1), (21, vi 1), (22, .bool false)] hs fun a hs => hK270 _ _ ?_
          clear hK270
          refine Vk.seq fun K271 hK271 => ?_
          refine qcf hs ?_
          refine wp_exit ?_
          refine hK248 _ _ ?_
          clear hK248
          refine Vk.region ?_
          refine qpe 2 [(0, pp b_x0), (5, pp b_163), (6, pp b_164), (7, pp b_166), (13, vi 3), (14, vi 3)] hs fun a hs => hKL245 _ _ ?_
          clear hKL245
          refine Vk.unroll fun KL272 hKL272 => ?_
          refine qsr fun K273 hK273 => ?_
          refine qpe 1 [(0, pp b_x0), (5, pp b_163), (6, pp b_164), (7, pp b_166), (13, vi 3), (14, vi 3), (15, .bool false)] hs fun a hs => hK273 _ _ ?_
          clear hK273
          refine Vk.seq fun K274 hK274 => ?_
          refine qcf hs ?_
          refine wp_exit ?_
          refine hK167 _ _ ?_
          clear hK167
          refine qsr fun K275 hK275 => ?_
          refine Vk.step (Vk.value (some 38) (.agg (vals ((((x1.set (0) (ci v_195.1)).set (0) (ci v_213.1)).set (1) (ci v_240.1)).set (2) (ci v_267.1)))) hs (by kernel_rfl) (op := (.load 28 (.tmp 7))) (by kernel_rfl) (fun o ho => run_loadN (cs := ((((x1.set (0) (ci v_195.1)).set (0) (ci v_213.1)).set (1) (ci v_240.1)).set (2) (ci v_267.1))) ho (by kernel_rfl) (by kernel_rfl) (List.length_set.trans (List.length_set.trans (List.length_set.trans (List.length_set.trans h_11)))) (CellsAt.all 1 rfl) _ hs.own) fun a hs => ?_)
          refine Vk.step (Vk.storeA (b := b_164) (ty := 28) (x := (.tmp 6)) (y := (.tmp 38)) (sz := 3) ((((x1.set (0) (ci v_195.1)).set (0) (ci v_213.1)).set (1) (ci v_240.1)).set (2) (ci v_267.1)) 2 hs (by kernel_rfl) (by kernel_rfl) (by kernel_rfl) (by kernel_rfl) (by kernel_rfl) (List.length_set.trans (List.length_set.trans (List.length_set.trans (List.length_set.trans h_11)))) (by kernel_rfl) rfl (Eq.trans (b := 3) (List.length_set.trans (List.length_set.trans (List.length_set.trans (List.length_set.trans h_11)))) (Eq.symm rfl)) fun a w hs => ?_)
          refine qpe 0 [(6, pp b_164)] hs fun a hs => hK275 _ _ ?_
          clear hK275
          refine wp_ret ?_
          refine hKP160 _ _ ?_
          refine hKR160 _ _ ?_
          refine Vk.retC (P := Try.prog) (fn := Try.f161) ((((x1.set (0) (ci v_195.1)).set (0) (ci v_213.1)).set (1) (ci v_240.1)).set (2) (ci v_267.1)) hs rfl (by kernel_rfl) (sz := 3) (by kernel_rfl) (List.length_set.trans (List.length_set.trans (List.length_set.trans (List.length_set.trans h_11)))) (CellsAt.all 2 rfl) ⟨_, _, _, rfl, hs.own, fun a hs => ?_⟩
          refine Vk.step (Vk.alloc 15 28 [ci 0, ci 0, ci 0] hs (by kernel_rfl) (by kernel_rfl) (by kernel_rfl) fun b_276 w a hs => ?_)
          refine Vk.step (Vk.storeA (b := b_276) (ty := 28) (x := (.tmp 15)) (y := (.tmp 52)) (sz := 3) ((((x1.set (0) (ci v_195.1)).set (0) (ci v_213.1)).set (1) (ci v_240.1)).set (2) (ci v_267.1)) 0 hs (by kernel_rfl) (by kernel_rfl) (by kernel_rfl) (by kernel_rfl) (by kernel_rfl) (List.length_set.trans (List.length_set.trans (List.length_set.trans (List.length_set.trans h_11)))) (by kernel_rfl) rfl (Eq.trans (b := 3) (List.length_set.trans (List.length_set.trans (List.length_set.trans (List.length_set.trans h_11)))) (Eq.symm rfl)) fun a w hs => ?_)
          refine qpe 0 [(0, pp b_x0), (8, pp b_22), (15, pp b_276)] hs fun a hs => hK159 _ _ ?_
          clear hK159
          refine qsr fun K277 hK277 => ?_
          refine qpu 1 hs fun a hs => ?_
          obtain ⟨v_280, h_279, hm⟩ := bind_t hm
          refine Vk.step (Vk.call (some 54) 94 #[pp b_x0] hs (by kernel_rfl) (by kernel_rfl) (by kernel_rfl) ?_)
          refine (wire_Machine_End.ok k v_267.2 v_280 h_279 κ w (pt b_276 (blk ((((x1.set (0) (ci v_195.1)).set (0) (ci v_213.1)).set (1) (ci v_240.1)).set (2) (ci v_267.1)) 28) :: pt b_166 (blk ((((x1.set (0) (ci v_195.1)).set (0) (ci v_213.1)).set (1) (ci v_240.1)).set (2) (ci v_267.1)) 28) :: pt b_164 (blk ((((x1.set (0) (ci v_195.1)).set (0) (ci v_213.1)).set (1) (ci v_240.1)).set (2) (ci v_267.1)) 28) :: pt b_163 (blk ([C.slc A_89 (((([] : List Int) ++ ([v_63] : List Int)) ++ ([v_85] : List Int)).length) c_90, C.slc A_120 ((([] : List Int) ++ ([v_115] : List Int)).length) c_121, C.slc A_151 ((([] : List Int) ++ ([v_146] : List Int)).length) c_152]) 160) :: pt b_162 (blk x1 28) :: rowp A_151 c_152 3 1 (eI .i64) (([] : List Int) ++ ([v_146] : List Int)) :: rowp A_147 1 3 1 (eI .i64) ([v_146] : List Int) :: rowp A_120 c_121 3 1 (eI .i64) (([] : List Int) ++ ([v_115] : List Int)) :: rowp A_116 1 3 1 (eI .i64) ([v_115] : List Int) :: rowp A_86 1 3 1 (eI .i64) ([v_85] : List Int) :: rowp A_89 c_90 3 1 (eI .i64) ((([] : List Int) ++ ([v_63] : List Int)) ++ ([v_85] : List Int)) :: rowp A_64 1 3 1 (eI .i64) ([v_63] : List Int) :: pt b_39 (blk ([C.slc A_89 (((([] : List Int) ++ ([v_63] : List Int)) ++ ([v_85] : List Int)).length) c_90, C.slc A_120 ((([] : List Int) ++ ([v_115] : List Int)).length) c_121, C.slc A_151 ((([] : List Int) ++ ([v_146] : List Int)).length) c_152]) 160) :: pt b_36 (blk v_35.1 26) :: pt b_22 (blk [ci 0, ci 0, ci 0] 28) :: pt b_21 (blk ([C.slc A_12 (([0, 1] : List Int).length) 2, C.slc A_14 (([0] : List Int).length) 1, C.slc A_16 (([1] : List Int).length) 1]) 160) :: pt b_20 (blk x1 28) :: rowp A_16 1 3 1 (eI .i64) ([1] : List Int) :: rowp A_14 1 3 1 (eI .i64) ([0] : List Int) :: rowp A_12 2 3 1 (eI .i64) ([0, 1] : List Int) :: pt b_3 (blk [ci 0, ci 0, ci 0] 28) :: pt b_2 (blk x1 28) :: S) b_x0 (Own.to hs.own [1, 0, 2, 3, 4, 5, 6, 7, 8, 9, 10, 11, 12, 13, 14, 15, 16, 17, 18, 19, 20, 21, 22] 23 (by kernel_rfl) (by kernel_rfl))).mono ?_
          rintro _ w ⟨rfl, how⟩
          refine ⟨_, _, _, rfl, how, fun a hs => ?_⟩
          refine qpe 0 [(8, pp b_22), (15, pp b_276)] hs fun a hs => hK277 _ _ ?_
          clear hK277
          refine qsr fun K281 hK281 => ?_
          refine Vk.step (Vk.value (some 55) (.agg (vals ((((x1.set (0) (ci v_195.1)).set (0) (ci v_213.1)).set (1) (ci v_240.1)).set (2) (ci v_267.1)))) hs (by kernel_rfl) (op := (.load 28 (.tmp 15))) (by kernel_rfl) (fun o ho => run_loadN (cs := ((((x1.set (0) (ci v_195.1)).set (0) (ci v_213.1)).set (1) (ci v_240.1)).set (2) (ci v_267.1))) ho (by kernel_rfl) (by kernel_rfl) (List.length_set.trans (List.length_set.trans (List.length_set.trans (List.length_set.trans h_11)))) (CellsAt.all 1 rfl) _ hs.own) fun a hs => ?_)
          refine Vk.step (Vk.storeA (b := b_22) (ty := 28) (x := (.tmp 8)) (y := (.tmp 55)) (sz := 3) ((((x1.set (0) (ci v_195.1)).set (0) (ci v_213.1)).set (1) (ci v_240.1)).set (2) (ci v_267.1)) 15 hs (by kernel_rfl) (by kernel_rfl) (by kernel_rfl) (by kernel_rfl) (by kernel_rfl) (List.length_set.trans (List.length_set.trans (List.length_set.trans (List.length_set.trans h_11)))) (by kernel_rfl) rfl (Eq.trans (b := 3) (List.length_set.trans (List.length_set.trans (List.length_set.trans (List.length_set.trans h_11)))) (Eq.symm rfl)) fun a w hs => ?_)
          refine qpe 0 [(8, pp b_22)] hs fun a hs => hK281 _ _ ?_
          clear hK281
          refine wp_ret ?_
          refine hKP18 _ _ ?_
          refine hKR18 _ _ ?_
          refine Vk.retC (P := Try.prog) (fn := Try.f125) ((((x1.set (0) (ci v_195.1)).set (0) (ci v_213.1)).set (1) (ci v_240.1)).set (2) (ci v_267.1)) hs rfl (by kernel_rfl) (sz := 3) (by kernel_rfl) (List.length_set.trans (List.length_set.trans (List.length_set.trans (List.length_set.trans h_11)))) (CellsAt.all 15 rfl) ⟨_, _, _, rfl, hs.own, fun a hs => ?_⟩
          refine Vk.step (Vk.storeA (b := b_3) (ty := 28) (x := (.tmp 4)) (y := (.tmp 14)) (sz := 3) ((((x1.set (0) (ci v_195.1)).set (0) (ci v_213.1)).set (1) (ci v_240.1)).set (2) (ci v_267.1)) 21 hs (by kernel_rfl) (by kernel_rfl) (by kernel_rfl) (by kernel_rfl) (by kernel_rfl) (List.length_set.trans (List.length_set.trans (List.length_set.trans (List.length_set.trans h_11)))) (by kernel_rfl) rfl (Eq.trans (b := 3) (List.length_set.trans (List.length_set.trans (List.length_set.trans (List.length_set.trans h_11)))) (Eq.symm rfl)) fun a w hs => ?_)
          refine qpe 0 [(4, pp b_3)] hs fun a hs => hK10 _ _ ?_
          clear hK10
          refine wp_ret ?_
          exact Vk.retC (P := Try.prog) (fn := Try.f47) (R := RR) ((((x1.set (0) (ci v_195.1)).set (0) (ci v_213.1)).set (1) (ci v_240.1)).set (2) (ci v_267.1)) hs rfl (by kernel_rfl) (sz := 3) (by kernel_rfl) (List.length_set.trans (List.length_set.trans (List.length_set.trans (List.length_set.trans h_11)))) (CellsAt.all 21 rfl) (by obtain rfl := Option.some.inj hm; subst hRR; exact ⟨rfl, (Own.to hs.own [0] 23 (by kernel_rfl) (by kernel_rfl))⟩)
        · replace hm := bif_f hm hb
          cases hm
      · replace hm := bif_f hm hb
        cases hm
    · replace hm := bif_f hm hb
      cases hm


def visorref21_Full.j3 (k : Nat) (p_119 : Tvisorref19_M) (p_120 : Cells) : Option ((Cells × Tvisorref19_M)) := (visorref19_M_End.m k p_119).bind fun v_124 => (if p_120.length = 3 then some (p_120, v_124) else none)
def visorref21_Full.j2 (k : Nat) (x1 : Cells) (v_20 : Int × Tvisorref19_M) (p_43 : Int) (p_44 : Int) (p_71 : Tvisorref19_M) (p_72 : Cells) : Option ((Cells × Tvisorref19_M)) := (getI .i64 x1 (1)).bind fun v_75 => (visorref19_Op.m k 5 1 v_75 v_20.1 0).bind fun v_78 => (visorref19_M_Do.m k p_71 v_78 0).bind fun v_81 => (if 1 < p_72.length then (bif v_81.2.n == 3 then (getI .i64 (p_72.set (1) (ci v_81.1)) (1)).bind fun v_92 => (visorref19_Op.m k 5 1 v_92 p_44 0).bind fun v_95 => (visorref19_M_Do.m k v_81.2 v_95 0).bind fun v_98 => (if 1 < (p_72.set (1) (ci v_81.1)).length then (getI .i64 x1 (2)).bind fun v_102 => (visorref19_Op.m k 5 2 v_102 p_43 0).bind fun v_105 => (visorref19_M_Do.m k v_98.2 v_105 0).bind fun v_108 => (if 2 < ((p_72.set (1) (ci v_81.1)).set (1) (ci v_98.1)).length then (getI .i64 (((p_72.set (1) (ci v_81.1)).set (1) (ci v_98.1)).set (2) (ci v_108.1)) (2)).bind fun v_111 => (visorref19_Op.m k 5 2 v_111 p_44 0).bind fun v_114 => (visorref19_M_Do.m k v_108.2 v_114 0).bind fun v_117 => (if 2 < (((p_72.set (1) (ci v_81.1)).set (1) (ci v_98.1)).set (2) (ci v_108.1)).length then visorref21_Full.j3 k v_117.2 ((((p_72.set (1) (ci v_81.1)).set (1) (ci v_98.1)).set (2) (ci v_108.1)).set (2) (ci v_117.1)) else none) else none) else none) else visorref21_Full.j3 k v_81.2 (p_72.set (1) (ci v_81.1))) else none)
def visorref21_Full.j1 (k : Nat) (x1 : Cells) (v_7 : Cells) (v_20 : Int × Tvisorref19_M) (p_42 : Tvisorref19_M) (p_43 : Int) (p_44 : Int) : Option ((Cells × Tvisorref19_M)) := (getI .i64 x1 (0)).bind fun v_47 => (visorref19_Op.m k 5 0 v_47 v_20.1 0).bind fun v_50 => (visorref19_M_Do.m k p_42 v_50 0).bind fun v_53 => (if 0 < v_7.length then (bif v_53.2.n == 3 then (getI .i64 (v_7.set (0) (ci v_53.1)) (0)).bind fun v_63 => (visorref19_Op.m k 5 0 v_63 p_43 0).bind fun v_66 => (visorref19_M_Do.m k v_53.2 v_66 0).bind fun v_69 => (if 0 < (v_7.set (0) (ci v_53.1)).length then visorref21_Full.j2 k x1 v_20 p_43 p_44 v_69.2 ((v_7.set (0) (ci v_53.1)).set (0) (ci v_69.1)) else none) else visorref21_Full.j2 k x1 v_20 p_43 p_44 v_53.2 (v_7.set (0) (ci v_53.1))) else none)
abbrev visorref21_Full.R (κ : Ctx) (S : List HP) (x0 : Tvisorref19_M) (x1 : Cells) (b_x0 : Nat) (r : (Cells × Tvisorref19_M)) : Ending → World → Prop := fun e w' => e = .returned (.agg (vals r.1)) ∧ Own κ w' (Tvisorref19_M.own κ b_x0 r.2 :: S)
def visorref21_Full.m (k : Nat) (x0 : Tvisorref19_M) (x1 : Cells) : Option (Cells × Tvisorref19_M) := (visorref20_None.m k).bind fun v_7 => (if v_7.length = 3 then (visorref19_M_Begin.m k x0 2).bind fun v_13 => (visorref19_Op.m k 1 (-1) (-1) (-1) 0).bind fun v_17 => (visorref19_M_Do.m k v_13 v_17 0).bind fun v_20 => (bif v_20.2.n == 3 then (visorref19_Op.m k 1 (-1) (-1) (-1) 0).bind fun v_32 => (visorref19_M_Do.m k v_20.2 v_32 0).bind fun v_35 => (visorref19_Op.m k 1 (-1) (-1) (-1) 0).bind fun v_38 => (visorref19_M_Do.m k v_35.2 v_38 0).bind fun v_41 => visorref21_Full.j1 k x1 v_7 v_20 v_41.2 v_35.1 v_41.1 else visorref21_Full.j1 k x1 v_7 v_20 v_20.2 v_20.1 v_20.1) else none)

set_option maxRecDepth 100000 in
set_option maxHeartbeats 4000000 in
theorem visorref21_Full.ok (k : Nat) (x0 : Tvisorref19_M) (x1 : Cells) (r : (Cells × Tvisorref19_M)) (hm : visorref21_Full.m k x0 x1 = some r) (κ : Ctx) (w : World) (S : List HP) (b_x0 : Nat) (ho : Own κ w (Tvisorref19_M.own κ b_x0 x0 :: S)) :
    Calls Try.prog 50 #[pp b_x0, .agg (vals x1)] w (visorref21_Full.R κ S x0 x1 b_x0 r) := by
  unfold visorref21_Full.m at hm
  generalize hRR : visorref21_Full.R κ S x0 x1 b_x0 r = RR
  refine qen [(0, pp b_x0), (1, .agg (vals x1))] Try.func50 Try.ntmps50 ho fun a hs => ?_
  refine qsr fun K1 hK1 => ?_
  refine Vk.step (Vk.box (x := (.tmp 1)) 3 28 x1 hs (by kernel_rfl) (by kernel_rfl) (by kernel_rfl) fun b_2 w a hs => ?_)
  refine Vk.step (Vk.alloc 4 28 [ci 0, ci 0, ci 0] hs (by kernel_rfl) (by kernel_rfl) (by kernel_rfl) fun b_3 w a hs => ?_)
  refine qpe 0 [(0, pp b_x0), (3, pp b_2), (4, pp b_3)] hs fun a hs => hK1 _ _ ?_
  clear hK1
  refine qsr fun K4 hK4 => ?_
  obtain ⟨v_7, h_6, hm⟩ := bind_t hm
  refine Vk.step (Vk.call (some 9) 83 #[] hs (by kernel_rfl) (by kernel_rfl) (by kernel_rfl) ?_)
  refine (visorref20_None.ok k v_7 h_6 κ w (pt b_3 (blk [ci 0, ci 0, ci 0] 28) :: pt b_2 (blk x1 28) :: Tvisorref19_M.own κ b_x0 x0 :: S) hs.own).mono ?_
  rintro _ w ⟨rfl, how⟩
  refine ⟨_, _, _, rfl, how, fun a hs => ?_⟩
  refine Vk.step (Vk.alloc 5 28 [ci 0, ci 0, ci 0] hs (by kernel_rfl) (by kernel_rfl) (by kernel_rfl) fun b_8 w a hs => ?_)
  obtain ⟨h_9, hm⟩ := ite_t hm
  refine Vk.step (Vk.storeA (b := b_8) (ty := 28) (x := (.tmp 5)) (y := (.tmp 9)) (sz := 3) v_7 0 hs (by kernel_rfl) (by kernel_rfl) (by kernel_rfl) (by kernel_rfl) (by kernel_rfl) h_9 (by kernel_rfl) rfl (Eq.trans (b := 3) h_9 (Eq.symm rfl)) fun a w hs => ?_)
  refine qpe 0 [(0, pp b_x0), (3, pp b_2), (4, pp b_3), (5, pp b_8)] hs fun a hs => hK4 _ _ ?_
  clear hK4
  refine qsr fun K10 hK10 => ?_
  refine qpu 1 hs fun a hs => ?_
  obtain ⟨v_13, h_12, hm⟩ := bind_t hm
  refine Vk.step (Vk.call (some 11) 122 #[pp b_x0, vi 2] hs (by kernel_rfl) (by kernel_rfl) (by kernel_rfl) ?_)
  refine (visorref19_M_Begin.ok k x0 2 v_13 h_12 κ w (pt b_8 (blk v_7 28) :: pt b_3 (blk [ci 0, ci 0, ci 0] 28) :: pt b_2 (blk x1 28) :: S) b_x0 (Own.to hs.own [3, 0, 1, 2] 4 (by kernel_rfl) (by kernel_rfl))).mono ?_
  rintro _ w ⟨rfl, how⟩
  refine ⟨_, _, _, rfl, how, fun a hs => ?_⟩
  refine qpe 0 [(0, pp b_x0), (3, pp b_2), (4, pp b_3), (5, pp b_8)] hs fun a hs => hK10 _ _ ?_
  clear hK10
  refine qsr fun K14 hK14 => ?_
  refine qpu 1 hs fun a hs => ?_
  obtain ⟨v_17, h_16, hm⟩ := bind_t hm
  refine Vk.step (Vk.call (some 13) 123 #[vi 1, vi (-1), vi (-1), vi (-1), vw 0] hs (by kernel_rfl) (by kernel_rfl) (by kernel_rfl) ?_)
  refine (visorref19_Op.ok k 1 (-1) (-1) (-1) 0 v_17 h_16 κ w (Tvisorref19_M.own κ b_x0 v_13 :: pt b_8 (blk v_7 28) :: pt b_3 (blk [ci 0, ci 0, ci 0] 28) :: pt b_2 (blk x1 28) :: S) hs.own).mono ?_
  rintro _ w ⟨rfl, how⟩
  refine ⟨_, _, _, rfl, how, fun a hs => ?_⟩
  obtain ⟨v_20, h_19, hm⟩ := bind_t hm
  refine Vk.step (Vk.call (some 14) 55 #[pp b_x0, .agg (vals [ci v_17.kind, ci v_17.dom, ci v_17.a, ci v_17.b, ci v_17.d, cw v_17.c]), vw 0] hs (by kernel_rfl) (by kernel_rfl) (by kernel_rfl) ?_)
  refine (visorref19_M_Do.ok k v_13 v_17 0 v_20 h_19 κ w (pt b_8 (blk v_7 28) :: pt b_3 (blk [ci 0, ci 0, ci 0] 28) :: pt b_2 (blk x1 28) :: S) b_x0 (Own.to hs.own [0, 1, 2, 3] 4 (by kernel_rfl) (by kernel_rfl))).mono ?_
  rintro _ w ⟨rfl, how⟩
  refine ⟨_, _, _, rfl, how, fun a hs => ?_⟩
  refine qpe 1 [(0, pp b_x0), (3, pp b_2), (4, pp b_3), (5, pp b_8), (6, vi v_20.1)] hs fun a hs => hK14 _ _ ?_
  clear hK14
  refine qsr fun K21 hK21 => ?_
  refine qpe 4 [(0, pp b_x0), (3, pp b_2), (4, pp b_3), (5, pp b_8), (6, vi v_20.1), (7, vi v_20.1), (8, vi v_20.1)] hs fun a hs => hK21 _ _ ?_
  clear hK21
  refine Vk.seq fun K22 hK22 => ?_
  have hj22 : ∀ (p_42 : Tvisorref19_M) (p_43 : Int) (p_44 : Int), visorref21_Full.j1 k x1 v_7 v_20 p_42 p_43 p_44 = some r → ∀ (a : Act) (w : World), St 95 a w κ [(0, pp b_x0), (3, pp b_2), (4, pp b_3), (5, pp b_8), (6, vi v_20.1), (7, vi p_43), (8, vi p_44)] (Tvisorref19_M.own κ b_x0 p_42 :: pt b_2 (blk x1 28) :: pt b_3 (blk [ci 0, ci 0, ci 0] 28) :: pt b_8 (blk v_7 28) :: S) → K22 a w := by
    intro p_42 p_43 p_44 hm a w hs
    unfold visorref21_Full.j1 at hm
    refine hK22 _ _ ?_
    refine qsr fun K45 hK45 => ?_
    refine qpu 3 hs fun a hs => ?_
    obtain ⟨v_47, h_46, hm⟩ := bind_t hm
    refine Vk.step (Vk.value (some 31) (vi v_47) hs (by kernel_rfl) (op := (.load 3 (.tmp 30))) (by kernel_rfl) (fun o ho => run_load1 (c := ci v_47) ho (by kernel_rfl) (by kernel_rfl) (Cell.own 1 rfl (getI_some h_46)) _ hs.own) fun a hs => ?_)
    refine qpu 1 hs fun a hs => ?_
    obtain ⟨v_50, h_49, hm⟩ := bind_t hm
    refine Vk.step (Vk.call (some 33) 123 #[vi 5, vi 0, vi v_47, vi v_20.1, vw 0] hs (by kernel_rfl) (by kernel_rfl) (by kernel_rfl) ?_)
    refine (visorref19_Op.ok k 5 0 v_47 v_20.1 0 v_50 h_49 κ w (Tvisorref19_M.own κ b_x0 p_42 :: pt b_2 (blk x1 28) :: pt b_3 (blk [ci 0, ci 0, ci 0] 28) :: pt b_8 (blk v_7 28) :: S) hs.own).mono ?_
    rintro _ w ⟨rfl, how⟩
    refine ⟨_, _, _, rfl, how, fun a hs => ?_⟩
    obtain ⟨v_53, h_52, hm⟩ := bind_t hm
    refine Vk.step (Vk.call (some 34) 55 #[pp b_x0, .agg (vals [ci v_50.kind, ci v_50.dom, ci v_50.a, ci v_50.b, ci v_50.d, cw v_50.c]), vw 0] hs (by kernel_rfl) (by kernel_rfl) (by kernel_rfl) ?_)
    refine (visorref19_M_Do.ok k p_42 v_50 0 v_53 h_52 κ w (pt b_2 (blk x1 28) :: pt b_3 (blk [ci 0, ci 0, ci 0] 28) :: pt b_8 (blk v_7 28) :: S) b_x0 (Own.to hs.own [0, 1, 2, 3] 4 (by kernel_rfl) (by kernel_rfl))).mono ?_
    rintro _ w ⟨rfl, how⟩
    refine ⟨_, _, _, rfl, how, fun a hs => ?_⟩
    refine qpu 2 hs fun a hs => ?_
    obtain ⟨h_54, hm⟩ := ite_t hm
    refine Vk.step (Vk.store1 (b := b_8) (ty := 3) (x := (.tmp 36)) (y := (.tmp 34)) (off := 0) (ci v_53.1) 3 hs (by kernel_rfl) (by kernel_rfl) (by kernel_rfl) (by kernel_rfl) (by kernel_rfl) (by kernel_rfl) rfl h_54 fun a w hs => ?_)
    refine qpe 0 [(0, pp b_x0), (3, pp b_2), (4, pp b_3), (5, pp b_8), (6, vi v_20.1), (7, vi p_43), (8, vi p_44)] hs fun a hs => hK45 _ _ ?_
    clear hK45
    refine Vk.seq fun K55 hK55 => ?_
    have hj55 : ∀ (p_71 : Tvisorref19_M) (p_72 : Cells), visorref21_Full.j2 k x1 v_20 p_43 p_44 p_71 p_72 = some r → ∀ (a : Act) (w : World), St 95 a w κ [(0, pp b_x0), (3, pp b_2), (4, pp b_3), (5, pp b_8), (6, vi v_20.1), (7, vi p_43), (8, vi p_44)] (Tvisorref19_M.own κ b_x0 p_71 :: pt b_2 (blk x1 28) :: pt b_3 (blk [ci 0, ci 0, ci 0] 28) :: pt b_8 (blk p_72 28) :: S) → K55 a w := by
      intro p_71 p_72 hm a w hs
      unfold visorref21_Full.j2 at hm
      refine hK55 _ _ ?_
      refine qsr fun K73 hK73 => ?_
      refine qpu 3 hs fun a hs => ?_
      obtain ⟨v_75, h_74, hm⟩ := bind_t hm
      refine Vk.step (Vk.value (some 54) (vi v_75) hs (by kernel_rfl) (op := (.load 3 (.tmp 53))) (by kernel_rfl) (fun o ho => run_load1 (c := ci v_75) ho (by kernel_rfl) (by kernel_rfl) (Cell.own 1 rfl (getI_some h_74)) _ hs.own) fun a hs => ?_)
      refine qpu 1 hs fun a hs => ?_
      obtain ⟨v_78, h_77, hm⟩ := bind_t hm
      refine Vk.step (Vk.call (some 56) 123 #[vi 5, vi 1, vi v_75, vi v_20.1, vw 0] hs (by kernel_rfl) (by kernel_rfl) (by kernel_rfl) ?_)
      refine (visorref19_Op.ok k 5 1 v_75 v_20.1 0 v_78 h_77 κ w (Tvisorref19_M.own κ b_x0 p_71 :: pt b_2 (blk x1 28) :: pt b_3 (blk [ci 0, ci 0, ci 0] 28) :: pt b_8 (blk p_72 28) :: S) hs.own).mono ?_
      rintro _ w ⟨rfl, how⟩
      refine ⟨_, _, _, rfl, how, fun a hs => ?_⟩
      obtain ⟨v_81, h_80, hm⟩ := bind_t hm
      refine Vk.step (Vk.call (some 57) 55 #[pp b_x0, .agg (vals [ci v_78.kind, ci v_78.dom, ci v_78.a, ci v_78.b, ci v_78.d, cw v_78.c]), vw 0] hs (by kernel_rfl) (by kernel_rfl) (by kernel_rfl) ?_)
      refine (visorref19_M_Do.ok k p_71 v_78 0 v_81 h_80 κ w (pt b_2 (blk x1 28) :: pt b_3 (blk [ci 0, ci 0, ci 0] 28) :: pt b_8 (blk p_72 28) :: S) b_x0 (Own.to hs.own [0, 1, 2, 3] 4 (by kernel_rfl) (by kernel_rfl))).mono ?_
      rintro _ w ⟨rfl, how⟩
      refine ⟨_, _, _, rfl, how, fun a hs => ?_⟩
      refine qpu 2 hs fun a hs => ?_
      obtain ⟨h_82, hm⟩ := ite_t hm
      refine Vk.step (Vk.store1 (b := b_8) (ty := 3) (x := (.tmp 59)) (y := (.tmp 57)) (off := 1) (ci v_81.1) 3 hs (by kernel_rfl) (by kernel_rfl) (by kernel_rfl) (by kernel_rfl) (by kernel_rfl) (by kernel_rfl) rfl h_82 fun a w hs => ?_)
      refine qpe 0 [(0, pp b_x0), (3, pp b_2), (4, pp b_3), (5, pp b_8), (7, vi p_43), (8, vi p_44)] hs fun a hs => hK73 _ _ ?_
      clear hK73
      refine Vk.seq fun K83 hK83 => ?_
      have hj83 : ∀ (p_119 : Tvisorref19_M) (p_120 : Cells), visorref21_Full.j3 k p_119 p_120 = some r → ∀ (a : Act) (w : World), St 95 a w κ [(0, pp b_x0), (4, pp b_3), (5, pp b_8)] (Tvisorref19_M.own κ b_x0 p_119 :: pt b_3 (blk [ci 0, ci 0, ci 0] 28) :: pt b_8 (blk p_120 28) :: S) → K83 a w := by
        intro p_119 p_120 hm a w hs
        unfold visorref21_Full.j3 at hm
        refine hK83 _ _ ?_
        refine qsr fun K121 hK121 => ?_
        refine qpu 1 hs fun a hs => ?_
        obtain ⟨v_124, h_123, hm⟩ := bind_t hm
        refine Vk.step (Vk.call (some 93) 124 #[pp b_x0] hs (by kernel_rfl) (by kernel_rfl) (by kernel_rfl) ?_)
        refine (visorref19_M_End.ok k p_119 v_124 h_123 κ w (pt b_3 (blk [ci 0, ci 0, ci 0] 28) :: pt b_8 (blk p_120 28) :: S) b_x0 (Own.to hs.own [0, 1, 2] 3 (by kernel_rfl) (by kernel_rfl))).mono ?_
        rintro _ w ⟨rfl, how⟩
        refine ⟨_, _, _, rfl, how, fun a hs => ?_⟩
        refine qpe 0 [(4, pp b_3), (5, pp b_8)] hs fun a hs => hK121 _ _ ?_
        clear hK121
        refine qsr fun K125 hK125 => ?_
        obtain ⟨h_126, hm⟩ := ite_t hm
        refine Vk.step (Vk.value (some 94) (.agg (vals p_120)) hs (by kernel_rfl) (op := (.load 28 (.tmp 5))) (by kernel_rfl) (fun o ho => run_loadN (cs := p_120) ho (by kernel_rfl) (by kernel_rfl) h_126 (CellsAt.all 2 rfl) _ hs.own) fun a hs => ?_)
        refine Vk.step (Vk.storeA (b := b_3) (ty := 28) (x := (.tmp 4)) (y := (.tmp 94)) (sz := 3) p_120 1 hs (by kernel_rfl) (by kernel_rfl) (by kernel_rfl) (by kernel_rfl) (by kernel_rfl) h_126 (by kernel_rfl) rfl (Eq.trans (b := 3) h_126 (Eq.symm rfl)) fun a w hs => ?_)
        refine qpe 0 [(4, pp b_3)] hs fun a hs => hK125 _ _ ?_
        clear hK125
        refine wp_ret ?_
        exact Vk.retC (P := Try.prog) (fn := Try.f50) (R := RR) p_120 hs rfl (by kernel_rfl) (sz := 3) (by kernel_rfl) h_126 (CellsAt.all 1 rfl) (by obtain rfl := Option.some.inj hm; subst hRR; exact ⟨rfl, (Own.to hs.own [0] 3 (by kernel_rfl) (by kernel_rfl))⟩)
      refine qsr fun K84 hK84 => ?_
      refine qpu 3 hs fun a hs => ?_
      obtain ⟨g_85, hs⟩ := hs.unbag 0 rfl
      refine qld 0 (ci v_81.2.n) hs rfl fun a hs => ?_
      refine qpe 1 [(0, pp b_x0), (3, pp b_2), (4, pp b_3), (5, pp b_8), (7, vi p_43), (8, vi p_44), (64, .bool (v_81.2.n == 3))] hs fun a hs => hK84 _ _ ?_
      clear hK84
      refine qcs (v_81.2.n == 3) hs (fun hb => ?_) fun hb => ?_
      · replace hm := bif_t hm hb
        refine qsr fun K90 hK90 => ?_
        refine qpu 3 hs fun a hs => ?_
        obtain ⟨v_92, h_91, hm⟩ := bind_t hm
        refine Vk.step (Vk.value (some 68) (vi v_92) hs (by kernel_rfl) (op := (.load 3 (.tmp 67))) (by kernel_rfl) (fun o ho => run_load1 (c := ci v_92) ho (by kernel_rfl) (by kernel_rfl) (Cell.own 7 rfl (getI_some h_91)) _ hs.own) fun a hs => ?_)
        refine qpu 1 hs fun a hs => ?_
        obtain ⟨v_95, h_94, hm⟩ := bind_t hm
        refine Vk.step (Vk.call (some 70) 123 #[vi 5, vi 1, vi v_92, vi p_44, vw 0] hs (by kernel_rfl) (by kernel_rfl) (by kernel_rfl) ?_)
        refine (visorref19_Op.ok k 5 1 v_92 p_44 0 v_95 h_94 κ w (pt b_x0 (blk (Tvisorref19_M.obj v_81.2 g_85.1 g_85.2.1 g_85.2.2.1 g_85.2.2.2.1 g_85.2.2.2.2.1 g_85.2.2.2.2.2.1 g_85.2.2.2.2.2.2.1 g_85.2.2.2.2.2.2.2) 64) :: rowp g_85.1 g_85.2.1 93 6 Tapi_Op.cells v_81.2.ops :: rowp g_85.2.2.1 g_85.2.2.2.1 175 3 Tapi_Span.cells v_81.2.blocks :: rowp g_85.2.2.2.2.1 g_85.2.2.2.2.2.1 32 1 (eI .u64) v_81.2.val :: rdp κ g_85.2.2.2.2.2.2.1 g_85.2.2.2.2.2.2.2 1 (eI .u64) v_81.2.tape.l :: pt b_2 (blk x1 28) :: pt b_3 (blk [ci 0, ci 0, ci 0] 28) :: pt b_8 (blk (p_72.set (1) (ci v_81.1)) 28) :: S) hs.own).mono ?_
        rintro _ w ⟨rfl, how⟩
        refine ⟨_, _, _, rfl, how, fun a hs => ?_⟩
        replace hs := hs.bagG (l := Tvisorref19_M.parts κ b_x0 v_81.2 g_85) (S' := pt b_2 (blk x1 28) :: pt b_3 (blk [ci 0, ci 0, ci 0] 28) :: pt b_8 (blk (p_72.set (1) (ci v_81.1)) 28) :: S) (Own.to hs.own [0, 1, 2, 3, 4, 5, 6, 7] 8 (by kernel_rfl) (by kernel_rfl))
        replace hs := hs.toEx (Tvisorref19_M.parts κ b_x0 v_81.2) g_85 0 rfl
        obtain ⟨v_98, h_97, hm⟩ := bind_t hm
        refine Vk.step (Vk.call (some 71) 55 #[pp b_x0, .agg (vals [ci v_95.kind, ci v_95.dom, ci v_95.a, ci v_95.b, ci v_95.d, cw v_95.c]), vw 0] hs (by kernel_rfl) (by kernel_rfl) (by kernel_rfl) ?_)
        refine (visorref19_M_Do.ok k v_81.2 v_95 0 v_98 h_97 κ w (pt b_2 (blk x1 28) :: pt b_3 (blk [ci 0, ci 0, ci 0] 28) :: pt b_8 (blk (p_72.set (1) (ci v_81.1)) 28) :: S) b_x0 (Own.to hs.own [0, 1, 2, 3] 4 (by kernel_rfl) (by kernel_rfl))).mono ?_
        rintro _ w ⟨rfl, how⟩
        refine ⟨_, _, _, rfl, how, fun a hs => ?_⟩
        refine qpu 2 hs fun a hs => ?_
        obtain ⟨h_99, hm⟩ := ite_t hm
        refine Vk.step (Vk.store1 (b := b_8) (ty := 3) (x := (.tmp 73)) (y := (.tmp 71)) (off := 1) (ci v_98.1) 3 hs (by kernel_rfl) (by kernel_rfl) (by kernel_rfl) (by kernel_rfl) (by kernel_rfl) (by kernel_rfl) rfl h_99 fun a w hs => ?_)
        refine qpe 0 [(0, pp b_x0), (3, pp b_2), (4, pp b_3), (5, pp b_8), (7, vi p_43), (8, vi p_44)] hs fun a hs => hK90 _ _ ?_
        clear hK90
        refine qsr fun K100 hK100 => ?_
        refine qpu 3 hs fun a hs => ?_
        obtain ⟨v_102, h_101, hm⟩ := bind_t hm
        refine Vk.step (Vk.value (some 77) (vi v_102) hs (by kernel_rfl) (op := (.load 3 (.tmp 76))) (by kernel_rfl) (fun o ho => run_load1 (c := ci v_102) ho (by kernel_rfl) (by kernel_rfl) (Cell.own 1 rfl (getI_some h_101)) _ hs.own) fun a hs => ?_)
        refine qpu 1 hs fun a hs => ?_
        obtain ⟨v_105, h_104, hm⟩ := bind_t hm
        refine Vk.step (Vk.call (some 79) 123 #[vi 5, vi 2, vi v_102, vi p_43, vw 0] hs (by kernel_rfl) (by kernel_rfl) (by kernel_rfl) ?_)
        refine (visorref19_Op.ok k 5 2 v_102 p_43 0 v_105 h_104 κ w (Tvisorref19_M.own κ b_x0 v_98.2 :: pt b_2 (blk x1 28) :: pt b_3 (blk [ci 0, ci 0, ci 0] 28) :: pt b_8 (blk ((p_72.set (1) (ci v_81.1)).set (1) (ci v_98.1)) 28) :: S) hs.own).mono ?_
        rintro _ w ⟨rfl, how⟩
        refine ⟨_, _, _, rfl, how, fun a hs => ?_⟩
        obtain ⟨v_108, h_107, hm⟩ := bind_t hm
        refine Vk.step (Vk.call (some 80) 55 #[pp b_x0, .agg (vals [ci v_105.kind, ci v_105.dom, ci v_105.a, ci v_105.b, ci v_105.d, cw v_105.c]), vw 0] hs (by kernel_rfl) (by kernel_rfl) (by kernel_rfl) ?_)
        refine (visorref19_M_Do.ok k v_98.2 v_105 0 v_108 h_107 κ w (pt b_2 (blk x1 28) :: pt b_3 (blk [ci 0, ci 0, ci 0] 28) :: pt b_8 (blk ((p_72.set (1) (ci v_81.1)).set (1) (ci v_98.1)) 28) :: S) b_x0 (Own.to hs.own [0, 1, 2, 3] 4 (by kernel_rfl) (by kernel_rfl))).mono ?_
        rintro _ w ⟨rfl, how⟩
        refine ⟨_, _, _, rfl, how, fun a hs => ?_⟩
        refine qpu 2 hs fun a hs => ?_
        obtain ⟨h_109, hm⟩ := ite_t hm
        refine Vk.step (Vk.store1 (b := b_8) (ty := 3) (x := (.tmp 82)) (y := (.tmp 80)) (off := 2) (ci v_108.1) 3 hs (by kernel_rfl) (by kernel_rfl) (by kernel_rfl) (by kernel_rfl) (by kernel_rfl) (by kernel_rfl) rfl h_109 fun a w hs => ?_)
        refine qpe 0 [(0, pp b_x0), (4, pp b_3), (5, pp b_8), (8, vi p_44)] hs fun a hs => hK100 _ _ ?_
        clear hK100
        refine Vk.region ?_
        refine qpu 3 hs fun a hs => ?_
        obtain ⟨v_111, h_110, hm⟩ := bind_t hm
        refine Vk.step (Vk.value (some 86) (vi v_111) hs (by kernel_rfl) (op := (.load 3 (.tmp 85))) (by kernel_rfl) (fun o ho => run_load1 (c := ci v_111) ho (by kernel_rfl) (by kernel_rfl) (Cell.own 3 rfl (getI_some h_110)) _ hs.own) fun a hs => ?_)
        refine qpu 1 hs fun a hs => ?_
        obtain ⟨v_114, h_113, hm⟩ := bind_t hm
        refine Vk.step (Vk.call (some 88) 123 #[vi 5, vi 2, vi v_111, vi p_44, vw 0] hs (by kernel_rfl) (by kernel_rfl) (by kernel_rfl) ?_)
        refine (visorref19_Op.ok k 5 2 v_111 p_44 0 v_114 h_113 κ w (Tvisorref19_M.own κ b_x0 v_108.2 :: pt b_2 (blk x1 28) :: pt b_3 (blk [ci 0, ci 0, ci 0] 28) :: pt b_8 (blk (((p_72.set (1) (ci v_81.1)).set (1) (ci v_98.1)).set (2) (ci v_108.1)) 28) :: S) hs.own).mono ?_
        rintro _ w ⟨rfl, how⟩
        refine ⟨_, _, _, rfl, how, fun a hs => ?_⟩
        obtain ⟨v_117, h_116, hm⟩ := bind_t hm
        refine Vk.step (Vk.call (some 89) 55 #[pp b_x0, .agg (vals [ci v_114.kind, ci v_114.dom, ci v_114.a, ci v_114.b, ci v_114.d, cw v_114.c]), vw 0] hs (by kernel_rfl) (by kernel_rfl) (by kernel_rfl) ?_)
        refine (visorref19_M_Do.ok k v_108.2 v_114 0 v_117 h_116 κ w (pt b_2 (blk x1 28) :: pt b_3 (blk [ci 0, ci 0, ci 0] 28) :: pt b_8 (blk (((p_72.set (1) (ci v_81.1)).set (1) (ci v_98.1)).set (2) (ci v_108.1)) 28) :: S) b_x0 (Own.to hs.own [0, 1, 2, 3] 4 (by kernel_rfl) (by kernel_rfl))).mono ?_
        rintro _ w ⟨rfl, how⟩
        refine ⟨_, _, _, rfl, how, fun a hs => ?_⟩
        refine qpu 2 hs fun a hs => ?_
        obtain ⟨h_118, hm⟩ := ite_t hm
        refine Vk.step (Vk.store1 (b := b_8) (ty := 3) (x := (.tmp 91)) (y := (.tmp 89)) (off := 2) (ci v_117.1) 3 hs (by kernel_rfl) (by kernel_rfl) (by kernel_rfl) (by kernel_rfl) (by kernel_rfl) (by kernel_rfl) rfl h_118 fun a w hs => ?_)
        refine qpe 0 [(0, pp b_x0), (4, pp b_3), (5, pp b_8)] hs fun a hs => ?_
        exact hj83 v_117.2 ((((p_72.set (1) (ci v_81.1)).set (1) (ci v_98.1)).set (2) (ci v_108.1)).set (2) (ci v_117.1)) hm _ _ (hs.go [0, 4, 5] [0, 2, 3] 4 (by kernel_rfl) (by kernel_rfl) (by kernel_rfl))
      · replace hm := bif_f hm hb
        refine wp_skip ?_
        replace hs := hs.bagG (l := Tvisorref19_M.parts κ b_x0 v_81.2 g_85) (S' := pt b_2 (blk x1 28) :: pt b_3 (blk [ci 0, ci 0, ci 0] 28) :: pt b_8 (blk (p_72.set (1) (ci v_81.1)) 28) :: S) (Own.to hs.own [0, 1, 2, 3, 4, 5, 6, 7] 8 (by kernel_rfl) (by kernel_rfl))
        replace hs := hs.toEx (Tvisorref19_M.parts κ b_x0 v_81.2) g_85 0 rfl
        exact hj83 v_81.2 (p_72.set (1) (ci v_81.1)) hm _ _ (hs.go [0, 4, 5] [0, 2, 3] 4 (by kernel_rfl) (by kernel_rfl) (by kernel_rfl))
    refine qsr fun K56 hK56 => ?_
    refine qpu 3 hs fun a hs => ?_
    obtain ⟨g_57, hs⟩ := hs.unbag 0 rfl
    refine qld 0 (ci v_53.2.n) hs rfl fun a hs => ?_
    refine qpe 1 [(0, pp b_x0), (3, pp b_2), (4, pp b_3), (5, pp b_8), (6, vi v_20.1), (7, vi p_43), (8, vi p_44), (41, .bool (v_53.2.n == 3))] hs fun a hs => hK56 _ _ ?_
    clear hK56
    refine qcs (v_53.2.n == 3) hs (fun hb => ?_) fun hb => ?_
    · replace hm := bif_t hm hb
      refine Vk.region ?_
      refine qpu 3 hs fun a hs => ?_
      obtain ⟨v_63, h_62, hm⟩ := bind_t hm
      refine Vk.step (Vk.value (some 45) (vi v_63) hs (by kernel_rfl) (op := (.load 3 (.tmp 44))) (by kernel_rfl) (fun o ho => run_load1 (c := ci v_63) ho (by kernel_rfl) (by kernel_rfl) (Cell.own 7 rfl (getI_some h_62)) _ hs.own) fun a hs => ?_)
      refine qpu 1 hs fun a hs => ?_
      obtain ⟨v_66, h_65, hm⟩ := bind_t hm
      refine Vk.step (Vk.call (some 47) 123 #[vi 5, vi 0, vi v_63, vi p_43, vw 0] hs (by kernel_rfl) (by kernel_rfl) (by kernel_rfl) ?_)
      refine (visorref19_Op.ok k 5 0 v_63 p_43 0 v_66 h_65 κ w (pt b_x0 (blk (Tvisorref19_M.obj v_53.2 g_57.1 g_57.2.1 g_57.2.2.1 g_57.2.2.2.1 g_57.2.2.2.2.1 g_57.2.2.2.2.2.1 g_57.2.2.2.2.2.2.1 g_57.2.2.2.2.2.2.2) 64) :: rowp g_57.1 g_57.2.1 93 6 Tapi_Op.cells v_53.2.ops :: rowp g_57.2.2.1 g_57.2.2.2.1 175 3 Tapi_Span.cells v_53.2.blocks :: rowp g_57.2.2.2.2.1 g_57.2.2.2.2.2.1 32 1 (eI .u64) v_53.2.val :: rdp κ g_57.2.2.2.2.2.2.1 g_57.2.2.2.2.2.2.2 1 (eI .u64) v_53.2.tape.l :: pt b_2 (blk x1 28) :: pt b_3 (blk [ci 0, ci 0, ci 0] 28) :: pt b_8 (blk (v_7.set (0) (ci v_53.1)) 28) :: S) hs.own).mono ?_
      rintro _ w ⟨rfl, how⟩
      refine ⟨_, _, _, rfl, how, fun a hs => ?_⟩
      replace hs := hs.bagG (l := Tvisorref19_M.parts κ b_x0 v_53.2 g_57) (S' := pt b_2 (blk x1 28) :: pt b_3 (blk [ci 0, ci 0, ci 0] 28) :: pt b_8 (blk (v_7.set (0) (ci v_53.1)) 28) :: S) (Own.to hs.own [0, 1, 2, 3, 4, 5, 6, 7] 8 (by kernel_rfl) (by kernel_rfl))
      replace hs := hs.toEx (Tvisorref19_M.parts κ b_x0 v_53.2) g_57 0 rfl
      obtain ⟨v_69, h_68, hm⟩ := bind_t hm
      refine Vk.step (Vk.call (some 48) 55 #[pp b_x0, .agg (vals [ci v_66.kind, ci v_66.dom, ci v_66.a, ci v_66.b, ci v_66.d, cw v_66.c]), vw 0] hs (by kernel_rfl) (by kernel_rfl) (by kernel_rfl) ?_)
      refine (visorref19_M_Do.ok k v_53.2 v_66 0 v_69 h_68 κ w (pt b_2 (blk x1 28) :: pt b_3 (blk [ci 0, ci 0, ci 0] 28) :: pt b_8 (blk (v_7.set (0) (ci v_53.1)) 28) :: S) b_x0 (Own.to hs.own [0, 1, 2, 3] 4 (by kernel_rfl) (by kernel_rfl))).mono ?_
      rintro _ w ⟨rfl, how⟩
      refine ⟨_, _, _, rfl, how, fun a hs => ?_⟩
      refine qpu 2 hs fun a hs => ?_
      obtain ⟨h_70, hm⟩ := ite_t hm
      refine Vk.step (Vk.store1 (b := b_8) (ty := 3) (x := (.tmp 50)) (y := (.tmp 48)) (off := 0) (ci v_69.1) 3 hs (by kernel_rfl) (by kernel_rfl) (by kernel_rfl) (by kernel_rfl) (by kernel_rfl) (by kernel_rfl) rfl h_70 fun a w hs => ?_)
      refine qpe 0 [(0, pp b_x0), (3, pp b_2), (4, pp b_3), (5, pp b_8), (6, vi v_20.1), (7, vi p_43), (8, vi p_44)] hs fun a hs => ?_
      exact hj55 v_69.2 ((v_7.set (0) (ci v_53.1)).set (0) (ci v_69.1)) hm _ _ (hs.go [0, 3, 4, 5, 6, 7, 8] [0, 1, 2, 3] 4 (by kernel_rfl) (by kernel_rfl) (by kernel_rfl))
    · replace hm := bif_f hm hb
      refine wp_skip ?_
      replace hs := hs.bagG (l := Tvisorref19_M.parts κ b_x0 v_53.2 g_57) (S' := pt b_2 (blk x1 28) :: pt b_3 (blk [ci 0, ci 0, ci 0] 28) :: pt b_8 (blk (v_7.set (0) (ci v_53.1)) 28) :: S) (Own.to hs.own [0, 1, 2, 3, 4, 5, 6, 7] 8 (by kernel_rfl) (by kernel_rfl))
      replace hs := hs.toEx (Tvisorref19_M.parts κ b_x0 v_53.2) g_57 0 rfl
      exact hj55 v_53.2 (v_7.set (0) (ci v_53.1)) hm _ _ (hs.go [0, 3, 4, 5, 6, 7, 8] [0, 1, 2, 3] 4 (by kernel_rfl) (by kernel_rfl) (by kernel_rfl))
  refine qsr fun K23 hK23 => ?_
  refine qpu 3 hs fun a hs => ?_
  obtain ⟨g_24, hs⟩ := hs.unbag 0 rfl
  refine qld 0 (ci v_20.2.n) hs rfl fun a hs => ?_
  refine qpe 1 [(0, pp b_x0), (3, pp b_2), (4, pp b_3), (5, pp b_8), (6, vi v_20.1), (7, vi v_20.1), (8, vi v_20.1), (21, .bool (v_20.2.n == 3))] hs fun a hs => hK23 _ _ ?_
  clear hK23
  refine qcs (v_20.2.n == 3) hs (fun hb => ?_) fun hb => ?_
  · replace hm := bif_t hm hb
    refine qsr fun K29 hK29 => ?_
    refine qpu 1 hs fun a hs => ?_
    obtain ⟨v_32, h_31, hm⟩ := bind_t hm
    refine Vk.step (Vk.call (some 23) 123 #[vi 1, vi (-1), vi (-1), vi (-1), vw 0] hs (by kernel_rfl) (by kernel_rfl) (by kernel_rfl) ?_)
    refine (visorref19_Op.ok k 1 (-1) (-1) (-1) 0 v_32 h_31 κ w (pt b_x0 (blk (Tvisorref19_M.obj v_20.2 g_24.1 g_24.2.1 g_24.2.2.1 g_24.2.2.2.1 g_24.2.2.2.2.1 g_24.2.2.2.2.2.1 g_24.2.2.2.2.2.2.1 g_24.2.2.2.2.2.2.2) 64) :: rowp g_24.1 g_24.2.1 93 6 Tapi_Op.cells v_20.2.ops :: rowp g_24.2.2.1 g_24.2.2.2.1 175 3 Tapi_Span.cells v_20.2.blocks :: rowp g_24.2.2.2.2.1 g_24.2.2.2.2.2.1 32 1 (eI .u64) v_20.2.val :: rdp κ g_24.2.2.2.2.2.2.1 g_24.2.2.2.2.2.2.2 1 (eI .u64) v_20.2.tape.l :: pt b_8 (blk v_7 28) :: pt b_3 (blk [ci 0, ci 0, ci 0] 28) :: pt b_2 (blk x1 28) :: S) hs.own).mono ?_
    rintro _ w ⟨rfl, how⟩
    refine ⟨_, _, _, rfl, how, fun a hs => ?_⟩
    replace hs := hs.bagG (l := Tvisorref19_M.parts κ b_x0 v_20.2 g_24) (S' := pt b_8 (blk v_7 28) :: pt b_3 (blk [ci 0, ci 0, ci 0] 28) :: pt b_2 (blk x1 28) :: S) (Own.to hs.own [0, 1, 2, 3, 4, 5, 6, 7] 8 (by kernel_rfl) (by kernel_rfl))
    replace hs := hs.toEx (Tvisorref19_M.parts κ b_x0 v_20.2) g_24 0 rfl
    obtain ⟨v_35, h_34, hm⟩ := bind_t hm
    refine Vk.step (Vk.call (some 24) 55 #[pp b_x0, .agg (vals [ci v_32.kind, ci v_32.dom, ci v_32.a, ci v_32.b, ci v_32.d, cw v_32.c]), vw 0] hs (by kernel_rfl) (by kernel_rfl) (by kernel_rfl) ?_)
    refine (visorref19_M_Do.ok k v_20.2 v_32 0 v_35 h_34 κ w (pt b_8 (blk v_7 28) :: pt b_3 (blk [ci 0, ci 0, ci 0] 28) :: pt b_2 (blk x1 28) :: S) b_x0 (Own.to hs.own [0, 1, 2, 3] 4 (by kernel_rfl) (by kernel_rfl))).mono ?_
    rintro _ w ⟨rfl, how⟩
    refine ⟨_, _, _, rfl, how, fun a hs => ?_⟩
    refine qpe 1 [(0, pp b_x0), (3, pp b_2), (4, pp b_3), (5, pp b_8), (6, vi v_20.1), (7, vi v_35.1)] hs fun a hs => hK29 _ _ ?_
    clear hK29
    refine Vk.region ?_
    refine qpu 1 hs fun a hs => ?_
    obtain ⟨v_38, h_37, hm⟩ := bind_t hm
    refine Vk.step (Vk.call (some 26) 123 #[vi 1, vi (-1), vi (-1), vi (-1), vw 0] hs (by kernel_rfl) (by kernel_rfl) (by kernel_rfl) ?_)
    refine (visorref19_Op.ok k 1 (-1) (-1) (-1) 0 v_38 h_37 κ w (Tvisorref19_M.own κ b_x0 v_35.2 :: pt b_8 (blk v_7 28) :: pt b_3 (blk [ci 0, ci 0, ci 0] 28) :: pt b_2 (blk x1 28) :: S) hs.own).mono ?_
    rintro _ w ⟨rfl, how⟩
    refine ⟨_, _, _, rfl, how, fun a hs => ?_⟩
    obtain ⟨v_41, h_40, hm⟩ := bind_t hm
    refine Vk.step (Vk.call (some 27) 55 #[pp b_x0, .agg (vals [ci v_38.kind, ci v_38.dom, ci v_38.a, ci v_38.b, ci v_38.d, cw v_38.c]), vw 0] hs (by kernel_rfl) (by kernel_rfl) (by kernel_rfl) ?_)
    refine (visorref19_M_Do.ok k v_35.2 v_38 0 v_41 h_40 κ w (pt b_8 (blk v_7 28) :: pt b_3 (blk [ci 0, ci 0, ci 0] 28) :: pt b_2 (blk x1 28) :: S) b_x0 (Own.to hs.own [0, 1, 2, 3] 4 (by kernel_rfl) (by kernel_rfl))).mono ?_
    rintro _ w ⟨rfl, how⟩
    refine ⟨_, _, _, rfl, how, fun a hs => ?_⟩
    refine qpe 1 [(0, pp b_x0), (3, pp b_2), (4, pp b_3), (5, pp b_8), (6, vi v_20.1), (7, vi v_35.1), (8, vi v_41.1)] hs fun a hs => ?_
    exact hj22 v_41.2 v_35.1 v_41.1 hm _ _ (hs.go [0, 3, 4, 5, 6, 7, 8] [0, 3, 2, 1] 4 (by kernel_rfl) (by kernel_rfl) (by kernel_rfl))
  · replace hm := bif_f hm hb
    refine wp_skip ?_
    replace hs := hs.bagG (l := Tvisorref19_M.parts κ b_x0 v_20.2 g_24) (S' := pt b_8 (blk v_7 28) :: pt b_3 (blk [ci 0, ci 0, ci 0] 28) :: pt b_2 (blk x1 28) :: S) (Own.to hs.own [0, 1, 2, 3, 4, 5, 6, 7] 8 (by kernel_rfl) (by kernel_rfl))
    replace hs := hs.toEx (Tvisorref19_M.parts κ b_x0 v_20.2) g_24 0 rfl
    exact hj22 v_20.2 v_20.1 v_20.1 hm _ _ (hs.go [0, 3, 4, 5, 6, 7, 8] [0, 3, 2, 1] 4 (by kernel_rfl) (by kernel_rfl) (by kernel_rfl))


abbrev visorref21_Simple.R (κ : Ctx) (S : List HP) (x0 : Tvisorref19_M) (x1 : Cells) (b_x0 : Nat) (r : (Cells × Tvisorref19_M)) : Ending → World → Prop := fun e w' => e = .returned (.agg (vals r.1)) ∧ Own κ w' (Tvisorref19_M.own κ b_x0 r.2 :: S)
def visorref21_Simple.m (k : Nat) (x0 : Tvisorref19_M) (x1 : Cells) : Option (Cells × Tvisorref19_M) := (bif x0.n != 3 then (if x1.length = 3 then (visorref21_Full.m k x0 x1).bind fun v_15 => (if v_15.1.length = 3 then some (v_15.1, v_15.2) else none) else none) else (visorref20_None.m k).bind fun v_20 => (if v_20.length = 3 then (visorref19_M_Begin.m k x0 2).bind fun v_26 => (visorref19_Op.m k 1 (-1) (-1) (-1) 0).bind fun v_30 => (visorref19_M_Do.m k v_26 v_30 0).bind fun v_33 => (visorref19_Op.m k 1 (-1) (-1) (-1) 0).bind fun v_37 => (visorref19_M_Do.m k v_33.2 v_37 0).bind fun v_40 => (getI .i64 x1 (0)).bind fun v_43 => (visorref19_Op.m k 5 0 v_43 v_33.1 0).bind fun v_46 => (visorref19_M_Do.m k v_40.2 v_46 0).bind fun v_49 => (visorref19_Op.m k 5 0 v_49.1 v_40.1 0).bind fun v_53 => (visorref19_M_Do.m k v_49.2 v_53 0).bind fun v_56 => (if 0 < v_20.length then (getI .i64 x1 (1)).bind fun v_60 => (visorref19_Op.m k 5 1 v_60 v_33.1 0).bind fun v_63 => (visorref19_M_Do.m k v_56.2 v_63 0).bind fun v_66 => (if 1 < (v_20.set (0) (ci v_56.1)).length then (getI .i64 x1 (2)).bind fun v_70 => (visorref19_Op.m k 5 2 v_70 v_40.1 0).bind fun v_73 => (visorref19_M_Do.m k v_66.2 v_73 0).bind fun v_76 => (if 2 < ((v_20.set (0) (ci v_56.1)).set (1) (ci v_66.1)).length then (visorref19_M_End.m k v_76.2).bind fun v_81 => some ((((v_20.set (0) (ci v_56.1)).set (1) (ci v_66.1)).set (2) (ci v_76.1)), v_81) else none) else none) else none) else none))

set_option maxRecDepth 100000 in
set_option maxHeartbeats 4000000 in
theorem visorref21_Simple.ok (k : Nat) (x0 : Tvisorref19_M) (x1 : Cells) (r : (Cells × Tvisorref19_M)) (hm : visorref21_Simple.m k x0 x1 = some r) (κ : Ctx) (w : World) (S : List HP) (b_x0 : Nat) (ho : Own κ w (Tvisorref19_M.own κ b_x0 x0 :: S)) :
    Calls Try.prog 48 #[pp b_x0, .agg (vals x1)] w (visorref21_Simple.R κ S x0 x1 b_x0 r) := by
  unfold visorref21_Simple.m at hm
  generalize hRR : visorref21_Simple.R κ S x0 x1 b_x0 r = RR
  refine qen [(0, pp b_x0), (1, .agg (vals x1))] Try.func48 Try.ntmps48 ho fun a hs => ?_
  refine qsr fun K1 hK1 => ?_
  refine Vk.step (Vk.box (x := (.tmp 1)) 3 28 x1 hs (by kernel_rfl) (by kernel_rfl) (by kernel_rfl) fun b_2 w a hs => ?_)
  refine Vk.step (Vk.alloc 4 28 [ci 0, ci 0, ci 0] hs (by kernel_rfl) (by kernel_rfl) (by kernel_rfl) fun b_3 w a hs => ?_)
  refine qpe 0 [(0, pp b_x0), (3, pp b_2), (4, pp b_3)] hs fun a hs => hK1 _ _ ?_
  clear hK1
  refine Vk.seq fun K4 hK4 => ?_
  refine qsr fun K5 hK5 => ?_
  refine qpu 3 hs fun a hs => ?_
  obtain ⟨g_6, hs⟩ := hs.unbag 2 rfl
  refine qld 0 (ci x0.n) hs rfl fun a hs => ?_
  refine qpe 1 [(0, pp b_x0), (3, pp b_2), (4, pp b_3), (13, .bool (x0.n != 3))] hs fun a hs => hK5 _ _ ?_
  clear hK5
  refine qcs (x0.n != 3) hs (fun hb => ?_) fun hb => ?_
  · replace hm := bif_t hm hb
    refine qsr fun K11 hK11 => ?_
    refine qpu 1 hs fun a hs => ?_
    obtain ⟨h_12, hm⟩ := ite_t hm
    refine Vk.step (Vk.value (some 15) (.agg (vals x1)) hs (by kernel_rfl) (op := (.load 28 (.tmp 3))) (by kernel_rfl) (fun o ho => run_loadN (cs := x1) ho (by kernel_rfl) (by kernel_rfl) h_12 (CellsAt.all 6 rfl) _ hs.own) fun a hs => ?_)
    replace hs := hs.bagG (l := Tvisorref19_M.parts κ b_x0 x0 g_6) (S' := pt b_3 (blk [ci 0, ci 0, ci 0] 28) :: pt b_2 (blk x1 28) :: S) (Own.to hs.own [0, 1, 2, 3, 4, 5, 6] 7 (by kernel_rfl) (by kernel_rfl))
    replace hs := hs.toEx (Tvisorref19_M.parts κ b_x0 x0) g_6 0 rfl
    obtain ⟨v_15, h_14, hm⟩ := bind_t hm
    refine Vk.step (Vk.call (some 16) 50 #[pp b_x0, .agg (vals x1)] hs (by kernel_rfl) (by kernel_rfl) (by kernel_rfl) ?_)
    refine (visorref21_Full.ok k x0 x1 v_15 h_14 κ w (pt b_3 (blk [ci 0, ci 0, ci 0] 28) :: pt b_2 (blk x1 28) :: S) b_x0 (Own.to hs.own [0, 1, 2] 3 (by kernel_rfl) (by kernel_rfl))).mono ?_
    rintro _ w ⟨rfl, how⟩
    refine ⟨_, _, _, rfl, how, fun a hs => ?_⟩
    obtain ⟨h_16, hm⟩ := ite_t hm
    refine Vk.step (Vk.storeA (b := b_3) (ty := 28) (x := (.tmp 4)) (y := (.tmp 16)) (sz := 3) v_15.1 1 hs (by kernel_rfl) (by kernel_rfl) (by kernel_rfl) (by kernel_rfl) (by kernel_rfl) h_16 (by kernel_rfl) rfl (Eq.trans (b := 3) h_16 (Eq.symm rfl)) fun a w hs => ?_)
    refine qpe 0 [(4, pp b_3)] hs fun a hs => hK11 _ _ ?_
    clear hK11
    refine wp_ret ?_
    exact Vk.retC (P := Try.prog) (fn := Try.f48) (R := RR) v_15.1 hs rfl (by kernel_rfl) (sz := 3) (by kernel_rfl) h_16 (CellsAt.all 1 rfl) (by obtain rfl := Option.some.inj hm; subst hRR; exact ⟨rfl, (Own.to hs.own [0] 3 (by kernel_rfl) (by kernel_rfl))⟩)
  · replace hm := bif_f hm hb
    refine wp_skip ?_
    refine hK4 _ _ ?_
    clear hK4
    refine qsr fun K17 hK17 => ?_
    obtain ⟨v_20, h_19, hm⟩ := bind_t hm
    refine Vk.step (Vk.call (some 17) 83 #[] hs (by kernel_rfl) (by kernel_rfl) (by kernel_rfl) ?_)
    refine (visorref20_None.ok k v_20 h_19 κ w (pt b_x0 (blk (Tvisorref19_M.obj x0 g_6.1 g_6.2.1 g_6.2.2.1 g_6.2.2.2.1 g_6.2.2.2.2.1 g_6.2.2.2.2.2.1 g_6.2.2.2.2.2.2.1 g_6.2.2.2.2.2.2.2) 64) :: rowp g_6.1 g_6.2.1 93 6 Tapi_Op.cells x0.ops :: rowp g_6.2.2.1 g_6.2.2.2.1 175 3 Tapi_Span.cells x0.blocks :: rowp g_6.2.2.2.2.1 g_6.2.2.2.2.2.1 32 1 (eI .u64) x0.val :: rdp κ g_6.2.2.2.2.2.2.1 g_6.2.2.2.2.2.2.2 1 (eI .u64) x0.tape.l :: pt b_3 (blk [ci 0, ci 0, ci 0] 28) :: pt b_2 (blk x1 28) :: S) hs.own).mono ?_
    rintro _ w ⟨rfl, how⟩
    refine ⟨_, _, _, rfl, how, fun a hs => ?_⟩
    refine Vk.step (Vk.alloc 5 28 [ci 0, ci 0, ci 0] hs (by kernel_rfl) (by kernel_rfl) (by kernel_rfl) fun b_21 w a hs => ?_)
    obtain ⟨h_22, hm⟩ := ite_t hm
    refine Vk.step (Vk.storeA (b := b_21) (ty := 28) (x := (.tmp 5)) (y := (.tmp 17)) (sz := 3) v_20 0 hs (by kernel_rfl) (by kernel_rfl) (by kernel_rfl) (by kernel_rfl) (by kernel_rfl) h_22 (by kernel_rfl) rfl (Eq.trans (b := 3) h_22 (Eq.symm rfl)) fun a w hs => ?_)
    refine qpe 0 [(0, pp b_x0), (3, pp b_2), (4, pp b_3), (5, pp b_21)] hs fun a hs => hK17 _ _ ?_
    clear hK17
    refine qsr fun K23 hK23 => ?_
    refine qpu 1 hs fun a hs => ?_
    replace hs := hs.bagG (l := Tvisorref19_M.parts κ b_x0 x0 g_6) (S' := pt b_21 (blk v_20 28) :: pt b_3 (blk [ci 0, ci 0, ci 0] 28) :: pt b_2 (blk x1 28) :: S) (Own.to hs.own [1, 2, 3, 4, 5, 0, 6, 7] 8 (by kernel_rfl) (by kernel_rfl))
    replace hs := hs.toEx (Tvisorref19_M.parts κ b_x0 x0) g_6 0 rfl
    obtain ⟨v_26, h_25, hm⟩ := bind_t hm
    refine Vk.step (Vk.call (some 19) 122 #[pp b_x0, vi 2] hs (by kernel_rfl) (by kernel_rfl) (by kernel_rfl) ?_)
    refine (visorref19_M_Begin.ok k x0 2 v_26 h_25 κ w (pt b_21 (blk v_20 28) :: pt b_3 (blk [ci 0, ci 0, ci 0] 28) :: pt b_2 (blk x1 28) :: S) b_x0 (Own.to hs.own [0, 1, 2, 3] 4 (by kernel_rfl) (by kernel_rfl))).mono ?_
    rintro _ w ⟨rfl, how⟩
    refine ⟨_, _, _, rfl, how, fun a hs => ?_⟩
    refine qpe 0 [(0, pp b_x0), (3, pp b_2), (4, pp b_3), (5, pp b_21)] hs fun a hs => hK23 _ _ ?_
    clear hK23
    refine qsr fun K27 hK27 => ?_
    refine qpu 1 hs fun a hs => ?_
    obtain ⟨v_30, h_29, hm⟩ := bind_t hm
    refine Vk.step (Vk.call (some 21) 123 #[vi 1, vi (-1), vi (-1), vi (-1), vw 0] hs (by kernel_rfl) (by kernel_rfl) (by kernel_rfl) ?_)
    refine (visorref19_Op.ok k 1 (-1) (-1) (-1) 0 v_30 h_29 κ w (Tvisorref19_M.own κ b_x0 v_26 :: pt b_21 (blk v_20 28) :: pt b_3 (blk [ci 0, ci 0, ci 0] 28) :: pt b_2 (blk x1 28) :: S) hs.own).mono ?_
    rintro _ w ⟨rfl, how⟩
    refine ⟨_, _, _, rfl, how, fun a hs => ?_⟩
    obtain ⟨v_33, h_32, hm⟩ := bind_t hm
    refine Vk.step (Vk.call (some 22) 55 #[pp b_x0, .agg (vals [ci v_30.kind, ci v_30.dom, ci v_30.a, ci v_30.b, ci v_30.d, cw v_30.c]), vw 0] hs (by kernel_rfl) (by kernel_rfl) (by kernel_rfl) ?_)
    refine (visorref19_M_Do.ok k v_26 v_30 0 v_33 h_32 κ w (pt b_21 (blk v_20 28) :: pt b_3 (blk [ci 0, ci 0, ci 0] 28) :: pt b_2 (blk x1 28) :: S) b_x0 (Own.to hs.own [0, 1, 2, 3] 4 (by kernel_rfl) (by kernel_rfl))).mono ?_
    rintro _ w ⟨rfl, how⟩
    refine ⟨_, _, _, rfl, how, fun a hs => ?_⟩
    refine qpe 1 [(0, pp b_x0), (3, pp b_2), (4, pp b_3), (5, pp b_21), (6, vi v_33.1)] hs fun a hs => hK27 _ _ ?_
    clear hK27
    refine qsr fun K34 hK34 => ?_
    refine qpu 1 hs fun a hs => ?_
    obtain ⟨v_37, h_36, hm⟩ := bind_t hm
    refine Vk.step (Vk.call (some 24) 123 #[vi 1, vi (-1), vi (-1), vi (-1), vw 0] hs (by kernel_rfl) (by kernel_rfl) (by kernel_rfl) ?_)
    refine (visorref19_Op.ok k 1 (-1) (-1) (-1) 0 v_37 h_36 κ w (Tvisorref19_M.own κ b_x0 v_33.2 :: pt b_21 (blk v_20 28) :: pt b_3 (blk [ci 0, ci 0, ci 0] 28) :: pt b_2 (blk x1 28) :: S) hs.own).mono ?_
    rintro _ w ⟨rfl, how⟩
    refine ⟨_, _, _, rfl, how, fun a hs => ?_⟩
    obtain ⟨v_40, h_39, hm⟩ := bind_t hm
    refine Vk.step (Vk.call (some 25) 55 #[pp b_x0, .agg (vals [ci v_37.kind, ci v_37.dom, ci v_37.a, ci v_37.b, ci v_37.d, cw v_37.c]), vw 0] hs (by kernel_rfl) (by kernel_rfl) (by kernel_rfl) ?_)
    refine (visorref19_M_Do.ok k v_33.2 v_37 0 v_40 h_39 κ w (pt b_21 (blk v_20 28) :: pt b_3 (blk [ci 0, ci 0, ci 0] 28) :: pt b_2 (blk x1 28) :: S) b_x0 (Own.to hs.own [0, 1, 2, 3] 4 (by kernel_rfl) (by kernel_rfl))).mono ?_
    rintro _ w ⟨rfl, how⟩
    refine ⟨_, _, _, rfl, how, fun a hs => ?_⟩
    refine qpe 1 [(0, pp b_x0), (3, pp b_2), (4, pp b_3), (5, pp b_21), (6, vi v_33.1), (7, vi v_40.1)] hs fun a hs => hK34 _ _ ?_
    clear hK34
    refine qsr fun K41 hK41 => ?_
    refine qpu 3 hs fun a hs => ?_
    obtain ⟨v_43, h_42, hm⟩ := bind_t hm
    refine Vk.step (Vk.value (some 29) (vi v_43) hs (by kernel_rfl) (op := (.load 3 (.tmp 28))) (by kernel_rfl) (fun o ho => run_load1 (c := ci v_43) ho (by kernel_rfl) (by kernel_rfl) (Cell.own 3 rfl (getI_some h_42)) _ hs.own) fun a hs => ?_)
    refine qpu 1 hs fun a hs => ?_
    obtain ⟨v_46, h_45, hm⟩ := bind_t hm
    refine Vk.step (Vk.call (some 31) 123 #[vi 5, vi 0, vi v_43, vi v_33.1, vw 0] hs (by kernel_rfl) (by kernel_rfl) (by kernel_rfl) ?_)
    refine (visorref19_Op.ok k 5 0 v_43 v_33.1 0 v_46 h_45 κ w (Tvisorref19_M.own κ b_x0 v_40.2 :: pt b_21 (blk v_20 28) :: pt b_3 (blk [ci 0, ci 0, ci 0] 28) :: pt b_2 (blk x1 28) :: S) hs.own).mono ?_
    rintro _ w ⟨rfl, how⟩
    refine ⟨_, _, _, rfl, how, fun a hs => ?_⟩
    obtain ⟨v_49, h_48, hm⟩ := bind_t hm
    refine Vk.step (Vk.call (some 32) 55 #[pp b_x0, .agg (vals [ci v_46.kind, ci v_46.dom, ci v_46.a, ci v_46.b, ci v_46.d, cw v_46.c]), vw 0] hs (by kernel_rfl) (by kernel_rfl) (by kernel_rfl) ?_)
    refine (visorref19_M_Do.ok k v_40.2 v_46 0 v_49 h_48 κ w (pt b_21 (blk v_20 28) :: pt b_3 (blk [ci 0, ci 0, ci 0] 28) :: pt b_2 (blk x1 28) :: S) b_x0 (Own.to hs.own [0, 1, 2, 3] 4 (by kernel_rfl) (by kernel_rfl))).mono ?_
    rintro _ w ⟨rfl, how⟩
    refine ⟨_, _, _, rfl, how, fun a hs => ?_⟩
    refine qpe 1 [(0, pp b_x0), (3, pp b_2), (4, pp b_3), (5, pp b_21), (6, vi v_33.1), (7, vi v_40.1), (8, vi v_49.1)] hs fun a hs => hK41 _ _ ?_
    clear hK41
    refine qsr fun K50 hK50 => ?_
    refine qpu 3 hs fun a hs => ?_
    obtain ⟨v_53, h_52, hm⟩ := bind_t hm
    refine Vk.step (Vk.call (some 36) 123 #[vi 5, vi 0, vi v_49.1, vi v_40.1, vw 0] hs (by kernel_rfl) (by kernel_rfl) (by kernel_rfl) ?_)
    refine (visorref19_Op.ok k 5 0 v_49.1 v_40.1 0 v_53 h_52 κ w (Tvisorref19_M.own κ b_x0 v_49.2 :: pt b_21 (blk v_20 28) :: pt b_3 (blk [ci 0, ci 0, ci 0] 28) :: pt b_2 (blk x1 28) :: S) hs.own).mono ?_
    rintro _ w ⟨rfl, how⟩
    refine ⟨_, _, _, rfl, how, fun a hs => ?_⟩
    obtain ⟨v_56, h_55, hm⟩ := bind_t hm
    refine Vk.step (Vk.call (some 37) 55 #[pp b_x0, .agg (vals [ci v_53.kind, ci v_53.dom, ci v_53.a, ci v_53.b, ci v_53.d, cw v_53.c]), vw 0] hs (by kernel_rfl) (by kernel_rfl) (by kernel_rfl) ?_)
    refine (visorref19_M_Do.ok k v_49.2 v_53 0 v_56 h_55 κ w (pt b_21 (blk v_20 28) :: pt b_3 (blk [ci 0, ci 0, ci 0] 28) :: pt b_2 (blk x1 28) :: S) b_x0 (Own.to hs.own [0, 1, 2, 3] 4 (by kernel_rfl) (by kernel_rfl))).mono ?_
    rintro _ w ⟨rfl, how⟩
    refine ⟨_, _, _, rfl, how, fun a hs => ?_⟩
    refine qpu 2 hs fun a hs => ?_
    obtain ⟨h_57, hm⟩ := ite_t hm
    refine Vk.step (Vk.store1 (b := b_21) (ty := 3) (x := (.tmp 39)) (y := (.tmp 37)) (off := 0) (ci v_56.1) 1 hs (by kernel_rfl) (by kernel_rfl) (by kernel_rfl) (by kernel_rfl) (by kernel_rfl) (by kernel_rfl) rfl h_57 fun a w hs => ?_)
    refine qpe 0 [(0, pp b_x0), (3, pp b_2), (4, pp b_3), (5, pp b_21), (6, vi v_33.1), (7, vi v_40.1)] hs fun a hs => hK50 _ _ ?_
    clear hK50
    refine qsr fun K58 hK58 => ?_
    refine qpu 3 hs fun a hs => ?_
    obtain ⟨v_60, h_59, hm⟩ := bind_t hm
    refine Vk.step (Vk.value (some 43) (vi v_60) hs (by kernel_rfl) (op := (.load 3 (.tmp 42))) (by kernel_rfl) (fun o ho => run_load1 (c := ci v_60) ho (by kernel_rfl) (by kernel_rfl) (Cell.own 3 rfl (getI_some h_59)) _ hs.own) fun a hs => ?_)
    refine qpu 1 hs fun a hs => ?_
    obtain ⟨v_63, h_62, hm⟩ := bind_t hm
    refine Vk.step (Vk.call (some 45) 123 #[vi 5, vi 1, vi v_60, vi v_33.1, vw 0] hs (by kernel_rfl) (by kernel_rfl) (by kernel_rfl) ?_)
    refine (visorref19_Op.ok k 5 1 v_60 v_33.1 0 v_63 h_62 κ w (Tvisorref19_M.own κ b_x0 v_56.2 :: pt b_21 (blk (v_20.set (0) (ci v_56.1)) 28) :: pt b_3 (blk [ci 0, ci 0, ci 0] 28) :: pt b_2 (blk x1 28) :: S) hs.own).mono ?_
    rintro _ w ⟨rfl, how⟩
    refine ⟨_, _, _, rfl, how, fun a hs => ?_⟩
    obtain ⟨v_66, h_65, hm⟩ := bind_t hm
    refine Vk.step (Vk.call (some 46) 55 #[pp b_x0, .agg (vals [ci v_63.kind, ci v_63.dom, ci v_63.a, ci v_63.b, ci v_63.d, cw v_63.c]), vw 0] hs (by kernel_rfl) (by kernel_rfl) (by kernel_rfl) ?_)
    refine (visorref19_M_Do.ok k v_56.2 v_63 0 v_66 h_65 κ w (pt b_21 (blk (v_20.set (0) (ci v_56.1)) 28) :: pt b_3 (blk [ci 0, ci 0, ci 0] 28) :: pt b_2 (blk x1 28) :: S) b_x0 (Own.to hs.own [0, 1, 2, 3] 4 (by kernel_rfl) (by kernel_rfl))).mono ?_
    rintro _ w ⟨rfl, how⟩
    refine ⟨_, _, _, rfl, how, fun a hs => ?_⟩
    refine qpu 2 hs fun a hs => ?_
    obtain ⟨h_67, hm⟩ := ite_t hm
    refine Vk.step (Vk.store1 (b := b_21) (ty := 3) (x := (.tmp 48)) (y := (.tmp 46)) (off := 1) (ci v_66.1) 1 hs (by kernel_rfl) (by kernel_rfl) (by kernel_rfl) (by kernel_rfl) (by kernel_rfl) (by kernel_rfl) rfl h_67 fun a w hs => ?_)
    refine qpe 0 [(0, pp b_x0), (3, pp b_2), (4, pp b_3), (5, pp b_21), (7, vi v_40.1)] hs fun a hs => hK58 _ _ ?_
    clear hK58
    refine qsr fun K68 hK68 => ?_
    refine qpu 3 hs fun a hs => ?_
    obtain ⟨v_70, h_69, hm⟩ := bind_t hm
    refine Vk.step (Vk.value (some 52) (vi v_70) hs (by kernel_rfl) (op := (.load 3 (.tmp 51))) (by kernel_rfl) (fun o ho => run_load1 (c := ci v_70) ho (by kernel_rfl) (by kernel_rfl) (Cell.own 3 rfl (getI_some h_69)) _ hs.own) fun a hs => ?_)
    refine qpu 1 hs fun a hs => ?_
    obtain ⟨v_73, h_72, hm⟩ := bind_t hm
    refine Vk.step (Vk.call (some 54) 123 #[vi 5, vi 2, vi v_70, vi v_40.1, vw 0] hs (by kernel_rfl) (by kernel_rfl) (by kernel_rfl) ?_)
    refine (visorref19_Op.ok k 5 2 v_70 v_40.1 0 v_73 h_72 κ w (Tvisorref19_M.own κ b_x0 v_66.2 :: pt b_21 (blk ((v_20.set (0) (ci v_56.1)).set (1) (ci v_66.1)) 28) :: pt b_3 (blk [ci 0, ci 0, ci 0] 28) :: pt b_2 (blk x1 28) :: S) hs.own).mono ?_
    rintro _ w ⟨rfl, how⟩
    refine ⟨_, _, _, rfl, how, fun a hs => ?_⟩
    obtain ⟨v_76, h_75, hm⟩ := bind_t hm
    refine Vk.step (Vk.call (some 55) 55 #[pp b_x0, .agg (vals [ci v_73.kind, ci v_73.dom, ci v_73.a, ci v_73.b, ci v_73.d, cw v_73.c]), vw 0] hs (by kernel_rfl) (by kernel_rfl) (by kernel_rfl) ?_)
    refine (visorref19_M_Do.ok k v_66.2 v_73 0 v_76 h_75 κ w (pt b_21 (blk ((v_20.set (0) (ci v_56.1)).set (1) (ci v_66.1)) 28) :: pt b_3 (blk [ci 0, ci 0, ci 0] 28) :: pt b_2 (blk x1 28) :: S) b_x0 (Own.to hs.own [0, 1, 2, 3] 4 (by kernel_rfl) (by kernel_rfl))).mono ?_
    rintro _ w ⟨rfl, how⟩
    refine ⟨_, _, _, rfl, how, fun a hs => ?_⟩
    refine qpu 2 hs fun a hs => ?_
    obtain ⟨h_77, hm⟩ := ite_t hm
    refine Vk.step (Vk.store1 (b := b_21) (ty := 3) (x := (.tmp 57)) (y := (.tmp 55)) (off := 2) (ci v_76.1) 1 hs (by kernel_rfl) (by kernel_rfl) (by kernel_rfl) (by kernel_rfl) (by kernel_rfl) (by kernel_rfl) rfl h_77 fun a w hs => ?_)
    refine qpe 0 [(0, pp b_x0), (4, pp b_3), (5, pp b_21)] hs fun a hs => hK68 _ _ ?_
    clear hK68
    refine qsr fun K78 hK78 => ?_
    refine qpu 1 hs fun a hs => ?_
    obtain ⟨v_81, h_80, hm⟩ := bind_t hm
    refine Vk.step (Vk.call (some 59) 124 #[pp b_x0] hs (by kernel_rfl) (by kernel_rfl) (by kernel_rfl) ?_)
    refine (visorref19_M_End.ok k v_76.2 v_81 h_80 κ w (pt b_21 (blk (((v_20.set (0) (ci v_56.1)).set (1) (ci v_66.1)).set (2) (ci v_76.1)) 28) :: pt b_3 (blk [ci 0, ci 0, ci 0] 28) :: pt b_2 (blk x1 28) :: S) b_x0 (Own.to hs.own [0, 1, 2, 3] 4 (by kernel_rfl) (by kernel_rfl))).mono ?_
    rintro _ w ⟨rfl, how⟩
    refine ⟨_, _, _, rfl, how, fun a hs => ?_⟩
    refine qpe 0 [(4, pp b_3), (5, pp b_21)] hs fun a hs => hK78 _ _ ?_
    clear hK78
    refine qsr fun K82 hK82 => ?_
    refine Vk.step (Vk.value (some 60) (.agg (vals (((v_20.set (0) (ci v_56.1)).set (1) (ci v_66.1)).set (2) (ci v_76.1)))) hs (by kernel_rfl) (op := (.load 28 (.tmp 5))) (by kernel_rfl) (fun o ho => run_loadN (cs := (((v_20.set (0) (ci v_56.1)).set (1) (ci v_66.1)).set (2) (ci v_76.1))) ho (by kernel_rfl) (by kernel_rfl) (List.length_set.trans (List.length_set.trans (List.length_set.trans h_22))) (CellsAt.all 1 rfl) _ hs.own) fun a hs => ?_)
    refine Vk.step (Vk.storeA (b := b_3) (ty := 28) (x := (.tmp 4)) (y := (.tmp 60)) (sz := 3) (((v_20.set (0) (ci v_56.1)).set (1) (ci v_66.1)).set (2) (ci v_76.1)) 2 hs (by kernel_rfl) (by kernel_rfl) (by kernel_rfl) (by kernel_rfl) (by kernel_rfl) (List.length_set.trans (List.length_set.trans (List.length_set.trans h_22))) (by kernel_rfl) rfl (Eq.trans (b := 3) (List.length_set.trans (List.length_set.trans (List.length_set.trans h_22))) (Eq.symm rfl)) fun a w hs => ?_)
    refine qpe 0 [(4, pp b_3)] hs fun a hs => hK82 _ _ ?_
    clear hK82
    refine wp_ret ?_
    exact Vk.retC (P := Try.prog) (fn := Try.f48) (R := RR) (((v_20.set (0) (ci v_56.1)).set (1) (ci v_66.1)).set (2) (ci v_76.1)) hs rfl (by kernel_rfl) (sz := 3) (by kernel_rfl) (List.length_set.trans (List.length_set.trans (List.length_set.trans h_22))) (CellsAt.all 2 rfl) (by obtain rfl := Option.some.inj hm; subst hRR; exact ⟨rfl, (Own.to hs.own [0] 4 (by kernel_rfl) (by kernel_rfl))⟩)


abbrev wire_Machine_Values.R (κ : Ctx) (S : List HP) (x0 : Twire_Machine) (b_x0 : Nat) (g_x0 : Nat × Option Addr × Nat × Option Addr × Nat × Option Addr × Nat) (r : List Int) : Ending → World → Prop := fun e w' => ∃ (A_r0 : Option Addr), ∃ (c_r0 : Nat), e = .returned (.slice A_r0 r.length c_r0) ∧ Own κ w' (rowp A_r0 c_r0 32 1 (eI .u64) r :: bagL (Twire_Machine.parts b_x0 x0 g_x0) :: S)
def wire_Machine_Values.m (k : Nat) (x0 : Twire_Machine) : Option (List Int) := (slices_Clone_uint64_uint64.m k x0.values).bind fun v_10 => some v_10

set_option maxRecDepth 100000 in
set_option maxHeartbeats 4000000 in
theorem wire_Machine_Values.ok (k : Nat) (x0 : Twire_Machine) (r : List Int) (hm : wire_Machine_Values.m k x0 = some r) (κ : Ctx) (w : World) (S : List HP) (b_x0 : Nat) (g_x0 : Nat × Option Addr × Nat × Option Addr × Nat × Option Addr × Nat) (ho : Own κ w (bagL (Twire_Machine.parts b_x0 x0 g_x0) :: S)) :
    Calls Try.prog 22 #[pp b_x0] w (wire_Machine_Values.R κ S x0 b_x0 g_x0 r) := by
  unfold wire_Machine_Values.m at hm
  generalize hRR : wire_Machine_Values.R κ S x0 b_x0 g_x0 r = RR
  refine qen [(0, pp b_x0)] Try.func22 Try.ntmps22 ho fun a hs => ?_
  refine qsr fun K1 hK1 => ?_
  refine qpe 1 [(0, pp b_x0)] hs fun a hs => hK1 _ _ ?_
  clear hK1
  refine Vk.seq fun K2 hK2 => ?_
  refine qsr fun K3 hK3 => ?_
  refine qpe 2 [(0, pp b_x0), (4, .bool false)] hs fun a hs => hK3 _ _ ?_
  clear hK3
  refine qcf hs ?_
  refine wp_skip ?_
  refine hK2 _ _ ?_
  clear hK2
  refine qsr fun K4 hK4 => ?_
  refine qpu 3 hs fun a hs => ?_
  replace hs := hs.unbagAt 0 rfl
  refine qld 0 (C.slc g_x0.2.2.2.1 x0.values.length g_x0.2.2.2.2.1) hs rfl fun a hs => ?_
  obtain ⟨v_10, h_9, hm⟩ := bind_t hm
  refine Vk.step (Vk.call (some 9) 96 #[.slice g_x0.2.2.2.1 x0.values.length g_x0.2.2.2.2.1] hs (by kernel_rfl) (by kernel_rfl) (by kernel_rfl) ?_)
  refine (slices_Clone_uint64_uint64.ok k x0.values v_10 h_9 κ w (pt b_x0 (blk (Twire_Machine.obj x0 g_x0.1 g_x0.2.1 g_x0.2.2.1 g_x0.2.2.2.1 g_x0.2.2.2.2.1 g_x0.2.2.2.2.2.1 g_x0.2.2.2.2.2.2) 139) :: opto x0.dry (Ttape_Tape.own g_x0.1 x0.tape) :: rowp g_x0.2.1 g_x0.2.2.1 93 6 Tapi_Op.cells x0.ops :: rowp g_x0.2.2.2.1 g_x0.2.2.2.2.1 32 1 (eI .u64) x0.values :: rowp g_x0.2.2.2.2.2.1 g_x0.2.2.2.2.2.2 175 3 Tapi_Span.cells x0.blocks :: S) g_x0.2.2.2.1 g_x0.2.2.2.2.1 (Sl.lift (fun w ho => (Own.to (S' := rowp g_x0.2.2.2.1 g_x0.2.2.2.2.1 32 1 (eI .u64) x0.values :: S) ho [3] 5 (by kernel_rfl) (by kernel_rfl))) (Own.rowSl 0 (Own.to (S' := rowp g_x0.2.2.2.1 g_x0.2.2.2.2.1 32 1 (eI .u64) x0.values :: S) hs.own [3] 5 (by kernel_rfl) (by kernel_rfl)) rfl)) hs.own).mono ?_
  rintro _ w ⟨Ar8x0_11, cr8x0_12, rfl, how⟩
  refine ⟨_, _, _, rfl, how, fun a hs => ?_⟩
  refine qpe 1 [(2, .slice Ar8x0_11 v_10.length cr8x0_12)] hs fun a hs => hK4 _ _ ?_
  clear hK4
  refine wp_ret ?_
  replace hs := hs.bagG (l := Twire_Machine.parts b_x0 x0 g_x0) (S' := rowp Ar8x0_11 cr8x0_12 32 1 (eI .u64) v_10 :: S) (Own.to hs.own [1, 2, 3, 4, 5, 0] 6 (by kernel_rfl) (by kernel_rfl))
  exact Vk.ret1 (P := Try.prog) (fn := Try.f22) (R := RR) (.slice Ar8x0_11 v_10.length cr8x0_12) hs rfl (by kernel_rfl) (by obtain rfl := Option.some.inj hm; subst hRR; exact ⟨Ar8x0_11, cr8x0_12, rfl, (Own.to hs.own [1, 0] 2 (by kernel_rfl) (by kernel_rfl))⟩)


abbrev wire_Machine_Err.R (κ : Ctx) (S : List HP) (x0 : Twire_Machine) (b_x0 : Nat) (g_x0 : Nat × Option Addr × Nat × Option Addr × Nat × Option Addr × Nat) (r : Int) : Ending → World → Prop := fun e w' => e = .returned (vi r) ∧ Own κ w' (bagL (Twire_Machine.parts b_x0 x0 g_x0) :: S)
def wire_Machine_Err.m (k : Nat) (x0 : Twire_Machine) : Option Int := some x0.bad

set_option maxRecDepth 100000 in
set_option maxHeartbeats 4000000 in
theorem wire_Machine_Err.ok (k : Nat) (x0 : Twire_Machine) (r : Int) (hm : wire_Machine_Err.m k x0 = some r) (κ : Ctx) (w : World) (S : List HP) (b_x0 : Nat) (g_x0 : Nat × Option Addr × Nat × Option Addr × Nat × Option Addr × Nat) (ho : Own κ w (bagL (Twire_Machine.parts b_x0 x0 g_x0) :: S)) :
    Calls Try.prog 23 #[pp b_x0] w (wire_Machine_Err.R κ S x0 b_x0 g_x0 r) := by
  unfold wire_Machine_Err.m at hm
  generalize hRR : wire_Machine_Err.R κ S x0 b_x0 g_x0 r = RR
  refine qen [(0, pp b_x0)] Try.func23 Try.ntmps23 ho fun a hs => ?_
  refine qsr fun K1 hK1 => ?_
  refine qpe 1 [(0, pp b_x0)] hs fun a hs => hK1 _ _ ?_
  clear hK1
  refine Vk.seq fun K2 hK2 => ?_
  refine qsr fun K3 hK3 => ?_
  refine qpe 2 [(0, pp b_x0), (4, .bool false)] hs fun a hs => hK3 _ _ ?_
  clear hK3
  refine qcf hs ?_
  refine wp_skip ?_
  refine hK2 _ _ ?_
  clear hK2
  refine qsr fun K4 hK4 => ?_
  refine qpu 3 hs fun a hs => ?_
  replace hs := hs.unbagAt 0 rfl
  refine qld 0 (ci x0.bad) hs rfl fun a hs => ?_
  refine qpe 1 [(2, vi x0.bad)] hs fun a hs => hK4 _ _ ?_
  clear hK4
  refine wp_ret ?_
  replace hs := hs.bagG (l := Twire_Machine.parts b_x0 x0 g_x0) (S' := S) (Own.to hs.own [0, 1, 2, 3, 4] 5 (by kernel_rfl) (by kernel_rfl))
  exact Vk.ret1 (P := Try.prog) (fn := Try.f23) (R := RR) (vi x0.bad) hs rfl (by kernel_rfl) (by obtain rfl := Option.some.inj hm; subst hRR; exact ⟨rfl, (Own.to hs.own [0] 1 (by kernel_rfl) (by kernel_rfl))⟩)


abbrev slices_Clone_api_Op_api_Op.R (κ : Ctx) (S : List HP) (x0 : List Tapi_Op) (A_x0 : Option Addr) (c_x0 : Nat) (r : List Tapi_Op) : Ending → World → Prop := fun e w' => ∃ (A_r0 : Option Addr), ∃ (c_r0 : Nat), e = .returned (.slice A_r0 r.length c_r0) ∧ Own κ w' (rowp A_r0 c_r0 93 6 Tapi_Op.cells r :: S)
def slices_Clone_api_Op_api_Op.m (k : Nat) (x0 : List Tapi_Op) : Option (List Tapi_Op) := (if (([] : List Tapi_Op).length + x0.length) * 48 ≤ 140737488355328 then some (([] : List Tapi_Op) ++ x0) else none)

set_option maxRecDepth 100000 in
set_option maxHeartbeats 4000000 in
theorem slices_Clone_api_Op_api_Op.ok (k : Nat) (x0 : List Tapi_Op) (r : List Tapi_Op) (hm : slices_Clone_api_Op_api_Op.m k x0 = some r) (κ : Ctx) (w : World) (S : List HP) (A_x0 : Option Addr) (c_x0 : Nat) (hx_x0 : Sl κ S A_x0 c_x0 6 Tapi_Op.cells x0) (ho : Own κ w (S)) :
    Calls Try.prog 138 #[.slice A_x0 x0.length c_x0] w (slices_Clone_api_Op_api_Op.R κ S x0 A_x0 c_x0 r) := by
  unfold slices_Clone_api_Op_api_Op.m at hm
  rcases A_x0 with _ | p_x0
  · obtain rfl : c_x0 = 0 := hx_x0.none rfl
    obtain rfl : x0 = [] := List.length_eq_zero_iff.1 (Nat.le_zero.1 hx_x0.le)
    replace hm : some ([] : List Tapi_Op) = some r := by simpa using hm
    refine Vk.enter [(0, .slice none 0 0)] Try.func138 rfl Try.ntmps138 (by kernel_rfl) (Nat.le_of_ble_eq_true (by kernel_rfl)) ho fun a hs => ?_
    refine Vk.seq fun K1 hK1 => ?_
    refine Vk.region ?_
    refine Vk.pures 1 [(2, .slice none 0 0)] hs (by kernel_rfl) fun a hs => ?_
    replace hs := hs.pick [0] (L' := [(0, .slice none 0 0)]) (by kernel_rfl)
    refine Vk.done (by kernel_rfl) ?_
    refine hK1 _ _ ?_
    clear hK1
    refine Vk.seq fun K2 hK2 => ?_
    refine Vk.seq fun K3 hK3 => ?_
    refine Vk.region ?_
    refine Vk.pures 2 [(4, .bool true), (3, .slice none 0 0)] hs (by kernel_rfl) fun a hs => ?_
    replace hs := hs.pick [0, 4] (L' := [(0, .slice none 0 0), (4, .bool true)]) (by kernel_rfl)
    refine Vk.done (by kernel_rfl) ?_
    refine hK3 _ _ ?_
    clear hK3
    refine Vk.condT hs (by kernel_rfl) (by kernel_rfl) ?_
    refine Vk.seq fun K4 hK4 => ?_
    refine Vk.region ?_
    refine Vk.pures 1 [(2, .slice none 0 0)] hs (by kernel_rfl) fun a hs => ?_
    replace hs := hs.pick [2] (L' := [(2, .slice none 0 0)]) (by kernel_rfl)
    refine Vk.done (by kernel_rfl) ?_
    refine hK4 _ _ ?_
    clear hK4
    refine wp_ret ?_
    replace hs := hs.addRow none 93 6 Tapi_Op.cells
    exact Vk.ret1 (P := Try.prog) (fn := Try.f138) (R := slices_Clone_api_Op_api_Op.R κ S [] none 0 r) (.slice none (([] : List Tapi_Op).length) 0) hs rfl (by kernel_rfl) (by obtain rfl := Option.some.inj hm; exact ⟨none, 0, rfl, (Own.to hs.own [0] 1 (by kernel_rfl) (by kernel_rfl))⟩)
  · skip
    refine Vk.enter [(0, .slice (some p_x0) x0.length c_x0)] Try.func138 rfl Try.ntmps138 (by kernel_rfl) (Nat.le_of_ble_eq_true (by kernel_rfl)) ho fun a hs => ?_
    refine Vk.seq fun K1 hK1 => ?_
    refine Vk.region ?_
    refine Vk.pures 1 [(2, .slice none 0 0)] hs (by kernel_rfl) fun a hs => ?_
    replace hs := hs.pick [0] (L' := [(0, .slice (some p_x0) x0.length c_x0)]) (by kernel_rfl)
    refine Vk.done (by kernel_rfl) ?_
    refine hK1 _ _ ?_
    clear hK1
    refine Vk.seq fun K2 hK2 => ?_
    refine Vk.seq fun K3 hK3 => ?_
    refine Vk.region ?_
    refine Vk.pures 2 [(4, .bool false), (3, .slice (some p_x0) x0.length c_x0)] hs (by kernel_rfl) fun a hs => ?_
    replace hs := hs.pick [0, 4] (L' := [(0, .slice (some p_x0) x0.length c_x0), (4, .bool false)]) (by kernel_rfl)
    refine Vk.done (by kernel_rfl) ?_
    refine hK3 _ _ ?_
    clear hK3
    refine Vk.condF hs (by kernel_rfl) (by kernel_rfl) ?_
    refine wp_skip ?_
    refine hK2 _ _ ?_
    clear hK2
    refine Vk.seq fun K4 hK4 => ?_
    refine Vk.region ?_
    refine Vk.step (Vk.buildOp (sz := 6) (by_ := 48) (t := 59) (e := 93) (parts := #[]) (zs := vals [C.int .i64 0, C.int .i64 0, C.int .i64 0, C.int .i64 0, C.int .i64 0, C.int .u64 0]) ([] : List Tapi_Op) Tapi_Op.cells (some 5) hs (by kernel_rfl) (by kernel_rfl) (by kernel_rfl) (by kernel_rfl) (by decide) rfl (fun x _ => rfl) (Nat.le_of_ble_eq_true (by kernel_rfl)) (by kernel_rfl) fun A_5 w a hs => ?_)
    refine Vk.pures 1 [(6, .slice (some p_x0) x0.length c_x0)] hs (by kernel_rfl) fun a hs => ?_
    obtain ⟨h_7, hm⟩ := ite_t hm
    refine Vk.step (Vk.appendOp (x := (.tmp 5)) (y := (.tmp 6)) (e := 93) (t := 59) (by_ := 48) (sz := 6) (enc := Tapi_Op.cells) (A := A_5) (cap := 0) (xs := ([] : List Tapi_Op)) (ys := x0) (B := (some p_x0)) (c2 := c_x0) 0 (some 7) hs (by kernel_rfl) (by kernel_rfl) (by kernel_rfl) (by kernel_rfl) rfl hx_x0.less (by kernel_rfl) (by kernel_rfl) (by decide) (by decide) h_7 fun A_8 c_9 w a hs => ?_)
    refine Vk.pures 1 [(2, .slice A_8 ((([] : List Tapi_Op) ++ x0).length) c_9)] hs (by kernel_rfl) fun a hs => ?_
    replace hs := hs.pick [2] (L' := [(2, .slice A_8 ((([] : List Tapi_Op) ++ x0).length) c_9)]) (by kernel_rfl)
    refine Vk.done (by kernel_rfl) ?_
    refine hK4 _ _ ?_
    clear hK4
    refine wp_ret ?_
    exact Vk.ret1 (P := Try.prog) (fn := Try.f138) (R := slices_Clone_api_Op_api_Op.R κ S x0 (some p_x0) c_x0 r) (.slice A_8 ((([] : List Tapi_Op) ++ x0).length) c_9) hs rfl (by kernel_rfl) (by obtain rfl := Option.some.inj hm; exact ⟨A_8, c_9, rfl, (Own.to hs.own [0] 1 (by kernel_rfl) (by kernel_rfl))⟩)


abbrev slices_Clone_api_Span_api_Span.R (κ : Ctx) (S : List HP) (x0 : List Tapi_Span) (A_x0 : Option Addr) (c_x0 : Nat) (r : List Tapi_Span) : Ending → World → Prop := fun e w' => ∃ (A_r0 : Option Addr), ∃ (c_r0 : Nat), e = .returned (.slice A_r0 r.length c_r0) ∧ Own κ w' (rowp A_r0 c_r0 175 3 Tapi_Span.cells r :: S)
def slices_Clone_api_Span_api_Span.m (k : Nat) (x0 : List Tapi_Span) : Option (List Tapi_Span) := (if (([] : List Tapi_Span).length + x0.length) * 24 ≤ 140737488355328 then some (([] : List Tapi_Span) ++ x0) else none)

set_option maxRecDepth 100000 in
set_option maxHeartbeats 4000000 in
theorem slices_Clone_api_Span_api_Span.ok (k : Nat) (x0 : List Tapi_Span) (r : List Tapi_Span) (hm : slices_Clone_api_Span_api_Span.m k x0 = some r) (κ : Ctx) (w : World) (S : List HP) (A_x0 : Option Addr) (c_x0 : Nat) (hx_x0 : Sl κ S A_x0 c_x0 3 Tapi_Span.cells x0) (ho : Own κ w (S)) :
    Calls Try.prog 139 #[.slice A_x0 x0.length c_x0] w (slices_Clone_api_Span_api_Span.R κ S x0 A_x0 c_x0 r) := by
  unfold slices_Clone_api_Span_api_Span.m at hm
  rcases A_x0 with _ | p_x0
  · obtain rfl : c_x0 = 0 := hx_x0.none rfl
    obtain rfl : x0 = [] := List.length_eq_zero_iff.1 (Nat.le_zero.1 hx_x0.le)
    replace hm : some ([] : List Tapi_Span) = some r := by simpa using hm
    refine Vk.enter [(0, .slice none 0 0)] Try.func139 rfl Try.ntmps139 (by kernel_rfl) (Nat.le_of_ble_eq_true (by kernel_rfl)) ho fun a hs => ?_
    refine Vk.seq fun K1 hK1 => ?_
    refine Vk.region ?_
    refine Vk.pures 1 [(2, .slice none 0 0)] hs (by kernel_rfl) fun a hs => ?_
    replace hs := hs.pick [0] (L' := [(0, .slice none 0 0)]) (by kernel_rfl)
    refine Vk.done (by kernel_rfl) ?_
    refine hK1 _ _ ?_
    clear hK1
    refine Vk.seq fun K2 hK2 => ?_
    refine Vk.seq fun K3 hK3 => ?_
    refine Vk.region ?_
    refine Vk.pures 2 [(4, .bool true), (3, .slice none 0 0)] hs (by kernel_rfl) fun a hs => ?_
    replace hs := hs.pick [0, 4] (L' := [(0, .slice none 0 0), (4, .bool true)]) (by kernel_rfl)
    refine Vk.done (by kernel_rfl) ?_
    refine hK3 _ _ ?_
    clear hK3
    refine Vk.condT hs (by kernel_rfl) (by kernel_rfl) ?_
    refine Vk.seq fun K4 hK4 => ?_
    refine Vk.region ?_
    refine Vk.pures 1 [(2, .slice none 0 0)] hs (by kernel_rfl) fun a hs => ?_
    replace hs := hs.pick [2] (L' := [(2, .slice none 0 0)]) (by kernel_rfl)
    refine Vk.done (by kernel_rfl) ?_
    refine hK4 _ _ ?_
    clear hK4
    refine wp_ret ?_
    replace hs := hs.addRow none 175 3 Tapi_Span.cells
    exact Vk.ret1 (P := Try.prog) (fn := Try.f139) (R := slices_Clone_api_Span_api_Span.R κ S [] none 0 r) (.slice none (([] : List Tapi_Span).length) 0) hs rfl (by kernel_rfl) (by obtain rfl := Option.some.inj hm; exact ⟨none, 0, rfl, (Own.to hs.own [0] 1 (by kernel_rfl) (by kernel_rfl))⟩)
  · skip
    refine Vk.enter [(0, .slice (some p_x0) x0.length c_x0)] Try.func139 rfl Try.ntmps139 (by kernel_rfl) (Nat.le_of_ble_eq_true (by kernel_rfl)) ho fun a hs => ?_
    refine Vk.seq fun K1 hK1 => ?_
    refine Vk.region ?_
    refine Vk.pures 1 [(2, .slice none 0 0)] hs (by kernel_rfl) fun a hs => ?_
    replace hs := hs.pick [0] (L' := [(0, .slice (some p_x0) x0.length c_x0)]) (by kernel_rfl)
    refine Vk.done (by kernel_rfl) ?_
    refine hK1 _ _ ?_
    clear hK1
    refine Vk.seq fun K2 hK2 => ?_
    refine Vk.seq fun K3 hK3 => ?_
    refine Vk.region ?_
    refine Vk.pures 2 [(4, .bool false), (3, .slice (some p_x0) x0.length c_x0)] hs (by kernel_rfl) fun a hs => ?_
    replace hs := hs.pick [0, 4] (L' := [(0, .slice (some p_x0) x0.length c_x0), (4, .bool false)]) (by kernel_rfl)
    refine Vk.done (by kernel_rfl) ?_
    refine hK3 _ _ ?_
    clear hK3
    refine Vk.condF hs (by kernel_rfl) (by kernel_rfl) ?_
    refine wp_skip ?_
    refine hK2 _ _ ?_
    clear hK2
    refine Vk.seq fun K4 hK4 => ?_
    refine Vk.region ?_
    refine Vk.step (Vk.buildOp (sz := 3) (by_ := 24) (t := 60) (e := 175) (parts := #[]) (zs := vals [C.int .i64 0, C.int .i64 0, C.int .i64 0]) ([] : List Tapi_Span) Tapi_Span.cells (some 5) hs (by kernel_rfl) (by kernel_rfl) (by kernel_rfl) (by kernel_rfl) (by decide) rfl (fun x _ => rfl) (Nat.le_of_ble_eq_true (by kernel_rfl)) (by kernel_rfl) fun A_5 w a hs => ?_)
    refine Vk.pures 1 [(6, .slice (some p_x0) x0.length c_x0)] hs (by kernel_rfl) fun a hs => ?_
    obtain ⟨h_7, hm⟩ := ite_t hm
    refine Vk.step (Vk.appendOp (x := (.tmp 5)) (y := (.tmp 6)) (e := 175) (t := 60) (by_ := 24) (sz := 3) (enc := Tapi_Span.cells) (A := A_5) (cap := 0) (xs := ([] : List Tapi_Span)) (ys := x0) (B := (some p_x0)) (c2 := c_x0) 0 (some 7) hs (by kernel_rfl) (by kernel_rfl) (by kernel_rfl) (by kernel_rfl) rfl hx_x0.less (by kernel_rfl) (by kernel_rfl) (by decide) (by decide) h_7 fun A_8 c_9 w a hs => ?_)
    refine Vk.pures 1 [(2, .slice A_8 ((([] : List Tapi_Span) ++ x0).length) c_9)] hs (by kernel_rfl) fun a hs => ?_
    replace hs := hs.pick [2] (L' := [(2, .slice A_8 ((([] : List Tapi_Span) ++ x0).length) c_9)]) (by kernel_rfl)
    refine Vk.done (by kernel_rfl) ?_
    refine hK4 _ _ ?_
    clear hK4
    refine wp_ret ?_
    exact Vk.ret1 (P := Try.prog) (fn := Try.f139) (R := slices_Clone_api_Span_api_Span.R κ S x0 (some p_x0) c_x0 r) (.slice A_8 ((([] : List Tapi_Span) ++ x0).length) c_9) hs rfl (by kernel_rfl) (by obtain rfl := Option.some.inj hm; exact ⟨A_8, c_9, rfl, (Own.to hs.own [0] 1 (by kernel_rfl) (by kernel_rfl))⟩)

structure Tapi_Trace where
  n : Int
  ops : List Tapi_Op
  blocks : List Tapi_Span
  deriving Inhabited
def Tapi_Trace.obj (x : Tapi_Trace) (Aops : Option Addr) (cops : Nat) (Ablocks : Option Addr) (cblocks : Nat) : Cells := [C.int .i64 x.n, C.slc Aops x.ops.length cops, C.slc Ablocks x.blocks.length cblocks]

abbrev wire_Machine_Trace.R (κ : Ctx) (S : List HP) (x0 : Twire_Machine) (b_x0 : Nat) (g_x0 : Nat × Option Addr × Nat × Option Addr × Nat × Option Addr × Nat) (r : Tapi_Trace) : Ending → World → Prop := fun e w' => ∃ (A_r0ops : Option Addr), ∃ (c_r0ops : Nat), ∃ (A_r0blocks : Option Addr), ∃ (c_r0blocks : Nat), e = .returned (.agg (vals [ci r.n, C.slc A_r0ops r.ops.length c_r0ops, C.slc A_r0blocks r.blocks.length c_r0blocks])) ∧ Own κ w' (rowp A_r0ops c_r0ops 93 6 Tapi_Op.cells r.ops :: rowp A_r0blocks c_r0blocks 175 3 Tapi_Span.cells r.blocks :: bagL (Twire_Machine.parts b_x0 x0 g_x0) :: S)
def wire_Machine_Trace.m (k : Nat) (x0 : Twire_Machine) : Option Tapi_Trace := (slices_Clone_api_Op_api_Op.m k x0.ops).bind fun v_12 => (slices_Clone_api_Span_api_Span.m k x0.blocks).bind fun v_17 => some (⟨x0.n, v_12, v_17⟩ : Tapi_Trace)

set_option maxRecDepth 100000 in
set_option maxHeartbeats 4000000 in
theorem wire_Machine_Trace.ok (k : Nat) (x0 : Twire_Machine) (r : Tapi_Trace) (hm : wire_Machine_Trace.m k x0 = some r) (κ : Ctx) (w : World) (S : List HP) (b_x0 : Nat) (g_x0 : Nat × Option Addr × Nat × Option Addr × Nat × Option Addr × Nat) (ho : Own κ w (bagL (Twire_Machine.parts b_x0 x0 g_x0) :: S)) :
    Calls Try.prog 62 #[pp b_x0] w (wire_Machine_Trace.R κ S x0 b_x0 g_x0 r) := by
  unfold wire_Machine_Trace.m at hm
  generalize hRR : wire_Machine_Trace.R κ S x0 b_x0 g_x0 r = RR
  refine qen [(0, pp b_x0)] Try.func62 Try.ntmps62 ho fun a hs => ?_
  refine qsr fun K1 hK1 => ?_
  refine Vk.step (Vk.alloc 2 102 [ci 0, C.slc none 0 0, C.slc none 0 0] hs (by kernel_rfl) (by kernel_rfl) (by kernel_rfl) fun b_2 w a hs => ?_)
  refine qpe 0 [(0, pp b_x0), (2, pp b_2)] hs fun a hs => hK1 _ _ ?_
  clear hK1
  refine Vk.seq fun K3 hK3 => ?_
  refine qsr fun K4 hK4 => ?_
  refine qpe 2 [(0, pp b_x0), (2, pp b_2), (4, .bool false)] hs fun a hs => hK4 _ _ ?_
  clear hK4
  refine qcf hs ?_
  refine wp_skip ?_
  refine hK3 _ _ ?_
  clear hK3
  refine Vk.seq fun K5 hK5 => ?_
  replace hs := hs.unbagAt 1 rfl
  obtain ⟨C_9, hC_9⟩ : ∃ X0 : List HP, X0 = (pt b_x0 (blk (Twire_Machine.obj x0 g_x0.1 g_x0.2.1 g_x0.2.2.1 g_x0.2.2.2.1 g_x0.2.2.2.2.1 g_x0.2.2.2.2.2.1 g_x0.2.2.2.2.2.2) 139) :: opto x0.dry (Ttape_Tape.own g_x0.1 x0.tape) :: rowp g_x0.2.1 g_x0.2.2.1 93 6 Tapi_Op.cells x0.ops :: rowp g_x0.2.2.2.1 g_x0.2.2.2.2.1 32 1 (eI .u64) x0.values :: rowp g_x0.2.2.2.2.2.1 g_x0.2.2.2.2.2.2 175 3 Tapi_Span.cells x0.blocks :: pt b_2 (blk [ci 0, C.slc none 0 0, C.slc none 0 0] 102) :: S) := ⟨_, rfl⟩
  refine qdr 15 κ C_9 hs fun w hs hqC_9 => ?_
  have hcz : Own κ w (pt b_x0 (blk (Twire_Machine.obj x0 g_x0.1 g_x0.2.1 g_x0.2.2.1 g_x0.2.2.2.1 g_x0.2.2.2.2.1 g_x0.2.2.2.2.2.1 g_x0.2.2.2.2.2.2) 139) :: opto x0.dry (Ttape_Tape.own g_x0.1 x0.tape) :: rowp g_x0.2.1 g_x0.2.2.1 93 6 Tapi_Op.cells x0.ops :: rowp g_x0.2.2.2.1 g_x0.2.2.2.2.1 32 1 (eI .u64) x0.values :: rowp g_x0.2.2.2.2.2.1 g_x0.2.2.2.2.2.2 175 3 Tapi_Span.cells x0.blocks :: pt b_2 (blk [ci 0, C.slc none 0 0, C.slc none 0 0] 102) :: S) := (Own.to hs.own [0, 1, 2, 3, 4, 5] 6 (by kernel_rfl) (by kernel_rfl))
  have hcl : Own κ w C_9 := by rw [hC_9]; exact hcz
  refine qdp (fuel := 7) [0, 1, 2, 4, 5, 6, 9, 10, 11] hs hcl hqC_9 fun a hs => ?_
  refine qdl 3 0 (ci x0.n) hs hcl hqC_9 hC_9 rfl fun a hs => ?_
  refine qdl 7 0 (C.slc g_x0.2.1 x0.ops.length g_x0.2.2.1) hs hcl hqC_9 hC_9 rfl fun a hs => ?_
  refine qdl 12 0 (C.slc g_x0.2.2.2.2.2.1 x0.blocks.length g_x0.2.2.2.2.2.2) hs hcl hqC_9 hC_9 rfl fun a hs => ?_
  obtain ⟨v_12, h_11, hm⟩ := bind_t hm
  refine Vk.dOnly (i := 8) (by kernel_rfl) (Vk.call (some 14) 138 #[.slice g_x0.2.1 x0.ops.length g_x0.2.2.1] hs (by kernel_rfl) (by kernel_rfl) (by kernel_rfl) ?_)
  refine (slices_Clone_api_Op_api_Op.ok k x0.ops v_12 h_11 κ w (pt b_x0 (blk (Twire_Machine.obj x0 g_x0.1 g_x0.2.1 g_x0.2.2.1 g_x0.2.2.2.1 g_x0.2.2.2.2.1 g_x0.2.2.2.2.2.1 g_x0.2.2.2.2.2.2) 139) :: opto x0.dry (Ttape_Tape.own g_x0.1 x0.tape) :: rowp g_x0.2.1 g_x0.2.2.1 93 6 Tapi_Op.cells x0.ops :: rowp g_x0.2.2.2.1 g_x0.2.2.2.2.1 32 1 (eI .u64) x0.values :: rowp g_x0.2.2.2.2.2.1 g_x0.2.2.2.2.2.2 175 3 Tapi_Span.cells x0.blocks :: pt b_2 (blk [ci 0, C.slc none 0 0, C.slc none 0 0] 102) :: S) g_x0.2.1 g_x0.2.2.1 (Sl.lift (fun w ho => (Own.to (S' := rowp g_x0.2.1 g_x0.2.2.1 93 6 Tapi_Op.cells x0.ops :: S) ho [2] 6 (by kernel_rfl) (by kernel_rfl))) (Own.rowSl 0 (Own.to (S' := rowp g_x0.2.1 g_x0.2.2.1 93 6 Tapi_Op.cells x0.ops :: S) hs.own [2] 6 (by kernel_rfl) (by kernel_rfl)) rfl)) hs.own).mono ?_
  rintro _ w ⟨Ar10x0_13, cr10x0_14, rfl, how⟩
  refine ⟨_, _, _, rfl, how, fun a hs => ?_⟩
  replace hcl : Own κ w C_9 := by rw [hC_9]; exact (Own.to hs.own [1, 2, 3, 4, 5, 6] 7 (by kernel_rfl) (by kernel_rfl))
  refine ⟨fun _ => hcl, ?_⟩
  obtain ⟨v_17, h_16, hm⟩ := bind_t hm
  refine Vk.dOnly (i := 13) (by kernel_rfl) (Vk.call (some 19) 139 #[.slice g_x0.2.2.2.2.2.1 x0.blocks.length g_x0.2.2.2.2.2.2] hs (by kernel_rfl) (by kernel_rfl) (by kernel_rfl) ?_)
  refine (slices_Clone_api_Span_api_Span.ok k x0.blocks v_17 h_16 κ w (rowp Ar10x0_13 cr10x0_14 93 6 Tapi_Op.cells v_12 :: pt b_x0 (blk (Twire_Machine.obj x0 g_x0.1 g_x0.2.1 g_x0.2.2.1 g_x0.2.2.2.1 g_x0.2.2.2.2.1 g_x0.2.2.2.2.2.1 g_x0.2.2.2.2.2.2) 139) :: opto x0.dry (Ttape_Tape.own g_x0.1 x0.tape) :: rowp g_x0.2.1 g_x0.2.2.1 93 6 Tapi_Op.cells x0.ops :: rowp g_x0.2.2.2.1 g_x0.2.2.2.2.1 32 1 (eI .u64) x0.values :: rowp g_x0.2.2.2.2.2.1 g_x0.2.2.2.2.2.2 175 3 Tapi_Span.cells x0.blocks :: pt b_2 (blk [ci 0, C.slc none 0 0, C.slc none 0 0] 102) :: S) g_x0.2.2.2.2.2.1 g_x0.2.2.2.2.2.2 (Sl.lift (fun w ho => (Own.to (S' := rowp g_x0.2.2.2.2.2.1 g_x0.2.2.2.2.2.2 175 3 Tapi_Span.cells x0.blocks :: S) ho [5] 7 (by kernel_rfl) (by kernel_rfl))) (Own.rowSl 0 (Own.to (S' := rowp g_x0.2.2.2.2.2.1 g_x0.2.2.2.2.2.2 175 3 Tapi_Span.cells x0.blocks :: S) hs.own [5] 7 (by kernel_rfl) (by kernel_rfl)) rfl)) hs.own).mono ?_
  rintro _ w ⟨Ar15x0_18, cr15x0_19, rfl, how⟩
  refine ⟨_, _, _, rfl, how, fun a hs => ?_⟩
  replace hcl : Own κ w C_9 := by rw [hC_9]; exact (Own.to hs.own [2, 3, 4, 5, 6, 7] 8 (by kernel_rfl) (by kernel_rfl))
  refine ⟨fun _ => hcl, ?_⟩
  refine qdp (fuel := 1) [14] hs hcl hqC_9 fun a hs => ?_
  refine Vk.dOnly (i := 15) (by kernel_rfl) (Vk.storeA (b := b_2) (ty := 102) (x := (.tmp 2)) (y := (.tmp 20)) (sz := 3) [ci x0.n, C.slc Ar10x0_13 v_12.length cr10x0_14, C.slc Ar15x0_18 v_17.length cr15x0_19] 7 hs (by kernel_rfl) (by kernel_rfl) (by kernel_rfl) (by kernel_rfl) (by kernel_rfl) rfl (by kernel_rfl) rfl (Eq.trans (b := 3) rfl (Eq.symm rfl)) fun a w hs => ?_)
  refine ⟨fun h => absurd h (by decide), ?_⟩
  replace hs := hs.pick [2] (L' := [(2, pp b_2)]) (by kernel_rfl)
  refine Vk.dDone (by kernel_rfl) ?_
  refine hK5 _ _ ?_
  clear hK5
  refine wp_ret ?_
  replace hs := hs.bagG (l := Twire_Machine.parts b_x0 x0 g_x0) (S' := rowp Ar15x0_18 cr15x0_19 175 3 Tapi_Span.cells v_17 :: rowp Ar10x0_13 cr10x0_14 93 6 Tapi_Op.cells v_12 :: pt b_2 (blk [ci x0.n, C.slc Ar10x0_13 v_12.length cr10x0_14, C.slc Ar15x0_18 v_17.length cr15x0_19] 102) :: S) (Own.to hs.own [2, 3, 4, 5, 6, 0, 1, 7] 8 (by kernel_rfl) (by kernel_rfl))
  exact Vk.retC (P := Try.prog) (fn := Try.f62) (R := RR) [ci x0.n, C.slc Ar10x0_13 v_12.length cr10x0_14, C.slc Ar15x0_18 v_17.length cr15x0_19] hs rfl (by kernel_rfl) (sz := 3) (by kernel_rfl) rfl (CellsAt.all 3 rfl) (by obtain rfl := Option.some.inj hm; subst hRR; exact ⟨Ar10x0_13, cr10x0_14, Ar15x0_18, cr15x0_19, rfl, (Own.to hs.own [2, 1, 0] 4 (by kernel_rfl) (by kernel_rfl))⟩)


def visorref18_Same.j2 (k : Nat) (rec36 : Int → Option (Sum (Bool) (Unit))) (q_37 : Int) (p_62 : Tapi_Op) (p_66 : Tapi_Op) : Option (Sum (Bool) (Unit)) := (bif !(((p_66.kind == p_62.kind) && ((p_66.dom == p_62.dom) && ((p_66.a == p_62.a) && ((p_66.b == p_62.b) && ((p_66.d == p_62.d) && ((p_66.c == p_62.c) && true))))))) then some (.inl false) else rec36 (IntKind.i64.wrap (q_37 + 1)))
def visorref18_Same.j1 (k : Nat) (rec36 : Int → Option (Sum (Bool) (Unit))) (q_37 : Int) (p_60 : Tapi_Op) (p_62 : Tapi_Op) : Option (Sum (Bool) (Unit)) := (bif (p_60.kind == 4) && (p_62.kind == 4) then visorref18_Same.j2 k (rec36) q_37 p_62 (⟨p_60.kind, p_60.dom, p_60.a, p_60.b, p_60.d, p_62.c⟩ : Tapi_Op) else visorref18_Same.j2 k (rec36) q_37 p_62 p_60)
def visorref18_Same.l2 (x0 : Tapi_Trace) (x1 : Tapi_Trace) : Nat → Int → Option (Sum (Bool) (Unit))
  | 0, _ => none
  | k + 1, q_37 => (bif decide (q_37 < ((x0.ops.length : Nat) : Int)) then (if 0 ≤ q_37 then (x0.ops[q_37.toNat]?).bind fun e_46 => (if 0 ≤ q_37 then (x1.ops[q_37.toNat]?).bind fun e_53 => visorref18_Same.j1 k (visorref18_Same.l2 x0 x1 k) q_37 e_46 e_53 else none) else none) else some (.inr ()))
def visorref18_Same.l1 (x0 : Tapi_Trace) (x1 : Tapi_Trace) : Nat → Int → Option (Sum (Bool) (Unit))
  | 0, _ => none
  | k + 1, q_12 => (bif decide (q_12 < ((x0.blocks.length : Nat) : Int)) then (if 0 ≤ q_12 then (x0.blocks[q_12.toNat]?).bind fun e_21 => (if 0 ≤ q_12 then (x1.blocks[q_12.toNat]?).bind fun e_28 => (bif !(((e_21.kind == e_28.kind) && ((e_21.fromF == e_28.fromF) && ((e_21.to == e_28.to) && true)))) then some (.inl false) else visorref18_Same.l1 x0 x1 k (IntKind.i64.wrap (q_12 + 1))) else none) else none) else some (.inr ()))
abbrev visorref18_Same.R (κ : Ctx) (S : List HP) (x0 : Tapi_Trace) (x1 : Tapi_Trace) (A_x0ops : Option Addr) (c_x0ops : Nat) (A_x0blocks : Option Addr) (c_x0blocks : Nat) (A_x1ops : Option Addr) (c_x1ops : Nat) (A_x1blocks : Option Addr) (c_x1blocks : Nat) (r : Bool) : Ending → World → Prop := fun e w' => e = .returned (.bool r) ∧ Own κ w' (S)
def visorref18_Same.m (k : Nat) (x0 : Tapi_Trace) (x1 : Tapi_Trace) : Option Bool := (bif ((x0.n != x1.n) || (((x0.ops.length : Nat) : Int) != ((x1.ops.length : Nat) : Int))) || (((x0.blocks.length : Nat) : Int) != ((x1.blocks.length : Nat) : Int)) then some false else (visorref18_Same.l1 x0 x1 k 0).bind fun x => match x with | .inl v => some v | .inr () => (visorref18_Same.l2 x0 x1 k 0).bind fun x => match x with | .inl v => some v | .inr () => some true)

set_option maxRecDepth 100000 in
set_option maxHeartbeats 4000000 in
theorem visorref18_Same.ok (k : Nat) (x0 : Tapi_Trace) (x1 : Tapi_Trace) (r : Bool) (hm : visorref18_Same.m k x0 x1 = some r) (κ : Ctx) (w : World) (S : List HP) (A_x0ops : Option Addr) (c_x0ops : Nat) (hx_x0ops : Sl κ S A_x0ops c_x0ops 6 Tapi_Op.cells x0.ops) (A_x0blocks : Option Addr) (c_x0blocks : Nat) (hx_x0blocks : Sl κ S A_x0blocks c_x0blocks 3 Tapi_Span.cells x0.blocks) (A_x1ops : Option Addr) (c_x1ops : Nat) (hx_x1ops : Sl κ S A_x1ops c_x1ops 6 Tapi_Op.cells x1.ops) (A_x1blocks : Option Addr) (c_x1blocks : Nat) (hx_x1blocks : Sl κ S A_x1blocks c_x1blocks 3 Tapi_Span.cells x1.blocks) (ho : Own κ w (S)) :
    Calls Try.prog 109 #[.agg (vals [ci x0.n, C.slc A_x0ops x0.ops.length c_x0ops, C.slc A_x0blocks x0.blocks.length c_x0blocks]), .agg (vals [ci x1.n, C.slc A_x1ops x1.ops.length c_x1ops, C.slc A_x1blocks x1.blocks.length c_x1blocks])] w (visorref18_Same.R κ S x0 x1 A_x0ops c_x0ops A_x0blocks c_x0blocks A_x1ops c_x1ops A_x1blocks c_x1blocks r) := by
  unfold visorref18_Same.m at hm
  generalize hRR : visorref18_Same.R κ S x0 x1 A_x0ops c_x0ops A_x0blocks c_x0blocks A_x1ops c_x1ops A_x1blocks c_x1blocks r = RR
  refine qen [(0, .agg (vals [ci x0.n, C.slc A_x0ops x0.ops.length c_x0ops, C.slc A_x0blocks x0.blocks.length c_x0blocks])), (1, .agg (vals [ci x1.n, C.slc A_x1ops x1.ops.length c_x1ops, C.slc A_x1blocks x1.blocks.length c_x1blocks]))] Try.func109 Try.ntmps109 ho fun a hs => ?_
  refine qsr fun K1 hK1 => ?_
  refine Vk.step (Vk.box (x := (.tmp 0)) 2 102 [ci x0.n, C.slc A_x0ops x0.ops.length c_x0ops, C.slc A_x0blocks x0.blocks.length c_x0blocks] hs (by kernel_rfl) (by kernel_rfl) (by kernel_rfl) fun b_2 w a hs => ?_)
  refine Vk.step (Vk.box (x := (.tmp 1)) 3 102 [ci x1.n, C.slc A_x1ops x1.ops.length c_x1ops, C.slc A_x1blocks x1.blocks.length c_x1blocks] hs (by kernel_rfl) (by kernel_rfl) (by kernel_rfl) fun b_3 w a hs => ?_)
  refine qpe 1 [(2, pp b_2), (3, pp b_3)] hs fun a hs => hK1 _ _ ?_
  clear hK1
  refine Vk.seq fun K4 hK4 => ?_
  refine qsr fun K5 hK5 => ?_
  refine qpu 1 hs fun a hs => ?_
  refine qld 1 (ci x0.n) hs rfl fun a hs => ?_
  refine qpu 1 hs fun a hs => ?_
  refine qld 0 (ci x1.n) hs rfl fun a hs => ?_
  refine qpu 2 hs fun a hs => ?_
  suffices hj_6 : ∀ a, St 81 a w κ [(2, pp b_2), (3, pp b_3), (9, pp b_2), (10, vi x0.n), (11, pp b_3), (12, vi x1.n), (13, .bool (x0.n != x1.n)), (14, .bool (x0.n != x1.n)), (22, .bool ((x0.n != x1.n) || (((x0.ops.length : Nat) : Int) != ((x1.ops.length : Nat) : Int))))] (pt b_3 (blk (Tapi_Trace.obj x1 A_x1ops c_x1ops A_x1blocks c_x1blocks) 102) :: pt b_2 (blk (Tapi_Trace.obj x0 A_x0ops c_x0ops A_x0blocks c_x0blocks) 102) :: S) → wpFrom Try.prog _ _ 14 a w by
    rcases Bool.eq_false_or_eq_true (x0.n != x1.n) with hb | hb
    · replace hs := hs.known (t := 14) hb (by kernel_rfl)
      refine qpu 8 hs fun a hs => ?_
      have hq := hs.pick [2, 3, 9, 10, 11, 12, 13, 14, 22] (L' := [(2, pp b_2), (3, pp b_3), (9, pp b_2), (10, vi x0.n), (11, pp b_3), (12, vi x1.n), (13, .bool (x0.n != x1.n)), (14, .bool true), (22, .bool true)]) (by kernel_rfl)
      exact hj_6 _ (hq.conv (by first | (rw [hb] <;> rfl) | rfl))
    · replace hs := hs.known (t := 14) hb (by kernel_rfl)
      refine qpu 1 hs fun a hs => ?_
      refine qld 1 (C.slc A_x0ops x0.ops.length c_x0ops) hs rfl fun a hs => ?_
      refine qpu 2 hs fun a hs => ?_
      refine qld 0 (C.slc A_x1ops x1.ops.length c_x1ops) hs rfl fun a hs => ?_
      refine qpu 3 hs fun a hs => ?_
      have hq := hs.pick [2, 3, 9, 10, 11, 12, 13, 14, 22] (L' := [(2, pp b_2), (3, pp b_3), (9, pp b_2), (10, vi x0.n), (11, pp b_3), (12, vi x1.n), (13, .bool (x0.n != x1.n)), (14, .bool false), (22, .bool (((x0.ops.length : Nat) : Int) != ((x1.ops.length : Nat) : Int)))]) (by kernel_rfl)
      exact hj_6 _ (hq.conv (by first | (rw [hb] <;> rfl) | rfl))
  intro a hs
  refine qpu 1 hs fun a hs => ?_
  suffices hj_7 : ∀ a, St 81 a w κ [(2, pp b_2), (3, pp b_3), (9, pp b_2), (10, vi x0.n), (11, pp b_3), (12, vi x1.n), (13, .bool (x0.n != x1.n)), (14, .bool (x0.n != x1.n)), (22, .bool ((x0.n != x1.n) || (((x0.ops.length : Nat) : Int) != ((x1.ops.length : Nat) : Int)))), (23, .bool ((x0.n != x1.n) || (((x0.ops.length : Nat) : Int) != ((x1.ops.length : Nat) : Int)))), (31, .bool (((x0.n != x1.n) || (((x0.ops.length : Nat) : Int) != ((x1.ops.length : Nat) : Int))) || (((x0.blocks.length : Nat) : Int) != ((x1.blocks.length : Nat) : Int))))] (pt b_3 (blk (Tapi_Trace.obj x1 A_x1ops c_x1ops A_x1blocks c_x1blocks) 102) :: pt b_2 (blk (Tapi_Trace.obj x0 A_x0ops c_x0ops A_x0blocks c_x0blocks) 102) :: S) → wpFrom Try.prog _ _ 23 a w by
    rcases Bool.eq_false_or_eq_true ((x0.n != x1.n) || (((x0.ops.length : Nat) : Int) != ((x1.ops.length : Nat) : Int))) with hb | hb
    · replace hs := hs.known (t := 23) hb (by kernel_rfl)
      refine qpu 8 hs fun a hs => ?_
      have hq := hs.pick [2, 3, 9, 10, 11, 12, 13, 14, 22, 23, 31] (L' := [(2, pp b_2), (3, pp b_3), (9, pp b_2), (10, vi x0.n), (11, pp b_3), (12, vi x1.n), (13, .bool (x0.n != x1.n)), (14, .bool (x0.n != x1.n)), (22, .bool ((x0.n != x1.n) || (((x0.ops.length : Nat) : Int) != ((x1.ops.length : Nat) : Int)))), (23, .bool true), (31, .bool true)]) (by kernel_rfl)
      exact hj_7 _ (hq.conv (by first | (rw [hb] <;> rfl) | rfl))
    · replace hs := hs.known (t := 23) hb (by kernel_rfl)
      refine qpu 1 hs fun a hs => ?_
      refine qld 1 (C.slc A_x0blocks x0.blocks.length c_x0blocks) hs rfl fun a hs => ?_
      refine qpu 2 hs fun a hs => ?_
      refine qld 0 (C.slc A_x1blocks x1.blocks.length c_x1blocks) hs rfl fun a hs => ?_
      refine qpu 3 hs fun a hs => ?_
      have hq := hs.pick [2, 3, 9, 10, 11, 12, 13, 14, 22, 23, 31] (L' := [(2, pp b_2), (3, pp b_3), (9, pp b_2), (10, vi x0.n), (11, pp b_3), (12, vi x1.n), (13, .bool (x0.n != x1.n)), (14, .bool (x0.n != x1.n)), (22, .bool ((x0.n != x1.n) || (((x0.ops.length : Nat) : Int) != ((x1.ops.length : Nat) : Int)))), (23, .bool false), (31, .bool (((x0.blocks.length : Nat) : Int) != ((x1.blocks.length : Nat) : Int)))]) (by kernel_rfl)
      exact hj_7 _ (hq.conv (by first | (rw [hb] <;> rfl) | rfl))
  intro a hs
  refine qpe 0 [(2, pp b_2), (3, pp b_3), (31, .bool (((x0.n != x1.n) || (((x0.ops.length : Nat) : Int) != ((x1.ops.length : Nat) : Int))) || (((x0.blocks.length : Nat) : Int) != ((x1.blocks.length : Nat) : Int))))] hs fun a hs => hK5 _ _ ?_
  clear hK5
  refine qcs (((x0.n != x1.n) || (((x0.ops.length : Nat) : Int) != ((x1.ops.length : Nat) : Int))) || (((x0.blocks.length : Nat) : Int) != ((x1.blocks.length : Nat) : Int))) hs (fun hb => ?_) fun hb => ?_
  · replace hm := bif_t hm hb
    refine qsr fun K8 hK8 => ?_
    refine qpe 1 [(4, .bool false)] hs fun a hs => hK8 _ _ ?_
    clear hK8
    refine wp_ret ?_
    exact Vk.ret1 (P := Try.prog) (fn := Try.f109) (R := RR) (.bool false) hs rfl (by kernel_rfl) (by obtain rfl := Option.some.inj hm; subst hRR; exact ⟨rfl, (Own.to hs.own [] 2 (by kernel_rfl) (by kernel_rfl))⟩)
  · replace hm := bif_f hm hb
    refine wp_skip ?_
    refine hK4 _ _ ?_
    clear hK4
    refine Vk.seq fun K9 hK9 => ?_
    refine qsr fun K10 hK10 => ?_
    refine qpe 1 [(2, pp b_2), (3, pp b_3), (5, vi 0)] hs fun a hs => hK10 _ _ ?_
    clear hK10
    refine wp_block ?_
    obtain ⟨r11, hl11, hm⟩ := bind_t hm
    have hx11 : r11 = Sum.inr () → ∀ (a : Act) (w : World), St 81 a w κ [(2, pp b_2), (3, pp b_3)] (pt b_2 (blk (Tapi_Trace.obj x0 A_x0ops c_x0ops A_x0blocks c_x0blocks) 102) :: pt b_3 (blk (Tapi_Trace.obj x1 A_x1ops c_x1ops A_x1blocks c_x1blocks) 102) :: S) → K9 a w := by
      intro he a w hs
      subst r11
      refine hK9 _ _ ?_
      clear hK9
      refine Vk.seq fun K34 hK34 => ?_
      refine qsr fun K35 hK35 => ?_
      refine qpe 1 [(2, pp b_2), (3, pp b_3), (6, vi 0)] hs fun a hs => hK35 _ _ ?_
      clear hK35
      refine wp_block ?_
      obtain ⟨r36, hl36, hm⟩ := bind_t hm
      have hx36 : r36 = Sum.inr () → ∀ (a : Act) (w : World), St 81 a w κ [] (S) → K34 a w := by
        intro he a w hs
        subst r36
        refine hK34 _ _ ?_
        clear hK34
        refine qsr fun K70 hK70 => ?_
        refine qpe 1 [(4, .bool true)] hs fun a hs => hK70 _ _ ?_
        clear hK70
        refine wp_ret ?_
        exact Vk.ret1 (P := Try.prog) (fn := Try.f109) (R := RR) (.bool true) hs rfl (by kernel_rfl) (by obtain rfl := Option.some.inj hm; subst hRR; exact ⟨rfl, (Own.to hs.own [] 0 (by kernel_rfl) (by kernel_rfl))⟩)
      have hret36 : ∀ v, r36 = Sum.inl v → v = r := by intro v he; subst r36; exact Option.some.inj hm
      refine Vk.loopBy (fun k (s : Int) a w => visorref18_Same.l2 x0 x1 k s = some r36 ∧ St 81 a w κ [(2, pp b_2), (3, pp b_3), (6, vi s)] (pt b_2 (blk (Tapi_Trace.obj x0 A_x0ops c_x0ops A_x0blocks c_x0blocks) 102) :: pt b_3 (blk (Tapi_Trace.obj x1 A_x1ops c_x1ops A_x1blocks c_x1blocks) 102) :: S)) k 0 ⟨hl36, hs.go [2, 3, 6] [0, 1] 2 (by kernel_rfl) (by kernel_rfl) (by kernel_rfl)⟩ (fun s a w h => by obtain ⟨h1, _⟩ := h; simp [visorref18_Same.l2] at h1) (fun k KL36 ih q_37 a w h => ?_)
      obtain ⟨hm, hs⟩ := h
      try dsimp only at hm hs
      rw [visorref18_Same.l2] at hm
      refine Vk.seq fun K38 hK38 => ?_
      refine qsr fun K39 hK39 => ?_
      refine qpu 2 hs fun a hs => ?_
      refine qld 0 (C.slc A_x0ops x0.ops.length c_x0ops) hs rfl fun a hs => ?_
      refine qpe 2 [(2, pp b_2), (3, pp b_3), (6, vi q_37), (54, .bool (decide (q_37 < ((x0.ops.length : Nat) : Int))))] hs fun a hs => hK39 _ _ ?_
      clear hK39
      refine qcs (decide (q_37 < ((x0.ops.length : Nat) : Int))) hs (fun hb => ?_) fun hb => ?_
      · replace hm := bif_t hm hb
        refine wp_skip ?_
        refine hK38 _ _ ?_
        clear hK38
        refine Vk.seq fun K40 hK40 => ?_
        refine wp_block ?_
        refine Vk.seq fun K41 hK41 => ?_
        have hj41 : ∀ (p_60 : Tapi_Op) (p_62 : Tapi_Op), visorref18_Same.j1 k (visorref18_Same.l2 x0 x1 k) q_37 p_60 p_62 = some r36 → ∀ (b_59 : Nat) (b_61 : Nat) (a : Act) (w : World), St 81 a w κ [(2, pp b_2), (3, pp b_3), (6, vi q_37), (7, pp b_59), (8, pp b_61)] (pt b_2 (blk (Tapi_Trace.obj x0 A_x0ops c_x0ops A_x0blocks c_x0blocks) 102) :: pt b_3 (blk (Tapi_Trace.obj x1 A_x1ops c_x1ops A_x1blocks c_x1blocks) 102) :: pt b_59 (blk (Tapi_Op.cells p_60) 93) :: pt b_61 (blk (Tapi_Op.cells p_62) 93) :: S) → K41 a w := by
          intro p_60 p_62 hm b_59 b_61 a w hs
          unfold visorref18_Same.j1 at hm
          refine hK41 _ _ ?_
          refine Vk.seq fun K63 hK63 => ?_
          have hj63 : ∀ (p_66 : Tapi_Op), visorref18_Same.j2 k (visorref18_Same.l2 x0 x1 k) q_37 p_62 p_66 = some r36 → ∀ (a : Act) (w : World), St 81 a w κ [(2, pp b_2), (3, pp b_3), (6, vi q_37), (7, pp b_59), (8, pp b_61)] (pt b_2 (blk (Tapi_Trace.obj x0 A_x0ops c_x0ops A_x0blocks c_x0blocks) 102) :: pt b_3 (blk (Tapi_Trace.obj x1 A_x1ops c_x1ops A_x1blocks c_x1blocks) 102) :: pt b_59 (blk (Tapi_Op.cells p_66) 93) :: pt b_61 (blk (Tapi_Op.cells p_62) 93) :: S) → K63 a w := by
            intro p_66 hm a w hs
            unfold visorref18_Same.j2 at hm
            refine hK63 _ _ ?_
            refine qsr fun K67 hK67 => ?_
            refine qln 2 ([ci p_66.kind, ci p_66.dom, ci p_66.a, ci p_66.b, ci p_66.d, cw p_66.c]) hs rfl fun a hs => ?_
            refine qln 3 ([ci p_62.kind, ci p_62.dom, ci p_62.a, ci p_62.b, ci p_62.d, cw p_62.c]) hs rfl fun a hs => ?_
            refine Vk.step (Vk.value (some 80) (.bool (!(((p_66.kind == p_62.kind) && ((p_66.dom == p_62.dom) && ((p_66.a == p_62.a) && ((p_66.b == p_62.b) && ((p_66.d == p_62.d) && ((p_66.c == p_62.c) && true))))))))) hs (by kernel_rfl) (op := (.binOp .neq 93 (.tmp 78) (.tmp 79) 93)) (by kernel_rfl) (fun o ho => run_neqV (ks := ([LK.int .i64] ++ [LK.int .i64] ++ [LK.int .i64] ++ [LK.int .i64] ++ [LK.int .i64] ++ [LK.int .u64])) (cs := [ci p_66.kind, ci p_66.dom, ci p_66.a, ci p_66.b, ci p_66.d, cw p_66.c]) (us := [ci p_62.kind, ci p_62.dom, ci p_62.a, ci p_62.b, ci p_62.d, cw p_62.c]) ho (by kernel_rfl) (by kernel_rfl) (by kernel_rfl) rfl rfl _) fun a hs => ?_)
            refine qpe 0 [(2, pp b_2), (3, pp b_3), (6, vi q_37), (80, .bool (!(((p_66.kind == p_62.kind) && ((p_66.dom == p_62.dom) && ((p_66.a == p_62.a) && ((p_66.b == p_62.b) && ((p_66.d == p_62.d) && ((p_66.c == p_62.c) && true)))))))))] hs fun a hs => hK67 _ _ ?_
            clear hK67
            refine qcs (!(((p_66.kind == p_62.kind) && ((p_66.dom == p_62.dom) && ((p_66.a == p_62.a) && ((p_66.b == p_62.b) && ((p_66.d == p_62.d) && ((p_66.c == p_62.c) && true)))))))) hs (fun hb => ?_) fun hb => ?_
            · replace hm := bif_t hm hb
              refine qsr fun K68 hK68 => ?_
              refine qpe 1 [(4, .bool false)] hs fun a hs => hK68 _ _ ?_
              clear hK68
              refine wp_ret ?_
              exact Vk.ret1 (P := Try.prog) (fn := Try.f109) (R := RR) (.bool false) hs rfl (by kernel_rfl) (by obtain rfl := hret36 _ ((Option.some.inj hm).symm); subst hRR; exact ⟨rfl, (Own.to hs.own [] 4 (by kernel_rfl) (by kernel_rfl))⟩)
            · replace hm := bif_f hm hb
              refine wp_skip ?_
              refine hK40 _ _ ?_
              clear hK40
              refine Vk.region ?_
              refine qpe 3 [(2, pp b_2), (3, pp b_3), (6, vi (IntKind.i64.wrap (q_37 + 1)))] hs fun a hs => ?_
              refine ih (IntKind.i64.wrap (q_37 + 1)) _ _ ⟨hm, hs.go [2, 3, 6] [0, 1] 4 (by kernel_rfl) (by kernel_rfl) (by kernel_rfl)⟩
          refine qsr fun K64 hK64 => ?_
          refine qpu 1 hs fun a hs => ?_
          refine qld 2 (ci p_60.kind) hs rfl fun a hs => ?_
          refine qpu 2 hs fun a hs => ?_
          suffices hj_65 : ∀ a, St 81 a w κ [(2, pp b_2), (3, pp b_3), (6, vi q_37), (7, pp b_59), (8, pp b_61), (67, pp b_59), (68, vi p_60.kind), (69, .bool (p_60.kind == 4)), (70, .bool (p_60.kind == 4)), (74, .bool ((p_60.kind == 4) && (p_62.kind == 4)))] (pt b_2 (blk (Tapi_Trace.obj x0 A_x0ops c_x0ops A_x0blocks c_x0blocks) 102) :: pt b_3 (blk (Tapi_Trace.obj x1 A_x1ops c_x1ops A_x1blocks c_x1blocks) 102) :: pt b_59 (blk (Tapi_Op.cells p_60) 93) :: pt b_61 (blk (Tapi_Op.cells p_62) 93) :: S) → wpFrom Try.prog _ _ 8 a w by
            rcases Bool.eq_false_or_eq_true (p_60.kind == 4) with hb | hb
            · replace hs := hs.known (t := 70) hb (by kernel_rfl)
              refine qpu 1 hs fun a hs => ?_
              refine qld 3 (ci p_62.kind) hs rfl fun a hs => ?_
              refine qpu 2 hs fun a hs => ?_
              have hq := hs.pick [2, 3, 6, 7, 8, 67, 68, 69, 70, 74] (L' := [(2, pp b_2), (3, pp b_3), (6, vi q_37), (7, pp b_59), (8, pp b_61), (67, pp b_59), (68, vi p_60.kind), (69, .bool (p_60.kind == 4)), (70, .bool true), (74, .bool (p_62.kind == 4))]) (by kernel_rfl)
              exact hj_65 _ (hq.conv (by first | (rw [hb] <;> rfl) | rfl))
            · replace hs := hs.known (t := 70) hb (by kernel_rfl)
              refine qpu 4 hs fun a hs => ?_
              have hq := hs.pick [2, 3, 6, 7, 8, 67, 68, 69, 70, 74] (L' := [(2, pp b_2), (3, pp b_3), (6, vi q_37), (7, pp b_59), (8, pp b_61), (67, pp b_59), (68, vi p_60.kind), (69, .bool (p_60.kind == 4)), (70, .bool false), (74, .bool false)]) (by kernel_rfl)
              exact hj_65 _ (hq.conv (by first | (rw [hb] <;> rfl) | rfl))
          intro a hs
          refine qpe 0 [(2, pp b_2), (3, pp b_3), (6, vi q_37), (7, pp b_59), (8, pp b_61), (74, .bool ((p_60.kind == 4) && (p_62.kind == 4)))] hs fun a hs => hK64 _ _ ?_
          clear hK64
          refine qcs ((p_60.kind == 4) && (p_62.kind == 4)) hs (fun hb => ?_) fun hb => ?_
          · replace hm := bif_t hm hb
            refine Vk.region ?_
            refine qpu 1 hs fun a hs => ?_
            refine qld 3 (cw p_62.c) hs rfl fun a hs => ?_
            refine qpu 1 hs fun a hs => ?_
            refine Vk.step (Vk.store1 (b := b_59) (ty := 32) (x := (.tmp 77)) (y := (.tmp 76)) (off := 5) (cw p_62.c) 2 hs (by kernel_rfl) (by kernel_rfl) (by kernel_rfl) (by kernel_rfl) (by kernel_rfl) (by kernel_rfl) rfl (Nat.le_of_ble_eq_true (by kernel_rfl)) fun a w hs => ?_)
            refine qpe 0 [(2, pp b_2), (3, pp b_3), (6, vi q_37), (7, pp b_59), (8, pp b_61)] hs fun a hs => ?_
            exact hj63 (⟨p_60.kind, p_60.dom, p_60.a, p_60.b, p_60.d, p_62.c⟩ : Tapi_Op) hm _ _ (hs.go [2, 3, 6, 7, 8] [0, 1, 2, 3] 4 (by kernel_rfl) (by kernel_rfl) (by kernel_rfl))
          · replace hm := bif_f hm hb
            refine wp_skip ?_
            exact hj63 p_60 hm _ _ (hs.go [2, 3, 6, 7, 8] [0, 1, 2, 3] 4 (by kernel_rfl) (by kernel_rfl) (by kernel_rfl))
        obtain ⟨C_42, hC_42⟩ : ∃ X0 : List HP, X0 = (pt b_2 (blk (Tapi_Trace.obj x0 A_x0ops c_x0ops A_x0blocks c_x0blocks) 102) :: pt b_3 (blk (Tapi_Trace.obj x1 A_x1ops c_x1ops A_x1blocks c_x1blocks) 102) :: S) := ⟨_, rfl⟩
        refine qdr 13 κ C_42 hs fun w hs hqC_42 => ?_
        have hcz : Own κ w (pt b_2 (blk (Tapi_Trace.obj x0 A_x0ops c_x0ops A_x0blocks c_x0blocks) 102) :: pt b_3 (blk (Tapi_Trace.obj x1 A_x1ops c_x1ops A_x1blocks c_x1blocks) 102) :: S) := (Own.to hs.own [0, 1] 2 (by kernel_rfl) (by kernel_rfl))
        have hcl : Own κ w C_42 := by rw [hC_42]; exact hcz
        refine qdp (fuel := 10) [0, 2, 5, 7] hs hcl hqC_42 fun a hs => ?_
        refine qdl 1 0 (C.slc A_x0ops x0.ops.length c_x0ops) hs hcl hqC_42 hC_42 rfl fun a hs => ?_
        obtain ⟨h_43, hm⟩ := ite_t hm
        obtain ⟨e_46, h_44, hm⟩ := bind_t hm
        obtain ⟨b_47, o_48, hA_49, h_45⟩ := Sl.elem hx_x0ops h_44
        refine Vk.dTakeT (i := 3) (some 60) (.pointer (some ⟨b_47, o_48 + q_37.toNat * 6, none⟩)) hs (by kernel_rfl) hqC_42 hcl (by kernel_rfl) (by kernel_rfl) (op := (.indexAddr 59 (.tmp 58) (.tmp 59))) (by kernel_rfl) (by kernel_rfl) (fun w hw o ho => by rw [hC_42] at hw; exact run_idxSlc (k := .i64) ho (cap := c_x0ops) (len := x0.ops.length) ((congrArg (fun A => Value.slice A (x0.ops.length) (c_x0ops)) hA_49) ▸ (by kernel_rfl)) (by kernel_rfl) (by kernel_rfl) (idx_ok h_43 h_44) _) fun a hs => ?_
        refine Vk.dTakeT (i := 4) (some 61) (.agg (vals [ci e_46.kind, ci e_46.dom, ci e_46.a, ci e_46.b, ci e_46.d, cw e_46.c])) hs (by kernel_rfl) hqC_42 hcl (by kernel_rfl) (by kernel_rfl) (op := (.load 93 (.tmp 60))) (by kernel_rfl) (by kernel_rfl) (fun w hw o ho => by rw [hC_42] at hw; exact run_loadN (cs := [ci e_46.kind, ci e_46.dom, ci e_46.a, ci e_46.b, ci e_46.d, cw e_46.c]) ho (by kernel_rfl) (by kernel_rfl) rfl h_45 _ hw.drop.drop) fun a hs => ?_
        refine qdl 6 1 (C.slc A_x1ops x1.ops.length c_x1ops) hs hcl hqC_42 hC_42 rfl fun a hs => ?_
        obtain ⟨h_50, hm⟩ := ite_t hm
        obtain ⟨e_53, h_51, hm⟩ := bind_t hm
        obtain ⟨b_54, o_55, hA_56, h_52⟩ := Sl.elem hx_x1ops h_51
        refine Vk.dTakeT (i := 8) (some 65) (.pointer (some ⟨b_54, o_55 + q_37.toNat * 6, none⟩)) hs (by kernel_rfl) hqC_42 hcl (by kernel_rfl) (by kernel_rfl) (op := (.indexAddr 59 (.tmp 63) (.tmp 64))) (by kernel_rfl) (by kernel_rfl) (fun w hw o ho => by rw [hC_42] at hw; exact run_idxSlc (k := .i64) ho (cap := c_x1ops) (len := x1.ops.length) ((congrArg (fun A => Value.slice A (x1.ops.length) (c_x1ops)) hA_56) ▸ (by kernel_rfl)) (by kernel_rfl) (by kernel_rfl) (idx_ok h_50 h_51) _) fun a hs => ?_
        refine Vk.dTakeT (i := 9) (some 66) (.agg (vals [ci e_53.kind, ci e_53.dom, ci e_53.a, ci e_53.b, ci e_53.d, cw e_53.c])) hs (by kernel_rfl) hqC_42 hcl (by kernel_rfl) (by kernel_rfl) (op := (.load 93 (.tmp 65))) (by kernel_rfl) (by kernel_rfl) (fun w hw o ho => by rw [hC_42] at hw; exact run_loadN (cs := [ci e_53.kind, ci e_53.dom, ci e_53.a, ci e_53.b, ci e_53.d, cw e_53.c]) ho (by kernel_rfl) (by kernel_rfl) rfl h_52 _ hw.drop.drop) fun a hs => ?_
        refine Vk.dMany2 (i0 := 10) (i1 := 11) (by kernel_rfl) ?_ ?_
        · refine Vk.alloc 7 93 [ci 0, ci 0, ci 0, ci 0, ci 0, cw 0] hs (by kernel_rfl) (by kernel_rfl) (by kernel_rfl) fun b_57 w a hs => ?_
          replace hcl : Own κ w C_42 := by rw [hC_42]; exact (Own.to hs.own [1, 2] 3 (by kernel_rfl) (by kernel_rfl))
          refine ⟨fun _ => hcl, ?_⟩
          refine Vk.dOnly (i := 11) (by kernel_rfl) (Vk.alloc 8 93 [ci 0, ci 0, ci 0, ci 0, ci 0, cw 0] hs (by kernel_rfl) (by kernel_rfl) (by kernel_rfl) fun b_58 w a hs => ?_)
          replace hcl : Own κ w C_42 := by rw [hC_42]; exact (Own.to hs.own [2, 3] 4 (by kernel_rfl) (by kernel_rfl))
          refine ⟨fun _ => hcl, ?_⟩
          refine Vk.dOnly (i := 12) (by kernel_rfl) (Vk.storeA (b := b_57) (ty := 93) (x := (.tmp 7)) (y := (.tmp 61)) (sz := 6) [ci e_46.kind, ci e_46.dom, ci e_46.a, ci e_46.b, ci e_46.d, cw e_46.c] 1 hs (by kernel_rfl) (by kernel_rfl) (by kernel_rfl) (by kernel_rfl) (by kernel_rfl) rfl (by kernel_rfl) rfl (Eq.trans (b := 6) rfl (Eq.symm rfl)) fun a w hs => ?_)
          replace hcl : Own κ w C_42 := by rw [hC_42]; exact (Own.to hs.own [2, 3] 4 (by kernel_rfl) (by kernel_rfl))
          refine ⟨fun _ => hcl, ?_⟩
          refine Vk.dOnly (i := 13) (by kernel_rfl) (Vk.storeA (b := b_58) (ty := 93) (x := (.tmp 8)) (y := (.tmp 66)) (sz := 6) [ci e_53.kind, ci e_53.dom, ci e_53.a, ci e_53.b, ci e_53.d, cw e_53.c] 0 hs (by kernel_rfl) (by kernel_rfl) (by kernel_rfl) (by kernel_rfl) (by kernel_rfl) rfl (by kernel_rfl) rfl (Eq.trans (b := 6) rfl (Eq.symm rfl)) fun a w hs => ?_)
          refine ⟨fun h => absurd h (by decide), ?_⟩
          replace hs := hs.pick [2, 3, 6, 7, 8] (L' := [(2, pp b_2), (3, pp b_3), (6, vi q_37), (7, pp b_57), (8, pp b_58)]) (by kernel_rfl)
          refine Vk.dDone (by kernel_rfl) ?_
          exact hj41 e_46 e_53 hm b_57 b_58 _ _ (hs.go [2, 3, 6, 7, 8] [2, 3, 1, 0] 4 (by kernel_rfl) (by kernel_rfl) (by kernel_rfl))
        · refine Vk.alloc 8 93 [ci 0, ci 0, ci 0, ci 0, ci 0, cw 0] hs (by kernel_rfl) (by kernel_rfl) (by kernel_rfl) fun b_57 w a hs => ?_
          replace hcl : Own κ w C_42 := by rw [hC_42]; exact (Own.to hs.own [1, 2] 3 (by kernel_rfl) (by kernel_rfl))
          refine ⟨fun _ => hcl, ?_⟩
          refine Vk.dOnly (i := 10) (by kernel_rfl) (Vk.alloc 7 93 [ci 0, ci 0, ci 0, ci 0, ci 0, cw 0] hs (by kernel_rfl) (by kernel_rfl) (by kernel_rfl) fun b_58 w a hs => ?_)
          replace hcl : Own κ w C_42 := by rw [hC_42]; exact (Own.to hs.own [2, 3] 4 (by kernel_rfl) (by kernel_rfl))
          refine ⟨fun _ => hcl, ?_⟩
          refine Vk.dOnly (i := 12) (by kernel_rfl) (Vk.storeA (b := b_58) (ty := 93) (x := (.tmp 7)) (y := (.tmp 61)) (sz := 6) [ci e_46.kind, ci e_46.dom, ci e_46.a, ci e_46.b, ci e_46.d, cw e_46.c] 0 hs (by kernel_rfl) (by kernel_rfl) (by kernel_rfl) (by kernel_rfl) (by kernel_rfl) rfl (by kernel_rfl) rfl (Eq.trans (b := 6) rfl (Eq.symm rfl)) fun a w hs => ?_)
          replace hcl : Own κ w C_42 := by rw [hC_42]; exact (Own.to hs.own [2, 3] 4 (by kernel_rfl) (by kernel_rfl))
          refine ⟨fun _ => hcl, ?_⟩
          refine Vk.dOnly (i := 13) (by kernel_rfl) (Vk.storeA (b := b_57) (ty := 93) (x := (.tmp 8)) (y := (.tmp 66)) (sz := 6) [ci e_53.kind, ci e_53.dom, ci e_53.a, ci e_53.b, ci e_53.d, cw e_53.c] 1 hs (by kernel_rfl) (by kernel_rfl) (by kernel_rfl) (by kernel_rfl) (by kernel_rfl) rfl (by kernel_rfl) rfl (Eq.trans (b := 6) rfl (Eq.symm rfl)) fun a w hs => ?_)
          refine ⟨fun h => absurd h (by decide), ?_⟩
          replace hs := hs.pick [2, 3, 6, 7, 8] (L' := [(2, pp b_2), (3, pp b_3), (6, vi q_37), (7, pp b_58), (8, pp b_57)]) (by kernel_rfl)
          refine Vk.dDone (by kernel_rfl) ?_
          exact hj41 e_46 e_53 hm b_58 b_57 _ _ (hs.go [2, 3, 6, 7, 8] [2, 3, 0, 1] 4 (by kernel_rfl) (by kernel_rfl) (by kernel_rfl))
      · replace hm := bif_f hm hb
        refine wp_exit ?_
        exact hx36 (Option.some.inj hm).symm _ _ (hs.go [] [] 2 (by kernel_rfl) (by kernel_rfl) (by kernel_rfl))
    have hret11 : ∀ v, r11 = Sum.inl v → v = r := by intro v he; subst r11; exact Option.some.inj hm
    refine Vk.loopBy (fun k (s : Int) a w => visorref18_Same.l1 x0 x1 k s = some r11 ∧ St 81 a w κ [(2, pp b_2), (3, pp b_3), (5, vi s)] (pt b_2 (blk (Tapi_Trace.obj x0 A_x0ops c_x0ops A_x0blocks c_x0blocks) 102) :: pt b_3 (blk (Tapi_Trace.obj x1 A_x1ops c_x1ops A_x1blocks c_x1blocks) 102) :: S)) k 0 ⟨hl11, hs.go [2, 3, 5] [1, 0] 2 (by kernel_rfl) (by kernel_rfl) (by kernel_rfl)⟩ (fun s a w h => by obtain ⟨h1, _⟩ := h; simp [visorref18_Same.l1] at h1) (fun k KL11 ih q_12 a w h => ?_)
    obtain ⟨hm, hs⟩ := h
    try dsimp only at hm hs
    rw [visorref18_Same.l1] at hm
    refine Vk.seq fun K13 hK13 => ?_
    refine qsr fun K14 hK14 => ?_
    refine qpu 2 hs fun a hs => ?_
    refine qld 0 (C.slc A_x0blocks x0.blocks.length c_x0blocks) hs rfl fun a hs => ?_
    refine qpe 2 [(2, pp b_2), (3, pp b_3), (5, vi q_12), (36, .bool (decide (q_12 < ((x0.blocks.length : Nat) : Int))))] hs fun a hs => hK14 _ _ ?_
    clear hK14
    refine qcs (decide (q_12 < ((x0.blocks.length : Nat) : Int))) hs (fun hb => ?_) fun hb => ?_
    · replace hm := bif_t hm hb
      refine wp_skip ?_
      refine hK13 _ _ ?_
      clear hK13
      refine Vk.seq fun K15 hK15 => ?_
      refine wp_block ?_
      refine Vk.seq fun K16 hK16 => ?_
      obtain ⟨C_17, hC_17⟩ : ∃ X0 : List HP, X0 = (pt b_2 (blk (Tapi_Trace.obj x0 A_x0ops c_x0ops A_x0blocks c_x0blocks) 102) :: pt b_3 (blk (Tapi_Trace.obj x1 A_x1ops c_x1ops A_x1blocks c_x1blocks) 102) :: S) := ⟨_, rfl⟩
      refine qdr 11 κ C_17 hs fun w hs hqC_17 => ?_
      have hcz : Own κ w (pt b_2 (blk (Tapi_Trace.obj x0 A_x0ops c_x0ops A_x0blocks c_x0blocks) 102) :: pt b_3 (blk (Tapi_Trace.obj x1 A_x1ops c_x1ops A_x1blocks c_x1blocks) 102) :: S) := (Own.to hs.own [0, 1] 2 (by kernel_rfl) (by kernel_rfl))
      have hcl : Own κ w C_17 := by rw [hC_17]; exact hcz
      refine qdp (fuel := 7) [0, 2, 5, 7] hs hcl hqC_17 fun a hs => ?_
      refine qdl 1 0 (C.slc A_x0blocks x0.blocks.length c_x0blocks) hs hcl hqC_17 hC_17 rfl fun a hs => ?_
      obtain ⟨h_18, hm⟩ := ite_t hm
      obtain ⟨e_21, h_19, hm⟩ := bind_t hm
      obtain ⟨b_22, o_23, hA_24, h_20⟩ := Sl.elem hx_x0blocks h_19
      refine Vk.dTakeT (i := 3) (some 42) (.pointer (some ⟨b_22, o_23 + q_12.toNat * 3, none⟩)) hs (by kernel_rfl) hqC_17 hcl (by kernel_rfl) (by kernel_rfl) (op := (.indexAddr 60 (.tmp 40) (.tmp 41))) (by kernel_rfl) (by kernel_rfl) (fun w hw o ho => by rw [hC_17] at hw; exact run_idxSlc (k := .i64) ho (cap := c_x0blocks) (len := x0.blocks.length) ((congrArg (fun A => Value.slice A (x0.blocks.length) (c_x0blocks)) hA_24) ▸ (by kernel_rfl)) (by kernel_rfl) (by kernel_rfl) (idx_ok h_18 h_19) _) fun a hs => ?_
      refine Vk.dTakeT (i := 4) (some 43) (.agg (vals [ci e_21.kind, ci e_21.fromF, ci e_21.to])) hs (by kernel_rfl) hqC_17 hcl (by kernel_rfl) (by kernel_rfl) (op := (.load 175 (.tmp 42))) (by kernel_rfl) (by kernel_rfl) (fun w hw o ho => by rw [hC_17] at hw; exact run_loadN (cs := [ci e_21.kind, ci e_21.fromF, ci e_21.to]) ho (by kernel_rfl) (by kernel_rfl) rfl h_20 _ hw.drop.drop) fun a hs => ?_
      refine qdl 6 1 (C.slc A_x1blocks x1.blocks.length c_x1blocks) hs hcl hqC_17 hC_17 rfl fun a hs => ?_
      obtain ⟨h_25, hm⟩ := ite_t hm
      obtain ⟨e_28, h_26, hm⟩ := bind_t hm
      obtain ⟨b_29, o_30, hA_31, h_27⟩ := Sl.elem hx_x1blocks h_26
      refine Vk.dTakeT (i := 8) (some 47) (.pointer (some ⟨b_29, o_30 + q_12.toNat * 3, none⟩)) hs (by kernel_rfl) hqC_17 hcl (by kernel_rfl) (by kernel_rfl) (op := (.indexAddr 60 (.tmp 45) (.tmp 46))) (by kernel_rfl) (by kernel_rfl) (fun w hw o ho => by rw [hC_17] at hw; exact run_idxSlc (k := .i64) ho (cap := c_x1blocks) (len := x1.blocks.length) ((congrArg (fun A => Value.slice A (x1.blocks.length) (c_x1blocks)) hA_31) ▸ (by kernel_rfl)) (by kernel_rfl) (by kernel_rfl) (idx_ok h_25 h_26) _) fun a hs => ?_
      refine Vk.dTakeT (i := 9) (some 48) (.agg (vals [ci e_28.kind, ci e_28.fromF, ci e_28.to])) hs (by kernel_rfl) hqC_17 hcl (by kernel_rfl) (by kernel_rfl) (op := (.load 175 (.tmp 47))) (by kernel_rfl) (by kernel_rfl) (fun w hw o ho => by rw [hC_17] at hw; exact run_loadN (cs := [ci e_28.kind, ci e_28.fromF, ci e_28.to]) ho (by kernel_rfl) (by kernel_rfl) rfl h_27 _ hw.drop.drop) fun a hs => ?_
      refine Vk.dTakeT (i := 10) (some 49) (.bool (!(((e_21.kind == e_28.kind) && ((e_21.fromF == e_28.fromF) && ((e_21.to == e_28.to) && true)))))) hs (by kernel_rfl) hqC_17 hcl (by kernel_rfl) (by kernel_rfl) (op := (.binOp .neq 175 (.tmp 43) (.tmp 48) 175)) (by kernel_rfl) (by kernel_rfl) (fun w hw o ho => by rw [hC_17] at hw; exact run_neqV (ks := ([LK.int .i64] ++ [LK.int .i64] ++ [LK.int .i64])) (cs := [ci e_21.kind, ci e_21.fromF, ci e_21.to]) (us := [ci e_28.kind, ci e_28.fromF, ci e_28.to]) ho (by kernel_rfl) (by kernel_rfl) (by kernel_rfl) rfl rfl _) fun a hs => ?_
      replace hs := hs.pick [2, 3, 5, 49] (L' := [(2, pp b_2), (3, pp b_3), (5, vi q_12), (49, .bool (!(((e_21.kind == e_28.kind) && ((e_21.fromF == e_28.fromF) && ((e_21.to == e_28.to) && true))))))]) (by kernel_rfl)
      refine Vk.dDone (by kernel_rfl) ?_
      refine hK16 _ _ ?_
      clear hK16
      refine qcs (!(((e_21.kind == e_28.kind) && ((e_21.fromF == e_28.fromF) && ((e_21.to == e_28.to) && true))))) hs (fun hb => ?_) fun hb => ?_
      · replace hm := bif_t hm hb
        refine qsr fun K32 hK32 => ?_
        refine qpe 1 [(4, .bool false)] hs fun a hs => hK32 _ _ ?_
        clear hK32
        refine wp_ret ?_
        exact Vk.ret1 (P := Try.prog) (fn := Try.f109) (R := RR) (.bool false) hs rfl (by kernel_rfl) (by obtain rfl := hret11 _ ((Option.some.inj hm).symm); subst hRR; exact ⟨rfl, (Own.to hs.own [] 2 (by kernel_rfl) (by kernel_rfl))⟩)
      · replace hm := bif_f hm hb
        refine wp_skip ?_
        refine hK15 _ _ ?_
        clear hK15
        refine Vk.region ?_
        refine qpe 3 [(2, pp b_2), (3, pp b_3), (5, vi (IntKind.i64.wrap (q_12 + 1)))] hs fun a hs => ?_
        refine ih (IntKind.i64.wrap (q_12 + 1)) _ _ ⟨hm, hs.go [2, 3, 5] [0, 1] 2 (by kernel_rfl) (by kernel_rfl) (by kernel_rfl)⟩
    · replace hm := bif_f hm hb
      refine wp_exit ?_
      exact hx11 (Option.some.inj hm).symm _ _ (hs.go [2, 3] [0, 1] 2 (by kernel_rfl) (by kernel_rfl) (by kernel_rfl))

structure Tvisorlaw20_Pair where
  m : Twire_Machine
  x : Tvisorref19_M
  l : List Cells
  v : List Int
  deriving Inhabited
def Tvisorlaw20_Pair.obj (x : Tvisorlaw20_Pair) (bm : Nat) (bx : Nat) (Al : Option Addr) (cl : Nat) (Av : Option Addr) (cv : Nat) : Cells := [C.ptr (some ⟨bm, 0, none⟩), C.ptr (some ⟨bx, 0, none⟩), C.slc Al x.l.length cl, C.slc Av x.v.length cv]

def visorlaw20_Pair_Like.l1 (x0 : Tvisorlaw20_Pair) (v_6 : List Int) : Nat → Int → Option (Sum (Bool) (Unit))
  | 0, _ => none
  | k + 1, q_39 => (bif decide (q_39 < ((v_6.length : Nat) : Int)) then (if 0 ≤ q_39 then (v_6[q_39.toNat]?).bind fun e_52 => (if 0 ≤ q_39 then (x0.x.val[q_39.toNat]?).bind fun e_59 => (bif e_52 != e_59 then some (.inl false) else visorlaw20_Pair_Like.l1 x0 v_6 k (IntKind.i64.wrap (q_39 + 1))) else none) else none) else some (.inr ()))
def visorlaw20_Pair_Like.j1 (k : Nat) (x0 : Tvisorlaw20_Pair) (v_6 : List Int) (p_34 : Bool) : Option (Bool) := (bif p_34 then some false else (visorlaw20_Pair_Like.l1 x0 v_6 k 0).bind fun x => match x with | .inl v => some v | .inr () => some true)
abbrev visorlaw20_Pair_Like.R (κ : Ctx) (S : List HP) (x0 : Tvisorlaw20_Pair) (b_x0m : Nat) (g_x0m : Nat × Option Addr × Nat × Option Addr × Nat × Option Addr × Nat) (b_x0x : Nat) (g_x0x : Option Addr × Nat × Option Addr × Nat × Option Addr × Nat × Option Addr × Nat) (A_x0l : Option Addr) (c_x0l : Nat) (A_x0v : Option Addr) (c_x0v : Nat) (r : Bool) : Ending → World → Prop := fun e w' => e = .returned (.bool r) ∧ Own κ w' (bagL (Twire_Machine.parts b_x0m x0.m g_x0m) :: bagL (Tvisorref19_M.parts κ b_x0x x0.x g_x0x) :: S)
def visorlaw20_Pair_Like.m (k : Nat) (x0 : Tvisorlaw20_Pair) : Option Bool := (wire_Machine_Values.m k x0.m).bind fun v_6 => (bif ((v_6.length : Nat) : Int) != ((x0.x.val.length : Nat) : Int) then visorlaw20_Pair_Like.j1 k x0 v_6 true else (wire_Machine_Err.m k x0.m).bind fun v_18 => (bif v_18 != x0.x.e then visorlaw20_Pair_Like.j1 k x0 v_6 true else (wire_Machine_Trace.m k x0.m).bind fun v_21 => (visorref18_Same.m k v_21 (⟨x0.x.n, x0.x.ops, x0.x.blocks⟩ : Tapi_Trace)).bind fun v_33 => visorlaw20_Pair_Like.j1 k x0 v_6 (!v_33)))

set_option maxRecDepth 100000 in
set_option maxHeartbeats 4000000 in
theorem visorlaw20_Pair_Like.ok (k : Nat) (x0 : Tvisorlaw20_Pair) (r : Bool) (hm : visorlaw20_Pair_Like.m k x0 = some r) (κ : Ctx) (w : World) (S : List HP) (b_x0m : Nat) (g_x0m : Nat × Option Addr × Nat × Option Addr × Nat × Option Addr × Nat) (b_x0x : Nat) (g_x0x : Option Addr × Nat × Option Addr × Nat × Option Addr × Nat × Option Addr × Nat) (A_x0l : Option Addr) (c_x0l : Nat) (hx_x0l : Sl κ S A_x0l c_x0l 3 eC x0.l) (A_x0v : Option Addr) (c_x0v : Nat) (hx_x0v : Sl κ S A_x0v c_x0v 1 (eI .u64) x0.v) (ho : Own κ w (bagL (Twire_Machine.parts b_x0m x0.m g_x0m) :: bagL (Tvisorref19_M.parts κ b_x0x x0.x g_x0x) :: S)) :
    Calls Try.prog 26 #[.agg (vals [cp b_x0m, cp b_x0x, C.slc A_x0l x0.l.length c_x0l, C.slc A_x0v x0.v.length c_x0v])] w (visorlaw20_Pair_Like.R κ S x0 b_x0m g_x0m b_x0x g_x0x A_x0l c_x0l A_x0v c_x0v r) := by
  unfold visorlaw20_Pair_Like.m at hm
  generalize hRR : visorlaw20_Pair_Like.R κ S x0 b_x0m g_x0m b_x0x g_x0x A_x0l c_x0l A_x0v c_x0v r = RR
  refine qen [(0, .agg (vals [cp b_x0m, cp b_x0x, C.slc A_x0l x0.l.length c_x0l, C.slc A_x0v x0.v.length c_x0v]))] Try.func26 Try.ntmps26 ho fun a hs => ?_
  refine qsr fun K1 hK1 => ?_
  refine Vk.step (Vk.box (x := (.tmp 0)) 1 45 [cp b_x0m, cp b_x0x, C.slc A_x0l x0.l.length c_x0l, C.slc A_x0v x0.v.length c_x0v] hs (by kernel_rfl) (by kernel_rfl) (by kernel_rfl) fun b_2 w a hs => ?_)
  refine qpe 1 [(1, pp b_2)] hs fun a hs => hK1 _ _ ?_
  clear hK1
  refine qsr fun K3 hK3 => ?_
  refine qpu 1 hs fun a hs => ?_
  refine qld 0 (cp b_x0m) hs rfl fun a hs => ?_
  obtain ⟨v_6, h_5, hm⟩ := bind_t hm
  refine Vk.step (Vk.call (some 7) 22 #[pp b_x0m] hs (by kernel_rfl) (by kernel_rfl) (by kernel_rfl) ?_)
  refine (wire_Machine_Values.ok k x0.m v_6 h_5 κ w (pt b_2 (blk (Tvisorlaw20_Pair.obj x0 b_x0m b_x0x A_x0l c_x0l A_x0v c_x0v) 45) :: bagL (Tvisorref19_M.parts κ b_x0x x0.x g_x0x) :: S) b_x0m g_x0m (Own.to hs.own [1, 0, 2] 3 (by kernel_rfl) (by kernel_rfl))).mono ?_
  rintro _ w ⟨Ar4x0_7, cr4x0_8, rfl, how⟩
  refine ⟨_, _, _, rfl, how, fun a hs => ?_⟩
  refine qpe 1 [(1, pp b_2), (3, .slice Ar4x0_7 v_6.length cr4x0_8)] hs fun a hs => hK3 _ _ ?_
  clear hK3
  refine Vk.seq fun K9 hK9 => ?_
  refine Vk.seq fun K10 hK10 => ?_
  have hj10 : ∀ (p_34 : Bool), visorlaw20_Pair_Like.j1 k x0 v_6 p_34 = some r → ∀ (a : Act) (w : World), St 57 a w κ [(1, pp b_2), (3, .slice Ar4x0_7 v_6.length cr4x0_8), (37, .bool p_34)] (pt b_2 (blk (Tvisorlaw20_Pair.obj x0 b_x0m b_x0x A_x0l c_x0l A_x0v c_x0v) 45) :: bagL (Twire_Machine.parts b_x0m x0.m g_x0m) :: bagL (Tvisorref19_M.parts κ b_x0x x0.x g_x0x) :: rowp Ar4x0_7 cr4x0_8 32 1 (eI .u64) v_6 :: S) → K10 a w := by
    intro p_34 hm a w hs
    unfold visorlaw20_Pair_Like.j1 at hm
    refine hK10 _ _ ?_
    refine qcs (p_34) hs (fun hb => ?_) fun hb => ?_
    · replace hm := bif_t hm hb
      refine qsr fun K35 hK35 => ?_
      refine qpe 1 [(2, .bool false)] hs fun a hs => hK35 _ _ ?_
      clear hK35
      refine wp_ret ?_
      exact Vk.ret1 (P := Try.prog) (fn := Try.f26) (R := RR) (.bool false) hs rfl (by kernel_rfl) (by obtain rfl := Option.some.inj hm; subst hRR; exact ⟨rfl, (Own.to hs.own [1, 2] 4 (by kernel_rfl) (by kernel_rfl))⟩)
    · replace hm := bif_f hm hb
      refine wp_skip ?_
      refine hK9 _ _ ?_
      clear hK9
      refine Vk.seq fun K36 hK36 => ?_
      refine qsr fun K37 hK37 => ?_
      refine qpe 1 [(1, pp b_2), (3, .slice Ar4x0_7 v_6.length cr4x0_8), (4, vi 0)] hs fun a hs => hK37 _ _ ?_
      clear hK37
      refine wp_block ?_
      obtain ⟨r38, hl38, hm⟩ := bind_t hm
      have hx38 : r38 = Sum.inr () → ∀ (a : Act) (w : World), St 57 a w κ [] (bagL (Twire_Machine.parts b_x0m x0.m g_x0m) :: bagL (Tvisorref19_M.parts κ b_x0x x0.x g_x0x) :: S) → K36 a w := by
        intro he a w hs
        subst r38
        refine hK36 _ _ ?_
        clear hK36
        refine qsr fun K65 hK65 => ?_
        refine qpe 1 [(2, .bool true)] hs fun a hs => hK65 _ _ ?_
        clear hK65
        refine wp_ret ?_
        exact Vk.ret1 (P := Try.prog) (fn := Try.f26) (R := RR) (.bool true) hs rfl (by kernel_rfl) (by obtain rfl := Option.some.inj hm; subst hRR; exact ⟨rfl, (Own.to hs.own [0, 1] 2 (by kernel_rfl) (by kernel_rfl))⟩)
      have hret38 : ∀ v, r38 = Sum.inl v → v = r := by intro v he; subst r38; exact Option.some.inj hm
      refine Vk.loopBy (fun k (s : Int) a w => visorlaw20_Pair_Like.l1 x0 v_6 k s = some r38 ∧ St 57 a w κ [(1, pp b_2), (3, .slice Ar4x0_7 v_6.length cr4x0_8), (4, vi s)] (pt b_2 (blk (Tvisorlaw20_Pair.obj x0 b_x0m b_x0x A_x0l c_x0l A_x0v c_x0v) 45) :: bagL (Twire_Machine.parts b_x0m x0.m g_x0m) :: bagL (Tvisorref19_M.parts κ b_x0x x0.x g_x0x) :: rowp Ar4x0_7 cr4x0_8 32 1 (eI .u64) v_6 :: S)) k 0 ⟨hl38, hs.go [1, 3, 4] [0, 1, 2, 3] 4 (by kernel_rfl) (by kernel_rfl) (by kernel_rfl)⟩ (fun s a w h => by obtain ⟨h1, _⟩ := h; simp [visorlaw20_Pair_Like.l1] at h1) (fun k KL38 ih q_39 a w h => ?_)
      obtain ⟨hm, hs⟩ := h
      try dsimp only at hm hs
      rw [visorlaw20_Pair_Like.l1] at hm
      refine Vk.seq fun K40 hK40 => ?_
      refine qsr fun K41 hK41 => ?_
      refine qpe 4 [(1, pp b_2), (3, .slice Ar4x0_7 v_6.length cr4x0_8), (4, vi q_39), (41, .bool (decide (q_39 < ((v_6.length : Nat) : Int))))] hs fun a hs => hK41 _ _ ?_
      clear hK41
      refine qcs (decide (q_39 < ((v_6.length : Nat) : Int))) hs (fun hb => ?_) fun hb => ?_
      · replace hm := bif_t hm hb
        refine wp_skip ?_
        refine hK40 _ _ ?_
        clear hK40
        refine Vk.seq fun K42 hK42 => ?_
        refine wp_block ?_
        refine Vk.seq fun K43 hK43 => ?_
        replace hs := hs.unbagAt 2 rfl
        obtain ⟨C_48, hC_48⟩ : ∃ X0 : List HP, X0 = (pt b_x0x (blk (Tvisorref19_M.obj x0.x g_x0x.1 g_x0x.2.1 g_x0x.2.2.1 g_x0x.2.2.2.1 g_x0x.2.2.2.2.1 g_x0x.2.2.2.2.2.1 g_x0x.2.2.2.2.2.2.1 g_x0x.2.2.2.2.2.2.2) 64) :: rowp g_x0x.1 g_x0x.2.1 93 6 Tapi_Op.cells x0.x.ops :: rowp g_x0x.2.2.1 g_x0x.2.2.2.1 175 3 Tapi_Span.cells x0.x.blocks :: rowp g_x0x.2.2.2.2.1 g_x0x.2.2.2.2.2.1 32 1 (eI .u64) x0.x.val :: rdp κ g_x0x.2.2.2.2.2.2.1 g_x0x.2.2.2.2.2.2.2 1 (eI .u64) x0.x.tape.l :: pt b_2 (blk (Tvisorlaw20_Pair.obj x0 b_x0m b_x0x A_x0l c_x0l A_x0v c_x0v) 45) :: bagL (Twire_Machine.parts b_x0m x0.m g_x0m) :: rowp Ar4x0_7 cr4x0_8 32 1 (eI .u64) v_6 :: S) := ⟨_, rfl⟩
        refine qdr 13 κ C_48 hs fun w hs hqC_48 => ?_
        have hcz : Own κ w (pt b_x0x (blk (Tvisorref19_M.obj x0.x g_x0x.1 g_x0x.2.1 g_x0x.2.2.1 g_x0x.2.2.2.1 g_x0x.2.2.2.2.1 g_x0x.2.2.2.2.2.1 g_x0x.2.2.2.2.2.2.1 g_x0x.2.2.2.2.2.2.2) 64) :: rowp g_x0x.1 g_x0x.2.1 93 6 Tapi_Op.cells x0.x.ops :: rowp g_x0x.2.2.1 g_x0x.2.2.2.1 175 3 Tapi_Span.cells x0.x.blocks :: rowp g_x0x.2.2.2.2.1 g_x0x.2.2.2.2.2.1 32 1 (eI .u64) x0.x.val :: rdp κ g_x0x.2.2.2.2.2.2.1 g_x0x.2.2.2.2.2.2.2 1 (eI .u64) x0.x.tape.l :: pt b_2 (blk (Tvisorlaw20_Pair.obj x0 b_x0m b_x0x A_x0l c_x0l A_x0v c_x0v) 45) :: bagL (Twire_Machine.parts b_x0m x0.m g_x0m) :: rowp Ar4x0_7 cr4x0_8 32 1 (eI .u64) v_6 :: S) := (Own.to hs.own [0, 1, 2, 3, 4, 5, 6, 7] 8 (by kernel_rfl) (by kernel_rfl))
        have hcl : Own κ w C_48 := by rw [hC_48]; exact hcz
        refine qdp (fuel := 9) [0, 1, 4, 9] hs hcl hqC_48 fun a hs => ?_
        obtain ⟨h_49, hm⟩ := ite_t hm
        obtain ⟨e_52, h_50, hm⟩ := bind_t hm
        obtain ⟨b_53, o_54, hA_55, h_51⟩ := Sl.elem (Own.rowSl 0 hcz.drop.drop.drop.drop.drop.drop.drop rfl) h_50
        refine Vk.dTakeT (i := 2) (some 46) (.pointer (some ⟨b_53, o_54 + q_39.toNat * 1, none⟩)) hs (by kernel_rfl) hqC_48 hcl (by kernel_rfl) (by kernel_rfl) (op := (.indexAddr 25 (.tmp 44) (.tmp 45))) (by kernel_rfl) (by kernel_rfl) (fun w hw o ho => by rw [hC_48] at hw; exact run_idxSlc (k := .i64) ho (cap := cr4x0_8) (len := v_6.length) ((congrArg (fun A => Value.slice A (v_6.length) (cr4x0_8)) hA_55) ▸ (by kernel_rfl)) (by kernel_rfl) (by kernel_rfl) (idx_ok h_49 h_50) _) fun a hs => ?_
        refine Vk.dTakeT (i := 3) (some 47) (vw e_52) hs (by kernel_rfl) hqC_48 hcl (by kernel_rfl) (by kernel_rfl) (op := (.load 32 (.tmp 46))) (by kernel_rfl) (by kernel_rfl) (fun w hw o ho => by rw [hC_48] at hw; exact run_load1 (c := cw e_52) ho (by kernel_rfl) (by kernel_rfl) (fun w ho => h_51 w ho 0 _ rfl) _ hw.drop.drop.drop.drop.drop.drop.drop) fun a hs => ?_
        refine qdl 5 5 (cp b_x0x) hs hcl hqC_48 hC_48 rfl fun a hs => ?_
        refine qdp (fuel := 4) [6, 7] hs hcl hqC_48 fun a hs => ?_
        refine qdl 8 0 (C.slc g_x0x.2.2.2.2.1 x0.x.val.length g_x0x.2.2.2.2.2.1) hs hcl hqC_48 hC_48 rfl fun a hs => ?_
        obtain ⟨h_56, hm⟩ := ite_t hm
        obtain ⟨e_59, h_57, hm⟩ := bind_t hm
        obtain ⟨b_60, o_61, hA_62, h_58⟩ := Sl.elem (Own.rowSl 0 (Own.to (S' := rowp g_x0x.2.2.2.2.1 g_x0x.2.2.2.2.2.1 32 1 (eI .u64) x0.x.val :: S) hcz [3] 8 (by kernel_rfl) (by kernel_rfl)) rfl) h_57
        refine Vk.dTakeT (i := 10) (some 54) (.pointer (some ⟨b_60, o_61 + q_39.toNat * 1, none⟩)) hs (by kernel_rfl) hqC_48 hcl (by kernel_rfl) (by kernel_rfl) (op := (.indexAddr 25 (.tmp 52) (.tmp 53))) (by kernel_rfl) (by kernel_rfl) (fun w hw o ho => by rw [hC_48] at hw; exact run_idxSlc (k := .i64) ho (cap := g_x0x.2.2.2.2.2.1) (len := x0.x.val.length) ((congrArg (fun A => Value.slice A (x0.x.val.length) (g_x0x.2.2.2.2.2.1)) hA_62) ▸ (by kernel_rfl)) (by kernel_rfl) (by kernel_rfl) (idx_ok h_56 h_57) _) fun a hs => ?_
        refine Vk.dTakeT (i := 11) (some 55) (vw e_59) hs (by kernel_rfl) hqC_48 hcl (by kernel_rfl) (by kernel_rfl) (op := (.load 32 (.tmp 54))) (by kernel_rfl) (by kernel_rfl) (fun w hw o ho => by rw [hC_48] at hw; exact run_load1 (c := cw e_59) ho (by kernel_rfl) (by kernel_rfl) (fun w ho => h_58 w ho 0 _ rfl) _ (Own.to (S' := rowp g_x0x.2.2.2.2.1 g_x0x.2.2.2.2.2.1 32 1 (eI .u64) x0.x.val :: S) hw [3] 8 (by kernel_rfl) (by kernel_rfl))) fun a hs => ?_
        refine qdp (fuel := 0) [12] hs hcl hqC_48 fun a hs => ?_
        replace hs := hs.pick [1, 3, 4, 56] (L' := [(1, pp b_2), (3, .slice Ar4x0_7 v_6.length cr4x0_8), (4, vi q_39), (56, .bool (e_52 != e_59))]) (by kernel_rfl)
        refine Vk.dDone (by kernel_rfl) ?_
        refine hK43 _ _ ?_
        clear hK43
        refine qcs (e_52 != e_59) hs (fun hb => ?_) fun hb => ?_
        · replace hm := bif_t hm hb
          refine qsr fun K63 hK63 => ?_
          refine qpe 1 [(2, .bool false)] hs fun a hs => hK63 _ _ ?_
          clear hK63
          refine wp_ret ?_
          replace hs := hs.bagG (l := Tvisorref19_M.parts κ b_x0x x0.x g_x0x) (S' := pt b_2 (blk (Tvisorlaw20_Pair.obj x0 b_x0m b_x0x A_x0l c_x0l A_x0v c_x0v) 45) :: bagL (Twire_Machine.parts b_x0m x0.m g_x0m) :: rowp Ar4x0_7 cr4x0_8 32 1 (eI .u64) v_6 :: S) (Own.to hs.own [0, 1, 2, 3, 4, 5, 6, 7] 8 (by kernel_rfl) (by kernel_rfl))
          exact Vk.ret1 (P := Try.prog) (fn := Try.f26) (R := RR) (.bool false) hs rfl (by kernel_rfl) (by obtain rfl := hret38 _ ((Option.some.inj hm).symm); subst hRR; exact ⟨rfl, (Own.to hs.own [2, 0] 4 (by kernel_rfl) (by kernel_rfl))⟩)
        · replace hm := bif_f hm hb
          refine wp_skip ?_
          refine hK42 _ _ ?_
          clear hK42
          refine Vk.region ?_
          refine qpe 3 [(1, pp b_2), (3, .slice Ar4x0_7 v_6.length cr4x0_8), (4, vi (IntKind.i64.wrap (q_39 + 1)))] hs fun a hs => ?_
          replace hs := hs.bagG (l := Tvisorref19_M.parts κ b_x0x x0.x g_x0x) (S' := pt b_2 (blk (Tvisorlaw20_Pair.obj x0 b_x0m b_x0x A_x0l c_x0l A_x0v c_x0v) 45) :: bagL (Twire_Machine.parts b_x0m x0.m g_x0m) :: rowp Ar4x0_7 cr4x0_8 32 1 (eI .u64) v_6 :: S) (Own.to hs.own [0, 1, 2, 3, 4, 5, 6, 7] 8 (by kernel_rfl) (by kernel_rfl))
          refine ih (IntKind.i64.wrap (q_39 + 1)) _ _ ⟨hm, hs.go [1, 3, 4] [1, 2, 0, 3] 4 (by kernel_rfl) (by kernel_rfl) (by kernel_rfl)⟩
      · replace hm := bif_f hm hb
        refine wp_exit ?_
        exact hx38 (Option.some.inj hm).symm _ _ (hs.go [] [1, 2] 4 (by kernel_rfl) (by kernel_rfl) (by kernel_rfl))
  replace hs := hs.unbagAt 3 rfl
  obtain ⟨C_15, hC_15⟩ : ∃ X0 : List HP, X0 = (pt b_x0x (blk (Tvisorref19_M.obj x0.x g_x0x.1 g_x0x.2.1 g_x0x.2.2.1 g_x0x.2.2.2.1 g_x0x.2.2.2.2.1 g_x0x.2.2.2.2.2.1 g_x0x.2.2.2.2.2.2.1 g_x0x.2.2.2.2.2.2.2) 64) :: rowp g_x0x.1 g_x0x.2.1 93 6 Tapi_Op.cells x0.x.ops :: rowp g_x0x.2.2.1 g_x0x.2.2.2.1 175 3 Tapi_Span.cells x0.x.blocks :: rowp g_x0x.2.2.2.2.1 g_x0x.2.2.2.2.2.1 32 1 (eI .u64) x0.x.val :: rdp κ g_x0x.2.2.2.2.2.2.1 g_x0x.2.2.2.2.2.2.2 1 (eI .u64) x0.x.tape.l :: rowp Ar4x0_7 cr4x0_8 32 1 (eI .u64) v_6 :: bagL (Twire_Machine.parts b_x0m x0.m g_x0m) :: pt b_2 (blk (Tvisorlaw20_Pair.obj x0 b_x0m b_x0x A_x0l c_x0l A_x0v c_x0v) 45) :: S) := ⟨_, rfl⟩
  refine qdr 30 κ C_15 hs fun w hs hqC_15 => ?_
  have hcz : Own κ w (pt b_x0x (blk (Tvisorref19_M.obj x0.x g_x0x.1 g_x0x.2.1 g_x0x.2.2.1 g_x0x.2.2.2.1 g_x0x.2.2.2.2.1 g_x0x.2.2.2.2.2.1 g_x0x.2.2.2.2.2.2.1 g_x0x.2.2.2.2.2.2.2) 64) :: rowp g_x0x.1 g_x0x.2.1 93 6 Tapi_Op.cells x0.x.ops :: rowp g_x0x.2.2.1 g_x0x.2.2.2.1 175 3 Tapi_Span.cells x0.x.blocks :: rowp g_x0x.2.2.2.2.1 g_x0x.2.2.2.2.2.1 32 1 (eI .u64) x0.x.val :: rdp κ g_x0x.2.2.2.2.2.2.1 g_x0x.2.2.2.2.2.2.2 1 (eI .u64) x0.x.tape.l :: rowp Ar4x0_7 cr4x0_8 32 1 (eI .u64) v_6 :: bagL (Twire_Machine.parts b_x0m x0.m g_x0m) :: pt b_2 (blk (Tvisorlaw20_Pair.obj x0 b_x0m b_x0x A_x0l c_x0l A_x0v c_x0v) 45) :: S) := (Own.to hs.own [0, 1, 2, 3, 4, 5, 6, 7] 8 (by kernel_rfl) (by kernel_rfl))
  have hcl : Own κ w C_15 := by rw [hC_15]; exact hcz
  refine qdp (fuel := 27) [0, 1, 2] hs hcl hqC_15 fun a hs => ?_
  refine qdl 3 7 (cp b_x0x) hs hcl hqC_15 hC_15 rfl fun a hs => ?_
  refine qdp (fuel := 24) [4, 5] hs hcl hqC_15 fun a hs => ?_
  refine qdl 6 0 (C.slc g_x0x.2.2.2.2.1 x0.x.val.length g_x0x.2.2.2.2.2.1) hs hcl hqC_15 hC_15 rfl fun a hs => ?_
  refine qdp (fuel := 20) [7, 8, 9] hs hcl hqC_15 fun a hs => ?_
  rcases Bool.eq_false_or_eq_true (((v_6.length : Nat) : Int) != ((x0.x.val.length : Nat) : Int)) with hb | hb
  · replace hm := bif_t hm hb
    replace hs := hs.known (t := 17) hb (by kernel_rfl)
    refine qdp (fuel := 0) [10, 11, 12, 13, 14, 15, 16, 17, 18, 19, 20, 21, 22, 23, 24, 25, 26, 27, 28, 29] hs hcl hqC_15 fun a hs => ?_
    replace hs := hs.pick [1, 3, 37] (L' := [(1, pp b_2), (3, .slice Ar4x0_7 v_6.length cr4x0_8), (37, .bool true)]) (by kernel_rfl)
    refine Vk.dDone (by kernel_rfl) ?_
    replace hs := hs.bagG (l := Tvisorref19_M.parts κ b_x0x x0.x g_x0x) (S' := rowp Ar4x0_7 cr4x0_8 32 1 (eI .u64) v_6 :: bagL (Twire_Machine.parts b_x0m x0.m g_x0m) :: pt b_2 (blk (Tvisorlaw20_Pair.obj x0 b_x0m b_x0x A_x0l c_x0l A_x0v c_x0v) 45) :: S) (Own.to hs.own [0, 1, 2, 3, 4, 5, 6, 7] 8 (by kernel_rfl) (by kernel_rfl))
    exact hj10 true hm _ _ (hs.go [1, 3, 37] [3, 2, 0, 1] 4 (by kernel_rfl) (by kernel_rfl) (by kernel_rfl))
  · replace hm := bif_f hm hb
    replace hs := hs.known (t := 17) hb (by kernel_rfl)
    refine qdp (fuel := 18) [10, 13] hs hcl hqC_15 fun a hs => ?_
    refine qdl 11 7 (cp b_x0m) hs hcl hqC_15 hC_15 rfl fun a hs => ?_
    refine qdl 14 7 (cp b_x0x) hs hcl hqC_15 hC_15 rfl fun a hs => ?_
    refine qdp (fuel := 14) [15, 16] hs hcl hqC_15 fun a hs => ?_
    refine qdl 17 0 (ci x0.x.e) hs hcl hqC_15 hC_15 rfl fun a hs => ?_
    obtain ⟨v_18, h_17, hm⟩ := bind_t hm
    refine Vk.dOnly (i := 12) (by kernel_rfl) (Vk.call (some 20) 23 #[pp b_x0m] hs (by kernel_rfl) (by kernel_rfl) (by kernel_rfl) ?_)
    refine (wire_Machine_Err.ok k x0.m v_18 h_17 κ w (pt b_x0x (blk (Tvisorref19_M.obj x0.x g_x0x.1 g_x0x.2.1 g_x0x.2.2.1 g_x0x.2.2.2.1 g_x0x.2.2.2.2.1 g_x0x.2.2.2.2.2.1 g_x0x.2.2.2.2.2.2.1 g_x0x.2.2.2.2.2.2.2) 64) :: rowp g_x0x.1 g_x0x.2.1 93 6 Tapi_Op.cells x0.x.ops :: rowp g_x0x.2.2.1 g_x0x.2.2.2.1 175 3 Tapi_Span.cells x0.x.blocks :: rowp g_x0x.2.2.2.2.1 g_x0x.2.2.2.2.2.1 32 1 (eI .u64) x0.x.val :: rdp κ g_x0x.2.2.2.2.2.2.1 g_x0x.2.2.2.2.2.2.2 1 (eI .u64) x0.x.tape.l :: rowp Ar4x0_7 cr4x0_8 32 1 (eI .u64) v_6 :: pt b_2 (blk (Tvisorlaw20_Pair.obj x0 b_x0m b_x0x A_x0l c_x0l A_x0v c_x0v) 45) :: S) b_x0m g_x0m (Own.to hs.own [6, 0, 1, 2, 3, 4, 5, 7] 8 (by kernel_rfl) (by kernel_rfl))).mono ?_
    rintro _ w ⟨rfl, how⟩
    refine ⟨_, _, _, rfl, how, fun a hs => ?_⟩
    replace hcl : Own κ w C_15 := by rw [hC_15]; exact (Own.to hs.own [1, 2, 3, 4, 5, 6, 0, 7] 8 (by kernel_rfl) (by kernel_rfl))
    refine ⟨fun _ => hcl, ?_⟩
    refine qdp (fuel := 9) [18, 19, 20] hs hcl hqC_15 fun a hs => ?_
    rcases Bool.eq_false_or_eq_true (v_18 != x0.x.e) with hb | hb
    · replace hm := bif_t hm hb
      replace hs := hs.known (t := 28) hb (by kernel_rfl)
      refine qdp (fuel := 0) [21, 22, 23, 24, 25, 26, 27, 28, 29] hs hcl hqC_15 fun a hs => ?_
      replace hs := hs.pick [1, 3, 37] (L' := [(1, pp b_2), (3, .slice Ar4x0_7 v_6.length cr4x0_8), (37, .bool true)]) (by kernel_rfl)
      refine Vk.dDone (by kernel_rfl) ?_
      replace hs := hs.bagG (l := Tvisorref19_M.parts κ b_x0x x0.x g_x0x) (S' := bagL (Twire_Machine.parts b_x0m x0.m g_x0m) :: rowp Ar4x0_7 cr4x0_8 32 1 (eI .u64) v_6 :: pt b_2 (blk (Tvisorlaw20_Pair.obj x0 b_x0m b_x0x A_x0l c_x0l A_x0v c_x0v) 45) :: S) (Own.to hs.own [1, 2, 3, 4, 5, 0, 6, 7] 8 (by kernel_rfl) (by kernel_rfl))
      exact hj10 true hm _ _ (hs.go [1, 3, 37] [3, 1, 0, 2] 4 (by kernel_rfl) (by kernel_rfl) (by kernel_rfl))
    · replace hm := bif_f hm hb
      replace hs := hs.known (t := 28) hb (by kernel_rfl)
      refine qdp (fuel := 7) [21, 24] hs hcl hqC_15 fun a hs => ?_
      refine qdl 22 7 (cp b_x0m) hs hcl hqC_15 hC_15 rfl fun a hs => ?_
      refine qdl 25 7 (cp b_x0x) hs hcl hqC_15 hC_15 rfl fun a hs => ?_
      obtain ⟨v_21, h_20, hm⟩ := bind_t hm
      refine Vk.dOnly (i := 23) (by kernel_rfl) (Vk.call (some 31) 62 #[pp b_x0m] hs (by kernel_rfl) (by kernel_rfl) (by kernel_rfl) ?_)
      refine (wire_Machine_Trace.ok k x0.m v_21 h_20 κ w (pt b_x0x (blk (Tvisorref19_M.obj x0.x g_x0x.1 g_x0x.2.1 g_x0x.2.2.1 g_x0x.2.2.2.1 g_x0x.2.2.2.2.1 g_x0x.2.2.2.2.2.1 g_x0x.2.2.2.2.2.2.1 g_x0x.2.2.2.2.2.2.2) 64) :: rowp g_x0x.1 g_x0x.2.1 93 6 Tapi_Op.cells x0.x.ops :: rowp g_x0x.2.2.1 g_x0x.2.2.2.1 175 3 Tapi_Span.cells x0.x.blocks :: rowp g_x0x.2.2.2.2.1 g_x0x.2.2.2.2.2.1 32 1 (eI .u64) x0.x.val :: rdp κ g_x0x.2.2.2.2.2.2.1 g_x0x.2.2.2.2.2.2.2 1 (eI .u64) x0.x.tape.l :: rowp Ar4x0_7 cr4x0_8 32 1 (eI .u64) v_6 :: pt b_2 (blk (Tvisorlaw20_Pair.obj x0 b_x0m b_x0x A_x0l c_x0l A_x0v c_x0v) 45) :: S) b_x0m g_x0m (Own.to hs.own [0, 1, 2, 3, 4, 5, 6, 7] 8 (by kernel_rfl) (by kernel_rfl))).mono ?_
      rintro _ w ⟨Ar19x0ops_22, cr19x0ops_23, Ar19x0blocks_24, cr19x0blocks_25, rfl, how⟩
      refine ⟨_, _, _, rfl, how, fun a hs => ?_⟩
      replace hcl : Own κ w C_15 := by rw [hC_15]; exact (Own.to hs.own [3, 4, 5, 6, 7, 8, 2, 9] 10 (by kernel_rfl) (by kernel_rfl))
      refine ⟨fun _ => hcl, ?_⟩
      refine Vk.dOnly (i := 26) (by kernel_rfl) (Vk.call (some 34) 110 #[pp b_x0x] hs (by kernel_rfl) (by kernel_rfl) (by kernel_rfl) ?_)
      refine Vk.enterI [(0, pp b_x0x)] Try.func110 rfl Try.ntmps110 (by kernel_rfl) (Nat.le_of_ble_eq_true (by kernel_rfl)) hs.own fun KR26 hKR26 hKP26 a hs => ?_
      refine qsr fun K27 hK27 => ?_
      refine Vk.step (Vk.alloc 2 102 [ci 0, C.slc none 0 0, C.slc none 0 0] hs (by kernel_rfl) (by kernel_rfl) (by kernel_rfl) fun b_28 w a hs => ?_)
      refine qpe 0 [(0, pp b_x0x), (2, pp b_28)] hs fun a hs => hK27 _ _ ?_
      clear hK27
      refine Vk.seq fun K29 hK29 => ?_
      obtain ⟨C_30, hC_30⟩ : ∃ X0 : List HP, X0 = (pt b_28 (blk [ci 0, C.slc none 0 0, C.slc none 0 0] 102) :: rowp Ar19x0ops_22 cr19x0ops_23 93 6 Tapi_Op.cells v_21.ops :: rowp Ar19x0blocks_24 cr19x0blocks_25 175 3 Tapi_Span.cells v_21.blocks :: bagL (Twire_Machine.parts b_x0m x0.m g_x0m) :: pt b_x0x (blk (Tvisorref19_M.obj x0.x g_x0x.1 g_x0x.2.1 g_x0x.2.2.1 g_x0x.2.2.2.1 g_x0x.2.2.2.2.1 g_x0x.2.2.2.2.2.1 g_x0x.2.2.2.2.2.2.1 g_x0x.2.2.2.2.2.2.2) 64) :: rowp g_x0x.1 g_x0x.2.1 93 6 Tapi_Op.cells x0.x.ops :: rowp g_x0x.2.2.1 g_x0x.2.2.2.1 175 3 Tapi_Span.cells x0.x.blocks :: rowp g_x0x.2.2.2.2.1 g_x0x.2.2.2.2.2.1 32 1 (eI .u64) x0.x.val :: rdp κ g_x0x.2.2.2.2.2.2.1 g_x0x.2.2.2.2.2.2.2 1 (eI .u64) x0.x.tape.l :: rowp Ar4x0_7 cr4x0_8 32 1 (eI .u64) v_6 :: pt b_2 (blk (Tvisorlaw20_Pair.obj x0 b_x0m b_x0x A_x0l c_x0l A_x0v c_x0v) 45) :: S) := ⟨_, rfl⟩
      refine qdr 13 κ C_30 hs fun w hs hqC_30 => ?_
      have hcz : Own κ w (pt b_28 (blk [ci 0, C.slc none 0 0, C.slc none 0 0] 102) :: rowp Ar19x0ops_22 cr19x0ops_23 93 6 Tapi_Op.cells v_21.ops :: rowp Ar19x0blocks_24 cr19x0blocks_25 175 3 Tapi_Span.cells v_21.blocks :: bagL (Twire_Machine.parts b_x0m x0.m g_x0m) :: pt b_x0x (blk (Tvisorref19_M.obj x0.x g_x0x.1 g_x0x.2.1 g_x0x.2.2.1 g_x0x.2.2.2.1 g_x0x.2.2.2.2.1 g_x0x.2.2.2.2.2.1 g_x0x.2.2.2.2.2.2.1 g_x0x.2.2.2.2.2.2.2) 64) :: rowp g_x0x.1 g_x0x.2.1 93 6 Tapi_Op.cells x0.x.ops :: rowp g_x0x.2.2.1 g_x0x.2.2.2.1 175 3 Tapi_Span.cells x0.x.blocks :: rowp g_x0x.2.2.2.2.1 g_x0x.2.2.2.2.2.1 32 1 (eI .u64) x0.x.val :: rdp κ g_x0x.2.2.2.2.2.2.1 g_x0x.2.2.2.2.2.2.2 1 (eI .u64) x0.x.tape.l :: rowp Ar4x0_7 cr4x0_8 32 1 (eI .u64) v_6 :: pt b_2 (blk (Tvisorlaw20_Pair.obj x0 b_x0m b_x0x A_x0l c_x0l A_x0v c_x0v) 45) :: S) := (Own.to hs.own [0, 1, 2, 3, 4, 5, 6, 7, 8, 9, 10] 11 (by kernel_rfl) (by kernel_rfl))
      have hcl : Own κ w C_30 := by rw [hC_30]; exact hcz
      refine qdp (fuel := 5) [0, 1, 2, 4, 5, 6, 8, 9, 10] hs hcl hqC_30 fun a hs => ?_
      refine qdl 3 4 (ci x0.x.n) hs hcl hqC_30 hC_30 rfl fun a hs => ?_
      refine qdl 7 4 (C.slc g_x0x.1 x0.x.ops.length g_x0x.2.1) hs hcl hqC_30 hC_30 rfl fun a hs => ?_
      refine qdl 11 4 (C.slc g_x0x.2.2.1 x0.x.blocks.length g_x0x.2.2.2.1) hs hcl hqC_30 hC_30 rfl fun a hs => ?_
      refine qdp (fuel := 1) [12] hs hcl hqC_30 fun a hs => ?_
      refine Vk.dOnly (i := 13) (by kernel_rfl) (Vk.storeA (b := b_28) (ty := 102) (x := (.tmp 2)) (y := (.tmp 15)) (sz := 3) [ci x0.x.n, C.slc g_x0x.1 x0.x.ops.length g_x0x.2.1, C.slc g_x0x.2.2.1 x0.x.blocks.length g_x0x.2.2.2.1] 0 hs (by kernel_rfl) (by kernel_rfl) (by kernel_rfl) (by kernel_rfl) (by kernel_rfl) rfl (by kernel_rfl) rfl (Eq.trans (b := 3) rfl (Eq.symm rfl)) fun a w hs => ?_)
      refine ⟨fun h => absurd h (by decide), ?_⟩
      replace hs := hs.pick [2] (L' := [(2, pp b_28)]) (by kernel_rfl)
      refine Vk.dDone (by kernel_rfl) ?_
      refine hK29 _ _ ?_
      clear hK29
      refine wp_ret ?_
      refine hKP26 _ _ ?_
      refine hKR26 _ _ ?_
      refine Vk.retC (P := Try.prog) (fn := Try.f110) [ci x0.x.n, C.slc g_x0x.1 x0.x.ops.length g_x0x.2.1, C.slc g_x0x.2.2.1 x0.x.blocks.length g_x0x.2.2.2.1] hs rfl (by kernel_rfl) (sz := 3) (by kernel_rfl) rfl (CellsAt.all 0 rfl) ⟨_, _, _, rfl, hs.own, fun a hs => ?_⟩
      replace hcl : Own κ w C_15 := by rw [hC_15]; exact (Own.to hs.own [4, 5, 6, 7, 8, 9, 3, 10] 11 (by kernel_rfl) (by kernel_rfl))
      refine ⟨fun _ => hcl, ?_⟩
      obtain ⟨v_33, h_32, hm⟩ := bind_t hm
      refine Vk.dOnly (i := 27) (by kernel_rfl) (Vk.call (some 35) 109 #[.agg (vals [ci v_21.n, C.slc Ar19x0ops_22 v_21.ops.length cr19x0ops_23, C.slc Ar19x0blocks_24 v_21.blocks.length cr19x0blocks_25]), .agg (vals [ci x0.x.n, C.slc g_x0x.1 x0.x.ops.length g_x0x.2.1, C.slc g_x0x.2.2.1 x0.x.blocks.length g_x0x.2.2.2.1])] hs (by kernel_rfl) (by kernel_rfl) (by kernel_rfl) ?_)
      refine (visorref18_Same.ok k v_21 (⟨x0.x.n, x0.x.ops, x0.x.blocks⟩ : Tapi_Trace) v_33 h_32 κ w (pt b_28 (blk [ci x0.x.n, C.slc g_x0x.1 x0.x.ops.length g_x0x.2.1, C.slc g_x0x.2.2.1 x0.x.blocks.length g_x0x.2.2.2.1] 102) :: rowp Ar19x0ops_22 cr19x0ops_23 93 6 Tapi_Op.cells v_21.ops :: rowp Ar19x0blocks_24 cr19x0blocks_25 175 3 Tapi_Span.cells v_21.blocks :: bagL (Twire_Machine.parts b_x0m x0.m g_x0m) :: pt b_x0x (blk (Tvisorref19_M.obj x0.x g_x0x.1 g_x0x.2.1 g_x0x.2.2.1 g_x0x.2.2.2.1 g_x0x.2.2.2.2.1 g_x0x.2.2.2.2.2.1 g_x0x.2.2.2.2.2.2.1 g_x0x.2.2.2.2.2.2.2) 64) :: rowp g_x0x.1 g_x0x.2.1 93 6 Tapi_Op.cells x0.x.ops :: rowp g_x0x.2.2.1 g_x0x.2.2.2.1 175 3 Tapi_Span.cells x0.x.blocks :: rowp g_x0x.2.2.2.2.1 g_x0x.2.2.2.2.2.1 32 1 (eI .u64) x0.x.val :: rdp κ g_x0x.2.2.2.2.2.2.1 g_x0x.2.2.2.2.2.2.2 1 (eI .u64) x0.x.tape.l :: rowp Ar4x0_7 cr4x0_8 32 1 (eI .u64) v_6 :: pt b_2 (blk (Tvisorlaw20_Pair.obj x0 b_x0m b_x0x A_x0l c_x0l A_x0v c_x0v) 45) :: S) Ar19x0ops_22 cr19x0ops_23 (Sl.lift (fun w ho => (Own.to (S' := rowp Ar19x0ops_22 cr19x0ops_23 93 6 Tapi_Op.cells v_21.ops :: S) ho [1] 11 (by kernel_rfl) (by kernel_rfl))) (Own.rowSl 0 (Own.to (S' := rowp Ar19x0ops_22 cr19x0ops_23 93 6 Tapi_Op.cells v_21.ops :: S) hs.own [1] 11 (by kernel_rfl) (by kernel_rfl)) rfl)) Ar19x0blocks_24 cr19x0blocks_25 (Sl.lift (fun w ho => (Own.to (S' := rowp Ar19x0blocks_24 cr19x0blocks_25 175 3 Tapi_Span.cells v_21.blocks :: S) ho [2] 11 (by kernel_rfl) (by kernel_rfl))) (Own.rowSl 0 (Own.to (S' := rowp Ar19x0blocks_24 cr19x0blocks_25 175 3 Tapi_Span.cells v_21.blocks :: S) hs.own [2] 11 (by kernel_rfl) (by kernel_rfl)) rfl)) g_x0x.1 g_x0x.2.1 (Sl.lift (fun w ho => (Own.to (S' := rowp g_x0x.1 g_x0x.2.1 93 6 Tapi_Op.cells x0.x.ops :: S) ho [5] 11 (by kernel_rfl) (by kernel_rfl))) (Own.rowSl 0 (Own.to (S' := rowp g_x0x.1 g_x0x.2.1 93 6 Tapi_Op.cells x0.x.ops :: S) hs.own [5] 11 (by kernel_rfl) (by kernel_rfl)) rfl)) g_x0x.2.2.1 g_x0x.2.2.2.1 (Sl.lift (fun w ho => (Own.to (S' := rowp g_x0x.2.2.1 g_x0x.2.2.2.1 175 3 Tapi_Span.cells x0.x.blocks :: S) ho [6] 11 (by kernel_rfl) (by kernel_rfl))) (Own.rowSl 0 (Own.to (S' := rowp g_x0x.2.2.1 g_x0x.2.2.2.1 175 3 Tapi_Span.cells x0.x.blocks :: S) hs.own [6] 11 (by kernel_rfl) (by kernel_rfl)) rfl)) hs.own).mono ?_
      rintro _ w ⟨rfl, how⟩
      refine ⟨_, _, _, rfl, how, fun a hs => ?_⟩
      replace hcl : Own κ w C_15 := by rw [hC_15]; exact (Own.to hs.own [4, 5, 6, 7, 8, 9, 3, 10] 11 (by kernel_rfl) (by kernel_rfl))
      refine ⟨fun _ => hcl, ?_⟩
      refine qdp (fuel := 0) [28, 29] hs hcl hqC_15 fun a hs => ?_
      replace hs := hs.pick [1, 3, 37] (L' := [(1, pp b_2), (3, .slice Ar4x0_7 v_6.length cr4x0_8), (37, .bool (!v_33))]) (by kernel_rfl)
      refine Vk.dDone (by kernel_rfl) ?_
      replace hs := hs.bagG (l := Tvisorref19_M.parts κ b_x0x x0.x g_x0x) (S' := pt b_28 (blk [ci x0.x.n, C.slc g_x0x.1 x0.x.ops.length g_x0x.2.1, C.slc g_x0x.2.2.1 x0.x.blocks.length g_x0x.2.2.2.1] 102) :: rowp Ar19x0ops_22 cr19x0ops_23 93 6 Tapi_Op.cells v_21.ops :: rowp Ar19x0blocks_24 cr19x0blocks_25 175 3 Tapi_Span.cells v_21.blocks :: bagL (Twire_Machine.parts b_x0m x0.m g_x0m) :: rowp Ar4x0_7 cr4x0_8 32 1 (eI .u64) v_6 :: pt b_2 (blk (Tvisorlaw20_Pair.obj x0 b_x0m b_x0x A_x0l c_x0l A_x0v c_x0v) 45) :: S) (Own.to hs.own [4, 5, 6, 7, 8, 0, 1, 2, 3, 9, 10] 11 (by kernel_rfl) (by kernel_rfl))
      exact hj10 (!v_33) hm _ _ (hs.go [1, 3, 37] [6, 4, 0, 5] 7 (by kernel_rfl) (by kernel_rfl) (by kernel_rfl))


def share_Value.j1 (k : Nat) (rec7 : Int → Int → Option (Int)) (q_9 : Int) (p_26 : Int) : Option (Int) := rec7 p_26 (IntKind.i64.wrap (q_9 + 1))
def share_Value.l1 (x0 : List Int) (x1 : Cells) : Nat → Int → Int → Option (Int)
  | 0, _, _ => none
  | k + 1, q_8, q_9 => (bif decide (q_9 < 3) then (if 0 ≤ q_9 ∧ q_9 < 3 then (getI .i64 x1 q_9.toNat).bind fun v_16 => (bif (decide (v_16 ≥ 0)) && (decide (v_16 < ((x0.length : Nat) : Int))) then (if 0 ≤ v_16 then (x0[v_16.toNat]?).bind fun e_22 => share_Value.j1 k (share_Value.l1 x0 x1 k) q_9 (bxor .u64 q_8 e_22) else none) else share_Value.j1 k (share_Value.l1 x0 x1 k) q_9 q_8) else none) else some q_8)
abbrev share_Value.R (κ : Ctx) (S : List HP) (x0 : List Int) (x1 : Cells) (A_x0 : Option Addr) (c_x0 : Nat) (r : Int) : Ending → World → Prop := fun e w' => e = .returned (vw r) ∧ Own κ w' (S)
def share_Value.m (k : Nat) (x0 : List Int) (x1 : Cells) : Option Int := (if x1.length = 3 then (share_Value.l1 x0 x1 k 0 0).bind fun p_27 => some p_27 else none)

set_option maxRecDepth 100000 in
set_option maxHeartbeats 4000000 in
theorem share_Value.ok (k : Nat) (x0 : List Int) (x1 : Cells) (r : Int) (hm : share_Value.m k x0 x1 = some r) (κ : Ctx) (w : World) (S : List HP) (A_x0 : Option Addr) (c_x0 : Nat) (hx_x0 : Sl κ S A_x0 c_x0 1 (eI .u64) x0) (ho : Own κ w (S)) :
    Calls Try.prog 28 #[.slice A_x0 x0.length c_x0, .agg (vals x1)] w (share_Value.R κ S x0 x1 A_x0 c_x0 r) := by
  unfold share_Value.m at hm
  generalize hRR : share_Value.R κ S x0 x1 A_x0 c_x0 r = RR
  refine qen [(0, .slice A_x0 x0.length c_x0), (1, .agg (vals x1))] Try.func28 Try.ntmps28 ho fun a hs => ?_
  refine qsr fun K1 hK1 => ?_
  refine Vk.step (Vk.box (x := (.tmp 1)) 3 28 x1 hs (by kernel_rfl) (by kernel_rfl) (by kernel_rfl) fun b_2 w a hs => ?_)
  refine qpe 1 [(0, .slice A_x0 x0.length c_x0), (3, pp b_2)] hs fun a hs => hK1 _ _ ?_
  clear hK1
  refine qsr fun K3 hK3 => ?_
  refine qpe 1 [(0, .slice A_x0 x0.length c_x0), (3, pp b_2), (5, vw 0)] hs fun a hs => hK3 _ _ ?_
  clear hK3
  refine Vk.seq fun K4 hK4 => ?_
  refine qsr fun K5 hK5 => ?_
  refine qpu 1 hs fun a hs => ?_
  obtain ⟨h_6, hm⟩ := ite_t hm
  refine Vk.step (Vk.value (some 9) (.agg (vals x1)) hs (by kernel_rfl) (op := (.load 26 (.tmp 8))) (by kernel_rfl) (fun o ho => run_loadN (cs := x1) ho (by kernel_rfl) (by kernel_rfl) h_6 (CellsAt.all 0 rfl) _ hs.own) fun a hs => ?_)
  refine qpe 1 [(0, .slice A_x0 x0.length c_x0), (5, vw 0), (9, .agg (vals x1)), (10, vi 0)] hs fun a hs => hK5 _ _ ?_
  clear hK5
  refine wp_block ?_
  obtain ⟨r7, hl7, hm⟩ := bind_t hm
  have hx7 : ∀ (p_27 : Int), r7 = p_27 → ∀ (a : Act) (w : World), St 29 a w κ [(5, vw p_27)] (S) → K4 a w := by
    intro p_27 he a w hs
    subst r7
    refine hK4 _ _ ?_
    clear hK4
    refine qsr fun K30 hK30 => ?_
    refine qpe 2 [(4, vw p_27)] hs fun a hs => hK30 _ _ ?_
    clear hK30
    refine wp_ret ?_
    exact Vk.ret1 (P := Try.prog) (fn := Try.f28) (R := RR) (vw p_27) hs rfl (by kernel_rfl) (by obtain rfl := Option.some.inj hm; subst hRR; exact ⟨rfl, (Own.to hs.own [] 0 (by kernel_rfl) (by kernel_rfl))⟩)
  refine Vk.loopBy (fun k (s : Int × Int) a w => share_Value.l1 x0 x1 k s.1 s.2 = some r7 ∧ St 29 a w κ [(0, .slice A_x0 x0.length c_x0), (5, vw s.1), (9, .agg (vals x1)), (10, vi s.2)] (S)) k (0, 0) ⟨hl7, hs.go [0, 5, 9, 10] [] 1 (by kernel_rfl) (by kernel_rfl) (by kernel_rfl)⟩ (fun s a w h => by obtain ⟨h1, _⟩ := h; simp [share_Value.l1] at h1) (fun k KL7 ih s a w h => ?_)
  obtain ⟨q_8, q_9⟩ := s
  obtain ⟨hm, hs⟩ := h
  try dsimp only at hm hs
  rw [share_Value.l1] at hm
  refine qsr fun K10 hK10 => ?_
  refine qpe 1 [(0, .slice A_x0 x0.length c_x0), (5, vw q_8), (9, .agg (vals x1)), (10, vi q_9), (11, .bool (decide (q_9 < 3)))] hs fun a hs => hK10 _ _ ?_
  clear hK10
  refine Vk.seq fun K11 hK11 => ?_
  refine qcs (decide (q_9 < 3)) hs (fun hb => ?_) fun hb => ?_
  · replace hm := bif_t hm hb
    refine wp_skip ?_
    refine hK11 _ _ ?_
    clear hK11
    refine Vk.seq fun K12 hK12 => ?_
    have hj12 : ∀ (p_26 : Int), share_Value.j1 k (share_Value.l1 x0 x1 k) q_9 p_26 = some r7 → ∀ (a : Act) (w : World), St 29 a w κ [(0, .slice A_x0 x0.length c_x0), (5, vw p_26), (9, .agg (vals x1)), (10, vi q_9)] (S) → K12 a w := by
      intro p_26 hm a w hs
      unfold share_Value.j1 at hm
      refine hK12 _ _ ?_
      refine Vk.region ?_
      refine qpe 2 [(0, .slice A_x0 x0.length c_x0), (5, vw p_26), (9, .agg (vals x1)), (10, vi (IntKind.i64.wrap (q_9 + 1)))] hs fun a hs => ?_
      refine ih (p_26, (IntKind.i64.wrap (q_9 + 1))) _ _ ⟨hm, hs.go [0, 5, 9, 10] [] 0 (by kernel_rfl) (by kernel_rfl) (by kernel_rfl)⟩
    refine wp_block ?_
    refine qsr fun K13 hK13 => ?_
    obtain ⟨h_14, hm⟩ := ite_t hm
    obtain ⟨v_16, h_15, hm⟩ := bind_t hm
    refine Vk.step (Vk.value (some 12) (vi v_16) hs (by kernel_rfl) (op := (.index 26 (.tmp 9) (.tmp 10))) (by kernel_rfl) (fun o ho => run_idxVal (k := .i64) (cs := x1) (c := ci v_16) ho (by kernel_rfl) (by kernel_rfl) (len := 3) (et := 3) (by kernel_rfl) (by kernel_rfl) (by kernel_rfl) (by kernel_rfl) h_14 (getI_some h_15) _) fun a hs => ?_)
    refine qpe 1 [(0, .slice A_x0 x0.length c_x0), (5, vw q_8), (7, vi v_16), (9, .agg (vals x1)), (10, vi q_9)] hs fun a hs => hK13 _ _ ?_
    clear hK13
    refine qsr fun K17 hK17 => ?_
    refine qpu 3 hs fun a hs => ?_
    suffices hj_18 : ∀ a, St 29 a w κ [(0, .slice A_x0 x0.length c_x0), (5, vw q_8), (7, vi v_16), (9, .agg (vals x1)), (10, vi q_9), (13, vi v_16), (14, .bool (decide (v_16 ≥ 0))), (15, .bool (decide (v_16 ≥ 0))), (20, .bool ((decide (v_16 ≥ 0)) && (decide (v_16 < ((x0.length : Nat) : Int)))))] (S) → wpFrom Try.prog _ _ 8 a w by
      rcases Bool.eq_false_or_eq_true (decide (v_16 ≥ 0)) with hb | hb
      · replace hs := hs.known (t := 15) hb (by kernel_rfl)
        refine qpu 5 hs fun a hs => ?_
        have hq := hs.pick [0, 5, 7, 9, 10, 13, 14, 15, 20] (L' := [(0, .slice A_x0 x0.length c_x0), (5, vw q_8), (7, vi v_16), (9, .agg (vals x1)), (10, vi q_9), (13, vi v_16), (14, .bool (decide (v_16 ≥ 0))), (15, .bool true), (20, .bool (decide (v_16 < ((x0.length : Nat) : Int))))]) (by kernel_rfl)
        exact hj_18 _ (hq.conv (by first | (rw [hb] <;> rfl) | rfl))
      · replace hs := hs.known (t := 15) hb (by kernel_rfl)
        refine qpu 5 hs fun a hs => ?_
        have hq := hs.pick [0, 5, 7, 9, 10, 13, 14, 15, 20] (L' := [(0, .slice A_x0 x0.length c_x0), (5, vw q_8), (7, vi v_16), (9, .agg (vals x1)), (10, vi q_9), (13, vi v_16), (14, .bool (decide (v_16 ≥ 0))), (15, .bool false), (20, .bool false)]) (by kernel_rfl)
        exact hj_18 _ (hq.conv (by first | (rw [hb] <;> rfl) | rfl))
    intro a hs
    refine qpe 0 [(0, .slice A_x0 x0.length c_x0), (5, vw q_8), (7, vi v_16), (9, .agg (vals x1)), (10, vi q_9), (20, .bool ((decide (v_16 ≥ 0)) && (decide (v_16 < ((x0.length : Nat) : Int)))))] hs fun a hs => hK17 _ _ ?_
    clear hK17
    refine qcs ((decide (v_16 ≥ 0)) && (decide (v_16 < ((x0.length : Nat) : Int)))) hs (fun hb => ?_) fun hb => ?_
    · replace hm := bif_t hm hb
      refine Vk.region ?_
      refine qpu 3 hs fun a hs => ?_
      obtain ⟨h_19, hm⟩ := ite_t hm
      obtain ⟨e_22, h_20, hm⟩ := bind_t hm
      obtain ⟨b_23, o_24, hA_25, h_21⟩ := Sl.elem hx_x0 h_20
      refine Vk.step (Vk.value (some 24) (.pointer (some ⟨b_23, o_24 + v_16.toNat * 1, none⟩)) hs (by kernel_rfl) (op := (.indexAddr 25 (.tmp 22) (.tmp 23))) (by kernel_rfl) (fun o ho => run_idxSlc (k := .i64) ho (cap := c_x0) (len := x0.length) ((congrArg (fun A => Value.slice A (x0.length) (c_x0)) hA_25) ▸ (by kernel_rfl)) (by kernel_rfl) (by kernel_rfl) (idx_ok h_19 h_20) _) fun a hs => ?_)
      refine Vk.step (Vk.value (some 25) (vw e_22) hs (by kernel_rfl) (op := (.load 32 (.tmp 24))) (by kernel_rfl) (fun o ho => run_load1 (c := cw e_22) ho (by kernel_rfl) (by kernel_rfl) (fun w ho => h_21 w ho 0 _ rfl) _ hs.own) fun a hs => ?_)
      refine qpe 2 [(0, .slice A_x0 x0.length c_x0), (5, vw (bxor .u64 q_8 e_22)), (9, .agg (vals x1)), (10, vi q_9)] hs fun a hs => ?_
      exact hj12 (bxor .u64 q_8 e_22) hm _ _ (hs.go [0, 5, 9, 10] [] 0 (by kernel_rfl) (by kernel_rfl) (by kernel_rfl))
    · replace hm := bif_f hm hb
      refine wp_skip ?_
      exact hj12 q_8 hm _ _ (hs.go [0, 5, 9, 10] [] 0 (by kernel_rfl) (by kernel_rfl) (by kernel_rfl))
  · replace hm := bif_f hm hb
    refine wp_exit ?_
    exact hx7 q_8 (Option.some.inj hm).symm _ _ (hs.go [5] [] 0 (by kernel_rfl) (by kernel_rfl) (by kernel_rfl))


abbrev wire_Machine_Const.R (κ : Ctx) (S : List HP) (x0 : Twire_Machine) (x1 : Int) (x2 : Int) (b_x0 : Nat) (r : (Int × Twire_Machine)) : Ending → World → Prop := fun e w' => e = .returned (vi r.1) ∧ Own κ w' (Twire_Machine.own b_x0 r.2 :: S)
def wire_Machine_Const.m (k : Nat) (x0 : Twire_Machine) (x1 : Int) (x2 : Int) : Option (Int × Twire_Machine) := (wire_Machine_Do.m k x0 (⟨3, x1, (-1), (-1), (-1), x2⟩ : Tapi_Op) 0).bind fun v_5 => some (v_5.1, v_5.2)

set_option maxRecDepth 100000 in
set_option maxHeartbeats 4000000 in
theorem wire_Machine_Const.ok (k : Nat) (x0 : Twire_Machine) (x1 : Int) (x2 : Int) (r : (Int × Twire_Machine)) (hm : wire_Machine_Const.m k x0 x1 x2 = some r) (κ : Ctx) (w : World) (S : List HP) (b_x0 : Nat) (ho : Own κ w (Twire_Machine.own b_x0 x0 :: S)) :
    Calls Try.prog 84 #[pp b_x0, vi x1, vw x2] w (wire_Machine_Const.R κ S x0 x1 x2 b_x0 r) := by
  unfold wire_Machine_Const.m at hm
  generalize hRR : wire_Machine_Const.R κ S x0 x1 x2 b_x0 r = RR
  refine qen [(0, pp b_x0), (1, vi x1), (2, vw x2)] Try.func84 Try.ntmps84 ho fun a hs => ?_
  refine qsr fun K1 hK1 => ?_
  refine qpe 1 [(0, pp b_x0), (1, vi x1), (2, vw x2)] hs fun a hs => hK1 _ _ ?_
  clear hK1
  refine qsr fun K2 hK2 => ?_
  refine qpu 4 hs fun a hs => ?_
  obtain ⟨v_5, h_4, hm⟩ := bind_t hm
  refine Vk.step (Vk.call (some 11) 147 #[pp b_x0, .agg (vals [ci 3, ci x1, ci (-1), ci (-1), ci (-1), cw x2]), vw 0] hs (by kernel_rfl) (by kernel_rfl) (by kernel_rfl) ?_)
  refine (wire_Machine_Do.ok k x0 (⟨3, x1, (-1), (-1), (-1), x2⟩ : Tapi_Op) 0 v_5 h_4 κ w (S) b_x0 (Own.to hs.own [0] 1 (by kernel_rfl) (by kernel_rfl))).mono ?_
  rintro _ w ⟨rfl, how⟩
  refine ⟨_, _, _, rfl, how, fun a hs => ?_⟩
  refine qpe 1 [(6, vi v_5.1)] hs fun a hs => hK2 _ _ ?_
  clear hK2
  refine wp_ret ?_
  exact Vk.ret1 (P := Try.prog) (fn := Try.f84) (R := RR) (vi v_5.1) hs rfl (by kernel_rfl) (by obtain rfl := Option.some.inj hm; subst hRR; exact ⟨rfl, (Own.to hs.own [0] 1 (by kernel_rfl) (by kernel_rfl))⟩)

end Go.Proofs.Ytflgefjocjpjaaa
