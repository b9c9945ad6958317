/- Of each Go function that FreshEven comes to: a model in plain Lean, and that the program's call does what the model says; no condition. -/
import Derived.Test.YtflgefjocjpjaaaProg
import Derived.Test.YtflgefjocjpjaaaVfnegibcd
import Derived.Test.YtflgefjocjpjaaaMFreshEven1
namespace Go.Proofs.Ytflgefjocjpjaaa
open Go Go.Vk
set_option linter.unusedVariables false


abbrev fresh_Simple.R (κ : Ctx) (S : List HP) (x0 : Twire_Machine) (x1 : Cells) (b_x0 : Nat) (r : (Cells × Twire_Machine)) : Ending → World → Prop := fun e w' => e = .returned (.agg (vals r.1)) ∧ Own κ w' (Twire_Machine.own b_x0 r.2 :: S)
def fresh_Simple.m (k : Nat) (x0 : Twire_Machine) (x1 : Cells) : Option (Cells × Twire_Machine) := (wire_Machine_N.m k x0).bind fun v_9 => (bif v_9 == 2 then (if x1.length = 3 then (fresh_Full.m k x0 x1).bind fun v_286 => (if v_286.1.length = 3 then some (v_286.1, v_286.2) else none) else none) else (bif v_9 == 3 then (if x1.length = 3 then (wire_Machine_N.m k x0).bind fun v_27 => (bif v_27 == 3 then (wire_Machine_Begin.m k x0 2).bind fun v_31 => (fresh_masks.m k v_31 2).bind fun v_35 => (if v_35.1.length = 3 then (if 0 ≤ (0 : Int) then (([0, 1] : List Int)[0]?).bind fun e_56 => (if 0 ≤ e_56 ∧ e_56 < 3 then (getI .i64 v_35.1 (0 + e_56.toNat * 1)).bind fun v_63 => (if (([] : List Int).length + ([v_63] : List Int).length) * 8 ≤ 140737488355328 then (if 0 ≤ (1 : Int) then (([0, 1] : List Int)[1]?).bind fun e_78 => (if 0 ≤ e_78 ∧ e_78 < 3 then (getI .i64 v_35.1 (0 + e_78.toNat * 1)).bind fun v_85 => (if ((([] : List Int) ++ ([v_63] : List Int)).length + ([v_85] : List Int).length) * 8 ≤ 140737488355328 then (if 0 ≤ (0 : Int) then (([0] : List Int)[0]?).bind fun e_108 => (if 0 ≤ e_108 ∧ e_108 < 3 then (getI .i64 v_35.1 (0 + e_108.toNat * 1)).bind fun v_115 => (if (([] : List Int).length + ([v_115] : List Int).length) * 8 ≤ 140737488355328 then (if 0 ≤ (0 : Int) then (([1] : List Int)[0]?).bind fun e_139 => (if 0 ≤ e_139 ∧ e_139 < 3 then (getI .i64 v_35.1 (0 + e_139.toNat * 1)).bind fun v_146 => (if (([] : List Int).length + ([v_146] : List Int).length) * 8 ≤ 140737488355328 then (wire_Machine_N.m k v_35.2).bind fun v_172 => (bif v_172 == 3 then (if 0 ≤ (0 : Int) then (((([] : List Int) ++ ([v_63] : List Int)) ++ ([v_85] : List Int))[0]?).bind fun e_187 => (getI .i64 x1 (0)).bind fun v_192 => (wire_Machine_Two.m k v_35.2 5 0 v_192 e_187).bind fun v_195 => (if 0 < x1.length then (if 0 ≤ (1 : Int) then (((([] : List Int) ++ ([v_63] : List Int)) ++ ([v_85] : List Int))[1]?).bind fun e_205 => (getI .i64 (x1.set (0) (ci v_195.1)) (0)).bind fun v_210 => (wire_Machine_Two.m k v_195.2 5 0 v_210 e_205).bind fun v_213 => (if 0 < (x1.set (0) (ci v_195.1)).length then (if 0 ≤ (0 : Int) then ((([] : List Int) ++ ([v_115] : List Int))[0]?).bind fun e_232 => (getI .i64 ((x1.set (0) (ci v_195.1)).set (0) (ci v_213.1)) (1)).bind fun v_237 => (wire_Machine_Two.m k v_213.2 5 1 v_237 e_232).bind fun v_240 => (if 1 < ((x1.set (0) (ci v_195.1)).set (0) (ci v_213.1)).length then (if 0 ≤ (0 : Int) then ((([] : List Int) ++ ([v_146] : List Int))[0]?).bind fun e_259 => (getI .i64 (((x1.set (0) (ci v_195.1)).set (0) (ci v_213.1)).set (1) (ci v_240.1)) (2)).bind fun v_264 => (wire_Machine_Two.m k v_240.2 5 2 v_264 e_259).bind fun v_267 => (if 2 < (((x1.set (0) (ci v_195.1)).set (0) (ci v_213.1)).set (1) (ci v_240.1)).length then (wire_Machine_End.m k v_267.2).bind fun v_280 => some (((((x1.set (0) (ci v_195.1)).set (0) (ci v_213.1)).set (1) (ci v_240.1)).set (2) (ci v_267.1)), v_280) else none) else none) else none) else none) else none) else none) else none) else none) else none) else none) else none) else none) else none) else none) else none) else none) else none) else none) else none) else none) else none) else none) else none) else none) else none))

set_option maxRecDepth 100000 in
set_option maxHeartbeats 4000000 in
theorem fresh_Simple.ok (k : Nat) (x0 : Twire_Machine) (x1 : Cells) (r : (Cells × Twire_Machine)) (hm : fresh_Simple.m k x0 x1 = some r) (κ : Ctx) (w : World) (S : List HP) (b_x0 : Nat) (ho : Own κ w (Twire_Machine.own b_x0 x0 :: S)) :
    Calls Try.prog 47 #[pp b_x0, .agg (vals x1)] w (fresh_Simple.R κ S x0 x1 b_x0 r) := by
  unfold fresh_Simple.m at hm
  generalize hRR : fresh_Simple.R κ S x0 x1 b_x0 r = RR
  refine qen [(0, pp b_x0), (1, .agg (vals x1))] Try.func47 Try.ntmps47 ho fun a hs => ?_
  refine qsr fun K1 hK1 => ?_
  refine Vk.step (Vk.box (x := (.tmp 1)) 3 28 x1 hs (by kernel_rfl) (by kernel_rfl) (by kernel_rfl) fun b_2 w a hs => ?_)
  refine Vk.step (Vk.alloc 4 28 [ci 0, ci 0, ci 0] hs (by kernel_rfl) (by kernel_rfl) (by kernel_rfl) fun b_3 w a hs => ?_)
  refine qpe 0 [(0, pp b_x0), (3, pp b_2), (4, pp b_3)] hs fun a hs => hK1 _ _ ?_
  clear hK1
  refine Vk.seq fun K4 hK4 => ?_
  refine qsr fun K5 hK5 => ?_
  refine qpu 1 hs fun a hs => ?_
  obtain ⟨g_6, hs⟩ := hs.unex 2 rfl
  obtain ⟨v_9, h_8, hm⟩ := bind_t hm
  refine Vk.step (Vk.call (some 6) 89 #[pp b_x0] hs (by kernel_rfl) (by kernel_rfl) (by kernel_rfl) ?_)
  refine (wire_Machine_N.ok k x0 v_9 h_8 κ w (pt b_3 (blk [ci 0, ci 0, ci 0] 28) :: pt b_2 (blk x1 28) :: S) b_x0 g_6 (Own.to hs.own [2, 0, 1] 3 (by kernel_rfl) (by kernel_rfl))).mono ?_
  rintro _ w ⟨rfl, how⟩
  refine ⟨_, _, _, rfl, how, fun a hs => ?_⟩
  rcases Bool.eq_false_or_eq_true (v_9 == 2) with hb | hb
  · replace hm := bif_t hm hb
    obtain rfl := Vk.of_beq hb
    refine qpe 1 [(0, pp b_x0), (3, pp b_2), (4, pp b_3), (7, .bool false)] hs fun a hs => hK5 _ _ ?_
    refine qcf hs ?_
    refine wp_skip ?_
    refine hK4 _ _ ?_
    clear hK4
    refine qsr fun K282 hK282 => ?_
    refine qpu 1 hs fun a hs => ?_
    obtain ⟨h_283, hm⟩ := ite_t hm
    refine Vk.step (Vk.value (some 16) (.agg (vals x1)) hs (by kernel_rfl) (op := (.load 28 (.tmp 3))) (by kernel_rfl) (fun o ho => run_loadN (cs := x1) ho (by kernel_rfl) (by kernel_rfl) h_283 (CellsAt.all 2 rfl) _ hs.own) fun a hs => ?_)
    replace hs := hs.toEx (Twire_Machine.parts b_x0 x0) g_6 0 rfl
    obtain ⟨v_286, h_285, hm⟩ := bind_t hm
    refine Vk.step (Vk.call (some 17) 49 #[pp b_x0, .agg (vals x1)] hs (by kernel_rfl) (by kernel_rfl) (by kernel_rfl) ?_)
    refine (fresh_Full.ok k x0 x1 v_286 h_285 κ w (pt b_3 (blk [ci 0, ci 0, ci 0] 28) :: pt b_2 (blk x1 28) :: S) b_x0 (Own.to hs.own [0, 1, 2] 3 (by kernel_rfl) (by kernel_rfl))).mono ?_
    rintro _ w ⟨rfl, how⟩
    refine ⟨_, _, _, rfl, how, fun a hs => ?_⟩
    obtain ⟨h_287, hm⟩ := ite_t hm
    refine Vk.step (Vk.storeA (b := b_3) (ty := 28) (x := (.tmp 4)) (y := (.tmp 17)) (sz := 3) v_286.1 1 hs (by kernel_rfl) (by kernel_rfl) (by kernel_rfl) (by kernel_rfl) (by kernel_rfl) h_287 (by kernel_rfl) rfl (Eq.trans (b := 3) h_287 (Eq.symm rfl)) fun a w hs => ?_)
    refine qpe 0 [(4, pp b_3)] hs fun a hs => hK282 _ _ ?_
    clear hK282
    refine wp_ret ?_
    exact Vk.retC (P := Try.prog) (fn := Try.f47) (R := RR) v_286.1 hs rfl (by kernel_rfl) (sz := 3) (by kernel_rfl) h_287 (CellsAt.all 1 rfl) (by obtain rfl := Option.some.inj hm; subst hRR; exact ⟨rfl, (Own.to hs.own [0] 3 (by kernel_rfl) (by kernel_rfl))⟩)
  · replace hm := bif_f hm hb
    rcases Bool.eq_false_or_eq_true (v_9 == 3) with hb | hb
    · replace hm := bif_t hm hb
      obtain rfl := Vk.of_beq hb
      refine qpe 1 [(0, pp b_x0), (3, pp b_2), (4, pp b_3), (7, .bool true)] hs fun a hs => hK5 _ _ ?_
      refine qct hs ?_
      refine qsr fun K10 hK10 => ?_
      refine qpu 1 hs fun a hs => ?_
      obtain ⟨h_11, hm⟩ := ite_t hm
      refine Vk.step (Vk.value (some 9) (.agg (vals x1)) hs (by kernel_rfl) (op := (.load 28 (.tmp 3))) (by kernel_rfl) (fun o ho => run_loadN (cs := x1) ho (by kernel_rfl) (by kernel_rfl) h_11 (CellsAt.all 2 rfl) _ hs.own) fun a hs => ?_)
      refine Vk.step (Vk.buildOp (sz := 1) (by_ := 8) (t := 159) (e := 3) (parts := #[(0, (.const (vi 0))), (1, (.const (vi 1)))]) (zs := vals [ci 0]) ([0, 1] : List Int) (eI .i64) (some 10) hs (by kernel_rfl) (by kernel_rfl) (by kernel_rfl) (by kernel_rfl) (by decide) rfl (fun x _ => rfl) (Nat.le_of_ble_eq_true (by kernel_rfl)) (by kernel_rfl) fun A_12 w a hs => ?_)
      refine Vk.step (Vk.buildOp (sz := 1) (by_ := 8) (t := 159) (e := 3) (parts := #[(0, (.const (vi 0)))]) (zs := vals [ci 0]) ([0] : List Int) (eI .i64) (some 11) hs (by kernel_rfl) (by kernel_rfl) (by kernel_rfl) (by kernel_rfl) (by decide) rfl (fun x _ => rfl) (Nat.le_of_ble_eq_true (by kernel_rfl)) (by kernel_rfl) fun A_14 w a hs => ?_)
      refine Vk.step (Vk.buildOp (sz := 1) (by_ := 8) (t := 159) (e := 3) (parts := #[(0, (.const (vi 1)))]) (zs := vals [ci 0]) ([1] : List Int) (eI .i64) (some 12) hs (by kernel_rfl) (by kernel_rfl) (by kernel_rfl) (by kernel_rfl) (by decide) rfl (fun x _ => rfl) (Nat.le_of_ble_eq_true (by kernel_rfl)) (by kernel_rfl) fun A_16 w a hs => ?_)
      refine qpu 1 hs fun a hs => ?_
      refine Vk.step (Vk.call (some 14) 125 #[pp b_x0, .agg (vals x1), vi 2, .agg (vals ([C.slc A_12 (([0, 1] : List Int).length) 2, C.slc A_14 (([0] : List Int).length) 1, C.slc A_16 (([1] : List Int).length) 1]))] hs (by kernel_rfl) (by kernel_rfl) (by kernel_rfl) ?_)
      refine Vk.enterI [(0, pp b_x0), (1, .agg (vals x1)), (2, vi 2), (3, .agg (vals ([C.slc A_12 (([0, 1] : List Int).length) 2, C.slc A_14 (([0] : List Int).length) 1, C.slc A_16 (([1] : List Int).length) 1])))] Try.func125 rfl Try.ntmps125 (by kernel_rfl) (Nat.le_of_ble_eq_true (by kernel_rfl)) hs.own fun KR18 hKR18 hKP18 a hs => ?_
      refine qsr fun K19 hK19 => ?_
      refine Vk.step (Vk.box (x := (.tmp 1)) 5 28 x1 hs (by kernel_rfl) (by kernel_rfl) (by kernel_rfl) fun b_20 w a hs => ?_)
      refine Vk.step (Vk.box (x := (.tmp 3)) 7 160 ([C.slc A_12 (([0, 1] : List Int).length) 2, C.slc A_14 (([0] : List Int).length) 1, C.slc A_16 (([1] : List Int).length) 1]) hs (by kernel_rfl) (by kernel_rfl) (by kernel_rfl) fun b_21 w a hs => ?_)
      refine Vk.step (Vk.alloc 8 28 [ci 0, ci 0, ci 0] hs (by kernel_rfl) (by kernel_rfl) (by kernel_rfl) fun b_22 w a hs => ?_)
      refine qpe 0 [(0, pp b_x0), (2, vi 2), (5, pp b_20), (7, pp b_21), (8, pp b_22)] hs fun a hs => hK19 _ _ ?_
      clear hK19
      refine Vk.seq fun K23 hK23 => ?_
      refine qsr fun K24 hK24 => ?_
      refine qpu 1 hs fun a hs => ?_
      obtain ⟨v_27, h_26, hm⟩ := bind_t hm
      refine Vk.step (Vk.call (some 17) 89 #[pp b_x0] hs (by kernel_rfl) (by kernel_rfl) (by kernel_rfl) ?_)
      refine (wire_Machine_N.ok k x0 v_27 h_26 κ w (pt b_22 (blk [ci 0, ci 0, ci 0] 28) :: pt b_21 (blk ([C.slc A_12 (([0, 1] : List Int).length) 2, C.slc A_14 (([0] : List Int).length) 1, C.slc A_16 (([1] : List Int).length) 1]) 160) :: pt b_20 (blk x1 28) :: rowp A_16 1 3 1 (eI .i64) ([1] : List Int) :: rowp A_14 1 3 1 (eI .i64) ([0] : List Int) :: rowp A_12 2 3 1 (eI .i64) ([0, 1] : List Int) :: pt b_3 (blk [ci 0, ci 0, ci 0] 28) :: pt b_2 (blk x1 28) :: S) b_x0 g_6 (Own.to hs.own [6, 0, 1, 2, 3, 4, 5, 7, 8] 9 (by kernel_rfl) (by kernel_rfl))).mono ?_
      rintro _ w ⟨rfl, how⟩
      refine ⟨_, _, _, rfl, how, fun a hs => ?_⟩
      rcases Bool.eq_false_or_eq_true (v_27 == 3) with hb | hb
      · replace hm := bif_t hm hb
        obtain rfl := Vk.of_beq hb
        refine qpe 1 [(0, pp b_x0), (2, vi 2), (5, pp b_20), (7, pp b_21), (8, pp b_22), (18, .bool false)] hs fun a hs => hK24 _ _ ?_
        clear hK24
        refine qcf hs ?_
        refine wp_skip ?_
        refine hK23 _ _ ?_
        clear hK23
        refine qsr fun K28 hK28 => ?_
        refine qpu 1 hs fun a hs => ?_
        replace hs := hs.toEx (Twire_Machine.parts b_x0 x0) g_6 0 rfl
        obtain ⟨v_31, h_30, hm⟩ := bind_t hm
        refine Vk.step (Vk.call (some 22) 90 #[pp b_x0, vi 2] hs (by kernel_rfl) (by kernel_rfl) (by kernel_rfl) ?_)
        refine (wire_Machine_Begin.ok k x0 2 v_31 h_30 κ w (pt b_22 (blk [ci 0, ci 0, ci 0] 28) :: pt b_21 (blk ([C.slc A_12 (([0, 1] : List Int).length) 2, C.slc A_14 (([0] : List Int).length) 1, C.slc A_16 (([1] : List Int).length) 1]) 160) :: pt b_20 (blk x1 28) :: rowp A_16 1 3 1 (eI .i64) ([1] : List Int) :: rowp A_14 1 3 1 (eI .i64) ([0] : List Int) :: rowp A_12 2 3 1 (eI .i64) ([0, 1] : List Int) :: pt b_3 (blk [ci 0, ci 0, ci 0] 28) :: pt b_2 (blk x1 28) :: S) b_x0 (Own.to hs.own [0, 1, 2, 3, 4, 5, 6, 7, 8] 9 (by kernel_rfl) (by kernel_rfl))).mono ?_
        rintro _ w ⟨rfl, how⟩
        refine ⟨_, _, _, rfl, how, fun a hs => ?_⟩
        refine qpe 0 [(0, pp b_x0), (2, vi 2), (5, pp b_20), (7, pp b_21), (8, pp b_22)] hs fun a hs => hK28 _ _ ?_
        clear hK28
        refine qsr fun K32 hK32 => ?_
        refine qpu 2 hs fun a hs => ?_
        obtain ⟨v_35, h_34, hm⟩ := bind_t hm
        refine Vk.step (Vk.call (some 25) 160 #[pp b_x0, vi 2] hs (by kernel_rfl) (by kernel_rfl) (by kernel_rfl) ?_)
        refine (fresh_masks.ok k v_31 2 v_35 h_34 κ w (pt b_22 (blk [ci 0, ci 0, ci 0] 28) :: pt b_21 (blk ([C.slc A_12 (([0, 1] : List Int).length) 2, C.slc A_14 (([0] : List Int).length) 1, C.slc A_16 (([1] : List Int).length) 1]) 160) :: pt b_20 (blk x1 28) :: rowp A_16 1 3 1 (eI .i64) ([1] : List Int) :: rowp A_14 1 3 1 (eI .i64) ([0] : List Int) :: rowp A_12 2 3 1 (eI .i64) ([0, 1] : List Int) :: pt b_3 (blk [ci 0, ci 0, ci 0] 28) :: pt b_2 (blk x1 28) :: S) b_x0 (Own.to hs.own [0, 1, 2, 3, 4, 5, 6, 7, 8] 9 (by kernel_rfl) (by kernel_rfl))).mono ?_
        rintro _ w ⟨rfl, how⟩
        refine ⟨_, _, _, rfl, how, fun a hs => ?_⟩
        refine Vk.step (Vk.alloc 9 26 [ci 0, ci 0, ci 0] hs (by kernel_rfl) (by kernel_rfl) (by kernel_rfl) fun b_36 w a hs => ?_)
        obtain ⟨h_37, hm⟩ := ite_t hm
        refine Vk.step (Vk.storeA (b := b_36) (ty := 26) (x := (.tmp 9)) (y := (.tmp 25)) (sz := 3) v_35.1 0 hs (by kernel_rfl) (by kernel_rfl) (by kernel_rfl) (by kernel_rfl) (by kernel_rfl) h_37 (by kernel_rfl) rfl (Eq.trans (b := 3) h_37 (Eq.symm rfl)) fun a w hs => ?_)
        refine qpe 0 [(0, pp b_x0), (5, pp b_20), (7, pp b_21), (8, pp b_22), (9, pp b_36)] hs fun a hs => hK32 _ _ ?_
        clear hK32
        refine qsr fun K38 hK38 => ?_
        refine Vk.step (Vk.alloc 10 160 [C.slc none 0 0, C.slc none 0 0, C.slc none 0 0] hs (by kernel_rfl) (by kernel_rfl) (by kernel_rfl) fun b_39 w a hs => ?_)
        refine qpe 0 [(0, pp b_x0), (5, pp b_20), (7, pp b_21), (8, pp b_22), (9, pp b_36), (10, pp b_39)] hs fun a hs => hK38 _ _ ?_
        clear hK38
        refine Vk.seq fun K40 hK40 => ?_
        refine qsr fun K41 hK41 => ?_
        refine qln 4 ([C.slc A_12 (([0, 1] : List Int).length) 2, C.slc A_14 (([0] : List Int).length) 1, C.slc A_16 (([1] : List Int).length) 1]) hs rfl fun a hs => ?_
        refine qpe 1 [(0, pp b_x0), (5, pp b_20), (8, pp b_22), (9, pp b_36), (10, pp b_39), (26, .agg (vals ([C.slc A_12 (([0, 1] : List Int).length) 2, C.slc A_14 (([0] : List Int).length) 1, C.slc A_16 (([1] : List Int).length) 1]))), (27, vi 0)] hs fun a hs => hK41 _ _ ?_
        clear hK41
        refine wp_block ?_
        refine Vk.unroll0 40 ?_
        refine Vk.unroll fun KL42 hKL42 => ?_
        refine qsr fun K43 hK43 => ?_
        refine qpe 1 [(0, pp b_x0), (5, pp b_20), (8, pp b_22), (9, pp b_36), (10, pp b_39), (26, .agg (vals ([C.slc A_12 (([0, 1] : List Int).length) 2, C.slc A_14 (([0] : List Int).length) 1, C.slc A_16 (([1] : List Int).length) 1]))), (27, vi 0), (28, .bool true)] hs fun a hs => hK43 _ _ ?_
        clear hK43
        refine Vk.seq fun K44 hK44 => ?_
        refine qct hs ?_
        refine wp_skip ?_
        refine hK44 _ _ ?_
        clear hK44
        refine Vk.seq fun K45 hK45 => ?_
        refine wp_block ?_
        refine qsr fun K46 hK46 => ?_
        refine qpe 4 [(0, pp b_x0), (5, pp b_20), (8, pp b_22), (9, pp b_36), (10, pp b_39), (11, vi 0), (12, .slice A_12 (([0, 1] : List Int).length) 2), (26, .agg (vals ([C.slc A_12 (([0, 1] : List Int).length) 2, C.slc A_14 (([0] : List Int).length) 1, C.slc A_16 (([1] : List Int).length) 1]))), (27, vi 0)] hs fun a hs => hK46 _ _ ?_
        clear hK46
        refine qsr fun K47 hK47 => ?_
        refine qpe 3 [(0, pp b_x0), (5, pp b_20), (8, pp b_22), (9, pp b_36), (10, pp b_39), (11, vi 0), (26, .agg (vals ([C.slc A_12 (([0, 1] : List Int).length) 2, C.slc A_14 (([0] : List Int).length) 1, C.slc A_16 (([1] : List Int).length) 1]))), (27, vi 0), (31, .slice A_12 (([0, 1] : List Int).length) 2), (32, vi 2), (33, vi 0)] hs fun a hs => hK47 _ _ ?_
        clear hK47
        refine wp_block ?_
        refine Vk.unroll0 40 ?_
        refine Vk.unroll fun KL48 hKL48 => ?_
        refine qsr fun K49 hK49 => ?_
        refine qpe 1 [(0, pp b_x0), (5, pp b_20), (8, pp b_22), (9, pp b_36), (10, pp b_39), (11, vi 0), (26, .agg (vals ([C.slc A_12 (([0, 1] : List Int).length) 2, C.slc A_14 (([0] : List Int).length) 1, C.slc A_16 (([1] : List Int).length) 1]))), (27, vi 0), (31, .slice A_12 (([0, 1] : List Int).length) 2), (32, vi 2), (33, vi 0), (34, .bool true)] hs fun a hs => hK49 _ _ ?_
        clear hK49
        refine Vk.seq fun K50 hK50 => ?_
        refine qct hs ?_
        refine wp_skip ?_
        refine hK50 _ _ ?_
        clear hK50
        refine Vk.seq fun K51 hK51 => ?_
        refine wp_block ?_
        refine qsr fun K52 hK52 => ?_
        obtain ⟨h_53, hm⟩ := ite_t hm
        obtain ⟨e_56, h_54, hm⟩ := bind_t hm
        obtain ⟨b_57, o_58, hA_59, h_55⟩ := Sl.elem (Own.rowSl 0 (Own.to (S' := rowp A_12 2 3 1 (eI .i64) ([0, 1] : List Int) :: S) hs.own [8] 11 (by kernel_rfl) (by kernel_rfl)) rfl) h_54
        refine Vk.step (Vk.value (some 35) (.pointer (some ⟨b_57, o_58 + 0 * 1, none⟩)) hs (by kernel_rfl) (op := (.indexAddr 159 (.tmp 31) (.tmp 33))) (by kernel_rfl) (fun o ho => run_idxSlc (k := .i64) ho (cap := 2) (len := ([0, 1] : List Int).length) ((congrArg (fun A => Value.slice A (([0, 1] : List Int).length) (2)) hA_59) ▸ (by kernel_rfl)) (by kernel_rfl) (by kernel_rfl) (idx_ok h_53 h_54) _) fun a hs => ?_)
        refine Vk.step (Vk.value (some 36) (vi e_56) hs (by kernel_rfl) (op := (.load 3 (.tmp 35))) (by kernel_rfl) (fun o ho => run_load1 (c := ci e_56) ho (by kernel_rfl) (by kernel_rfl) (fun w ho => h_55 w ho 0 _ rfl) _ (Own.to (S' := rowp A_12 2 3 1 (eI .i64) ([0, 1] : List Int) :: S) hs.own [8] 11 (by kernel_rfl) (by kernel_rfl))) fun a hs => ?_)
        refine qpe 1 [(0, pp b_x0), (5, pp b_20), (8, pp b_22), (9, pp b_36), (10, pp b_39), (11, vi 0), (14, vi e_56), (26, .agg (vals ([C.slc A_12 (([0, 1] : List Int).length) 2, C.slc A_14 (([0] : List Int).length) 1, C.slc A_16 (([1] : List Int).length) 1]))), (27, vi 0), (31, .slice A_12 (([0, 1] : List Int).length) 2), (32, vi 2), (33, vi 0)] hs fun a hs => hK52 _ _ ?_
        clear hK52
        obtain ⟨C_60, hC_60⟩ : ∃ X0 : List HP, X0 = (pt b_39 (blk [C.slc none 0 0, C.slc none 0 0, C.slc none 0 0] 160) :: pt b_36 (blk v_35.1 26) :: Twire_Machine.own b_x0 v_35.2 :: pt b_22 (blk [ci 0, ci 0, ci 0] 28) :: pt b_21 (blk ([C.slc A_12 (([0, 1] : List Int).length) 2, C.slc A_14 (([0] : List Int).length) 1, C.slc A_16 (([1] : List Int).length) 1]) 160) :: pt b_20 (blk x1 28) :: rowp A_16 1 3 1 (eI .i64) ([1] : List Int) :: rowp A_14 1 3 1 (eI .i64) ([0] : List Int) :: rowp A_12 2 3 1 (eI .i64) ([0, 1] : List Int) :: pt b_3 (blk [ci 0, ci 0, ci 0] 28) :: pt b_2 (blk x1 28) :: S) := ⟨_, rfl⟩
        refine qdr 10 κ C_60 hs fun w hs hqC_60 => ?_
        have hcz : Own κ w (pt b_39 (blk [C.slc none 0 0, C.slc none 0 0, C.slc none 0 0] 160) :: pt b_36 (blk v_35.1 26) :: Twire_Machine.own b_x0 v_35.2 :: pt b_22 (blk [ci 0, ci 0, ci 0] 28) :: pt b_21 (blk ([C.slc A_12 (([0, 1] : List Int).length) 2, C.slc A_14 (([0] : List Int).length) 1, C.slc A_16 (([1] : List Int).length) 1]) 160) :: pt b_20 (blk x1 28) :: rowp A_16 1 3 1 (eI .i64) ([1] : List Int) :: rowp A_14 1 3 1 (eI .i64) ([0] : List Int) :: rowp A_12 2 3 1 (eI .i64) ([0, 1] : List Int) :: pt b_3 (blk [ci 0, ci 0, ci 0] 28) :: pt b_2 (blk x1 28) :: S) := (Own.to hs.own [0, 1, 2, 3, 4, 5, 6, 7, 8, 9, 10] 11 (by kernel_rfl) (by kernel_rfl))
        have hcl : Own κ w C_60 := by rw [hC_60]; exact hcz
        refine qdp (fuel := 7) [0, 1, 2, 4] hs hcl hqC_60 fun a hs => ?_
        refine qdl 3 0 (C.slc none 0 0) hs hcl hqC_60 hC_60 rfl fun a hs => ?_
        obtain ⟨h_61, hm⟩ := ite_t hm
        refine Vk.dTakeT (i := 5) (some 42) (.pointer (some ⟨b_36, 0 + e_56.toNat * 1, none⟩)) hs (by kernel_rfl) hqC_60 hcl (by kernel_rfl) (by kernel_rfl) (op := (.indexAddr 26 (.tmp 9) (.tmp 41))) (by kernel_rfl) (by kernel_rfl) (fun w hw o ho => by rw [hC_60] at hw; exact run_idxArr (k := .i64) ho (by kernel_rfl) (by kernel_rfl) (by kernel_rfl) h_61 _) fun a hs => ?_
        obtain ⟨v_63, h_62, hm⟩ := bind_t hm
        refine Vk.dTakeT (i := 6) (some 43) (vi v_63) hs (by kernel_rfl) hqC_60 hcl (by kernel_rfl) (by kernel_rfl) (op := (.load 3 (.tmp 42))) (by kernel_rfl) (by kernel_rfl) (fun w hw o ho => by rw [hC_60] at hw; exact run_load1 (c := ci v_63) ho (by kernel_rfl) (by kernel_rfl) (Cell.own 1 rfl (getI_some h_62)) _ hw) fun a hs => ?_
        refine Vk.dOnly (i := 7) (by kernel_rfl) (Vk.buildOp (sz := 1) (by_ := 8) (t := 159) (e := 3) (parts := #[(0, (.tmp 43))]) (zs := vals [ci 0]) ([v_63] : List Int) (eI .i64) (some 44) hs (by kernel_rfl) (by kernel_rfl) (by kernel_rfl) (by kernel_rfl) (by decide) rfl (fun x _ => rfl) (Nat.le_of_ble_eq_true (by kernel_rfl)) (by kernel_rfl) fun A_64 w a hs => ?_)
        replace hcl : Own κ w C_60 := by rw [hC_60]; exact (Own.to hs.own [1, 2, 3, 4, 5, 6, 7, 8, 9, 10, 11] 12 (by kernel_rfl) (by kernel_rfl))
        refine ⟨fun _ => hcl, ?_⟩
        replace hs := hs.addRow none 3 1 (eI .i64)
        obtain ⟨h_67, hm⟩ := ite_t hm
        refine Vk.dOnly (i := 8) (by kernel_rfl) (Vk.appendOp (x := (.tmp 40)) (y := (.tmp 44)) (e := 3) (t := 159) (by_ := 8) (sz := 1) (enc := (eI .i64)) (A := none) (cap := 0) (xs := ([] : List Int)) (ys := ([v_63] : List Int)) (B := A_64) (c2 := 1) 0 (some 45) hs (by kernel_rfl) (by kernel_rfl) (by kernel_rfl) (by kernel_rfl) rfl (Sl.lift (fun w ho => (Own.to (S' := rowp A_64 1 3 1 (eI .i64) ([v_63] : List Int) :: S) ho [1] 13 (by kernel_rfl) (by kernel_rfl))) (Own.rowSl 0 (Own.to (S' := rowp A_64 1 3 1 (eI .i64) ([v_63] : List Int) :: S) hs.own [1] 13 (by kernel_rfl) (by kernel_rfl)) rfl)) (by kernel_rfl) (by kernel_rfl) (by decide) (by decide) h_67 fun A_68 c_69 w a hs => ?_)
        replace hcl : Own κ w C_60 := by rw [hC_60]; exact (Own.to hs.own [2, 3, 4, 5, 6, 7, 8, 9, 10, 11, 12] 13 (by kernel_rfl) (by kernel_rfl))
        refine ⟨fun _ => hcl, ?_⟩
        refine qdp (fuel := 1) [9] hs hcl hqC_60 fun a hs => ?_
        refine Vk.dOnly (i := 10) (by kernel_rfl) (Vk.store1 (b := b_39) (ty := 159) (x := (.tmp 46)) (y := (.tmp 45)) (off := 0) (C.slc A_68 ((([] : List Int) ++ ([v_63] : List Int)).length) c_69) 2 hs (by kernel_rfl) (by kernel_rfl) (by kernel_rfl) (by kernel_rfl) (by kernel_rfl) (by kernel_rfl) rfl (Nat.le_of_ble_eq_true (by kernel_rfl)) fun a w hs => ?_)
        refine ⟨fun h => absurd h (by decide), ?_⟩
        replace hs := hs.pick [0, 5, 8, 9, 10, 11, 26, 27, 31, 32, 33] (L' := [(0, pp b_x0), (5, pp b_20), (8, pp b_22), (9, pp b_36), (10, pp b_39), (11, vi 0), (26, .agg (vals ([C.slc A_12 (([0, 1] : List Int).length) 2, C.slc A_14 (([0] : List Int).length) 1, C.slc A_16 (([1] : List Int).length) 1]))), (27, vi 0), (31, .slice A_12 (([0, 1] : List Int).length) 2), (32, vi 2), (33, vi 0)]) (by kernel_rfl)
        refine Vk.dDone (by kernel_rfl) ?_
        refine hK51 _ _ ?_
        clear hK51
        refine Vk.region ?_
        refine qpe 2 [(0, pp b_x0), (5, pp b_20), (8, pp b_22), (9, pp b_36), (10, pp b_39), (11, vi 0), (26, .agg (vals ([C.slc A_12 (([0, 1] : List Int).length) 2, C.slc A_14 (([0] : List Int).length) 1, C.slc A_16 (([1] : List Int).length) 1]))), (27, vi 0), (31, .slice A_12 (([0, 1] : List Int).length) 2), (32, vi 2), (33, vi 1)] hs fun a hs => hKL48 _ _ ?_
        clear hKL48
        refine Vk.unroll fun KL70 hKL70 => ?_
        refine qsr fun K71 hK71 => ?_
        refine qpe 1 [(0, pp b_x0), (5, pp b_20), (8, pp b_22), (9, pp b_36), (10, pp b_39), (11, vi 0), (26, .agg (vals ([C.slc A_12 (([0, 1] : List Int).length) 2, C.slc A_14 (([0] : List Int).length) 1, C.slc A_16 (([1] : List Int).length) 1]))), (27, vi 0), (31, .slice A_12 (([0, 1] : List Int).length) 2), (32, vi 2), (33, vi 1), (34, .bool true)] hs fun a hs => hK71 _ _ ?_
        clear hK71
        refine Vk.seq fun K72 hK72 => ?_
        refine qct hs ?_
        refine wp_skip ?_
        refine hK72 _ _ ?_
        clear hK72
        refine Vk.seq fun K73 hK73 => ?_
        refine wp_block ?_
        refine qsr fun K74 hK74 => ?_
        obtain ⟨h_75, hm⟩ := ite_t hm
        obtain ⟨e_78, h_76, hm⟩ := bind_t hm
        obtain ⟨b_79, o_80, hA_81, h_77⟩ := Sl.elem (Own.rowSl 0 (Own.to (S' := rowp A_12 2 3 1 (eI .i64) ([0, 1] : List Int) :: S) hs.own [10] 13 (by kernel_rfl) (by kernel_rfl)) rfl) h_76
        refine Vk.step (Vk.value (some 35) (.pointer (some ⟨b_79, o_80 + 1 * 1, none⟩)) hs (by kernel_rfl) (op := (.indexAddr 159 (.tmp 31) (.tmp 33))) (by kernel_rfl) (fun o ho => run_idxSlc (k := .i64) ho (cap := 2) (len := ([0, 1] : List Int).length) ((congrArg (fun A => Value.slice A (([0, 1] : List Int).length) (2)) hA_81) ▸ (by kernel_rfl)) (by kernel_rfl) (by kernel_rfl) (idx_ok h_75 h_76) _) fun a hs => ?_)
        refine Vk.step (Vk.value (some 36) (vi e_78) hs (by kernel_rfl) (op := (.load 3 (.tmp 35))) (by kernel_rfl) (fun o ho => run_load1 (c := ci e_78) ho (by kernel_rfl) (by kernel_rfl) (fun w ho => h_77 w ho 0 _ rfl) _ (Own.to (S' := rowp A_12 2 3 1 (eI .i64) ([0, 1] : List Int) :: S) hs.own [10] 13 (by kernel_rfl) (by kernel_rfl))) fun a hs => ?_)
        refine qpe 1 [(0, pp b_x0), (5, pp b_20), (8, pp b_22), (9, pp b_36), (10, pp b_39), (11, vi 0), (14, vi e_78), (26, .agg (vals ([C.slc A_12 (([0, 1] : List Int).length) 2, C.slc A_14 (([0] : List Int).length) 1, C.slc A_16 (([1] : List Int).length) 1]))), (27, vi 0), (31, .slice A_12 (([0, 1] : List Int).length) 2), (32, vi 2), (33, vi 1)] hs fun a hs => hK74 _ _ ?_
        clear hK74
        obtain ⟨C_82, hC_82⟩ : ∃ X0 : List HP, X0 = (rowp A_64 1 3 1 (eI .i64) ([v_63] : List Int) :: pt b_39 (blk ([C.slc A_68 ((([] : List Int) ++ ([v_63] : List Int)).length) c_69, C.slc none 0 0, C.slc none 0 0]) 160) :: pt b_36 (blk v_35.1 26) :: Twire_Machine.own b_x0 v_35.2 :: pt b_22 (blk [ci 0, ci 0, ci 0] 28) :: pt b_21 (blk ([C.slc A_12 (([0, 1] : List Int).length) 2, C.slc A_14 (([0] : List Int).length) 1, C.slc A_16 (([1] : List Int).length) 1]) 160) :: pt b_20 (blk x1 28) :: rowp A_16 1 3 1 (eI .i64) ([1] : List Int) :: rowp A_14 1 3 1 (eI .i64) ([0] : List Int) :: rowp A_12 2 3 1 (eI .i64) ([0, 1] : List Int) :: pt b_3 (blk [ci 0, ci 0, ci 0] 28) :: pt b_2 (blk x1 28) :: S) := ⟨_, rfl⟩
        refine qdr 10 κ C_82 hs fun w hs hqC_82 => ?_
        have hcz : Own κ w (rowp A_64 1 3 1 (eI .i64) ([v_63] : List Int) :: pt b_39 (blk ([C.slc A_68 ((([] : List Int) ++ ([v_63] : List Int)).length) c_69, C.slc none 0 0, C.slc none 0 0]) 160) :: pt b_36 (blk v_35.1 26) :: Twire_Machine.own b_x0 v_35.2 :: pt b_22 (blk [ci 0, ci 0, ci 0] 28) :: pt b_21 (blk ([C.slc A_12 (([0, 1] : List Int).length) 2, C.slc A_14 (([0] : List Int).length) 1, C.slc A_16 (([1] : List Int).length) 1]) 160) :: pt b_20 (blk x1 28) :: rowp A_16 1 3 1 (eI .i64) ([1] : List Int) :: rowp A_14 1 3 1 (eI .i64) ([0] : List Int) :: rowp A_12 2 3 1 (eI .i64) ([0, 1] : List Int) :: pt b_3 (blk [ci 0, ci 0, ci 0] 28) :: pt b_2 (blk x1 28) :: S) := (Own.to hs.own [1, 2, 3, 4, 5, 6, 7, 8, 9, 10, 11, 12] 13 (by kernel_rfl) (by kernel_rfl))
        have hcl : Own κ w C_82 := by rw [hC_82]; exact hcz
        refine qdp (fuel := 7) [0, 1, 2, 4] hs hcl hqC_82 fun a hs => ?_
        refine qdl 3 1 (C.slc A_68 ((([] : List Int) ++ ([v_63] : List Int)).length) c_69) hs hcl hqC_82 hC_82 rfl fun a hs => ?_
        obtain ⟨h_83, hm⟩ := ite_t hm
        refine Vk.dTakeT (i := 5) (some 42) (.pointer (some ⟨b_36, 0 + e_78.toNat * 1, none⟩)) hs (by kernel_rfl) hqC_82 hcl (by kernel_rfl) (by kernel_rfl) (op := (.indexAddr 26 (.tmp 9) (.tmp 41))) (by kernel_rfl) (by kernel_rfl) (fun w hw o ho => by rw [hC_82] at hw; exact run_idxArr (k := .i64) ho (by kernel_rfl) (by kernel_rfl) (by kernel_rfl) h_83 _) fun a hs => ?_
        obtain ⟨v_85, h_84, hm⟩ := bind_t hm
        refine Vk.dTakeT (i := 6) (some 43) (vi v_85) hs (by kernel_rfl) hqC_82 hcl (by kernel_rfl) (by kernel_rfl) (op := (.load 3 (.tmp 42))) (by kernel_rfl) (by kernel_rfl) (fun w hw o ho => by rw [hC_82] at hw; exact run_load1 (c := ci v_85) ho (by kernel_rfl) (by kernel_rfl) (Cell.own 2 rfl (getI_some h_84)) _ hw) fun a hs => ?_
        refine Vk.dOnly (i := 7) (by kernel_rfl) (Vk.buildOp (sz := 1) (by_ := 8) (t := 159) (e := 3) (parts := #[(0, (.tmp 43))]) (zs := vals [ci 0]) ([v_85] : List Int) (eI .i64) (some 44) hs (by kernel_rfl) (by kernel_rfl) (by kernel_rfl) (by kernel_rfl) (by decide) rfl (fun x _ => rfl) (Nat.le_of_ble_eq_true (by kernel_rfl)) (by kernel_rfl) fun A_86 w a hs => ?_)
        replace hcl : Own κ w C_82 := by rw [hC_82]; exact (Own.to hs.own [2, 3, 4, 5, 6, 7, 8, 9, 10, 11, 12, 13] 14 (by kernel_rfl) (by kernel_rfl))
        refine ⟨fun _ => hcl, ?_⟩
        obtain ⟨h_88, hm⟩ := ite_t hm
        refine Vk.dOnly (i := 8) (by kernel_rfl) (Vk.appendOp (x := (.tmp 40)) (y := (.tmp 44)) (e := 3) (t := 159) (by_ := 8) (sz := 1) (enc := (eI .i64)) (A := A_68) (cap := c_69) (xs := ([] : List Int) ++ ([v_63] : List Int)) (ys := ([v_85] : List Int)) (B := A_86) (c2 := 1) 1 (some 45) hs (by kernel_rfl) (by kernel_rfl) (by kernel_rfl) (by kernel_rfl) rfl (Sl.lift (fun w ho => (Own.to (S' := rowp A_86 1 3 1 (eI .i64) ([v_85] : List Int) :: S) ho [0] 14 (by kernel_rfl) (by kernel_rfl))) (Own.rowSl 0 (Own.to (S' := rowp A_86 1 3 1 (eI .i64) ([v_85] : List Int) :: S) hs.own [0] 14 (by kernel_rfl) (by kernel_rfl)) rfl)) (by kernel_rfl) (by kernel_rfl) (by decide) (by decide) h_88 fun A_89 c_90 w a hs => ?_)
        replace hcl : Own κ w C_82 := by rw [hC_82]; exact (Own.to hs.own [2, 3, 4, 5, 6, 7, 8, 9, 10, 11, 12, 13] 14 (by kernel_rfl) (by kernel_rfl))
        refine ⟨fun _ => hcl, ?_⟩
        refine qdp (fuel := 1) [9] hs hcl hqC_82 fun a hs => ?_
        refine Vk.dOnly (i := 10) (by kernel_rfl) (Vk.store1 (b := b_39) (ty := 159) (x := (.tmp 46)) (y := (.tmp 45)) (off := 0) (C.slc A_89 (((([] : List Int) ++ ([v_63] : List Int)) ++ ([v_85] : List Int)).length) c_90) 3 hs (by kernel_rfl) (by kernel_rfl) (by kernel_rfl) (by kernel_rfl) (by kernel_rfl) (by kernel_rfl) rfl (Nat.le_of_ble_eq_true (by kernel_rfl)) fun a w hs => ?_)
        refine ⟨fun h => absurd h (by decide), ?_⟩
        replace hs := hs.pick [0, 5, 8, 9, 10, 11, 26, 27, 31, 32, 33] (L' := [(0, pp b_x0), (5, pp b_20), (8, pp b_22), (9, pp b_36), (10, pp b_39), (11, vi 0), (26, .agg (vals ([C.slc A_12 (([0, 1] : List Int).length) 2, C.slc A_14 (([0] : List Int).length) 1, C.slc A_16 (([1] : List Int).length) 1]))), (27, vi 0), (31, .slice A_12 (([0, 1] : List Int).length) 2), (32, vi 2), (33, vi 1)]) (by kernel_rfl)
        refine Vk.dDone (by kernel_rfl) ?_
        refine hK73 _ _ ?_
        clear hK73
        refine Vk.region ?_
        refine qpe 2 [(0, pp b_x0), (5, pp b_20), (8, pp b_22), (9, pp b_36), (10, pp b_39), (11, vi 0), (26, .agg (vals ([C.slc A_12 (([0, 1] : List Int).length) 2, C.slc A_14 (([0] : List Int).length) 1, C.slc A_16 (([1] : List Int).length) 1]))), (27, vi 0), (31, .slice A_12 (([0, 1] : List Int).length) 2), (32, vi 2), (33, vi 2)] hs fun a hs => hKL70 _ _ ?_
        clear hKL70
        refine Vk.unroll fun KL91 hKL91 => ?_
        refine qsr fun K92 hK92 => ?_
        refine qpe 1 [(0, pp b_x0), (5, pp b_20), (8, pp b_22), (9, pp b_36), (10, pp b_39), (11, vi 0), (26, .agg (vals ([C.slc A_12 (([0, 1] : List Int).length) 2, C.slc A_14 (([0] : List Int).length) 1, C.slc A_16 (([1] : List Int).length) 1]))), (27, vi 0), (31, .slice A_12 (([0, 1] : List Int).length) 2), (32, vi 2), (33, vi 2), (34, .bool false)] hs fun a hs => hK92 _ _ ?_
        clear hK92
        refine Vk.seq fun K93 hK93 => ?_
        refine qcf hs ?_
        refine wp_exit ?_
        refine hK45 _ _ ?_
        clear hK45
        refine Vk.region ?_
        refine qpe 2 [(0, pp b_x0), (5, pp b_20), (8, pp b_22), (9, pp b_36), (10, pp b_39), (26, .agg (vals ([C.slc A_12 (([0, 1] : List Int).length) 2, C.slc A_14 (([0] : List Int).length) 1, C.slc A_16 (([1] : List Int).length) 1]))), (27, vi 1)] hs fun a hs => hKL42 _ _ ?_
        clear hKL42
        refine Vk.unroll fun KL94 hKL94 => ?_
        refine qsr fun K95 hK95 => ?_
        refine qpe 1 [(0, pp b_x0), (5, pp b_20), (8, pp b_22), (9, pp b_36), (10, pp b_39), (26, .agg (vals ([C.slc A_12 (([0, 1] : List Int).length) 2, C.slc A_14 (([0] : List Int).length) 1, C.slc A_16 (([1] : List Int).length) 1]))), (27, vi 1), (28, .bool true)] hs fun a hs => hK95 _ _ ?_
        clear hK95
        refine Vk.seq fun K96 hK96 => ?_
        refine qct hs ?_
        refine wp_skip ?_
        refine hK96 _ _ ?_
        clear hK96
        refine Vk.seq fun K97 hK97 => ?_
        refine wp_block ?_
        refine qsr fun K98 hK98 => ?_
        refine qpe 4 [(0, pp b_x0), (5, pp b_20), (8, pp b_22), (9, pp b_36), (10, pp b_39), (11, vi 1), (12, .slice A_14 (([0] : List Int).length) 1), (26, .agg (vals ([C.slc A_12 (([0, 1] : List Int).length) 2, C.slc A_14 (([0] : List Int).length) 1, C.slc A_16 (([1] : List Int).length) 1]))), (27, vi 1)] hs fun a hs => hK98 _ _ ?_
        clear hK98
        refine qsr fun K99 hK99 => ?_
        refine qpe 3 [(0, pp b_x0), (5, pp b_20), (8, pp b_22), (9, pp b_36), (10, pp b_39), (11, vi 1), (26, .agg (vals ([C.slc A_12 (([0, 1] : List Int).length) 2, C.slc A_14 (([0] : List Int).length) 1, C.slc A_16 (([1] : List Int).length) 1]))), (27, vi 1), (31, .slice A_14 (([0] : List Int).length) 1), (32, vi 1), (33, vi 0)] hs fun a hs => hK99 _ _ ?_
        clear hK99
        refine wp_block ?_
        refine Vk.unroll0 40 ?_
        refine Vk.unroll fun KL100 hKL100 => ?_
        refine qsr fun K101 hK101 => ?_
        refine qpe 1 [(0, pp b_x0), (5, pp b_20), (8, pp b_22), (9, pp b_36), (10, pp b_39), (11, vi 1), (26, .agg (vals ([C.slc A_12 (([0, 1] : List Int).length) 2, C.slc A_14 (([0] : List Int).length) 1, C.slc A_16 (([1] : List Int).length) 1]))), (27, vi 1), (31, .slice A_14 (([0] : List Int).length) 1), (32, vi 1), (33, vi 0), (34, .bool true)] hs fun a hs => hK101 _ _ ?_
        clear hK101
        refine Vk.seq fun K102 hK102 => ?_
        refine qct hs ?_
        refine wp_skip ?_
        refine hK102 _ _ ?_
        clear hK102
        refine Vk.seq fun K103 hK103 => ?_
        refine wp_block ?_
        refine qsr fun K104 hK104 => ?_
        obtain ⟨h_105, hm⟩ := ite_t hm
        obtain ⟨e_108, h_106, hm⟩ := bind_t hm
        obtain ⟨b_109, o_110, hA_111, h_107⟩ := Sl.elem (Own.rowSl 0 (Own.to (S' := rowp A_14 1 3 1 (eI .i64) ([0] : List Int) :: S) hs.own [10] 14 (by kernel_rfl) (by kernel_rfl)) rfl) h_106
        refine Vk.step (Vk.value (some 35) (.pointer (some ⟨b_109, o_110 + 0 * 1, none⟩)) hs (by kernel_rfl) (op := (.indexAddr 159 (.tmp 31) (.tmp 33))) (by kernel_rfl) (fun o ho => run_idxSlc (k := .i64) ho (cap := 1) (len := ([0] : List Int).length) ((congrArg (fun A => Value.slice A (([0] : List Int).length) (1)) hA_111) ▸ (by kernel_rfl)) (by kernel_rfl) (by kernel_rfl) (idx_ok h_105 h_106) _) fun a hs => ?_)
        refine Vk.step (Vk.value (some 36) (vi e_108) hs (by kernel_rfl) (op := (.load 3 (.tmp 35))) (by kernel_rfl) (fun o ho => run_load1 (c := ci e_108) ho (by kernel_rfl) (by kernel_rfl) (fun w ho => h_107 w ho 0 _ rfl) _ (Own.to (S' := rowp A_14 1 3 1 (eI .i64) ([0] : List Int) :: S) hs.own [10] 14 (by kernel_rfl) (by kernel_rfl))) fun a hs => ?_)
        refine qpe 1 [(0, pp b_x0), (5, pp b_20), (8, pp b_22), (9, pp b_36), (10, pp b_39), (11, vi 1), (14, vi e_108), (26, .agg (vals ([C.slc A_12 (([0, 1] : List Int).length) 2, C.slc A_14 (([0] : List Int).length) 1, C.slc A_16 (([1] : List Int).length) 1]))), (27, vi 1), (31, .slice A_14 (([0] : List Int).length) 1), (32, vi 1), (33, vi 0)] hs fun a hs => hK104 _ _ ?_
        clear hK104
        obtain ⟨C_112, hC_112⟩ : ∃ X0 : List HP, X0 = (rowp A_86 1 3 1 (eI .i64) ([v_85] : List Int) :: rowp A_89 c_90 3 1 (eI .i64) ((([] : List Int) ++ ([v_63] : List Int)) ++ ([v_85] : List Int)) :: rowp A_64 1 3 1 (eI .i64) ([v_63] : List Int) :: pt b_39 (blk ([C.slc A_89 (((([] : List Int) ++ ([v_63] : List Int)) ++ ([v_85] : List Int)).length) c_90, C.slc none 0 0, C.slc none 0 0]) 160) :: pt b_36 (blk v_35.1 26) :: Twire_Machine.own b_x0 v_35.2 :: pt b_22 (blk [ci 0, ci 0, ci 0] 28) :: pt b_21 (blk ([C.slc A_12 (([0, 1] : List Int).length) 2, C.slc A_14 (([0] : List Int).length) 1, C.slc A_16 (([1] : List Int).length) 1]) 160) :: pt b_20 (blk x1 28) :: rowp A_16 1 3 1 (eI .i64) ([1] : List Int) :: rowp A_14 1 3 1 (eI .i64) ([0] : List Int) :: rowp A_12 2 3 1 (eI .i64) ([0, 1] : List Int) :: pt b_3 (blk [ci 0, ci 0, ci 0] 28) :: pt b_2 (blk x1 28) :: S) := ⟨_, rfl⟩
        refine qdr 10 κ C_112 hs fun w hs hqC_112 => ?_
        have hcz : Own κ w (rowp A_86 1 3 1 (eI .i64) ([v_85] : List Int) :: rowp A_89 c_90 3 1 (eI .i64) ((([] : List Int) ++ ([v_63] : List Int)) ++ ([v_85] : List Int)) :: rowp A_64 1 3 1 (eI .i64) ([v_63] : List Int) :: pt b_39 (blk ([C.slc A_89 (((([] : List Int) ++ ([v_63] : List Int)) ++ ([v_85] : List Int)).length) c_90, C.slc none 0 0, C.slc none 0 0]) 160) :: pt b_36 (blk v_35.1 26) :: Twire_Machine.own b_x0 v_35.2 :: pt b_22 (blk [ci 0, ci 0, ci 0] 28) :: pt b_21 (blk ([C.slc A_12 (([0, 1] : List Int).length) 2, C.slc A_14 (([0] : List Int).length) 1, C.slc A_16 (([1] : List Int).length) 1]) 160) :: pt b_20 (blk x1 28) :: rowp A_16 1 3 1 (eI .i64) ([1] : List Int) :: rowp A_14 1 3 1 (eI .i64) ([0] : List Int) :: rowp A_12 2 3 1 (eI .i64) ([0, 1] : List Int) :: pt b_3 (blk [ci 0, ci 0, ci 0] 28) :: pt b_2 (blk x1 28) :: S) := (Own.to hs.own [0, 1, 2, 3, 4, 5, 6, 7, 8, 9, 10, 11, 12, 13] 14 (by kernel_rfl) (by kernel_rfl))
        have hcl : Own κ w C_112 := by rw [hC_112]; exact hcz
        refine qdp (fuel := 7) [0, 1, 2, 4] hs hcl hqC_112 fun a hs => ?_
        refine qdl 3 3 (C.slc none 0 0) hs hcl hqC_112 hC_112 rfl fun a hs => ?_
        obtain ⟨h_113, hm⟩ := ite_t hm
        refine Vk.dTakeT (i := 5) (some 42) (.pointer (some ⟨b_36, 0 + e_108.toNat * 1, none⟩)) hs (by kernel_rfl) hqC_112 hcl (by kernel_rfl) (by kernel_rfl) (op := (.indexAddr 26 (.tmp 9) (.tmp 41))) (by kernel_rfl) (by kernel_rfl) (fun w hw o ho => by rw [hC_112] at hw; exact run_idxArr (k := .i64) ho (by kernel_rfl) (by kernel_rfl) (by kernel_rfl) h_113 _) fun a hs => ?_
        obtain ⟨v_115, h_114, hm⟩ := bind_t hm
        refine Vk.dTakeT (i := 6) (some 43) (vi v_115) hs (by kernel_rfl) hqC_112 hcl (by kernel_rfl) (by kernel_rfl) (op := (.load 3 (.tmp 42))) (by kernel_rfl) (by kernel_rfl) (fun w hw o ho => by rw [hC_112] at hw; exact run_load1 (c := ci v_115) ho (by kernel_rfl) (by kernel_rfl) (Cell.own 4 rfl (getI_some h_114)) _ hw) fun a hs => ?_
        refine Vk.dOnly (i := 7) (by kernel_rfl) (Vk.buildOp (sz := 1) (by_ := 8) (t := 159) (e := 3) (parts := #[(0, (.tmp 43))]) (zs := vals [ci 0]) ([v_115] : List Int) (eI .i64) (some 44) hs (by kernel_rfl) (by kernel_rfl) (by kernel_rfl) (by kernel_rfl) (by decide) rfl (fun x _ => rfl) (Nat.le_of_ble_eq_true (by kernel_rfl)) (by kernel_rfl) fun A_116 w a hs => ?_)
        replace hcl : Own κ w C_112 := by rw [hC_112]; exact (Own.to hs.own [1, 2, 3, 4, 5, 6, 7, 8, 9, 10, 11, 12, 13, 14] 15 (by kernel_rfl) (by kernel_rfl))
        refine ⟨fun _ => hcl, ?_⟩
        replace hs := hs.addRow none 3 1 (eI .i64)
        obtain ⟨h_119, hm⟩ := ite_t hm
        refine Vk.dOnly (i := 8) (by kernel_rfl) (Vk.appendOp (x := (.tmp 40)) (y := (.tmp 44)) (e := 3) (t := 159) (by_ := 8) (sz := 1) (enc := (eI .i64)) (A := none) (cap := 0) (xs := ([] : List Int)) (ys := ([v_115] : List Int)) (B := A_116) (c2 := 1) 0 (some 45) hs (by kernel_rfl) (by kernel_rfl) (by kernel_rfl) (by kernel_rfl) rfl (Sl.lift (fun w ho => (Own.to (S' := rowp A_116 1 3 1 (eI .i64) ([v_115] : List Int) :: S) ho [1] 16 (by kernel_rfl) (by kernel_rfl))) (Own.rowSl 0 (Own.to (S' := rowp A_116 1 3 1 (eI .i64) ([v_115] : List Int) :: S) hs.own [1] 16 (by kernel_rfl) (by kernel_rfl)) rfl)) (by kernel_rfl) (by kernel_rfl) (by decide) (by decide) h_119 fun A_120 c_121 w a hs => ?_)
        replace hcl : Own κ w C_112 := by rw [hC_112]; exact (Own.to hs.own [2, 3, 4, 5, 6, 7, 8, 9, 10, 11, 12, 13, 14, 15] 16 (by kernel_rfl) (by kernel_rfl))
        refine ⟨fun _ => hcl, ?_⟩
        refine qdp (fuel := 1) [9] hs hcl hqC_112 fun a hs => ?_
        refine Vk.dOnly (i := 10) (by kernel_rfl) (Vk.store1 (b := b_39) (ty := 159) (x := (.tmp 46)) (y := (.tmp 45)) (off := 1) (C.slc A_120 ((([] : List Int) ++ ([v_115] : List Int)).length) c_121) 5 hs (by kernel_rfl) (by kernel_rfl) (by kernel_rfl) (by kernel_rfl) (by kernel_rfl) (by kernel_rfl) rfl (Nat.le_of_ble_eq_true (by kernel_rfl)) fun a w hs => ?_)
        refine ⟨fun h => absurd h (by decide), ?_⟩
        replace hs := hs.pick [0, 5, 8, 9, 10, 11, 26, 27, 31, 32, 33] (L' := [(0, pp b_x0), (5, pp b_20), (8, pp b_22), (9, pp b_36), (10, pp b_39), (11, vi 1), (26, .agg (vals ([C.slc A_12 (([0, 1] : List Int).length) 2, C.slc A_14 (([0] : List Int).length) 1, C.slc A_16 (([1] : List Int).length) 1]))), (27, vi 1), (31, .slice A_14 (([0] : List Int).length) 1), (32, vi 1), (33, vi 0)]) (by kernel_rfl)
        refine Vk.dDone (by kernel_rfl) ?_
        refine hK103 _ _ ?_
        clear hK103
        refine Vk.region ?_
        refine qpe 2 [(0, pp b_x0), (5, pp b_20), (8, pp b_22), (9, pp b_36), (10, pp b_39), (11, vi 1), (26, .agg (vals ([C.slc A_12 (([0, 1] : List Int).length) 2, C.slc A_14 (([0] : List Int).length) 1, C.slc A_16 (([1] : List Int).length) 1]))), (27, vi 1), (31, .slice A_14 (([0] : List Int).length) 1), (32, vi 1), (33, vi 1)] hs fun a hs => hKL100 _ _ ?_
        clear hKL100
        refine Vk.unroll fun KL122 hKL122 => ?_
        refine qsr fun K123 hK123 => ?_
        refine qpe 1 [(0, pp b_x0), (5, pp b_20), (8, pp b_22), (9, pp b_36), (10, pp b_39), (11, vi 1), (26, .agg (vals ([C.slc A_12 (([0, 1] : List Int).length) 2, C.slc A_14 (([0] : List Int).length) 1, C.slc A_16 (([1] : List Int).length) 1]))), (27, vi 1), (31, .slice A_14 (([0] : List Int).length) 1), (32, vi 1), (33, vi 1), (34, .bool false)] hs fun a hs => hK123 _ _ ?_
        clear hK123
        refine Vk.seq fun K124 hK124 => ?_
        refine qcf hs ?_
        refine wp_exit ?_
        refine hK97 _ _ ?_
        clear hK97
        refine Vk.region ?_
        refine qpe 2 [(0, pp b_x0), (5, pp b_20), (8, pp b_22), (9, pp b_36), (10, pp b_39), (26, .agg (vals ([C.slc A_12 (([0, 1] : List Int).length) 2, C.slc A_14 (([0] : List Int).length) 1, C.slc A_16 (([1] : List Int).length) 1]))), (27, vi 2)] hs fun a hs => hKL94 _ _ ?_
        clear hKL94
        refine Vk.unroll fun KL125 hKL125 => ?_
        refine qsr fun K126 hK126 => ?_
        refine qpe 1 [(0, pp b_x0), (5, pp b_20), (8, pp b_22), (9, pp b_36), (10, pp b_39), (26, .agg (vals ([C.slc A_12 (([0, 1] : List Int).length) 2, C.slc A_14 (([0] : List Int).length) 1, C.slc A_16 (([1] : List Int).length) 1]))), (27, vi 2), (28, .bool true)] hs fun a hs => hK126 _ _ ?_
        clear hK126
        refine Vk.seq fun K127 hK127 => ?_
        refine qct hs ?_
        refine wp_skip ?_
        refine hK127 _ _ ?_
        clear hK127
        refine Vk.seq fun K128 hK128 => ?_
        refine wp_block ?_
        refine qsr fun K129 hK129 => ?_
        refine qpe 4 [(0, pp b_x0), (5, pp b_20), (8, pp b_22), (9, pp b_36), (10, pp b_39), (11, vi 2), (12, .slice A_16 (([1] : List Int).length) 1), (26, .agg (vals ([C.slc A_12 (([0, 1] : List Int).length) 2, C.slc A_14 (([0] : List Int).length) 1, C.slc A_16 (([1] : List Int).length) 1]))), (27, vi 2)] hs fun a hs => hK129 _ _ ?_
        clear hK129
        refine qsr fun K130 hK130 => ?_
        refine qpe 3 [(0, pp b_x0), (5, pp b_20), (8, pp b_22), (9, pp b_36), (10, pp b_39), (11, vi 2), (26, .agg (vals ([C.slc A_12 (([0, 1] : List Int).length) 2, C.slc A_14 (([0] : List Int).length) 1, C.slc A_16 (([1] : List Int).length) 1]))), (27, vi 2), (31, .slice A_16 (([1] : List Int).length) 1), (32, vi 1), (33, vi 0)] hs fun a hs => hK130 _ _ ?_
        clear hK130
        refine wp_block ?_
        refine Vk.unroll0 40 ?_
        refine Vk.unroll fun KL131 hKL131 => ?_
        refine qsr fun K132 hK132 => ?_
        refine qpe 1 [(0, pp b_x0), (5, pp b_20), (8, pp b_22), (9, pp b_36), (10, pp b_39), (11, vi 2), (26, .agg (vals ([C.slc A_12 (([0, 1] : List Int).length) 2, C.slc A_14 (([0] : List Int).length) 1, C.slc A_16 (([1] : List Int).length) 1]))), (27, vi 2), (31, .slice A_16 (([1] : List Int).length) 1), (32, vi 1), (33, vi 0), (34, .bool true)] hs fun a hs => hK132 _ _ ?_
        clear hK132
        refine Vk.seq fun K133 hK133 => ?_
        refine qct hs ?_
        refine wp_skip ?_
        refine hK133 _ _ ?_
        clear hK133
        refine Vk.seq fun K134 hK134 => ?_
        refine wp_block ?_
        refine qsr fun K135 hK135 => ?_
        obtain ⟨h_136, hm⟩ := ite_t hm
        obtain ⟨e_139, h_137, hm⟩ := bind_t hm
        obtain ⟨b_140, o_141, hA_142, h_138⟩ := Sl.elem (Own.rowSl 0 (Own.to (S' := rowp A_16 1 3 1 (eI .i64) ([1] : List Int) :: S) hs.own [11] 16 (by kernel_rfl) (by kernel_rfl)) rfl) h_137
        refine Vk.step (Vk.value (some 35) (.pointer (some ⟨b_140, o_141 + 0 * 1, none⟩)) hs (by kernel_rfl) (op := (.indexAddr 159 (.tmp 31) (.tmp 33))) (by kernel_rfl) (fun o ho => run_idxSlc (k := .i64) ho (cap := 1) (len := ([1] : List Int).length) ((congrArg (fun A => Value.slice A (([1] : List Int).length) (1)) hA_142) ▸ (by kernel_rfl)) (by kernel_rfl) (by kernel_rfl) (idx_ok h_136 h_137) _) fun a hs => ?_)
        refine Vk.step (Vk.value (some 36) (vi e_139) hs (by kernel_rfl) (op := (.load 3 (.tmp 35))) (by kernel_rfl) (fun o ho => run_load1 (c := ci e_139) ho (by kernel_rfl) (by kernel_rfl) (fun w ho => h_138 w ho 0 _ rfl) _ (Own.to (S' := rowp A_16 1 3 1 (eI .i64) ([1] : List Int) :: S) hs.own [11] 16 (by kernel_rfl) (by kernel_rfl))) fun a hs => ?_)
        refine qpe 1 [(0, pp b_x0), (5, pp b_20), (8, pp b_22), (9, pp b_36), (10, pp b_39), (11, vi 2), (14, vi e_139), (26, .agg (vals ([C.slc A_12 (([0, 1] : List Int).length) 2, C.slc A_14 (([0] : List Int).length) 1, C.slc A_16 (([1] : List Int).length) 1]))), (27, vi 2), (31, .slice A_16 (([1] : List Int).length) 1), (32, vi 1), (33, vi 0)] hs fun a hs => hK135 _ _ ?_
        clear hK135
        obtain ⟨C_143, hC_143⟩ : ∃ X0 : List HP, X0 = (rowp A_120 c_121 3 1 (eI .i64) (([] : List Int) ++ ([v_115] : List Int)) :: rowp A_116 1 3 1 (eI .i64) ([v_115] : List Int) :: rowp A_86 1 3 1 (eI .i64) ([v_85] : List Int) :: rowp A_89 c_90 3 1 (eI .i64) ((([] : List Int) ++ ([v_63] : List Int)) ++ ([v_85] : List Int)) :: rowp A_64 1 3 1 (eI .i64) ([v_63] : List Int) :: pt b_39 (blk ([C.slc A_89 (((([] : List Int) ++ ([v_63] : List Int)) ++ ([v_85] : List Int)).length) c_90, C.slc A_120 ((([] : List Int) ++ ([v_115] : List Int)).length) c_121, C.slc none 0 0]) 160) :: pt b_36 (blk v_35.1 26) :: Twire_Machine.own b_x0 v_35.2 :: pt b_22 (blk [ci 0, ci 0, ci 0] 28) :: pt b_21 (blk ([C.slc A_12 (([0, 1] : List Int).length) 2, C.slc A_14 (([0] : List Int).length) 1, C.slc A_16 (([1] : List Int).length) 1]) 160) :: pt b_20 (blk x1 28) :: rowp A_16 1 3 1 (eI .i64) ([1] : List Int) :: rowp A_14 1 3 1 (eI .i64) ([0] : List Int) :: rowp A_12 2 3 1 (eI .i64) ([0, 1] : List Int) :: pt b_3 (blk [ci 0, ci 0, ci 0] 28) :: pt b_2 (blk x1 28) :: S) := ⟨_, rfl⟩
        refine qdr 10 κ C_143 hs fun w hs hqC_143 => ?_
        have hcz : Own κ w (rowp A_120 c_121 3 1 (eI .i64) (([] : List Int) ++ ([v_115] : List Int)) :: rowp A_116 1 3 1 (eI .i64) ([v_115] : List Int) :: rowp A_86 1 3 1 (eI .i64) ([v_85] : List Int) :: rowp A_89 c_90 3 1 (eI .i64) ((([] : List Int) ++ ([v_63] : List Int)) ++ ([v_85] : List Int)) :: rowp A_64 1 3 1 (eI .i64) ([v_63] : List Int) :: pt b_39 (blk ([C.slc A_89 (((([] : List Int) ++ ([v_63] : List Int)) ++ ([v_85] : List Int)).length) c_90, C.slc A_120 ((([] : List Int) ++ ([v_115] : List Int)).length) c_121, C.slc none 0 0]) 160) :: pt b_36 (blk v_35.1 26) :: Twire_Machine.own b_x0 v_35.2 :: pt b_22 (blk [ci 0, ci 0, ci 0] 28) :: pt b_21 (blk ([C.slc A_12 (([0, 1] : List Int).length) 2, C.slc A_14 (([0] : List Int).length) 1, C.slc A_16 (([1] : List Int).length) 1]) 160) :: pt b_20 (blk x1 28) :: rowp A_16 1 3 1 (eI .i64) ([1] : List Int) :: rowp A_14 1 3 1 (eI .i64) ([0] : List Int) :: rowp A_12 2 3 1 (eI .i64) ([0, 1] : List Int) :: pt b_3 (blk [ci 0, ci 0, ci 0] 28) :: pt b_2 (blk x1 28) :: S) := (Own.to hs.own [0, 1, 2, 3, 4, 5, 6, 7, 8, 9, 10, 11, 12, 13, 14, 15] 16 (by kernel_rfl) (by kernel_rfl))
        have hcl : Own κ w C_143 := by rw [hC_143]; exact hcz
        refine qdp (fuel := 7) [0, 1, 2, 4] hs hcl hqC_143 fun a hs => ?_
        refine qdl 3 5 (C.slc none 0 0) hs hcl hqC_143 hC_143 rfl fun a hs => ?_
        obtain ⟨h_144, hm⟩ := ite_t hm
        refine Vk.dTakeT (i := 5) (some 42) (.pointer (some ⟨b_36, 0 + e_139.toNat * 1, none⟩)) hs (by kernel_rfl) hqC_143 hcl (by kernel_rfl) (by kernel_rfl) (op := (.indexAddr 26 (.tmp 9) (.tmp 41))) (by kernel_rfl) (by kernel_rfl) (fun w hw o ho => by rw [hC_143] at hw; exact run_idxArr (k := .i64) ho (by kernel_rfl) (by kernel_rfl) (by kernel_rfl) h_144 _) fun a hs => ?_
        obtain ⟨v_146, h_145, hm⟩ := bind_t hm
        refine Vk.dTakeT (i := 6) (some 43) (vi v_146) hs (by kernel_rfl) hqC_143 hcl (by kernel_rfl) (by kernel_rfl) (op := (.load 3 (.tmp 42))) (by kernel_rfl) (by kernel_rfl) (fun w hw o ho => by rw [hC_143] at hw; exact run_load1 (c := ci v_146) ho (by kernel_rfl) (by kernel_rfl) (Cell.own 6 rfl (getI_some h_145)) _ hw) fun a hs => ?_
        refine Vk.dOnly (i := 7) (by kernel_rfl) (Vk.buildOp (sz := 1) (by_ := 8) (t := 159) (e := 3) (parts := #[(0, (.tmp 43))]) (zs := vals [ci 0]) ([v_146] : List Int) (eI .i64) (some 44) hs (by kernel_rfl) (by kernel_rfl) (by kernel_rfl) (by kernel_rfl) (by decide) rfl (fun x _ => rfl) (Nat.le_of_ble_eq_true (by kernel_rfl)) (by kernel_rfl) fun A_147 w a hs => ?_)
        replace hcl : Own κ w C_143 := by rw [hC_143]; exact (Own.to hs.own [1, 2, 3, 4, 5, 6, 7, 8, 9, 10, 11, 12, 13, 14, 15, 16] 17 (by kernel_rfl) (by kernel_rfl))
        refine ⟨fun _ => hcl, ?_⟩
        replace hs := hs.addRow none 3 1 (eI .i64)
        obtain ⟨h_150, hm⟩ := ite_t hm
        refine Vk.dOnly (i := 8) (by kernel_rfl) (Vk.appendOp (x := (.tmp 40)) (y := (.tmp 44)) (e := 3) (t := 159) (by_ := 8) (sz := 1) (enc := (eI .i64)) (A := none) (cap := 0) (xs := ([] : List Int)) (ys := ([v_146] : List Int)) (B := A_147) (c2 := 1) 0 (some 45) hs (by kernel_rfl) (by kernel_rfl) (by kernel_rfl) (by kernel_rfl) rfl (Sl.lift (fun w ho => (Own.to (S' := rowp A_147 1 3 1 (eI .i64) ([v_146] : List Int) :: S) ho [1] 18 (by kernel_rfl) (by kernel_rfl))) (Own.rowSl 0 (Own.to (S' := rowp A_147 1 3 1 (eI .i64) ([v_146] : List Int) :: S) hs.own [1] 18 (by kernel_rfl) (by kernel_rfl)) rfl)) (by kernel_rfl) (by kernel_rfl) (by decide) (by decide) h_150 fun A_151 c_152 w a hs => ?_)
        replace hcl : Own κ w C_143 := by rw [hC_143]; exact (Own.to hs.own [2, 3, 4, 5, 6, 7, 8, 9, 10, 11, 12, 13, 14, 15, 16, 17] 18 (by kernel_rfl) (by kernel_rfl))
        refine ⟨fun _ => hcl, ?_⟩
        refine qdp (fuel := 1) [9] hs hcl hqC_143 fun a hs => ?_
        refine Vk.dOnly (i := 10) (by kernel_rfl) (Vk.store1 (b := b_39) (ty := 159) (x := (.tmp 46)) (y := (.tmp 45)) (off := 2) (C.slc A_151 ((([] : List Int) ++ ([v_146] : List Int)).length) c_152) 7 hs (by kernel_rfl) (by kernel_rfl) (by kernel_rfl) (by kernel_rfl) (by kernel_rfl) (by kernel_rfl) rfl (Nat.le_of_ble_eq_true (by kernel_rfl)) fun a w hs => ?_)
        refine ⟨fun h => absurd h (by decide), ?_⟩
        replace hs := hs.pick [0, 5, 8, 9, 10, 11, 26, 27, 31, 32, 33] (L' := [(0, pp b_x0), (5, pp b_20), (8, pp b_22), (9, pp b_36), (10, pp b_39), (11, vi 2), (26, .agg (vals ([C.slc A_12 (([0, 1] : List Int).length) 2, C.slc A_14 (([0] : List Int).length) 1, C.slc A_16 (([1] : List Int).length) 1]))), (27, vi 2), (31, .slice A_16 (([1] : List Int).length) 1), (32, vi 1), (33, vi 0)]) (by kernel_rfl)
        refine Vk.dDone (by kernel_rfl) ?_
        refine hK134 _ _ ?_
        clear hK134
        refine Vk.region ?_
        refine qpe 2 [(0, pp b_x0), (5, pp b_20), (8, pp b_22), (9, pp b_36), (10, pp b_39), (11, vi 2), (26, .agg (vals ([C.slc A_12 (([0, 1] : List Int).length) 2, C.slc A_14 (([0] : List Int).length) 1, C.slc A_16 (([1] : List Int).length) 1]))), (27, vi 2), (31, .slice A_16 (([1] : List Int).length) 1), (32, vi 1), (33, vi 1)] hs fun a hs => hKL131 _ _ ?_
        clear hKL131
        refine Vk.unroll fun KL153 hKL153 => ?_
        refine qsr fun K154 hK154 => ?_
        refine qpe 1 [(0, pp b_x0), (5, pp b_20), (8, pp b_22), (9, pp b_36), (10, pp b_39), (11, vi 2), (26, .agg (vals ([C.slc A_12 (([0, 1] : List Int).length) 2, C.slc A_14 (([0] : List Int).length) 1, C.slc A_16 (([1] : List Int).length) 1]))), (27, vi 2), (31, .slice A_16 (([1] : List Int).length) 1), (32, vi 1), (33, vi 1), (34, .bool false)] hs fun a hs => hK154 _ _ ?_
        clear hK154
        refine Vk.seq fun K155 hK155 => ?_
        refine qcf hs ?_
        refine wp_exit ?_
        refine hK128 _ _ ?_
        clear hK128
        refine Vk.region ?_
        refine qpe 2 [(0, pp b_x0), (5, pp b_20), (8, pp b_22), (9, pp b_36), (10, pp b_39), (26, .agg (vals ([C.slc A_12 (([0, 1] : List Int).length) 2, C.slc A_14 (([0] : List Int).length) 1, C.slc A_16 (([1] : List Int).length) 1]))), (27, vi 3)] hs fun a hs => hKL125 _ _ ?_
        clear hKL125
        refine Vk.unroll fun KL156 hKL156 => ?_
        refine qsr fun K157 hK157 => ?_
        refine qpe 1 [(0, pp b_x0), (5, pp b_20), (8, pp b_22), (9, pp b_36), (10, pp b_39), (26, .agg (vals ([C.slc A_12 (([0, 1] : List Int).length) 2, C.slc A_14 (([0] : List Int).length) 1, C.slc A_16 (([1] : List Int).length) 1]))), (27, vi 3), (28, .bool false)] hs fun a hs => hK157 _ _ ?_
        clear hK157
        refine Vk.seq fun K158 hK158 => ?_
        refine qcf hs ?_
        refine wp_exit ?_
        refine hK40 _ _ ?_
        clear hK40
        refine qsr fun K159 hK159 => ?_
        refine qpu 1 hs fun a hs => ?_
        refine Vk.step (Vk.value (some 50) (.agg (vals x1)) hs (by kernel_rfl) (op := (.load 28 (.tmp 5))) (by kernel_rfl) (fun o ho => run_loadN (cs := x1) ho (by kernel_rfl) (by kernel_rfl) h_11 (CellsAt.all 12 rfl) _ hs.own) fun a hs => ?_)
        refine qln 7 ([C.slc A_89 (((([] : List Int) ++ ([v_63] : List Int)) ++ ([v_85] : List Int)).length) c_90, C.slc A_120 ((([] : List Int) ++ ([v_115] : List Int)).length) c_121, C.slc A_151 ((([] : List Int) ++ ([v_146] : List Int)).length) c_152]) hs rfl fun a hs => ?_
        refine Vk.step (Vk.call (some 52) 161 #[pp b_x0, .agg (vals x1), .agg (vals ([C.slc A_89 (((([] : List Int) ++ ([v_63] : List Int)) ++ ([v_85] : List Int)).length) c_90, C.slc A_120 ((([] : List Int) ++ ([v_115] : List Int)).length) c_121, C.slc A_151 ((([] : List Int) ++ ([v_146] : List Int)).length) c_152]))] hs (by kernel_rfl) (by kernel_rfl) (by kernel_rfl) ?_)
        refine Vk.enterI [(0, pp b_x0), (1, .agg (vals x1)), (2, .agg (vals ([C.slc A_89 (((([] : List Int) ++ ([v_63] : List Int)) ++ ([v_85] : List Int)).length) c_90, C.slc A_120 ((([] : List Int) ++ ([v_115] : List Int)).length) c_121, C.slc A_151 ((([] : List Int) ++ ([v_146] : List Int)).length) c_152])))] Try.func161 rfl Try.ntmps161 (by kernel_rfl) (Nat.le_of_ble_eq_true (by kernel_rfl)) hs.own fun KR160 hKR160 hKP160 a hs => ?_
        refine qsr fun K161 hK161 => ?_
        refine Vk.step (Vk.box (x := (.tmp 1)) 4 28 x1 hs (by kernel_rfl) (by kernel_rfl) (by kernel_rfl) fun b_162 w a hs => ?_)
        refine Vk.step (Vk.box (x := (.tmp 2)) 5 160 ([C.slc A_89 (((([] : List Int) ++ ([v_63] : List Int)) ++ ([v_85] : List Int)).length) c_90, C.slc A_120 ((([] : List Int) ++ ([v_115] : List Int)).length) c_121, C.slc A_151 ((([] : List Int) ++ ([v_146] : List Int)).length) c_152]) hs (by kernel_rfl) (by kernel_rfl) (by kernel_rfl) fun b_163 w a hs => ?_)
        refine Vk.step (Vk.alloc 6 28 [ci 0, ci 0, ci 0] hs (by kernel_rfl) (by kernel_rfl) (by kernel_rfl) fun b_164 w a hs => ?_)
        refine qpe 0 [(0, pp b_x0), (4, pp b_162), (5, pp b_163), (6, pp b_164)] hs fun a hs => hK161 _ _ ?_
        clear hK161
        refine qsr fun K165 hK165 => ?_
        refine Vk.step (Vk.value (some 11) (.agg (vals x1)) hs (by kernel_rfl) (op := (.load 28 (.tmp 4))) (by kernel_rfl) (fun o ho => run_loadN (cs := x1) ho (by kernel_rfl) (by kernel_rfl) h_11 (CellsAt.all 2 rfl) _ hs.own) fun a hs => ?_)
        refine Vk.step (Vk.alloc 7 28 [ci 0, ci 0, ci 0] hs (by kernel_rfl) (by kernel_rfl) (by kernel_rfl) fun b_166 w a hs => ?_)
        refine Vk.step (Vk.storeA (b := b_166) (ty := 28) (x := (.tmp 7)) (y := (.tmp 11)) (sz := 3) x1 0 hs (by kernel_rfl) (by kernel_rfl) (by kernel_rfl) (by kernel_rfl) (by kernel_rfl) h_11 (by kernel_rfl) rfl (Eq.trans (b := 3) h_11 (Eq.symm rfl)) fun a w hs => ?_)
        refine qpe 0 [(0, pp b_x0), (5, pp b_163), (6, pp b_164), (7, pp b_166)] hs fun a hs => hK165 _ _ ?_
        clear hK165
        refine Vk.seq fun K167 hK167 => ?_
        refine qsr fun K168 hK168 => ?_
        refine qpu 1 hs fun a hs => ?_
        obtain ⟨g_169, hs⟩ := hs.unex 13 rfl
        obtain ⟨v_172, h_171, hm⟩ := bind_t hm
        refine Vk.step (Vk.call (some 13) 89 #[pp b_x0] hs (by kernel_rfl) (by kernel_rfl) (by kernel_rfl) ?_)
        refine (wire_Machine_N.ok k v_35.2 v_172 h_171 κ w (pt b_166 (blk x1 28) :: pt b_164 (blk [ci 0, ci 0, ci 0] 28) :: pt b_163 (blk ([C.slc A_89 (((([] : List Int) ++ ([v_63] : List Int)) ++ ([v_85] : List Int)).length) c_90, C.slc A_120 ((([] : List Int) ++ ([v_115] : List Int)).length) c_121, C.slc A_151 ((([] : List Int) ++ ([v_146] : List Int)).length) c_152]) 160) :: pt b_162 (blk x1 28) :: rowp A_151 c_152 3 1 (eI .i64) (([] : List Int) ++ ([v_146] : List Int)) :: rowp A_147 1 3 1 (eI .i64) ([v_146] : List Int) :: rowp A_120 c_121 3 1 (eI .i64) (([] : List Int) ++ ([v_115] : List Int)) :: rowp A_116 1 3 1 (eI .i64) ([v_115] : List Int) :: rowp A_86 1 3 1 (eI .i64) ([v_85] : List Int) :: rowp A_89 c_90 3 1 (eI .i64) ((([] : List Int) ++ ([v_63] : List Int)) ++ ([v_85] : List Int)) :: rowp A_64 1 3 1 (eI .i64) ([v_63] : List Int) :: pt b_39 (blk ([C.slc A_89 (((([] : List Int) ++ ([v_63] : List Int)) ++ ([v_85] : List Int)).length) c_90, C.slc A_120 ((([] : List Int) ++ ([v_115] : List Int)).length) c_121, C.slc A_151 ((([] : List Int) ++ ([v_146] : List Int)).length) c_152]) 160) :: pt b_36 (blk v_35.1 26) :: pt b_22 (blk [ci 0, ci 0, ci 0] 28) :: pt b_21 (blk ([C.slc A_12 (([0, 1] : List Int).length) 2, C.slc A_14 (([0] : List Int).length) 1, C.slc A_16 (([1] : List Int).length) 1]) 160) :: pt b_20 (blk x1 28) :: rowp A_16 1 3 1 (eI .i64) ([1] : List Int) :: rowp A_14 1 3 1 (eI .i64) ([0] : List Int) :: rowp A_12 2 3 1 (eI .i64) ([0, 1] : List Int) :: pt b_3 (blk [ci 0, ci 0, ci 0] 28) :: pt b_2 (blk x1 28) :: S) b_x0 g_169 (Own.to hs.own [13, 0, 1, 2, 3, 4, 5, 6, 7, 8, 9, 10, 11, 12, 14, 15, 16, 17, 18, 19, 20, 21] 22 (by kernel_rfl) (by kernel_rfl))).mono ?_
        rintro _ w ⟨rfl, how⟩
        refine ⟨_, _, _, rfl, how, fun a hs => ?_⟩
        rcases Bool.eq_false_or_eq_true (v_172 == 3) with hb | hb
        · replace hm := bif_t hm hb
          obtain rfl := Vk.of_beq hb
          refine qpe 1 [(0, pp b_x0), (5, pp b_163), (6, pp b_164), (7, pp b_166), (13, vi 3), (14, vi 0)] hs fun a hs => hK168 _ _ ?_
          clear hK168
          refine wp_block ?_
          refine Vk.unroll0 40 ?_
          refine Vk.unroll fun KL173 hKL173 => ?_
          refine qsr fun K174 hK174 => ?_
          refine qpe 1 [(0, pp b_x0), (5, pp b_163), (6, pp b_164), (7, pp b_166), (13, vi 3), (14, vi 0), (15, .bool true)] hs fun a hs => hK174 _ _ ?_
          clear hK174
          refine Vk.seq fun K175 hK175 => ?_
          refine qct hs ?_
          refine wp_skip ?_
          refine hK175 _ _ ?_
          clear hK175
          refine Vk.seq fun K176 hK176 => ?_
          refine wp_block ?_
          refine qsr fun K177 hK177 => ?_
          refine qpe 2 [(0, pp b_x0), (5, pp b_163), (6, pp b_164), (7, pp b_166), (8, vi 0), (13, vi 3), (14, vi 0)] hs fun a hs => hK177 _ _ ?_
          clear hK177
          refine qsr fun K178 hK178 => ?_
          refine qpu 2 hs fun a hs => ?_
          refine qld 3 (C.slc A_89 (((([] : List Int) ++ ([v_63] : List Int)) ++ ([v_85] : List Int)).length) c_90) hs rfl fun a hs => ?_
          refine qpe 2 [(0, pp b_x0), (5, pp b_163), (6, pp b_164), (7, pp b_166), (8, vi 0), (13, vi 3), (14, vi 0), (19, .slice A_89 (((([] : List Int) ++ ([v_63] : List Int)) ++ ([v_85] : List Int)).length) c_90), (20, vi 2), (21, vi 0)] hs fun a hs => hK178 _ _ ?_
          clear hK178
          refine wp_block ?_
          refine Vk.unroll0 40 ?_
          refine Vk.unroll fun KL179 hKL179 => ?_
          refine qsr fun K180 hK180 => ?_
          refine qpe 1 [(0, pp b_x0), (5, pp b_163), (6, pp b_164), (7, pp b_166), (8, vi 0), (13, vi 3), (14, vi 0), (19, .slice A_89 (((([] : List Int) ++ ([v_63] : List Int)) ++ ([v_85] : List Int)).length) c_90), (20, vi 2), (21, vi 0), (22, .bool true)] hs fun a hs => hK180 _ _ ?_
          clear hK180
          refine Vk.seq fun K181 hK181 => ?_
          refine qct hs ?_
          refine wp_skip ?_
          refine hK181 _ _ ?_
          clear hK181
          refine Vk.seq fun K182 hK182 => ?_
          refine wp_block ?_
          refine qsr fun K183 hK183 => ?_
          obtain ⟨h_184, hm⟩ := ite_t hm
          obtain ⟨e_187, h_185, hm⟩ := bind_t hm
          obtain ⟨b_188, o_189, hA_190, h_186⟩ := Sl.elem (Own.rowSl 0 (Own.to (S' := rowp A_89 c_90 3 1 (eI .i64) ((([] : List Int) ++ ([v_63] : List Int)) ++ ([v_85] : List Int)) :: S) hs.own [10] 22 (by kernel_rfl) (by kernel_rfl)) rfl) h_185
          refine Vk.step (Vk.value (some 23) (.pointer (some ⟨b_188, o_189 + 0 * 1, none⟩)) hs (by kernel_rfl) (op := (.indexAddr 159 (.tmp 19) (.tmp 21))) (by kernel_rfl) (fun o ho => run_idxSlc (k := .i64) ho (cap := c_90) (len := ((([] : List Int) ++ ([v_63] : List Int)) ++ ([v_85] : List Int)).length) ((congrArg (fun A => Value.slice A (((([] : List Int) ++ ([v_63] : List Int)) ++ ([v_85] : List Int)).length) (c_90)) hA_190) ▸ (by kernel_rfl)) (by kernel_rfl) (by kernel_rfl) (idx_ok h_184 h_185) _) fun a hs => ?_)
          refine Vk.step (Vk.value (some 24) (vi e_187) hs (by kernel_rfl) (op := (.load 3 (.tmp 23))) (by kernel_rfl) (fun o ho => run_load1 (c := ci e_187) ho (by kernel_rfl) (by kernel_rfl) (fun w ho => h_186 w ho 0 _ rfl) _ (Own.to (S' := rowp A_89 c_90 3 1 (eI .i64) ((([] : List Int) ++ ([v_63] : List Int)) ++ ([v_85] : List Int)) :: S) hs.own [10] 22 (by kernel_rfl) (by kernel_rfl))) fun a hs => ?_)
          refine qpe 1 [(0, pp b_x0), (5, pp b_163), (6, pp b_164), (7, pp b_166), (8, vi 0), (10, vi e_187), (13, vi 3), (14, vi 0), (19, .slice A_89 (((([] : List Int) ++ ([v_63] : List Int)) ++ ([v_85] : List Int)).length) c_90), (20, vi 2), (21, vi 0)] hs fun a hs => hK183 _ _ ?_
          clear hK183
          refine Vk.region ?_
          refine qpu 6 hs fun a hs => ?_
          obtain ⟨v_192, h_191, hm⟩ := bind_t hm
          refine Vk.step (Vk.value (some 31) (vi v_192) hs (by kernel_rfl) (op := (.load 3 (.tmp 30))) (by kernel_rfl) (fun o ho => run_load1 (c := ci v_192) ho (by kernel_rfl) (by kernel_rfl) (Cell.own 1 rfl (getI_some h_191)) _ hs.own) fun a hs => ?_)
          refine qpu 1 hs fun a hs => ?_
          replace hs := hs.toEx (Twire_Machine.parts b_x0 v_35.2) g_169 0 rfl
          obtain ⟨v_195, h_194, hm⟩ := bind_t hm
          refine Vk.step (Vk.call (some 33) 150 #[pp b_x0, vi 5, vi 0, vi v_192, vi e_187] hs (by kernel_rfl) (by kernel_rfl) (by kernel_rfl) ?_)
          refine (wire_Machine_Two.ok k v_35.2 5 0 v_192 e_187 v_195 h_194 κ w (pt b_166 (blk x1 28) :: pt b_164 (blk [ci 0, ci 0, ci 0] 28) :: pt b_163 (blk ([C.slc A_89 (((([] : List Int) ++ ([v_63] : List Int)) ++ ([v_85] : List Int)).length) c_90, C.slc A_120 ((([] : List Int) ++ ([v_115] : List Int)).length) c_121, C.slc A_151 ((([] : List Int) ++ ([v_146] : List Int)).length) c_152]) 160) :: pt b_162 (blk x1 28) :: rowp A_151 c_152 3 1 (eI .i64) (([] : List Int) ++ ([v_146] : List Int)) :: rowp A_147 1 3 1 (eI .i64) ([v_146] : List Int) :: rowp A_120 c_121 3 1 (eI .i64) (([] : List Int) ++ ([v_115] : List Int)) :: rowp A_116 1 3 1 (eI .i64) ([v_115] : List Int) :: rowp A_86 1 3 1 (eI .i64) ([v_85] : List Int) :: rowp A_89 c_90 3 1 (eI .i64) ((([] : List Int) ++ ([v_63] : List Int)) ++ ([v_85] : List Int)) :: rowp A_64 1 3 1 (eI .i64) ([v_63] : List Int) :: pt b_39 (blk ([C.slc A_89 (((([] : List Int) ++ ([v_63] : List Int)) ++ ([v_85] : List Int)).length) c_90, C.slc A_120 ((([] : List Int) ++ ([v_115] : List Int)).length) c_121, C.slc A_151 ((([] : List Int) ++ ([v_146] : List Int)).length) c_152]) 160) :: pt b_36 (blk v_35.1 26) :: pt b_22 (blk [ci 0, ci 0, ci 0] 28) :: pt b_21 (blk ([C.slc A_12 (([0, 1] : List Int).length) 2, C.slc A_14 (([0] : List Int).length) 1, C.slc A_16 (([1] : List Int).length) 1]) 160) :: pt b_20 (blk x1 28) :: rowp A_16 1 3 1 (eI .i64) ([1] : List Int) :: rowp A_14 1 3 1 (eI .i64) ([0] : List Int) :: rowp A_12 2 3 1 (eI .i64) ([0, 1] : List Int) :: pt b_3 (blk [ci 0, ci 0, ci 0] 28) :: pt b_2 (blk x1 28) :: S) b_x0 (Own.to hs.own [0, 1, 2, 3, 4, 5, 6, 7, 8, 9, 10, 11, 12, 13, 14, 15, 16, 17, 18, 19, 20, 21] 22 (by kernel_rfl) (by kernel_rfl))).mono ?_
          rintro _ w ⟨rfl, how⟩
          refine ⟨_, _, _, rfl, how, fun a hs => ?_⟩
          refine qpu 2 hs fun a hs => ?_
          obtain ⟨h_196, hm⟩ := ite_t hm
          refine Vk.step (Vk.store1 (b := b_166) (ty := 3) (x := (.tmp 35)) (y := (.tmp 33)) (off := 0) (ci v_195.1) 1 hs (by kernel_rfl) (by kernel_rfl) (by kernel_rfl) (by kernel_rfl) (by kernel_rfl) (by kernel_rfl) rfl h_196 fun a w hs => ?_)
          refine qpe 0 [(0, pp b_x0), (5, pp b_163), (6, pp b_164), (7, pp b_166), (8, vi 0), (13, vi 3), (14, vi 0), (19, .slice A_89 (((([] : List Int) ++ ([v_63] : List Int)) ++ ([v_85] : List Int)).length) c_90), (20, vi 2), (21, vi 0)] hs fun a hs => hK182 _ _ ?_
          clear hK182
          refine Vk.region ?_
          refine qpe 2 [(0, pp b_x0), (5, pp b_163), (6, pp b_164), (7, pp b_166), (8, vi 0), (13, vi 3), (14, vi 0), (19, .slice A_89 (((([] : List Int) ++ ([v_63] : List Int)) ++ ([v_85] : List Int)).length) c_90), (20, vi 2), (21, vi 1)] hs fun a hs => hKL179 _ _ ?_
          clear hKL179
          refine Vk.unroll fun KL197 hKL197 => ?_
          refine qsr fun K198 hK198 => ?_
          refine qpe 1 [(0, pp b_x0), (5, pp b_163), (6, pp b_164), (7, pp b_166), (8, vi 0), (13, vi 3), (14, vi 0), (19, .slice A_89 (((([] : List Int) ++ ([v_63] : List Int)) ++ ([v_85] : List Int)).length) c_90), (20, vi 2), (21, vi 1), (22, .bool true)] hs fun a hs => hK198 _ _ ?_
          clear hK198
          refine Vk.seq fun K199 hK199 => ?_
          refine qct hs ?_
          refine wp_skip ?_
          refine hK199 _ _ ?_
          clear hK199
          refine Vk.seq fun K200 hK200 => ?_
          refine wp_block ?_
          refine qsr fun K201 hK201 => ?_
          obtain ⟨h_202, hm⟩ := ite_t hm
          obtain ⟨e_205, h_203, hm⟩ := bind_t hm
          obtain ⟨b_206, o_207, hA_208, h_204⟩ := Sl.elem (Own.rowSl 0 (Own.to (S' := rowp A_89 c_90 3 1 (eI .i64) ((([] : List Int) ++ ([v_63] : List Int)) ++ ([v_85] : List Int)) :: S) hs.own [10] 22 (by kernel_rfl) (by kernel_rfl)) rfl) h_203
          refine Vk.step (Vk.value (some 23) (.pointer (some ⟨b_206, o_207 + 1 * 1, none⟩)) hs (by kernel_rfl) (op := (.indexAddr 159 (.tmp 19) (.tmp 21))) (by kernel_rfl) (fun o ho => run_idxSlc (k := .i64) ho (cap := c_90) (len := ((([] : List Int) ++ ([v_63] : List Int)) ++ ([v_85] : List Int)).length) ((congrArg (fun A => Value.slice A (((([] : List Int) ++ ([v_63] : List Int)) ++ ([v_85] : List Int)).length) (c_90)) hA_208) ▸ (by kernel_rfl)) (by kernel_rfl) (by kernel_rfl) (idx_ok h_202 h_203) _) fun a hs => ?_)
          refine Vk.step (Vk.value (some 24) (vi e_205) hs (by kernel_rfl) (op := (.load 3 (.tmp 23))) (by kernel_rfl) (fun o ho => run_load1 (c := ci e_205) ho (by kernel_rfl) (by kernel_rfl) (fun w ho => h_204 w ho 0 _ rfl) _ (Own.to (S' := rowp A_89 c_90 3 1 (eI .i64) ((([] : List Int) ++ ([v_63] : List Int)) ++ ([v_85] : List Int)) :: S) hs.own [10] 22 (by kernel_rfl) (by kernel_rfl))) fun a hs => ?_)
          refine qpe 1 [(0, pp b_x0), (5, pp b_163), (6, pp b_164), (7, pp b_166), (8, vi 0), (10, vi e_205), (13, vi 3), (14, vi 0), (19, .slice A_89 (((([] : List Int) ++ ([v_63] : List Int)) ++ ([v_85] : List Int)).length) c_90), (20, vi 2), (21, vi 1)] hs fun a hs => hK201 _ _ ?_
          clear hK201
          refine Vk.region ?_
          refine qpu 6 hs fun a hs => ?_
          obtain ⟨v_210, h_209, hm⟩ := bind_t hm
          refine Vk.step (Vk.value (some 31) (vi v_210) hs (by kernel_rfl) (op := (.load 3 (.tmp 30))) (by kernel_rfl) (fun o ho => run_load1 (c := ci v_210) ho (by kernel_rfl) (by kernel_rfl) (Cell.own 1 rfl (getI_some h_209)) _ hs.own) fun a hs => ?_)
          refine qpu 1 hs fun a hs => ?_
          obtain ⟨v_213, h_212, hm⟩ := bind_t hm
          refine Vk.step (Vk.call (some 33) 150 #[pp b_x0, vi 5, vi 0, vi v_210, vi e_205] hs (by kernel_rfl) (by kernel_rfl) (by kernel_rfl) ?_)
          refine (wire_Machine_Two.ok k v_195.2 5 0 v_210 e_205 v_213 h_212 κ w (pt b_166 (blk (x1.set (0) (ci v_195.1)) 28) :: pt b_164 (blk [ci 0, ci 0, ci 0] 28) :: pt b_163 (blk ([C.slc A_89 (((([] : List Int) ++ ([v_63] : List Int)) ++ ([v_85] : List Int)).length) c_90, C.slc A_120 ((([] : List Int) ++ ([v_115] : List Int)).length) c_121, C.slc A_151 ((([] : List Int) ++ ([v_146] : List Int)).length) c_152]) 160) :: pt b_162 (blk x1 28) :: rowp A_151 c_152 3 1 (eI .i64) (([] : List Int) ++ ([v_146] : List Int)) :: rowp A_147 1 3 1 (eI .i64) ([v_146] : List Int) :: rowp A_120 c_121 3 1 (eI .i64) (([] : List Int) ++ ([v_115] : List Int)) :: rowp A_116 1 3 1 (eI .i64) ([v_115] : List Int) :: rowp A_86 1 3 1 (eI .i64) ([v_85] : List Int) :: rowp A_89 c_90 3 1 (eI .i64) ((([] : List Int) ++ ([v_63] : List Int)) ++ ([v_85] : List Int)) :: rowp A_64 1 3 1 (eI .i64) ([v_63] : List Int) :: pt b_39 (blk ([C.slc A_89 (((([] : List Int) ++ ([v_63] : List Int)) ++ ([v_85] : List Int)).length) c_90, C.slc A_120 ((([] : List Int) ++ ([v_115] : List Int)).length) c_121, C.slc A_151 ((([] : List Int) ++ ([v_146] : List Int)).length) c_152]) 160) :: pt b_36 (blk v_35.1 26) :: pt b_22 (blk [ci 0, ci 0, ci 0] 28) :: pt b_21 (blk ([C.slc A_12 (([0, 1] : List Int).length) 2, C.slc A_14 (([0] : List Int).length) 1, C.slc A_16 (([1] : List Int).length) 1]) 160) :: pt b_20 (blk x1 28) :: rowp A_16 1 3 1 (eI .i64) ([1] : List Int) :: rowp A_14 1 3 1 (eI .i64) ([0] : List Int) :: rowp A_12 2 3 1 (eI .i64) ([0, 1] : List Int) :: pt b_3 (blk [ci 0, ci 0, ci 0] 28) :: pt b_2 (blk x1 28) :: S) b_x0 (Own.to hs.own [0, 1, 2, 3, 4, 5, 6, 7, 8, 9, 10, 11, 12, 13, 14, 15, 16, 17, 18, 19, 20, 21] 22 (by kernel_rfl) (by kernel_rfl))).mono ?_
          rintro _ w ⟨rfl, how⟩
          refine ⟨_, _, _, rfl, how, fun a hs => ?_⟩
          refine qpu 2 hs fun a hs => ?_
          obtain ⟨h_214, hm⟩ := ite_t hm
          refine Vk.step (Vk.store1 (b := b_166) (ty := 3) (x := (.tmp 35)) (y := (.tmp 33)) (off := 0) (ci v_213.1) 1 hs (by kernel_rfl) (by kernel_rfl) (by kernel_rfl) (by kernel_rfl) (by kernel_rfl) (by kernel_rfl) rfl h_214 fun a w hs => ?_)
          refine qpe 0 [(0, pp b_x0), (5, pp b_163), (6, pp b_164), (7, pp b_166), (8, vi 0), (13, vi 3), (14, vi 0), (19, .slice A_89 (((([] : List Int) ++ ([v_63] : List Int)) ++ ([v_85] : List Int)).length) c_90), (20, vi 2), (21, vi 1)] hs fun a hs => hK200 _ _ ?_
          clear hK200
          refine Vk.region ?_
          refine qpe 2 [(0, pp b_x0), (5, pp b_163), (6, pp b_164), (7, pp b_166), (8, vi 0), (13, vi 3), (14, vi 0), (19, .slice A_89 (((([] : List Int) ++ ([v_63] : List Int)) ++ ([v_85] : List Int)).length) c_90), (20, vi 2), (21, vi 2)] hs fun a hs => hKL197 _ _ ?_
          clear hKL197
          refine Vk.unroll fun KL215 hKL215 => ?_
          refine qsr fun K216 hK216 => ?_
          refine qpe 1 [(0, pp b_x0), (5, pp b_163), (6, pp b_164), (7, pp b_166), (8, vi 0), (13, vi 3), (14, vi 0), (19, .slice A_89 (((([] : List Int) ++ ([v_63] : List Int)) ++ ([v_85] : List Int)).length) c_90), (20, vi 2), (21, vi 2), (22, .bool false)] hs fun a hs => hK216 _ _ ?_
          clear hK216
          refine Vk.seq fun K217 hK217 => ?_
          refine qcf hs ?_
          refine wp_exit ?_
          refine hK176 _ _ ?_
          clear hK176
          refine Vk.region ?_
          refine qpe 2 [(0, pp b_x0), (5, pp b_163), (6, pp b_164), (7, pp b_166), (13, vi 3), (14, vi 1)] hs fun a hs => hKL173 _ _ ?_
          clear hKL173
          refine Vk.unroll fun KL218 hKL218 => ?_
          refine qsr fun K219 hK219 => ?_
          refine qpe 1 [(0, pp b_x0), (5, pp b_163), (6, pp b_164), (7, pp b_166), (13, vi 3), (14, vi 1), (15, .bool true)] hs fun a hs => hK219 _ _ ?_
          clear hK219
          refine Vk.seq fun K220 hK220 => ?_
          refine qct hs ?_
          refine wp_skip ?_
          refine hK220 _ _ ?_
          clear hK220
          refine Vk.seq fun K221 hK221 => ?_
          refine wp_block ?_
          refine qsr fun K222 hK222 => ?_
          refine qpe 2 [(0, pp b_x0), (5, pp b_163), (6, pp b_164), (7, pp b_166), (8, vi 1), (13, vi 3), (14, vi 1)] hs fun a hs => hK222 _ _ ?_
          clear hK222
          refine qsr fun K223 hK223 => ?_
          refine qpu 2 hs fun a hs => ?_
          refine qld 3 (C.slc A_120 ((([] : List Int) ++ ([v_115] : List Int)).length) c_121) hs rfl fun a hs => ?_
          refine qpe 2 [(0, pp b_x0), (5, pp b_163), (6, pp b_164), (7, pp b_166), (8, vi 1), (13, vi 3), (14, vi 1), (19, .slice A_120 ((([] : List Int) ++ ([v_115] : List Int)).length) c_121), (20, vi 1), (21, vi 0)] hs fun a hs => hK223 _ _ ?_
          clear hK223
          refine wp_block ?_
          refine Vk.unroll0 40 ?_
          refine Vk.unroll fun KL224 hKL224 => ?_
          refine qsr fun K225 hK225 => ?_
          refine qpe 1 [(0, pp b_x0), (5, pp b_163), (6, pp b_164), (7, pp b_166), (8, vi 1), (13, vi 3), (14, vi 1), (19, .slice A_120 ((([] : List Int) ++ ([v_115] : List Int)).length) c_121), (20, vi 1), (21, vi 0), (22, .bool true)] hs fun a hs => hK225 _ _ ?_
          clear hK225
          refine Vk.seq fun K226 hK226 => ?_
          refine qct hs ?_
          refine wp_skip ?_
          refine hK226 _ _ ?_
          clear hK226
          refine Vk.seq fun K227 hK227 => ?_
          refine wp_block ?_
          refine qsr fun K228 hK228 => ?_
          obtain ⟨h_229, hm⟩ := ite_t hm
          obtain ⟨e_232, h_230, hm⟩ := bind_t hm
          obtain ⟨b_233, o_234, hA_235, h_231⟩ := Sl.elem (Own.rowSl 0 (Own.to (S' := rowp A_120 c_121 3 1 (eI .i64) (([] : List Int) ++ ([v_115] : List Int)) :: S) hs.own [7] 22 (by kernel_rfl) (by kernel_rfl)) rfl) h_230
          refine Vk.step (Vk.value (some 23) (.pointer (some ⟨b_233, o_234 + 0 * 1, none⟩)) hs (by kernel_rfl) (op := (.indexAddr 159 (.tmp 19) (.tmp 21))) (by kernel_rfl) (fun o ho => run_idxSlc (k := .i64) ho (cap := c_121) (len := (([] : List Int) ++ ([v_115] : List Int)).length) ((congrArg (fun A => Value.slice A ((([] : List Int) ++ ([v_115] : List Int)).length) (c_121)) hA_235) ▸ (by kernel_rfl)) (by kernel_rfl) (by kernel_rfl) (idx_ok h_229 h_230) _) fun a hs => ?_)
          refine Vk.step (Vk.value (some 24) (vi e_232) hs (by kernel_rfl) (op := (.load 3 (.tmp 23))) (by kernel_rfl) (fun o ho => run_load1 (c := ci e_232) ho (by kernel_rfl) (by kernel_rfl) (fun w ho => h_231 w ho 0 _ rfl) _ (Own.to (S' := rowp A_120 c_121 3 1 (eI .i64) (([] : List Int) ++ ([v_115] : List Int)) :: S) hs.own [7] 22 (by kernel_rfl) (by kernel_rfl))) fun a hs => ?_)
          refine qpe 1 [(0, pp b_x0), (5, pp b_163), (6, pp b_164), (7, pp b_166), (8, vi 1), (10, vi e_232), (13, vi 3), (14, vi 1), (19, .slice A_120 ((([] : List Int) ++ ([v_115] : List Int)).length) c_121), (20, vi 1), (21, vi 0)] hs fun a hs => hK228 _ _ ?_
          clear hK228
          refine Vk.region ?_
          refine qpu 6 hs fun a hs => ?_
          obtain ⟨v_237, h_236, hm⟩ := bind_t hm
          refine Vk.step (Vk.value (some 31) (vi v_237) hs (by kernel_rfl) (op := (.load 3 (.tmp 30))) (by kernel_rfl) (fun o ho => run_load1 (c := ci v_237) ho (by kernel_rfl) (by kernel_rfl) (Cell.own 1 rfl (getI_some h_236)) _ hs.own) fun a hs => ?_)
          refine qpu 1 hs fun a hs => ?_
          obtain ⟨v_240, h_239, hm⟩ := bind_t hm
          refine Vk.step (Vk.call (some 33) 150 #[pp b_x0, vi 5, vi 1, vi v_237, vi e_232] hs (by kernel_rfl) (by kernel_rfl) (by kernel_rfl) ?_)
          refine (wire_Machine_Two.ok k v_213.2 5 1 v_237 e_232 v_240 h_239 κ w (pt b_166 (blk ((x1.set (0) (ci v_195.1)).set (0) (ci v_213.1)) 28) :: pt b_164 (blk [ci 0, ci 0, ci 0] 28) :: pt b_163 (blk ([C.slc A_89 (((([] : List Int) ++ ([v_63] : List Int)) ++ ([v_85] : List Int)).length) c_90, C.slc A_120 ((([] : List Int) ++ ([v_115] : List Int)).length) c_121, C.slc A_151 ((([] : List Int) ++ ([v_146] : List Int)).length) c_152]) 160) :: pt b_162 (blk x1 28) :: rowp A_151 c_152 3 1 (eI .i64) (([] : List Int) ++ ([v_146] : List Int)) :: rowp A_147 1 3 1 (eI .i64) ([v_146] : List Int) :: rowp A_120 c_121 3 1 (eI .i64) (([] : List Int) ++ ([v_115] : List Int)) :: rowp A_116 1 3 1 (eI .i64) ([v_115] : List Int) :: rowp A_86 1 3 1 (eI .i64) ([v_85] : List Int) :: rowp A_89 c_90 3 1 (eI .i64) ((([] : List Int) ++ ([v_63] : List Int)) ++ ([v_85] : List Int)) :: rowp A_64 1 3 1 (eI .i64) ([v_63] : List Int) :: pt b_39 (blk ([C.slc A_89 (((([] : List Int) ++ ([v_63] : List Int)) ++ ([v_85] : List Int)).length) c_90, C.slc A_120 ((([] : List Int) ++ ([v_115] : List Int)).length) c_121, C.slc A_151 ((([] : List Int) ++ ([v_146] : List Int)).length) c_152]) 160) :: pt b_36 (blk v_35.1 26) :: pt b_22 (blk [ci 0, ci 0, ci 0] 28) :: pt b_21 (blk ([C.slc A_12 (([0, 1] : List Int).length) 2, C.slc A_14 (([0] : List Int).length) 1, C.slc A_16 (([1] : List Int).length) 1]) 160) :: pt b_20 (blk x1 28) :: rowp A_16 1 3 1 (eI .i64) ([1] : List Int) :: rowp A_14 1 3 1 (eI .i64) ([0] : List Int) :: rowp A_12 2 3 1 (eI .i64) ([0, 1] : List Int) :: pt b_3 (blk [ci 0, ci 0, ci 0] 28) :: pt b_2 (blk x1 28) :: S) b_x0 (Own.to hs.own [0, 1, 2, 3, 4, 5, 6, 7, 8, 9, 10, 11, 12, 13, 14, 15, 16, 17, 18, 19, 20, 21] 22 (by kernel_rfl) (by kernel_rfl))).mono ?_
          rintro _ w ⟨rfl, how⟩
          refine ⟨_, _, _, rfl, how, fun a hs => ?_⟩
          refine qpu 2 hs fun a hs => ?_
          obtain ⟨h_241, hm⟩ := ite_t hm
          refine Vk.step (Vk.store1 (b := b_166) (ty := 3) (x := (.tmp 35)) (y := (.tmp 33)) (off := 1) (ci v_240.1) 1 hs (by kernel_rfl) (by kernel_rfl) (by kernel_rfl) (by kernel_rfl) (by kernel_rfl) (by kernel_rfl) rfl h_241 fun a w hs => ?_)
          refine qpe 0 [(0, pp b_x0), (5, pp b_163), (6, pp b_164), (7, pp b_166), (8, vi 1), (13, vi 3), (14, vi 1), (19, .slice A_120 ((([] : List Int) ++ ([v_115] : List Int)).length) c_121), (20, vi 1), (21, vi 0)] hs fun a hs => hK227 _ _ ?_
          clear hK227
          refine Vk.region ?_
          refine qpe 2 [(0, pp b_x0), (5, pp b_163), (6, pp b_164), (7, pp b_166), (8, vi 1), (13, vi 3), (14, vi 1), (19, .slice A_120 ((([] : List Int) ++ ([v_115] : List Int)).length) c_121), (20, vi 1), (21, vi 1)] hs fun a hs => hKL224 _ _ ?_
          clear hKL224
          refine Vk.unroll fun KL242 hKL242 => ?_
          refine qsr fun K243 hK243 => ?_
          refine qpe 1 [(0, pp b_x0), (5, pp b_163), (6, pp b_164), (7, pp b_166), (8, vi 1), (13, vi 3), (14, vi 1), (19, .slice A_120 ((([] : List Int) ++ ([v_115] : List Int)).length) c_121), (20, vi 1), (21, vi 1), (22, .bool false)] hs fun a hs => hK243 _ _ ?_
          clear hK243
          refine Vk.seq fun K244 hK244 => ?_
          refine qcf hs ?_
          refine wp_exit ?_
          refine hK221 _ _ ?_
          clear hK221
          refine Vk.region ?_
          refine qpe 2 [(0, pp b_x0), (5, pp b_163), (6, pp b_164), (7, pp b_166), (13, vi 3), (14, vi 2)] hs fun a hs => hKL218 _ _ ?_
          clear hKL218
          refine Vk.unroll fun KL245 hKL245 => ?_
          refine qsr fun K246 hK246 => ?_
          refine qpe 1 [(0, pp b_x0), (5, pp b_163), (6, pp b_164), (7, pp b_166), (13, vi 3), (14, vi 2), (15, .bool true)] hs fun a hs => hK246 _ _ ?_
          clear hK246
          refine Vk.seq fun K247 hK247 => ?_
          refine qct hs ?_
          refine wp_skip ?_
          refine hK247 _ _ ?_
          clear hK247
          refine Vk.seq fun K248 hK248 => ?_
          refine wp_block ?_
          refine qsr fun K249 hK249 => ?_
          refine qpe 2 [(0, pp b_x0), (5, pp b_163), (6, pp b_164), (7, pp b_166), (8, vi 2), (13, vi 3), (14, vi 2)] hs fun a hs => hK249 _ _ ?_
          clear hK249
          refine qsr fun K250 hK250 => ?_
          refine qpu 2 hs fun a hs => ?_
          refine qld 3 (C.slc A_151 ((([] : List Int) ++ ([v_146] : List Int)).length) c_152) hs rfl fun a hs => ?_
          refine qpe 2 [(0, pp b_x0), (5, pp b_163), (6, pp b_164), (7, pp b_166), (8, vi 2), (13, vi 3), (14, vi 2), (19, .slice A_151 ((([] : List Int) ++ ([v_146] : List Int)).length) c_152), (20, vi 1), (21, vi 0)] hs fun a hs => hK250 _ _ ?_
          clear hK250
          refine wp_block ?_
          refine Vk.unroll0 40 ?_
          refine Vk.unroll fun KL251 hKL251 => ?_
          refine qsr fun K252 hK252 => ?_
          refine qpe 1 [(0, pp b_x0), (5, pp b_163), (6, pp b_164), (7, pp b_166), (8, vi 2), (13, vi 3), (14, vi 2), (19, .slice A_151 ((([] : List Int) ++ ([v_146] : List Int)).length) c_152), (20, vi 1), (21, vi 0), (22, .bool true)] hs fun a hs => hK252 _ _ ?_
          clear hK252
          refine Vk.seq fun K253 hK253 => ?_
          refine qct hs ?_
          refine wp_skip ?_
          refine hK253 _ _ ?_
          clear hK253
          refine Vk.seq fun K254 hK254 => ?_
          refine wp_block ?_
          refine qsr fun K255 hK255 => ?_
          obtain ⟨h_256, hm⟩ := ite_t hm
          obtain ⟨e_259, h_257, hm⟩ := bind_t hm
          obtain ⟨b_260, o_261, hA_262, h_258⟩ := Sl.elem (Own.rowSl 0 (Own.to (S' := rowp A_151 c_152 3 1 (eI .i64) (([] : List Int) ++ ([v_146] : List Int)) :: S) hs.own [5] 22 (by kernel_rfl) (by kernel_rfl)) rfl) h_257
          refine Vk.step (Vk.value (some 23) (.pointer (some ⟨b_260, o_261 + 0 * 1, none⟩)) hs (by kernel_rfl) (op := (.indexAddr 159 (.tmp 19) (.tmp 21))) (by kernel_rfl) (fun o ho => run_idxSlc (k := .i64) ho (cap := c_152) (len := (([] : List Int) ++ ([v_146] : List Int)).length) ((congrArg (fun A => Value.slice A ((([] : List Int) ++ ([v_146] : List Int)).length) (c_152)) hA_262) ▸ (by kernel_rfl)) (by kernel_rfl) (by kernel_rfl) (idx_ok h_256 h_257) _) fun a hs => ?_)
          refine Vk.step (Vk.value (some 24) (vi e_259) hs (by kernel_rfl) (op := (.load 3 (.tmp 23))) (by kernel_rfl) (fun o ho => run_load1 (c := ci e_259) ho (by kernel_rfl) (by kernel_rfl) (fun w ho => h_258 w ho 0 _ rfl) _ (Own.to (S' := rowp A_151 c_152 3 1 (eI .i64) (([] : List Int) ++ ([v_146] : List Int)) :: S) hs.own [5] 22 (by kernel_rfl) (by kernel_rfl))) fun a hs => ?_)
          refine qpe 1 [(0, pp b_x0), (5, pp b_163), (6, pp b_164), (7, pp b_166), (8, vi 2), (10, vi e_259), (13, vi 3), (14, vi 2), (19, .slice A_151 ((([] : List Int) ++ ([v_146] : List Int)).length) c_152), (20, vi 1), (21, vi 0)] hs fun a hs => hK255 _ _ ?_
          clear hK255
          refine Vk.region ?_
          refine qpu 6 hs fun a hs => ?_
          obtain ⟨v_264, h_263, hm⟩ := bind_t hm
          refine Vk.step (Vk.value (some 31) (vi v_264) hs (by kernel_rfl) (op := (.load 3 (.tmp 30))) (by kernel_rfl) (fun o ho => run_load1 (c := ci v_264) ho (by kernel_rfl) (by kernel_rfl) (Cell.own 1 rfl (getI_some h_263)) _ hs.own) fun a hs => ?_)
          refine qpu 1 hs fun a hs => ?_
          obtain ⟨v_267, h_266, hm⟩ := bind_t hm
          refine Vk.step (Vk.call (some 33) 150 #[pp b_x0, vi 5, vi 2, vi v_264, vi e_259] hs (by kernel_rfl) (by kernel_rfl) (by kernel_rfl) ?_)
          refine (wire_Machine_Two.ok k v_240.2 5 2 v_264 e_259 v_267 h_266 κ w (pt b_166 (blk (((x1.set (0) (ci v_195.1)).set (0) (ci v_213.1)).set (1) (ci v_240.1)) 28) :: pt b_164 (blk [ci 0, ci 0, ci 0] 28) :: pt b_163 (blk ([C.slc A_89 (((([] : List Int) ++ ([v_63] : List Int)) ++ ([v_85] : List Int)).length) c_90, C.slc A_120 ((([] : List Int) ++ ([v_115] : List Int)).length) c_121, C.slc A_151 ((([] : List Int) ++ ([v_146] : List Int)).length) c_152]) 160) :: pt b_162 (blk x1 28) :: rowp A_151 c_152 3 1 (eI .i64) (([] : List Int) ++ ([v_146] : List Int)) :: rowp A_147 1 3 1 (eI .i64) ([v_146] : List Int) :: rowp A_120 c_121 3 1 (eI .i64) (([] : List Int) ++ ([v_115] : List Int)) :: rowp A_116 1 3 1 (eI .i64) ([v_115] : List Int) :: rowp A_86 1 3 1 (eI .i64) ([v_85] : List Int) :: rowp A_89 c_90 3 1 (eI .i64) ((([] : List Int) ++ ([v_63] : List Int)) ++ ([v_85] : List Int)) :: rowp A_64 1 3 1 (eI .i64) ([v_63] : List Int) :: pt b_39 (blk ([C.slc A_89 (((([] : List Int) ++ ([v_63] : List Int)) ++ ([v_85] : List Int)).length) c_90, C.slc A_120 ((([] : List Int) ++ ([v_115] : List Int)).length) c_121, C.slc A_151 ((([] : List Int) ++ ([v_146] : List Int)).length) c_152]) 160) :: pt b_36 (blk v_35.1 26) :: pt b_22 (blk [ci 0, ci 0, ci 0] 28) :: pt b_21 (blk ([C.slc A_12 (([0, 1] : List Int).length) 2, C.slc A_14 (([0] : List Int).length) 1, C.slc A_16 (([1] : List Int).length) 1]) 160) :: pt b_20 (blk x1 28) :: rowp A_16 1 3 1 (eI .i64) ([1] : List Int) :: rowp A_14 1 3 1 (eI .i64) ([0] : List Int) :: rowp A_12 2 3 1 (eI .i64) ([0, 1] : List Int) :: pt b_3 (blk [ci 0, ci 0, ci 0] 28) :: pt b_2 (blk x1 28) :: S) b_x0 (Own.to hs.own [0, 1, 2, 3, 4, 5, 6, 7, 8, 9, 10, 11, 12, 13, 14, 15, 16, 17, 18, 19, 20, 21] 22 (by kernel_rfl) (by kernel_rfl))).mono ?_
          rintro _ w ⟨rfl, how⟩
          refine ⟨_, _, _, rfl, how, fun a hs => ?_⟩
          refine qpu 2 hs fun a hs => ?_
          obtain ⟨h_268, hm⟩ := ite_t hm
          refine Vk.step (Vk.store1 (b := b_166) (ty := 3) (x := (.tmp 35)) (y := (.tmp 33)) (off := 2) (ci v_267.1) 1 hs (by kernel_rfl) (by kernel_rfl) (by kernel_rfl) (by kernel_rfl) (by kernel_rfl) (by kernel_rfl) rfl h_268 fun a w hs => ?_)
          refine qpe 0 [(0, pp b_x0), (5, pp b_163), (6, pp b_164), (7, pp b_166), (8, vi 2), (13, vi 3), (14, vi 2), (19, .slice A_151 ((([] : List Int) ++ ([v_146] : List Int)).length) c_152), (20, vi 1), (21, vi 0)] hs fun a hs => hK254 _ _ ?_
          clear hK254
          refine Vk.region ?_
          refine qpe 2 [(0, pp b_x0), (5, pp b_163), (6, pp b_164), (7, pp b_166), (8, vi 2), (13, vi 3), (14, vi 2), (19, .slice A_151 ((([] : List Int) ++ ([v_146] : List Int)).length) c_152), (20, vi 1), (21, vi 1)] hs fun a hs => hKL251 _ _ ?_
          clear hKL251
          refine Vk.unroll fun KL269 hKL269 => ?_
          refine qsr fun K270 hK270 => ?_
          refine qpe 1 [(0, pp b_x0), (5, pp b_163), (6, pp b_164), (7, pp b_166), (8, vi 2), (13, vi 3), (14, vi 2), (19, .slice A_151 ((([] : List Int) ++ ([v_146] : List Int)).length) c_152), (20, vi 1), (21, vi 1), (22, .bool false)] hs fun a hs => hK270 _ _ ?_
          clear hK270
          refine Vk.seq fun K271 hK271 => ?_
          refine qcf hs ?_
          refine wp_exit ?_
          refine hK248 _ _ ?_
          clear hK248
          refine Vk.region ?_
          refine qpe 2 [(0, pp b_x0), (5, pp b_163), (6, pp b_164), (7, pp b_166), (13, vi 3), (14, vi 3)] hs fun a hs => hKL245 _ _ ?_
          clear hKL245
          refine Vk.unroll fun KL272 hKL272 => ?_
          refine qsr fun K273 hK273 => ?_
          refine qpe 1 [(0, pp b_x0), (5, pp b_163), (6, pp b_164), (7, pp b_166), (13, vi 3), (14, vi 3), (15, .bool false)] hs fun a hs => hK273 _ _ ?_
          clear hK273
          refine Vk.seq fun K274 hK274 => ?_
          refine qcf hs ?_
          refine wp_exit ?_
          refine hK167 _ _ ?_
          clear hK167
          refine qsr fun K275 hK275 => ?_
          refine Vk.step (Vk.value (some 38) (.agg (vals ((((x1.set (0) (ci v_195.1)).set (0) (ci v_213.1)).set (1) (ci v_240.1)).set (2) (ci v_267.1)))) hs (by kernel_rfl) (op := (.load 28 (.tmp 7))) (by kernel_rfl) (fun o ho => run_loadN (cs := ((((x1.set (0) (ci v_195.1)).set (0) (ci v_213.1)).set (1) (ci v_240.1)).set (2) (ci v_267.1))) ho (by kernel_rfl) (by kernel_rfl) (List.length_set.trans (List.length_set.trans (List.length_set.trans (List.length_set.trans h_11)))) (CellsAt.all 1 rfl) _ hs.own) fun a hs => ?_)
          refine Vk.step (Vk.storeA (b := b_164) (ty := 28) (x := (.tmp 6)) (y := (.tmp 38)) (sz := 3) ((((x1.set (0) (ci v_195.1)).set (0) (ci v_213.1)).set (1) (ci v_240.1)).set (2) (ci v_267.1)) 2 hs (by kernel_rfl) (by kernel_rfl) (by kernel_rfl) (by kernel_rfl) (by kernel_rfl) (List.length_set.trans (List.length_set.trans (List.length_set.trans (List.length_set.trans h_11)))) (by kernel_rfl) rfl (Eq.trans (b := 3) (List.length_set.trans (List.length_set.trans (List.length_set.trans (List.length_set.trans h_11)))) (Eq.symm rfl)) fun a w hs => ?_)
          refine qpe 0 [(6, pp b_164)] hs fun a hs => hK275 _ _ ?_
          clear hK275
          refine wp_ret ?_
          refine hKP160 _ _ ?_
          refine hKR160 _ _ ?_
          refine Vk.retC (P := Try.prog) (fn := Try.f161) ((((x1.set (0) (ci v_195.1)).set (0) (ci v_213.1)).set (1) (ci v_240.1)).set (2) (ci v_267.1)) hs rfl (by kernel_rfl) (sz := 3) (by kernel_rfl) (List.length_set.trans (List.length_set.trans (List.length_set.trans (List.length_set.trans h_11)))) (CellsAt.all 2 rfl) ⟨_, _, _, rfl, hs.own, fun a hs => ?_⟩
          refine Vk.step (Vk.alloc 15 28 [ci 0, ci 0, ci 0] hs (by kernel_rfl) (by kernel_rfl) (by kernel_rfl) fun b_276 w a hs => ?_)
          refine Vk.step (Vk.storeA (b := b_276) (ty := 28) (x := (.tmp 15)) (y := (.tmp 52)) (sz := 3) ((((x1.set (0) (ci v_195.1)).set (0) (ci v_213.1)).set (1) (ci v_240.1)).set (2) (ci v_267.1)) 0 hs (by kernel_rfl) (by kernel_rfl) (by kernel_rfl) (by kernel_rfl) (by kernel_rfl) (List.length_set.trans (List.length_set.trans (List.length_set.trans (List.length_set.trans h_11)))) (by kernel_rfl) rfl (Eq.trans (b := 3) (List.length_set.trans (List.length_set.trans (List.length_set.trans (List.length_set.trans h_11)))) (Eq.symm rfl)) fun a w hs => ?_)
          refine qpe 0 [(0, pp b_x0), (8, pp b_22), (15, pp b_276)] hs fun a hs => hK159 _ _ ?_
          clear hK159
          refine qsr fun K277 hK277 => ?_
          refine qpu 1 hs fun a hs => ?_
          obtain ⟨v_280, h_279, hm⟩ := bind_t hm
          refine Vk.step (Vk.call (some 54) 94 #[pp b_x0] hs (by kernel_rfl) (by kernel_rfl) (by kernel_rfl) ?_)
          refine (wire_Machine_End.ok k v_267.2 v_280 h_279 κ w (pt b_276 (blk ((((x1.set (0) (ci v_195.1)).set (0) (ci v_213.1)).set (1) (ci v_240.1)).set (2) (ci v_267.1)) 28) :: pt b_166 (blk ((((x1.set (0) (ci v_195.1)).set (0) (ci v_213.1)).set (1) (ci v_240.1)).set (2) (ci v_267.1)) 28) :: pt b_164 (blk ((((x1.set (0) (ci v_195.1)).set (0) (ci v_213.1)).set (1) (ci v_240.1)).set (2) (ci v_267.1)) 28) :: pt b_163 (blk ([C.slc A_89 (((([] : List Int) ++ ([v_63] : List Int)) ++ ([v_85] : List Int)).length) c_90, C.slc A_120 ((([] : List Int) ++ ([v_115] : List Int)).length) c_121, C.slc A_151 ((([] : List Int) ++ ([v_146] : List Int)).length) c_152]) 160) :: pt b_162 (blk x1 28) :: rowp A_151 c_152 3 1 (eI .i64) (([] : List Int) ++ ([v_146] : List Int)) :: rowp A_147 1 3 1 (eI .i64) ([v_146] : List Int) :: rowp A_120 c_121 3 1 (eI .i64) (([] : List Int) ++ ([v_115] : List Int)) :: rowp A_116 1 3 1 (eI .i64) ([v_115] : List Int) :: rowp A_86 1 3 1 (eI .i64) ([v_85] : List Int) :: rowp A_89 c_90 3 1 (eI .i64) ((([] : List Int) ++ ([v_63] : List Int)) ++ ([v_85] : List Int)) :: rowp A_64 1 3 1 (eI .i64) ([v_63] : List Int) :: pt b_39 (blk ([C.slc A_89 (((([] : List Int) ++ ([v_63] : List Int)) ++ ([v_85] : List Int)).length) c_90, C.slc A_120 ((([] : List Int) ++ ([v_115] : List Int)).length) c_121, C.slc A_151 ((([] : List Int) ++ ([v_146] : List Int)).length) c_152]) 160) :: pt b_36 (blk v_35.1 26) :: pt b_22 (blk [ci 0, ci 0, ci 0] 28) :: pt b_21 (blk ([C.slc A_12 (([0, 1] : List Int).length) 2, C.slc A_14 (([0] : List Int).length) 1, C.slc A_16 (([1] : List Int).length) 1]) 160) :: pt b_20 (blk x1 28) :: rowp A_16 1 3 1 (eI .i64) ([1] : List Int) :: rowp A_14 1 3 1 (eI .i64) ([0] : List Int) :: rowp A_12 2 3 1 (eI .i64) ([0, 1] : List Int) :: pt b_3 (blk [ci 0, ci 0, ci 0] 28) :: pt b_2 (blk x1 28) :: S) b_x0 (Own.to hs.own [1, 0, 2, 3, 4, 5, 6, 7, 8, 9, 10, 11, 12, 13, 14, 15, 16, 17, 18, 19, 20, 21, 22] 23 (by kernel_rfl) (by kernel_rfl))).mono ?_
          rintro _ w ⟨rfl, how⟩
          refine ⟨_, _, _, rfl, how, fun a hs => ?_⟩
          refine qpe 0 [(8, pp b_22), (15, pp b_276)] hs fun a hs => hK277 _ _ ?_
          clear hK277
          refine qsr fun K281 hK281 => ?_
          refine Vk.step (Vk.value (some 55) (.agg (vals ((((x1.set (0) (ci v_195.1)).set (0) (ci v_213.1)).set (1) (ci v_240.1)).set (2) (ci v_267.1)))) hs (by kernel_rfl) (op := (.load 28 (.tmp 15))) (by kernel_rfl) (fun o ho => run_loadN (cs := ((((x1.set (0) (ci v_195.1)).set (0) (ci v_213.1)).set (1) (ci v_240.1)).set (2) (ci v_267.1))) ho (by kernel_rfl) (by kernel_rfl) (List.length_set.trans (List.length_set.trans (List.length_set.trans (List.length_set.trans h_11)))) (CellsAt.all 1 rfl) _ hs.own) fun a hs => ?_)
          refine Vk.step (Vk.storeA (b := b_22) (ty := 28) (x := (.tmp 8)) (y := (.tmp 55)) (sz := 3) ((((x1.set (0) (ci v_195.1)).set (0) (ci v_213.1)).set (1) (ci v_240.1)).set (2) (ci v_267.1)) 15 hs (by kernel_rfl) (by kernel_rfl) (by kernel_rfl) (by kernel_rfl) (by kernel_rfl) (List.length_set.trans (List.length_set.trans (List.length_set.trans (List.length_set.trans h_11)))) (by kernel_rfl) rfl (Eq.trans (b := 3) (List.length_set.trans (List.length_set.trans (List.length_set.trans (List.length_set.trans h_11)))) (Eq.symm rfl)) fun a w hs => ?_)
          refine qpe 0 [(8, pp b_22)] hs fun a hs => hK281 _ _ ?_
          clear hK281
          refine wp_ret ?_
          refine hKP18 _ _ ?_
          refine hKR18 _ _ ?_
          refine Vk.retC (P := Try.prog) (fn := Try.f125) ((((x1.set (0) (ci v_195.1)).set (0) (ci v_213.1)).set (1) (ci v_240.1)).set (2) (ci v_267.1)) hs rfl (by kernel_rfl) (sz := 3) (by kernel_rfl) (List.length_set.trans (List.length_set.trans (List.length_set.trans (List.length_set.trans h_11)))) (CellsAt.all 15 rfl) ⟨_, _, _, rfl, hs.own, fun a hs => ?_⟩
          refine Vk.step (Vk.storeA (b := b_3) (ty := 28) (x := (.tmp 4)) (y := (.tmp 14)) (sz := 3) ((((x1.set (0) (ci v_195.1)).set (0) (ci v_213.1)).set (1) (ci v_240.1)).set (2) (ci v_267.1)) 21 hs (by kernel_rfl) (by kernel_rfl) (by kernel_rfl) (by kernel_rfl) (by kernel_rfl) (List.length_set.trans (List.length_set.trans (List.length_set.trans (List.length_set.trans h_11)))) (by kernel_rfl) rfl (Eq.trans (b := 3) (List.length_set.trans (List.length_set.trans (List.length_set.trans (List.length_set.trans h_11)))) (Eq.symm rfl)) fun a w hs => ?_)
          refine qpe 0 [(4, pp b_3)] hs fun a hs => hK10 _ _ ?_
          clear hK10
          refine wp_ret ?_
          exact Vk.retC (P := Try.prog) (fn := Try.f47) (R := RR) ((((x1.set (0) (ci v_195.1)).set (0) (ci v_213.1)).set (1) (ci v_240.1)).set (2) (ci v_267.1)) hs rfl (by kernel_rfl) (sz := 3) (by kernel_rfl) (List.length_set.trans (List.length_set.trans (List.length_set.trans (List.length_set.trans h_11)))) (CellsAt.all 21 rfl) (by obtain rfl := Option.some.inj hm; subst hRR; exact ⟨rfl, (Own.to hs.own [0] 23 (by kernel_rfl) (by kernel_rfl))⟩)
        · replace hm := bif_f hm hb
          cases hm
      · replace hm := bif_f hm hb
        cases hm
    · replace hm := bif_f hm hb
      cases hm


abbrev wire_Machine_Values.R (κ : Ctx) (S : List HP) (x0 : Twire_Machine) (b_x0 : Nat) (g_x0 : Nat × Option Addr × Nat × Option Addr × Nat × Option Addr × Nat) (r : List Int) : Ending → World → Prop := fun e w' => ∃ (A_r0 : Option Addr), ∃ (c_r0 : Nat), e = .returned (.slice A_r0 r.length c_r0) ∧ Own κ w' (rowp A_r0 c_r0 32 1 (eI .u64) r :: bagL (Twire_Machine.parts b_x0 x0 g_x0) :: S)
def wire_Machine_Values.m (k : Nat) (x0 : Twire_Machine) : Option (List Int) := (slices_Clone_uint64_uint64.m k x0.values).bind fun v_10 => some v_10

set_option maxRecDepth 100000 in
set_option maxHeartbeats 4000000 in
theorem wire_Machine_Values.ok (k : Nat) (x0 : Twire_Machine) (r : List Int) (hm : wire_Machine_Values.m k x0 = some r) (κ : Ctx) (w : World) (S : List HP) (b_x0 : Nat) (g_x0 : Nat × Option Addr × Nat × Option Addr × Nat × Option Addr × Nat) (ho : Own κ w (bagL (Twire_Machine.parts b_x0 x0 g_x0) :: S)) :
    Calls Try.prog 22 #[pp b_x0] w (wire_Machine_Values.R κ S x0 b_x0 g_x0 r) := by
  unfold wire_Machine_Values.m at hm
  generalize hRR : wire_Machine_Values.R κ S x0 b_x0 g_x0 r = RR
  refine qen [(0, pp b_x0)] Try.func22 Try.ntmps22 ho fun a hs => ?_
  refine qsr fun K1 hK1 => ?_
  refine qpe 1 [(0, pp b_x0)] hs fun a hs => hK1 _ _ ?_
  clear hK1
  refine Vk.seq fun K2 hK2 => ?_
  refine qsr fun K3 hK3 => ?_
  refine qpe 2 [(0, pp b_x0), (4, .bool false)] hs fun a hs => hK3 _ _ ?_
  clear hK3
  refine qcf hs ?_
  refine wp_skip ?_
  refine hK2 _ _ ?_
  clear hK2
  refine qsr fun K4 hK4 => ?_
  refine qpu 3 hs fun a hs => ?_
  replace hs := hs.unbagAt 0 rfl
  refine qld 0 (C.slc g_x0.2.2.2.1 x0.values.length g_x0.2.2.2.2.1) hs rfl fun a hs => ?_
  obtain ⟨v_10, h_9, hm⟩ := bind_t hm
  refine Vk.step (Vk.call (some 9) 96 #[.slice g_x0.2.2.2.1 x0.values.length g_x0.2.2.2.2.1] hs (by kernel_rfl) (by kernel_rfl) (by kernel_rfl) ?_)
  refine (slices_Clone_uint64_uint64.ok k x0.values v_10 h_9 κ w (pt b_x0 (blk (Twire_Machine.obj x0 g_x0.1 g_x0.2.1 g_x0.2.2.1 g_x0.2.2.2.1 g_x0.2.2.2.2.1 g_x0.2.2.2.2.2.1 g_x0.2.2.2.2.2.2) 139) :: opto x0.dry (Ttape_Tape.own g_x0.1 x0.tape) :: rowp g_x0.2.1 g_x0.2.2.1 93 6 Tapi_Op.cells x0.ops :: rowp g_x0.2.2.2.1 g_x0.2.2.2.2.1 32 1 (eI .u64) x0.values :: rowp g_x0.2.2.2.2.2.1 g_x0.2.2.2.2.2.2 175 3 Tapi_Span.cells x0.blocks :: S) g_x0.2.2.2.1 g_x0.2.2.2.2.1 (Sl.lift (fun w ho => (Own.to (S' := rowp g_x0.2.2.2.1 g_x0.2.2.2.2.1 32 1 (eI .u64) x0.values :: S) ho [3] 5 (by kernel_rfl) (by kernel_rfl))) (Own.rowSl 0 (Own.to (S' := rowp g_x0.2.2.2.1 g_x0.2.2.2.2.1 32 1 (eI .u64) x0.values :: S) hs.own [3] 5 (by kernel_rfl) (by kernel_rfl)) rfl)) hs.own).mono ?_
  rintro _ w ⟨Ar8x0_11, cr8x0_12, rfl, how⟩
  refine ⟨_, _, _, rfl, how, fun a hs => ?_⟩
  refine qpe 1 [(2, .slice Ar8x0_11 v_10.length cr8x0_12)] hs fun a hs => hK4 _ _ ?_
  clear hK4
  refine wp_ret ?_
  replace hs := hs.bagG (l := Twire_Machine.parts b_x0 x0 g_x0) (S' := rowp Ar8x0_11 cr8x0_12 32 1 (eI .u64) v_10 :: S) (Own.to hs.own [1, 2, 3, 4, 5, 0] 6 (by kernel_rfl) (by kernel_rfl))
  exact Vk.ret1 (P := Try.prog) (fn := Try.f22) (R := RR) (.slice Ar8x0_11 v_10.length cr8x0_12) hs rfl (by kernel_rfl) (by obtain rfl := Option.some.inj hm; subst hRR; exact ⟨Ar8x0_11, cr8x0_12, rfl, (Own.to hs.own [1, 0] 2 (by kernel_rfl) (by kernel_rfl))⟩)


abbrev wire_Machine_Err.R (κ : Ctx) (S : List HP) (x0 : Twire_Machine) (b_x0 : Nat) (g_x0 : Nat × Option Addr × Nat × Option Addr × Nat × Option Addr × Nat) (r : Int) : Ending → World → Prop := fun e w' => e = .returned (vi r) ∧ Own κ w' (bagL (Twire_Machine.parts b_x0 x0 g_x0) :: S)
def wire_Machine_Err.m (k : Nat) (x0 : Twire_Machine) : Option Int := some x0.bad

set_option maxRecDepth 100000 in
set_option maxHeartbeats 4000000 in
theorem wire_Machine_Err.ok (k : Nat) (x0 : Twire_Machine) (r : Int) (hm : wire_Machine_Err.m k x0 = some r) (κ : Ctx) (w : World) (S : List HP) (b_x0 : Nat) (g_x0 : Nat × Option Addr × Nat × Option Addr × Nat × Option Addr × Nat) (ho : Own κ w (bagL (Twire_Machine.parts b_x0 x0 g_x0) :: S)) :
    Calls Try.prog 23 #[pp b_x0] w (wire_Machine_Err.R κ S x0 b_x0 g_x0 r) := by
  unfold wire_Machine_Err.m at hm
  generalize hRR : wire_Machine_Err.R κ S x0 b_x0 g_x0 r = RR
  refine qen [(0, pp b_x0)] Try.func23 Try.ntmps23 ho fun a hs => ?_
  refine qsr fun K1 hK1 => ?_
  refine qpe 1 [(0, pp b_x0)] hs fun a hs => hK1 _ _ ?_
  clear hK1
  refine Vk.seq fun K2 hK2 => ?_
  refine qsr fun K3 hK3 => ?_
  refine qpe 2 [(0, pp b_x0), (4, .bool false)] hs fun a hs => hK3 _ _ ?_
  clear hK3
  refine qcf hs ?_
  refine wp_skip ?_
  refine hK2 _ _ ?_
  clear hK2
  refine qsr fun K4 hK4 => ?_
  refine qpu 3 hs fun a hs => ?_
  replace hs := hs.unbagAt 0 rfl
  refine qld 0 (ci x0.bad) hs rfl fun a hs => ?_
  refine qpe 1 [(2, vi x0.bad)] hs fun a hs => hK4 _ _ ?_
  clear hK4
  refine wp_ret ?_
  replace hs := hs.bagG (l := Twire_Machine.parts b_x0 x0 g_x0) (S' := S) (Own.to hs.own [0, 1, 2, 3, 4] 5 (by kernel_rfl) (by kernel_rfl))
  exact Vk.ret1 (P := Try.prog) (fn := Try.f23) (R := RR) (vi x0.bad) hs rfl (by kernel_rfl) (by obtain rfl := Option.some.inj hm; subst hRR; exact ⟨rfl, (Own.to hs.own [0] 1 (by kernel_rfl) (by kernel_rfl))⟩)

structure Tvisorlaw20_Pair where
  m : Twire_Machine
  x : Tvisorref19_M
  l : List Cells
  v : List Int
  deriving Inhabited
def Tvisorlaw20_Pair.obj (x : Tvisorlaw20_Pair) (bm : Nat) (bx : Nat) (Al : Option Addr) (cl : Nat) (Av : Option Addr) (cv : Nat) : Cells := [C.ptr (some ⟨bm, 0, none⟩), C.ptr (some ⟨bx, 0, none⟩), C.slc Al x.l.length cl, C.slc Av x.v.length cv]

def visorlaw21_run.j1 (k : Nat) (p_125 : Twire_Machine) (p_126 : Cells) : Option ((List Int × Cells × Bool)) := (if p_126.length = 3 then (wire_Machine_Values.m k p_125).bind fun v_133 => (wire_Machine_Err.m k p_125).bind fun v_138 => some (v_133, p_126, v_138 == 0) else none)
def visorlaw21_run.l1 (x0 : Int) (x1 : Int) : Nat → Twire_Machine → Cells → Int → Option (Twire_Machine × Cells)
  | 0, _, _, _ => none
  | k + 1, q_66, q_67, q_68 => (bif decide (q_68 < x0) then (if 0 ≤ IntKind.u64.wrap q_68 then (wire_Machine_Const.m k q_66 q_68 (IntKind.u64.wrap (Int.tmod (shr .u8 x1 (IntKind.u64.wrap q_68)) 2))).bind fun v_75 => (if 0 ≤ q_68 ∧ q_68 < 3 then (if 0 + q_68.toNat * 1 < q_67.length then visorlaw21_run.l1 x0 x1 k v_75.2 (q_67.set (0 + q_68.toNat * 1) (ci v_75.1)) (IntKind.i64.wrap (q_68 + 1)) else none) else none) else none) else some (q_66, q_67))
abbrev visorlaw21_run.R (κ : Ctx) (S : List HP) (x0 : Int) (x1 : Int) (x2 : List Int) (x3 : Bool) (A_x2 : Option Addr) (c_x2 : Nat) (r : (List Int × Cells × Bool)) : Ending → World → Prop := fun e w' => ∃ (A_r0 : Option Addr), ∃ (c_r0 : Nat), e = .returned (.tuple #[.slice A_r0 r.1.length c_r0, .agg (vals r.2.1), .bool r.2.2]) ∧ Own κ w' (rowp A_r0 c_r0 32 1 (eI .u64) r.1 :: S)
def visorlaw21_run.m (k : Nat) (x0 : Int) (x1 : Int) (x2 : List Int) (x3 : Bool) : Option (List Int × Cells × Bool) := (tape_New.m k x2).bind fun v_10 => (tape_Tape_Reserve.m k v_10 ((x2.length : Nat) : Int)).bind fun v_15 => ((wire_New.m k x0 v_15.2 40).bind fun v => match v with | (.inl v_20) => some (([] : List Int), [ci 0, ci 0, ci 0], false) | (.inr v_21) => (bif !((v_15.1 == 0) && (v_21.2 == 0)) then some (([] : List Int), [ci 0, ci 0, ci 0], false) else (visorref20_None.m k).bind fun v_48 => (if v_48.length = 3 then (visorlaw21_run.l1 x0 x1 k v_21.1 v_48 0).bind fun x => match x with | (p_90, p_91) => (bif x3 then (if p_91.length = 3 then (fresh_Simple.m k p_90 p_91).bind fun v_100 => (if v_100.1.length = 3 then visorlaw21_run.j1 k v_100.2 v_100.1 else none) else none) else (if p_91.length = 3 then (fresh_Full.m k p_90 p_91).bind fun v_105 => (if v_105.1.length = 3 then visorlaw21_run.j1 k v_105.2 v_105.1 else none) else none)) else none)))

set_option maxRecDepth 100000 in
set_option maxHeartbeats 4000000 in
theorem visorlaw21_run.ok (k : Nat) (x0 : Int) (x1 : Int) (x2 : List Int) (x3 : Bool) (r : (List Int × Cells × Bool)) (hm : visorlaw21_run.m k x0 x1 x2 x3 = some r) (κ : Ctx) (w : World) (S : List HP) (A_x2 : Option Addr) (c_x2 : Nat) (hx_x2 : Sl κ S A_x2 c_x2 1 (eI .u64) x2) (ho : Own κ w (S)) :
    Calls Try.prog 13 #[vi x0, .int .u8 x1, .slice A_x2 x2.length c_x2, .bool x3] w (visorlaw21_run.R κ S x0 x1 x2 x3 A_x2 c_x2 r) := by
  unfold visorlaw21_run.m at hm
  generalize hRR : visorlaw21_run.R κ S x0 x1 x2 x3 A_x2 c_x2 r = RR
  refine qen [(0, vi x0), (1, .int .u8 x1), (2, .slice A_x2 x2.length c_x2), (3, .bool x3)] Try.func13 Try.ntmps13 ho fun a hs => ?_
  refine qsr fun K1 hK1 => ?_
  refine qpu 1 hs fun a hs => ?_
  refine Vk.step (Vk.alloc 9 28 [ci 0, ci 0, ci 0] hs (by kernel_rfl) (by kernel_rfl) (by kernel_rfl) fun b_2 w a hs => ?_)
  refine qpe 1 [(0, vi x0), (1, .int .u8 x1), (2, .slice A_x2 x2.length c_x2), (3, .bool x3), (9, pp b_2)] hs fun a hs => hK1 _ _ ?_
  clear hK1
  refine qsr fun K3 hK3 => ?_
  refine qpu 2 hs fun a hs => ?_
  refine Vk.step (Vk.call (some 18) 18 #[vi x0, .slice A_x2 x2.length c_x2, vi 40] hs (by kernel_rfl) (by kernel_rfl) (by kernel_rfl) ?_)
  refine Vk.enterI [(0, vi x0), (1, .slice A_x2 x2.length c_x2), (2, vi 40)] Try.func18 rfl Try.ntmps18 (by kernel_rfl) (Nat.le_of_ble_eq_true (by kernel_rfl)) hs.own fun KR4 hKR4 hKP4 a hs => ?_
  refine qsr fun K5 hK5 => ?_
  refine Vk.step (Vk.alloc 6 45 [C.ptr none, C.ptr none, C.slc none 0 0, C.slc none 0 0] hs (by kernel_rfl) (by kernel_rfl) (by kernel_rfl) fun b_6 w a hs => ?_)
  refine qpe 1 [(0, vi x0), (1, .slice A_x2 x2.length c_x2), (2, vi 40), (6, pp b_6)] hs fun a hs => hK5 _ _ ?_
  clear hK5
  refine qsr fun K7 hK7 => ?_
  refine qpu 1 hs fun a hs => ?_
  obtain ⟨v_10, h_9, hm⟩ := bind_t hm
  refine Vk.step (Vk.call (some 13) 85 #[.slice A_x2 x2.length c_x2] hs (by kernel_rfl) (by kernel_rfl) (by kernel_rfl) ?_)
  refine (tape_New.ok k x2 v_10 h_9 κ w (pt b_6 (blk [C.ptr none, C.ptr none, C.slc none 0 0, C.slc none 0 0] 45) :: pt b_2 (blk [ci 0, ci 0, ci 0] 28) :: S) A_x2 c_x2 hx_x2.less.less hs.own).mono ?_
  rintro _ w ⟨br8x0_11, rfl, how⟩
  refine ⟨_, _, _, rfl, how, fun a hs => ?_⟩
  refine qpe 1 [(0, vi x0), (1, .slice A_x2 x2.length c_x2), (2, vi 40), (6, pp b_6), (8, pp br8x0_11)] hs fun a hs => hK7 _ _ ?_
  clear hK7
  refine qsr fun K12 hK12 => ?_
  refine qpu 3 hs fun a hs => ?_
  obtain ⟨v_15, h_14, hm⟩ := bind_t hm
  refine Vk.step (Vk.call (some 17) 86 #[pp br8x0_11, vi ((x2.length : Nat) : Int)] hs (by kernel_rfl) (by kernel_rfl) (by kernel_rfl) ?_)
  refine (tape_Tape_Reserve.ok k v_10 ((x2.length : Nat) : Int) v_15 h_14 κ w (pt b_6 (blk [C.ptr none, C.ptr none, C.slc none 0 0, C.slc none 0 0] 45) :: pt b_2 (blk [ci 0, ci 0, ci 0] 28) :: S) br8x0_11 (Own.to hs.own [0, 1, 2] 3 (by kernel_rfl) (by kernel_rfl))).mono ?_
  rintro _ w ⟨rfl, how⟩
  refine ⟨_, _, _, rfl, how, fun a hs => ?_⟩
  refine qpe 1 [(0, vi x0), (1, .slice A_x2 x2.length c_x2), (2, vi 40), (6, pp b_6), (8, pp br8x0_11), (9, vi v_15.1)] hs fun a hs => hK12 _ _ ?_
  clear hK12
  refine qsr fun K16 hK16 => ?_
  refine qpu 3 hs fun a hs => ?_
  obtain ⟨v_19, h_18, hm⟩ := bind_t hm
  refine Vk.step (Vk.call (some 22) 87 #[vi x0, pp br8x0_11, vi 40] hs (by kernel_rfl) (by kernel_rfl) (by kernel_rfl) ?_)
  refine (wire_New.ok k x0 v_15.2 40 v_19 h_18 κ w (pt b_6 (blk [C.ptr none, C.ptr none, C.slc none 0 0, C.slc none 0 0] 45) :: pt b_2 (blk [ci 0, ci 0, ci 0] 28) :: S) br8x0_11 (Own.to hs.own [0, 1, 2] 3 (by kernel_rfl) (by kernel_rfl))).mono ?_
  rintro _ w (⟨v_20, rfl, rfl, how⟩ | ⟨v_21, rfl, br17x0_22, rfl, how⟩)
  · dsimp only at hm
    refine ⟨_, _, _, rfl, how, fun a hs => ?_⟩
    refine qpe 5 [(0, vi x0), (1, .slice A_x2 x2.length c_x2), (2, vi 40), (6, pp b_6), (9, vi v_15.1), (10, .pointer none), (11, vi v_20.1)] hs fun a hs => hK16 _ _ ?_
    refine qsr fun K23 hK23 => ?_
    refine qpu 4 hs fun a hs => ?_
    refine Vk.step (Vk.call (some 29) 88 #[vi x0, .slice A_x2 x2.length c_x2, vi 40] hs (by kernel_rfl) (by kernel_rfl) (by kernel_rfl) ?_)
    refine Vk.enterI [(0, vi x0), (1, .slice A_x2 x2.length c_x2), (2, vi 40)] Try.func88 rfl Try.ntmps88 (by kernel_rfl) (Nat.le_of_ble_eq_true (by kernel_rfl)) hs.own fun KR24 hKR24 hKP24 a hs => ?_
    refine qsr fun K25 hK25 => ?_
    refine qpe 1 [(0, vi x0), (1, .slice A_x2 x2.length c_x2), (2, vi 40)] hs fun a hs => hK25 _ _ ?_
    clear hK25
    refine qsr fun K26 hK26 => ?_
    refine qpu 7 hs fun a hs => ?_
    refine Vk.step (Vk.box (x := (.tmp 13)) 14 64 [ci x0, ci 40, ci 0, ci 0, ci 0, ci 0, ci 0, ci 0, C.slc none 0 0, C.slc none 0 0, C.slc none 0 0, C.slc A_x2 x2.length c_x2, ci 0, ci ((x2.length : Nat) : Int), C.bool false] hs (by kernel_rfl) (by kernel_rfl) (by kernel_rfl) fun b_27 w a hs => ?_)
    refine qpe 1 [(6, pp b_27)] hs fun a hs => hK26 _ _ ?_
    clear hK26
    refine wp_ret ?_
    refine hKP24 _ _ ?_
    refine hKR24 _ _ ?_
    refine Vk.ret1 (P := Try.prog) (fn := Try.f88) (pp b_27) hs rfl (by kernel_rfl) ⟨_, _, _, rfl, hs.own, fun a hs => ?_⟩
    refine qpu 4 hs fun a hs => ?_
    suffices hj_28 : ∀ a, St 41 a w κ [(0, vi x0), (1, .slice A_x2 x2.length c_x2), (2, vi 40), (6, pp b_6), (9, vi v_15.1), (10, .pointer none), (11, vi v_20.1), (25, .pointer none), (26, vi x0), (27, .slice A_x2 x2.length c_x2), (28, vi 40), (29, pp b_27), (30, .agg (vals [C.ptr none, cp b_27, C.slc none 0 0, C.slc none 0 0])), (31, vi v_15.1), (32, .bool (v_15.1 == 0)), (33, .bool (v_15.1 == 0)), (36, .bool ((v_15.1 == 0) && (v_20.1 == 0)))] (pt b_27 (blk [ci x0, ci 40, ci 0, ci 0, ci 0, ci 0, ci 0, ci 0, C.slc none 0 0, C.slc none 0 0, C.slc none 0 0, C.slc A_x2 x2.length c_x2, ci 0, ci ((x2.length : Nat) : Int), C.bool false] 64) :: Ttape_Tape.own br8x0_11 v_20.2 :: pt b_6 (blk [C.ptr none, C.ptr none, C.slc none 0 0, C.slc none 0 0] 45) :: pt b_2 (blk [ci 0, ci 0, ci 0] 28) :: S) → wpFrom Try.prog _ _ 12 a w by
      rcases Bool.eq_false_or_eq_true (v_15.1 == 0) with hb | hb
      · replace hs := hs.known (t := 33) hb (by kernel_rfl)
        refine qpu 3 hs fun a hs => ?_
        have hq := hs.pick [0, 1, 2, 6, 9, 10, 11, 25, 26, 27, 28, 29, 30, 31, 32, 33, 36] (L' := [(0, vi x0), (1, .slice A_x2 x2.length c_x2), (2, vi 40), (6, pp b_6), (9, vi v_15.1), (10, .pointer none), (11, vi v_20.1), (25, .pointer none), (26, vi x0), (27, .slice A_x2 x2.length c_x2), (28, vi 40), (29, pp b_27), (30, .agg (vals [C.ptr none, cp b_27, C.slc none 0 0, C.slc none 0 0])), (31, vi v_15.1), (32, .bool (v_15.1 == 0)), (33, .bool true), (36, .bool (v_20.1 == 0))]) (by kernel_rfl)
        exact hj_28 _ (hq.conv (by first | (rw [hb] <;> rfl) | rfl))
      · replace hs := hs.known (t := 33) hb (by kernel_rfl)
        refine qpu 3 hs fun a hs => ?_
        have hq := hs.pick [0, 1, 2, 6, 9, 10, 11, 25, 26, 27, 28, 29, 30, 31, 32, 33, 36] (L' := [(0, vi x0), (1, .slice A_x2 x2.length c_x2), (2, vi 40), (6, pp b_6), (9, vi v_15.1), (10, .pointer none), (11, vi v_20.1), (25, .pointer none), (26, vi x0), (27, .slice A_x2 x2.length c_x2), (28, vi 40), (29, pp b_27), (30, .agg (vals [C.ptr none, cp b_27, C.slc none 0 0, C.slc none 0 0])), (31, vi v_15.1), (32, .bool (v_15.1 == 0)), (33, .bool false), (36, .bool false)]) (by kernel_rfl)
        exact hj_28 _ (hq.conv (by first | (rw [hb] <;> rfl) | rfl))
    intro a hs
    refine qpu 1 hs fun a hs => ?_
    suffices hj_29 : ∀ a, St 41 a w κ [(0, vi x0), (1, .slice A_x2 x2.length c_x2), (2, vi 40), (6, pp b_6), (9, vi v_15.1), (10, .pointer none), (11, vi v_20.1), (25, .pointer none), (26, vi x0), (27, .slice A_x2 x2.length c_x2), (28, vi 40), (29, pp b_27), (30, .agg (vals [C.ptr none, cp b_27, C.slc none 0 0, C.slc none 0 0])), (31, vi v_15.1), (32, .bool (v_15.1 == 0)), (33, .bool (v_15.1 == 0)), (36, .bool ((v_15.1 == 0) && (v_20.1 == 0))), (37, .bool ((v_15.1 == 0) && (v_20.1 == 0))), (40, .bool false)] (pt b_27 (blk [ci x0, ci 40, ci 0, ci 0, ci 0, ci 0, ci 0, ci 0, C.slc none 0 0, C.slc none 0 0, C.slc none 0 0, C.slc A_x2 x2.length c_x2, ci 0, ci ((x2.length : Nat) : Int), C.bool false] 64) :: Ttape_Tape.own br8x0_11 v_20.2 :: pt b_6 (blk [C.ptr none, C.ptr none, C.slc none 0 0, C.slc none 0 0] 45) :: pt b_2 (blk [ci 0, ci 0, ci 0] 28) :: S) → wpFrom Try.prog _ _ 16 a w by
      rcases Bool.eq_false_or_eq_true ((v_15.1 == 0) && (v_20.1 == 0)) with hb | hb
      · replace hs := hs.known (t := 37) hb (by kernel_rfl)
        refine qpu 3 hs fun a hs => ?_
        have hq := hs.pick [0, 1, 2, 6, 9, 10, 11, 25, 26, 27, 28, 29, 30, 31, 32, 33, 36, 37, 40] (L' := [(0, vi x0), (1, .slice A_x2 x2.length c_x2), (2, vi 40), (6, pp b_6), (9, vi v_15.1), (10, .pointer none), (11, vi v_20.1), (25, .pointer none), (26, vi x0), (27, .slice A_x2 x2.length c_x2), (28, vi 40), (29, pp b_27), (30, .agg (vals [C.ptr none, cp b_27, C.slc none 0 0, C.slc none 0 0])), (31, vi v_15.1), (32, .bool (v_15.1 == 0)), (33, .bool (v_15.1 == 0)), (36, .bool ((v_15.1 == 0) && (v_20.1 == 0))), (37, .bool true), (40, .bool false)]) (by kernel_rfl)
        exact hj_29 _ (hq.conv (by first | (rw [hb] <;> rfl) | rfl))
      · replace hs := hs.known (t := 37) hb (by kernel_rfl)
        refine qpu 3 hs fun a hs => ?_
        have hq := hs.pick [0, 1, 2, 6, 9, 10, 11, 25, 26, 27, 28, 29, 30, 31, 32, 33, 36, 37, 40] (L' := [(0, vi x0), (1, .slice A_x2 x2.length c_x2), (2, vi 40), (6, pp b_6), (9, vi v_15.1), (10, .pointer none), (11, vi v_20.1), (25, .pointer none), (26, vi x0), (27, .slice A_x2 x2.length c_x2), (28, vi 40), (29, pp b_27), (30, .agg (vals [C.ptr none, cp b_27, C.slc none 0 0, C.slc none 0 0])), (31, vi v_15.1), (32, .bool (v_15.1 == 0)), (33, .bool (v_15.1 == 0)), (36, .bool ((v_15.1 == 0) && (v_20.1 == 0))), (37, .bool false), (40, .bool false)]) (by kernel_rfl)
        exact hj_29 _ (hq.conv (by first | (rw [hb] <;> rfl) | rfl))
    intro a hs
    refine Vk.step (Vk.storeA (b := b_6) (ty := 45) (x := (.tmp 6)) (y := (.tmp 30)) (sz := 4) [C.ptr none, cp b_27, C.slc none 0 0, C.slc none 0 0] 2 hs (by kernel_rfl) (by kernel_rfl) (by kernel_rfl) (by kernel_rfl) (by kernel_rfl) rfl (by kernel_rfl) rfl (Eq.trans (b := 4) rfl (Eq.symm rfl)) fun a w hs => ?_)
    refine qpe 1 [(6, pp b_6), (7, .bool false)] hs fun a hs => hK23 _ _ ?_
    clear hK23
    refine wp_ret ?_
    refine hKP4 _ _ ?_
    refine hKR4 _ _ ?_
    refine Vk.retCT (P := Try.prog) (fn := Try.f18) [C.ptr none, cp b_27, C.slc none 0 0, C.slc none 0 0] (.bool false) hs rfl (by kernel_rfl) (sz := 4) (by kernel_rfl) rfl (CellsAt.all 2 rfl) (by kernel_rfl) ⟨_, _, _, rfl, hs.own, fun a hs => ?_⟩
    refine qpu 3 hs fun a hs => ?_
    refine Vk.step (Vk.alloc 11 45 [C.ptr none, C.ptr none, C.slc none 0 0, C.slc none 0 0] hs (by kernel_rfl) (by kernel_rfl) (by kernel_rfl) fun b_37 w a hs => ?_)
    refine Vk.step (Vk.storeA (b := b_37) (ty := 45) (x := (.tmp 11)) (y := (.tmp 19)) (sz := 4) [C.ptr none, cp b_27, C.slc none 0 0, C.slc none 0 0] 0 hs (by kernel_rfl) (by kernel_rfl) (by kernel_rfl) (by kernel_rfl) (by kernel_rfl) rfl (by kernel_rfl) rfl (Eq.trans (b := 4) rfl (Eq.symm rfl)) fun a w hs => ?_)
    refine qpe 1 [(0, vi x0), (1, .int .u8 x1), (3, .bool x3), (9, pp b_2), (11, pp b_37), (12, .bool false)] hs fun a hs => hK3 _ _ ?_
    refine Vk.seq fun K39 hK39 => ?_
    refine qsr fun K40 hK40 => ?_
    refine qpe 2 [(0, vi x0), (1, .int .u8 x1), (3, .bool x3), (9, pp b_2), (11, pp b_37), (22, .bool true)] hs fun a hs => hK40 _ _ ?_
    clear hK40
    refine qct hs ?_
    refine qsr fun K41 hK41 => ?_
    refine qpu 2 hs fun a hs => ?_
    refine Vk.step (Vk.storeA (b := b_2) (ty := 28) (x := (.tmp 9)) (y := (.tmp 23)) (sz := 3) [ci 0, ci 0, ci 0] 4 hs (by kernel_rfl) (by kernel_rfl) (by kernel_rfl) (by kernel_rfl) (by kernel_rfl) rfl (by kernel_rfl) rfl (Eq.trans (b := 3) rfl (Eq.symm rfl)) fun a w hs => ?_)
    refine qpe 1 [(8, .slice none 0 0), (9, pp b_2), (10, .bool false)] hs fun a hs => hK41 _ _ ?_
    clear hK41
    refine wp_ret ?_
    replace hs := hs.addRow none 32 1 (eI .u64)
    exact Vk.retTCT (P := Try.prog) (fn := Try.f13) (R := RR) [ci 0, ci 0, ci 0] (.slice none (([] : List Int).length) 0) (.bool false) hs rfl (by kernel_rfl) (sz := 3) (by kernel_rfl) rfl (CellsAt.all 5 rfl) (by kernel_rfl) (by kernel_rfl) (by obtain rfl := Option.some.inj hm; subst hRR; exact ⟨none, 0, rfl, (Own.to hs.own [0] 6 (by kernel_rfl) (by kernel_rfl))⟩)
  · dsimp only at hm
    refine ⟨_, _, _, rfl, how, fun a hs => ?_⟩
    refine qpe 5 [(0, vi x0), (1, .slice A_x2 x2.length c_x2), (2, vi 40), (6, pp b_6), (9, vi v_15.1), (10, pp br17x0_22), (11, vi v_21.2)] hs fun a hs => hK16 _ _ ?_
    refine qsr fun K30 hK30 => ?_
    refine qpu 4 hs fun a hs => ?_
    refine Vk.step (Vk.call (some 29) 88 #[vi x0, .slice A_x2 x2.length c_x2, vi 40] hs (by kernel_rfl) (by kernel_rfl) (by kernel_rfl) ?_)
    refine Vk.enterI [(0, vi x0), (1, .slice A_x2 x2.length c_x2), (2, vi 40)] Try.func88 rfl Try.ntmps88 (by kernel_rfl) (Nat.le_of_ble_eq_true (by kernel_rfl)) hs.own fun KR31 hKR31 hKP31 a hs => ?_
    refine qsr fun K32 hK32 => ?_
    refine qpe 1 [(0, vi x0), (1, .slice A_x2 x2.length c_x2), (2, vi 40)] hs fun a hs => hK32 _ _ ?_
    clear hK32
    refine qsr fun K33 hK33 => ?_
    refine qpu 7 hs fun a hs => ?_
    refine Vk.step (Vk.box (x := (.tmp 13)) 14 64 [ci x0, ci 40, ci 0, ci 0, ci 0, ci 0, ci 0, ci 0, C.slc none 0 0, C.slc none 0 0, C.slc none 0 0, C.slc A_x2 x2.length c_x2, ci 0, ci ((x2.length : Nat) : Int), C.bool false] hs (by kernel_rfl) (by kernel_rfl) (by kernel_rfl) fun b_34 w a hs => ?_)
    refine qpe 1 [(6, pp b_34)] hs fun a hs => hK33 _ _ ?_
    clear hK33
    refine wp_ret ?_
    refine hKP31 _ _ ?_
    refine hKR31 _ _ ?_
    refine Vk.ret1 (P := Try.prog) (fn := Try.f88) (pp b_34) hs rfl (by kernel_rfl) ⟨_, _, _, rfl, hs.own, fun a hs => ?_⟩
    refine qpu 4 hs fun a hs => ?_
    suffices hj_35 : ∀ a, St 41 a w κ [(0, vi x0), (1, .slice A_x2 x2.length c_x2), (2, vi 40), (6, pp b_6), (9, vi v_15.1), (10, pp br17x0_22), (11, vi v_21.2), (25, pp br17x0_22), (26, vi x0), (27, .slice A_x2 x2.length c_x2), (28, vi 40), (29, pp b_34), (30, .agg (vals [cp br17x0_22, cp b_34, C.slc none 0 0, C.slc none 0 0])), (31, vi v_15.1), (32, .bool (v_15.1 == 0)), (33, .bool (v_15.1 == 0)), (36, .bool ((v_15.1 == 0) && (v_21.2 == 0)))] (pt b_34 (blk [ci x0, ci 40, ci 0, ci 0, ci 0, ci 0, ci 0, ci 0, C.slc none 0 0, C.slc none 0 0, C.slc none 0 0, C.slc A_x2 x2.length c_x2, ci 0, ci ((x2.length : Nat) : Int), C.bool false] 64) :: Twire_Machine.own br17x0_22 v_21.1 :: pt b_6 (blk [C.ptr none, C.ptr none, C.slc none 0 0, C.slc none 0 0] 45) :: pt b_2 (blk [ci 0, ci 0, ci 0] 28) :: S) → wpFrom Try.prog _ _ 12 a w by
      rcases Bool.eq_false_or_eq_true (v_15.1 == 0) with hb | hb
      · replace hs := hs.known (t := 33) hb (by kernel_rfl)
        refine qpu 3 hs fun a hs => ?_
        have hq := hs.pick [0, 1, 2, 6, 9, 10, 11, 25, 26, 27, 28, 29, 30, 31, 32, 33, 36] (L' := [(0, vi x0), (1, .slice A_x2 x2.length c_x2), (2, vi 40), (6, pp b_6), (9, vi v_15.1), (10, pp br17x0_22), (11, vi v_21.2), (25, pp br17x0_22), (26, vi x0), (27, .slice A_x2 x2.length c_x2), (28, vi 40), (29, pp b_34), (30, .agg (vals [cp br17x0_22, cp b_34, C.slc none 0 0, C.slc none 0 0])), (31, vi v_15.1), (32, .bool (v_15.1 == 0)), (33, .bool true), (36, .bool (v_21.2 == 0))]) (by kernel_rfl)
        exact hj_35 _ (hq.conv (by first | (rw [hb] <;> rfl) | rfl))
      · replace hs := hs.known (t := 33) hb (by kernel_rfl)
        refine qpu 3 hs fun a hs => ?_
        have hq := hs.pick [0, 1, 2, 6, 9, 10, 11, 25, 26, 27, 28, 29, 30, 31, 32, 33, 36] (L' := [(0, vi x0), (1, .slice A_x2 x2.length c_x2), (2, vi 40), (6, pp b_6), (9, vi v_15.1), (10, pp br17x0_22), (11, vi v_21.2), (25, pp br17x0_22), (26, vi x0), (27, .slice A_x2 x2.length c_x2), (28, vi 40), (29, pp b_34), (30, .agg (vals [cp br17x0_22, cp b_34, C.slc none 0 0, C.slc none 0 0])), (31, vi v_15.1), (32, .bool (v_15.1 == 0)), (33, .bool false), (36, .bool false)]) (by kernel_rfl)
        exact hj_35 _ (hq.conv (by first | (rw [hb] <;> rfl) | rfl))
    intro a hs
    refine qpu 1 hs fun a hs => ?_
    suffices hj_36 : ∀ a, St 41 a w κ [(0, vi x0), (1, .slice A_x2 x2.length c_x2), (2, vi 40), (6, pp b_6), (9, vi v_15.1), (10, pp br17x0_22), (11, vi v_21.2), (25, pp br17x0_22), (26, vi x0), (27, .slice A_x2 x2.length c_x2), (28, vi 40), (29, pp b_34), (30, .agg (vals [cp br17x0_22, cp b_34, C.slc none 0 0, C.slc none 0 0])), (31, vi v_15.1), (32, .bool (v_15.1 == 0)), (33, .bool (v_15.1 == 0)), (36, .bool ((v_15.1 == 0) && (v_21.2 == 0))), (37, .bool ((v_15.1 == 0) && (v_21.2 == 0))), (40, .bool ((v_15.1 == 0) && (v_21.2 == 0)))] (pt b_34 (blk [ci x0, ci 40, ci 0, ci 0, ci 0, ci 0, ci 0, ci 0, C.slc none 0 0, C.slc none 0 0, C.slc none 0 0, C.slc A_x2 x2.length c_x2, ci 0, ci ((x2.length : Nat) : Int), C.bool false] 64) :: Twire_Machine.own br17x0_22 v_21.1 :: pt b_6 (blk [C.ptr none, C.ptr none, C.slc none 0 0, C.slc none 0 0] 45) :: pt b_2 (blk [ci 0, ci 0, ci 0] 28) :: S) → wpFrom Try.prog _ _ 16 a w by
      rcases Bool.eq_false_or_eq_true ((v_15.1 == 0) && (v_21.2 == 0)) with hb | hb
      · replace hs := hs.known (t := 37) hb (by kernel_rfl)
        refine qpu 3 hs fun a hs => ?_
        have hq := hs.pick [0, 1, 2, 6, 9, 10, 11, 25, 26, 27, 28, 29, 30, 31, 32, 33, 36, 37, 40] (L' := [(0, vi x0), (1, .slice A_x2 x2.length c_x2), (2, vi 40), (6, pp b_6), (9, vi v_15.1), (10, pp br17x0_22), (11, vi v_21.2), (25, pp br17x0_22), (26, vi x0), (27, .slice A_x2 x2.length c_x2), (28, vi 40), (29, pp b_34), (30, .agg (vals [cp br17x0_22, cp b_34, C.slc none 0 0, C.slc none 0 0])), (31, vi v_15.1), (32, .bool (v_15.1 == 0)), (33, .bool (v_15.1 == 0)), (36, .bool ((v_15.1 == 0) && (v_21.2 == 0))), (37, .bool true), (40, .bool true)]) (by kernel_rfl)
        exact hj_36 _ (hq.conv (by first | (rw [hb] <;> rfl) | rfl))
      · replace hs := hs.known (t := 37) hb (by kernel_rfl)
        refine qpu 3 hs fun a hs => ?_
        have hq := hs.pick [0, 1, 2, 6, 9, 10, 11, 25, 26, 27, 28, 29, 30, 31, 32, 33, 36, 37, 40] (L' := [(0, vi x0), (1, .slice A_x2 x2.length c_x2), (2, vi 40), (6, pp b_6), (9, vi v_15.1), (10, pp br17x0_22), (11, vi v_21.2), (25, pp br17x0_22), (26, vi x0), (27, .slice A_x2 x2.length c_x2), (28, vi 40), (29, pp b_34), (30, .agg (vals [cp br17x0_22, cp b_34, C.slc none 0 0, C.slc none 0 0])), (31, vi v_15.1), (32, .bool (v_15.1 == 0)), (33, .bool (v_15.1 == 0)), (36, .bool ((v_15.1 == 0) && (v_21.2 == 0))), (37, .bool false), (40, .bool false)]) (by kernel_rfl)
        exact hj_36 _ (hq.conv (by first | (rw [hb] <;> rfl) | rfl))
    intro a hs
    refine Vk.step (Vk.storeA (b := b_6) (ty := 45) (x := (.tmp 6)) (y := (.tmp 30)) (sz := 4) [cp br17x0_22, cp b_34, C.slc none 0 0, C.slc none 0 0] 2 hs (by kernel_rfl) (by kernel_rfl) (by kernel_rfl) (by kernel_rfl) (by kernel_rfl) rfl (by kernel_rfl) rfl (Eq.trans (b := 4) rfl (Eq.symm rfl)) fun a w hs => ?_)
    refine qpe 1 [(6, pp b_6), (7, .bool ((v_15.1 == 0) && (v_21.2 == 0)))] hs fun a hs => hK30 _ _ ?_
    clear hK30
    refine wp_ret ?_
    refine hKP4 _ _ ?_
    refine hKR4 _ _ ?_
    refine Vk.retCT (P := Try.prog) (fn := Try.f18) [cp br17x0_22, cp b_34, C.slc none 0 0, C.slc none 0 0] (.bool ((v_15.1 == 0) && (v_21.2 == 0))) hs rfl (by kernel_rfl) (sz := 4) (by kernel_rfl) rfl (CellsAt.all 2 rfl) (by kernel_rfl) ⟨_, _, _, rfl, hs.own, fun a hs => ?_⟩
    refine qpu 3 hs fun a hs => ?_
    refine Vk.step (Vk.alloc 11 45 [C.ptr none, C.ptr none, C.slc none 0 0, C.slc none 0 0] hs (by kernel_rfl) (by kernel_rfl) (by kernel_rfl) fun b_38 w a hs => ?_)
    refine Vk.step (Vk.storeA (b := b_38) (ty := 45) (x := (.tmp 11)) (y := (.tmp 19)) (sz := 4) [cp br17x0_22, cp b_34, C.slc none 0 0, C.slc none 0 0] 0 hs (by kernel_rfl) (by kernel_rfl) (by kernel_rfl) (by kernel_rfl) (by kernel_rfl) rfl (by kernel_rfl) rfl (Eq.trans (b := 4) rfl (Eq.symm rfl)) fun a w hs => ?_)
    refine qpe 1 [(0, vi x0), (1, .int .u8 x1), (3, .bool x3), (9, pp b_2), (11, pp b_38), (12, .bool ((v_15.1 == 0) && (v_21.2 == 0)))] hs fun a hs => hK3 _ _ ?_
    refine Vk.seq fun K42 hK42 => ?_
    refine qsr fun K43 hK43 => ?_
    refine qpe 2 [(0, vi x0), (1, .int .u8 x1), (3, .bool x3), (9, pp b_2), (11, pp b_38), (22, .bool (!((v_15.1 == 0) && (v_21.2 == 0))))] hs fun a hs => hK43 _ _ ?_
    clear hK43
    refine qcs (!((v_15.1 == 0) && (v_21.2 == 0))) hs (fun hb => ?_) fun hb => ?_
    · replace hm := bif_t hm hb
      refine qsr fun K44 hK44 => ?_
      refine qpu 2 hs fun a hs => ?_
      refine Vk.step (Vk.storeA (b := b_2) (ty := 28) (x := (.tmp 9)) (y := (.tmp 23)) (sz := 3) [ci 0, ci 0, ci 0] 4 hs (by kernel_rfl) (by kernel_rfl) (by kernel_rfl) (by kernel_rfl) (by kernel_rfl) rfl (by kernel_rfl) rfl (Eq.trans (b := 3) rfl (Eq.symm rfl)) fun a w hs => ?_)
      refine qpe 1 [(8, .slice none 0 0), (9, pp b_2), (10, .bool false)] hs fun a hs => hK44 _ _ ?_
      clear hK44
      refine wp_ret ?_
      replace hs := hs.addRow none 32 1 (eI .u64)
      exact Vk.retTCT (P := Try.prog) (fn := Try.f13) (R := RR) [ci 0, ci 0, ci 0] (.slice none (([] : List Int).length) 0) (.bool false) hs rfl (by kernel_rfl) (sz := 3) (by kernel_rfl) rfl (CellsAt.all 5 rfl) (by kernel_rfl) (by kernel_rfl) (by obtain rfl := Option.some.inj hm; subst hRR; exact ⟨none, 0, rfl, (Own.to hs.own [0] 6 (by kernel_rfl) (by kernel_rfl))⟩)
    · replace hm := bif_f hm hb
      refine wp_skip ?_
      refine hK42 _ _ ?_
      clear hK42
      refine qsr fun K45 hK45 => ?_
      obtain ⟨v_48, h_47, hm⟩ := bind_t hm
      refine Vk.step (Vk.call (some 24) 83 #[] hs (by kernel_rfl) (by kernel_rfl) (by kernel_rfl) ?_)
      refine (visorref20_None.ok k v_48 h_47 κ w (pt b_38 (blk [cp br17x0_22, cp b_34, C.slc none 0 0, C.slc none 0 0] 45) :: pt b_34 (blk [ci x0, ci 40, ci 0, ci 0, ci 0, ci 0, ci 0, ci 0, C.slc none 0 0, C.slc none 0 0, C.slc none 0 0, C.slc A_x2 x2.length c_x2, ci 0, ci ((x2.length : Nat) : Int), C.bool false] 64) :: Twire_Machine.own br17x0_22 v_21.1 :: pt b_6 (blk [cp br17x0_22, cp b_34, C.slc none 0 0, C.slc none 0 0] 45) :: pt b_2 (blk [ci 0, ci 0, ci 0] 28) :: S) hs.own).mono ?_
      rintro _ w ⟨rfl, how⟩
      refine ⟨_, _, _, rfl, how, fun a hs => ?_⟩
      refine Vk.step (Vk.alloc 13 28 [ci 0, ci 0, ci 0] hs (by kernel_rfl) (by kernel_rfl) (by kernel_rfl) fun b_49 w a hs => ?_)
      obtain ⟨h_50, hm⟩ := ite_t hm
      refine Vk.step (Vk.storeA (b := b_49) (ty := 28) (x := (.tmp 13)) (y := (.tmp 24)) (sz := 3) v_48 0 hs (by kernel_rfl) (by kernel_rfl) (by kernel_rfl) (by kernel_rfl) (by kernel_rfl) h_50 (by kernel_rfl) rfl (Eq.trans (b := 3) h_50 (Eq.symm rfl)) fun a w hs => ?_)
      refine qpe 0 [(0, vi x0), (1, .int .u8 x1), (3, .bool x3), (9, pp b_2), (11, pp b_38), (13, pp b_49)] hs fun a hs => hK45 _ _ ?_
      clear hK45
      refine Vk.seq fun K51 hK51 => ?_
      refine qsr fun K52 hK52 => ?_
      refine qpe 1 [(0, vi x0), (1, .int .u8 x1), (3, .bool x3), (9, pp b_2), (11, pp b_38), (13, pp b_49), (14, vi 0)] hs fun a hs => hK52 _ _ ?_
      clear hK52
      refine wp_block ?_
      obtain ⟨r65, hl65, hm⟩ := bind_t hm
      have hx65 : ∀ (p_90 : Twire_Machine) (p_91 : Cells), r65 = (p_90, p_91) → ∀ (a : Act) (w : World), St 60 a w κ [(3, .bool x3), (9, pp b_2), (11, pp b_38), (13, pp b_49)] (pt b_2 (blk [ci 0, ci 0, ci 0] 28) :: pt b_38 (blk [cp br17x0_22, cp b_34, C.slc none 0 0, C.slc none 0 0] 45) :: Twire_Machine.own br17x0_22 p_90 :: pt b_34 (blk [ci x0, ci 40, ci 0, ci 0, ci 0, ci 0, ci 0, ci 0, C.slc none 0 0, C.slc none 0 0, C.slc none 0 0, C.slc A_x2 x2.length c_x2, ci 0, ci ((x2.length : Nat) : Int), C.bool false] 64) :: pt b_49 (blk p_91 28) :: S) → K51 a w := by
        intro p_90 p_91 he a w hs
        subst r65
        refine hK51 _ _ ?_
        clear hK51
        refine Vk.seq fun K95 hK95 => ?_
        have hj95 : ∀ (p_125 : Twire_Machine) (p_126 : Cells), visorlaw21_run.j1 k p_125 p_126 = some r → ∀ (a : Act) (w : World), St 60 a w κ [(9, pp b_2), (11, pp b_38), (13, pp b_49)] (pt b_2 (blk [ci 0, ci 0, ci 0] 28) :: pt b_38 (blk [cp br17x0_22, cp b_34, C.slc none 0 0, C.slc none 0 0] 45) :: Twire_Machine.own br17x0_22 p_125 :: pt b_34 (blk [ci x0, ci 40, ci 0, ci 0, ci 0, ci 0, ci 0, ci 0, C.slc none 0 0, C.slc none 0 0, C.slc none 0 0, C.slc A_x2 x2.length c_x2, ci 0, ci ((x2.length : Nat) : Int), C.bool false] 64) :: pt b_49 (blk p_126 28) :: S) → K95 a w := by
          intro p_125 p_126 hm a w hs
          unfold visorlaw21_run.j1 at hm
          refine hK95 _ _ ?_
          refine Vk.seq fun K127 hK127 => ?_
          obtain ⟨C_128, hC_128⟩ : ∃ X0 : List HP, X0 = (pt b_38 (blk [cp br17x0_22, cp b_34, C.slc none 0 0, C.slc none 0 0] 45) :: pt b_34 (blk [ci x0, ci 40, ci 0, ci 0, ci 0, ci 0, ci 0, ci 0, C.slc none 0 0, C.slc none 0 0, C.slc none 0 0, C.slc A_x2 x2.length c_x2, ci 0, ci ((x2.length : Nat) : Int), C.bool false] 64) :: pt b_49 (blk p_126 28) :: S) := ⟨_, rfl⟩
          refine qdr 11 κ C_128 hs fun w hs hqC_128 => ?_
          have hcz : Own κ w (pt b_38 (blk [cp br17x0_22, cp b_34, C.slc none 0 0, C.slc none 0 0] 45) :: pt b_34 (blk [ci x0, ci 40, ci 0, ci 0, ci 0, ci 0, ci 0, ci 0, C.slc none 0 0, C.slc none 0 0, C.slc none 0 0, C.slc A_x2 x2.length c_x2, ci 0, ci ((x2.length : Nat) : Int), C.bool false] 64) :: pt b_49 (blk p_126 28) :: S) := (Own.to hs.own [1, 3, 4] 5 (by kernel_rfl) (by kernel_rfl))
          have hcl : Own κ w C_128 := by rw [hC_128]; exact hcz
          refine qdp (fuel := 9) [0, 4] hs hcl hqC_128 fun a hs => ?_
          refine qdl 1 0 (cp br17x0_22) hs hcl hqC_128 hC_128 rfl fun a hs => ?_
          obtain ⟨h_129, hm⟩ := ite_t hm
          refine Vk.dTakeT (i := 3) (some 55) (.agg (vals p_126)) hs (by kernel_rfl) hqC_128 hcl (by kernel_rfl) (by kernel_rfl) (op := (.load 28 (.tmp 13))) (by kernel_rfl) (by kernel_rfl) (fun w hw o ho => by rw [hC_128] at hw; exact run_loadN (cs := p_126) ho (by kernel_rfl) (by kernel_rfl) h_129 (CellsAt.all 2 rfl) _ hw) fun a hs => ?_
          refine qdl 5 0 (cp br17x0_22) hs hcl hqC_128 hC_128 rfl fun a hs => ?_
          obtain ⟨g_130, hs⟩ := hs.unex 2 rfl
          obtain ⟨v_133, h_132, hm⟩ := bind_t hm
          refine Vk.dOnly (i := 2) (by kernel_rfl) (Vk.call (some 54) 22 #[pp br17x0_22] hs (by kernel_rfl) (by kernel_rfl) (by kernel_rfl) ?_)
          refine (wire_Machine_Values.ok k p_125 v_133 h_132 κ w (pt b_2 (blk [ci 0, ci 0, ci 0] 28) :: pt b_38 (blk [cp br17x0_22, cp b_34, C.slc none 0 0, C.slc none 0 0] 45) :: pt b_34 (blk [ci x0, ci 40, ci 0, ci 0, ci 0, ci 0, ci 0, ci 0, C.slc none 0 0, C.slc none 0 0, C.slc none 0 0, C.slc A_x2 x2.length c_x2, ci 0, ci ((x2.length : Nat) : Int), C.bool false] 64) :: pt b_49 (blk p_126 28) :: S) br17x0_22 g_130 (Own.to hs.own [2, 0, 1, 3, 4] 5 (by kernel_rfl) (by kernel_rfl))).mono ?_
          rintro _ w ⟨Ar131x0_134, cr131x0_135, rfl, how⟩
          refine ⟨_, _, _, rfl, how, fun a hs => ?_⟩
          replace hcl : Own κ w C_128 := by rw [hC_128]; exact (Own.to hs.own [3, 4, 5] 6 (by kernel_rfl) (by kernel_rfl))
          refine ⟨fun _ => hcl, ?_⟩
          obtain ⟨v_138, h_137, hm⟩ := bind_t hm
          refine Vk.dOnly (i := 6) (by kernel_rfl) (Vk.call (some 58) 23 #[pp br17x0_22] hs (by kernel_rfl) (by kernel_rfl) (by kernel_rfl) ?_)
          refine (wire_Machine_Err.ok k p_125 v_138 h_137 κ w (rowp Ar131x0_134 cr131x0_135 32 1 (eI .u64) v_133 :: pt b_2 (blk [ci 0, ci 0, ci 0] 28) :: pt b_38 (blk [cp br17x0_22, cp b_34, C.slc none 0 0, C.slc none 0 0] 45) :: pt b_34 (blk [ci x0, ci 40, ci 0, ci 0, ci 0, ci 0, ci 0, ci 0, C.slc none 0 0, C.slc none 0 0, C.slc none 0 0, C.slc A_x2 x2.length c_x2, ci 0, ci ((x2.length : Nat) : Int), C.bool false] 64) :: pt b_49 (blk p_126 28) :: S) br17x0_22 g_130 (Own.to hs.own [1, 0, 2, 3, 4, 5] 6 (by kernel_rfl) (by kernel_rfl))).mono ?_
          rintro _ w ⟨rfl, how⟩
          refine ⟨_, _, _, rfl, how, fun a hs => ?_⟩
          replace hcl : Own κ w C_128 := by rw [hC_128]; exact (Own.to hs.own [3, 4, 5] 6 (by kernel_rfl) (by kernel_rfl))
          refine ⟨fun _ => hcl, ?_⟩
          refine qdp (fuel := 2) [7, 8] hs hcl hqC_128 fun a hs => ?_
          refine Vk.dOnly (i := 9) (by kernel_rfl) (Vk.storeA (b := b_2) (ty := 28) (x := (.tmp 9)) (y := (.tmp 55)) (sz := 3) p_126 2 hs (by kernel_rfl) (by kernel_rfl) (by kernel_rfl) (by kernel_rfl) (by kernel_rfl) h_129 (by kernel_rfl) rfl (Eq.trans (b := 3) h_129 (Eq.symm rfl)) fun a w hs => ?_)
          replace hcl : Own κ w C_128 := by rw [hC_128]; exact (Own.to hs.own [3, 4, 5] 6 (by kernel_rfl) (by kernel_rfl))
          refine ⟨fun _ => hcl, ?_⟩
          refine qdp (fuel := 0) [10] hs hcl hqC_128 fun a hs => ?_
          replace hs := hs.pick [8, 9, 10] (L' := [(8, .slice Ar131x0_134 v_133.length cr131x0_135), (9, pp b_2), (10, .bool (v_138 == 0))]) (by kernel_rfl)
          refine Vk.dDone (by kernel_rfl) ?_
          refine hK127 _ _ ?_
          clear hK127
          refine wp_ret ?_
          replace hs := hs.toEx (Twire_Machine.parts br17x0_22 p_125) g_130 0 rfl
          exact Vk.retTCT (P := Try.prog) (fn := Try.f13) (R := RR) p_126 (.slice Ar131x0_134 v_133.length cr131x0_135) (.bool (v_138 == 0)) hs rfl (by kernel_rfl) (sz := 3) (by kernel_rfl) h_129 (CellsAt.all 2 rfl) (by kernel_rfl) (by kernel_rfl) (by obtain rfl := Option.some.inj hm; subst hRR; exact ⟨Ar131x0_134, cr131x0_135, rfl, (Own.to hs.own [1] 6 (by kernel_rfl) (by kernel_rfl))⟩)
        refine qsr fun K96 hK96 => ?_
        refine qpe 1 [(9, pp b_2), (11, pp b_38), (13, pp b_49), (43, .bool x3)] hs fun a hs => hK96 _ _ ?_
        clear hK96
        refine qcs (x3) hs (fun hb => ?_) fun hb => ?_
        · replace hm := bif_t hm hb
          refine Vk.region ?_
          refine qpu 1 hs fun a hs => ?_
          refine qld 1 (cp br17x0_22) hs rfl fun a hs => ?_
          obtain ⟨h_97, hm⟩ := ite_t hm
          refine Vk.step (Vk.value (some 46) (.agg (vals p_91)) hs (by kernel_rfl) (op := (.load 28 (.tmp 13))) (by kernel_rfl) (fun o ho => run_loadN (cs := p_91) ho (by kernel_rfl) (by kernel_rfl) h_97 (CellsAt.all 4 rfl) _ hs.own) fun a hs => ?_)
          obtain ⟨v_100, h_99, hm⟩ := bind_t hm
          refine Vk.step (Vk.call (some 47) 47 #[pp br17x0_22, .agg (vals p_91)] hs (by kernel_rfl) (by kernel_rfl) (by kernel_rfl) ?_)
          refine (fresh_Simple.ok k p_90 p_91 v_100 h_99 κ w (pt b_2 (blk [ci 0, ci 0, ci 0] 28) :: pt b_38 (blk [cp br17x0_22, cp b_34, C.slc none 0 0, C.slc none 0 0] 45) :: pt b_34 (blk [ci x0, ci 40, ci 0, ci 0, ci 0, ci 0, ci 0, ci 0, C.slc none 0 0, C.slc none 0 0, C.slc none 0 0, C.slc A_x2 x2.length c_x2, ci 0, ci ((x2.length : Nat) : Int), C.bool false] 64) :: pt b_49 (blk p_91 28) :: S) br17x0_22 (Own.to hs.own [2, 0, 1, 3, 4] 5 (by kernel_rfl) (by kernel_rfl))).mono ?_
          rintro _ w ⟨rfl, how⟩
          refine ⟨_, _, _, rfl, how, fun a hs => ?_⟩
          obtain ⟨h_101, hm⟩ := ite_t hm
          refine Vk.step (Vk.storeA (b := b_49) (ty := 28) (x := (.tmp 13)) (y := (.tmp 47)) (sz := 3) v_100.1 4 hs (by kernel_rfl) (by kernel_rfl) (by kernel_rfl) (by kernel_rfl) (by kernel_rfl) h_101 (by kernel_rfl) rfl (Eq.trans (b := 3) h_101 (Eq.symm h_97)) fun a w hs => ?_)
          refine qpe 0 [(9, pp b_2), (11, pp b_38), (13, pp b_49)] hs fun a hs => ?_
          exact hj95 v_100.2 v_100.1 hm _ _ (hs.go [9, 11, 13] [1, 2, 0, 3, 4] 5 (by kernel_rfl) (by kernel_rfl) (by kernel_rfl))
        · replace hm := bif_f hm hb
          refine Vk.region ?_
          refine qpu 1 hs fun a hs => ?_
          refine qld 1 (cp br17x0_22) hs rfl fun a hs => ?_
          obtain ⟨h_102, hm⟩ := ite_t hm
          refine Vk.step (Vk.value (some 50) (.agg (vals p_91)) hs (by kernel_rfl) (op := (.load 28 (.tmp 13))) (by kernel_rfl) (fun o ho => run_loadN (cs := p_91) ho (by kernel_rfl) (by kernel_rfl) h_102 (CellsAt.all 4 rfl) _ hs.own) fun a hs => ?_)
          obtain ⟨v_105, h_104, hm⟩ := bind_t hm
          refine Vk.step (Vk.call (some 51) 49 #[pp br17x0_22, .agg (vals p_91)] hs (by kernel_rfl) (by kernel_rfl) (by kernel_rfl) ?_)
          refine (fresh_Full.ok k p_90 p_91 v_105 h_104 κ w (pt b_2 (blk [ci 0, ci 0, ci 0] 28) :: pt b_38 (blk [cp br17x0_22, cp b_34, C.slc none 0 0, C.slc none 0 0] 45) :: pt b_34 (blk [ci x0, ci 40, ci 0, ci 0, ci 0, ci 0, ci 0, ci 0, C.slc none 0 0, C.slc none 0 0, C.slc none 0 0, C.slc A_x2 x2.length c_x2, ci 0, ci ((x2.length : Nat) : Int), C.bool false] 64) :: pt b_49 (blk p_91 28) :: S) br17x0_22 (Own.to hs.own [2, 0, 1, 3, 4] 5 (by kernel_rfl) (by kernel_rfl))).mono ?_
          rintro _ w ⟨rfl, how⟩
          refine ⟨_, _, _, rfl, how, fun a hs => ?_⟩
          obtain ⟨h_106, hm⟩ := ite_t hm
          refine Vk.step (Vk.storeA (b := b_49) (ty := 28) (x := (.tmp 13)) (y := (.tmp 51)) (sz := 3) v_105.1 4 hs (by kernel_rfl) (by kernel_rfl) (by kernel_rfl) (by kernel_rfl) (by kernel_rfl) h_106 (by kernel_rfl) rfl (Eq.trans (b := 3) h_106 (Eq.symm h_102)) fun a w hs => ?_)
          refine qpe 0 [(9, pp b_2), (11, pp b_38), (13, pp b_49)] hs fun a hs => ?_
          exact hj95 v_105.2 v_105.1 hm _ _ (hs.go [9, 11, 13] [1, 2, 0, 3, 4] 5 (by kernel_rfl) (by kernel_rfl) (by kernel_rfl))
      refine Vk.loopBy (fun k (s : Twire_Machine × Cells × Int) a w => visorlaw21_run.l1 x0 x1 k s.1 s.2.1 s.2.2 = some r65 ∧ St 60 a w κ [(0, vi x0), (1, .int .u8 x1), (3, .bool x3), (9, pp b_2), (11, pp b_38), (13, pp b_49), (14, vi s.2.2)] (pt b_2 (blk [ci 0, ci 0, ci 0] 28) :: pt b_38 (blk [cp br17x0_22, cp b_34, C.slc none 0 0, C.slc none 0 0] 45) :: Twire_Machine.own br17x0_22 s.1 :: pt b_34 (blk [ci x0, ci 40, ci 0, ci 0, ci 0, ci 0, ci 0, ci 0, C.slc none 0 0, C.slc none 0 0, C.slc none 0 0, C.slc A_x2 x2.length c_x2, ci 0, ci ((x2.length : Nat) : Int), C.bool false] 64) :: pt b_49 (blk s.2.1 28) :: S)) k (v_21.1, v_48, 0) ⟨hl65, hs.go [0, 1, 3, 9, 11, 13, 14] [5, 1, 3, 2, 0] 6 (by kernel_rfl) (by kernel_rfl) (by kernel_rfl)⟩ (fun s a w h => by obtain ⟨h1, _⟩ := h; simp [visorlaw21_run.l1] at h1) (fun k KL65 ih s a w h => ?_)
      obtain ⟨q_66, q_67, q_68⟩ := s
      obtain ⟨hm, hs⟩ := h
      try dsimp only at hm hs
      rw [visorlaw21_run.l1] at hm
      refine Vk.seq fun K69 hK69 => ?_
      refine qsr fun K70 hK70 => ?_
      refine qpe 3 [(0, vi x0), (1, .int .u8 x1), (3, .bool x3), (9, pp b_2), (11, pp b_38), (13, pp b_49), (14, vi q_68), (27, .bool (decide (q_68 < x0)))] hs fun a hs => hK70 _ _ ?_
      clear hK70
      refine qcs (decide (q_68 < x0)) hs (fun hb => ?_) fun hb => ?_
      · replace hm := bif_t hm hb
        refine wp_skip ?_
        refine hK69 _ _ ?_
        clear hK69
        refine Vk.seq fun K71 hK71 => ?_
        refine wp_block ?_
        refine Vk.region ?_
        refine qpu 2 hs fun a hs => ?_
        refine qld 1 (cp br17x0_22) hs rfl fun a hs => ?_
        refine qpu 4 hs fun a hs => ?_
        obtain ⟨h_72, hm⟩ := ite_t hm
        refine Vk.step (Vk.value (some 37) (.int .u8 (shr .u8 x1 (IntKind.u64.wrap q_68))) hs (by kernel_rfl) (op := (.binOp .shr 5 (.tmp 34) (.tmp 36) 24)) (by kernel_rfl) (fun o ho => run_shr (k' := .u64) ho (by kernel_rfl) (by kernel_rfl) h_72 _) fun a hs => ?_)
        refine qpu 2 hs fun a hs => ?_
        obtain ⟨v_75, h_74, hm⟩ := bind_t hm
        refine Vk.step (Vk.call (some 40) 84 #[pp br17x0_22, vi q_68, vw (IntKind.u64.wrap (Int.tmod (shr .u8 x1 (IntKind.u64.wrap q_68)) 2))] hs (by kernel_rfl) (by kernel_rfl) (by kernel_rfl) ?_)
        refine (wire_Machine_Const.ok k q_66 q_68 (IntKind.u64.wrap (Int.tmod (shr .u8 x1 (IntKind.u64.wrap q_68)) 2)) v_75 h_74 κ w (pt b_2 (blk [ci 0, ci 0, ci 0] 28) :: pt b_38 (blk [cp br17x0_22, cp b_34, C.slc none 0 0, C.slc none 0 0] 45) :: pt b_34 (blk [ci x0, ci 40, ci 0, ci 0, ci 0, ci 0, ci 0, ci 0, C.slc none 0 0, C.slc none 0 0, C.slc none 0 0, C.slc A_x2 x2.length c_x2, ci 0, ci ((x2.length : Nat) : Int), C.bool false] 64) :: pt b_49 (blk q_67 28) :: S) br17x0_22 (Own.to hs.own [2, 0, 1, 3, 4] 5 (by kernel_rfl) (by kernel_rfl))).mono ?_
        rintro _ w ⟨rfl, how⟩
        refine ⟨_, _, _, rfl, how, fun a hs => ?_⟩
        refine qpu 1 hs fun a hs => ?_
        obtain ⟨h_76, hm⟩ := ite_t hm
        refine Vk.step (Vk.value (some 42) (.pointer (some ⟨b_49, 0 + q_68.toNat * 1, none⟩)) hs (by kernel_rfl) (op := (.indexAddr 26 (.tmp 41) (.tmp 30))) (by kernel_rfl) (fun o ho => run_idxArr (k := .i64) ho (by kernel_rfl) (by kernel_rfl) (by kernel_rfl) h_76 _) fun a hs => ?_)
        obtain ⟨h_77, hm⟩ := ite_t hm
        refine Vk.step (Vk.store1 (b := b_49) (ty := 3) (x := (.tmp 42)) (y := (.tmp 40)) (off := 0 + q_68.toNat * 1) (ci v_75.1) 4 hs (by kernel_rfl) (by kernel_rfl) (by kernel_rfl) (by kernel_rfl) (by kernel_rfl) (by kernel_rfl) rfl h_77 fun a w hs => ?_)
        refine qpe 0 [(0, vi x0), (1, .int .u8 x1), (3, .bool x3), (9, pp b_2), (11, pp b_38), (13, pp b_49), (14, vi q_68)] hs fun a hs => hK71 _ _ ?_
        clear hK71
        refine Vk.region ?_
        refine qpe 3 [(0, vi x0), (1, .int .u8 x1), (3, .bool x3), (9, pp b_2), (11, pp b_38), (13, pp b_49), (14, vi (IntKind.i64.wrap (q_68 + 1)))] hs fun a hs => ?_
        refine ih (v_75.2, (q_67.set (0 + q_68.toNat * 1) (ci v_75.1)), (IntKind.i64.wrap (q_68 + 1))) _ _ ⟨hm, hs.go [0, 1, 3, 9, 11, 13, 14] [1, 2, 0, 3, 4] 5 (by kernel_rfl) (by kernel_rfl) (by kernel_rfl)⟩
      · replace hm := bif_f hm hb
        refine wp_exit ?_
        exact hx65 q_66 q_67 (Option.some.inj hm).symm _ _ (hs.go [3, 9, 11, 13] [0, 1, 2, 3, 4] 5 (by kernel_rfl) (by kernel_rfl) (by kernel_rfl))


abbrev visorlaw21_bit.R (κ : Ctx) (S : List HP) (x0 : List Int) (x1 : Int) (A_x0 : Option Addr) (c_x0 : Nat) (r : Int) : Ending → World → Prop := fun e w' => e = .returned (vw r) ∧ Own κ w' (S)
def visorlaw21_bit.m (k : Nat) (x0 : List Int) (x1 : Int) : Option Int := (bif (decide (x1 < 0)) || (decide (x1 ≥ ((x0.length : Nat) : Int))) then some 0 else (if 0 ≤ x1 then (x0[x1.toNat]?).bind fun e_10 => some (Int.tmod e_10 2) else none))

set_option maxRecDepth 100000 in
set_option maxHeartbeats 4000000 in
theorem visorlaw21_bit.ok (k : Nat) (x0 : List Int) (x1 : Int) (r : Int) (hm : visorlaw21_bit.m k x0 x1 = some r) (κ : Ctx) (w : World) (S : List HP) (A_x0 : Option Addr) (c_x0 : Nat) (hx_x0 : Sl κ S A_x0 c_x0 1 (eI .u64) x0) (ho : Own κ w (S)) :
    Calls Try.prog 15 #[.slice A_x0 x0.length c_x0, vi x1] w (visorlaw21_bit.R κ S x0 x1 A_x0 c_x0 r) := by
  unfold visorlaw21_bit.m at hm
  generalize hRR : visorlaw21_bit.R κ S x0 x1 A_x0 c_x0 r = RR
  refine qen [(0, .slice A_x0 x0.length c_x0), (1, vi x1)] Try.func15 Try.ntmps15 ho fun a hs => ?_
  refine qsr fun K1 hK1 => ?_
  refine qpe 1 [(0, .slice A_x0 x0.length c_x0), (1, vi x1)] hs fun a hs => hK1 _ _ ?_
  clear hK1
  refine Vk.seq fun K2 hK2 => ?_
  refine qsr fun K3 hK3 => ?_
  refine qpu 3 hs fun a hs => ?_
  suffices hj_4 : ∀ a, St 18 a w κ [(0, .slice A_x0 x0.length c_x0), (1, vi x1), (5, vi x1), (6, .bool (decide (x1 < 0))), (7, .bool (decide (x1 < 0))), (12, .bool ((decide (x1 < 0)) || (decide (x1 ≥ ((x0.length : Nat) : Int)))))] (S) → wpFrom Try.prog _ _ 8 a w by
    rcases Bool.eq_false_or_eq_true (decide (x1 < 0)) with hb | hb
    · replace hs := hs.known (t := 7) hb (by kernel_rfl)
      refine qpu 5 hs fun a hs => ?_
      have hq := hs.pick [0, 1, 5, 6, 7, 12] (L' := [(0, .slice A_x0 x0.length c_x0), (1, vi x1), (5, vi x1), (6, .bool (decide (x1 < 0))), (7, .bool true), (12, .bool true)]) (by kernel_rfl)
      exact hj_4 _ (hq.conv (by first | (rw [hb] <;> rfl) | rfl))
    · replace hs := hs.known (t := 7) hb (by kernel_rfl)
      refine qpu 5 hs fun a hs => ?_
      have hq := hs.pick [0, 1, 5, 6, 7, 12] (L' := [(0, .slice A_x0 x0.length c_x0), (1, vi x1), (5, vi x1), (6, .bool (decide (x1 < 0))), (7, .bool false), (12, .bool (decide (x1 ≥ ((x0.length : Nat) : Int))))]) (by kernel_rfl)
      exact hj_4 _ (hq.conv (by first | (rw [hb] <;> rfl) | rfl))
  intro a hs
  refine qpe 0 [(0, .slice A_x0 x0.length c_x0), (1, vi x1), (12, .bool ((decide (x1 < 0)) || (decide (x1 ≥ ((x0.length : Nat) : Int)))))] hs fun a hs => hK3 _ _ ?_
  clear hK3
  refine qcs ((decide (x1 < 0)) || (decide (x1 ≥ ((x0.length : Nat) : Int)))) hs (fun hb => ?_) fun hb => ?_
  · replace hm := bif_t hm hb
    refine qsr fun K5 hK5 => ?_
    refine qpe 1 [(4, vw 0)] hs fun a hs => hK5 _ _ ?_
    clear hK5
    refine wp_ret ?_
    exact Vk.ret1 (P := Try.prog) (fn := Try.f15) (R := RR) (vw 0) hs rfl (by kernel_rfl) (by obtain rfl := Option.some.inj hm; subst hRR; exact ⟨rfl, (Own.to hs.own [] 0 (by kernel_rfl) (by kernel_rfl))⟩)
  · replace hm := bif_f hm hb
    refine wp_skip ?_
    refine hK2 _ _ ?_
    clear hK2
    refine qsr fun K6 hK6 => ?_
    refine qpu 2 hs fun a hs => ?_
    obtain ⟨h_7, hm⟩ := ite_t hm
    obtain ⟨e_10, h_8, hm⟩ := bind_t hm
    obtain ⟨b_11, o_12, hA_13, h_9⟩ := Sl.elem hx_x0 h_8
    refine Vk.step (Vk.value (some 15) (.pointer (some ⟨b_11, o_12 + x1.toNat * 1, none⟩)) hs (by kernel_rfl) (op := (.indexAddr 25 (.tmp 13) (.tmp 14))) (by kernel_rfl) (fun o ho => run_idxSlc (k := .i64) ho (cap := c_x0) (len := x0.length) ((congrArg (fun A => Value.slice A (x0.length) (c_x0)) hA_13) ▸ (by kernel_rfl)) (by kernel_rfl) (by kernel_rfl) (idx_ok h_7 h_8) _) fun a hs => ?_)
    refine Vk.step (Vk.value (some 16) (vw e_10) hs (by kernel_rfl) (op := (.load 32 (.tmp 15))) (by kernel_rfl) (fun o ho => run_load1 (c := cw e_10) ho (by kernel_rfl) (by kernel_rfl) (fun w ho => h_9 w ho 0 _ rfl) _ hs.own) fun a hs => ?_)
    refine qpe 2 [(4, vw (Int.tmod e_10 2))] hs fun a hs => hK6 _ _ ?_
    clear hK6
    refine wp_ret ?_
    exact Vk.ret1 (P := Try.prog) (fn := Try.f15) (R := RR) (vw (Int.tmod e_10 2)) hs rfl (by kernel_rfl) (by obtain rfl := Option.some.inj hm; subst hRR; exact ⟨rfl, (Own.to hs.own [] 0 (by kernel_rfl) (by kernel_rfl))⟩)


def visorlaw21_awake.j1 (k : Nat) (p_94 : Bool) : Option (Bool) := some p_94
abbrev visorlaw21_awake.R (κ : Ctx) (S : List HP) (r : Bool) : Ending → World → Prop := fun e w' => e = .returned (.bool r) ∧ Own κ w' (S)
def visorlaw21_awake.m (k : Nat) : Option Bool := ((visorlaw20_Begins.m k 2 ([5] : List Int) 9).bind fun v => match v with | (.inl v_8) => some false | (.inr v_15) => (bif !v_15.2.2.2.2 then some false else (visorref20_None.m k).bind fun v_32 => (if v_32.length = 3 then (wire_Machine_Const.m k v_15.1 0 1).bind fun v_38 => (if 0 < v_32.length then (wire_Machine_Const.m k v_38.2 1 2).bind fun v_43 => (if 1 < (v_32.set (0) (ci v_38.1)).length then (fresh_Full.m k v_43.2 ((v_32.set (0) (ci v_38.1)).set (1) (ci v_43.1))).bind fun v_48 => (if v_48.1.length = 3 then (wire_Machine_Values.m k v_48.2).bind fun v_54 => (bif ((v_54.length : Nat) : Int) == 5 then (if 0 ≤ (3 : Int) then (v_54[3]?).bind fun e_68 => (bif e_68 == 4 then (if 0 ≤ (4 : Int) then (v_54[4]?).bind fun e_82 => (bif e_82 == 7 then (getI .i64 v_48.1 (0)).bind fun v_89 => (bif v_89 == 3 then (getI .i64 v_48.1 (1)).bind fun v_93 => visorlaw21_awake.j1 k (v_93 == 4) else visorlaw21_awake.j1 k false) else visorlaw21_awake.j1 k false) else none) else visorlaw21_awake.j1 k false) else none) else visorlaw21_awake.j1 k false) else none) else none) else none) else none)))

set_option maxRecDepth 100000 in
set_option maxHeartbeats 4000000 in
theorem visorlaw21_awake.ok (k : Nat) (r : Bool) (hm : visorlaw21_awake.m k = some r) (κ : Ctx) (w : World) (S : List HP) (ho : Own κ w (S)) :
    Calls Try.prog 16 #[] w (visorlaw21_awake.R κ S r) := by
  unfold visorlaw21_awake.m at hm
  generalize hRR : visorlaw21_awake.R κ S r = RR
  refine qen [] Try.func16 Try.ntmps16 ho fun a hs => ?_
  refine qsr fun K1 hK1 => ?_
  refine qpe 1 [] hs fun a hs => hK1 _ _ ?_
  clear hK1
  refine qsr fun K2 hK2 => ?_
  refine Vk.step (Vk.buildOp (sz := 1) (by_ := 8) (t := 25) (e := 32) (parts := #[(0, (.const (vw 5)))]) (zs := vals [cw 0]) ([5] : List Int) (eI .u64) (some 6) hs (by kernel_rfl) (by kernel_rfl) (by kernel_rfl) (by kernel_rfl) (by decide) rfl (fun x _ => rfl) (Nat.le_of_ble_eq_true (by kernel_rfl)) (by kernel_rfl) fun A_3 w a hs => ?_)
  replace hs := hs.toRd 0 rfl
  obtain ⟨v_7, h_6, hm⟩ := bind_t hm
  refine Vk.step (Vk.call (some 7) 18 #[vi 2, .slice A_3 (([5] : List Int).length) 1, vi 9] hs (by kernel_rfl) (by kernel_rfl) (by kernel_rfl) ?_)
  refine (visorlaw20_Begins.ok k 2 ([5] : List Int) 9 v_7 h_6 κ w (S) A_3 1 (Own.to hs.own [0] 1 (by kernel_rfl) (by kernel_rfl))).mono ?_
  rintro _ w (⟨v_8, rfl, br5x0x_9, Ar5x0l_10, cr5x0l_11, Ar5x0v_12, cr5x0v_13, rfl, how⟩ | ⟨v_15, rfl, br5x0m_16, br5x0x_17, Ar5x0l_18, cr5x0l_19, Ar5x0v_20, cr5x0v_21, rfl, how⟩)
  · dsimp only at hm
    refine ⟨_, _, _, rfl, how, fun a hs => ?_⟩
    refine qpu 3 hs fun a hs => ?_
    refine Vk.step (Vk.alloc 1 45 [C.ptr none, C.ptr none, C.slc none 0 0, C.slc none 0 0] hs (by kernel_rfl) (by kernel_rfl) (by kernel_rfl) fun b_14 w a hs => ?_)
    refine Vk.step (Vk.storeA (b := b_14) (ty := 45) (x := (.tmp 1)) (y := (.tmp 8)) (sz := 4) [C.ptr none, cp br5x0x_9, C.slc Ar5x0l_10 v_8.2.1.length cr5x0l_11, C.slc Ar5x0v_12 v_8.2.2.length cr5x0v_13] 0 hs (by kernel_rfl) (by kernel_rfl) (by kernel_rfl) (by kernel_rfl) (by kernel_rfl) rfl (by kernel_rfl) rfl (Eq.trans (b := 4) rfl (Eq.symm rfl)) fun a w hs => ?_)
    refine qpe 1 [(1, pp b_14), (2, .bool false)] hs fun a hs => hK2 _ _ ?_
    refine Vk.seq fun K23 hK23 => ?_
    refine qsr fun K24 hK24 => ?_
    refine qpe 2 [(1, pp b_14), (11, .bool true)] hs fun a hs => hK24 _ _ ?_
    clear hK24
    refine qct hs ?_
    refine qsr fun K25 hK25 => ?_
    refine qpe 1 [(0, .bool false)] hs fun a hs => hK25 _ _ ?_
    clear hK25
    refine wp_ret ?_
    exact Vk.ret1 (P := Try.prog) (fn := Try.f16) (R := RR) (.bool false) hs rfl (by kernel_rfl) (by obtain rfl := Option.some.inj hm; subst hRR; exact ⟨rfl, (Own.to hs.own [] 4 (by kernel_rfl) (by kernel_rfl))⟩)
  · dsimp only at hm
    refine ⟨_, _, _, rfl, how, fun a hs => ?_⟩
    refine qpu 3 hs fun a hs => ?_
    refine Vk.step (Vk.alloc 1 45 [C.ptr none, C.ptr none, C.slc none 0 0, C.slc none 0 0] hs (by kernel_rfl) (by kernel_rfl) (by kernel_rfl) fun b_22 w a hs => ?_)
    refine Vk.step (Vk.storeA (b := b_22) (ty := 45) (x := (.tmp 1)) (y := (.tmp 8)) (sz := 4) [cp br5x0m_16, cp br5x0x_17, C.slc Ar5x0l_18 v_15.2.2.1.length cr5x0l_19, C.slc Ar5x0v_20 v_15.2.2.2.1.length cr5x0v_21] 0 hs (by kernel_rfl) (by kernel_rfl) (by kernel_rfl) (by kernel_rfl) (by kernel_rfl) rfl (by kernel_rfl) rfl (Eq.trans (b := 4) rfl (Eq.symm rfl)) fun a w hs => ?_)
    refine qpe 1 [(1, pp b_22), (2, .bool v_15.2.2.2.2)] hs fun a hs => hK2 _ _ ?_
    refine Vk.seq fun K26 hK26 => ?_
    refine qsr fun K27 hK27 => ?_
    refine qpe 2 [(1, pp b_22), (11, .bool (!v_15.2.2.2.2))] hs fun a hs => hK27 _ _ ?_
    clear hK27
    refine qcs (!v_15.2.2.2.2) hs (fun hb => ?_) fun hb => ?_
    · replace hm := bif_t hm hb
      refine qsr fun K28 hK28 => ?_
      refine qpe 1 [(0, .bool false)] hs fun a hs => hK28 _ _ ?_
      clear hK28
      refine wp_ret ?_
      exact Vk.ret1 (P := Try.prog) (fn := Try.f16) (R := RR) (.bool false) hs rfl (by kernel_rfl) (by obtain rfl := Option.some.inj hm; subst hRR; exact ⟨rfl, (Own.to hs.own [] 5 (by kernel_rfl) (by kernel_rfl))⟩)
    · replace hm := bif_f hm hb
      refine wp_skip ?_
      refine hK26 _ _ ?_
      clear hK26
      refine qsr fun K29 hK29 => ?_
      obtain ⟨v_32, h_31, hm⟩ := bind_t hm
      refine Vk.step (Vk.call (some 12) 83 #[] hs (by kernel_rfl) (by kernel_rfl) (by kernel_rfl) ?_)
      refine (visorref20_None.ok k v_32 h_31 κ w (pt b_22 (blk [cp br5x0m_16, cp br5x0x_17, C.slc Ar5x0l_18 v_15.2.2.1.length cr5x0l_19, C.slc Ar5x0v_20 v_15.2.2.2.1.length cr5x0v_21] 45) :: Twire_Machine.own br5x0m_16 v_15.1 :: Tvisorref19_M.own κ br5x0x_17 v_15.2.1 :: rowp Ar5x0l_18 cr5x0l_19 28 3 eC v_15.2.2.1 :: rowp Ar5x0v_20 cr5x0v_21 32 1 (eI .u64) v_15.2.2.2.1 :: S) hs.own).mono ?_
      rintro _ w ⟨rfl, how⟩
      refine ⟨_, _, _, rfl, how, fun a hs => ?_⟩
      refine Vk.step (Vk.alloc 3 28 [ci 0, ci 0, ci 0] hs (by kernel_rfl) (by kernel_rfl) (by kernel_rfl) fun b_33 w a hs => ?_)
      obtain ⟨h_34, hm⟩ := ite_t hm
      refine Vk.step (Vk.storeA (b := b_33) (ty := 28) (x := (.tmp 3)) (y := (.tmp 12)) (sz := 3) v_32 0 hs (by kernel_rfl) (by kernel_rfl) (by kernel_rfl) (by kernel_rfl) (by kernel_rfl) h_34 (by kernel_rfl) rfl (Eq.trans (b := 3) h_34 (Eq.symm rfl)) fun a w hs => ?_)
      refine qpe 0 [(1, pp b_22), (3, pp b_33)] hs fun a hs => hK29 _ _ ?_
      clear hK29
      refine qsr fun K35 hK35 => ?_
      refine qpu 1 hs fun a hs => ?_
      refine qld 1 (cp br5x0m_16) hs rfl fun a hs => ?_
      obtain ⟨v_38, h_37, hm⟩ := bind_t hm
      refine Vk.step (Vk.call (some 15) 84 #[pp br5x0m_16, vi 0, vw 1] hs (by kernel_rfl) (by kernel_rfl) (by kernel_rfl) ?_)
      refine (wire_Machine_Const.ok k v_15.1 0 1 v_38 h_37 κ w (pt b_33 (blk v_32 28) :: pt b_22 (blk [cp br5x0m_16, cp br5x0x_17, C.slc Ar5x0l_18 v_15.2.2.1.length cr5x0l_19, C.slc Ar5x0v_20 v_15.2.2.2.1.length cr5x0v_21] 45) :: Tvisorref19_M.own κ br5x0x_17 v_15.2.1 :: rowp Ar5x0l_18 cr5x0l_19 28 3 eC v_15.2.2.1 :: rowp Ar5x0v_20 cr5x0v_21 32 1 (eI .u64) v_15.2.2.2.1 :: S) br5x0m_16 (Own.to hs.own [2, 0, 1, 3, 4, 5] 6 (by kernel_rfl) (by kernel_rfl))).mono ?_
      rintro _ w ⟨rfl, how⟩
      refine ⟨_, _, _, rfl, how, fun a hs => ?_⟩
      refine qpu 2 hs fun a hs => ?_
      obtain ⟨h_39, hm⟩ := ite_t hm
      refine Vk.step (Vk.store1 (b := b_33) (ty := 3) (x := (.tmp 17)) (y := (.tmp 15)) (off := 0) (ci v_38.1) 1 hs (by kernel_rfl) (by kernel_rfl) (by kernel_rfl) (by kernel_rfl) (by kernel_rfl) (by kernel_rfl) rfl h_39 fun a w hs => ?_)
      refine qpe 0 [(1, pp b_22), (3, pp b_33)] hs fun a hs => hK35 _ _ ?_
      clear hK35
      refine qsr fun K40 hK40 => ?_
      refine qpu 1 hs fun a hs => ?_
      refine qld 2 (cp br5x0m_16) hs rfl fun a hs => ?_
      obtain ⟨v_43, h_42, hm⟩ := bind_t hm
      refine Vk.step (Vk.call (some 20) 84 #[pp br5x0m_16, vi 1, vw 2] hs (by kernel_rfl) (by kernel_rfl) (by kernel_rfl) ?_)
      refine (wire_Machine_Const.ok k v_38.2 1 2 v_43 h_42 κ w (pt b_33 (blk (v_32.set (0) (ci v_38.1)) 28) :: pt b_22 (blk [cp br5x0m_16, cp br5x0x_17, C.slc Ar5x0l_18 v_15.2.2.1.length cr5x0l_19, C.slc Ar5x0v_20 v_15.2.2.2.1.length cr5x0v_21] 45) :: Tvisorref19_M.own κ br5x0x_17 v_15.2.1 :: rowp Ar5x0l_18 cr5x0l_19 28 3 eC v_15.2.2.1 :: rowp Ar5x0v_20 cr5x0v_21 32 1 (eI .u64) v_15.2.2.2.1 :: S) br5x0m_16 (Own.to hs.own [0, 1, 2, 3, 4, 5] 6 (by kernel_rfl) (by kernel_rfl))).mono ?_
      rintro _ w ⟨rfl, how⟩
      refine ⟨_, _, _, rfl, how, fun a hs => ?_⟩
      refine qpu 2 hs fun a hs => ?_
      obtain ⟨h_44, hm⟩ := ite_t hm
      refine Vk.step (Vk.store1 (b := b_33) (ty := 3) (x := (.tmp 22)) (y := (.tmp 20)) (off := 1) (ci v_43.1) 1 hs (by kernel_rfl) (by kernel_rfl) (by kernel_rfl) (by kernel_rfl) (by kernel_rfl) (by kernel_rfl) rfl h_44 fun a w hs => ?_)
      refine qpe 0 [(1, pp b_22), (3, pp b_33)] hs fun a hs => hK40 _ _ ?_
      clear hK40
      refine qsr fun K45 hK45 => ?_
      refine qpu 1 hs fun a hs => ?_
      refine qld 2 (cp br5x0m_16) hs rfl fun a hs => ?_
      refine Vk.step (Vk.value (some 25) (.agg (vals ((v_32.set (0) (ci v_38.1)).set (1) (ci v_43.1)))) hs (by kernel_rfl) (op := (.load 28 (.tmp 3))) (by kernel_rfl) (fun o ho => run_loadN (cs := ((v_32.set (0) (ci v_38.1)).set (1) (ci v_43.1))) ho (by kernel_rfl) (by kernel_rfl) (List.length_set.trans (List.length_set.trans h_34)) (CellsAt.all 1 rfl) _ hs.own) fun a hs => ?_)
      obtain ⟨v_48, h_47, hm⟩ := bind_t hm
      refine Vk.step (Vk.call (some 26) 49 #[pp br5x0m_16, .agg (vals ((v_32.set (0) (ci v_38.1)).set (1) (ci v_43.1)))] hs (by kernel_rfl) (by kernel_rfl) (by kernel_rfl) ?_)
      refine (fresh_Full.ok k v_43.2 ((v_32.set (0) (ci v_38.1)).set (1) (ci v_43.1)) v_48 h_47 κ w (pt b_33 (blk ((v_32.set (0) (ci v_38.1)).set (1) (ci v_43.1)) 28) :: pt b_22 (blk [cp br5x0m_16, cp br5x0x_17, C.slc Ar5x0l_18 v_15.2.2.1.length cr5x0l_19, C.slc Ar5x0v_20 v_15.2.2.2.1.length cr5x0v_21] 45) :: Tvisorref19_M.own κ br5x0x_17 v_15.2.1 :: rowp Ar5x0l_18 cr5x0l_19 28 3 eC v_15.2.2.1 :: rowp Ar5x0v_20 cr5x0v_21 32 1 (eI .u64) v_15.2.2.2.1 :: S) br5x0m_16 (Own.to hs.own [0, 1, 2, 3, 4, 5] 6 (by kernel_rfl) (by kernel_rfl))).mono ?_
      rintro _ w ⟨rfl, how⟩
      refine ⟨_, _, _, rfl, how, fun a hs => ?_⟩
      obtain ⟨h_49, hm⟩ := ite_t hm
      refine Vk.step (Vk.storeA (b := b_33) (ty := 28) (x := (.tmp 3)) (y := (.tmp 26)) (sz := 3) v_48.1 1 hs (by kernel_rfl) (by kernel_rfl) (by kernel_rfl) (by kernel_rfl) (by kernel_rfl) h_49 (by kernel_rfl) rfl (Eq.trans (b := 3) h_49 (Eq.symm (List.length_set.trans (List.length_set.trans h_34)))) fun a w hs => ?_)
      refine qpe 0 [(1, pp b_22), (3, pp b_33)] hs fun a hs => hK45 _ _ ?_
      clear hK45
      refine qsr fun K50 hK50 => ?_
      refine qpu 1 hs fun a hs => ?_
      refine qld 2 (cp br5x0m_16) hs rfl fun a hs => ?_
      obtain ⟨g_51, hs⟩ := hs.unex 0 rfl
      obtain ⟨v_54, h_53, hm⟩ := bind_t hm
      refine Vk.step (Vk.call (some 29) 22 #[pp br5x0m_16] hs (by kernel_rfl) (by kernel_rfl) (by kernel_rfl) ?_)
      refine (wire_Machine_Values.ok k v_48.2 v_54 h_53 κ w (pt b_33 (blk v_48.1 28) :: pt b_22 (blk [cp br5x0m_16, cp br5x0x_17, C.slc Ar5x0l_18 v_15.2.2.1.length cr5x0l_19, C.slc Ar5x0v_20 v_15.2.2.2.1.length cr5x0v_21] 45) :: Tvisorref19_M.own κ br5x0x_17 v_15.2.1 :: rowp Ar5x0l_18 cr5x0l_19 28 3 eC v_15.2.2.1 :: rowp Ar5x0v_20 cr5x0v_21 32 1 (eI .u64) v_15.2.2.2.1 :: S) br5x0m_16 g_51 (Own.to hs.own [0, 1, 2, 3, 4, 5] 6 (by kernel_rfl) (by kernel_rfl))).mono ?_
      rintro _ w ⟨Ar52x0_55, cr52x0_56, rfl, how⟩
      refine ⟨_, _, _, rfl, how, fun a hs => ?_⟩
      refine qpe 1 [(3, pp b_33), (4, .slice Ar52x0_55 v_54.length cr52x0_56)] hs fun a hs => hK50 _ _ ?_
      clear hK50
      refine Vk.seq fun K57 hK57 => ?_
      have hj57 : ∀ (p_94 : Bool), visorlaw21_awake.j1 k p_94 = some r → ∀ (a : Act) (w : World), St 57 a w κ [(0, .bool p_94)] (S) → K57 a w := by
        intro p_94 hm a w hs
        unfold visorlaw21_awake.j1 at hm
        refine hK57 _ _ ?_
        refine wp_ret ?_
        exact Vk.ret1 (P := Try.prog) (fn := Try.f16) (R := RR) (.bool p_94) hs rfl (by kernel_rfl) (by obtain rfl := Option.some.inj hm; subst hRR; exact ⟨rfl, (Own.to hs.own [] 0 (by kernel_rfl) (by kernel_rfl))⟩)
      refine Vk.region ?_
      refine qpu 4 hs fun a hs => ?_
      rcases Bool.eq_false_or_eq_true (((v_54.length : Nat) : Int) == 5) with hb | hb
      · replace hm := bif_t hm hb
        replace hs := hs.known (t := 33) hb (by kernel_rfl)
        refine qpu 1 hs fun a hs => ?_
        obtain ⟨h_65, hm⟩ := ite_t hm
        obtain ⟨e_68, h_66, hm⟩ := bind_t hm
        obtain ⟨b_69, o_70, hA_71, h_67⟩ := Sl.elem (Own.rowSl 0 (Own.to (S' := rowp Ar52x0_55 cr52x0_56 32 1 (eI .u64) v_54 :: S) hs.own [0] 7 (by kernel_rfl) (by kernel_rfl)) rfl) h_66
        refine Vk.step (Vk.value (some 35) (.pointer (some ⟨b_69, o_70 + 3 * 1, none⟩)) hs (by kernel_rfl) (op := (.indexAddr 25 (.tmp 34) (.const (vi 3)))) (by kernel_rfl) (fun o ho => run_idxSlc (k := .i64) ho (cap := cr52x0_56) (len := v_54.length) ((congrArg (fun A => Value.slice A (v_54.length) (cr52x0_56)) hA_71) ▸ (by kernel_rfl)) (by kernel_rfl) (by kernel_rfl) (idx_ok h_65 h_66) _) fun a hs => ?_)
        refine Vk.step (Vk.value (some 36) (vw e_68) hs (by kernel_rfl) (op := (.load 32 (.tmp 35))) (by kernel_rfl) (fun o ho => run_load1 (c := cw e_68) ho (by kernel_rfl) (by kernel_rfl) (fun w ho => h_67 w ho 0 _ rfl) _ (Own.to (S' := rowp Ar52x0_55 cr52x0_56 32 1 (eI .u64) v_54 :: S) hs.own [0] 7 (by kernel_rfl) (by kernel_rfl))) fun a hs => ?_)
        refine qpu 3 hs fun a hs => ?_
        rcases Bool.eq_false_or_eq_true (e_68 == 4) with hb | hb
        · replace hm := bif_t hm hb
          replace hs := hs.known (t := 39) hb (by kernel_rfl)
          refine qpu 1 hs fun a hs => ?_
          obtain ⟨h_79, hm⟩ := ite_t hm
          obtain ⟨e_82, h_80, hm⟩ := bind_t hm
          obtain ⟨b_83, o_84, hA_85, h_81⟩ := Sl.elem (Own.rowSl 0 (Own.to (S' := rowp Ar52x0_55 cr52x0_56 32 1 (eI .u64) v_54 :: S) hs.own [0] 7 (by kernel_rfl) (by kernel_rfl)) rfl) h_80
          refine Vk.step (Vk.value (some 41) (.pointer (some ⟨b_83, o_84 + 4 * 1, none⟩)) hs (by kernel_rfl) (op := (.indexAddr 25 (.tmp 40) (.const (vi 4)))) (by kernel_rfl) (fun o ho => run_idxSlc (k := .i64) ho (cap := cr52x0_56) (len := v_54.length) ((congrArg (fun A => Value.slice A (v_54.length) (cr52x0_56)) hA_85) ▸ (by kernel_rfl)) (by kernel_rfl) (by kernel_rfl) (idx_ok h_79 h_80) _) fun a hs => ?_)
          refine Vk.step (Vk.value (some 42) (vw e_82) hs (by kernel_rfl) (op := (.load 32 (.tmp 41))) (by kernel_rfl) (fun o ho => run_load1 (c := cw e_82) ho (by kernel_rfl) (by kernel_rfl) (fun w ho => h_81 w ho 0 _ rfl) _ (Own.to (S' := rowp Ar52x0_55 cr52x0_56 32 1 (eI .u64) v_54 :: S) hs.own [0] 7 (by kernel_rfl) (by kernel_rfl))) fun a hs => ?_)
          refine qpu 3 hs fun a hs => ?_
          rcases Bool.eq_false_or_eq_true (e_82 == 7) with hb | hb
          · replace hm := bif_t hm hb
            replace hs := hs.known (t := 45) hb (by kernel_rfl)
            refine qpu 2 hs fun a hs => ?_
            obtain ⟨v_89, h_88, hm⟩ := bind_t hm
            refine Vk.step (Vk.value (some 48) (vi v_89) hs (by kernel_rfl) (op := (.load 3 (.tmp 47))) (by kernel_rfl) (fun o ho => run_load1 (c := ci v_89) ho (by kernel_rfl) (by kernel_rfl) (Cell.own 2 rfl (getI_some h_88)) _ hs.own) fun a hs => ?_)
            refine qpu 3 hs fun a hs => ?_
            rcases Bool.eq_false_or_eq_true (v_89 == 3) with hb | hb
            · replace hm := bif_t hm hb
              replace hs := hs.known (t := 51) hb (by kernel_rfl)
              refine qpu 2 hs fun a hs => ?_
              obtain ⟨v_93, h_92, hm⟩ := bind_t hm
              refine Vk.step (Vk.value (some 54) (vi v_93) hs (by kernel_rfl) (op := (.load 3 (.tmp 53))) (by kernel_rfl) (fun o ho => run_load1 (c := ci v_93) ho (by kernel_rfl) (by kernel_rfl) (Cell.own 2 rfl (getI_some h_92)) _ hs.own) fun a hs => ?_)
              refine qpe 3 [(0, .bool (v_93 == 4))] hs fun a hs => ?_
              replace hs := hs.toEx (Twire_Machine.parts br5x0m_16 v_48.2) g_51 1 rfl
              exact hj57 (v_93 == 4) hm _ _ (hs.go [0] [] 7 (by kernel_rfl) (by kernel_rfl) (by kernel_rfl))
            · replace hm := bif_f hm hb
              replace hs := hs.known (t := 51) hb (by kernel_rfl)
              refine qpe 6 [(0, .bool false)] hs fun a hs => ?_
              replace hs := hs.toEx (Twire_Machine.parts br5x0m_16 v_48.2) g_51 1 rfl
              exact hj57 false hm _ _ (hs.go [0] [] 7 (by kernel_rfl) (by kernel_rfl) (by kernel_rfl))
          · replace hm := bif_f hm hb
            replace hs := hs.known (t := 45) hb (by kernel_rfl)
            refine qpe 12 [(0, .bool false)] hs fun a hs => ?_
            replace hs := hs.toEx (Twire_Machine.parts br5x0m_16 v_48.2) g_51 1 rfl
            exact hj57 false hm _ _ (hs.go [0] [] 7 (by kernel_rfl) (by kernel_rfl) (by kernel_rfl))
        · replace hm := bif_f hm hb
          replace hs := hs.known (t := 39) hb (by kernel_rfl)
          refine qpe 18 [(0, .bool false)] hs fun a hs => ?_
          replace hs := hs.toEx (Twire_Machine.parts br5x0m_16 v_48.2) g_51 1 rfl
          exact hj57 false hm _ _ (hs.go [0] [] 7 (by kernel_rfl) (by kernel_rfl) (by kernel_rfl))
      · replace hm := bif_f hm hb
        replace hs := hs.known (t := 33) hb (by kernel_rfl)
        refine qpe 24 [(0, .bool false)] hs fun a hs => ?_
        replace hs := hs.toEx (Twire_Machine.parts br5x0m_16 v_48.2) g_51 1 rfl
        exact hj57 false hm _ _ (hs.go [0] [] 7 (by kernel_rfl) (by kernel_rfl) (by kernel_rfl))


def visorlaw21_FreshEven.l4 (p_5 : Int) (p_94 : Cells) : Nat → Int → Option (Sum (Bool) (Unit))
  | 0, _ => none
  | k + 1, q_117 => (bif decide (q_117 < p_5) then (if 0 ≤ IntKind.i64.wrap (2 * q_117) ∧ IntKind.i64.wrap (2 * q_117) < 6 then (getI .i64 p_94 (0 + (IntKind.i64.wrap (2 * q_117)).toNat * 1)).bind fun v_125 => (if 0 ≤ IntKind.i64.wrap ((IntKind.i64.wrap (2 * q_117)) + 1) ∧ IntKind.i64.wrap ((IntKind.i64.wrap (2 * q_117)) + 1) < 6 then (getI .i64 p_94 (0 + (IntKind.i64.wrap ((IntKind.i64.wrap (2 * q_117)) + 1)).toNat * 1)).bind fun v_128 => (bif v_125 != v_128 then some (.inl false) else visorlaw21_FreshEven.l4 p_5 p_94 k (IntKind.i64.wrap (q_117 + 1))) else none) else none) else some (.inr ()))
def visorlaw21_FreshEven.l3 (p_5 : Int) (p_6 : Int) (p_93 : Cells) : Nat → Int → Option (Sum (Bool) (Unit))
  | 0, _ => none
  | k + 1, q_103 => (bif decide (q_103 < (shl .i64 1 (IntKind.u64.wrap (IntKind.i64.wrap (p_5 - 1))))) then (if 0 ≤ q_103 ∧ q_103 < 8 then (getI .i64 p_93 (0 + q_103.toNat * 1)).bind fun v_110 => (if 0 ≤ IntKind.u64.wrap p_6 then (bif (IntKind.i64.wrap (v_110 * (shl .i64 1 (IntKind.u64.wrap (IntKind.i64.wrap (p_5 - 1)))))) != (shl .i64 1 (IntKind.u64.wrap p_6)) then some (.inl false) else visorlaw21_FreshEven.l3 p_5 p_6 p_93 k (IntKind.i64.wrap (q_103 + 1))) else none) else none) else some (.inr ()))
def visorlaw21_FreshEven.j2 (k : Nat) (rec55 : Cells → Int → Int → Option (Cells × Int)) (v_43 : List Int × Cells × Bool) (q_56 : Cells) (q_58 : Int) (p_71 : Int) : Option (Cells × Int) := (if 0 ≤ q_58 ∧ q_58 < 3 then (getI .i64 v_43.2.1 (0 + q_58.toNat * 1)).bind fun v_74 => (visorlaw21_bit.m k v_43.1 v_74).bind fun v_77 => (if 0 ≤ IntKind.i64.wrap ((IntKind.i64.wrap (2 * q_58)) + (IntKind.i64.wrap v_77)) ∧ IntKind.i64.wrap ((IntKind.i64.wrap (2 * q_58)) + (IntKind.i64.wrap v_77)) < 6 then (getI .i64 q_56 (0 + (IntKind.i64.wrap ((IntKind.i64.wrap (2 * q_58)) + (IntKind.i64.wrap v_77))).toNat * 1)).bind fun v_80 => (if 0 ≤ IntKind.i64.wrap ((IntKind.i64.wrap (2 * q_58)) + (IntKind.i64.wrap v_77)) ∧ IntKind.i64.wrap ((IntKind.i64.wrap (2 * q_58)) + (IntKind.i64.wrap v_77)) < 6 then (if 0 + (IntKind.i64.wrap ((IntKind.i64.wrap (2 * q_58)) + (IntKind.i64.wrap v_77))).toNat * 1 < q_56.length then rec55 (q_56.set (0 + (IntKind.i64.wrap ((IntKind.i64.wrap (2 * q_58)) + (IntKind.i64.wrap v_77))).toNat * 1) (ci (IntKind.i64.wrap (v_80 + 1)))) p_71 (IntKind.i64.wrap (q_58 + 1)) else none) else none) else none) else none)
def visorlaw21_FreshEven.l2 (x2 : Int) (p_5 : Int) (v_30 : List Int × Cells × Bool) (v_43 : List Int × Cells × Bool) : Nat → Cells → Int → Int → Option (Cells × Int)
  | 0, _, _, _ => none
  | k + 1, q_56, q_57, q_58 => (bif decide (q_58 < p_5) then (if p_5 ≠ 0 then (bif q_58 != (Int.tmod (IntKind.i64.wrap x2) p_5) then (if 0 ≤ q_58 ∧ q_58 < 3 then (getI .i64 v_30.2.1 (0 + q_58.toNat * 1)).bind fun v_67 => (visorlaw21_bit.m k v_30.1 v_67).bind fun v_70 => visorlaw21_FreshEven.j2 k (visorlaw21_FreshEven.l2 x2 p_5 v_30 v_43 k) v_43 q_56 q_58 (IntKind.i64.wrap ((IntKind.i64.wrap (q_57 * 2)) + (IntKind.i64.wrap v_70))) else none) else visorlaw21_FreshEven.j2 k (visorlaw21_FreshEven.l2 x2 p_5 v_30 v_43 k) v_43 q_56 q_58 q_57) else none) else some (q_56, q_57))
def visorlaw21_FreshEven.l1 (x1 : Int) (x2 : Int) (p_5 : Int) (p_6 : Int) : Nat → Cells → Cells → Int → Option (Sum (Bool) (Cells × Cells))
  | 0, _, _, _ => none
  | k + 1, q_14, q_15, q_16 => (bif decide (q_16 < 8) then (if 0 ≤ IntKind.u64.wrap p_6 then (bif decide (q_16 < (shl .i64 1 (IntKind.u64.wrap p_6))) then (visorlaw21_bitsOf.m k q_16 p_6).bind fun v_25 => (visorlaw21_run.m k p_5 x1 v_25 false).bind fun v_30 => (if v_30.2.1.length = 3 then (visorlaw21_bitsOf.m k q_16 p_6).bind fun v_38 => (visorlaw21_run.m k p_5 x1 v_38 true).bind fun v_43 => (if v_43.2.1.length = 3 then (bif (!v_30.2.2) || (!v_43.2.2) then some (.inl false) else (visorlaw21_FreshEven.l2 x2 p_5 v_30 v_43 k q_15 0 0).bind fun x => match x with | (p_83, p_84) => (if 0 ≤ p_84 ∧ p_84 < 8 then (getI .i64 q_14 (0 + p_84.toNat * 1)).bind fun v_90 => (if 0 ≤ p_84 ∧ p_84 < 8 then (if 0 + p_84.toNat * 1 < q_14.length then visorlaw21_FreshEven.l1 x1 x2 p_5 p_6 k (q_14.set (0 + p_84.toNat * 1) (ci (IntKind.i64.wrap (v_90 + 1)))) p_83 (IntKind.i64.wrap (q_16 + 1)) else none) else none) else none)) else none) else none) else some (.inr (q_14, q_15))) else none) else some (.inr (q_14, q_15)))
def visorlaw21_FreshEven.j1 (k : Nat) (x1 : Int) (x2 : Int) (p_5 : Int) (p_6 : Int) : Option (Bool) := (visorlaw21_FreshEven.l1 x1 x2 p_5 p_6 k [ci 0, ci 0, ci 0, ci 0, ci 0, ci 0, ci 0, ci 0] [ci 0, ci 0, ci 0, ci 0, ci 0, ci 0] 0).bind fun x => match x with | .inl v => some v | .inr (p_93, p_94) => (if 0 ≤ IntKind.u64.wrap (IntKind.i64.wrap (p_5 - 1)) then (visorlaw21_FreshEven.l3 p_5 p_6 p_93 k 0).bind fun x => match x with | .inl v => some v | .inr () => (visorlaw21_FreshEven.l4 p_5 p_94 k 0).bind fun x => match x with | .inl v => some v | .inr () => (visorlaw21_awake.m k).bind fun v_134 => some v_134 else none)
abbrev visorlaw21_FreshEven.R (κ : Ctx) (S : List HP) (x0 : Bool) (x1 : Int) (x2 : Int) (r : Bool) : Ending → World → Prop := fun e w' => e = .returned (.bool r) ∧ Own κ w' (S)
def visorlaw21_FreshEven.m (k : Nat) (x0 : Bool) (x1 : Int) (x2 : Int) : Option Bool := (bif x0 then visorlaw21_FreshEven.j1 k x1 x2 3 3 else visorlaw21_FreshEven.j1 k x1 x2 2 1)

set_option maxRecDepth 100000 in
set_option maxHeartbeats 4000000 in
theorem visorlaw21_FreshEven.ok (k : Nat) (x0 : Bool) (x1 : Int) (x2 : Int) (r : Bool) (hm : visorlaw21_FreshEven.m k x0 x1 x2 = some r) (κ : Ctx) (w : World) (S : List HP) (ho : Own κ w (S)) :
    Calls Try.prog 3 #[.bool x0, .int .u8 x1, .int .u8 x2] w (visorlaw21_FreshEven.R κ S x0 x1 x2 r) := by
  unfold visorlaw21_FreshEven.m at hm
  generalize hRR : visorlaw21_FreshEven.R κ S x0 x1 x2 r = RR
  refine qen [(0, .bool x0), (1, .int .u8 x1), (2, .int .u8 x2)] Try.func3 Try.ntmps3 ho fun a hs => ?_
  refine qsr fun K1 hK1 => ?_
  refine qpe 1 [(0, .bool x0), (1, .int .u8 x1), (2, .int .u8 x2)] hs fun a hs => hK1 _ _ ?_
  clear hK1
  refine qsr fun K2 hK2 => ?_
  refine qpe 2 [(0, .bool x0), (1, .int .u8 x1), (2, .int .u8 x2), (7, vi 2), (8, vi 1)] hs fun a hs => hK2 _ _ ?_
  clear hK2
  refine Vk.seq fun K3 hK3 => ?_
  have hj3 : ∀ (p_5 : Int) (p_6 : Int), visorlaw21_FreshEven.j1 k x1 x2 p_5 p_6 = some r → ∀ (a : Act) (w : World), St 137 a w κ [(1, .int .u8 x1), (2, .int .u8 x2), (7, vi p_5), (8, vi p_6)] (S) → K3 a w := by
    intro p_5 p_6 hm a w hs
    unfold visorlaw21_FreshEven.j1 at hm
    refine hK3 _ _ ?_
    refine qsr fun K7 hK7 => ?_
    refine qpu 1 hs fun a hs => ?_
    refine Vk.step (Vk.alloc 9 22 [ci 0, ci 0, ci 0, ci 0, ci 0, ci 0, ci 0, ci 0] hs (by kernel_rfl) (by kernel_rfl) (by kernel_rfl) fun b_8 w a hs => ?_)
    refine Vk.step (Vk.storeA (b := b_8) (ty := 22) (x := (.tmp 9)) (y := (.tmp 24)) (sz := 8) [ci 0, ci 0, ci 0, ci 0, ci 0, ci 0, ci 0, ci 0] 0 hs (by kernel_rfl) (by kernel_rfl) (by kernel_rfl) (by kernel_rfl) (by kernel_rfl) rfl (by kernel_rfl) rfl (Eq.trans (b := 8) rfl (Eq.symm rfl)) fun a w hs => ?_)
    refine qpe 0 [(1, .int .u8 x1), (2, .int .u8 x2), (7, vi p_5), (8, vi p_6), (9, pp b_8)] hs fun a hs => hK7 _ _ ?_
    clear hK7
    refine qsr fun K9 hK9 => ?_
    refine qpu 1 hs fun a hs => ?_
    refine Vk.step (Vk.alloc 10 23 [ci 0, ci 0, ci 0, ci 0, ci 0, ci 0] hs (by kernel_rfl) (by kernel_rfl) (by kernel_rfl) fun b_10 w a hs => ?_)
    refine Vk.step (Vk.storeA (b := b_10) (ty := 23) (x := (.tmp 10)) (y := (.tmp 25)) (sz := 6) [ci 0, ci 0, ci 0, ci 0, ci 0, ci 0] 0 hs (by kernel_rfl) (by kernel_rfl) (by kernel_rfl) (by kernel_rfl) (by kernel_rfl) rfl (by kernel_rfl) rfl (Eq.trans (b := 6) rfl (Eq.symm rfl)) fun a w hs => ?_)
    refine qpe 0 [(1, .int .u8 x1), (2, .int .u8 x2), (7, vi p_5), (8, vi p_6), (9, pp b_8), (10, pp b_10)] hs fun a hs => hK9 _ _ ?_
    clear hK9
    refine Vk.seq fun K11 hK11 => ?_
    refine qsr fun K12 hK12 => ?_
    refine qpe 1 [(1, .int .u8 x1), (2, .int .u8 x2), (7, vi p_5), (8, vi p_6), (9, pp b_8), (10, pp b_10), (11, vi 0)] hs fun a hs => hK12 _ _ ?_
    clear hK12
    refine wp_block ?_
    obtain ⟨r13, hl13, hm⟩ := bind_t hm
    have hx13 : ∀ (p_93 : Cells) (p_94 : Cells), r13 = Sum.inr (p_93, p_94) → ∀ (a : Act) (w : World), St 137 a w κ [(7, vi p_5), (8, vi p_6), (9, pp b_8), (10, pp b_10)] (pt b_8 (blk p_93 22) :: pt b_10 (blk p_94 23) :: S) → K11 a w := by
      intro p_93 p_94 he a w hs
      subst r13
      refine hK11 _ _ ?_
      clear hK11
      refine qsr fun K98 hK98 => ?_
      refine qpu 3 hs fun a hs => ?_
      obtain ⟨h_99, hm⟩ := ite_t hm
      refine Vk.step (Vk.value (some 106) (vi (shl .i64 1 (IntKind.u64.wrap (IntKind.i64.wrap (p_5 - 1))))) hs (by kernel_rfl) (op := (.binOp .shl 3 (.const (vi 1)) (.tmp 105) 24)) (by kernel_rfl) (fun o ho => run_shl (k' := .u64) ho (by kernel_rfl) (by kernel_rfl) h_99 _) fun a hs => ?_)
      refine qpe 1 [(7, vi p_5), (8, vi p_6), (9, pp b_8), (10, pp b_10), (20, vi (shl .i64 1 (IntKind.u64.wrap (IntKind.i64.wrap (p_5 - 1)))))] hs fun a hs => hK98 _ _ ?_
      clear hK98
      refine Vk.seq fun K100 hK100 => ?_
      refine qsr fun K101 hK101 => ?_
      refine qpe 1 [(7, vi p_5), (8, vi p_6), (9, pp b_8), (10, pp b_10), (20, vi (shl .i64 1 (IntKind.u64.wrap (IntKind.i64.wrap (p_5 - 1))))), (21, vi 0)] hs fun a hs => hK101 _ _ ?_
      clear hK101
      refine wp_block ?_
      obtain ⟨r102, hl102, hm⟩ := bind_t hm
      have hx102 : r102 = Sum.inr () → ∀ (a : Act) (w : World), St 137 a w κ [(7, vi p_5), (10, pp b_10)] (pt b_10 (blk p_94 23) :: S) → K100 a w := by
        intro he a w hs
        subst r102
        refine hK100 _ _ ?_
        clear hK100
        refine Vk.seq fun K114 hK114 => ?_
        refine qsr fun K115 hK115 => ?_
        refine qpe 1 [(7, vi p_5), (10, pp b_10), (22, vi 0)] hs fun a hs => hK115 _ _ ?_
        clear hK115
        refine wp_block ?_
        obtain ⟨r116, hl116, hm⟩ := bind_t hm
        have hx116 : r116 = Sum.inr () → ∀ (a : Act) (w : World), St 137 a w κ [] (S) → K114 a w := by
          intro he a w hs
          subst r116
          refine hK114 _ _ ?_
          clear hK114
          refine qsr fun K131 hK131 => ?_
          obtain ⟨v_134, h_133, hm⟩ := bind_t hm
          refine Vk.step (Vk.call (some 136) 16 #[] hs (by kernel_rfl) (by kernel_rfl) (by kernel_rfl) ?_)
          refine (visorlaw21_awake.ok k v_134 h_133 κ w (S) hs.own).mono ?_
          rintro _ w ⟨rfl, how⟩
          refine ⟨_, _, _, rfl, how, fun a hs => ?_⟩
          refine qpe 1 [(6, .bool v_134)] hs fun a hs => hK131 _ _ ?_
          clear hK131
          refine wp_ret ?_
          exact Vk.ret1 (P := Try.prog) (fn := Try.f3) (R := RR) (.bool v_134) hs rfl (by kernel_rfl) (by obtain rfl := Option.some.inj hm; subst hRR; exact ⟨rfl, (Own.to hs.own [] 0 (by kernel_rfl) (by kernel_rfl))⟩)
        have hret116 : ∀ v, r116 = Sum.inl v → v = r := by intro v he; subst r116; exact Option.some.inj hm
        refine Vk.loopBy (fun k (s : Int) a w => visorlaw21_FreshEven.l4 p_5 p_94 k s = some r116 ∧ St 137 a w κ [(7, vi p_5), (10, pp b_10), (22, vi s)] (pt b_10 (blk p_94 23) :: S)) k 0 ⟨hl116, hs.go [7, 10, 22] [0] 1 (by kernel_rfl) (by kernel_rfl) (by kernel_rfl)⟩ (fun s a w h => by obtain ⟨h1, _⟩ := h; simp [visorlaw21_FreshEven.l4] at h1) (fun k KL116 ih q_117 a w h => ?_)
        obtain ⟨hm, hs⟩ := h
        try dsimp only at hm hs
        rw [visorlaw21_FreshEven.l4] at hm
        refine Vk.seq fun K118 hK118 => ?_
        refine qsr fun K119 hK119 => ?_
        refine qpe 3 [(7, vi p_5), (10, pp b_10), (22, vi q_117), (123, .bool (decide (q_117 < p_5)))] hs fun a hs => hK119 _ _ ?_
        clear hK119
        refine qcs (decide (q_117 < p_5)) hs (fun hb => ?_) fun hb => ?_
        · replace hm := bif_t hm hb
          refine wp_skip ?_
          refine hK118 _ _ ?_
          clear hK118
          refine Vk.seq fun K120 hK120 => ?_
          refine wp_block ?_
          refine Vk.seq fun K121 hK121 => ?_
          obtain ⟨C_122, hC_122⟩ : ∃ X0 : List HP, X0 = (pt b_10 (blk p_94 23) :: S) := ⟨_, rfl⟩
          refine qdr 10 κ C_122 hs fun w hs hqC_122 => ?_
          have hcz : Own κ w (pt b_10 (blk p_94 23) :: S) := (Own.to hs.own [0] 1 (by kernel_rfl) (by kernel_rfl))
          have hcl : Own κ w C_122 := by rw [hC_122]; exact hcz
          refine qdp (fuel := 5) [0, 1, 4, 5, 6] hs hcl hqC_122 fun a hs => ?_
          obtain ⟨h_123, hm⟩ := ite_t hm
          refine Vk.dTakeT (i := 2) (some 128) (.pointer (some ⟨b_10, 0 + (IntKind.i64.wrap (2 * q_117)).toNat * 1, none⟩)) hs (by kernel_rfl) hqC_122 hcl (by kernel_rfl) (by kernel_rfl) (op := (.indexAddr 23 (.tmp 10) (.tmp 127))) (by kernel_rfl) (by kernel_rfl) (fun w hw o ho => by rw [hC_122] at hw; exact run_idxArr (k := .i64) ho (by kernel_rfl) (by kernel_rfl) (by kernel_rfl) h_123 _) fun a hs => ?_
          obtain ⟨v_125, h_124, hm⟩ := bind_t hm
          refine Vk.dTakeT (i := 3) (some 129) (vi v_125) hs (by kernel_rfl) hqC_122 hcl (by kernel_rfl) (by kernel_rfl) (op := (.load 3 (.tmp 128))) (by kernel_rfl) (by kernel_rfl) (fun w hw o ho => by rw [hC_122] at hw; exact run_load1 (c := ci v_125) ho (by kernel_rfl) (by kernel_rfl) (Cell.own 0 rfl (getI_some h_124)) _ hw) fun a hs => ?_
          obtain ⟨h_126, hm⟩ := ite_t hm
          refine Vk.dTakeT (i := 7) (some 133) (.pointer (some ⟨b_10, 0 + (IntKind.i64.wrap ((IntKind.i64.wrap (2 * q_117)) + 1)).toNat * 1, none⟩)) hs (by kernel_rfl) hqC_122 hcl (by kernel_rfl) (by kernel_rfl) (op := (.indexAddr 23 (.tmp 10) (.tmp 132))) (by kernel_rfl) (by kernel_rfl) (fun w hw o ho => by rw [hC_122] at hw; exact run_idxArr (k := .i64) ho (by kernel_rfl) (by kernel_rfl) (by kernel_rfl) h_126 _) fun a hs => ?_
          obtain ⟨v_128, h_127, hm⟩ := bind_t hm
          refine Vk.dTakeT (i := 8) (some 134) (vi v_128) hs (by kernel_rfl) hqC_122 hcl (by kernel_rfl) (by kernel_rfl) (op := (.load 3 (.tmp 133))) (by kernel_rfl) (by kernel_rfl) (fun w hw o ho => by rw [hC_122] at hw; exact run_load1 (c := ci v_128) ho (by kernel_rfl) (by kernel_rfl) (Cell.own 0 rfl (getI_some h_127)) _ hw) fun a hs => ?_
          refine qdp (fuel := 0) [9] hs hcl hqC_122 fun a hs => ?_
          replace hs := hs.pick [7, 10, 22, 135] (L' := [(7, vi p_5), (10, pp b_10), (22, vi q_117), (135, .bool (v_125 != v_128))]) (by kernel_rfl)
          refine Vk.dDone (by kernel_rfl) ?_
          refine hK121 _ _ ?_
          clear hK121
          refine qcs (v_125 != v_128) hs (fun hb => ?_) fun hb => ?_
          · replace hm := bif_t hm hb
            refine qsr fun K129 hK129 => ?_
            refine qpe 1 [(6, .bool false)] hs fun a hs => hK129 _ _ ?_
            clear hK129
            refine wp_ret ?_
            exact Vk.ret1 (P := Try.prog) (fn := Try.f3) (R := RR) (.bool false) hs rfl (by kernel_rfl) (by obtain rfl := hret116 _ ((Option.some.inj hm).symm); subst hRR; exact ⟨rfl, (Own.to hs.own [] 1 (by kernel_rfl) (by kernel_rfl))⟩)
          · replace hm := bif_f hm hb
            refine wp_skip ?_
            refine hK120 _ _ ?_
            clear hK120
            refine Vk.region ?_
            refine qpe 3 [(7, vi p_5), (10, pp b_10), (22, vi (IntKind.i64.wrap (q_117 + 1)))] hs fun a hs => ?_
            refine ih (IntKind.i64.wrap (q_117 + 1)) _ _ ⟨hm, hs.go [7, 10, 22] [0] 1 (by kernel_rfl) (by kernel_rfl) (by kernel_rfl)⟩
        · replace hm := bif_f hm hb
          refine wp_exit ?_
          exact hx116 (Option.some.inj hm).symm _ _ (hs.go [] [] 1 (by kernel_rfl) (by kernel_rfl) (by kernel_rfl))
      have hret102 : ∀ v, r102 = Sum.inl v → v = r := by intro v he; subst r102; exact Option.some.inj hm
      refine Vk.loopBy (fun k (s : Int) a w => visorlaw21_FreshEven.l3 p_5 p_6 p_93 k s = some r102 ∧ St 137 a w κ [(7, vi p_5), (8, vi p_6), (9, pp b_8), (10, pp b_10), (20, vi (shl .i64 1 (IntKind.u64.wrap (IntKind.i64.wrap (p_5 - 1))))), (21, vi s)] (pt b_8 (blk p_93 22) :: pt b_10 (blk p_94 23) :: S)) k 0 ⟨hl102, hs.go [7, 8, 9, 10, 20, 21] [0, 1] 2 (by kernel_rfl) (by kernel_rfl) (by kernel_rfl)⟩ (fun s a w h => by obtain ⟨h1, _⟩ := h; simp [visorlaw21_FreshEven.l3] at h1) (fun k KL102 ih q_103 a w h => ?_)
      obtain ⟨hm, hs⟩ := h
      try dsimp only at hm hs
      rw [visorlaw21_FreshEven.l3] at hm
      refine Vk.seq fun K104 hK104 => ?_
      refine qsr fun K105 hK105 => ?_
      refine qpe 3 [(7, vi p_5), (8, vi p_6), (9, pp b_8), (10, pp b_10), (20, vi (shl .i64 1 (IntKind.u64.wrap (IntKind.i64.wrap (p_5 - 1))))), (21, vi q_103), (109, .bool (decide (q_103 < (shl .i64 1 (IntKind.u64.wrap (IntKind.i64.wrap (p_5 - 1)))))))] hs fun a hs => hK105 _ _ ?_
      clear hK105
      refine qcs (decide (q_103 < (shl .i64 1 (IntKind.u64.wrap (IntKind.i64.wrap (p_5 - 1)))))) hs (fun hb => ?_) fun hb => ?_
      · replace hm := bif_t hm hb
        refine wp_skip ?_
        refine hK104 _ _ ?_
        clear hK104
        refine Vk.seq fun K106 hK106 => ?_
        refine wp_block ?_
        refine qsr fun K107 hK107 => ?_
        refine qpu 1 hs fun a hs => ?_
        obtain ⟨h_108, hm⟩ := ite_t hm
        refine Vk.step (Vk.value (some 113) (.pointer (some ⟨b_8, 0 + q_103.toNat * 1, none⟩)) hs (by kernel_rfl) (op := (.indexAddr 22 (.tmp 9) (.tmp 112))) (by kernel_rfl) (fun o ho => run_idxArr (k := .i64) ho (by kernel_rfl) (by kernel_rfl) (by kernel_rfl) h_108 _) fun a hs => ?_)
        obtain ⟨v_110, h_109, hm⟩ := bind_t hm
        refine Vk.step (Vk.value (some 114) (vi v_110) hs (by kernel_rfl) (op := (.load 3 (.tmp 113))) (by kernel_rfl) (fun o ho => run_load1 (c := ci v_110) ho (by kernel_rfl) (by kernel_rfl) (Cell.own 0 rfl (getI_some h_109)) _ hs.own) fun a hs => ?_)
        refine qpu 4 hs fun a hs => ?_
        obtain ⟨h_111, hm⟩ := ite_t hm
        refine Vk.step (Vk.value (some 119) (vi (shl .i64 1 (IntKind.u64.wrap p_6))) hs (by kernel_rfl) (op := (.binOp .shl 3 (.const (vi 1)) (.tmp 118) 24)) (by kernel_rfl) (fun o ho => run_shl (k' := .u64) ho (by kernel_rfl) (by kernel_rfl) h_111 _) fun a hs => ?_)
        refine qpe 1 [(7, vi p_5), (8, vi p_6), (9, pp b_8), (10, pp b_10), (20, vi (shl .i64 1 (IntKind.u64.wrap (IntKind.i64.wrap (p_5 - 1))))), (21, vi q_103), (120, .bool ((IntKind.i64.wrap (v_110 * (shl .i64 1 (IntKind.u64.wrap (IntKind.i64.wrap (p_5 - 1)))))) != (shl .i64 1 (IntKind.u64.wrap p_6))))] hs fun a hs => hK107 _ _ ?_
        clear hK107
        refine qcs ((IntKind.i64.wrap (v_110 * (shl .i64 1 (IntKind.u64.wrap (IntKind.i64.wrap (p_5 - 1)))))) != (shl .i64 1 (IntKind.u64.wrap p_6))) hs (fun hb => ?_) fun hb => ?_
        · replace hm := bif_t hm hb
          refine qsr fun K112 hK112 => ?_
          refine qpe 1 [(6, .bool false)] hs fun a hs => hK112 _ _ ?_
          clear hK112
          refine wp_ret ?_
          exact Vk.ret1 (P := Try.prog) (fn := Try.f3) (R := RR) (.bool false) hs rfl (by kernel_rfl) (by obtain rfl := hret102 _ ((Option.some.inj hm).symm); subst hRR; exact ⟨rfl, (Own.to hs.own [] 2 (by kernel_rfl) (by kernel_rfl))⟩)
        · replace hm := bif_f hm hb
          refine wp_skip ?_
          refine hK106 _ _ ?_
          clear hK106
          refine Vk.region ?_
          refine qpe 3 [(7, vi p_5), (8, vi p_6), (9, pp b_8), (10, pp b_10), (20, vi (shl .i64 1 (IntKind.u64.wrap (IntKind.i64.wrap (p_5 - 1))))), (21, vi (IntKind.i64.wrap (q_103 + 1)))] hs fun a hs => ?_
          refine ih (IntKind.i64.wrap (q_103 + 1)) _ _ ⟨hm, hs.go [7, 8, 9, 10, 20, 21] [0, 1] 2 (by kernel_rfl) (by kernel_rfl) (by kernel_rfl)⟩
      · replace hm := bif_f hm hb
        refine wp_exit ?_
        exact hx102 (Option.some.inj hm).symm _ _ (hs.go [7, 10] [1] 2 (by kernel_rfl) (by kernel_rfl) (by kernel_rfl))
    have hret13 : ∀ v, r13 = Sum.inl v → v = r := by intro v he; subst r13; exact Option.some.inj hm
    refine Vk.loopBy (fun k (s : Cells × Cells × Int) a w => visorlaw21_FreshEven.l1 x1 x2 p_5 p_6 k s.1 s.2.1 s.2.2 = some r13 ∧ St 137 a w κ [(1, .int .u8 x1), (2, .int .u8 x2), (7, vi p_5), (8, vi p_6), (9, pp b_8), (10, pp b_10), (11, vi s.2.2)] (pt b_8 (blk s.1 22) :: pt b_10 (blk s.2.1 23) :: S)) k ([ci 0, ci 0, ci 0, ci 0, ci 0, ci 0, ci 0, ci 0], [ci 0, ci 0, ci 0, ci 0, ci 0, ci 0], 0) ⟨hl13, hs.go [1, 2, 7, 8, 9, 10, 11] [1, 0] 2 (by kernel_rfl) (by kernel_rfl) (by kernel_rfl)⟩ (fun s a w h => by obtain ⟨h1, _⟩ := h; simp [visorlaw21_FreshEven.l1] at h1) (fun k KL13 ih s a w h => ?_)
    obtain ⟨q_14, q_15, q_16⟩ := s
    obtain ⟨hm, hs⟩ := h
    try dsimp only at hm hs
    rw [visorlaw21_FreshEven.l1] at hm
    refine Vk.seq fun K17 hK17 => ?_
    refine qsr fun K18 hK18 => ?_
    refine qpu 3 hs fun a hs => ?_
    rcases Bool.eq_false_or_eq_true (decide (q_16 < 8)) with hb | hb
    · replace hm := bif_t hm hb
      replace hs := hs.known (t := 28) hb (by kernel_rfl)
      refine qpu 3 hs fun a hs => ?_
      obtain ⟨h_20, hm⟩ := ite_t hm
      refine Vk.step (Vk.value (some 32) (vi (shl .i64 1 (IntKind.u64.wrap p_6))) hs (by kernel_rfl) (op := (.binOp .shl 3 (.const (vi 1)) (.tmp 31) 24)) (by kernel_rfl) (fun o ho => run_shl (k' := .u64) ho (by kernel_rfl) (by kernel_rfl) h_20 _) fun a hs => ?_)
      refine qpe 2 [(1, .int .u8 x1), (2, .int .u8 x2), (7, vi p_5), (8, vi p_6), (9, pp b_8), (10, pp b_10), (11, vi q_16), (29, vi q_16), (30, vi p_6), (31, vw (IntKind.u64.wrap p_6)), (32, vi (shl .i64 1 (IntKind.u64.wrap p_6))), (33, .bool (decide (q_16 < (shl .i64 1 (IntKind.u64.wrap p_6))))), (34, .bool (decide (q_16 < (shl .i64 1 (IntKind.u64.wrap p_6)))))] hs fun a hs => hK18 _ _ ?_
      refine qcs (decide (q_16 < (shl .i64 1 (IntKind.u64.wrap p_6)))) hs (fun hb => ?_) fun hb => ?_
      · replace hm := bif_t hm hb
        refine wp_skip ?_
        refine hK17 _ _ ?_
        clear hK17
        refine Vk.seq fun K21 hK21 => ?_
        refine wp_block ?_
        refine qsr fun K22 hK22 => ?_
        refine qpu 4 hs fun a hs => ?_
        obtain ⟨v_25, h_24, hm⟩ := bind_t hm
        refine Vk.step (Vk.call (some 42) 14 #[vi q_16, vi p_6] hs (by kernel_rfl) (by kernel_rfl) (by kernel_rfl) ?_)
        refine (visorlaw21_bitsOf.ok k q_16 p_6 v_25 h_24 κ w (pt b_8 (blk q_14 22) :: pt b_10 (blk q_15 23) :: S) hs.own).mono ?_
        rintro _ w ⟨Ar23x0_26, cr23x0_27, rfl, how⟩
        refine ⟨_, _, _, rfl, how, fun a hs => ?_⟩
        obtain ⟨v_30, h_29, hm⟩ := bind_t hm
        refine Vk.step (Vk.call (some 43) 13 #[vi p_5, .int .u8 x1, .slice Ar23x0_26 v_25.length cr23x0_27, .bool false] hs (by kernel_rfl) (by kernel_rfl) (by kernel_rfl) ?_)
        refine (visorlaw21_run.ok k p_5 x1 v_25 false v_30 h_29 κ w (rowp Ar23x0_26 cr23x0_27 32 1 (eI .u64) v_25 :: pt b_8 (blk q_14 22) :: pt b_10 (blk q_15 23) :: S) Ar23x0_26 cr23x0_27 (Sl.lift (fun w ho => (Own.to (S' := rowp Ar23x0_26 cr23x0_27 32 1 (eI .u64) v_25 :: S) ho [0] 3 (by kernel_rfl) (by kernel_rfl))) (Own.rowSl 0 (Own.to (S' := rowp Ar23x0_26 cr23x0_27 32 1 (eI .u64) v_25 :: S) hs.own [0] 3 (by kernel_rfl) (by kernel_rfl)) rfl)) hs.own).mono ?_
        rintro _ w ⟨Ar28x0_31, cr28x0_32, rfl, how⟩
        refine ⟨_, _, _, rfl, how, fun a hs => ?_⟩
        refine qpu 4 hs fun a hs => ?_
        refine Vk.step (Vk.alloc 13 28 [ci 0, ci 0, ci 0] hs (by kernel_rfl) (by kernel_rfl) (by kernel_rfl) fun b_33 w a hs => ?_)
        refine qpu 1 hs fun a hs => ?_
        obtain ⟨h_34, hm⟩ := ite_t hm
        refine Vk.step (Vk.storeA (b := b_33) (ty := 28) (x := (.tmp 13)) (y := (.tmp 45)) (sz := 3) v_30.2.1 0 hs (by kernel_rfl) (by kernel_rfl) (by kernel_rfl) (by kernel_rfl) (by kernel_rfl) h_34 (by kernel_rfl) rfl (Eq.trans (b := 3) h_34 (Eq.symm rfl)) fun a w hs => ?_)
        refine qpe 1 [(1, .int .u8 x1), (2, .int .u8 x2), (7, vi p_5), (8, vi p_6), (9, pp b_8), (10, pp b_10), (11, vi q_16), (12, .slice Ar28x0_31 v_30.1.length cr28x0_32), (13, pp b_33), (14, .bool v_30.2.2), (29, vi q_16), (30, vi p_6), (31, vw (IntKind.u64.wrap p_6)), (32, vi (shl .i64 1 (IntKind.u64.wrap p_6))), (33, .bool (decide (q_16 < (shl .i64 1 (IntKind.u64.wrap p_6)))))] hs fun a hs => hK22 _ _ ?_
        clear hK22
        refine qsr fun K35 hK35 => ?_
        refine qpu 4 hs fun a hs => ?_
        obtain ⟨v_38, h_37, hm⟩ := bind_t hm
        refine Vk.step (Vk.call (some 52) 14 #[vi q_16, vi p_6] hs (by kernel_rfl) (by kernel_rfl) (by kernel_rfl) ?_)
        refine (visorlaw21_bitsOf.ok k q_16 p_6 v_38 h_37 κ w (pt b_33 (blk v_30.2.1 28) :: rowp Ar28x0_31 cr28x0_32 32 1 (eI .u64) v_30.1 :: rowp Ar23x0_26 cr23x0_27 32 1 (eI .u64) v_25 :: pt b_8 (blk q_14 22) :: pt b_10 (blk q_15 23) :: S) hs.own).mono ?_
        rintro _ w ⟨Ar36x0_39, cr36x0_40, rfl, how⟩
        refine ⟨_, _, _, rfl, how, fun a hs => ?_⟩
        obtain ⟨v_43, h_42, hm⟩ := bind_t hm
        refine Vk.step (Vk.call (some 53) 13 #[vi p_5, .int .u8 x1, .slice Ar36x0_39 v_38.length cr36x0_40, .bool true] hs (by kernel_rfl) (by kernel_rfl) (by kernel_rfl) ?_)
        refine (visorlaw21_run.ok k p_5 x1 v_38 true v_43 h_42 κ w (rowp Ar36x0_39 cr36x0_40 32 1 (eI .u64) v_38 :: pt b_33 (blk v_30.2.1 28) :: rowp Ar28x0_31 cr28x0_32 32 1 (eI .u64) v_30.1 :: rowp Ar23x0_26 cr23x0_27 32 1 (eI .u64) v_25 :: pt b_8 (blk q_14 22) :: pt b_10 (blk q_15 23) :: S) Ar36x0_39 cr36x0_40 (Sl.lift (fun w ho => (Own.to (S' := rowp Ar36x0_39 cr36x0_40 32 1 (eI .u64) v_38 :: S) ho [0] 6 (by kernel_rfl) (by kernel_rfl))) (Own.rowSl 0 (Own.to (S' := rowp Ar36x0_39 cr36x0_40 32 1 (eI .u64) v_38 :: S) hs.own [0] 6 (by kernel_rfl) (by kernel_rfl)) rfl)) hs.own).mono ?_
        rintro _ w ⟨Ar41x0_44, cr41x0_45, rfl, how⟩
        refine ⟨_, _, _, rfl, how, fun a hs => ?_⟩
        refine qpu 4 hs fun a hs => ?_
        refine Vk.step (Vk.alloc 16 28 [ci 0, ci 0, ci 0] hs (by kernel_rfl) (by kernel_rfl) (by kernel_rfl) fun b_46 w a hs => ?_)
        refine qpu 1 hs fun a hs => ?_
        obtain ⟨h_47, hm⟩ := ite_t hm
        refine Vk.step (Vk.storeA (b := b_46) (ty := 28) (x := (.tmp 16)) (y := (.tmp 55)) (sz := 3) v_43.2.1 0 hs (by kernel_rfl) (by kernel_rfl) (by kernel_rfl) (by kernel_rfl) (by kernel_rfl) h_47 (by kernel_rfl) rfl (Eq.trans (b := 3) h_47 (Eq.symm rfl)) fun a w hs => ?_)
        refine qpe 1 [(1, .int .u8 x1), (2, .int .u8 x2), (7, vi p_5), (8, vi p_6), (9, pp b_8), (10, pp b_10), (11, vi q_16), (12, .slice Ar28x0_31 v_30.1.length cr28x0_32), (13, pp b_33), (14, .bool v_30.2.2), (15, .slice Ar41x0_44 v_43.1.length cr41x0_45), (16, pp b_46), (17, .bool v_43.2.2), (29, vi q_16), (30, vi p_6), (31, vw (IntKind.u64.wrap p_6)), (32, vi (shl .i64 1 (IntKind.u64.wrap p_6))), (33, .bool (decide (q_16 < (shl .i64 1 (IntKind.u64.wrap p_6)))))] hs fun a hs => hK35 _ _ ?_
        clear hK35
        refine Vk.seq fun K48 hK48 => ?_
        refine qsr fun K49 hK49 => ?_
        refine qpu 3 hs fun a hs => ?_
        suffices hj_50 : ∀ a, St 137 a w κ [(1, .int .u8 x1), (2, .int .u8 x2), (7, vi p_5), (8, vi p_6), (9, pp b_8), (10, pp b_10), (11, vi q_16), (12, .slice Ar28x0_31 v_30.1.length cr28x0_32), (13, pp b_33), (14, .bool v_30.2.2), (15, .slice Ar41x0_44 v_43.1.length cr41x0_45), (16, pp b_46), (17, .bool v_43.2.2), (29, vi q_16), (30, vi p_6), (31, vw (IntKind.u64.wrap p_6)), (32, vi (shl .i64 1 (IntKind.u64.wrap p_6))), (33, .bool (decide (q_16 < (shl .i64 1 (IntKind.u64.wrap p_6))))), (57, .bool v_30.2.2), (58, .bool (!v_30.2.2)), (59, .bool (!v_30.2.2)), (62, .bool ((!v_30.2.2) || (!v_43.2.2)))] (pt b_46 (blk v_43.2.1 28) :: rowp Ar41x0_44 cr41x0_45 32 1 (eI .u64) v_43.1 :: rowp Ar36x0_39 cr36x0_40 32 1 (eI .u64) v_38 :: pt b_33 (blk v_30.2.1 28) :: rowp Ar28x0_31 cr28x0_32 32 1 (eI .u64) v_30.1 :: rowp Ar23x0_26 cr23x0_27 32 1 (eI .u64) v_25 :: pt b_8 (blk q_14 22) :: pt b_10 (blk q_15 23) :: S) → wpFrom Try.prog _ _ 6 a w by
          rcases Bool.eq_false_or_eq_true (!v_30.2.2) with hb | hb
          · replace hs := hs.known (t := 59) hb (by kernel_rfl)
            refine qpu 3 hs fun a hs => ?_
            have hq := hs.pick [1, 2, 7, 8, 9, 10, 11, 12, 13, 14, 15, 16, 17, 29, 30, 31, 32, 33, 57, 58, 59, 62] (L' := [(1, .int .u8 x1), (2, .int .u8 x2), (7, vi p_5), (8, vi p_6), (9, pp b_8), (10, pp b_10), (11, vi q_16), (12, .slice Ar28x0_31 v_30.1.length cr28x0_32), (13, pp b_33), (14, .bool v_30.2.2), (15, .slice Ar41x0_44 v_43.1.length cr41x0_45), (16, pp b_46), (17, .bool v_43.2.2), (29, vi q_16), (30, vi p_6), (31, vw (IntKind.u64.wrap p_6)), (32, vi (shl .i64 1 (IntKind.u64.wrap p_6))), (33, .bool (decide (q_16 < (shl .i64 1 (IntKind.u64.wrap p_6))))), (57, .bool v_30.2.2), (58, .bool (!v_30.2.2)), (59, .bool true), (62, .bool true)]) (by kernel_rfl)
            exact hj_50 _ (hq.conv (by first | (rw [hb] <;> rfl) | rfl))
          · replace hs := hs.known (t := 59) hb (by kernel_rfl)
            refine qpu 3 hs fun a hs => ?_
            have hq := hs.pick [1, 2, 7, 8, 9, 10, 11, 12, 13, 14, 15, 16, 17, 29, 30, 31, 32, 33, 57, 58, 59, 62] (L' := [(1, .int .u8 x1), (2, .int .u8 x2), (7, vi p_5), (8, vi p_6), (9, pp b_8), (10, pp b_10), (11, vi q_16), (12, .slice Ar28x0_31 v_30.1.length cr28x0_32), (13, pp b_33), (14, .bool v_30.2.2), (15, .slice Ar41x0_44 v_43.1.length cr41x0_45), (16, pp b_46), (17, .bool v_43.2.2), (29, vi q_16), (30, vi p_6), (31, vw (IntKind.u64.wrap p_6)), (32, vi (shl .i64 1 (IntKind.u64.wrap p_6))), (33, .bool (decide (q_16 < (shl .i64 1 (IntKind.u64.wrap p_6))))), (57, .bool v_30.2.2), (58, .bool (!v_30.2.2)), (59, .bool false), (62, .bool (!v_43.2.2))]) (by kernel_rfl)
            exact hj_50 _ (hq.conv (by first | (rw [hb] <;> rfl) | rfl))
        intro a hs
        refine qpe 0 [(1, .int .u8 x1), (2, .int .u8 x2), (7, vi p_5), (8, vi p_6), (9, pp b_8), (10, pp b_10), (11, vi q_16), (12, .slice Ar28x0_31 v_30.1.length cr28x0_32), (13, pp b_33), (15, .slice Ar41x0_44 v_43.1.length cr41x0_45), (16, pp b_46), (29, vi q_16), (30, vi p_6), (31, vw (IntKind.u64.wrap p_6)), (32, vi (shl .i64 1 (IntKind.u64.wrap p_6))), (33, .bool (decide (q_16 < (shl .i64 1 (IntKind.u64.wrap p_6))))), (62, .bool ((!v_30.2.2) || (!v_43.2.2)))] hs fun a hs => hK49 _ _ ?_
        clear hK49
        refine qcs ((!v_30.2.2) || (!v_43.2.2)) hs (fun hb => ?_) fun hb => ?_
        · replace hm := bif_t hm hb
          refine qsr fun K51 hK51 => ?_
          refine qpe 1 [(6, .bool false)] hs fun a hs => hK51 _ _ ?_
          clear hK51
          refine wp_ret ?_
          exact Vk.ret1 (P := Try.prog) (fn := Try.f3) (R := RR) (.bool false) hs rfl (by kernel_rfl) (by obtain rfl := hret13 _ ((Option.some.inj hm).symm); subst hRR; exact ⟨rfl, (Own.to hs.own [] 8 (by kernel_rfl) (by kernel_rfl))⟩)
        · replace hm := bif_f hm hb
          refine wp_skip ?_
          refine hK48 _ _ ?_
          clear hK48
          refine qsr fun K52 hK52 => ?_
          refine qpe 1 [(1, .int .u8 x1), (2, .int .u8 x2), (7, vi p_5), (8, vi p_6), (9, pp b_8), (10, pp b_10), (11, vi q_16), (12, .slice Ar28x0_31 v_30.1.length cr28x0_32), (13, pp b_33), (15, .slice Ar41x0_44 v_43.1.length cr41x0_45), (16, pp b_46), (18, vi 0), (29, vi q_16), (30, vi p_6), (31, vw (IntKind.u64.wrap p_6)), (32, vi (shl .i64 1 (IntKind.u64.wrap p_6))), (33, .bool (decide (q_16 < (shl .i64 1 (IntKind.u64.wrap p_6)))))] hs fun a hs => hK52 _ _ ?_
          clear hK52
          refine Vk.seq fun K53 hK53 => ?_
          refine qsr fun K54 hK54 => ?_
          refine qpe 1 [(1, .int .u8 x1), (2, .int .u8 x2), (7, vi p_5), (8, vi p_6), (9, pp b_8), (10, pp b_10), (11, vi q_16), (12, .slice Ar28x0_31 v_30.1.length cr28x0_32), (13, pp b_33), (15, .slice Ar41x0_44 v_43.1.length cr41x0_45), (16, pp b_46), (18, vi 0), (19, vi 0), (29, vi q_16), (30, vi p_6), (31, vw (IntKind.u64.wrap p_6)), (32, vi (shl .i64 1 (IntKind.u64.wrap p_6))), (33, .bool (decide (q_16 < (shl .i64 1 (IntKind.u64.wrap p_6)))))] hs fun a hs => hK54 _ _ ?_
          clear hK54
          refine wp_block ?_
          obtain ⟨r55, hl55, hm⟩ := bind_t hm
          have hx55 : ∀ (p_83 : Cells) (p_84 : Int), r55 = (p_83, p_84) → ∀ (a : Act) (w : World), St 137 a w κ [(1, .int .u8 x1), (2, .int .u8 x2), (7, vi p_5), (8, vi p_6), (9, pp b_8), (10, pp b_10), (11, vi q_16), (18, vi p_84), (29, vi q_16), (30, vi p_6), (31, vw (IntKind.u64.wrap p_6)), (32, vi (shl .i64 1 (IntKind.u64.wrap p_6))), (33, .bool (decide (q_16 < (shl .i64 1 (IntKind.u64.wrap p_6)))))] (pt b_8 (blk q_14 22) :: pt b_10 (blk p_83 23) :: S) → K53 a w := by
            intro p_83 p_84 he a w hs
            subst r55
            refine hK53 _ _ ?_
            clear hK53
            refine Vk.region ?_
            refine qpu 1 hs fun a hs => ?_
            obtain ⟨h_88, hm⟩ := ite_t hm
            refine Vk.step (Vk.value (some 99) (.pointer (some ⟨b_8, 0 + p_84.toNat * 1, none⟩)) hs (by kernel_rfl) (op := (.indexAddr 22 (.tmp 9) (.tmp 98))) (by kernel_rfl) (fun o ho => run_idxArr (k := .i64) ho (by kernel_rfl) (by kernel_rfl) (by kernel_rfl) h_88 _) fun a hs => ?_)
            obtain ⟨v_90, h_89, hm⟩ := bind_t hm
            refine Vk.step (Vk.value (some 100) (vi v_90) hs (by kernel_rfl) (op := (.load 3 (.tmp 99))) (by kernel_rfl) (fun o ho => run_load1 (c := ci v_90) ho (by kernel_rfl) (by kernel_rfl) (Cell.own 0 rfl (getI_some h_89)) _ hs.own) fun a hs => ?_)
            refine qpu 1 hs fun a hs => ?_
            obtain ⟨h_91, hm⟩ := ite_t hm
            refine Vk.step (Vk.value (some 102) (.pointer (some ⟨b_8, 0 + p_84.toNat * 1, none⟩)) hs (by kernel_rfl) (op := (.indexAddr 22 (.tmp 9) (.tmp 98))) (by kernel_rfl) (fun o ho => run_idxArr (k := .i64) ho (by kernel_rfl) (by kernel_rfl) (by kernel_rfl) h_91 _) fun a hs => ?_)
            obtain ⟨h_92, hm⟩ := ite_t hm
            refine Vk.step (Vk.store1 (b := b_8) (ty := 3) (x := (.tmp 102)) (y := (.tmp 101)) (off := 0 + p_84.toNat * 1) (ci (IntKind.i64.wrap (v_90 + 1))) 0 hs (by kernel_rfl) (by kernel_rfl) (by kernel_rfl) (by kernel_rfl) (by kernel_rfl) (by kernel_rfl) rfl h_92 fun a w hs => ?_)
            refine qpe 0 [(1, .int .u8 x1), (2, .int .u8 x2), (7, vi p_5), (8, vi p_6), (9, pp b_8), (10, pp b_10), (11, vi q_16), (29, vi q_16), (30, vi p_6), (31, vw (IntKind.u64.wrap p_6)), (32, vi (shl .i64 1 (IntKind.u64.wrap p_6))), (33, .bool (decide (q_16 < (shl .i64 1 (IntKind.u64.wrap p_6)))))] hs fun a hs => hK21 _ _ ?_
            clear hK21
            refine Vk.region ?_
            refine qpe 3 [(1, .int .u8 x1), (2, .int .u8 x2), (7, vi p_5), (8, vi p_6), (9, pp b_8), (10, pp b_10), (11, vi (IntKind.i64.wrap (q_16 + 1))), (29, vi q_16), (30, vi p_6), (31, vw (IntKind.u64.wrap p_6)), (32, vi (shl .i64 1 (IntKind.u64.wrap p_6))), (33, .bool (decide (q_16 < (shl .i64 1 (IntKind.u64.wrap p_6)))))] hs fun a hs => ?_
            refine ih ((q_14.set (0 + p_84.toNat * 1) (ci (IntKind.i64.wrap (v_90 + 1)))), p_83, (IntKind.i64.wrap (q_16 + 1))) _ _ ⟨hm, hs.go [1, 2, 7, 8, 9, 10, 11] [0, 1] 2 (by kernel_rfl) (by kernel_rfl) (by kernel_rfl)⟩
          refine Vk.loopBy (fun k (s : Cells × Int × Int) a w => visorlaw21_FreshEven.l2 x2 p_5 v_30 v_43 k s.1 s.2.1 s.2.2 = some r55 ∧ St 137 a w κ [(1, .int .u8 x1), (2, .int .u8 x2), (7, vi p_5), (8, vi p_6), (9, pp b_8), (10, pp b_10), (11, vi q_16), (12, .slice Ar28x0_31 v_30.1.length cr28x0_32), (13, pp b_33), (15, .slice Ar41x0_44 v_43.1.length cr41x0_45), (16, pp b_46), (18, vi s.2.1), (19, vi s.2.2), (29, vi q_16), (30, vi p_6), (31, vw (IntKind.u64.wrap p_6)), (32, vi (shl .i64 1 (IntKind.u64.wrap p_6))), (33, .bool (decide (q_16 < (shl .i64 1 (IntKind.u64.wrap p_6)))))] (pt b_8 (blk q_14 22) :: pt b_10 (blk s.1 23) :: rowp Ar28x0_31 cr28x0_32 32 1 (eI .u64) v_30.1 :: pt b_33 (blk v_30.2.1 28) :: rowp Ar41x0_44 cr41x0_45 32 1 (eI .u64) v_43.1 :: pt b_46 (blk v_43.2.1 28) :: S)) k (q_15, 0, 0) ⟨hl55, hs.go [1, 2, 7, 8, 9, 10, 11, 12, 13, 15, 16, 18, 19, 29, 30, 31, 32, 33] [6, 7, 4, 3, 1, 0] 8 (by kernel_rfl) (by kernel_rfl) (by kernel_rfl)⟩ (fun s a w h => by obtain ⟨h1, _⟩ := h; simp [visorlaw21_FreshEven.l2] at h1) (fun k KL55 ih s a w h => ?_)
          obtain ⟨q_56, q_57, q_58⟩ := s
          obtain ⟨hm, hs⟩ := h
          try dsimp only at hm hs
          rw [visorlaw21_FreshEven.l2] at hm
          refine Vk.seq fun K59 hK59 => ?_
          refine qsr fun K60 hK60 => ?_
          refine qpe 3 [(1, .int .u8 x1), (2, .int .u8 x2), (7, vi p_5), (8, vi p_6), (9, pp b_8), (10, pp b_10), (11, vi q_16), (12, .slice Ar28x0_31 v_30.1.length cr28x0_32), (13, pp b_33), (15, .slice Ar41x0_44 v_43.1.length cr41x0_45), (16, pp b_46), (18, vi q_57), (19, vi q_58), (29, vi q_16), (30, vi p_6), (31, vw (IntKind.u64.wrap p_6)), (32, vi (shl .i64 1 (IntKind.u64.wrap p_6))), (33, .bool (decide (q_16 < (shl .i64 1 (IntKind.u64.wrap p_6))))), (65, .bool (decide (q_58 < p_5)))] hs fun a hs => hK60 _ _ ?_
          clear hK60
          refine qcs (decide (q_58 < p_5)) hs (fun hb => ?_) fun hb => ?_
          · replace hm := bif_t hm hb
            refine wp_skip ?_
            refine hK59 _ _ ?_
            clear hK59
            refine Vk.seq fun K61 hK61 => ?_
            refine wp_block ?_
            refine Vk.seq fun K62 hK62 => ?_
            have hj62 : ∀ (p_71 : Int), visorlaw21_FreshEven.j2 k (visorlaw21_FreshEven.l2 x2 p_5 v_30 v_43 k) v_43 q_56 q_58 p_71 = some r55 → ∀ (a : Act) (w : World), St 137 a w κ [(1, .int .u8 x1), (2, .int .u8 x2), (7, vi p_5), (8, vi p_6), (9, pp b_8), (10, pp b_10), (11, vi q_16), (12, .slice Ar28x0_31 v_30.1.length cr28x0_32), (13, pp b_33), (15, .slice Ar41x0_44 v_43.1.length cr41x0_45), (16, pp b_46), (18, vi p_71), (19, vi q_58), (29, vi q_16), (30, vi p_6), (31, vw (IntKind.u64.wrap p_6)), (32, vi (shl .i64 1 (IntKind.u64.wrap p_6))), (33, .bool (decide (q_16 < (shl .i64 1 (IntKind.u64.wrap p_6)))))] (pt b_8 (blk q_14 22) :: pt b_10 (blk q_56 23) :: rowp Ar28x0_31 cr28x0_32 32 1 (eI .u64) v_30.1 :: pt b_33 (blk v_30.2.1 28) :: rowp Ar41x0_44 cr41x0_45 32 1 (eI .u64) v_43.1 :: pt b_46 (blk v_43.2.1 28) :: S) → K62 a w := by
              intro p_71 hm a w hs
              unfold visorlaw21_FreshEven.j2 at hm
              refine hK62 _ _ ?_
              refine Vk.region ?_
              refine qpu 5 hs fun a hs => ?_
              obtain ⟨h_72, hm⟩ := ite_t hm
              refine Vk.step (Vk.value (some 89) (.pointer (some ⟨b_46, 0 + q_58.toNat * 1, none⟩)) hs (by kernel_rfl) (op := (.indexAddr 26 (.tmp 88) (.tmp 87))) (by kernel_rfl) (fun o ho => run_idxArr (k := .i64) ho (by kernel_rfl) (by kernel_rfl) (by kernel_rfl) h_72 _) fun a hs => ?_)
              obtain ⟨v_74, h_73, hm⟩ := bind_t hm
              refine Vk.step (Vk.value (some 90) (vi v_74) hs (by kernel_rfl) (op := (.load 3 (.tmp 89))) (by kernel_rfl) (fun o ho => run_load1 (c := ci v_74) ho (by kernel_rfl) (by kernel_rfl) (Cell.own 5 rfl (getI_some h_73)) _ hs.own) fun a hs => ?_)
              obtain ⟨v_77, h_76, hm⟩ := bind_t hm
              refine Vk.step (Vk.call (some 91) 15 #[.slice Ar41x0_44 v_43.1.length cr41x0_45, vi v_74] hs (by kernel_rfl) (by kernel_rfl) (by kernel_rfl) ?_)
              refine (visorlaw21_bit.ok k v_43.1 v_74 v_77 h_76 κ w (pt b_8 (blk q_14 22) :: pt b_10 (blk q_56 23) :: rowp Ar28x0_31 cr28x0_32 32 1 (eI .u64) v_30.1 :: pt b_33 (blk v_30.2.1 28) :: rowp Ar41x0_44 cr41x0_45 32 1 (eI .u64) v_43.1 :: pt b_46 (blk v_43.2.1 28) :: S) Ar41x0_44 cr41x0_45 (Sl.lift (fun w ho => (Own.to (S' := rowp Ar41x0_44 cr41x0_45 32 1 (eI .u64) v_43.1 :: S) ho [4] 6 (by kernel_rfl) (by kernel_rfl))) (Own.rowSl 0 (Own.to (S' := rowp Ar41x0_44 cr41x0_45 32 1 (eI .u64) v_43.1 :: S) hs.own [4] 6 (by kernel_rfl) (by kernel_rfl)) rfl)) hs.own).mono ?_
              rintro _ w ⟨rfl, how⟩
              refine ⟨_, _, _, rfl, how, fun a hs => ?_⟩
              refine qpu 2 hs fun a hs => ?_
              obtain ⟨h_78, hm⟩ := ite_t hm
              refine Vk.step (Vk.value (some 94) (.pointer (some ⟨b_10, 0 + (IntKind.i64.wrap ((IntKind.i64.wrap (2 * q_58)) + (IntKind.i64.wrap v_77))).toNat * 1, none⟩)) hs (by kernel_rfl) (op := (.indexAddr 23 (.tmp 10) (.tmp 93))) (by kernel_rfl) (fun o ho => run_idxArr (k := .i64) ho (by kernel_rfl) (by kernel_rfl) (by kernel_rfl) h_78 _) fun a hs => ?_)
              obtain ⟨v_80, h_79, hm⟩ := bind_t hm
              refine Vk.step (Vk.value (some 95) (vi v_80) hs (by kernel_rfl) (op := (.load 3 (.tmp 94))) (by kernel_rfl) (fun o ho => run_load1 (c := ci v_80) ho (by kernel_rfl) (by kernel_rfl) (Cell.own 1 rfl (getI_some h_79)) _ hs.own) fun a hs => ?_)
              refine qpu 1 hs fun a hs => ?_
              obtain ⟨h_81, hm⟩ := ite_t hm
              refine Vk.step (Vk.value (some 97) (.pointer (some ⟨b_10, 0 + (IntKind.i64.wrap ((IntKind.i64.wrap (2 * q_58)) + (IntKind.i64.wrap v_77))).toNat * 1, none⟩)) hs (by kernel_rfl) (op := (.indexAddr 23 (.tmp 10) (.tmp 93))) (by kernel_rfl) (fun o ho => run_idxArr (k := .i64) ho (by kernel_rfl) (by kernel_rfl) (by kernel_rfl) h_81 _) fun a hs => ?_)
              obtain ⟨h_82, hm⟩ := ite_t hm
              refine Vk.step (Vk.store1 (b := b_10) (ty := 3) (x := (.tmp 97)) (y := (.tmp 96)) (off := 0 + (IntKind.i64.wrap ((IntKind.i64.wrap (2 * q_58)) + (IntKind.i64.wrap v_77))).toNat * 1) (ci (IntKind.i64.wrap (v_80 + 1))) 1 hs (by kernel_rfl) (by kernel_rfl) (by kernel_rfl) (by kernel_rfl) (by kernel_rfl) (by kernel_rfl) rfl h_82 fun a w hs => ?_)
              refine qpe 0 [(1, .int .u8 x1), (2, .int .u8 x2), (7, vi p_5), (8, vi p_6), (9, pp b_8), (10, pp b_10), (11, vi q_16), (12, .slice Ar28x0_31 v_30.1.length cr28x0_32), (13, pp b_33), (15, .slice Ar41x0_44 v_43.1.length cr41x0_45), (16, pp b_46), (18, vi p_71), (19, vi q_58), (29, vi q_16), (30, vi p_6), (31, vw (IntKind.u64.wrap p_6)), (32, vi (shl .i64 1 (IntKind.u64.wrap p_6))), (33, .bool (decide (q_16 < (shl .i64 1 (IntKind.u64.wrap p_6)))))] hs fun a hs => hK61 _ _ ?_
              clear hK61
              refine Vk.region ?_
              refine qpe 3 [(1, .int .u8 x1), (2, .int .u8 x2), (7, vi p_5), (8, vi p_6), (9, pp b_8), (10, pp b_10), (11, vi q_16), (12, .slice Ar28x0_31 v_30.1.length cr28x0_32), (13, pp b_33), (15, .slice Ar41x0_44 v_43.1.length cr41x0_45), (16, pp b_46), (18, vi p_71), (19, vi (IntKind.i64.wrap (q_58 + 1))), (29, vi q_16), (30, vi p_6), (31, vw (IntKind.u64.wrap p_6)), (32, vi (shl .i64 1 (IntKind.u64.wrap p_6))), (33, .bool (decide (q_16 < (shl .i64 1 (IntKind.u64.wrap p_6)))))] hs fun a hs => ?_
              refine ih ((q_56.set (0 + (IntKind.i64.wrap ((IntKind.i64.wrap (2 * q_58)) + (IntKind.i64.wrap v_77))).toNat * 1) (ci (IntKind.i64.wrap (v_80 + 1)))), p_71, (IntKind.i64.wrap (q_58 + 1))) _ _ ⟨hm, hs.go [1, 2, 7, 8, 9, 10, 11, 12, 13, 15, 16, 18, 19, 29, 30, 31, 32, 33] [0, 1, 2, 3, 4, 5] 6 (by kernel_rfl) (by kernel_rfl) (by kernel_rfl)⟩
            refine qsr fun K63 hK63 => ?_
            refine qpu 4 hs fun a hs => ?_
            obtain ⟨h_64, hm⟩ := ite_t hm
            refine Vk.step (Vk.value (some 72) (vi (Int.tmod (IntKind.i64.wrap x2) p_5)) hs (by kernel_rfl) (op := (.binOp .rem 3 (.tmp 70) (.tmp 71) 3)) (by kernel_rfl) (fun o ho => run_rem ho (by kernel_rfl) (by kernel_rfl) h_64 _) fun a hs => ?_)
            refine qpe 1 [(1, .int .u8 x1), (2, .int .u8 x2), (7, vi p_5), (8, vi p_6), (9, pp b_8), (10, pp b_10), (11, vi q_16), (12, .slice Ar28x0_31 v_30.1.length cr28x0_32), (13, pp b_33), (15, .slice Ar41x0_44 v_43.1.length cr41x0_45), (16, pp b_46), (18, vi q_57), (19, vi q_58), (29, vi q_16), (30, vi p_6), (31, vw (IntKind.u64.wrap p_6)), (32, vi (shl .i64 1 (IntKind.u64.wrap p_6))), (33, .bool (decide (q_16 < (shl .i64 1 (IntKind.u64.wrap p_6))))), (73, .bool (q_58 != (Int.tmod (IntKind.i64.wrap x2) p_5)))] hs fun a hs => hK63 _ _ ?_
            clear hK63
            refine qcs (q_58 != (Int.tmod (IntKind.i64.wrap x2) p_5)) hs (fun hb => ?_) fun hb => ?_
            · replace hm := bif_t hm hb
              refine Vk.region ?_
              refine qpu 5 hs fun a hs => ?_
              obtain ⟨h_65, hm⟩ := ite_t hm
              refine Vk.step (Vk.value (some 79) (.pointer (some ⟨b_33, 0 + q_58.toNat * 1, none⟩)) hs (by kernel_rfl) (op := (.indexAddr 26 (.tmp 78) (.tmp 77))) (by kernel_rfl) (fun o ho => run_idxArr (k := .i64) ho (by kernel_rfl) (by kernel_rfl) (by kernel_rfl) h_65 _) fun a hs => ?_)
              obtain ⟨v_67, h_66, hm⟩ := bind_t hm
              refine Vk.step (Vk.value (some 80) (vi v_67) hs (by kernel_rfl) (op := (.load 3 (.tmp 79))) (by kernel_rfl) (fun o ho => run_load1 (c := ci v_67) ho (by kernel_rfl) (by kernel_rfl) (Cell.own 3 rfl (getI_some h_66)) _ hs.own) fun a hs => ?_)
              obtain ⟨v_70, h_69, hm⟩ := bind_t hm
              refine Vk.step (Vk.call (some 81) 15 #[.slice Ar28x0_31 v_30.1.length cr28x0_32, vi v_67] hs (by kernel_rfl) (by kernel_rfl) (by kernel_rfl) ?_)
              refine (visorlaw21_bit.ok k v_30.1 v_67 v_70 h_69 κ w (pt b_8 (blk q_14 22) :: pt b_10 (blk q_56 23) :: rowp Ar28x0_31 cr28x0_32 32 1 (eI .u64) v_30.1 :: pt b_33 (blk v_30.2.1 28) :: rowp Ar41x0_44 cr41x0_45 32 1 (eI .u64) v_43.1 :: pt b_46 (blk v_43.2.1 28) :: S) Ar28x0_31 cr28x0_32 (Sl.lift (fun w ho => (Own.to (S' := rowp Ar28x0_31 cr28x0_32 32 1 (eI .u64) v_30.1 :: S) ho [2] 6 (by kernel_rfl) (by kernel_rfl))) (Own.rowSl 0 (Own.to (S' := rowp Ar28x0_31 cr28x0_32 32 1 (eI .u64) v_30.1 :: S) hs.own [2] 6 (by kernel_rfl) (by kernel_rfl)) rfl)) hs.own).mono ?_
              rintro _ w ⟨rfl, how⟩
              refine ⟨_, _, _, rfl, how, fun a hs => ?_⟩
              refine qpe 3 [(1, .int .u8 x1), (2, .int .u8 x2), (7, vi p_5), (8, vi p_6), (9, pp b_8), (10, pp b_10), (11, vi q_16), (12, .slice Ar28x0_31 v_30.1.length cr28x0_32), (13, pp b_33), (15, .slice Ar41x0_44 v_43.1.length cr41x0_45), (16, pp b_46), (18, vi (IntKind.i64.wrap ((IntKind.i64.wrap (q_57 * 2)) + (IntKind.i64.wrap v_70)))), (19, vi q_58), (29, vi q_16), (30, vi p_6), (31, vw (IntKind.u64.wrap p_6)), (32, vi (shl .i64 1 (IntKind.u64.wrap p_6))), (33, .bool (decide (q_16 < (shl .i64 1 (IntKind.u64.wrap p_6)))))] hs fun a hs => ?_
              exact hj62 (IntKind.i64.wrap ((IntKind.i64.wrap (q_57 * 2)) + (IntKind.i64.wrap v_70))) hm _ _ (hs.go [1, 2, 7, 8, 9, 10, 11, 12, 13, 15, 16, 18, 19, 29, 30, 31, 32, 33] [0, 1, 2, 3, 4, 5] 6 (by kernel_rfl) (by kernel_rfl) (by kernel_rfl))
            · replace hm := bif_f hm hb
              refine wp_skip ?_
              exact hj62 q_57 hm _ _ (hs.go [1, 2, 7, 8, 9, 10, 11, 12, 13, 15, 16, 18, 19, 29, 30, 31, 32, 33] [0, 1, 2, 3, 4, 5] 6 (by kernel_rfl) (by kernel_rfl) (by kernel_rfl))
          · replace hm := bif_f hm hb
            refine wp_exit ?_
            exact hx55 q_56 q_57 (Option.some.inj hm).symm _ _ (hs.go [1, 2, 7, 8, 9, 10, 11, 18, 29, 30, 31, 32, 33] [0, 1] 6 (by kernel_rfl) (by kernel_rfl) (by kernel_rfl))
      · replace hm := bif_f hm hb
        refine wp_exit ?_
        exact hx13 q_14 q_15 (Option.some.inj hm).symm _ _ (hs.go [7, 8, 9, 10] [0, 1] 2 (by kernel_rfl) (by kernel_rfl) (by kernel_rfl))
    · replace hm := bif_f hm hb
      replace hs := hs.known (t := 28) hb (by kernel_rfl)
      refine qpe 6 [(1, .int .u8 x1), (2, .int .u8 x2), (7, vi p_5), (8, vi p_6), (9, pp b_8), (10, pp b_10), (11, vi q_16), (34, .bool false)] hs fun a hs => hK18 _ _ ?_
      refine qcf hs ?_
      refine wp_exit ?_
      exact hx13 q_14 q_15 (Option.some.inj hm).symm _ _ (hs.go [7, 8, 9, 10] [0, 1] 2 (by kernel_rfl) (by kernel_rfl) (by kernel_rfl))
  refine qsr fun K4 hK4 => ?_
  refine qpe 1 [(1, .int .u8 x1), (2, .int .u8 x2), (7, vi 2), (8, vi 1), (23, .bool x0)] hs fun a hs => hK4 _ _ ?_
  clear hK4
  refine qcs (x0) hs (fun hb => ?_) fun hb => ?_
  · replace hm := bif_t hm hb
    refine Vk.region ?_
    refine qpe 2 [(1, .int .u8 x1), (2, .int .u8 x2), (7, vi 3), (8, vi 3)] hs fun a hs => ?_
    exact hj3 3 3 hm _ _ (hs.go [1, 2, 7, 8] [] 0 (by kernel_rfl) (by kernel_rfl) (by kernel_rfl))
  · replace hm := bif_f hm hb
    refine wp_skip ?_
    exact hj3 2 1 hm _ _ (hs.go [1, 2, 7, 8] [] 0 (by kernel_rfl) (by kernel_rfl) (by kernel_rfl))

end Go.Proofs.Ytflgefjocjpjaaa
