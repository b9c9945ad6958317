/- Of each Go function that FreshTells comes to: a model in plain Lean, and that the program's call does what the model says; no condition. -/
import Derived.Test.YtflgefjocjpjaaaProg
import Derived.Test.YtflgefjocjpjaaaVeohkolfl
import Derived.Test.YtflgefjocjpjaaaMFreshTells1
namespace Go.Proofs.Ytflgefjocjpjaaa
open Go Go.Vk
set_option linter.unusedVariables false


abbrev fresh_Full.R (κ : Ctx) (S : List HP) (x0 : Twire_Machine) (x1 : Cells) (b_x0 : Nat) (r : (Cells × Twire_Machine)) : Ending → World → Prop := fun e w' => e = .returned (.agg (vals r.1)) ∧ Own κ w' (Twire_Machine.own b_x0 r.2 :: S)
def fresh_Full.m (k : Nat) (x0 : Twire_Machine) (x1 : Cells) : Option (Cells × Twire_Machine) := (wire_Machine_N.m k x0).bind fun v_9 => (bif v_9 == 2 then (if x1.length = 3 then (wire_Machine_N.m k x0).bind fun v_375 => (bif v_375 == 2 then (wire_Machine_Begin.m k x0 2).bind fun v_379 => (fresh_masks.m k v_379 1).bind fun v_383 => (if v_383.1.length = 3 then (if 0 ≤ (0 : Int) then (([0] : List Int)[0]?).bind fun e_404 => (if 0 ≤ e_404 ∧ e_404 < 3 then (getI .i64 v_383.1 (0 + e_404.toNat * 1)).bind fun v_411 => (if (([] : List Int).length + ([v_411] : List Int).length) * 8 ≤ 140737488355328 then (if 0 ≤ (0 : Int) then (([0] : List Int)[0]?).bind fun e_435 => (if 0 ≤ e_435 ∧ e_435 < 3 then (getI .i64 v_383.1 (0 + e_435.toNat * 1)).bind fun v_442 => (if (([] : List Int).length + ([v_442] : List Int).length) * 8 ≤ 140737488355328 then (wire_Machine_N.m k v_383.2).bind fun v_477 => (bif v_477 == 2 then (if 0 ≤ (0 : Int) then ((([] : List Int) ++ ([v_411] : List Int))[0]?).bind fun e_492 => (getI .i64 x1 (0)).bind fun v_497 => (wire_Machine_Two.m k v_383.2 5 0 v_497 e_492).bind fun v_500 => (if 0 < x1.length then (if 0 ≤ (0 : Int) then ((([] : List Int) ++ ([v_442] : List Int))[0]?).bind fun e_519 => (getI .i64 (x1.set (0) (ci v_500.1)) (1)).bind fun v_524 => (wire_Machine_Two.m k v_500.2 5 1 v_524 e_519).bind fun v_527 => (if 1 < (x1.set (0) (ci v_500.1)).length then (wire_Machine_End.m k v_527.2).bind fun v_540 => some (((x1.set (0) (ci v_500.1)).set (1) (ci v_527.1)), v_540) else none) else none) else none) else none) else none) else none) else none) else none) else none) else none) else none) else none) else none) else none) else (bif v_9 == 3 then (if x1.length = 3 then (wire_Machine_N.m k x0).bind fun v_27 => (bif v_27 == 3 then (wire_Machine_Begin.m k x0 2).bind fun v_31 => (fresh_masks.m k v_31 3).bind fun v_35 => (if v_35.1.length = 3 then (if 0 ≤ (0 : Int) then (([0, 1] : List Int)[0]?).bind fun e_56 => (if 0 ≤ e_56 ∧ e_56 < 3 then (getI .i64 v_35.1 (0 + e_56.toNat * 1)).bind fun v_63 => (if (([] : List Int).length + ([v_63] : List Int).length) * 8 ≤ 140737488355328 then (if 0 ≤ (1 : Int) then (([0, 1] : List Int)[1]?).bind fun e_78 => (if 0 ≤ e_78 ∧ e_78 < 3 then (getI .i64 v_35.1 (0 + e_78.toNat * 1)).bind fun v_85 => (if ((([] : List Int) ++ ([v_63] : List Int)).length + ([v_85] : List Int).length) * 8 ≤ 140737488355328 then (if 0 ≤ (0 : Int) then (([0, 2] : List Int)[0]?).bind fun e_108 => (if 0 ≤ e_108 ∧ e_108 < 3 then (getI .i64 v_35.1 (0 + e_108.toNat * 1)).bind fun v_115 => (if (([] : List Int).length + ([v_115] : List Int).length) * 8 ≤ 140737488355328 then (if 0 ≤ (1 : Int) then (([0, 2] : List Int)[1]?).bind fun e_130 => (if 0 ≤ e_130 ∧ e_130 < 3 then (getI .i64 v_35.1 (0 + e_130.toNat * 1)).bind fun v_137 => (if ((([] : List Int) ++ ([v_115] : List Int)).length + ([v_137] : List Int).length) * 8 ≤ 140737488355328 then (if 0 ≤ (0 : Int) then (([1, 2] : List Int)[0]?).bind fun e_160 => (if 0 ≤ e_160 ∧ e_160 < 3 then (getI .i64 v_35.1 (0 + e_160.toNat * 1)).bind fun v_167 => (if (([] : List Int).length + ([v_167] : List Int).length) * 8 ≤ 140737488355328 then (if 0 ≤ (1 : Int) then (([1, 2] : List Int)[1]?).bind fun e_182 => (if 0 ≤ e_182 ∧ e_182 < 3 then (getI .i64 v_35.1 (0 + e_182.toNat * 1)).bind fun v_189 => (if ((([] : List Int) ++ ([v_167] : List Int)).length + ([v_189] : List Int).length) * 8 ≤ 140737488355328 then (wire_Machine_N.m k v_35.2).bind fun v_214 => (bif v_214 == 3 then (if 0 ≤ (0 : Int) then (((([] : List Int) ++ ([v_63] : List Int)) ++ ([v_85] : List Int))[0]?).bind fun e_229 => (getI .i64 x1 (0)).bind fun v_234 => (wire_Machine_Two.m k v_35.2 5 0 v_234 e_229).bind fun v_237 => (if 0 < x1.length then (if 0 ≤ (1 : Int) then (((([] : List Int) ++ ([v_63] : List Int)) ++ ([v_85] : List Int))[1]?).bind fun e_247 => (getI .i64 (x1.set (0) (ci v_237.1)) (0)).bind fun v_252 => (wire_Machine_Two.m k v_237.2 5 0 v_252 e_247).bind fun v_255 => (if 0 < (x1.set (0) (ci v_237.1)).length then (if 0 ≤ (0 : Int) then (((([] : List Int) ++ ([v_115] : List Int)) ++ ([v_137] : List Int))[0]?).bind fun e_274 => (getI .i64 ((x1.set (0) (ci v_237.1)).set (0) (ci v_255.1)) (1)).bind fun v_279 => (wire_Machine_Two.m k v_255.2 5 1 v_279 e_274).bind fun v_282 => (if 1 < ((x1.set (0) (ci v_237.1)).set (0) (ci v_255.1)).length then (if 0 ≤ (1 : Int) then (((([] : List Int) ++ ([v_115] : List Int)) ++ ([v_137] : List Int))[1]?).bind fun e_292 => (getI .i64 (((x1.set (0) (ci v_237.1)).set (0) (ci v_255.1)).set (1) (ci v_282.1)) (1)).bind fun v_297 => (wire_Machine_Two.m k v_282.2 5 1 v_297 e_292).bind fun v_300 => (if 1 < (((x1.set (0) (ci v_237.1)).set (0) (ci v_255.1)).set (1) (ci v_282.1)).length then (if 0 ≤ (0 : Int) then (((([] : List Int) ++ ([v_167] : List Int)) ++ ([v_189] : List Int))[0]?).bind fun e_319 => (getI .i64 ((((x1.set (0) (ci v_237.1)).set (0) (ci v_255.1)).set (1) (ci v_282.1)).set (1) (ci v_300.1)) (2)).bind fun v_324 => (wire_Machine_Two.m k v_300.2 5 2 v_324 e_319).bind fun v_327 => (if 2 < ((((x1.set (0) (ci v_237.1)).set (0) (ci v_255.1)).set (1) (ci v_282.1)).set (1) (ci v_300.1)).length then (if 0 ≤ (1 : Int) then (((([] : List Int) ++ ([v_167] : List Int)) ++ ([v_189] : List Int))[1]?).bind fun e_337 => (getI .i64 (((((x1.set (0) (ci v_237.1)).set (0) (ci v_255.1)).set (1) (ci v_282.1)).set (1) (ci v_300.1)).set (2) (ci v_327.1)) (2)).bind fun v_342 => (wire_Machine_Two.m k v_327.2 5 2 v_342 e_337).bind fun v_345 => (if 2 < (((((x1.set (0) (ci v_237.1)).set (0) (ci v_255.1)).set (1) (ci v_282.1)).set (1) (ci v_300.1)).set (2) (ci v_327.1)).length then (wire_Machine_End.m k v_345.2).bind fun v_358 => some (((((((x1.set (0) (ci v_237.1)).set (0) (ci v_255.1)).set (1) (ci v_282.1)).set (1) (ci v_300.1)).set (2) (ci v_327.1)).set (2) (ci v_345.1)), v_358) else none) else none) else none) else none) else none) else none) else none) else none) else none) else none) else none) else none) else none) else none) else none) else none) else none) else none) else none) else none) else none) else none) else none) else none) else none) else none) else none) else none) else none) else none) else none) else none) else none) else none) else none))

set_option maxRecDepth 100000 in
set_option maxHeartbeats 4000000 in
theorem fresh_Full.ok (k : Nat) (x0 : Twire_Machine) (x1 : Cells) (r : (Cells × Twire_Machine)) (hm : fresh_Full.m k x0 x1 = some r) (κ : Ctx) (w : World) (S : List HP) (b_x0 : Nat) (ho : Own κ w (Twire_Machine.own b_x0 x0 :: S)) :
    Calls Try.prog 49 #[pp b_x0, .agg (vals x1)] w (fresh_Full.R κ S x0 x1 b_x0 r) := by
  unfold fresh_Full.m at hm
  generalize hRR : fresh_Full.R κ S x0 x1 b_x0 r = RR
  refine qen [(0, pp b_x0), (1, .agg (vals x1))] Try.func49 Try.ntmps49 ho fun a hs => ?_
  refine qsr fun K1 hK1 => ?_
  refine Vk.step (Vk.box (x := (.tmp 1)) 3 28 x1 hs (by kernel_rfl) (by kernel_rfl) (by kernel_rfl) fun b_2 w a hs => ?_)
  refine Vk.step (Vk.alloc 4 28 [ci 0, ci 0, ci 0] hs (by kernel_rfl) (by kernel_rfl) (by kernel_rfl) fun b_3 w a hs => ?_)
  refine qpe 0 [(0, pp b_x0), (3, pp b_2), (4, pp b_3)] hs fun a hs => hK1 _ _ ?_
  clear hK1
  refine Vk.seq fun K4 hK4 => ?_
  refine qsr fun K5 hK5 => ?_
  refine qpu 1 hs fun a hs => ?_
  obtain ⟨g_6, hs⟩ := hs.unex 2 rfl
  obtain ⟨v_9, h_8, hm⟩ := bind_t hm
  refine Vk.step (Vk.call (some 6) 89 #[pp b_x0] hs (by kernel_rfl) (by kernel_rfl) (by kernel_rfl) ?_)
  refine (wire_Machine_N.ok k x0 v_9 h_8 κ w (pt b_3 (blk [ci 0, ci 0, ci 0] 28) :: pt b_2 (blk x1 28) :: S) b_x0 g_6 (Own.to hs.own [2, 0, 1] 3 (by kernel_rfl) (by kernel_rfl))).mono ?_
  rintro _ w ⟨rfl, how⟩
  refine ⟨_, _, _, rfl, how, fun a hs => ?_⟩
  rcases Bool.eq_false_or_eq_true (v_9 == 2) with hb | hb
  · replace hm := bif_t hm hb
    obtain rfl := Vk.of_beq hb
    refine qpe 1 [(0, pp b_x0), (3, pp b_2), (4, pp b_3), (7, .bool false)] hs fun a hs => hK5 _ _ ?_
    refine qcf hs ?_
    refine wp_skip ?_
    refine hK4 _ _ ?_
    clear hK4
    refine qsr fun K360 hK360 => ?_
    refine qpu 1 hs fun a hs => ?_
    obtain ⟨h_361, hm⟩ := ite_t hm
    refine Vk.step (Vk.value (some 16) (.agg (vals x1)) hs (by kernel_rfl) (op := (.load 28 (.tmp 3))) (by kernel_rfl) (fun o ho => run_loadN (cs := x1) ho (by kernel_rfl) (by kernel_rfl) h_361 (CellsAt.all 2 rfl) _ hs.own) fun a hs => ?_)
    refine Vk.step (Vk.buildOp (sz := 1) (by_ := 8) (t := 159) (e := 3) (parts := #[(0, (.const (vi 0)))]) (zs := vals [ci 0]) ([0] : List Int) (eI .i64) (some 17) hs (by kernel_rfl) (by kernel_rfl) (by kernel_rfl) (by kernel_rfl) (by decide) rfl (fun x _ => rfl) (Nat.le_of_ble_eq_true (by kernel_rfl)) (by kernel_rfl) fun A_362 w a hs => ?_)
    refine Vk.step (Vk.buildOp (sz := 1) (by_ := 8) (t := 159) (e := 3) (parts := #[(0, (.const (vi 0)))]) (zs := vals [ci 0]) ([0] : List Int) (eI .i64) (some 18) hs (by kernel_rfl) (by kernel_rfl) (by kernel_rfl) (by kernel_rfl) (by decide) rfl (fun x _ => rfl) (Nat.le_of_ble_eq_true (by kernel_rfl)) (by kernel_rfl) fun A_364 w a hs => ?_)
    refine qpu 1 hs fun a hs => ?_
    refine Vk.step (Vk.call (some 20) 125 #[pp b_x0, .agg (vals x1), vi 1, .agg (vals ([C.slc A_362 (([0] : List Int).length) 1, C.slc A_364 (([0] : List Int).length) 1, C.slc none 0 0]))] hs (by kernel_rfl) (by kernel_rfl) (by kernel_rfl) ?_)
    refine Vk.enterI [(0, pp b_x0), (1, .agg (vals x1)), (2, vi 1), (3, .agg (vals ([C.slc A_362 (([0] : List Int).length) 1, C.slc A_364 (([0] : List Int).length) 1, C.slc none 0 0])))] Try.func125 rfl Try.ntmps125 (by kernel_rfl) (Nat.le_of_ble_eq_true (by kernel_rfl)) hs.own fun KR366 hKR366 hKP366 a hs => ?_
    refine qsr fun K367 hK367 => ?_
    refine Vk.step (Vk.box (x := (.tmp 1)) 5 28 x1 hs (by kernel_rfl) (by kernel_rfl) (by kernel_rfl) fun b_368 w a hs => ?_)
    refine Vk.step (Vk.box (x := (.tmp 3)) 7 160 ([C.slc A_362 (([0] : List Int).length) 1, C.slc A_364 (([0] : List Int).length) 1, C.slc none 0 0]) hs (by kernel_rfl) (by kernel_rfl) (by kernel_rfl) fun b_369 w a hs => ?_)
    refine Vk.step (Vk.alloc 8 28 [ci 0, ci 0, ci 0] hs (by kernel_rfl) (by kernel_rfl) (by kernel_rfl) fun b_370 w a hs => ?_)
    refine qpe 0 [(0, pp b_x0), (2, vi 1), (5, pp b_368), (7, pp b_369), (8, pp b_370)] hs fun a hs => hK367 _ _ ?_
    clear hK367
    refine Vk.seq fun K371 hK371 => ?_
    refine qsr fun K372 hK372 => ?_
    refine qpu 1 hs fun a hs => ?_
    obtain ⟨v_375, h_374, hm⟩ := bind_t hm
    refine Vk.step (Vk.call (some 17) 89 #[pp b_x0] hs (by kernel_rfl) (by kernel_rfl) (by kernel_rfl) ?_)
    refine (wire_Machine_N.ok k x0 v_375 h_374 κ w (pt b_370 (blk [ci 0, ci 0, ci 0] 28) :: pt b_369 (blk ([C.slc A_362 (([0] : List Int).length) 1, C.slc A_364 (([0] : List Int).length) 1, C.slc none 0 0]) 160) :: pt b_368 (blk x1 28) :: rowp A_364 1 3 1 (eI .i64) ([0] : List Int) :: rowp A_362 1 3 1 (eI .i64) ([0] : List Int) :: pt b_3 (blk [ci 0, ci 0, ci 0] 28) :: pt b_2 (blk x1 28) :: S) b_x0 g_6 (Own.to hs.own [5, 0, 1, 2, 3, 4, 6, 7] 8 (by kernel_rfl) (by kernel_rfl))).mono ?_
    rintro _ w ⟨rfl, how⟩
    refine ⟨_, _, _, rfl, how, fun a hs => ?_⟩
    rcases Bool.eq_false_or_eq_true (v_375 == 2) with hb | hb
    · replace hm := bif_t hm hb
      obtain rfl := Vk.of_beq hb
      refine qpe 1 [(0, pp b_x0), (2, vi 1), (5, pp b_368), (7, pp b_369), (8, pp b_370), (18, .bool false)] hs fun a hs => hK372 _ _ ?_
      clear hK372
      refine qcf hs ?_
      refine wp_skip ?_
      refine hK371 _ _ ?_
      clear hK371
      refine qsr fun K376 hK376 => ?_
      refine qpu 1 hs fun a hs => ?_
      replace hs := hs.toEx (Twire_Machine.parts b_x0 x0) g_6 0 rfl
      obtain ⟨v_379, h_378, hm⟩ := bind_t hm
      refine Vk.step (Vk.call (some 22) 90 #[pp b_x0, vi 2] hs (by kernel_rfl) (by kernel_rfl) (by kernel_rfl) ?_)
      refine (wire_Machine_Begin.ok k x0 2 v_379 h_378 κ w (pt b_370 (blk [ci 0, ci 0, ci 0] 28) :: pt b_369 (blk ([C.slc A_362 (([0] : List Int).length) 1, C.slc A_364 (([0] : List Int).length) 1, C.slc none 0 0]) 160) :: pt b_368 (blk x1 28) :: rowp A_364 1 3 1 (eI .i64) ([0] : List Int) :: rowp A_362 1 3 1 (eI .i64) ([0] : List Int) :: pt b_3 (blk [ci 0, ci 0, ci 0] 28) :: pt b_2 (blk x1 28) :: S) b_x0 (Own.to hs.own [0, 1, 2, 3, 4, 5, 6, 7] 8 (by kernel_rfl) (by kernel_rfl))).mono ?_
      rintro _ w ⟨rfl, how⟩
      refine ⟨_, _, _, rfl, how, fun a hs => ?_⟩
      refine qpe 0 [(0, pp b_x0), (2, vi 1), (5, pp b_368), (7, pp b_369), (8, pp b_370)] hs fun a hs => hK376 _ _ ?_
      clear hK376
      refine qsr fun K380 hK380 => ?_
      refine qpu 2 hs fun a hs => ?_
      obtain ⟨v_383, h_382, hm⟩ := bind_t hm
      refine Vk.step (Vk.call (some 25) 160 #[pp b_x0, vi 1] hs (by kernel_rfl) (by kernel_rfl) (by kernel_rfl) ?_)
      refine (fresh_masks.ok k v_379 1 v_383 h_382 κ w (pt b_370 (blk [ci 0, ci 0, ci 0] 28) :: pt b_369 (blk ([C.slc A_362 (([0] : List Int).length) 1, C.slc A_364 (([0] : List Int).length) 1, C.slc none 0 0]) 160) :: pt b_368 (blk x1 28) :: rowp A_364 1 3 1 (eI .i64) ([0] : List Int) :: rowp A_362 1 3 1 (eI .i64) ([0] : List Int) :: pt b_3 (blk [ci 0, ci 0, ci 0] 28) :: pt b_2 (blk x1 28) :: S) b_x0 (Own.to hs.own [0, 1, 2, 3, 4, 5, 6, 7] 8 (by kernel_rfl) (by kernel_rfl))).mono ?_
      rintro _ w ⟨rfl, how⟩
      refine ⟨_, _, _, rfl, how, fun a hs => ?_⟩
      refine Vk.step (Vk.alloc 9 26 [ci 0, ci 0, ci 0] hs (by kernel_rfl) (by kernel_rfl) (by kernel_rfl) fun b_384 w a hs => ?_)
      obtain ⟨h_385, hm⟩ := ite_t hm
      refine Vk.step (Vk.storeA (b := b_384) (ty := 26) (x := (.tmp 9)) (y := (.tmp 25)) (sz := 3) v_383.1 0 hs (by kernel_rfl) (by kernel_rfl) (by kernel_rfl) (by kernel_rfl) (by kernel_rfl) h_385 (by kernel_rfl) rfl (Eq.trans (b := 3) h_385 (Eq.symm rfl)) fun a w hs => ?_)
      refine qpe 0 [(0, pp b_x0), (5, pp b_368), (7, pp b_369), (8, pp b_370), (9, pp b_384)] hs fun a hs => hK380 _ _ ?_
      clear hK380
      refine qsr fun K386 hK386 => ?_
      refine Vk.step (Vk.alloc 10 160 [C.slc none 0 0, C.slc none 0 0, C.slc none 0 0] hs (by kernel_rfl) (by kernel_rfl) (by kernel_rfl) fun b_387 w a hs => ?_)
      refine qpe 0 [(0, pp b_x0), (5, pp b_368), (7, pp b_369), (8, pp b_370), (9, pp b_384), (10, pp b_387)] hs fun a hs => hK386 _ _ ?_
      clear hK386
      refine Vk.seq fun K388 hK388 => ?_
      refine qsr fun K389 hK389 => ?_
      refine qln 4 ([C.slc A_362 (([0] : List Int).length) 1, C.slc A_364 (([0] : List Int).length) 1, C.slc none 0 0]) hs rfl fun a hs => ?_
      refine qpe 1 [(0, pp b_x0), (5, pp b_368), (8, pp b_370), (9, pp b_384), (10, pp b_387), (26, .agg (vals ([C.slc A_362 (([0] : List Int).length) 1, C.slc A_364 (([0] : List Int).length) 1, C.slc none 0 0]))), (27, vi 0)] hs fun a hs => hK389 _ _ ?_
      clear hK389
      refine wp_block ?_
      refine Vk.unroll0 40 ?_
      refine Vk.unroll fun KL390 hKL390 => ?_
      refine qsr fun K391 hK391 => ?_
      refine qpe 1 [(0, pp b_x0), (5, pp b_368), (8, pp b_370), (9, pp b_384), (10, pp b_387), (26, .agg (vals ([C.slc A_362 (([0] : List Int).length) 1, C.slc A_364 (([0] : List Int).length) 1, C.slc none 0 0]))), (27, vi 0), (28, .bool true)] hs fun a hs => hK391 _ _ ?_
      clear hK391
      refine Vk.seq fun K392 hK392 => ?_
      refine qct hs ?_
      refine wp_skip ?_
      refine hK392 _ _ ?_
      clear hK392
      refine Vk.seq fun K393 hK393 => ?_
      refine wp_block ?_
      refine qsr fun K394 hK394 => ?_
      refine qpe 4 [(0, pp b_x0), (5, pp b_368), (8, pp b_370), (9, pp b_384), (10, pp b_387), (11, vi 0), (12, .slice A_362 (([0] : List Int).length) 1), (26, .agg (vals ([C.slc A_362 (([0] : List Int).length) 1, C.slc A_364 (([0] : List Int).length) 1, C.slc none 0 0]))), (27, vi 0)] hs fun a hs => hK394 _ _ ?_
      clear hK394
      refine qsr fun K395 hK395 => ?_
      refine qpe 3 [(0, pp b_x0), (5, pp b_368), (8, pp b_370), (9, pp b_384), (10, pp b_387), (11, vi 0), (26, .agg (vals ([C.slc A_362 (([0] : List Int).length) 1, C.slc A_364 (([0] : List Int).length) 1, C.slc none 0 0]))), (27, vi 0), (31, .slice A_362 (([0] : List Int).length) 1), (32, vi 1), (33, vi 0)] hs fun a hs => hK395 _ _ ?_
      clear hK395
      refine wp_block ?_
      refine Vk.unroll0 40 ?_
      refine Vk.unroll fun KL396 hKL396 => ?_
      refine qsr fun K397 hK397 => ?_
      refine qpe 1 [(0, pp b_x0), (5, pp b_368), (8, pp b_370), (9, pp b_384), (10, pp b_387), (11, vi 0), (26, .agg (vals ([C.slc A_362 (([0] : List Int).length) 1, C.slc A_364 (([0] : List Int).length) 1, C.slc none 0 0]))), (27, vi 0), (31, .slice A_362 (([0] : List Int).length) 1), (32, vi 1), (33, vi 0), (34, .bool true)] hs fun a hs => hK397 _ _ ?_
      clear hK397
      refine Vk.seq fun K398 hK398 => ?_
      refine qct hs ?_
      refine wp_skip ?_
      refine hK398 _ _ ?_
      clear hK398
      refine Vk.seq fun K399 hK399 => ?_
      refine wp_block ?_
      refine qsr fun K400 hK400 => ?_
      obtain ⟨h_401, hm⟩ := ite_t hm
      obtain ⟨e_404, h_402, hm⟩ := bind_t hm
      obtain ⟨b_405, o_406, hA_407, h_403⟩ := Sl.elem (Own.rowSl 0 (Own.to (S' := rowp A_362 1 3 1 (eI .i64) ([0] : List Int) :: S) hs.own [7] 10 (by kernel_rfl) (by kernel_rfl)) rfl) h_402
      refine Vk.step (Vk.value (some 35) (.pointer (some ⟨b_405, o_406 + 0 * 1, none⟩)) hs (by kernel_rfl) (op := (.indexAddr 159 (.tmp 31) (.tmp 33))) (by kernel_rfl) (fun o ho => run_idxSlc (k := .i64) ho (cap := 1) (len := ([0] : List Int).length) ((congrArg (fun A => Value.slice A (([0] : List Int).length) (1)) hA_407) ▸ (by kernel_rfl)) (by kernel_rfl) (by kernel_rfl) (idx_ok h_401 h_402) _) fun a hs => ?_)
      refine Vk.step (Vk.value (some 36) (vi e_404) hs (by kernel_rfl) (op := (.load 3 (.tmp 35))) (by kernel_rfl) (fun o ho => run_load1 (c := ci e_404) ho (by kernel_rfl) (by kernel_rfl) (fun w ho => h_403 w ho 0 _ rfl) _ (Own.to (S' := rowp A_362 1 3 1 (eI .i64) ([0] : List Int) :: S) hs.own [7] 10 (by kernel_rfl) (by kernel_rfl))) fun a hs => ?_)
      refine qpe 1 [(0, pp b_x0), (5, pp b_368), (8, pp b_370), (9, pp b_384), (10, pp b_387), (11, vi 0), (14, vi e_404), (26, .agg (vals ([C.slc A_362 (([0] : List Int).length) 1, C.slc A_364 (([0] : List Int).length) 1, C.slc none 0 0]))), (27, vi 0), (31, .slice A_362 (([0] : List Int).length) 1), (32, vi 1), (33, vi 0)] hs fun a hs => hK400 _ _ ?_
      clear hK400
      obtain ⟨C_408, hC_408⟩ : ∃ X0 : List HP, X0 = (pt b_387 (blk [C.slc none 0 0, C.slc none 0 0, C.slc none 0 0] 160) :: pt b_384 (blk v_383.1 26) :: Twire_Machine.own b_x0 v_383.2 :: pt b_370 (blk [ci 0, ci 0, ci 0] 28) :: pt b_369 (blk ([C.slc A_362 (([0] : List Int).length) 1, C.slc A_364 (([0] : List Int).length) 1, C.slc none 0 0]) 160) :: pt b_368 (blk x1 28) :: rowp A_364 1 3 1 (eI .i64) ([0] : List Int) :: rowp A_362 1 3 1 (eI .i64) ([0] : List Int) :: pt b_3 (blk [ci 0, ci 0, ci 0] 28) :: pt b_2 (blk x1 28) :: S) := ⟨_, rfl⟩
      refine qdr 10 κ C_408 hs fun w hs hqC_408 => ?_
      have hcz : Own κ w (pt b_387 (blk [C.slc none 0 0, C.slc none 0 0, C.slc none 0 0] 160) :: pt b_384 (blk v_383.1 26) :: Twire_Machine.own b_x0 v_383.2 :: pt b_370 (blk [ci 0, ci 0, ci 0] 28) :: pt b_369 (blk ([C.slc A_362 (([0] : List Int).length) 1, C.slc A_364 (([0] : List Int).length) 1, C.slc none 0 0]) 160) :: pt b_368 (blk x1 28) :: rowp A_364 1 3 1 (eI .i64) ([0] : List Int) :: rowp A_362 1 3 1 (eI .i64) ([0] : List Int) :: pt b_3 (blk [ci 0, ci 0, ci 0] 28) :: pt b_2 (blk x1 28) :: S) := (Own.to hs.own [0, 1, 2, 3, 4, 5, 6, 7, 8, 9] 10 (by kernel_rfl) (by kernel_rfl))
      have hcl : Own κ w C_408 := by rw [hC_408]; exact hcz
      refine qdp (fuel := 7) [0, 1, 2, 4] hs hcl hqC_408 fun a hs => ?_
      refine qdl 3 0 (C.slc none 0 0) hs hcl hqC_408 hC_408 rfl fun a hs => ?_
      obtain ⟨h_409, hm⟩ := ite_t hm
      refine Vk.dTakeT (i := 5) (some 42) (.pointer (some ⟨b_384, 0 + e_404.toNat * 1, none⟩)) hs (by kernel_rfl) hqC_408 hcl (by kernel_rfl) (by kernel_rfl) (op := (.indexAddr 26 (.tmp 9) (.tmp 41))) (by kernel_rfl) (by kernel_rfl) (fun w hw o ho => by rw [hC_408] at hw; exact run_idxArr (k := .i64) ho (by kernel_rfl) (by kernel_rfl) (by kernel_rfl) h_409 _) fun a hs => ?_
      obtain ⟨v_411, h_410, hm⟩ := bind_t hm
      refine Vk.dTakeT (i := 6) (some 43) (vi v_411) hs (by kernel_rfl) hqC_408 hcl (by kernel_rfl) (by kernel_rfl) (op := (.load 3 (.tmp 42))) (by kernel_rfl) (by kernel_rfl) (fun w hw o ho => by rw [hC_408] at hw; exact run_load1 (c := ci v_411) ho (by kernel_rfl) (by kernel_rfl) (Cell.own 1 rfl (getI_some h_410)) _ hw) fun a hs => ?_
      refine Vk.dOnly (i := 7) (by kernel_rfl) (Vk.buildOp (sz := 1) (by_ := 8) (t := 159) (e := 3) (parts := #[(0, (.tmp 43))]) (zs := vals [ci 0]) ([v_411] : List Int) (eI .i64) (some 44) hs (by kernel_rfl) (by kernel_rfl) (by kernel_rfl) (by kernel_rfl) (by decide) rfl (fun x _ => rfl) (Nat.le_of_ble_eq_true (by kernel_rfl)) (by kernel_rfl) fun A_412 w a hs => ?_)
      replace hcl : Own κ w C_408 := by rw [hC_408]; exact (Own.to hs.own [1, 2, 3, 4, 5, 6, 7, 8, 9, 10] 11 (by kernel_rfl) (by kernel_rfl))
      refine ⟨fun _ => hcl, ?_⟩
      replace hs := hs.addRow none 3 1 (eI .i64)
      obtain ⟨h_415, hm⟩ := ite_t hm
      refine Vk.dOnly (i := 8) (by kernel_rfl) (Vk.appendOp (x := (.tmp 40)) (y := (.tmp 44)) (e := 3) (t := 159) (by_ := 8) (sz := 1) (enc := (eI .i64)) (A := none) (cap := 0) (xs := ([] : List Int)) (ys := ([v_411] : List Int)) (B := A_412) (c2 := 1) 0 (some 45) hs (by kernel_rfl) (by kernel_rfl) (by kernel_rfl) (by kernel_rfl) rfl (Sl.lift (fun w ho => (Own.to (S' := rowp A_412 1 3 1 (eI .i64) ([v_411] : List Int) :: S) ho [1] 12 (by kernel_rfl) (by kernel_rfl))) (Own.rowSl 0 (Own.to (S' := rowp A_412 1 3 1 (eI .i64) ([v_411] : List Int) :: S) hs.own [1] 12 (by kernel_rfl) (by kernel_rfl)) rfl)) (by kernel_rfl) (by kernel_rfl) (by decide) (by decide) h_415 fun A_416 c_417 w a hs => ?_)
      replace hcl : Own κ w C_408 := by rw [hC_408]; exact (Own.to hs.own [2, 3, 4, 5, 6, 7, 8, 9, 10, 11] 12 (by kernel_rfl) (by kernel_rfl))
      refine ⟨fun _ => hcl, ?_⟩
      refine qdp (fuel := 1) [9] hs hcl hqC_408 fun a hs => ?_
      refine Vk.dOnly (i := 10) (by kernel_rfl) (Vk.store1 (b := b_387) (ty := 159) (x := (.tmp 46)) (y := (.tmp 45)) (off := 0) (C.slc A_416 ((([] : List Int) ++ ([v_411] : List Int)).length) c_417) 2 hs (by kernel_rfl) (by kernel_rfl) (by kernel_rfl) (by kernel_rfl) (by kernel_rfl) (by kernel_rfl) rfl (Nat.le_of_ble_eq_true (by kernel_rfl)) fun a w hs => ?_)
      refine ⟨fun h => absurd h (by decide), ?_⟩
      replace hs := hs.pick [0, 5, 8, 9, 10, 11, 26, 27, 31, 32, 33] (L' := [(0, pp b_x0), (5, pp b_368), (8, pp b_370), (9, pp b_384), (10, pp b_387), (11, vi 0), (26, .agg (vals ([C.slc A_362 (([0] : List Int).length) 1, C.slc A_364 (([0] : List Int).length) 1, C.slc none 0 0]))), (27, vi 0), (31, .slice A_362 (([0] : List Int).length) 1), (32, vi 1), (33, vi 0)]) (by kernel_rfl)
      refine Vk.dDone (by kernel_rfl) ?_
      refine hK399 _ _ ?_
      clear hK399
      refine Vk.region ?_
      refine qpe 2 [(0, pp b_x0), (5, pp b_368), (8, pp b_370), (9, pp b_384), (10, pp b_387), (11, vi 0), (26, .agg (vals ([C.slc A_362 (([0] : List Int).length) 1, C.slc A_364 (([0] : List Int).length) 1, C.slc none 0 0]))), (27, vi 0), (31, .slice A_362 (([0] : List Int).length) 1), (32, vi 1), (33, vi 1)] hs fun a hs => hKL396 _ _ ?_
      clear hKL396
      refine Vk.unroll fun KL418 hKL418 => ?_
      refine qsr fun K419 hK419 => ?_
      refine qpe 1 [(0, pp b_x0), (5, pp b_368), (8, pp b_370), (9, pp b_384), (10, pp b_387), (11, vi 0), (26, .agg (vals ([C.slc A_362 (([0] : List Int).length) 1, C.slc A_364 (([0] : List Int).length) 1, C.slc none 0 0]))), (27, vi 0), (31, .slice A_362 (([0] : List Int).length) 1), (32, vi 1), (33, vi 1), (34, .bool false)] hs fun a hs => hK419 _ _ ?_
      clear hK419
      refine Vk.seq fun K420 hK420 => ?_
      refine qcf hs ?_
      refine wp_exit ?_
      refine hK393 _ _ ?_
      clear hK393
      refine Vk.region ?_
      refine qpe 2 [(0, pp b_x0), (5, pp b_368), (8, pp b_370), (9, pp b_384), (10, pp b_387), (26, .agg (vals ([C.slc A_362 (([0] : List Int).length) 1, C.slc A_364 (([0] : List Int).length) 1, C.slc none 0 0]))), (27, vi 1)] hs fun a hs => hKL390 _ _ ?_
      clear hKL390
      refine Vk.unroll fun KL421 hKL421 => ?_
      refine qsr fun K422 hK422 => ?_
      refine qpe 1 [(0, pp b_x0), (5, pp b_368), (8, pp b_370), (9, pp b_384), (10, pp b_387), (26, .agg (vals ([C.slc A_362 (([0] : List Int).length) 1, C.slc A_364 (([0] : List Int).length) 1, C.slc none 0 0]))), (27, vi 1), (28, .bool true)] hs fun a hs => hK422 _ _ ?_
      clear hK422
      refine Vk.seq fun K423 hK423 => ?_
      refine qct hs ?_
      refine wp_skip ?_
      refine hK423 _ _ ?_
      clear hK423
      refine Vk.seq fun K424 hK424 => ?_
      refine wp_block ?_
      refine qsr fun K425 hK425 => ?_
      refine qpe 4 [(0, pp b_x0), (5, pp b_368), (8, pp b_370), (9, pp b_384), (10, pp b_387), (11, vi 1), (12, .slice A_364 (([0] : List Int).length) 1), (26, .agg (vals ([C.slc A_362 (([0] : List Int).length) 1, C.slc A_364 (([0] : List Int).length) 1, C.slc none 0 0]))), (27, vi 1)] hs fun a hs => hK425 _ _ ?_
      clear hK425
      refine qsr fun K426 hK426 => ?_
      refine qpe 3 [(0, pp b_x0), (5, pp b_368), (8, pp b_370), (9, pp b_384), (10, pp b_387), (11, vi 1), (26, .agg (vals ([C.slc A_362 (([0] : List Int).length) 1, C.slc A_364 (([0] : List Int).length) 1, C.slc none 0 0]))), (27, vi 1), (31, .slice A_364 (([0] : List Int).length) 1), (32, vi 1), (33, vi 0)] hs fun a hs => hK426 _ _ ?_
      clear hK426
      refine wp_block ?_
      refine Vk.unroll0 40 ?_
      refine Vk.unroll fun KL427 hKL427 => ?_
      refine qsr fun K428 hK428 => ?_
      refine qpe 1 [(0, pp b_x0), (5, pp b_368), (8, pp b_370), (9, pp b_384), (10, pp b_387), (11, vi 1), (26, .agg (vals ([C.slc A_362 (([0] : List Int).length) 1, C.slc A_364 (([0] : List Int).length) 1, C.slc none 0 0]))), (27, vi 1), (31, .slice A_364 (([0] : List Int).length) 1), (32, vi 1), (33, vi 0), (34, .bool true)] hs fun a hs => hK428 _ _ ?_
      clear hK428
      refine Vk.seq fun K429 hK429 => ?_
      refine qct hs ?_
      refine wp_skip ?_
      refine hK429 _ _ ?_
      clear hK429
      refine Vk.seq fun K430 hK430 => ?_
      refine wp_block ?_
      refine qsr fun K431 hK431 => ?_
      obtain ⟨h_432, hm⟩ := ite_t hm
      obtain ⟨e_435, h_433, hm⟩ := bind_t hm
      obtain ⟨b_436, o_437, hA_438, h_434⟩ := Sl.elem (Own.rowSl 0 (Own.to (S' := rowp A_364 1 3 1 (eI .i64) ([0] : List Int) :: S) hs.own [8] 12 (by kernel_rfl) (by kernel_rfl)) rfl) h_433
      refine Vk.step (Vk.value (some 35) (.pointer (some ⟨b_436, o_437 + 0 * 1, none⟩)) hs (by kernel_rfl) (op := (.indexAddr 159 (.tmp 31) (.tmp 33))) (by kernel_rfl) (fun o ho => run_idxSlc (k := .i64) ho (cap := 1) (len := ([0] : List Int).length) ((congrArg (fun A => Value.slice A (([0] : List Int).length) (1)) hA_438) ▸ (by kernel_rfl)) (by kernel_rfl) (by kernel_rfl) (idx_ok h_432 h_433) _) fun a hs => ?_)
      refine Vk.step (Vk.value (some 36) (vi e_435) hs (by kernel_rfl) (op := (.load 3 (.tmp 35))) (by kernel_rfl) (fun o ho => run_load1 (c := ci e_435) ho (by kernel_rfl) (by kernel_rfl) (fun w ho => h_434 w ho 0 _ rfl) _ (Own.to (S' := rowp A_364 1 3 1 (eI .i64) ([0] : List Int) :: S) hs.own [8] 12 (by kernel_rfl) (by kernel_rfl))) fun a hs => ?_)
      refine qpe 1 [(0, pp b_x0), (5, pp b_368), (8, pp b_370), (9, pp b_384), (10, pp b_387), (11, vi 1), (14, vi e_435), (26, .agg (vals ([C.slc A_362 (([0] : List Int).length) 1, C.slc A_364 (([0] : List Int).length) 1, C.slc none 0 0]))), (27, vi 1), (31, .slice A_364 (([0] : List Int).length) 1), (32, vi 1), (33, vi 0)] hs fun a hs => hK431 _ _ ?_
      clear hK431
      obtain ⟨C_439, hC_439⟩ : ∃ X0 : List HP, X0 = (rowp A_416 c_417 3 1 (eI .i64) (([] : List Int) ++ ([v_411] : List Int)) :: rowp A_412 1 3 1 (eI .i64) ([v_411] : List Int) :: pt b_387 (blk ([C.slc A_416 ((([] : List Int) ++ ([v_411] : List Int)).length) c_417, C.slc none 0 0, C.slc none 0 0]) 160) :: pt b_384 (blk v_383.1 26) :: Twire_Machine.own b_x0 v_383.2 :: pt b_370 (blk [ci 0, ci 0, ci 0] 28) :: pt b_369 (blk ([C.slc A_362 (([0] : List Int).length) 1, C.slc A_364 (([0] : List Int).length) 1, C.slc none 0 0]) 160) :: pt b_368 (blk x1 28) :: rowp A_364 1 3 1 (eI .i64) ([0] : List Int) :: rowp A_362 1 3 1 (eI .i64) ([0] : List Int) :: pt b_3 (blk [ci 0, ci 0, ci 0] 28) :: pt b_2 (blk x1 28) :: S) := ⟨_, rfl⟩
      refine qdr 10 κ C_439 hs fun w hs hqC_439 => ?_
      have hcz : Own κ w (rowp A_416 c_417 3 1 (eI .i64) (([] : List Int) ++ ([v_411] : List Int)) :: rowp A_412 1 3 1 (eI .i64) ([v_411] : List Int) :: pt b_387 (blk ([C.slc A_416 ((([] : List Int) ++ ([v_411] : List Int)).length) c_417, C.slc none 0 0, C.slc none 0 0]) 160) :: pt b_384 (blk v_383.1 26) :: Twire_Machine.own b_x0 v_383.2 :: pt b_370 (blk [ci 0, ci 0, ci 0] 28) :: pt b_369 (blk ([C.slc A_362 (([0] : List Int).length) 1, C.slc A_364 (([0] : List Int).length) 1, C.slc none 0 0]) 160) :: pt b_368 (blk x1 28) :: rowp A_364 1 3 1 (eI .i64) ([0] : List Int) :: rowp A_362 1 3 1 (eI .i64) ([0] : List Int) :: pt b_3 (blk [ci 0, ci 0, ci 0] 28) :: pt b_2 (blk x1 28) :: S) := (Own.to hs.own [0, 1, 2, 3, 4, 5, 6, 7, 8, 9, 10, 11] 12 (by kernel_rfl) (by kernel_rfl))
      have hcl : Own κ w C_439 := by rw [hC_439]; exact hcz
      refine qdp (fuel := 7) [0, 1, 2, 4] hs hcl hqC_439 fun a hs => ?_
      refine qdl 3 2 (C.slc none 0 0) hs hcl hqC_439 hC_439 rfl fun a hs => ?_
      obtain ⟨h_440, hm⟩ := ite_t hm
      refine Vk.dTakeT (i := 5) (some 42) (.pointer (some ⟨b_384, 0 + e_435.toNat * 1, none⟩)) hs (by kernel_rfl) hqC_439 hcl (by kernel_rfl) (by kernel_rfl) (op := (.indexAddr 26 (.tmp 9) (.tmp 41))) (by kernel_rfl) (by kernel_rfl) (fun w hw o ho => by rw [hC_439] at hw; exact run_idxArr (k := .i64) ho (by kernel_rfl) (by kernel_rfl) (by kernel_rfl) h_440 _) fun a hs => ?_
      obtain ⟨v_442, h_441, hm⟩ := bind_t hm
      refine Vk.dTakeT (i := 6) (some 43) (vi v_442) hs (by kernel_rfl) hqC_439 hcl (by kernel_rfl) (by kernel_rfl) (op := (.load 3 (.tmp 42))) (by kernel_rfl) (by kernel_rfl) (fun w hw o ho => by rw [hC_439] at hw; exact run_load1 (c := ci v_442) ho (by kernel_rfl) (by kernel_rfl) (Cell.own 3 rfl (getI_some h_441)) _ hw) fun a hs => ?_
      refine Vk.dOnly (i := 7) (by kernel_rfl) (Vk.buildOp (sz := 1) (by_ := 8) (t := 159) (e := 3) (parts := #[(0, (.tmp 43))]) (zs := vals [ci 0]) ([v_442] : List Int) (eI .i64) (some 44) hs (by kernel_rfl) (by kernel_rfl) (by kernel_rfl) (by kernel_rfl) (by decide) rfl (fun x _ => rfl) (Nat.le_of_ble_eq_true (by kernel_rfl)) (by kernel_rfl) fun A_443 w a hs => ?_)
      replace hcl : Own κ w C_439 := by rw [hC_439]; exact (Own.to hs.own [1, 2, 3, 4, 5, 6, 7, 8, 9, 10, 11, 12] 13 (by kernel_rfl) (by kernel_rfl))
      refine ⟨fun _ => hcl, ?_⟩
      replace hs := hs.addRow none 3 1 (eI .i64)
      obtain ⟨h_446, hm⟩ := ite_t hm
      refine Vk.dOnly (i := 8) (by kernel_rfl) (Vk.appendOp (x := (.tmp 40)) (y := (.tmp 44)) (e := 3) (t := 159) (by_ := 8) (sz := 1) (enc := (eI .i64)) (A := none) (cap := 0) (xs := ([] : List Int)) (ys := ([v_442] : List Int)) (B := A_443) (c2 := 1) 0 (some 45) hs (by kernel_rfl) (by kernel_rfl) (by kernel_rfl) (by kernel_rfl) rfl (Sl.lift (fun w ho => (Own.to (S' := rowp A_443 1 3 1 (eI .i64) ([v_442] : List Int) :: S) ho [1] 14 (by kernel_rfl) (by kernel_rfl))) (Own.rowSl 0 (Own.to (S' := rowp A_443 1 3 1 (eI .i64) ([v_442] : List Int) :: S) hs.own [1] 14 (by kernel_rfl) (by kernel_rfl)) rfl)) (by kernel_rfl) (by kernel_rfl) (by decide) (by decide) h_446 fun A_447 c_448 w a hs => ?_)
      replace hcl : Own κ w C_439 := by rw [hC_439]; exact (Own.to hs.own [2, 3, 4, 5, 6, 7, 8, 9, 10, 11, 12, 13] 14 (by kernel_rfl) (by kernel_rfl))
      refine ⟨fun _ => hcl, ?_⟩
      refine qdp (fuel := 1) [9] hs hcl hqC_439 fun a hs => ?_
      refine Vk.dOnly (i := 10) (by kernel_rfl) (Vk.store1 (b := b_387) (ty := 159) (x := (.tmp 46)) (y := (.tmp 45)) (off := 1) (C.slc A_447 ((([] : List Int) ++ ([v_442] : List Int)).length) c_448) 4 hs (by kernel_rfl) (by kernel_rfl) (by kernel_rfl) (by kernel_rfl) (by kernel_rfl) (by kernel_rfl) rfl (Nat.le_of_ble_eq_true (by kernel_rfl)) fun a w hs => ?_)
      refine ⟨fun h => absurd h (by decide), ?_⟩
      replace hs := hs.pick [0, 5, 8, 9, 10, 11, 26, 27, 31, 32, 33] (L' := [(0, pp b_x0), (5, pp b_368), (8, pp b_370), (9, pp b_384), (10, pp b_387), (11, vi 1), (26, .agg (vals ([C.slc A_362 (([0] : List Int).length) 1, C.slc A_364 (([0] : List Int).length) 1, C.slc none 0 0]))), (27, vi 1), (31, .slice A_364 (([0] : List Int).length) 1), (32, vi 1), (33, vi 0)]) (by kernel_rfl)
      refine Vk.dDone (by kernel_rfl) ?_
      refine hK430 _ _ ?_
      clear hK430
      refine Vk.region ?_
      refine qpe 2 [(0, pp b_x0), (5, pp b_368), (8, pp b_370), (9, pp b_384), (10, pp b_387), (11, vi 1), (26, .agg (vals ([C.slc A_362 (([0] : List Int).length) 1, C.slc A_364 (([0] : List Int).length) 1, C.slc none 0 0]))), (27, vi 1), (31, .slice A_364 (([0] : List Int).length) 1), (32, vi 1), (33, vi 1)] hs fun a hs => hKL427 _ _ ?_
      clear hKL427
      refine Vk.unroll fun KL449 hKL449 => ?_
      refine qsr fun K450 hK450 => ?_
      refine qpe 1 [(0, pp b_x0), (5, pp b_368), (8, pp b_370), (9, pp b_384), (10, pp b_387), (11, vi 1), (26, .agg (vals ([C.slc A_362 (([0] : List Int).length) 1, C.slc A_364 (([0] : List Int).length) 1, C.slc none 0 0]))), (27, vi 1), (31, .slice A_364 (([0] : List Int).length) 1), (32, vi 1), (33, vi 1), (34, .bool false)] hs fun a hs => hK450 _ _ ?_
      clear hK450
      refine Vk.seq fun K451 hK451 => ?_
      refine qcf hs ?_
      refine wp_exit ?_
      refine hK424 _ _ ?_
      clear hK424
      refine Vk.region ?_
      refine qpe 2 [(0, pp b_x0), (5, pp b_368), (8, pp b_370), (9, pp b_384), (10, pp b_387), (26, .agg (vals ([C.slc A_362 (([0] : List Int).length) 1, C.slc A_364 (([0] : List Int).length) 1, C.slc none 0 0]))), (27, vi 2)] hs fun a hs => hKL421 _ _ ?_
      clear hKL421
      refine Vk.unroll fun KL452 hKL452 => ?_
      refine qsr fun K453 hK453 => ?_
      refine qpe 1 [(0, pp b_x0), (5, pp b_368), (8, pp b_370), (9, pp b_384), (10, pp b_387), (26, .agg (vals ([C.slc A_362 (([0] : List Int).length) 1, C.slc A_364 (([0] : List Int).length) 1, C.slc none 0 0]))), (27, vi 2), (28, .bool true)] hs fun a hs => hK453 _ _ ?_
      clear hK453
      refine Vk.seq fun K454 hK454 => ?_
      refine qct hs ?_
      refine wp_skip ?_
      refine hK454 _ _ ?_
      clear hK454
      refine Vk.seq fun K455 hK455 => ?_
      refine wp_block ?_
      refine qsr fun K456 hK456 => ?_
      refine qpe 4 [(0, pp b_x0), (5, pp b_368), (8, pp b_370), (9, pp b_384), (10, pp b_387), (11, vi 2), (12, .slice none 0 0), (26, .agg (vals ([C.slc A_362 (([0] : List Int).length) 1, C.slc A_364 (([0] : List Int).length) 1, C.slc none 0 0]))), (27, vi 2)] hs fun a hs => hK456 _ _ ?_
      clear hK456
      refine qsr fun K457 hK457 => ?_
      refine qpe 3 [(0, pp b_x0), (5, pp b_368), (8, pp b_370), (9, pp b_384), (10, pp b_387), (11, vi 2), (26, .agg (vals ([C.slc A_362 (([0] : List Int).length) 1, C.slc A_364 (([0] : List Int).length) 1, C.slc none 0 0]))), (27, vi 2), (31, .slice none 0 0), (32, vi 0), (33, vi 0)] hs fun a hs => hK457 _ _ ?_
      clear hK457
      refine wp_block ?_
      refine Vk.unroll0 40 ?_
      refine Vk.unroll fun KL458 hKL458 => ?_
      refine qsr fun K459 hK459 => ?_
      refine qpe 1 [(0, pp b_x0), (5, pp b_368), (8, pp b_370), (9, pp b_384), (10, pp b_387), (11, vi 2), (26, .agg (vals ([C.slc A_362 (([0] : List Int).length) 1, C.slc A_364 (([0] : List Int).length) 1, C.slc none 0 0]))), (27, vi 2), (31, .slice none 0 0), (32, vi 0), (33, vi 0), (34, .bool false)] hs fun a hs => hK459 _ _ ?_
      clear hK459
      refine Vk.seq fun K460 hK460 => ?_
      refine qcf hs ?_
      refine wp_exit ?_
      refine hK455 _ _ ?_
      clear hK455
      refine Vk.region ?_
      refine qpe 2 [(0, pp b_x0), (5, pp b_368), (8, pp b_370), (9, pp b_384), (10, pp b_387), (26, .agg (vals ([C.slc A_362 (([0] : List Int).length) 1, C.slc A_364 (([0] : List Int).length) 1, C.slc none 0 0]))), (27, vi 3)] hs fun a hs => hKL452 _ _ ?_
      clear hKL452
      refine Vk.unroll fun KL461 hKL461 => ?_
      refine qsr fun K462 hK462 => ?_
      refine qpe 1 [(0, pp b_x0), (5, pp b_368), (8, pp b_370), (9, pp b_384), (10, pp b_387), (26, .agg (vals ([C.slc A_362 (([0] : List Int).length) 1, C.slc A_364 (([0] : List Int).length) 1, C.slc none 0 0]))), (27, vi 3), (28, .bool false)] hs fun a hs => hK462 _ _ ?_
      clear hK462
      refine Vk.seq fun K463 hK463 => ?_
      refine qcf hs ?_
      refine wp_exit ?_
      refine hK388 _ _ ?_
      clear hK388
      refine qsr fun K464 hK464 => ?_
      refine qpu 1 hs fun a hs => ?_
      refine Vk.step (Vk.value (some 50) (.agg (vals x1)) hs (by kernel_rfl) (op := (.load 28 (.tmp 5))) (by kernel_rfl) (fun o ho => run_loadN (cs := x1) ho (by kernel_rfl) (by kernel_rfl) h_361 (CellsAt.all 9 rfl) _ hs.own) fun a hs => ?_)
      refine qln 4 ([C.slc A_416 ((([] : List Int) ++ ([v_411] : List Int)).length) c_417, C.slc A_447 ((([] : List Int) ++ ([v_442] : List Int)).length) c_448, C.slc none 0 0]) hs rfl fun a hs => ?_
      refine Vk.step (Vk.call (some 52) 161 #[pp b_x0, .agg (vals x1), .agg (vals ([C.slc A_416 ((([] : List Int) ++ ([v_411] : List Int)).length) c_417, C.slc A_447 ((([] : List Int) ++ ([v_442] : List Int)).length) c_448, C.slc none 0 0]))] hs (by kernel_rfl) (by kernel_rfl) (by kernel_rfl) ?_)
      refine Vk.enterI [(0, pp b_x0), (1, .agg (vals x1)), (2, .agg (vals ([C.slc A_416 ((([] : List Int) ++ ([v_411] : List Int)).length) c_417, C.slc A_447 ((([] : List Int) ++ ([v_442] : List Int)).length) c_448, C.slc none 0 0])))] Try.func161 rfl Try.ntmps161 (by kernel_rfl) (Nat.le_of_ble_eq_true (by kernel_rfl)) hs.own fun KR465 hKR465 hKP465 a hs => ?_
      refine qsr fun K466 hK466 => ?_
      refine Vk.step (Vk.box (x := (.tmp 1)) 4 28 x1 hs (by kernel_rfl) (by kernel_rfl) (by kernel_rfl) fun b_467 w a hs => ?_)
      refine Vk.step (Vk.box (x := (.tmp 2)) 5 160 ([C.slc A_416 ((([] : List Int) ++ ([v_411] : List Int)).length) c_417, C.slc A_447 ((([] : List Int) ++ ([v_442] : List Int)).length) c_448, C.slc none 0 0]) hs (by kernel_rfl) (by kernel_rfl) (by kernel_rfl) fun b_468 w a hs => ?_)
      refine Vk.step (Vk.alloc 6 28 [ci 0, ci 0, ci 0] hs (by kernel_rfl) (by kernel_rfl) (by kernel_rfl) fun b_469 w a hs => ?_)
      refine qpe 0 [(0, pp b_x0), (4, pp b_467), (5, pp b_468), (6, pp b_469)] hs fun a hs => hK466 _ _ ?_
      clear hK466
      refine qsr fun K470 hK470 => ?_
      refine Vk.step (Vk.value (some 11) (.agg (vals x1)) hs (by kernel_rfl) (op := (.load 28 (.tmp 4))) (by kernel_rfl) (fun o ho => run_loadN (cs := x1) ho (by kernel_rfl) (by kernel_rfl) h_361 (CellsAt.all 2 rfl) _ hs.own) fun a hs => ?_)
      refine Vk.step (Vk.alloc 7 28 [ci 0, ci 0, ci 0] hs (by kernel_rfl) (by kernel_rfl) (by kernel_rfl) fun b_471 w a hs => ?_)
      refine Vk.step (Vk.storeA (b := b_471) (ty := 28) (x := (.tmp 7)) (y := (.tmp 11)) (sz := 3) x1 0 hs (by kernel_rfl) (by kernel_rfl) (by kernel_rfl) (by kernel_rfl) (by kernel_rfl) h_361 (by kernel_rfl) rfl (Eq.trans (b := 3) h_361 (Eq.symm rfl)) fun a w hs => ?_)
      refine qpe 0 [(0, pp b_x0), (5, pp b_468), (6, pp b_469), (7, pp b_471)] hs fun a hs => hK470 _ _ ?_
      clear hK470
      refine Vk.seq fun K472 hK472 => ?_
      refine qsr fun K473 hK473 => ?_
      refine qpu 1 hs fun a hs => ?_
      obtain ⟨g_474, hs⟩ := hs.unex 10 rfl
      obtain ⟨v_477, h_476, hm⟩ := bind_t hm
      refine Vk.step (Vk.call (some 13) 89 #[pp b_x0] hs (by kernel_rfl) (by kernel_rfl) (by kernel_rfl) ?_)
      refine (wire_Machine_N.ok k v_383.2 v_477 h_476 κ w (pt b_471 (blk x1 28) :: pt b_469 (blk [ci 0, ci 0, ci 0] 28) :: pt b_468 (blk ([C.slc A_416 ((([] : List Int) ++ ([v_411] : List Int)).length) c_417, C.slc A_447 ((([] : List Int) ++ ([v_442] : List Int)).length) c_448, C.slc none 0 0]) 160) :: pt b_467 (blk x1 28) :: rowp A_447 c_448 3 1 (eI .i64) (([] : List Int) ++ ([v_442] : List Int)) :: rowp A_443 1 3 1 (eI .i64) ([v_442] : List Int) :: rowp A_416 c_417 3 1 (eI .i64) (([] : List Int) ++ ([v_411] : List Int)) :: rowp A_412 1 3 1 (eI .i64) ([v_411] : List Int) :: pt b_387 (blk ([C.slc A_416 ((([] : List Int) ++ ([v_411] : List Int)).length) c_417, C.slc A_447 ((([] : List Int) ++ ([v_442] : List Int)).length) c_448, C.slc none 0 0]) 160) :: pt b_384 (blk v_383.1 26) :: pt b_370 (blk [ci 0, ci 0, ci 0] 28) :: pt b_369 (blk ([C.slc A_362 (([0] : List Int).length) 1, C.slc A_364 (([0] : List Int).length) 1, C.slc none 0 0]) 160) :: pt b_368 (blk x1 28) :: rowp A_364 1 3 1 (eI .i64) ([0] : List Int) :: rowp A_362 1 3 1 (eI .i64) ([0] : List Int) :: pt b_3 (blk [ci 0, ci 0, ci 0] 28) :: pt b_2 (blk x1 28) :: S) b_x0 g_474 (Own.to hs.own [10, 0, 1, 2, 3, 4, 5, 6, 7, 8, 9, 11, 12, 13, 14, 15, 16, 17] 18 (by kernel_rfl) (by kernel_rfl))).mono ?_
      rintro _ w ⟨rfl, how⟩
      refine ⟨_, _, _, rfl, how, fun a hs => ?_⟩
      rcases Bool.eq_false_or_eq_true (v_477 == 2) with hb | hb
      · replace hm := bif_t hm hb
        obtain rfl := Vk.of_beq hb
        refine qpe 1 [(0, pp b_x0), (5, pp b_468), (6, pp b_469), (7, pp b_471), (13, vi 2), (14, vi 0)] hs fun a hs => hK473 _ _ ?_
        clear hK473
        refine wp_block ?_
        refine Vk.unroll0 40 ?_
        refine Vk.unroll fun KL478 hKL478 => ?_
        refine qsr fun K479 hK479 => ?_
        refine qpe 1 [(0, pp b_x0), (5, pp b_468), (6, pp b_469), (7, pp b_471), (13, vi 2), (14, vi 0), (15, .bool true)] hs fun a hs => hK479 _ _ ?_
        clear hK479
        refine Vk.seq fun K480 hK480 => ?_
        refine qct hs ?_
        refine wp_skip ?_
        refine hK480 _ _ ?_
        clear hK480
        refine Vk.seq fun K481 hK481 => ?_
        refine wp_block ?_
        refine qsr fun K482 hK482 => ?_
        refine qpe 2 [(0, pp b_x0), (5, pp b_468), (6, pp b_469), (7, pp b_471), (8, vi 0), (13, vi 2), (14, vi 0)] hs fun a hs => hK482 _ _ ?_
        clear hK482
        refine qsr fun K483 hK483 => ?_
        refine qpu 2 hs fun a hs => ?_
        refine qld 3 (C.slc A_416 ((([] : List Int) ++ ([v_411] : List Int)).length) c_417) hs rfl fun a hs => ?_
        refine qpe 2 [(0, pp b_x0), (5, pp b_468), (6, pp b_469), (7, pp b_471), (8, vi 0), (13, vi 2), (14, vi 0), (19, .slice A_416 ((([] : List Int) ++ ([v_411] : List Int)).length) c_417), (20, vi 1), (21, vi 0)] hs fun a hs => hK483 _ _ ?_
        clear hK483
        refine wp_block ?_
        refine Vk.unroll0 40 ?_
        refine Vk.unroll fun KL484 hKL484 => ?_
        refine qsr fun K485 hK485 => ?_
        refine qpe 1 [(0, pp b_x0), (5, pp b_468), (6, pp b_469), (7, pp b_471), (8, vi 0), (13, vi 2), (14, vi 0), (19, .slice A_416 ((([] : List Int) ++ ([v_411] : List Int)).length) c_417), (20, vi 1), (21, vi 0), (22, .bool true)] hs fun a hs => hK485 _ _ ?_
        clear hK485
        refine Vk.seq fun K486 hK486 => ?_
        refine qct hs ?_
        refine wp_skip ?_
        refine hK486 _ _ ?_
        clear hK486
        refine Vk.seq fun K487 hK487 => ?_
        refine wp_block ?_
        refine qsr fun K488 hK488 => ?_
        obtain ⟨h_489, hm⟩ := ite_t hm
        obtain ⟨e_492, h_490, hm⟩ := bind_t hm
        obtain ⟨b_493, o_494, hA_495, h_491⟩ := Sl.elem (Own.rowSl 0 (Own.to (S' := rowp A_416 c_417 3 1 (eI .i64) (([] : List Int) ++ ([v_411] : List Int)) :: S) hs.own [7] 18 (by kernel_rfl) (by kernel_rfl)) rfl) h_490
        refine Vk.step (Vk.value (some 23) (.pointer (some ⟨b_493, o_494 + 0 * 1, none⟩)) hs (by kernel_rfl) (op := (.indexAddr 159 (.tmp 19) (.tmp 21))) (by kernel_rfl) (fun o ho => run_idxSlc (k := .i64) ho (cap := c_417) (len := (([] : List Int) ++ ([v_411] : List Int)).length) ((congrArg (fun A => Value.slice A ((([] : List Int) ++ ([v_411] : List Int)).length) (c_417)) hA_495) ▸ (by kernel_rfl)) (by kernel_rfl) (by kernel_rfl) (idx_ok h_489 h_490) _) fun a hs => ?_)
        refine Vk.step (Vk.value (some 24) (vi e_492) hs (by kernel_rfl) (op := (.load 3 (.tmp 23))) (by kernel_rfl) (fun o ho => run_load1 (c := ci e_492) ho (by kernel_rfl) (by kernel_rfl) (fun w ho => h_491 w ho 0 _ rfl) _ (Own.to (S' := rowp A_416 c_417 3 1 (eI .i64) (([] : List Int) ++ ([v_411] : List Int)) :: S) hs.own [7] 18 (by kernel_rfl) (by kernel_rfl))) fun a hs => ?_)
        refine qpe 1 [(0, pp b_x0), (5, pp b_468), (6, pp b_469), (7, pp b_471), (8, vi 0), (10, vi e_492), (13, vi 2), (14, vi 0), (19, .slice A_416 ((([] : List Int) ++ ([v_411] : List Int)).length) c_417), (20, vi 1), (21, vi 0)] hs fun a hs => hK488 _ _ ?_
        clear hK488
        refine Vk.region ?_
        refine qpu 6 hs fun a hs => ?_
        obtain ⟨v_497, h_496, hm⟩ := bind_t hm
        refine Vk.step (Vk.value (some 31) (vi v_497) hs (by kernel_rfl) (op := (.load 3 (.tmp 30))) (by kernel_rfl) (fun o ho => run_load1 (c := ci v_497) ho (by kernel_rfl) (by kernel_rfl) (Cell.own 1 rfl (getI_some h_496)) _ hs.own) fun a hs => ?_)
        refine qpu 1 hs fun a hs => ?_
        replace hs := hs.toEx (Twire_Machine.parts b_x0 v_383.2) g_474 0 rfl
        obtain ⟨v_500, h_499, hm⟩ := bind_t hm
        refine Vk.step (Vk.call (some 33) 150 #[pp b_x0, vi 5, vi 0, vi v_497, vi e_492] hs (by kernel_rfl) (by kernel_rfl) (by kernel_rfl) ?_)
        refine (wire_Machine_Two.ok k v_383.2 5 0 v_497 e_492 v_500 h_499 κ w (pt b_471 (blk x1 28) :: pt b_469 (blk [ci 0, ci 0, ci 0] 28) :: pt b_468 (blk ([C.slc A_416 ((([] : List Int) ++ ([v_411] : List Int)).length) c_417, C.slc A_447 ((([] : List Int) ++ ([v_442] : List Int)).length) c_448, C.slc none 0 0]) 160) :: pt b_467 (blk x1 28) :: rowp A_447 c_448 3 1 (eI .i64) (([] : List Int) ++ ([v_442] : List Int)) :: rowp A_443 1 3 1 (eI .i64) ([v_442] : List Int) :: rowp A_416 c_417 3 1 (eI .i64) (([] : List Int) ++ ([v_411] : List Int)) :: rowp A_412 1 3 1 (eI .i64) ([v_411] : List Int) :: pt b_387 (blk ([C.slc A_416 ((([] : List Int) ++ ([v_411] : List Int)).length) c_417, C.slc A_447 ((([] : List Int) ++ ([v_442] : List Int)).length) c_448, C.slc none 0 0]) 160) :: pt b_384 (blk v_383.1 26) :: pt b_370 (blk [ci 0, ci 0, ci 0] 28) :: pt b_369 (blk ([C.slc A_362 (([0] : List Int).length) 1, C.slc A_364 (([0] : List Int).length) 1, C.slc none 0 0]) 160) :: pt b_368 (blk x1 28) :: rowp A_364 1 3 1 (eI .i64) ([0] : List Int) :: rowp A_362 1 3 1 (eI .i64) ([0] : List Int) :: pt b_3 (blk [ci 0, ci 0, ci 0] 28) :: pt b_2 (blk x1 28) :: S) b_x0 (Own.to hs.own [0, 1, 2, 3, 4, 5, 6, 7, 8, 9, 10, 11, 12, 13, 14, 15, 16, 17] 18 (by kernel_rfl) (by kernel_rfl))).mono ?_
        rintro _ w ⟨rfl, how⟩
        refine ⟨_, _, _, rfl, how, fun a hs => ?_⟩
        refine qpu 2 hs fun a hs => ?_
        obtain ⟨h_501, hm⟩ := ite_t hm
        refine Vk.step (Vk.store1 (b := b_471) (ty := 3) (x := (.tmp 35)) (y := (.tmp 33)) (off := 0) (ci v_500.1) 1 hs (by kernel_rfl) (by kernel_rfl) (by kernel_rfl) (by kernel_rfl) (by kernel_rfl) (by kernel_rfl) rfl h_501 fun a w hs => ?_)
        refine qpe 0 [(0, pp b_x0), (5, pp b_468), (6, pp b_469), (7, pp b_471), (8, vi 0), (13, vi 2), (14, vi 0), (19, .slice A_416 ((([] : List Int) ++ ([v_411] : List Int)).length) c_417), (20, vi 1), (21, vi 0)] hs fun a hs => hK487 _ _ ?_
        clear hK487
        refine Vk.region ?_
        refine qpe 2 [(0, pp b_x0), (5, pp b_468), (6, pp b_469), (7, pp b_471), (8, vi 0), (13, vi 2), (14, vi 0), (19, .slice A_416 ((([] : List Int) ++ ([v_411] : List Int)).length) c_417), (20, vi 1), (21, vi 1)] hs fun a hs => hKL484 _ _ ?_
        clear hKL484
        refine Vk.unroll fun KL502 hKL502 => ?_
        refine qsr fun K503 hK503 => ?_
        refine qpe 1 [(0, pp b_x0), (5, pp b_468), (6, pp b_469), (7, pp b_471), (8, vi 0), (13, vi 2), (14, vi 0), (19, .slice A_416 ((([] : List Int) ++ ([v_411] : List Int)).length) c_417), (20, vi 1), (21, vi 1), (22, .bool false)] hs fun a hs => hK503 _ _ ?_
        clear hK503
        refine Vk.seq fun K504 hK504 => ?_
        refine qcf hs ?_
        refine wp_exit ?_
        refine hK481 _ _ ?_
        clear hK481
        refine Vk.region ?_
        refine qpe 2 [(0, pp b_x0), (5, pp b_468), (6, pp b_469), (7, pp b_471), (13, vi 2), (14, vi 1)] hs fun a hs => hKL478 _ _ ?_
        clear hKL478
        refine Vk.unroll fun KL505 hKL505 => ?_
        refine qsr fun K506 hK506 => ?_
        refine qpe 1 [(0, pp b_x0), (5, pp b_468), (6, pp b_469), (7, pp b_471), (13, vi 2), (14, vi 1), (15, .bool true)] hs fun a hs => hK506 _ _ ?_
        clear hK506
        refine Vk.seq fun K507 hK507 => ?_
        refine qct hs ?_
        refine wp_skip ?_
        refine hK507 _ _ ?_
        clear hK507
        refine Vk.seq fun K508 hK508 => ?_
        refine wp_block ?_
        refine qsr fun K509 hK509 => ?_
        refine qpe 2 [(0, pp b_x0), (5, pp b_468), (6, pp b_469), (7, pp b_471), (8, vi 1), (13, vi 2), (14, vi 1)] hs fun a hs => hK509 _ _ ?_
        clear hK509
        refine qsr fun K510 hK510 => ?_
        refine qpu 2 hs fun a hs => ?_
        refine qld 3 (C.slc A_447 ((([] : List Int) ++ ([v_442] : List Int)).length) c_448) hs rfl fun a hs => ?_
        refine qpe 2 [(0, pp b_x0), (5, pp b_468), (6, pp b_469), (7, pp b_471), (8, vi 1), (13, vi 2), (14, vi 1), (19, .slice A_447 ((([] : List Int) ++ ([v_442] : List Int)).length) c_448), (20, vi 1), (21, vi 0)] hs fun a hs => hK510 _ _ ?_
        clear hK510
        refine wp_block ?_
        refine Vk.unroll0 40 ?_
        refine Vk.unroll fun KL511 hKL511 => ?_
        refine qsr fun K512 hK512 => ?_
        refine qpe 1 [(0, pp b_x0), (5, pp b_468), (6, pp b_469), (7, pp b_471), (8, vi 1), (13, vi 2), (14, vi 1), (19, .slice A_447 ((([] : List Int) ++ ([v_442] : List Int)).length) c_448), (20, vi 1), (21, vi 0), (22, .bool true)] hs fun a hs => hK512 _ _ ?_
        clear hK512
        refine Vk.seq fun K513 hK513 => ?_
        refine qct hs ?_
        refine wp_skip ?_
        refine hK513 _ _ ?_
        clear hK513
        refine Vk.seq fun K514 hK514 => ?_
        refine wp_block ?_
        refine qsr fun K515 hK515 => ?_
        obtain ⟨h_516, hm⟩ := ite_t hm
        obtain ⟨e_519, h_517, hm⟩ := bind_t hm
        obtain ⟨b_520, o_521, hA_522, h_518⟩ := Sl.elem (Own.rowSl 0 (Own.to (S' := rowp A_447 c_448 3 1 (eI .i64) (([] : List Int) ++ ([v_442] : List Int)) :: S) hs.own [5] 18 (by kernel_rfl) (by kernel_rfl)) rfl) h_517
        refine Vk.step (Vk.value (some 23) (.pointer (some ⟨b_520, o_521 + 0 * 1, none⟩)) hs (by kernel_rfl) (op := (.indexAddr 159 (.tmp 19) (.tmp 21))) (by kernel_rfl) (fun o ho => run_idxSlc (k := .i64) ho (cap := c_448) (len := (([] : List Int) ++ ([v_442] : List Int)).length) ((congrArg (fun A => Value.slice A ((([] : List Int) ++ ([v_442] : List Int)).length) (c_448)) hA_522) ▸ (by kernel_rfl)) (by kernel_rfl) (by kernel_rfl) (idx_ok h_516 h_517) _) fun a hs => ?_)
        refine Vk.step (Vk.value (some 24) (vi e_519) hs (by kernel_rfl) (op := (.load 3 (.tmp 23))) (by kernel_rfl) (fun o ho => run_load1 (c := ci e_519) ho (by kernel_rfl) (by kernel_rfl) (fun w ho => h_518 w ho 0 _ rfl) _ (Own.to (S' := rowp A_447 c_448 3 1 (eI .i64) (([] : List Int) ++ ([v_442] : List Int)) :: S) hs.own [5] 18 (by kernel_rfl) (by kernel_rfl))) fun a hs => ?_)
        refine qpe 1 [(0, pp b_x0), (5, pp b_468), (6, pp b_469), (7, pp b_471), (8, vi 1), (10, vi e_519), (13, vi 2), (14, vi 1), (19, .slice A_447 ((([] : List Int) ++ ([v_442] : List Int)).length) c_448), (20, vi 1), (21, vi 0)] hs fun a hs => hK515 _ _ ?_
        clear hK515
        refine Vk.region ?_
        refine qpu 6 hs fun a hs => ?_
        obtain ⟨v_524, h_523, hm⟩ := bind_t hm
        refine Vk.step (Vk.value (some 31) (vi v_524) hs (by kernel_rfl) (op := (.load 3 (.tmp 30))) (by kernel_rfl) (fun o ho => run_load1 (c := ci v_524) ho (by kernel_rfl) (by kernel_rfl) (Cell.own 1 rfl (getI_some h_523)) _ hs.own) fun a hs => ?_)
        refine qpu 1 hs fun a hs => ?_
        obtain ⟨v_527, h_526, hm⟩ := bind_t hm
        refine Vk.step (Vk.call (some 33) 150 #[pp b_x0, vi 5, vi 1, vi v_524, vi e_519] hs (by kernel_rfl) (by kernel_rfl) (by kernel_rfl) ?_)
        refine (wire_Machine_Two.ok k v_500.2 5 1 v_524 e_519 v_527 h_526 κ w (pt b_471 (blk (x1.set (0) (ci v_500.1)) 28) :: pt b_469 (blk [ci 0, ci 0, ci 0] 28) :: pt b_468 (blk ([C.slc A_416 ((([] : List Int) ++ ([v_411] : List Int)).length) c_417, C.slc A_447 ((([] : List Int) ++ ([v_442] : List Int)).length) c_448, C.slc none 0 0]) 160) :: pt b_467 (blk x1 28) :: rowp A_447 c_448 3 1 (eI .i64) (([] : List Int) ++ ([v_442] : List Int)) :: rowp A_443 1 3 1 (eI .i64) ([v_442] : List Int) :: rowp A_416 c_417 3 1 (eI .i64) (([] : List Int) ++ ([v_411] : List Int)) :: rowp A_412 1 3 1 (eI .i64) ([v_411] : List Int) :: pt b_387 (blk ([C.slc A_416 ((([] : List Int) ++ ([v_411] : List Int)).length) c_417, C.slc A_447 ((([] : List Int) ++ ([v_442] : List Int)).length) c_448, C.slc none 0 0]) 160) :: pt b_384 (blk v_383.1 26) :: pt b_370 (blk [ci 0, ci 0, ci 0] 28) :: pt b_369 (blk ([C.slc A_362 (([0] : List Int).length) 1, C.slc A_364 (([0] : List Int).length) 1, C.slc none 0 0]) 160) :: pt b_368 (blk x1 28) :: rowp A_364 1 3 1 (eI .i64) ([0] : List Int) :: rowp A_362 1 3 1 (eI .i64) ([0] : List Int) :: pt b_3 (blk [ci 0, ci 0, ci 0] 28) :: pt b_2 (blk x1 28) :: S) b_x0 (Own.to hs.own [0, 1, 2, 3, 4, 5, 6, 7, 8, 9, 10, 11, 12, 13, 14, 15, 16, 17] 18 (by kernel_rfl) (by kernel_rfl))).mono ?_
        rintro _ w ⟨rfl, how⟩
        refine ⟨_, _, _, rfl, how, fun a hs => ?_⟩
        refine qpu 2 hs fun a hs => ?_
        obtain ⟨h_528, hm⟩ := ite_t hm
        refine Vk.step (Vk.store1 (b := b_471) (ty := 3) (x := (.tmp 35)) (y := (.tmp 33)) (off := 1) (ci v_527.1) 1 hs (by kernel_rfl) (by kernel_rfl) (by kernel_rfl) (by kernel_rfl) (by kernel_rfl) (by kernel_rfl) rfl h_528 fun a w hs => ?_)
        refine qpe 0 [(0, pp b_x0), (5, pp b_468), (6, pp b_469), (7, pp b_471), (8, vi 1), (13, vi 2), (14, vi 1), (19, .slice A_447 ((([] : List Int) ++ ([v_442] : List Int)).length) c_448), (20, vi 1), (21, vi 0)] hs fun a hs => hK514 _ _ ?_
        clear hK514
        refine Vk.region ?_
        refine qpe 2 [(0, pp b_x0), (5, pp b_468), (6, pp b_469), (7, pp b_471), (8, vi 1), (13, vi 2), (14, vi 1), (19, .slice A_447 ((([] : List Int) ++ ([v_442] : List Int)).length) c_448), (20, vi 1), (21, vi 1)] hs fun a hs => hKL511 _ _ ?_
        clear hKL511
        refine Vk.unroll fun KL529 hKL529 => ?_
        refine qsr fun K530 hK530 => ?_
        refine qpe 1 [(0, pp b_x0), (5, pp b_468), (6, pp b_469), (7, pp b_471), (8, vi 1), (13, vi 2), (14, vi 1), (19, .slice A_447 ((([] : List Int) ++ ([v_442] : List Int)).length) c_448), (20, vi 1), (21, vi 1), (22, .bool false)] hs fun a hs => hK530 _ _ ?_
        clear hK530
        refine Vk.seq fun K531 hK531 => ?_
        refine qcf hs ?_
        refine wp_exit ?_
        refine hK508 _ _ ?_
        clear hK508
        refine Vk.region ?_
        refine qpe 2 [(0, pp b_x0), (5, pp b_468), (6, pp b_469), (7, pp b_471), (13, vi 2), (14, vi 2)] hs fun a hs => hKL505 _ _ ?_
        clear hKL505
        refine Vk.unroll fun KL532 hKL532 => ?_
        refine qsr fun K533 hK533 => ?_
        refine qpe 1 [(0, pp b_x0), (5, pp b_468), (6, pp b_469), (7, pp b_471), (13, vi 2), (14, vi 2), (15, .bool false)] hs fun a hs => hK533 _ _ ?_
        clear hK533
        refine Vk.seq fun K534 hK534 => ?_
        refine qcf hs ?_
        refine wp_exit ?_
        refine hK472 _ _ ?_
        clear hK472
        refine qsr fun K535 hK535 => ?_
        refine Vk.step (Vk.value (some 38) (.agg (vals ((x1.set (0) (ci v_500.1)).set (1) (ci v_527.1)))) hs (by kernel_rfl) (op := (.load 28 (.tmp 7))) (by kernel_rfl) (fun o ho => run_loadN (cs := ((x1.set (0) (ci v_500.1)).set (1) (ci v_527.1))) ho (by kernel_rfl) (by kernel_rfl) (List.length_set.trans (List.length_set.trans h_361)) (CellsAt.all 1 rfl) _ hs.own) fun a hs => ?_)
        refine Vk.step (Vk.storeA (b := b_469) (ty := 28) (x := (.tmp 6)) (y := (.tmp 38)) (sz := 3) ((x1.set (0) (ci v_500.1)).set (1) (ci v_527.1)) 2 hs (by kernel_rfl) (by kernel_rfl) (by kernel_rfl) (by kernel_rfl) (by kernel_rfl) (List.length_set.trans (List.length_set.trans h_361)) (by kernel_rfl) rfl (Eq.trans (b := 3) (List.length_set.trans (List.length_set.trans h_361)) (Eq.symm rfl)) fun a w hs => ?_)
        refine qpe 0 [(6, pp b_469)] hs fun a hs => hK535 _ _ ?_
        clear hK535
        refine wp_ret ?_
        refine hKP465 _ _ ?_
        refine hKR465 _ _ ?_
        refine Vk.retC (P := Try.prog) (fn := Try.f161) ((x1.set (0) (ci v_500.1)).set (1) (ci v_527.1)) hs rfl (by kernel_rfl) (sz := 3) (by kernel_rfl) (List.length_set.trans (List.length_set.trans h_361)) (CellsAt.all 2 rfl) ⟨_, _, _, rfl, hs.own, fun a hs => ?_⟩
        refine Vk.step (Vk.alloc 15 28 [ci 0, ci 0, ci 0] hs (by kernel_rfl) (by kernel_rfl) (by kernel_rfl) fun b_536 w a hs => ?_)
        refine Vk.step (Vk.storeA (b := b_536) (ty := 28) (x := (.tmp 15)) (y := (.tmp 52)) (sz := 3) ((x1.set (0) (ci v_500.1)).set (1) (ci v_527.1)) 0 hs (by kernel_rfl) (by kernel_rfl) (by kernel_rfl) (by kernel_rfl) (by kernel_rfl) (List.length_set.trans (List.length_set.trans h_361)) (by kernel_rfl) rfl (Eq.trans (b := 3) (List.length_set.trans (List.length_set.trans h_361)) (Eq.symm rfl)) fun a w hs => ?_)
        refine qpe 0 [(0, pp b_x0), (8, pp b_370), (15, pp b_536)] hs fun a hs => hK464 _ _ ?_
        clear hK464
        refine qsr fun K537 hK537 => ?_
        refine qpu 1 hs fun a hs => ?_
        obtain ⟨v_540, h_539, hm⟩ := bind_t hm
        refine Vk.step (Vk.call (some 54) 94 #[pp b_x0] hs (by kernel_rfl) (by kernel_rfl) (by kernel_rfl) ?_)
        refine (wire_Machine_End.ok k v_527.2 v_540 h_539 κ w (pt b_536 (blk ((x1.set (0) (ci v_500.1)).set (1) (ci v_527.1)) 28) :: pt b_471 (blk ((x1.set (0) (ci v_500.1)).set (1) (ci v_527.1)) 28) :: pt b_469 (blk ((x1.set (0) (ci v_500.1)).set (1) (ci v_527.1)) 28) :: pt b_468 (blk ([C.slc A_416 ((([] : List Int) ++ ([v_411] : List Int)).length) c_417, C.slc A_447 ((([] : List Int) ++ ([v_442] : List Int)).length) c_448, C.slc none 0 0]) 160) :: pt b_467 (blk x1 28) :: rowp A_447 c_448 3 1 (eI .i64) (([] : List Int) ++ ([v_442] : List Int)) :: rowp A_443 1 3 1 (eI .i64) ([v_442] : List Int) :: rowp A_416 c_417 3 1 (eI .i64) (([] : List Int) ++ ([v_411] : List Int)) :: rowp A_412 1 3 1 (eI .i64) ([v_411] : List Int) :: pt b_387 (blk ([C.slc A_416 ((([] : List Int) ++ ([v_411] : List Int)).length) c_417, C.slc A_447 ((([] : List Int) ++ ([v_442] : List Int)).length) c_448, C.slc none 0 0]) 160) :: pt b_384 (blk v_383.1 26) :: pt b_370 (blk [ci 0, ci 0, ci 0] 28) :: pt b_369 (blk ([C.slc A_362 (([0] : List Int).length) 1, C.slc A_364 (([0] : List Int).length) 1, C.slc none 0 0]) 160) :: pt b_368 (blk x1 28) :: rowp A_364 1 3 1 (eI .i64) ([0] : List Int) :: rowp A_362 1 3 1 (eI .i64) ([0] : List Int) :: pt b_3 (blk [ci 0, ci 0, ci 0] 28) :: pt b_2 (blk x1 28) :: S) b_x0 (Own.to hs.own [1, 0, 2, 3, 4, 5, 6, 7, 8, 9, 10, 11, 12, 13, 14, 15, 16, 17, 18] 19 (by kernel_rfl) (by kernel_rfl))).mono ?_
        rintro _ w ⟨rfl, how⟩
        refine ⟨_, _, _, rfl, how, fun a hs => ?_⟩
        refine qpe 0 [(8, pp b_370), (15, pp b_536)] hs fun a hs => hK537 _ _ ?_
        clear hK537
        refine qsr fun K541 hK541 => ?_
        refine Vk.step (Vk.value (some 55) (.agg (vals ((x1.set (0) (ci v_500.1)).set (1) (ci v_527.1)))) hs (by kernel_rfl) (op := (.load 28 (.tmp 15))) (by kernel_rfl) (fun o ho => run_loadN (cs := ((x1.set (0) (ci v_500.1)).set (1) (ci v_527.1))) ho (by kernel_rfl) (by kernel_rfl) (List.length_set.trans (List.length_set.trans h_361)) (CellsAt.all 1 rfl) _ hs.own) fun a hs => ?_)
        refine Vk.step (Vk.storeA (b := b_370) (ty := 28) (x := (.tmp 8)) (y := (.tmp 55)) (sz := 3) ((x1.set (0) (ci v_500.1)).set (1) (ci v_527.1)) 12 hs (by kernel_rfl) (by kernel_rfl) (by kernel_rfl) (by kernel_rfl) (by kernel_rfl) (List.length_set.trans (List.length_set.trans h_361)) (by kernel_rfl) rfl (Eq.trans (b := 3) (List.length_set.trans (List.length_set.trans h_361)) (Eq.symm rfl)) fun a w hs => ?_)
        refine qpe 0 [(8, pp b_370)] hs fun a hs => hK541 _ _ ?_
        clear hK541
        refine wp_ret ?_
        refine hKP366 _ _ ?_
        refine hKR366 _ _ ?_
        refine Vk.retC (P := Try.prog) (fn := Try.f125) ((x1.set (0) (ci v_500.1)).set (1) (ci v_527.1)) hs rfl (by kernel_rfl) (sz := 3) (by kernel_rfl) (List.length_set.trans (List.length_set.trans h_361)) (CellsAt.all 12 rfl) ⟨_, _, _, rfl, hs.own, fun a hs => ?_⟩
        refine Vk.step (Vk.storeA (b := b_3) (ty := 28) (x := (.tmp 4)) (y := (.tmp 20)) (sz := 3) ((x1.set (0) (ci v_500.1)).set (1) (ci v_527.1)) 17 hs (by kernel_rfl) (by kernel_rfl) (by kernel_rfl) (by kernel_rfl) (by kernel_rfl) (List.length_set.trans (List.length_set.trans h_361)) (by kernel_rfl) rfl (Eq.trans (b := 3) (List.length_set.trans (List.length_set.trans h_361)) (Eq.symm rfl)) fun a w hs => ?_)
        refine qpe 0 [(4, pp b_3)] hs fun a hs => hK360 _ _ ?_
        clear hK360
        refine wp_ret ?_
        exact Vk.retC (P := Try.prog) (fn := Try.f49) (R := RR) ((x1.set (0) (ci v_500.1)).set (1) (ci v_527.1)) hs rfl (by kernel_rfl) (sz := 3) (by kernel_rfl) (List.length_set.trans (List.length_set.trans h_361)) (CellsAt.all 17 rfl) (by obtain rfl := Option.some.inj hm; subst hRR; exact ⟨rfl, (Own.to hs.own [0] 19 (by kernel_rfl) (by kernel_rfl))⟩)
      · replace hm := bif_f hm hb
        cases hm
    · replace hm := bif_f hm hb
      cases hm
  · replace hm := bif_f hm hb
    rcases Bool.eq_false_or_eq_true (v_9 == 3) with hb | hb
    · replace hm := bif_t hm hb
      obtain rfl := Vk.of_beq hb
      refine qpe 1 [(0, pp b_x0), (3, pp b_2), (4, pp b_3), (7, .bool true)] hs fun a hs => hK5 _ _ ?_
      refine qct hs ?_
      refine qsr fun K10 hK10 => ?_
      refine qpu 1 hs fun a hs => ?_
      obtain ⟨h_11, hm⟩ := ite_t hm
      refine Vk.step (Vk.value (some 9) (.agg (vals x1)) hs (by kernel_rfl) (op := (.load 28 (.tmp 3))) (by kernel_rfl) (fun o ho => run_loadN (cs := x1) ho (by kernel_rfl) (by kernel_rfl) h_11 (CellsAt.all 2 rfl) _ hs.own) fun a hs => ?_)
      refine Vk.step (Vk.buildOp (sz := 1) (by_ := 8) (t := 159) (e := 3) (parts := #[(0, (.const (vi 0))), (1, (.const (vi 1)))]) (zs := vals [ci 0]) ([0, 1] : List Int) (eI .i64) (some 10) hs (by kernel_rfl) (by kernel_rfl) (by kernel_rfl) (by kernel_rfl) (by decide) rfl (fun x _ => rfl) (Nat.le_of_ble_eq_true (by kernel_rfl)) (by kernel_rfl) fun A_12 w a hs => ?_)
      refine Vk.step (Vk.buildOp (sz := 1) (by_ := 8) (t := 159) (e := 3) (parts := #[(0, (.const (vi 0))), (1, (.const (vi 2)))]) (zs := vals [ci 0]) ([0, 2] : List Int) (eI .i64) (some 11) hs (by kernel_rfl) (by kernel_rfl) (by kernel_rfl) (by kernel_rfl) (by decide) rfl (fun x _ => rfl) (Nat.le_of_ble_eq_true (by kernel_rfl)) (by kernel_rfl) fun A_14 w a hs => ?_)
      refine Vk.step (Vk.buildOp (sz := 1) (by_ := 8) (t := 159) (e := 3) (parts := #[(0, (.const (vi 1))), (1, (.const (vi 2)))]) (zs := vals [ci 0]) ([1, 2] : List Int) (eI .i64) (some 12) hs (by kernel_rfl) (by kernel_rfl) (by kernel_rfl) (by kernel_rfl) (by decide) rfl (fun x _ => rfl) (Nat.le_of_ble_eq_true (by kernel_rfl)) (by kernel_rfl) fun A_16 w a hs => ?_)
      refine qpu 1 hs fun a hs => ?_
      refine Vk.step (Vk.call (some 14) 125 #[pp b_x0, .agg (vals x1), vi 3, .agg (vals ([C.slc A_12 (([0, 1] : List Int).length) 2, C.slc A_14 (([0, 2] : List Int).length) 2, C.slc A_16 (([1, 2] : List Int).length) 2]))] hs (by kernel_rfl) (by kernel_rfl) (by kernel_rfl) ?_)
      refine Vk.enterI [(0, pp b_x0), (1, .agg (vals x1)), (2, vi 3), (3, .agg (vals ([C.slc A_12 (([0, 1] : List Int).length) 2, C.slc A_14 (([0, 2] : List Int).length) 2, C.slc A_16 (([1, 2] : List Int).length) 2])))] Try.func125 rfl Try.ntmps125 (by kernel_rfl) (Nat.le_of_ble_eq_true (by kernel_rfl)) hs.own fun KR18 hKR18 hKP18 a hs => ?_
      refine qsr fun K19 hK19 => ?_
      refine Vk.step (Vk.box (x := (.tmp 1)) 5 28 x1 hs (by kernel_rfl) (by kernel_rfl) (by kernel_rfl) fun b_20 w a hs => ?_)
      refine Vk.step (Vk.box (x := (.tmp 3)) 7 160 ([C.slc A_12 (([0, 1] : List Int).length) 2, C.slc A_14 (([0, 2] : List Int).length) 2, C.slc A_16 (([1, 2] : List Int).length) 2]) hs (by kernel_rfl) (by kernel_rfl) (by kernel_rfl) fun b_21 w a hs => ?_)
      refine Vk.step (Vk.alloc 8 28 [ci 0, ci 0, ci 0] hs (by kernel_rfl) (by kernel_rfl) (by kernel_rfl) fun b_22 w a hs => ?_)
      refine qpe 0 [(0, pp b_x0), (2, vi 3), (5, pp b_20), (7, pp b_21), (8, pp b_22)] hs fun a hs => hK19 _ _ ?_
      clear hK19
      refine Vk.seq fun K23 hK23 => ?_
      refine qsr fun K24 hK24 => ?_
      refine qpu 1 hs fun a hs => ?_
      obtain ⟨v_27, h_26, hm⟩ := bind_t hm
      refine Vk.step (Vk.call (some 17) 89 #[pp b_x0] hs (by kernel_rfl) (by kernel_rfl) (by kernel_rfl) ?_)
      refine (wire_Machine_N.ok k x0 v_27 h_26 κ w (pt b_22 (blk [ci 0, ci 0, ci 0] 28) :: pt b_21 (blk ([C.slc A_12 (([0, 1] : List Int).length) 2, C.slc A_14 (([0, 2] : List Int).length) 2, C.slc A_16 (([1, 2] : List Int).length) 2]) 160) :: pt b_20 (blk x1 28) :: rowp A_16 2 3 1 (eI .i64) ([1, 2] : List Int) :: rowp A_14 2 3 1 (eI .i64) ([0, 2] : List Int) :: rowp A_12 2 3 1 (eI .i64) ([0, 1] : List Int) :: pt b_3 (blk [ci 0, ci 0, ci 0] 28) :: pt b_2 (blk x1 28) :: S) b_x0 g_6 (Own.to hs.own [6, 0, 1, 2, 3, 4, 5, 7, 8] 9 (by kernel_rfl) (by kernel_rfl))).mono ?_
      rintro _ w ⟨rfl, how⟩
      refine ⟨_, _, _, rfl, how, fun a hs => ?_⟩
      rcases Bool.eq_false_or_eq_true (v_27 == 3) with hb | hb
      · replace hm := bif_t hm hb
        obtain rfl := Vk.of_beq hb
        refine qpe 1 [(0, pp b_x0), (2, vi 3), (5, pp b_20), (7, pp b_21), (8, pp b_22), (18, .bool false)] hs fun a hs => hK24 _ _ ?_
        clear hK24
        refine qcf hs ?_
        refine wp_skip ?_
        refine hK23 _ _ ?_
        clear hK23
        refine qsr fun K28 hK28 => ?_
        refine qpu 1 hs fun a hs => ?_
        replace hs := hs.toEx (Twire_Machine.parts b_x0 x0) g_6 0 rfl
        obtain ⟨v_31, h_30, hm⟩ := bind_t hm
        refine Vk.step (Vk.call (some 22) 90 #[pp b_x0, vi 2] hs (by kernel_rfl) (by kernel_rfl) (by kernel_rfl) ?_)
        refine (wire_Machine_Begin.ok k x0 2 v_31 h_30 κ w (pt b_22 (blk [ci 0, ci 0, ci 0] 28) :: pt b_21 (blk ([C.slc A_12 (([0, 1] : List Int).length) 2, C.slc A_14 (([0, 2] : List Int).length) 2, C.slc A_16 (([1, 2] : List Int).length) 2]) 160) :: pt b_20 (blk x1 28) :: rowp A_16 2 3 1 (eI .i64) ([1, 2] : List Int) :: rowp A_14 2 3 1 (eI .i64) ([0, 2] : List Int) :: rowp A_12 2 3 1 (eI .i64) ([0, 1] : List Int) :: pt b_3 (blk [ci 0, ci 0, ci 0] 28) :: pt b_2 (blk x1 28) :: S) b_x0 (Own.to hs.own [0, 1, 2, 3, 4, 5, 6, 7, 8] 9 (by kernel_rfl) (by kernel_rfl))).mono ?_
        rintro _ w ⟨rfl, how⟩
        refine ⟨_, _, _, rfl, how, fun a hs => ?_⟩
        refine qpe 0 [(0, pp b_x0), (2, vi 3), (5, pp b_20), (7, pp b_21), (8, pp b_22)] hs fun a hs => hK28 _ _ ?_
        clear hK28
        refine qsr fun K32 hK32 => ?_
        refine qpu 2 hs fun a hs => ?_
        obtain ⟨v_35, h_34, hm⟩ := bind_t hm
        refine Vk.step (Vk.call (some 25) 160 #[pp b_x0, vi 3] hs (by kernel_rfl) (by kernel_rfl) (by kernel_rfl) ?_)
        refine (fresh_masks.ok k v_31 3 v_35 h_34 κ w (pt b_22 (blk [ci 0, ci 0, ci 0] 28) :: pt b_21 (blk ([C.slc A_12 (([0, 1] : List Int).length) 2, C.slc A_14 (([0, 2] : List Int).length) 2, C.slc A_16 (([1, 2] : List Int).length) 2]) 160) :: pt b_20 (blk x1 28) :: rowp A_16 2 3 1 (eI .i64) ([1, 2] : List Int) :: rowp A_14 2 3 1 (eI .i64) ([0, 2] : List Int) :: rowp A_12 2 3 1 (eI .i64) ([0, 1] : List Int) :: pt b_3 (blk [ci 0, ci 0, ci 0] 28) :: pt b_2 (blk x1 28) :: S) b_x0 (Own.to hs.own [0, 1, 2, 3, 4, 5, 6, 7, 8] 9 (by kernel_rfl) (by kernel_rfl))).mono ?_
        rintro _ w ⟨rfl, how⟩
        refine ⟨_, _, _, rfl, how, fun a hs => ?_⟩
        refine Vk.step (Vk.alloc 9 26 [ci 0, ci 0, ci 0] hs (by kernel_rfl) (by kernel_rfl) (by kernel_rfl) fun b_36 w a hs => ?_)
        obtain ⟨h_37, hm⟩ := ite_t hm
        refine Vk.step (Vk.storeA (b := b_36) (ty := 26) (x := (.tmp 9)) (y := (.tmp 25)) (sz := 3) v_35.1 0 hs (by kernel_rfl) (by kernel_rfl) (by kernel_rfl) (by kernel_rfl) (by kernel_rfl) h_37 (by kernel_rfl) rfl (Eq.trans (b := 3) h_37 (Eq.symm rfl)) fun a w hs => ?_)
        refine qpe 0 [(0, pp b_x0), (5, pp b_20), (7, pp b_21), (8, pp b_22), (9, pp b_36)] hs fun a hs => hK32 _ _ ?_
        clear hK32
        refine qsr fun K38 hK38 => ?_
        refine Vk.step (Vk.alloc 10 160 [C.slc none 0 0, C.slc none 0 0, C.slc none 0 0] hs (by kernel_rfl) (by kernel_rfl) (by kernel_rfl) fun b_39 w a hs => ?_)
        refine qpe 0 [(0, pp b_x0), (5, pp b_20), (7, pp b_21), (8, pp b_22), (9, pp b_36), (10, pp b_39)] hs fun a hs => hK38 _ _ ?_
        clear hK38
        refine Vk.seq fun K40 hK40 => ?_
        refine qsr fun K41 hK41 => ?_
        refine qln 4 ([C.slc A_12 (([0, 1] : List Int).length) 2, C.slc A_14 (([0, 2] : List Int).length) 2, C.slc A_16 (([1, 2] : List Int).length) 2]) hs rfl fun a hs => ?_
        refine qpe 1 [(0, pp b_x0), (5, pp b_20), (8, pp b_22), (9, pp b_36), (10, pp b_39), (26, .agg (vals ([C.slc A_12 (([0, 1] : List Int).length) 2, C.slc A_14 (([0, 2] : List Int).length) 2, C.slc A_16 (([1, 2] : List Int).length) 2]))), (27, vi 0)] hs fun a hs => hK41 _ _ ?_
        clear hK41
        refine wp_block ?_
        refine Vk.unroll0 40 ?_
        refine Vk.unroll fun KL42 hKL42 => ?_
        refine qsr fun K43 hK43 => ?_
        refine qpe 1 [(0, pp b_x0), (5, pp b_20), (8, pp b_22), (9, pp b_36), (10, pp b_39), (26, .agg (vals ([C.slc A_12 (([0, 1] : List Int).length) 2, C.slc A_14 (([0, 2] : List Int).length) 2, C.slc A_16 (([1, 2] : List Int).length) 2]))), (27, vi 0), (28, .bool true)] hs fun a hs => hK43 _ _ ?_
        clear hK43
        refine Vk.seq fun K44 hK44 => ?_
        refine qct hs ?_
        refine wp_skip ?_
        refine hK44 _ _ ?_
        clear hK44
        refine Vk.seq fun K45 hK45 => ?_
        refine wp_block ?_
        refine qsr fun K46 hK46 => ?_
        refine qpe 4 [(0, pp b_x0), (5, pp b_20), (8, pp b_22), (9, pp b_36), (10, pp b_39), (11, vi 0), (12, .slice A_12 (([0, 1] : List Int).length) 2), (26, .agg (vals ([C.slc A_12 (([0, 1] : List Int).length) 2, C.slc A_14 (([0, 2] : List Int).length) 2, C.slc A_16 (([1, 2] : List Int).length) 2]))), (27, vi 0)] hs fun a hs => hK46 _ _ ?_
        clear hK46
        refine qsr fun K47 hK47 => ?_
        refine qpe 3 [(0, pp b_x0), (5, pp b_20), (8, pp b_22), (9, pp b_36), (10, pp b_39), (11, vi 0), (26, .agg (vals ([C.slc A_12 (([0, 1] : List Int).length) 2, C.slc A_14 (([0, 2] : List Int).length) 2, C.slc A_16 (([1, 2] : List Int).length) 2]))), (27, vi 0), (31, .slice A_12 (([0, 1] : List Int).length) 2), (32, vi 2), (33, vi 0)] hs fun a hs => hK47 _ _ ?_
        clear hK47
        refine wp_block ?_
        refine Vk.unroll0 40 ?_
        refine Vk.unroll fun KL48 hKL48 => ?_
        refine qsr fun K49 hK49 => ?_
        refine qpe 1 [(0, pp b_x0), (5, pp b_20), (8, pp b_22), (9, pp b_36), (10, pp b_39), (11, vi 0), (26, .agg (vals ([C.slc A_12 (([0, 1] : List Int).length) 2, C.slc A_14 (([0, 2] : List Int).length) 2, C.slc A_16 (([1, 2] : List Int).length) 2]))), (27, vi 0), (31, .slice A_12 (([0, 1] : List Int).length) 2), (32, vi 2), (33, vi 0), (34, .bool true)] hs fun a hs => hK49 _ _ ?_
        clear hK49
        refine Vk.seq fun K50 hK50 => ?_
        refine qct hs ?_
        refine wp_skip ?_
        refine hK50 _ _ ?_
        clear hK50
        refine Vk.seq fun K51 hK51 => ?_
        refine wp_block ?_
        refine qsr fun K52 hK52 => ?_
        obtain ⟨h_53, hm⟩ := ite_t hm
        obtain ⟨e_56, h_54, hm⟩ := bind_t hm
        obtain ⟨b_57, o_58, hA_59, h_55⟩ := Sl.elem (Own.rowSl 0 (Own.to (S' := rowp A_12 2 3 1 (eI .i64) ([0, 1] : List Int) :: S) hs.own [8] 11 (by kernel_rfl) (by kernel_rfl)) rfl) h_54
        refine Vk.step (Vk.value (some 35) (.pointer (some ⟨b_57, o_58 + 0 * 1, none⟩)) hs (by kernel_rfl) (op := (.indexAddr 159 (.tmp 31) (.tmp 33))) (by kernel_rfl) (fun o ho => run_idxSlc (k := .i64) ho (cap := 2) (len := ([0, 1] : List Int).length) ((congrArg (fun A => Value.slice A (([0, 1] : List Int).length) (2)) hA_59) ▸ (by kernel_rfl)) (by kernel_rfl) (by kernel_rfl) (idx_ok h_53 h_54) _) fun a hs => ?_)
        refine Vk.step (Vk.value (some 36) (vi e_56) hs (by kernel_rfl) (op := (.load 3 (.tmp 35))) (by kernel_rfl) (fun o ho => run_load1 (c := ci e_56) ho (by kernel_rfl) (by kernel_rfl) (fun w ho => h_55 w ho 0 _ rfl) _ (Own.to (S' := rowp A_12 2 3 1 (eI .i64) ([0, 1] : List Int) :: S) hs.own [8] 11 (by kernel_rfl) (by kernel_rfl))) fun a hs => ?_)
        refine qpe 1 [(0, pp b_x0), (5, pp b_20), (8, pp b_22), (9, pp b_36), (10, pp b_39), (11, vi 0), (14, vi e_56), (26, .agg (vals ([C.slc A_12 (([0, 1] : List Int).length) 2, C.slc A_14 (([0, 2] : List Int).length) 2, C.slc A_16 (([1, 2] : List Int).length) 2]))), (27, vi 0), (31, .slice A_12 (([0, 1] : List Int).length) 2), (32, vi 2), (33, vi 0)] hs fun a hs => hK52 _ _ ?_
        clear hK52
        obtain ⟨C_60, hC_60⟩ : ∃ X0 : List HP, X0 = (pt b_39 (blk [C.slc none 0 0, C.slc none 0 0, C.slc none 0 0] 160) :: pt b_36 (blk v_35.1 26) :: Twire_Machine.own b_x0 v_35.2 :: pt b_22 (blk [ci 0, ci 0, ci 0] 28) :: pt b_21 (blk ([C.slc A_12 (([0, 1] : List Int).length) 2, C.slc A_14 (([0, 2] : List Int).length) 2, C.slc A_16 (([1, 2] : List Int).length) 2]) 160) :: pt b_20 (blk x1 28) :: rowp A_16 2 3 1 (eI .i64) ([1, 2] : List Int) :: rowp A_14 2 3 1 (eI .i64) ([0, 2] : List Int) :: rowp A_12 2 3 1 (eI .i64) ([0, 1] : List Int) :: pt b_3 (blk [ci 0, ci 0, ci 0] 28) :: pt b_2 (blk x1 28) :: S) := ⟨_, rfl⟩
        refine qdr 10 κ C_60 hs fun w hs hqC_60 => ?_
        have hcz : Own κ w (pt b_39 (blk [C.slc none 0 0, C.slc none 0 0, C.slc none 0 0] 160) :: pt b_36 (blk v_35.1 26) :: Twire_Machine.own b_x0 v_35.2 :: pt b_22 (blk [ci 0, ci 0, ci 0] 28) :: pt b_21 (blk ([C.slc A_12 (([0, 1] : List Int).length) 2, C.slc A_14 (([0, 2] : List Int).length) 2, C.slc A_16 (([1, 2] : List Int).length) 2]) 160) :: pt b_20 (blk x1 28) :: rowp A_16 2 3 1 (eI .i64) ([1, 2] : List Int) :: rowp A_14 2 3 1 (eI .i64) ([0, 2] : List Int) :: rowp A_12 2 3 1 (eI .i64) ([0, 1] : List Int) :: pt b_3 (blk [ci 0, ci 0, ci 0] 28) :: pt b_2 (blk x1 28) :: S) := (Own.to hs.own [0, 1, 2, 3, 4, 5, 6, 7, 8, 9, 10] 11 (by kernel_rfl) (by kernel_rfl))
        have hcl : Own κ w C_60 := by rw [hC_60]; exact hcz
        refine qdp (fuel := 7) [0, 1, 2, 4] hs hcl hqC_60 fun a hs => ?_
        refine qdl 3 0 (C.slc none 0 0) hs hcl hqC_60 hC_60 rfl fun a hs => ?_
        obtain ⟨h_61, hm⟩ := ite_t hm
        refine Vk.dTakeT (i := 5) (some 42) (.pointer (some ⟨b_36, 0 + e_56.toNat * 1, none⟩)) hs (by kernel_rfl) hqC_60 hcl (by kernel_rfl) (by kernel_rfl) (op := (.indexAddr 26 (.tmp 9) (.tmp 41))) (by kernel_rfl) (by kernel_rfl) (fun w hw o ho => by rw [hC_60] at hw; exact run_idxArr (k := .i64) ho (by kernel_rfl) (by kernel_rfl) (by kernel_rfl) h_61 _) fun a hs => ?_
        obtain ⟨v_63, h_62, hm⟩ := bind_t hm
        refine Vk.dTakeT (i := 6) (some 43) (vi v_63) hs (by kernel_rfl) hqC_60 hcl (by kernel_rfl) (by kernel_rfl) (op := (.load 3 (.tmp 42))) (by kernel_rfl) (by kernel_rfl) (fun w hw o ho => by rw [hC_60] at hw; exact run_load1 (c := ci v_63) ho (by kernel_rfl) (by kernel_rfl) (Cell.own 1 rfl (getI_some h_62)) _ hw) fun a hs => ?_
        refine Vk.dOnly (i := 7) (by kernel_rfl) (Vk.buildOp (sz := 1) (by_ := 8) (t := 159) (e := 3) (parts := #[(0, (.tmp 43))]) (zs := vals [ci 0]) ([v_63] : List Int) (eI .i64) (some 44) hs (by kernel_rfl) (by kernel_rfl) (by kernel_rfl) (by kernel_rfl) (by decide) rfl (fun x _ => rfl) (Nat.le_of_ble_eq_true (by kernel_rfl)) (by kernel_rfl) fun A_64 w a hs => ?_)
        replace hcl : Own κ w C_60 := by rw [hC_60]; exact (Own.to hs.own [1, 2, 3, 4, 5, 6, 7, 8, 9, 10, 11] 12 (by kernel_rfl) (by kernel_rfl))
        refine ⟨fun _ => hcl, ?_⟩
        replace hs := hs.addRow none 3 1 (eI .i64)
        obtain ⟨h_67, hm⟩ := ite_t hm
        refine Vk.dOnly (i := 8) (by kernel_rfl) (Vk.appendOp (x := (.tmp 40)) (y := (.tmp 44)) (e := 3) (t := 159) (by_ := 8) (sz := 1) (enc := (eI .i64)) (A := none) (cap := 0) (xs := ([] : List Int)) (ys := ([v_63] : List Int)) (B := A_64) (c2 := 1) 0 (some 45) hs (by kernel_rfl) (by kernel_rfl) (by kernel_rfl) (by kernel_rfl) rfl (Sl.lift (fun w ho => (Own.to (S' := rowp A_64 1 3 1 (eI .i64) ([v_63] : List Int) :: S) ho [1] 13 (by kernel_rfl) (by kernel_rfl))) (Own.rowSl 0 (Own.to (S' := rowp A_64 1 3 1 (eI .i64) ([v_63] : List Int) :: S) hs.own [1] 13 (by kernel_rfl) (by kernel_rfl)) rfl)) (by kernel_rfl) (by kernel_rfl) (by decide) (by decide) h_67 fun A_68 c_69 w a hs => ?_)
        replace hcl : Own κ w C_60 := by rw [hC_60]; exact (Own.to hs.own [2, 3, 4, 5, 6, 7, 8, 9, 10, 11, 12] 13 (by kernel_rfl) (by kernel_rfl))
        refine ⟨fun _ => hcl, ?_⟩
        refine qdp (fuel := 1) [9] hs hcl hqC_60 fun a hs => ?_
        refine Vk.dOnly (i := 10) (by kernel_rfl) (Vk.store1 (b := b_39) (ty := 159) (x := (.tmp 46)) (y := (.tmp 45)) (off := 0) (C.slc A_68 ((([] : List Int) ++ ([v_63] : List Int)).length) c_69) 2 hs (by kernel_rfl) (by kernel_rfl) (by kernel_rfl) (by kernel_rfl) (by kernel_rfl) (by kernel_rfl) rfl (Nat.le_of_ble_eq_true (by kernel_rfl)) fun a w hs => ?_)
        refine ⟨fun h => absurd h (by decide), ?_⟩
        replace hs := hs.pick [0, 5, 8, 9, 10, 11, 26, 27, 31, 32, 33] (L' := [(0, pp b_x0), (5, pp b_20), (8, pp b_22), (9, pp b_36), (10, pp b_39), (11, vi 0), (26, .agg (vals ([C.slc A_12 (([0, 1] : List Int).length) 2, C.slc A_14 (([0, 2] : List Int).length) 2, C.slc A_16 (([1, 2] : List Int).length) 2]))), (27, vi 0), (31, .slice A_12 (([0, 1] : List Int).length) 2), (32, vi 2), (33, vi 0)]) (by kernel_rfl)
        refine Vk.dDone (by kernel_rfl) ?_
        refine hK51 _ _ ?_
        clear hK51
        refine Vk.region ?_
        refine qpe 2 [(0, pp b_x0), (5, pp b_20), (8, pp b_22), (9, pp b_36), (10, pp b_39), (11, vi 0), (26, .agg (vals ([C.slc A_12 (([0, 1] : List Int).length) 2, C.slc A_14 (([0, 2] : List Int).length) 2, C.slc A_16 (([1, 2] : List Int).length) 2]))), (27, vi 0), (31, .slice A_12 (([0, 1] : List Int).length) 2), (32, vi 2), (33, vi 1)] hs fun a hs => hKL48 _ _ ?_
        clear hKL48
        refine Vk.unroll fun KL70 hKL70 => ?_
        refine qsr fun K71 hK71 => ?_
        refine qpe 1 [(0, pp b_x0), (5, pp b_20), (8, pp b_22), (9, pp b_36), (10, pp b_39), (11, vi 0), (26, .agg (vals ([C.slc A_12 (([0, 1] : List Int).length) 2, C.slc A_14 (([0, 2] : List Int).length) 2, C.slc A_16 (([1, 2] : List Int).length) 2]))), (27, vi 0), (31, .slice A_12 (([0, 1] : List Int).length) 2), (32, vi 2), (33, vi 1), (34, .bool true)] hs fun a hs => hK71 _ _ ?_
        clear hK71
        refine Vk.seq fun K72 hK72 => ?_
        refine qct hs ?_
        refine wp_skip ?_
        refine hK72 _ _ ?_
        clear hK72
        refine Vk.seq fun K73 hK73 => ?_
        refine wp_block ?_
        refine qsr fun K74 hK74 => ?_
        obtain ⟨h_75, hm⟩ := ite_t hm
        obtain ⟨e_78, h_76, hm⟩ := bind_t hm
        obtain ⟨b_79, o_80, hA_81, h_77⟩ := Sl.elem (Own.rowSl 0 (Own.to (S' := rowp A_12 2 3 1 (eI .i64) ([0, 1] : List Int) :: S) hs.own [10] 13 (by kernel_rfl) (by kernel_rfl)) rfl) h_76
        refine Vk.step (Vk.value (some 35) (.pointer (some ⟨b_79, o_80 + 1 * 1, none⟩)) hs (by kernel_rfl) (op := (.indexAddr 159 (.tmp 31) (.tmp 33))) (by kernel_rfl) (fun o ho => run_idxSlc (k := .i64) ho (cap := 2) (len := ([0, 1] : List Int).length) ((congrArg (fun A => Value.slice A (([0, 1] : List Int).length) (2)) hA_81) ▸ (by kernel_rfl)) (by kernel_rfl) (by kernel_rfl) (idx_ok h_75 h_76) _) fun a hs => ?_)
        refine Vk.step (Vk.value (some 36) (vi e_78) hs (by kernel_rfl) (op := (.load 3 (.tmp 35))) (by kernel_rfl) (fun o ho => run_load1 (c := ci e_78) ho (by kernel_rfl) (by kernel_rfl) (fun w ho => h_77 w ho 0 _ rfl) _ (Own.to (S' := rowp A_12 2 3 1 (eI .i64) ([0, 1] : List Int) :: S) hs.own [10] 13 (by kernel_rfl) (by kernel_rfl))) fun a hs => ?_)
        refine qpe 1 [(0, pp b_x0), (5, pp b_20), (8, pp b_22), (9, pp b_36), (10, pp b_39), (11, vi 0), (14, vi e_78), (26, .agg (vals ([C.slc A_12 (([0, 1] : List Int).length) 2, C.slc A_14 (([0, 2] : List Int).length) 2, C.slc A_16 (([1, 2] : List Int).length) 2]))), (27, vi 0), (31, .slice A_12 (([0, 1] : List Int).length) 2), (32, vi 2), (33, vi 1)] hs fun a hs => hK74 _ _ ?_
        clear hK74
        obtain ⟨C_82, hC_82⟩ : ∃ X0 : List HP, X0 = (rowp A_64 1 3 1 (eI .i64) ([v_63] : List Int) :: pt b_39 (blk ([C.slc A_68 ((([] : List Int) ++ ([v_63] : List Int)).length) c_69, C.slc none 0 0, C.slc none 0 0]) 160) :: pt b_36 (blk v_35.1 26) :: Twire_Machine.own b_x0 v_35.2 :: pt b_22 (blk [ci 0, ci 0, ci 0] 28) :: pt b_21 (blk ([C.slc A_12 (([0, 1] : List Int).length) 2, C.slc A_14 (([0, 2] : List Int).length) 2, C.slc A_16 (([1, 2] : List Int).length) 2]) 160) :: pt b_20 (blk x1 28) :: rowp A_16 2 3 1 (eI .i64) ([1, 2] : List Int) :: rowp A_14 2 3 1 (eI .i64) ([0, 2] : List Int) :: rowp A_12 2 3 1 (eI .i64) ([0, 1] : List Int) :: pt b_3 (blk [ci 0, ci 0, ci 0] 28) :: pt b_2 (blk x1 28) :: S) := ⟨_, rfl⟩
        refine qdr 10 κ C_82 hs fun w hs hqC_82 => ?_
        have hcz : Own κ w (rowp A_64 1 3 1 (eI .i64) ([v_63] : List Int) :: pt b_39 (blk ([C.slc A_68 ((([] : List Int) ++ ([v_63] : List Int)).length) c_69, C.slc none 0 0, C.slc none 0 0]) 160) :: pt b_36 (blk v_35.1 26) :: Twire_Machine.own b_x0 v_35.2 :: pt b_22 (blk [ci 0, ci 0, ci 0] 28) :: pt b_21 (blk ([C.slc A_12 (([0, 1] : List Int).length) 2, C.slc A_14 (([0, 2] : List Int).length) 2, C.slc A_16 (([1, 2] : List Int).length) 2]) 160) :: pt b_20 (blk x1 28) :: rowp A_16 2 3 1 (eI .i64) ([1, 2] : List Int) :: rowp A_14 2 3 1 (eI .i64) ([0, 2] : List Int) :: rowp A_12 2 3 1 (eI .i64) ([0, 1] : List Int) :: pt b_3 (blk [ci 0, ci 0, ci 0] 28) :: pt b_2 (blk x1 28) :: S) := (Own.to hs.own [1, 2, 3, 4, 5, 6, 7, 8, 9, 10, 11, 12] 13 (by kernel_rfl) (by kernel_rfl))
        have hcl : Own κ w C_82 := by rw [hC_82]; exact hcz
        refine qdp (fuel := 7) [0, 1, 2, 4] hs hcl hqC_82 fun a hs => ?_
        refine qdl 3 1 (C.slc A_68 ((([] : List Int) ++ ([v_63] : List Int)).length) c_69) hs hcl hqC_82 hC_82 rfl fun a hs => ?_
        obtain ⟨h_83, hm⟩ := ite_t hm
        refine Vk.dTakeT (i := 5) (some 42) (.pointer (some ⟨b_36, 0 + e_78.toNat * 1, none⟩)) hs (by kernel_rfl) hqC_82 hcl (by kernel_rfl) (by kernel_rfl) (op := (.indexAddr 26 (.tmp 9) (.tmp 41))) (by kernel_rfl) (by kernel_rfl) (fun w hw o ho => by rw [hC_82] at hw; exact run_idxArr (k := .i64) ho (by kernel_rfl) (by kernel_rfl) (by kernel_rfl) h_83 _) fun a hs => ?_
        obtain ⟨v_85, h_84, hm⟩ := bind_t hm
        refine Vk.dTakeT (i := 6) (some 43) (vi v_85) hs (by kernel_rfl) hqC_82 hcl (by kernel_rfl) (by kernel_rfl) (op := (.load 3 (.tmp 42))) (by kernel_rfl) (by kernel_rfl) (fun w hw o ho => by rw [hC_82] at hw; exact run_load1 (c := ci v_85) ho (by kernel_rfl) (by kernel_rfl) (Cell.own 2 rfl (getI_some h_84)) _ hw) fun a hs => ?_
        refine Vk.dOnly (i := 7) (by kernel_rfl) (Vk.buildOp (sz := 1) (by_ := 8) (t := 159) (e := 3) (parts := #[(0, (.tmp 43))]) (zs := vals [ci 0]) ([v_85] : List Int) (eI .i64) (some 44) hs (by kernel_rfl) (by kernel_rfl) (by kernel_rfl) (by kernel_rfl) (by decide) rfl (fun x _ => rfl) (Nat.le_of_ble_eq_true (by kernel_rfl)) (by kernel_rfl) fun A_86 w a hs => ?_)
        replace hcl : Own κ w C_82 := by rw [hC_82]; exact (Own.to hs.own [2, 3, 4, 5, 6, 7, 8, 9, 10, 11, 12, 13] 14 (by kernel_rfl) (by kernel_rfl))
        refine ⟨fun _ => hcl, ?_⟩
        obtain ⟨h_88, hm⟩ := ite_t hm
        refine Vk.dOnly (i := 8) (by kernel_rfl) (Vk.appendOp (x := (.tmp 40)) (y := (.tmp 44)) (e := 3) (t := 159) (by_ := 8) (sz := 1) (enc := (eI .i64)) (A := A_68) (cap := c_69) (xs := ([] : List Int) ++ ([v_63] : List Int)) (ys := ([v_85] : List Int)) (B := A_86) (c2 := 1) 1 (some 45) hs (by kernel_rfl) (by kernel_rfl) (by kernel_rfl) (by kernel_rfl) rfl (Sl.lift (fun w ho => (Own.to (S' := rowp A_86 1 3 1 (eI .i64) ([v_85] : List Int) :: S) ho [0] 14 (by kernel_rfl) (by kernel_rfl))) (Own.rowSl 0 (Own.to (S' := rowp A_86 1 3 1 (eI .i64) ([v_85] : List Int) :: S) hs.own [0] 14 (by kernel_rfl) (by kernel_rfl)) rfl)) (by kernel_rfl) (by kernel_rfl) (by decide) (by decide) h_88 fun A_89 c_90 w a hs => ?_)
        replace hcl : Own κ w C_82 := by rw [hC_82]; exact (Own.to hs.own [2, 3, 4, 5, 6, 7, 8, 9, 10, 11, 12, 13] 14 (by kernel_rfl) (by kernel_rfl))
        refine ⟨fun _ => hcl, ?_⟩
        refine qdp (fuel := 1) [9] hs hcl hqC_82 fun a hs => ?_
        refine Vk.dOnly (i := 10) (by kernel_rfl) (Vk.store1 (b := b_39) (ty := 159) (x := (.tmp 46)) (y := (.tmp 45)) (off := 0) (C.slc A_89 (((([] : List Int) ++ ([v_63] : List Int)) ++ ([v_85] : List Int)).length) c_90) 3 hs (by kernel_rfl) (by kernel_rfl) (by kernel_rfl) (by kernel_rfl) (by kernel_rfl) (by kernel_rfl) rfl (Nat.le_of_ble_eq_true (by kernel_rfl)) fun a w hs => ?_)
        refine ⟨fun h => absurd h (by decide), ?_⟩
        replace hs := hs.pick [0, 5, 8, 9, 10, 11, 26, 27, 31, 32, 33] (L' := [(0, pp b_x0), (5, pp b_20), (8, pp b_22), (9, pp b_36), (10, pp b_39), (11, vi 0), (26, .agg (vals ([C.slc A_12 (([0, 1] : List Int).length) 2, C.slc A_14 (([0, 2] : List Int).length) 2, C.slc A_16 (([1, 2] : List Int).length) 2]))), (27, vi 0), (31, .slice A_12 (([0, 1] : List Int).length) 2), (32, vi 2), (33, vi 1)]) (by kernel_rfl)
        refine Vk.dDone (by kernel_rfl) ?_
        refine hK73 _ _ ?_
        clear hK73
        refine Vk.region ?_
        refine qpe 2 [(0, pp b_x0), (5, pp b_20), (8, pp b_22), (9, pp b_36), (10, pp b_39), (11, vi 0), (26, .agg (vals ([C.slc A_12 (([0, 1] : List Int).length) 2, C.slc A_14 (([0, 2] : List Int).length) 2, C.slc A_16 (([1, 2] : List Int).length) 2]))), (27, vi 0), (31, .slice A_12 (([0, 1] : List Int).length) 2), (32, vi 2), (33, vi 2)] hs fun a hs => hKL70 _ _ ?_
        clear hKL70
        refine Vk.unroll fun KL91 hKL91 => ?_
        refine qsr fun K92 hK92 => ?_
        refine qpe 1 [(0, pp b_x0), (5, pp b_20), (8, pp b_22), (9, pp b_36), (10, pp b_39), (11, vi 0), (26, .agg (vals ([C.slc A_12 (([0, 1] : List Int).length) 2, C.slc A_14 (([0, 2] : List Int).length) 2, C.slc A_16 (([1, 2] : List Int).length) 2]))), (27, vi 0), (31, .slice A_12 (([0, 1] : List Int).length) 2), (32, vi 2), (33, vi 2), (34, .bool false)] hs fun a hs => hK92 _ _ ?_
        clear hK92
        refine Vk.seq fun K93 hK93 => ?_
        refine qcf hs ?_
        refine wp_exit ?_
        refine hK45 _ _ ?_
        clear hK45
        refine Vk.region ?_
        refine qpe 2 [(0, pp b_x0), (5, pp b_20), (8, pp b_22), (9, pp b_36), (10, pp b_39), (26, .agg (vals ([C.slc A_12 (([0, 1] : List Int).length) 2, C.slc A_14 (([0, 2] : List Int).length) 2, C.slc A_16 (([1, 2] : List Int).length) 2]))), (27, vi 1)] hs fun a hs => hKL42 _ _ ?_
        clear hKL42
        refine Vk.unroll fun KL94 hKL94 => ?_
        refine qsr fun K95 hK95 => ?_
        refine qpe 1 [(0, pp b_x0), (5, pp b_20), (8, pp b_22), (9, pp b_36), (10, pp b_39), (26, .agg (vals ([C.slc A_12 (([0, 1] : List Int).length) 2, C.slc A_14 (([0, 2] : List Int).length) 2, C.slc A_16 (([1, 2] : List Int).length) 2]))), (27, vi 1), (28, .bool true)] hs fun a hs => hK95 _ _ ?_
        clear hK95
        refine Vk.seq fun K96 hK96 => ?_
        refine qct hs ?_
        refine wp_skip ?_
        refine hK96 _ _ ?_
        clear hK96
        refine Vk.seq fun K97 hK97 => ?_
        refine wp_block ?_
        refine qsr fun K98 hK98 => ?_
        refine qpe 4 [(0, pp b_x0), (5, pp b_20), (8, pp b_22), (9, pp b_36), (10, pp b_39), (11, vi 1), (12, .slice A_14 (([0, 2] : List Int).length) 2), (26, .agg (vals ([C.slc A_12 (([0, 1] : List Int).length) 2, C.slc A_14 (([0, 2] : List Int).length) 2, C.slc A_16 (([1, 2] : List Int).length) 2]))), (27, vi 1)] hs fun a hs => hK98 _ _ ?_
        clear hK98
        refine qsr fun K99 hK99 => ?_
        refine qpe 3 [(0, pp b_x0), (5, pp b_20), (8, pp b_22), (9, pp b_36), (10, pp b_39), (11, vi 1), (26, .agg (vals ([C.slc A_12 (([0, 1] : List Int).length) 2, C.slc A_14 (([0, 2] : List Int).length) 2, C.slc A_16 (([1, 2] : List Int).length) 2]))), (27, vi 1), (31, .slice A_14 (([0, 2] : List Int).length) 2), (32, vi 2), (33, vi 0)] hs fun a hs => hK99 _ _ ?_
        clear hK99
        refine wp_block ?_
        refine Vk.unroll0 40 ?_
        refine Vk.unroll fun KL100 hKL100 => ?_
        refine qsr fun K101 hK101 => ?_
        refine qpe 1 [(0, pp b_x0), (5, pp b_20), (8, pp b_22), (9, pp b_36), (10, pp b_39), (11, vi 1), (26, .agg (vals ([C.slc A_12 (([0, 1] : List Int).length) 2, C.slc A_14 (([0, 2] : List Int).length) 2, C.slc A_16 (([1, 2] : List Int).length) 2]))), (27, vi 1), (31, .slice A_14 (([0, 2] : List Int).length) 2), (32, vi 2), (33, vi 0), (34, .bool true)] hs fun a hs => hK101 _ _ ?_
        clear hK101
        refine Vk.seq fun K102 hK102 => ?_
        refine qct hs ?_
        refine wp_skip ?_
        refine hK102 _ _ ?_
        clear hK102
        refine Vk.seq fun K103 hK103 => ?_
        refine wp_block ?_
        refine qsr fun K104 hK104 => ?_
        obtain ⟨h_105, hm⟩ := ite_t hm
        obtain ⟨e_108, h_106, hm⟩ := bind_t hm
        obtain ⟨b_109, o_110, hA_111, h_107⟩ := Sl.elem (Own.rowSl 0 (Own.to (S' := rowp A_14 2 3 1 (eI .i64) ([0, 2] : List Int) :: S) hs.own [10] 14 (by kernel_rfl) (by kernel_rfl)) rfl) h_106
        refine Vk.step (Vk.value (some 35) (.pointer (some ⟨b_109, o_110 + 0 * 1, none⟩)) hs (by kernel_rfl) (op := (.indexAddr 159 (.tmp 31) (.tmp 33))) (by kernel_rfl) (fun o ho => run_idxSlc (k := .i64) ho (cap := 2) (len := ([0, 2] : List Int).length) ((congrArg (fun A => Value.slice A (([0, 2] : List Int).length) (2)) hA_111) ▸ (by kernel_rfl)) (by kernel_rfl) (by kernel_rfl) (idx_ok h_105 h_106) _) fun a hs => ?_)
        refine Vk.step (Vk.value (some 36) (vi e_108) hs (by kernel_rfl) (op := (.load 3 (.tmp 35))) (by kernel_rfl) (fun o ho => run_load1 (c := ci e_108) ho (by kernel_rfl) (by kernel_rfl) (fun w ho => h_107 w ho 0 _ rfl) _ (Own.to (S' := rowp A_14 2 3 1 (eI .i64) ([0, 2] : List Int) :: S) hs.own [10] 14 (by kernel_rfl) (by kernel_rfl))) fun a hs => ?_)
        refine qpe 1 [(0, pp b_x0), (5, pp b_20), (8, pp b_22), (9, pp b_36), (10, pp b_39), (11, vi 1), (14, vi e_108), (26, .agg (vals ([C.slc A_12 (([0, 1] : List Int).length) 2, C.slc A_14 (([0, 2] : List Int).length) 2, C.slc A_16 (([1, 2] : List Int).length) 2]))), (27, vi 1), (31, .slice A_14 (([0, 2] : List Int).length) 2), (32, vi 2), (33, vi 0)] hs fun a hs => hK104 _ _ ?_
        clear hK104
        obtain ⟨C_112, hC_112⟩ : ∃ X0 : List HP, X0 = (rowp A_86 1 3 1 (eI .i64) ([v_85] : List Int) :: rowp A_89 c_90 3 1 (eI .i64) ((([] : List Int) ++ ([v_63] : List Int)) ++ ([v_85] : List Int)) :: rowp A_64 1 3 1 (eI .i64) ([v_63] : List Int) :: pt b_39 (blk ([C.slc A_89 (((([] : List Int) ++ ([v_63] : List Int)) ++ ([v_85] : List Int)).length) c_90, C.slc none 0 0, C.slc none 0 0]) 160) :: pt b_36 (blk v_35.1 26) :: Twire_Machine.own b_x0 v_35.2 :: pt b_22 (blk [ci 0, ci 0, ci 0] 28) :: pt b_21 (blk ([C.slc A_12 (([0, 1] : List Int).length) 2, C.slc A_14 (([0, 2] : List Int).length) 2, C.slc A_16 (([1, 2] : List Int).length) 2]) 160) :: pt b_20 (blk x1 28) :: rowp A_16 2 3 1 (eI .i64) ([1, 2] : List Int) :: rowp A_14 2 3 1 (eI .i64) ([0, 2] : List Int) :: rowp A_12 2 3 1 (eI .i64) ([0, 1] : List Int) :: pt b_3 (blk [ci 0, ci 0, ci 0] 28) :: pt b_2 (blk x1 28) :: S) := ⟨_, rfl⟩
        refine qdr 10 κ C_112 hs fun w hs hqC_112 => ?_
        have hcz : Own κ w (rowp A_86 1 3 1 (eI .i64) ([v_85] : List Int) :: rowp A_89 c_90 3 1 (eI .i64) ((([] : List Int) ++ ([v_63] : List Int)) ++ ([v_85] : List Int)) :: rowp A_64 1 3 1 (eI .i64) ([v_63] : List Int) :: pt b_39 (blk ([C.slc A_89 (((([] : List Int) ++ ([v_63] : List Int)) ++ ([v_85] : List Int)).length) c_90, C.slc none 0 0, C.slc none 0 0]) 160) :: pt b_36 (blk v_35.1 26) :: Twire_Machine.own b_x0 v_35.2 :: pt b_22 (blk [ci 0, ci 0, ci 0] 28) :: pt b_21 (blk ([C.slc A_12 (([0, 1] : List Int).length) 2, C.slc A_14 (([0, 2] : List Int).length) 2, C.slc A_16 (([1, 2] : List Int).length) 2]) 160) :: pt b_20 (blk x1 28) :: rowp A_16 2 3 1 (eI .i64) ([1, 2] : List Int) :: rowp A_14 2 3 1 (eI .i64) ([0, 2] : List Int) :: rowp A_12 2 3 1 (eI .i64) ([0, 1] : List Int) :: pt b_3 (blk [ci 0, ci 0, ci 0] 28) :: pt b_2 (blk x1 28) :: S) := (Own.to hs.own [0, 1, 2, 3, 4, 5, 6, 7, 8, 9, 10, 11, 12, 13] 14 (by kernel_rfl) (by kernel_rfl))
        have hcl : Own κ w C_112 := by rw [hC_112]; exact hcz
        refine qdp (fuel := 7) [0, 1, 2, 4] hs hcl hqC_112 fun a hs => ?_
        refine qdl 3 3 (C.slc none 0 0) hs hcl hqC_112 hC_112 rfl fun a hs => ?_
        obtain ⟨h_113, hm⟩ := ite_t hm
        refine Vk.dTakeT (i := 5) (some 42) (.pointer (some ⟨b_36, 0 + e_108.toNat * 1, none⟩)) hs (by kernel_rfl) hqC_112 hcl (by kernel_rfl) (by kernel_rfl) (op := (.indexAddr 26 (.tmp 9) (.tmp 41))) (by kernel_rfl) (by kernel_rfl) (fun w hw o ho => by rw [hC_112] at hw; exact run_idxArr (k := .i64) ho (by kernel_rfl) (by kernel_rfl) (by kernel_rfl) h_113 _) fun a hs => ?_
        obtain ⟨v_115, h_114, hm⟩ := bind_t hm
        refine Vk.dTakeT (i := 6) (some 43) (vi v_115) hs (by kernel_rfl) hqC_112 hcl (by kernel_rfl) (by kernel_rfl) (op := (.load 3 (.tmp 42))) (by kernel_rfl) (by kernel_rfl) (fun w hw o ho => by rw [hC_112] at hw; exact run_load1 (c := ci v_115) ho (by kernel_rfl) (by kernel_rfl) (Cell.own 4 rfl (getI_some h_114)) _ hw) fun a hs => ?_
        refine Vk.dOnly (i := 7) (by kernel_rfl) (Vk.buildOp (sz := 1) (by_ := 8) (t := 159) (e := 3) (parts := #[(0, (.tmp 43))]) (zs := vals [ci 0]) ([v_115] : List Int) (eI .i64) (some 44) hs (by kernel_rfl) (by kernel_rfl) (by kernel_rfl) (by kernel_rfl) (by decide) rfl (fun x _ => rfl) (Nat.le_of_ble_eq_true (by kernel_rfl)) (by kernel_rfl) fun A_116 w a hs => ?_)
        replace hcl : Own κ w C_112 := by rw [hC_112]; exact (Own.to hs.own [1, 2, 3, 4, 5, 6, 7, 8, 9, 10, 11, 12, 13, 14] 15 (by kernel_rfl) (by kernel_rfl))
        refine ⟨fun _ => hcl, ?_⟩
        replace hs := hs.addRow none 3 1 (eI .i64)
        obtain ⟨h_119, hm⟩ := ite_t hm
        refine Vk.dOnly (i := 8) (by kernel_rfl) (Vk.appendOp (x := (.tmp 40)) (y := (.tmp 44)) (e := 3) (t := 159) (by_ := 8) (sz := 1) (enc := (eI .i64)) (A := none) (cap := 0) (xs := ([] : List Int)) (ys := ([v_115] : List Int)) (B := A_116) (c2 := 1) 0 (some 45) hs (by kernel_rfl) (by kernel_rfl) (by kernel_rfl) (by kernel_rfl) rfl (Sl.lift (fun w ho => (Own.to (S' := rowp A_116 1 3 1 (eI .i64) ([v_115] : List Int) :: S) ho [1] 16 (by kernel_rfl) (by kernel_rfl))) (Own.rowSl 0 (Own.to (S' := rowp A_116 1 3 1 (eI .i64) ([v_115] : List Int) :: S) hs.own [1] 16 (by kernel_rfl) (by kernel_rfl)) rfl)) (by kernel_rfl) (by kernel_rfl) (by decide) (by decide) h_119 fun A_120 c_121 w a hs => ?_)
        replace hcl : Own κ w C_112 := by rw [hC_112]; exact (Own.to hs.own [2, 3, 4, 5, 6, 7, 8, 9, 10, 11, 12, 13, 14, 15] 16 (by kernel_rfl) (by kernel_rfl))
        refine ⟨fun _ => hcl, ?_⟩
        refine qdp (fuel := 1) [9] hs hcl hqC_112 fun a hs => ?_
        refine Vk.dOnly (i := 10) (by kernel_rfl) (Vk.store1 (b := b_39) (ty := 159) (x := (.tmp 46)) (y := (.tmp 45)) (off := 1) (C.slc A_120 ((([] : List Int) ++ ([v_115] : List Int)).length) c_121) 5 hs (by kernel_rfl) (by kernel_rfl) (by kernel_rfl) (by kernel_rfl) (by kernel_rfl) (by kernel_rfl) rfl (Nat.le_of_ble_eq_true (by kernel_rfl)) fun a w hs => ?_)
        refine ⟨fun h => absurd h (by decide), ?_⟩
        replace hs := hs.pick [0, 5, 8, 9, 10, 11, 26, 27, 31, 32, 33] (L' := [(0, pp b_x0), (5, pp b_20), (8, pp b_22), (9, pp b_36), (10, pp b_39), (11, vi 1), (26, .agg (vals ([C.slc A_12 (([0, 1] : List Int).length) 2, C.slc A_14 (([0, 2] : List Int).length) 2, C.slc A_16 (([1, 2] : List Int).length) 2]))), (27, vi 1), (31, .slice A_14 (([0, 2] : List Int).length) 2), (32, vi 2), (33, vi 0)]) (by kernel_rfl)
        refine Vk.dDone (by kernel_rfl) ?_
        refine hK103 _ _ ?_
        clear hK103
        refine Vk.region ?_
        refine qpe 2 [(0, pp b_x0), (5, pp b_20), (8, pp b_22), (9, pp b_36), (10, pp b_39), (11, vi 1), (26, .agg (vals ([C.slc A_12 (([0, 1] : List Int).length) 2, C.slc A_14 (([0, 2] : List Int).length) 2, C.slc A_16 (([1, 2] : List Int).length) 2]))), (27, vi 1), (31, .slice A_14 (([0, 2] : List Int).length) 2), (32, vi 2), (33, vi 1)] hs fun a hs => hKL100 _ _ ?_
        clear hKL100
        refine Vk.unroll fun KL122 hKL122 => ?_
        refine qsr fun K123 hK123 => ?_
        refine qpe 1 [(0, pp b_x0), (5, pp b_20), (8, pp b_22), (9, pp b_36), (10, pp b_39), (11, vi 1), (26, .agg (vals ([C.slc A_12 (([0, 1] : List Int).length) 2, C.slc A_14 (([0, 2] : List Int).length) 2, C.slc A_16 (([1, 2] : List Int).length) 2]))), (27, vi 1), (31, .slice A_14 (([0, 2] : List Int).length) 2), (32, vi 2), (33, vi 1), (34, .bool true)] hs fun a hs => hK123 _ _ ?_
        clear hK123
        refine Vk.seq fun K124 hK124 => ?_
        refine qct hs ?_
        refine wp_skip ?_
        refine hK124 _ _ ?_
        clear hK124
        refine Vk.seq fun K125 hK125 => ?_
        refine wp_block ?_
        refine qsr fun K126 hK126 => ?_
        obtain ⟨h_127, hm⟩ := ite_t hm
        obtain ⟨e_130, h_128, hm⟩ := bind_t hm
        obtain ⟨b_131, o_132, hA_133, h_129⟩ := Sl.elem (Own.rowSl 0 (Own.to (S' := rowp A_14 2 3 1 (eI .i64) ([0, 2] : List Int) :: S) hs.own [12] 16 (by kernel_rfl) (by kernel_rfl)) rfl) h_128
        refine Vk.step (Vk.value (some 35) (.pointer (some ⟨b_131, o_132 + 1 * 1, none⟩)) hs (by kernel_rfl) (op := (.indexAddr 159 (.tmp 31) (.tmp 33))) (by kernel_rfl) (fun o ho => run_idxSlc (k := .i64) ho (cap := 2) (len := ([0, 2] : List Int).length) ((congrArg (fun A => Value.slice A (([0, 2] : List Int).length) (2)) hA_133) ▸ (by kernel_rfl)) (by kernel_rfl) (by kernel_rfl) (idx_ok h_127 h_128) _) fun a hs => ?_)
        refine Vk.step (Vk.value (some 36) (vi e_130) hs (by kernel_rfl) (op := (.load 3 (.tmp 35))) (by kernel_rfl) (fun o ho => run_load1 (c := ci e_130) ho (by kernel_rfl) (by kernel_rfl) (fun w ho => h_129 w ho 0 _ rfl) _ (Own.to (S' := rowp A_14 2 3 1 (eI .i64) ([0, 2] : List Int) :: S) hs.own [12] 16 (by kernel_rfl) (by kernel_rfl))) fun a hs => ?_)
        refine qpe 1 [(0, pp b_x0), (5, pp b_20), (8, pp b_22), (9, pp b_36), (10, pp b_39), (11, vi 1), (14, vi e_130), (26, .agg (vals ([C.slc A_12 (([0, 1] : List Int).length) 2, C.slc A_14 (([0, 2] : List Int).length) 2, C.slc A_16 (([1, 2] : List Int).length) 2]))), (27, vi 1), (31, .slice A_14 (([0, 2] : List Int).length) 2), (32, vi 2), (33, vi 1)] hs fun a hs => hK126 _ _ ?_
        clear hK126
        obtain ⟨C_134, hC_134⟩ : ∃ X0 : List HP, X0 = (rowp A_116 1 3 1 (eI .i64) ([v_115] : List Int) :: rowp A_86 1 3 1 (eI .i64) ([v_85] : List Int) :: rowp A_89 c_90 3 1 (eI .i64) ((([] : List Int) ++ ([v_63] : List Int)) ++ ([v_85] : List Int)) :: rowp A_64 1 3 1 (eI .i64) ([v_63] : List Int) :: pt b_39 (blk ([C.slc A_89 (((([] : List Int) ++ ([v_63] : List Int)) ++ ([v_85] : List Int)).length) c_90, C.slc A_120 ((([] : List Int) ++ ([v_115] : List Int)).length) c_121, C.slc none 0 0]) 160) :: pt b_36 (blk v_35.1 26) :: Twire_Machine.own b_x0 v_35.2 :: pt b_22 (blk [ci 0, ci 0, ci 0] 28) :: pt b_21 (blk ([C.slc A_12 (([0, 1] : List Int).length) 2, C.slc A_14 (([0, 2] : List Int).length) 2, C.slc A_16 (([1, 2] : List Int).length) 2]) 160) :: pt b_20 (blk x1 28) :: rowp A_16 2 3 1 (eI .i64) ([1, 2] : List Int) :: rowp A_14 2 3 1 (eI .i64) ([0, 2] : List Int) :: rowp A_12 2 3 1 (eI .i64) ([0, 1] : List Int) :: pt b_3 (blk [ci 0, ci 0, ci 0] 28) :: pt b_2 (blk x1 28) :: S) := ⟨_, rfl⟩
        refine qdr 10 κ C_134 hs fun w hs hqC_134 => ?_
        have hcz : Own κ w (rowp A_116 1 3 1 (eI .i64) ([v_115] : List Int) :: rowp A_86 1 3 1 (eI .i64) ([v_85] : List Int) :: rowp A_89 c_90 3 1 (eI .i64) ((([] : List Int) ++ ([v_63] : List Int)) ++ ([v_85] : List Int)) :: rowp A_64 1 3 1 (eI .i64) ([v_63] : List Int) :: pt b_39 (blk ([C.slc A_89 (((([] : List Int) ++ ([v_63] : List Int)) ++ ([v_85] : List Int)).length) c_90, C.slc A_120 ((([] : List Int) ++ ([v_115] : List Int)).length) c_121, C.slc none 0 0]) 160) :: pt b_36 (blk v_35.1 26) :: Twire_Machine.own b_x0 v_35.2 :: pt b_22 (blk [ci 0, ci 0, ci 0] 28) :: pt b_21 (blk ([C.slc A_12 (([0, 1] : List Int).length) 2, C.slc A_14 (([0, 2] : List Int).length) 2, C.slc A_16 (([1, 2] : List Int).length) 2]) 160) :: pt b_20 (blk x1 28) :: rowp A_16 2 3 1 (eI .i64) ([1, 2] : List Int) :: rowp A_14 2 3 1 (eI .i64) ([0, 2] : List Int) :: rowp A_12 2 3 1 (eI .i64) ([0, 1] : List Int) :: pt b_3 (blk [ci 0, ci 0, ci 0] 28) :: pt b_2 (blk x1 28) :: S) := (Own.to hs.own [1, 2, 3, 4, 5, 6, 7, 8, 9, 10, 11, 12, 13, 14, 15] 16 (by kernel_rfl) (by kernel_rfl))
        have hcl : Own κ w C_134 := by rw [hC_134]; exact hcz
        refine qdp (fuel := 7) [0, 1, 2, 4] hs hcl hqC_134 fun a hs => ?_
        refine qdl 3 4 (C.slc A_120 ((([] : List Int) ++ ([v_115] : List Int)).length) c_121) hs hcl hqC_134 hC_134 rfl fun a hs => ?_
        obtain ⟨h_135, hm⟩ := ite_t hm
        refine Vk.dTakeT (i := 5) (some 42) (.pointer (some ⟨b_36, 0 + e_130.toNat * 1, none⟩)) hs (by kernel_rfl) hqC_134 hcl (by kernel_rfl) (by kernel_rfl) (op := (.indexAddr 26 (.tmp 9) (.tmp 41))) (by kernel_rfl) (by kernel_rfl) (fun w hw o ho => by rw [hC_134] at hw; exact run_idxArr (k := .i64) ho (by kernel_rfl) (by kernel_rfl) (by kernel_rfl) h_135 _) fun a hs => ?_
        obtain ⟨v_137, h_136, hm⟩ := bind_t hm
        refine Vk.dTakeT (i := 6) (some 43) (vi v_137) hs (by kernel_rfl) hqC_134 hcl (by kernel_rfl) (by kernel_rfl) (op := (.load 3 (.tmp 42))) (by kernel_rfl) (by kernel_rfl) (fun w hw o ho => by rw [hC_134] at hw; exact run_load1 (c := ci v_137) ho (by kernel_rfl) (by kernel_rfl) (Cell.own 5 rfl (getI_some h_136)) _ hw) fun a hs => ?_
        refine Vk.dOnly (i := 7) (by kernel_rfl) (Vk.buildOp (sz := 1) (by_ := 8) (t := 159) (e := 3) (parts := #[(0, (.tmp 43))]) (zs := vals [ci 0]) ([v_137] : List Int) (eI .i64) (some 44) hs (by kernel_rfl) (by kernel_rfl) (by kernel_rfl) (by kernel_rfl) (by decide) rfl (fun x _ => rfl) (Nat.le_of_ble_eq_true (by kernel_rfl)) (by kernel_rfl) fun A_138 w a hs => ?_)
        replace hcl : Own κ w C_134 := by rw [hC_134]; exact (Own.to hs.own [2, 3, 4, 5, 6, 7, 8, 9, 10, 11, 12, 13, 14, 15, 16] 17 (by kernel_rfl) (by kernel_rfl))
        refine ⟨fun _ => hcl, ?_⟩
        obtain ⟨h_140, hm⟩ := ite_t hm
        refine Vk.dOnly (i := 8) (by kernel_rfl) (Vk.appendOp (x := (.tmp 40)) (y := (.tmp 44)) (e := 3) (t := 159) (by_ := 8) (sz := 1) (enc := (eI .i64)) (A := A_120) (cap := c_121) (xs := ([] : List Int) ++ ([v_115] : List Int)) (ys := ([v_137] : List Int)) (B := A_138) (c2 := 1) 1 (some 45) hs (by kernel_rfl) (by kernel_rfl) (by kernel_rfl) (by kernel_rfl) rfl (Sl.lift (fun w ho => (Own.to (S' := rowp A_138 1 3 1 (eI .i64) ([v_137] : List Int) :: S) ho [0] 17 (by kernel_rfl) (by kernel_rfl))) (Own.rowSl 0 (Own.to (S' := rowp A_138 1 3 1 (eI .i64) ([v_137] : List Int) :: S) hs.own [0] 17 (by kernel_rfl) (by kernel_rfl)) rfl)) (by kernel_rfl) (by kernel_rfl) (by decide) (by decide) h_140 fun A_141 c_142 w a hs => ?_)
        replace hcl : Own κ w C_134 := by rw [hC_134]; exact (Own.to hs.own [2, 3, 4, 5, 6, 7, 8, 9, 10, 11, 12, 13, 14, 15, 16] 17 (by kernel_rfl) (by kernel_rfl))
        refine ⟨fun _ => hcl, ?_⟩
        refine qdp (fuel := 1) [9] hs hcl hqC_134 fun a hs => ?_
        refine Vk.dOnly (i := 10) (by kernel_rfl) (Vk.store1 (b := b_39) (ty := 159) (x := (.tmp 46)) (y := (.tmp 45)) (off := 1) (C.slc A_141 (((([] : List Int) ++ ([v_115] : List Int)) ++ ([v_137] : List Int)).length) c_142) 6 hs (by kernel_rfl) (by kernel_rfl) (by kernel_rfl) (by kernel_rfl) (by kernel_rfl) (by kernel_rfl) rfl (Nat.le_of_ble_eq_true (by kernel_rfl)) fun a w hs => ?_)
        refine ⟨fun h => absurd h (by decide), ?_⟩
        replace hs := hs.pick [0, 5, 8, 9, 10, 11, 26, 27, 31, 32, 33] (L' := [(0, pp b_x0), (5, pp b_20), (8, pp b_22), (9, pp b_36), (10, pp b_39), (11, vi 1), (26, .agg (vals ([C.slc A_12 (([0, 1] : List Int).length) 2, C.slc A_14 (([0, 2] : List Int).length) 2, C.slc A_16 (([1, 2] : List Int).length) 2]))), (27, vi 1), (31, .slice A_14 (([0, 2] : List Int).length) 2), (32, vi 2), (33, vi 1)]) (by kernel_rfl)
        refine Vk.dDone (by kernel_rfl) ?_
        refine hK125 _ _ ?_
        clear hK125
        refine Vk.region ?_
        refine qpe 2 [(0, pp b_x0), (5, pp b_20), (8, pp b_22), (9, pp b_36), (10, pp b_39), (11, vi 1), (26, .agg (vals ([C.slc A_12 (([0, 1] : List Int).length) 2, C.slc A_14 (([0, 2] : List Int).length) 2, C.slc A_16 (([1, 2] : List Int).length) 2]))), (27, vi 1), (31, .slice A_14 (([0, 2] : List Int).length) 2), (32, vi 2), (33, vi 2)] hs fun a hs => hKL122 _ _ ?_
        clear hKL122
        refine Vk.unroll fun KL143 hKL143 => ?_
        refine qsr fun K144 hK144 => ?_
        refine qpe 1 [(0, pp b_x0), (5, pp b_20), (8, pp b_22), (9, pp b_36), (10, pp b_39), (11, vi 1), (26, .agg (vals ([C.slc A_12 (([0, 1] : List Int).length) 2, C.slc A_14 (([0, 2] : List Int).length) 2, C.slc A_16 (([1, 2] : List Int).length) 2]))), (27, vi 1), (31, .slice A_14 (([0, 2] : List Int).length) 2), (32, vi 2), (33, vi 2), (34, .bool false)] hs fun a hs => hK144 _ _ ?_
        clear hK144
        refine Vk.seq fun K145 hK145 => ?_
        refine qcf hs ?_
        refine wp_exit ?_
        refine hK97 _ _ ?_
        clear hK97
        refine Vk.region ?_
        refine qpe 2 [(0, pp b_x0), (5, pp b_20), (8, pp b_22), (9, pp b_36), (10, pp b_39), (26, .agg (vals ([C.slc A_12 (([0, 1] : List Int).length) 2, C.slc A_14 (([0, 2] : List Int).length) 2, C.slc A_16 (([1, 2] : List Int).length) 2]))), (27, vi 2)] hs fun a hs => hKL94 _ _ ?_
        clear hKL94
        refine Vk.unroll fun KL146 hKL146 => ?_
        refine qsr fun K147 hK147 => ?_
        refine qpe 1 [(0, pp b_x0), (5, pp b_20), (8, pp b_22), (9, pp b_36), (10, pp b_39), (26, .agg (vals ([C.slc A_12 (([0, 1] : List Int).length) 2, C.slc A_14 (([0, 2] : List Int).length) 2, C.slc A_16 (([1, 2] : List Int).length) 2]))), (27, vi 2), (28, .bool true)] hs fun a hs => hK147 _ _ ?_
        clear hK147
        refine Vk.seq fun K148 hK148 => ?_
        refine qct hs ?_
        refine wp_skip ?_
        refine hK148 _ _ ?_
        clear hK148
        refine Vk.seq fun K149 hK149 => ?_
        refine wp_block ?_
        refine qsr fun K150 hK150 => ?_
        refine qpe 4 [(0, pp b_x0), (5, pp b_20), (8, pp b_22), (9, pp b_36), (10, pp b_39), (11, vi 2), (12, .slice A_16 (([1, 2] : List Int).length) 2), (26, .agg (vals ([C.slc A_12 (([0, 1] : List Int).length) 2, C.slc A_14 (([0, 2] : List Int).length) 2, C.slc A_16 (([1, 2] : List Int).length) 2]))), (27, vi 2)] hs fun a hs => hK150 _ _ ?_
        clear hK150
        refine qsr fun K151 hK151 => ?_
        refine qpe 3 [(0, pp b_x0), (5, pp b_20), (8, pp b_22), (9, pp b_36), (10, pp b_39), (11, vi 2), (26, .agg (vals ([C.slc A_12 (([0, 1] : List Int).length) 2, C.slc A_14 (([0, 2] : List Int).length) 2, C.slc A_16 (([1, 2] : List Int).length) 2]))), (27, vi 2), (31, .slice A_16 (([1, 2] : List Int).length) 2), (32, vi 2), (33, vi 0)] hs fun a hs => hK151 _ _ ?_
        clear hK151
        refine wp_block ?_
        refine Vk.unroll0 40 ?_
        refine Vk.unroll fun KL152 hKL152 => ?_
        refine qsr fun K153 hK153 => ?_
        refine qpe 1 [(0, pp b_x0), (5, pp b_20), (8, pp b_22), (9, pp b_36), (10, pp b_39), (11, vi 2), (26, .agg (vals ([C.slc A_12 (([0, 1] : List Int).length) 2, C.slc A_14 (([0, 2] : List Int).length) 2, C.slc A_16 (([1, 2] : List Int).length) 2]))), (27, vi 2), (31, .slice A_16 (([1, 2] : List Int).length) 2), (32, vi 2), (33, vi 0), (34, .bool true)] hs fun a hs => hK153 _ _ ?_
        clear hK153
        refine Vk.seq fun K154 hK154 => ?_
        refine qct hs ?_
        refine wp_skip ?_
        refine hK154 _ _ ?_
        clear hK154
        refine Vk.seq fun K155 hK155 => ?_
        refine wp_block ?_
        refine qsr fun K156 hK156 => ?_
        obtain ⟨h_157, hm⟩ := ite_t hm
        obtain ⟨e_160, h_158, hm⟩ := bind_t hm
        obtain ⟨b_161, o_162, hA_163, h_159⟩ := Sl.elem (Own.rowSl 0 (Own.to (S' := rowp A_16 2 3 1 (eI .i64) ([1, 2] : List Int) :: S) hs.own [12] 17 (by kernel_rfl) (by kernel_rfl)) rfl) h_158
        refine Vk.step (Vk.value (some 35) (.pointer (some ⟨b_161, o_162 + 0 * 1, none⟩)) hs (by kernel_rfl) (op := (.indexAddr 159 (.tmp 31) (.tmp 33))) (by kernel_rfl) (fun o ho => run_idxSlc (k := .i64) ho (cap := 2) (len := ([1, 2] : List Int).length) ((congrArg (fun A => Value.slice A (([1, 2] : List Int).length) (2)) hA_163) ▸ (by kernel_rfl)) (by kernel_rfl) (by kernel_rfl) (idx_ok h_157 h_158) _) fun a hs => ?_)
        refine Vk.step (Vk.value (some 36) (vi e_160) hs (by kernel_rfl) (op := (.load 3 (.tmp 35))) (by kernel_rfl) (fun o ho => run_load1 (c := ci e_160) ho (by kernel_rfl) (by kernel_rfl) (fun w ho => h_159 w ho 0 _ rfl) _ (Own.to (S' := rowp A_16 2 3 1 (eI .i64) ([1, 2] : List Int) :: S) hs.own [12] 17 (by kernel_rfl) (by kernel_rfl))) fun a hs => ?_)
        refine qpe 1 [(0, pp b_x0), (5, pp b_20), (8, pp b_22), (9, pp b_36), (10, pp b_39), (11, vi 2), (14, vi e_160), (26, .agg (vals ([C.slc A_12 (([0, 1] : List Int).length) 2, C.slc A_14 (([0, 2] : List Int).length) 2, C.slc A_16 (([1, 2] : List Int).length) 2]))), (27, vi 2), (31, .slice A_16 (([1, 2] : List Int).length) 2), (32, vi 2), (33, vi 0)] hs fun a hs => hK156 _ _ ?_
        clear hK156
        obtain ⟨C_164, hC_164⟩ : ∃ X0 : List HP, X0 = (rowp A_138 1 3 1 (eI .i64) ([v_137] : List Int) :: rowp A_141 c_142 3 1 (eI .i64) ((([] : List Int) ++ ([v_115] : List Int)) ++ ([v_137] : List Int)) :: rowp A_116 1 3 1 (eI .i64) ([v_115] : List Int) :: rowp A_86 1 3 1 (eI .i64) ([v_85] : List Int) :: rowp A_89 c_90 3 1 (eI .i64) ((([] : List Int) ++ ([v_63] : List Int)) ++ ([v_85] : List Int)) :: rowp A_64 1 3 1 (eI .i64) ([v_63] : List Int) :: pt b_39 (blk ([C.slc A_89 (((([] : List Int) ++ ([v_63] : List Int)) ++ ([v_85] : List Int)).length) c_90, C.slc A_141 (((([] : List Int) ++ ([v_115] : List Int)) ++ ([v_137] : List Int)).length) c_142, C.slc none 0 0]) 160) :: pt b_36 (blk v_35.1 26) :: Twire_Machine.own b_x0 v_35.2 :: pt b_22 (blk [ci 0, ci 0, ci 0] 28) :: pt b_21 (blk ([C.slc A_12 (([0, 1] : List Int).length) 2, C.slc A_14 (([0, 2] : List Int).length) 2, C.slc A_16 (([1, 2] : List Int).length) 2]) 160) :: pt b_20 (blk x1 28) :: rowp A_16 2 3 1 (eI .i64) ([1, 2] : List Int) :: rowp A_14 2 3 1 (eI .i64) ([0, 2] : List Int) :: rowp A_12 2 3 1 (eI .i64) ([0, 1] : List Int) :: pt b_3 (blk [ci 0, ci 0, ci 0] 28) :: pt b_2 (blk x1 28) :: S) := ⟨_, rfl⟩
        refine qdr 10 κ C_164 hs fun w hs hqC_164 => ?_
        have hcz : Own κ w (rowp A_138 1 3 1 (eI .i64) ([v_137] : List Int) :: rowp A_141 c_142 3 1 (eI .i64) ((([] : List Int) ++ ([v_115] : List Int)) ++ ([v_137] : List Int)) :: rowp A_116 1 3 1 (eI .i64) ([v_115] : List Int) :: rowp A_86 1 3 1 (eI .i64) ([v_85] : List Int) :: rowp A_89 c_90 3 1 (eI .i64) ((([] : List Int) ++ ([v_63] : List Int)) ++ ([v_85] : List Int)) :: rowp A_64 1 3 1 (eI .i64) ([v_63] : List Int) :: pt b_39 (blk ([C.slc A_89 (((([] : List Int) ++ ([v_63] : List Int)) ++ ([v_85] : List Int)).length) c_90, C.slc A_141 (((([] : List Int) ++ ([v_115] : List Int)) ++ ([v_137] : List Int)).length) c_142, C.slc none 0 0]) 160) :: pt b_36 (blk v_35.1 26) :: Twire_Machine.own b_x0 v_35.2 :: pt b_22 (blk [ci 0, ci 0, ci 0] 28) :: pt b_21 (blk ([C.slc A_12 (([0, 1] : List Int).length) 2, C.slc A_14 (([0, 2] : List Int).length) 2, C.slc A_16 (([1, 2] : List Int).length) 2]) 160) :: pt b_20 (blk x1 28) :: rowp A_16 2 3 1 (eI .i64) ([1, 2] : List Int) :: rowp A_14 2 3 1 (eI .i64) ([0, 2] : List Int) :: rowp A_12 2 3 1 (eI .i64) ([0, 1] : List Int) :: pt b_3 (blk [ci 0, ci 0, ci 0] 28) :: pt b_2 (blk x1 28) :: S) := (Own.to hs.own [0, 1, 2, 3, 4, 5, 6, 7, 8, 9, 10, 11, 12, 13, 14, 15, 16] 17 (by kernel_rfl) (by kernel_rfl))
        have hcl : Own κ w C_164 := by rw [hC_164]; exact hcz
        refine qdp (fuel := 7) [0, 1, 2, 4] hs hcl hqC_164 fun a hs => ?_
        refine qdl 3 6 (C.slc none 0 0) hs hcl hqC_164 hC_164 rfl fun a hs => ?_
        obtain ⟨h_165, hm⟩ := ite_t hm
        refine Vk.dTakeT (i := 5) (some 42) (.pointer (some ⟨b_36, 0 + e_160.toNat * 1, none⟩)) hs (by kernel_rfl) hqC_164 hcl (by kernel_rfl) (by kernel_rfl) (op := (.indexAddr 26 (.tmp 9) (.tmp 41))) (by kernel_rfl) (by kernel_rfl) (fun w hw o ho => by rw [hC_164] at hw; exact run_idxArr (k := .i64) ho (by kernel_rfl) (by kernel_rfl) (by kernel_rfl) h_165 _) fun a hs => ?_
        obtain ⟨v_167, h_166, hm⟩ := bind_t hm
        refine Vk.dTakeT (i := 6) (some 43) (vi v_167) hs (by kernel_rfl) hqC_164 hcl (by kernel_rfl) (by kernel_rfl) (op := (.load 3 (.tmp 42))) (by kernel_rfl) (by kernel_rfl) (fun w hw o ho => by rw [hC_164] at hw; exact run_load1 (c := ci v_167) ho (by kernel_rfl) (by kernel_rfl) (Cell.own 7 rfl (getI_some h_166)) _ hw) fun a hs => ?_
        refine Vk.dOnly (i := 7) (by kernel_rfl) (Vk.buildOp (sz := 1) (by_ := 8) (t := 159) (e := 3) (parts := #[(0, (.tmp 43))]) (zs := vals [ci 0]) ([v_167] : List Int) (eI .i64) (some 44) hs (by kernel_rfl) (by kernel_rfl) (by kernel_rfl) (by kernel_rfl) (by decide) rfl (fun x _ => rfl) (Nat.le_of_ble_eq_true (by kernel_rfl)) (by kernel_rfl) fun A_168 w a hs => ?_)
        replace hcl : Own κ w C_164 := by rw [hC_164]; exact (Own.to hs.own [1, 2, 3, 4, 5, 6, 7, 8, 9, 10, 11, 12, 13, 14, 15, 16, 17] 18 (by kernel_rfl) (by kernel_rfl))
        refine ⟨fun _ => hcl, ?_⟩
        replace hs := hs.addRow none 3 1 (eI .i64)
        obtain ⟨h_171, hm⟩ := ite_t hm
        refine Vk.dOnly (i := 8) (by kernel_rfl) (Vk.appendOp (x := (.tmp 40)) (y := (.tmp 44)) (e := 3) (t := 159) (by_ := 8) (sz := 1) (enc := (eI .i64)) (A := none) (cap := 0) (xs := ([] : List Int)) (ys := ([v_167] : List Int)) (B := A_168) (c2 := 1) 0 (some 45) hs (by kernel_rfl) (by kernel_rfl) (by kernel_rfl) (by kernel_rfl) rfl (Sl.lift (fun w ho => (Own.to (S' := rowp A_168 1 3 1 (eI .i64) ([v_167] : List Int) :: S) ho [1] 19 (by kernel_rfl) (by kernel_rfl))) (Own.rowSl 0 (Own.to (S' := rowp A_168 1 3 1 (eI .i64) ([v_167] : List Int) :: S) hs.own [1] 19 (by kernel_rfl) (by kernel_rfl)) rfl)) (by kernel_rfl) (by kernel_rfl) (by decide) (by decide) h_171 fun A_172 c_173 w a hs => ?_)
        replace hcl : Own κ w C_164 := by rw [hC_164]; exact (Own.to hs.own [2, 3, 4, 5, 6, 7, 8, 9, 10, 11, 12, 13, 14, 15, 16, 17, 18] 19 (by kernel_rfl) (by kernel_rfl))
        refine ⟨fun _ => hcl, ?_⟩
        refine qdp (fuel := 1) [9] hs hcl hqC_164 fun a hs => ?_
        refine Vk.dOnly (i := 10) (by kernel_rfl) (Vk.store1 (b := b_39) (ty := 159) (x := (.tmp 46)) (y := (.tmp 45)) (off := 2) (C.slc A_172 ((([] : List Int) ++ ([v_167] : List Int)).length) c_173) 8 hs (by kernel_rfl) (by kernel_rfl) (by kernel_rfl) (by kernel_rfl) (by kernel_rfl) (by kernel_rfl) rfl (Nat.le_of_ble_eq_true (by kernel_rfl)) fun a w hs => ?_)
        refine ⟨fun h => absurd h (by decide), ?_⟩
        replace hs := hs.pick [0, 5, 8, 9, 10, 11, 26, 27, 31, 32, 33] (L' := [(0, pp b_x0), (5, pp b_20), (8, pp b_22), (9, pp b_36), (10, pp b_39), (11, vi 2), (26, .agg (vals ([C.slc A_12 (([0, 1] : List Int).length) 2, C.slc A_14 (([0, 2] : List Int).length) 2, C.slc A_16 (([1, 2] : List Int).length) 2]))), (27, vi 2), (31, .slice A_16 (([1, 2] : List Int).length) 2), (32, vi 2), (33, vi 0)]) (by kernel_rfl)
        refine Vk.dDone (by kernel_rfl) ?_
        refine hK155 _ _ ?_
        clear hK155
        refine Vk.region ?_
        refine qpe 2 [(0, pp b_x0), (5, pp b_20), (8, pp b_22), (9, pp b_36), (10, pp b_39), (11, vi 2), (26, .agg (vals ([C.slc A_12 (([0, 1] : List Int).length) 2, C.slc A_14 (([0, 2] : List Int).length) 2, C.slc A_16 (([1, 2] : List Int).length) 2]))), (27, vi 2), (31, .slice A_16 (([1, 2] : List Int).length) 2), (32, vi 2), (33, vi 1)] hs fun a hs => hKL152 _ _ ?_
        clear hKL152
        refine Vk.unroll fun KL174 hKL174 => ?_
        refine qsr fun K175 hK175 => ?_
        refine qpe 1 [(0, pp b_x0), (5, pp b_20), (8, pp b_22), (9, pp b_36), (10, pp b_39), (11, vi 2), (26, .agg (vals ([C.slc A_12 (([0, 1] : List Int).length) 2, C.slc A_14 (([0, 2] : List Int).length) 2, C.slc A_16 (([1, 2] : List Int).length) 2]))), (27, vi 2), (31, .slice A_16 (([1, 2] : List Int).length) 2), (32, vi 2), (33, vi 1), (34, .bool true)] hs fun a hs => hK175 _ _ ?_
        clear hK175
        refine Vk.seq fun K176 hK176 => ?_
        refine qct hs ?_
        refine wp_skip ?_
        refine hK176 _ _ ?_
        clear hK176
        refine Vk.seq fun K177 hK177 => ?_
        refine wp_block ?_
        refine qsr fun K178 hK178 => ?_
        obtain ⟨h_179, hm⟩ := ite_t hm
        obtain ⟨e_182, h_180, hm⟩ := bind_t hm
        obtain ⟨b_183, o_184, hA_185, h_181⟩ := Sl.elem (Own.rowSl 0 (Own.to (S' := rowp A_16 2 3 1 (eI .i64) ([1, 2] : List Int) :: S) hs.own [14] 19 (by kernel_rfl) (by kernel_rfl)) rfl) h_180
        refine Vk.step (Vk.value (some 35) (.pointer (some ⟨b_183, o_184 + 1 * 1, none⟩)) hs (by kernel_rfl) (op := (.indexAddr 159 (.tmp 31) (.tmp 33))) (by kernel_rfl) (fun o ho => run_idxSlc (k := .i64) ho (cap := 2) (len := ([1, 2] : List Int).length) ((congrArg (fun A => Value.slice A (([1, 2] : List Int).length) (2)) hA_185) ▸ (by kernel_rfl)) (by kernel_rfl) (by kernel_rfl) (idx_ok h_179 h_180) _) fun a hs => ?_)
        refine Vk.step (Vk.value (some 36) (vi e_182) hs (by kernel_rfl) (op := (.load 3 (.tmp 35))) (by kernel_rfl) (fun o ho => run_load1 (c := ci e_182) ho (by kernel_rfl) (by kernel_rfl) (fun w ho => h_181 w ho 0 _ rfl) _ (Own.to (S' := rowp A_16 2 3 1 (eI .i64) ([1, 2] : List Int) :: S) hs.own [14] 19 (by kernel_rfl) (by kernel_rfl))) fun a hs => ?_)
        refine qpe 1 [(0, pp b_x0), (5, pp b_20), (8, pp b_22), (9, pp b_36), (10, pp b_39), (11, vi 2), (14, vi e_182), (26, .agg (vals ([C.slc A_12 (([0, 1] : List Int).length) 2, C.slc A_14 (([0, 2] : List Int).length) 2, C.slc A_16 (([1, 2] : List Int).length) 2]))), (27, vi 2), (31, .slice A_16 (([1, 2] : List Int).length) 2), (32, vi 2), (33, vi 1)] hs fun a hs => hK178 _ _ ?_
        clear hK178
        obtain ⟨C_186, hC_186⟩ : ∃ X0 : List HP, X0 = (rowp A_168 1 3 1 (eI .i64) ([v_167] : List Int) :: rowp A_138 1 3 1 (eI .i64) ([v_137] : List Int) :: rowp A_141 c_142 3 1 (eI .i64) ((([] : List Int) ++ ([v_115] : List Int)) ++ ([v_137] : List Int)) :: rowp A_116 1 3 1 (eI .i64) ([v_115] : List Int) :: rowp A_86 1 3 1 (eI .i64) ([v_85] : List Int) :: rowp A_89 c_90 3 1 (eI .i64) ((([] : List Int) ++ ([v_63] : List Int)) ++ ([v_85] : List Int)) :: rowp A_64 1 3 1 (eI .i64) ([v_63] : List Int) :: pt b_39 (blk ([C.slc A_89 (((([] : List Int) ++ ([v_63] : List Int)) ++ ([v_85] : List Int)).length) c_90, C.slc A_141 (((([] : List Int) ++ ([v_115] : List Int)) ++ ([v_137] : List Int)).length) c_142, C.slc A_172 ((([] : List Int) ++ ([v_167] : List Int)).length) c_173]) 160) :: pt b_36 (blk v_35.1 26) :: Twire_Machine.own b_x0 v_35.2 :: pt b_22 (blk [ci 0, ci 0, ci 0] 28) :: pt b_21 (blk ([C.slc A_12 (([0, 1] : List Int).length) 2, C.slc A_14 (([0, 2] : List Int).length) 2, C.slc A_16 (([1, 2] : List Int).length) 2]) 160) :: pt b_20 (blk x1 28) :: rowp A_16 2 3 1 (eI .i64) ([1, 2] : List Int) :: rowp A_14 2 3 1 (eI .i64) ([0, 2] : List Int) :: rowp A_12 2 3 1 (eI .i64) ([0, 1] : List Int) :: pt b_3 (blk [ci 0, ci 0, ci 0] 28) :: pt b_2 (blk x1 28) :: S) := ⟨_, rfl⟩
        refine qdr 10 κ C_186 hs fun w hs hqC_186 => ?_
        have hcz : Own κ w (rowp A_168 1 3 1 (eI .i64) ([v_167] : List Int) :: rowp A_138 1 3 1 (eI .i64) ([v_137] : List Int) :: rowp A_141 c_142 3 1 (eI .i64) ((([] : List Int) ++ ([v_115] : List Int)) ++ ([v_137] : List Int)) :: rowp A_116 1 3 1 (eI .i64) ([v_115] : List Int) :: rowp A_86 1 3 1 (eI .i64) ([v_85] : List Int) :: rowp A_89 c_90 3 1 (eI .i64) ((([] : List Int) ++ ([v_63] : List Int)) ++ ([v_85] : List Int)) :: rowp A_64 1 3 1 (eI .i64) ([v_63] : List Int) :: pt b_39 (blk ([C.slc A_89 (((([] : List Int) ++ ([v_63] : List Int)) ++ ([v_85] : List Int)).length) c_90, C.slc A_141 (((([] : List Int) ++ ([v_115] : List Int)) ++ ([v_137] : List Int)).length) c_142, C.slc A_172 ((([] : List Int) ++ ([v_167] : List Int)).length) c_173]) 160) :: pt b_36 (blk v_35.1 26) :: Twire_Machine.own b_x0 v_35.2 :: pt b_22 (blk [ci 0, ci 0, ci 0] 28) :: pt b_21 (blk ([C.slc A_12 (([0, 1] : List Int).length) 2, C.slc A_14 (([0, 2] : List Int).length) 2, C.slc A_16 (([1, 2] : List Int).length) 2]) 160) :: pt b_20 (blk x1 28) :: rowp A_16 2 3 1 (eI .i64) ([1, 2] : List Int) :: rowp A_14 2 3 1 (eI .i64) ([0, 2] : List Int) :: rowp A_12 2 3 1 (eI .i64) ([0, 1] : List Int) :: pt b_3 (blk [ci 0, ci 0, ci 0] 28) :: pt b_2 (blk x1 28) :: S) := (Own.to hs.own [1, 2, 3, 4, 5, 6, 7, 8, 9, 10, 11, 12, 13, 14, 15, 16, 17, 18] 19 (by kernel_rfl) (by kernel_rfl))
        have hcl : Own κ w C_186 := by rw [hC_186]; exact hcz
        refine qdp (fuel := 7) [0, 1, 2, 4] hs hcl hqC_186 fun a hs => ?_
        refine qdl 3 7 (C.slc A_172 ((([] : List Int) ++ ([v_167] : List Int)).length) c_173) hs hcl hqC_186 hC_186 rfl fun a hs => ?_
        obtain ⟨h_187, hm⟩ := ite_t hm
        refine Vk.dTakeT (i := 5) (some 42) (.pointer (some ⟨b_36, 0 + e_182.toNat * 1, none⟩)) hs (by kernel_rfl) hqC_186 hcl (by kernel_rfl) (by kernel_rfl) (op := (.indexAddr 26 (.tmp 9) (.tmp 41))) (by kernel_rfl) (by kernel_rfl) (fun w hw o ho => by rw [hC_186] at hw; exact run_idxArr (k := .i64) ho (by kernel_rfl) (by kernel_rfl) (by kernel_rfl) h_187 _) fun a hs => ?_
        obtain ⟨v_189, h_188, hm⟩ := bind_t hm
        refine Vk.dTakeT (i := 6) (some 43) (vi v_189) hs (by kernel_rfl) hqC_186 hcl (by kernel_rfl) (by kernel_rfl) (op := (.load 3 (.tmp 42))) (by kernel_rfl) (by kernel_rfl) (fun w hw o ho => by rw [hC_186] at hw; exact run_load1 (c := ci v_189) ho (by kernel_rfl) (by kernel_rfl) (Cell.own 8 rfl (getI_some h_188)) _ hw) fun a hs => ?_
        refine Vk.dOnly (i := 7) (by kernel_rfl) (Vk.buildOp (sz := 1) (by_ := 8) (t := 159) (e := 3) (parts := #[(0, (.tmp 43))]) (zs := vals [ci 0]) ([v_189] : List Int) (eI .i64) (some 44) hs (by kernel_rfl) (by kernel_rfl) (by kernel_rfl) (by kernel_rfl) (by decide) rfl (fun x _ => rfl) (Nat.le_of_ble_eq_true (by kernel_rfl)) (by kernel_rfl) fun A_190 w a hs => ?_)
        replace hcl : Own κ w C_186 := by rw [hC_186]; exact (Own.to hs.own [2, 3, 4, 5, 6, 7, 8, 9, 10, 11, 12, 13, 14, 15, 16, 17, 18, 19] 20 (by kernel_rfl) (by kernel_rfl))
        refine ⟨fun _ => hcl, ?_⟩
        obtain ⟨h_192, hm⟩ := ite_t hm
        refine Vk.dOnly (i := 8) (by kernel_rfl) (Vk.appendOp (x := (.tmp 40)) (y := (.tmp 44)) (e := 3) (t := 159) (by_ := 8) (sz := 1) (enc := (eI .i64)) (A := A_172) (cap := c_173) (xs := ([] : List Int) ++ ([v_167] : List Int)) (ys := ([v_189] : List Int)) (B := A_190) (c2 := 1) 1 (some 45) hs (by kernel_rfl) (by kernel_rfl) (by kernel_rfl) (by kernel_rfl) rfl (Sl.lift (fun w ho => (Own.to (S' := rowp A_190 1 3 1 (eI .i64) ([v_189] : List Int) :: S) ho [0] 20 (by kernel_rfl) (by kernel_rfl))) (Own.rowSl 0 (Own.to (S' := rowp A_190 1 3 1 (eI .i64) ([v_189] : List Int) :: S) hs.own [0] 20 (by kernel_rfl) (by kernel_rfl)) rfl)) (by kernel_rfl) (by kernel_rfl) (by decide) (by decide) h_192 fun A_193 c_194 w a hs => ?_)
        replace hcl : Own κ w C_186 := by rw [hC_186]; exact (Own.to hs.own [2, 3, 4, 5, 6, 7, 8, 9, 10, 11, 12, 13, 14, 15, 16, 17, 18, 19] 20 (by kernel_rfl) (by kernel_rfl))
        refine ⟨fun _ => hcl, ?_⟩
        refine qdp (fuel := 1) [9] hs hcl hqC_186 fun a hs => ?_
        refine Vk.dOnly (i := 10) (by kernel_rfl) (Vk.store1 (b := b_39) (ty := 159) (x := (.tmp 46)) (y := (.tmp 45)) (off := 2) (C.slc A_193 (((([] : List Int) ++ ([v_167] : List Int)) ++ ([v_189] : List Int)).length) c_194) 9 hs (by kernel_rfl) (by kernel_rfl) (by kernel_rfl) (by kernel_rfl) (by kernel_rfl) (by kernel_rfl) rfl (Nat.le_of_ble_eq_true (by kernel_rfl)) fun a w hs => ?_)
        refine ⟨fun h => absurd h (by decide), ?_⟩
        replace hs := hs.pick [0, 5, 8, 9, 10, 11, 26, 27, 31, 32, 33] (L' := [(0, pp b_x0), (5, pp b_20), (8, pp b_22), (9, pp b_36), (10, pp b_39), (11, vi 2), (26, .agg (vals ([C.slc A_12 (([0, 1] : List Int).length) 2, C.slc A_14 (([0, 2] : List Int).length) 2, C.slc A_16 (([1, 2] : List Int).length) 2]))), (27, vi 2), (31, .slice A_16 (([1, 2] : List Int).length) 2), (32, vi 2), (33, vi 1)]) (by kernel_rfl)
        refine Vk.dDone (by kernel_rfl) ?_
        refine hK177 _ _ ?_
        clear hK177
        refine Vk.region ?_
        refine qpe 2 [(0, pp b_x0), (5, pp b_20), (8, pp b_22), (9, pp b_36), (10, pp b_39), (11, vi 2), (26, .agg (vals ([C.slc A_12 (([0, 1] : List Int).length) 2, C.slc A_14 (([0, 2] : List Int).length) 2, C.slc A_16 (([1, 2] : List Int).length) 2]))), (27, vi 2), (31, .slice A_16 (([1, 2] : List Int).length) 2), (32, vi 2), (33, vi 2)] hs fun a hs => hKL174 _ _ ?_
        clear hKL174
        refine Vk.unroll fun KL195 hKL195 => ?_
        refine qsr fun K196 hK196 => ?_
        refine qpe 1 [(0, pp b_x0), (5, pp b_20), (8, pp b_22), (9, pp b_36), (10, pp b_39), (11, vi 2), (26, .agg (vals ([C.slc A_12 (([0, 1] : List Int).length) 2, C.slc A_14 (([0, 2] : List Int).length) 2, C.slc A_16 (([1, 2] : List Int).length) 2]))), (27, vi 2), (31, .slice A_16 (([1, 2] : List Int).length) 2), (32, vi 2), (33, vi 2), (34, .bool false)] hs fun a hs => hK196 _ _ ?_
        clear hK196
        refine Vk.seq fun K197 hK197 => ?_
        refine qcf hs ?_
        refine wp_exit ?_
        refine hK149 _ _ ?_
        clear hK149
        refine Vk.region ?_
        refine qpe 2 [(0, pp b_x0), (5, pp b_20), (8, pp b_22), (9, pp b_36), (10, pp b_39), (26, .agg (vals ([C.slc A_12 (([0, 1] : List Int).length) 2, C.slc A_14 (([0, 2] : List Int).length) 2, C.slc A_16 (([1, 2] : List Int).length) 2]))), (27, vi 3)] hs fun a hs => hKL146 _ _ ?_
        clear hKL146
        refine Vk.unroll fun KL198 hKL198 => ?_
        refine qsr fun K199 hK199 => ?_
        refine qpe 1 [(0, pp b_x0), (5, pp b_20), (8, pp b_22), (9, pp b_36), (10, pp b_39), (26, .agg (vals ([C.slc A_12 (([0, 1] : List Int).length) 2, C.slc A_14 (([0, 2] : List Int).length) 2, C.slc A_16 (([1, 2] : List Int).length) 2]))), (27, vi 3), (28, .bool false)] hs fun a hs => hK199 _ _ ?_
        clear hK199
        refine Vk.seq fun K200 hK200 => ?_
        refine qcf hs ?_
        refine wp_exit ?_
        refine hK40 _ _ ?_
        clear hK40
        refine qsr fun K201 hK201 => ?_
        refine qpu 1 hs fun a hs => ?_
        refine Vk.step (Vk.value (some 50) (.agg (vals x1)) hs (by kernel_rfl) (op := (.load 28 (.tmp 5))) (by kernel_rfl) (fun o ho => run_loadN (cs := x1) ho (by kernel_rfl) (by kernel_rfl) h_11 (CellsAt.all 14 rfl) _ hs.own) fun a hs => ?_)
        refine qln 9 ([C.slc A_89 (((([] : List Int) ++ ([v_63] : List Int)) ++ ([v_85] : List Int)).length) c_90, C.slc A_141 (((([] : List Int) ++ ([v_115] : List Int)) ++ ([v_137] : List Int)).length) c_142, C.slc A_193 (((([] : List Int) ++ ([v_167] : List Int)) ++ ([v_189] : List Int)).length) c_194]) hs rfl fun a hs => ?_
        refine Vk.step (Vk.call (some 52) 161 #[pp b_x0, .agg (vals x1), .agg (vals ([C.slc A_89 (((([] : List Int) ++ ([v_63] : List Int)) ++ ([v_85] : List Int)).length) c_90, C.slc A_141 (((([] : List Int) ++ ([v_115] : List Int)) ++ ([v_137] : List Int)).length) c_142, C.slc A_193 (((([] : List Int) ++ ([v_167] : List Int)) ++ ([v_189] : List Int)).length) c_194]))] hs (by kernel_rfl) (by kernel_rfl) (by kernel_rfl) ?_)
        refine Vk.enterI [(0, pp b_x0), (1, .agg (vals x1)), (2, .agg (vals ([C.slc A_89 (((([] : List Int) ++ ([v_63] : List Int)) ++ ([v_85] : List Int)).length) c_90, C.slc A_141 (((([] : List Int) ++ ([v_115] : List Int)) ++ ([v_137] : List Int)).length) c_142, C.slc A_193 (((([] : List Int) ++ ([v_167] : List Int)) ++ ([v_189] : List Int)).length) c_194])))] Try.func161 rfl Try.ntmps161 (by kernel_rfl) (Nat.le_of_ble_eq_true (by kernel_rfl)) hs.own fun KR202 hKR202 hKP202 a hs => ?_
        refine qsr fun K203 hK203 => ?_
        refine Vk.step (Vk.box (x := (.tmp 1)) 4 28 x1 hs (by kernel_rfl) (by kernel_rfl) (by kernel_rfl) fun b_204 w a hs => ?_)
        refine Vk.step (Vk.box (x := (.tmp 2)) 5 160 ([C.slc A_89 (((([] : List Int) ++ ([v_63] : List Int)) ++ ([v_85] : List Int)).length) c_90, C.slc A_141 (((([] : List Int) ++ ([v_115] : List Int)) ++ ([v_137] : List Int)).length) c_142, C.slc A_193 (((([] : List Int) ++ ([v_167] : List Int)) ++ ([v_189] : List Int)).length) c_194]) hs (by kernel_rfl) (by kernel_rfl) (by kernel_rfl) fun b_205 w a hs => ?_)
        refine Vk.step (Vk.alloc 6 28 [ci 0, ci 0, ci 0] hs (by kernel_rfl) (by kernel_rfl) (by kernel_rfl) fun b_206 w a hs => ?_)
        refine qpe 0 [(0, pp b_x0), (4, pp b_204), (5, pp b_205), (6, pp b_206)] hs fun a hs => hK203 _ _ ?_
        clear hK203
        refine qsr fun K207 hK207 => ?_
        refine Vk.step (Vk.value (some 11) (.agg (vals x1)) hs (by kernel_rfl) (op := (.load 28 (.tmp 4))) (by kernel_rfl) (fun o ho => run_loadN (cs := x1) ho (by kernel_rfl) (by kernel_rfl) h_11 (CellsAt.all 2 rfl) _ hs.own) fun a hs => ?_)
        refine Vk.step (Vk.alloc 7 28 [ci 0, ci 0, ci 0] hs (by kernel_rfl) (by kernel_rfl) (by kernel_rfl) fun b_208 w a hs => ?_)
        refine Vk.step (Vk.storeA (b := b_208) (ty := 28) (x := (.tmp 7)) (y := (.tmp 11)) (sz := 3) x1 0 hs (by kernel_rfl) (by kernel_rfl) (by kernel_rfl) (by kernel_rfl) (by kernel_rfl) h_11 (by kernel_rfl) rfl (Eq.trans (b := 3) h_11 (Eq.symm rfl)) fun a w hs => ?_)
        refine qpe 0 [(0, pp b_x0), (5, pp b_205), (6, pp b_206), (7, pp b_208)] hs fun a hs => hK207 _ _ ?_
        clear hK207
        refine Vk.seq fun K209 hK209 => ?_
        refine qsr fun K210 hK210 => ?_
        refine qpu 1 hs fun a hs => ?_
        obtain ⟨g_211, hs⟩ := hs.unex 15 rfl
        obtain ⟨v_214, h_213, hm⟩ := bind_t hm
        refine Vk.step (Vk.call (some 13) 89 #[pp b_x0] hs (by kernel_rfl) (by kernel_rfl) (by kernel_rfl) ?_)
        refine (wire_Machine_N.ok k v_35.2 v_214 h_213 κ w (pt b_208 (blk x1 28) :: pt b_206 (blk [ci 0, ci 0, ci 0] 28) :: pt b_205 (blk ([C.slc A_89 (((([] : List Int) ++ ([v_63] : List Int)) ++ ([v_85] : List Int)).length) c_90, C.slc A_141 (((([] : List Int) ++ ([v_115] : List Int)) ++ ([v_137] : List Int)).length) c_142, C.slc A_193 (((([] : List Int) ++ ([v_167] : List Int)) ++ ([v_189] : List Int)).length) c_194]) 160) :: pt b_204 (blk x1 28) :: rowp A_190 1 3 1 (eI .i64) ([v_189] : List Int) :: rowp A_193 c_194 3 1 (eI .i64) ((([] : List Int) ++ ([v_167] : List Int)) ++ ([v_189] : List Int)) :: rowp A_168 1 3 1 (eI .i64) ([v_167] : List Int) :: rowp A_138 1 3 1 (eI .i64) ([v_137] : List Int) :: rowp A_141 c_142 3 1 (eI .i64) ((([] : List Int) ++ ([v_115] : List Int)) ++ ([v_137] : List Int)) :: rowp A_116 1 3 1 (eI .i64) ([v_115] : List Int) :: rowp A_86 1 3 1 (eI .i64) ([v_85] : List Int) :: rowp A_89 c_90 3 1 (eI .i64) ((([] : List Int) ++ ([v_63] : List Int)) ++ ([v_85] : List Int)) :: rowp A_64 1 3 1 (eI .i64) ([v_63] : List Int) :: pt b_39 (blk ([C.slc A_89 (((([] : List Int) ++ ([v_63] : List Int)) ++ ([v_85] : List Int)).length) c_90, C.slc A_141 (((([] : List Int) ++ ([v_115] : List Int)) ++ ([v_137] : List Int)).length) c_142, C.slc A_193 (((([] : List Int) ++ ([v_167] : List Int)) ++ ([v_189] : List Int)).length) c_194]) 160) :: pt b_36 (blk v_35.1 26) :: pt b_22 (blk [ci 0, ci 0, ci 0] 28) :: pt b_21 (blk ([C.slc A_12 (([0, 1] : List Int).length) 2, C.slc A_14 (([0, 2] : List Int).length) 2, C.slc A_16 (([1, 2] : List Int).length) 2]) 160) :: pt b_20 (blk x1 28) :: rowp A_16 2 3 1 (eI .i64) ([1, 2] : List Int) :: rowp A_14 2 3 1 (eI .i64) ([0, 2] : List Int) :: rowp A_12 2 3 1 (eI .i64) ([0, 1] : List Int) :: pt b_3 (blk [ci 0, ci 0, ci 0] 28) :: pt b_2 (blk x1 28) :: S) b_x0 g_211 (Own.to hs.own [15, 0, 1, 2, 3, 4, 5, 6, 7, 8, 9, 10, 11, 12, 13, 14, 16, 17, 18, 19, 20, 21, 22, 23] 24 (by kernel_rfl) (by kernel_rfl))).mono ?_
        rintro _ w ⟨rfl, how⟩
        refine ⟨_, _, _, rfl, how, fun a hs => ?_⟩
        rcases Bool.eq_false_or_eq_true (v_214 == 3) with hb | hb
        · replace hm := bif_t hm hb
          obtain rfl := Vk.of_beq hb
          refine qpe 1 [(0, pp b_x0), (5, pp b_205), (6, pp b_206), (7, pp b_208), (13, vi 3), (14, vi 0)] hs fun a hs => hK210 _ _ ?_
          clear hK210
          refine wp_block ?_
          refine Vk.unroll0 40 ?_
          refine Vk.unroll fun KL215 hKL215 => ?_
          refine qsr fun K216 hK216 => ?_
          refine qpe 1 [(0, pp b_x0), (5, pp b_205), (6, pp b_206), (7, pp b_208), (13, vi 3), (14, vi 0), (15, .bool true)] hs fun a hs => hK216 _ _ ?_
          clear hK216
          refine Vk.seq fun K217 hK217 => ?_
          refine qct hs ?_
          refine wp_skip ?_
          refine hK217 _ _ ?_
          clear hK217
          refine Vk.seq fun K218 hK218 => ?_
          refine wp_block ?_
          refine qsr fun K219 hK219 => ?_
          refine qpe 2 [(0, pp b_x0), (5, pp b_205), (6, pp b_206), (7, pp b_208), (8, vi 0), (13, vi 3), (14, vi 0)] hs fun a hs => hK219 _ _ ?_
          clear hK219
          refine qsr fun K220 hK220 => ?_
          refine qpu 2 hs fun a hs => ?_
          refine qld 3 (C.slc A_89 (((([] : List Int) ++ ([v_63] : List Int)) ++ ([v_85] : List Int)).length) c_90) hs rfl fun a hs => ?_
          refine qpe 2 [(0, pp b_x0), (5, pp b_205), (6, pp b_206), (7, pp b_208), (8, vi 0), (13, vi 3), (14, vi 0), (19, .slice A_89 (((([] : List Int) ++ ([v_63] : List Int)) ++ ([v_85] : List Int)).length) c_90), (20, vi 2), (21, vi 0)] hs fun a hs => hK220 _ _ ?_
          clear hK220
          refine wp_block ?_
          refine Vk.unroll0 40 ?_
          refine Vk.unroll fun KL221 hKL221 => ?_
          refine qsr fun K222 hK222 => ?_
          refine qpe 1 [(0, pp b_x0), (5, pp b_205), (6, pp b_206), (7, pp b_208), (8, vi 0), (13, vi 3), (14, vi 0), (19, .slice A_89 (((([] : List Int) ++ ([v_63] : List Int)) ++ ([v_85] : List Int)).length) c_90), (20, vi 2), (21, vi 0), (22, .bool true)] hs fun a hs => hK222 _ _ ?_
          clear hK222
          refine Vk.seq fun K223 hK223 => ?_
          refine qct hs ?_
          refine wp_skip ?_
          refine hK223 _ _ ?_
          clear hK223
          refine Vk.seq fun K224 hK224 => ?_
          refine wp_block ?_
          refine qsr fun K225 hK225 => ?_
          obtain ⟨h_226, hm⟩ := ite_t hm
          obtain ⟨e_229, h_227, hm⟩ := bind_t hm
          obtain ⟨b_230, o_231, hA_232, h_228⟩ := Sl.elem (Own.rowSl 0 (Own.to (S' := rowp A_89 c_90 3 1 (eI .i64) ((([] : List Int) ++ ([v_63] : List Int)) ++ ([v_85] : List Int)) :: S) hs.own [12] 24 (by kernel_rfl) (by kernel_rfl)) rfl) h_227
          refine Vk.step (Vk.value (some 23) (.pointer (some ⟨b_230, o_231 + 0 * 1, none⟩)) hs (by kernel_rfl) (op := (.indexAddr 159 (.tmp 19) (.tmp 21))) (by kernel_rfl) (fun o ho => run_idxSlc (k := .i64) ho (cap := c_90) (len := ((([] : List Int) ++ ([v_63] : List Int)) ++ ([v_85] : List Int)).length) ((congrArg (fun A => Value.slice A (((([] : List Int) ++ ([v_63] : List Int)) ++ ([v_85] : List Int)).length) (c_90)) hA_232) ▸ (by kernel_rfl)) (by kernel_rfl) (by kernel_rfl) (idx_ok h_226 h_227) _) fun a hs => ?_)
          refine Vk.step (Vk.value (some 24) (vi e_229) hs (by kernel_rfl) (op := (.load 3 (.tmp 23))) (by kernel_rfl) (fun o ho => run_load1 (c := ci e_229) ho (by kernel_rfl) (by kernel_rfl) (fun w ho => h_228 w ho 0 _ rfl) _ (Own.to (S' := rowp A_89 c_90 3 1 (eI .i64) ((([] : List Int) ++ ([v_63] : List Int)) ++ ([v_85] : List Int)) :: S) hs.own [12] 24 (by kernel_rfl) (by kernel_rfl))) fun a hs => ?_)
          refine qpe 1 [(0, pp b_x0), (5, pp b_205), (6, pp b_206), (7, pp b_208), (8, vi 0), (10, vi e_229), (13, vi 3), (14, vi 0), (19, .slice A_89 (((([] : List Int) ++ ([v_63] : List Int)) ++ ([v_85] : List Int)).length) c_90), (20, vi 2), (21, vi 0)] hs fun a hs => hK225 _ _ ?_
          clear hK225
          refine Vk.region ?_
          refine qpu 6 hs fun a hs => ?_
          obtain ⟨v_234, h_233, hm⟩ := bind_t hm
          refine Vk.step (Vk.value (some 31) (vi v_234) hs (by kernel_rfl) (op := (.load 3 (.tmp 30))) (by kernel_rfl) (fun o ho => run_load1 (c := ci v_234) ho (by kernel_rfl) (by kernel_rfl) (Cell.own 1 rfl (getI_some h_233)) _ hs.own) fun a hs => ?_)
          refine qpu 1 hs fun a hs => ?_
          replace hs := hs.toEx (Twire_Machine.parts b_x0 v_35.2) g_211 0 rfl
          obtain ⟨v_237, h_236, hm⟩ := bind_t hm
          refine Vk.step (Vk.call (some 33) 150 #[pp b_x0, vi 5, vi 0, vi v_234, vi e_229] hs (by kernel_rfl) (by kernel_rfl) (by kernel_rfl) ?_)
          refine (wire_Machine_Two.ok k v_35.2 5 0 v_234 e_229 v_237 h_236 κ w (pt b_208 (blk x1 28) :: pt b_206 (blk [ci 0, ci 0, ci 0] 28) :: pt b_205 (blk ([C.slc A_89 (((([] : List Int) ++ ([v_63] : List Int)) ++ ([v_85] : List Int)).length) c_90, C.slc A_141 (((([] : List Int) ++ ([v_115] : List Int)) ++ ([v_137] : List Int)).length) c_142, C.slc A_193 (((([] : List Int) ++ ([v_167] : List Int)) ++ ([v_189] : List Int)).length) c_194]) 160) :: pt b_204 (blk x1 28) :: rowp A_190 1 3 1 (eI .i64) ([v_189] : List Int) :: rowp A_193 c_194 3 1 (eI .i64) ((([] : List Int) ++ ([v_167] : List Int)) ++ ([v_189] : List Int)) :: rowp A_168 1 3 1 (eI .i64) ([v_167] : List Int) :: rowp A_138 1 3 1 (eI .i64) ([v_137] : List Int) :: rowp A_141 c_142 3 1 (eI .i64) ((([] : List Int) ++ ([v_115] : List Int)) ++ ([v_137] : List Int)) :: rowp A_116 1 3 1 (eI .i64) ([v_115] : List Int) :: rowp A_86 1 3 1 (eI .i64) ([v_85] : List Int) :: rowp A_89 c_90 3 1 (eI .i64) ((([] : List Int) ++ ([v_63] : List Int)) ++ ([v_85] : List Int)) :: rowp A_64 1 3 1 (eI .i64) ([v_63] : List Int) :: pt b_39 (blk ([C.slc A_89 (((([] : List Int) ++ ([v_63] : List Int)) ++ ([v_85] : List Int)).length) c_90, C.slc A_141 (((([] : List Int) ++ ([v_115] : List Int)) ++ ([v_137] : List Int)).length) c_142, C.slc A_193 (((([] : List Int) ++ ([v_167] : List Int)) ++ ([v_189] : List Int)).length) c_194]) 160) :: pt b_36 (blk v_35.1 26) :: pt b_22 (blk [ci 0, ci 0, ci 0] 28) :: pt b_21 (blk ([C.slc A_12 (([0, 1] : List Int).length) 2, C.slc A_14 (([0, 2] : List Int).length) 2, C.slc A_16 (([1, 2] : List Int).length) 2]) 160) :: pt b_20 (blk x1 28) :: rowp A_16 2 3 1 (eI .i64) ([1, 2] : List Int) :: rowp A_14 2 3 1 (eI .i64) ([0, 2] : List Int) :: rowp A_12 2 3 1 (eI .i64) ([0, 1] : List Int) :: pt b_3 (blk [ci 0, ci 0, ci 0] 28) :: pt b_2 (blk x1 28) :: S) b_x0 (Own.to hs.own [0, 1, 2, 3, 4, 5, 6, 7, 8, 9, 10, 11, 12, 13, 14, 15, 16, 17, 18, 19, 20, 21, 22, 23] 24 (by kernel_rfl) (by kernel_rfl))).mono ?_
          rintro _ w ⟨rfl, how⟩
          refine ⟨_, _, _, rfl, how, fun a hs => ?_⟩
          refine qpu 2 hs fun a hs => ?_
          obtain ⟨h_238, hm⟩ := ite_t hm
          refine Vk.step (Vk.store1 (b := b_208) (ty := 3) (x := (.tmp 35)) (y := (.tmp 33)) (off := 0) (ci v_237.1) 1 hs (by kernel_rfl) (by kernel_rfl) (by kernel_rfl) (by kernel_rfl) (by kernel_rfl) (by kernel_rfl) rfl h_238 fun a w hs => ?_)
          refine qpe 0 [(0, pp b_x0), (5, pp b_205), (6, pp b_206), (7, pp b_208), (8, vi 0), (13, vi 3), (14, vi 0), (19, .slice A_89 (((([] : List Int) ++ ([v_63] : List Int)) ++ ([v_85] : List Int)).length) c_90), (20, vi 2), (21, vi 0)] hs fun a hs => hK224 _ _ ?_
          clear hK224
          refine Vk.region ?_
          refine qpe 2 [(0, pp b_x0), (5, pp b_205), (6, pp b_206), (7, pp b_208), (8, vi 0), (13, vi 3), (14, vi 0), (19, .slice A_89 (((([] : List Int) ++ ([v_63] : List Int)) ++ ([v_85] : List Int)).length) c_90), (20, vi 2), (21, vi 1)] hs fun a hs => hKL221 _ _ ?_
          clear hKL221
          refine Vk.unroll fun KL239 hKL239 => ?_
          refine qsr fun K240 hK240 => ?_
          refine qpe 1 [(0, pp b_x0), (5, pp b_205), (6, pp b_206), (7, pp b_208), (8, vi 0), (13, vi 3), (14, vi 0), (19, .slice A_89 (((([] : List Int) ++ ([v_63] : List Int)) ++ ([v_85] : List Int)).length) c_90), (20, vi 2), (21, vi 1), (22, .bool true)] hs fun a hs => hK240 _ _ ?_
          clear hK240
          refine Vk.seq fun K241 hK241 => ?_
          refine qct hs ?_
          refine wp_skip ?_
          refine hK241 _ _ ?_
          clear hK241
          refine Vk.seq fun K242 hK242 => ?_
          refine wp_block ?_
          refine qsr fun K243 hK243 => ?_
          obtain ⟨h_244, hm⟩ := ite_t hm
          obtain ⟨e_247, h_245, hm⟩ := bind_t hm
          obtain ⟨b_248, o_249, hA_250, h_246⟩ := Sl.elem (Own.rowSl 0 (Own.to (S' := rowp A_89 c_90 3 1 (eI .i64) ((([] : List Int) ++ ([v_63] : List Int)) ++ ([v_85] : List Int)) :: S) hs.own [12] 24 (by kernel_rfl) (by kernel_rfl)) rfl) h_245
          refine Vk.step (Vk.value (some 23) (.pointer (some ⟨b_248, o_249 + 1 * 1, none⟩)) hs (by kernel_rfl) (op := (.indexAddr 159 (.tmp 19) (.tmp 21))) (by kernel_rfl) (fun o ho => run_idxSlc (k := .i64) ho (cap := c_90) (len := ((([] : List Int) ++ ([v_63] : List Int)) ++ ([v_85] : List Int)).length) ((congrArg (fun A => Value.slice A (((([] : List Int) ++ ([v_63] : List Int)) ++ ([v_85] : List Int)).length) (c_90)) hA_250) ▸ (by kernel_rfl)) (by kernel_rfl) (by kernel_rfl) (idx_ok h_244 h_245) _) fun a hs => ?_)
          refine Vk.step (Vk.value (some 24) (vi e_247) hs (by kernel_rfl) (op := (.load 3 (.tmp 23))) (by kernel_rfl) (fun o ho => run_load1 (c := ci e_247) ho (by kernel_rfl) (by kernel_rfl) (fun w ho => h_246 w ho 0 _ rfl) _ (Own.to (S' := rowp A_89 c_90 3 1 (eI .i64) ((([] : List Int) ++ ([v_63] : List Int)) ++ ([v_85] : List Int)) :: S) hs.own [12] 24 (by kernel_rfl) (by kernel_rfl))) fun a hs => ?_)
          refine qpe 1 [(0, pp b_x0), (5, pp b_205), (6, pp b_206), (7, pp b_208), (8, vi 0), (10, vi e_247), (13, vi 3), (14, vi 0), (19, .slice A_89 (((([] : List Int) ++ ([v_63] : List Int)) ++ ([v_85] : List Int)).length) c_90), (20, vi 2), (21, vi 1)] hs fun a hs => hK243 _ _ ?_
          clear hK243
          refine Vk.region ?_
          refine qpu 6 hs fun a hs => ?_
          obtain ⟨v_252, h_251, hm⟩ := bind_t hm
          refine Vk.step (Vk.value (some 31) (vi v_252) hs (by kernel_rfl) (op := (.load 3 (.tmp 30))) (by kernel_rfl) (fun o ho => run_load1 (c := ci v_252) ho (by kernel_rfl) (by kernel_rfl) (Cell.own 1 rfl (getI_some h_251)) _ hs.own) fun a hs => ?_)
          refine qpu 1 hs fun a hs => ?_
          obtain ⟨v_255, h_254, hm⟩ := bind_t hm
          refine Vk.step (Vk.call (some 33) 150 #[pp b_x0, vi 5, vi 0, vi v_252, vi e_247] hs (by kernel_rfl) (by kernel_rfl) (by kernel_rfl) ?_)
          refine (wire_Machine_Two.ok k v_237.2 5 0 v_252 e_247 v_255 h_254 κ w (pt b_208 (blk (x1.set (0) (ci v_237.1)) 28) :: pt b_206 (blk [ci 0, ci 0, ci 0] 28) :: pt b_205 (blk ([C.slc A_89 (((([] : List Int) ++ ([v_63] : List Int)) ++ ([v_85] : List Int)).length) c_90, C.slc A_141 (((([] : List Int) ++ ([v_115] : List Int)) ++ ([v_137] : List Int)).length) c_142, C.slc A_193 (((([] : List Int) ++ ([v_167] : List Int)) ++ ([v_189] : List Int)).length) c_194]) 160) :: pt b_204 (blk x1 28) :: rowp A_190 1 3 1 (eI .i64) ([v_189] : List Int) :: rowp A_193 c_194 3 1 (eI .i64) ((([] : List Int) ++ ([v_167] : List Int)) ++ ([v_189] : List Int)) :: rowp A_168 1 3 1 (eI .i64) ([v_167] : List Int) :: rowp A_138 1 3 1 (eI .i64) ([v_137] : List Int) :: rowp A_141 c_142 3 1 (eI .i64) ((([] : List Int) ++ ([v_115] : List Int)) ++ ([v_137] : List Int)) :: rowp A_116 1 3 1 (eI .i64) ([v_115] : List Int) :: rowp A_86 1 3 1 (eI .i64) ([v_85] : List Int) :: rowp A_89 c_90 3 1 (eI .i64) ((([] : List Int) ++ ([v_63] : List Int)) ++ ([v_85] : List Int)) :: rowp A_64 1 3 1 (eI .i64) ([v_63] : List Int) :: pt b_39 (blk ([C.slc A_89 (((([] : List Int) ++ ([v_63] : List Int)) ++ ([v_85] : List Int)).length) c_90, C.slc A_141 (((([] : List Int) ++ ([v_115] : List Int)) ++ ([v_137] : List Int)).length) c_142, C.slc A_193 (((([] : List Int) ++ ([v_167] : List Int)) ++ ([v_189] : List Int)).length) c_194]) 160) :: pt b_36 (blk v_35.1 26) :: pt b_22 (blk [ci 0, ci 0, ci 0] 28) :: pt b_21 (blk ([C.slc A_12 (([0, 1] : List Int).length) 2, C.slc A_14 (([0, 2] : List Int).length) 2, C.slc A_16 (([1, 2] : List Int).length) 2]) 160) :: pt b_20 (blk x1 28) :: rowp A_16 2 3 1 (eI .i64) ([1, 2] : List Int) :: rowp A_14 2 3 1 (eI .i64) ([0, 2] : List Int) :: rowp A_12 2 3 1 (eI .i64) ([0, 1] : List Int) :: pt b_3 (blk [ci 0, ci 0, ci 0] 28) :: pt b_2 (blk x1 28) :: S) b_x0 (Own.to hs.own [0, 1, 2, 3, 4, 5, 6, 7, 8, 9, 10, 11, 12, 13, 14, 15, 16, 17, 18, 19, 20, 21, 22, 23] 24 (by kernel_rfl) (by kernel_rfl))).mono ?_
          rintro _ w ⟨rfl, how⟩
          refine ⟨_, _, _, rfl, how, fun a hs => ?_⟩
          refine qpu 2 hs fun a hs => ?_
          obtain ⟨h_256, hm⟩ := ite_t hm
          refine Vk.step (Vk.store1 (b := b_208) (ty := 3) (x := (.tmp 35)) (y := (.tmp 33)) (off := 0) (ci v_255.1) 1 hs (by kernel_rfl) (by kernel_rfl) (by kernel_rfl) (by kernel_rfl) (by kernel_rfl) (by kernel_rfl) rfl h_256 fun a w hs => ?_)
          refine qpe 0 [(0, pp b_x0), (5, pp b_205), (6, pp b_206), (7, pp b_208), (8, vi 0), (13, vi 3), (14, vi 0), (19, .slice A_89 (((([] : List Int) ++ ([v_63] : List Int)) ++ ([v_85] : List Int)).length) c_90), (20, vi 2), (21, vi 1)] hs fun a hs => hK242 _ _ ?_
          clear hK242
          refine Vk.region ?_
          refine qpe 2 [(0, pp b_x0), (5, pp b_205), (6, pp b_206), (7, pp b_208), (8, vi 0), (13, vi 3), (14, vi 0), (19, .slice A_89 (((([] : List Int) ++ ([v_63] : List Int)) ++ ([v_85] : List Int)).length) c_90), (20, vi 2), (21, vi 2)] hs fun a hs => hKL239 _ _ ?_
          clear hKL239
          refine Vk.unroll fun KL257 hKL257 => ?_
          refine qsr fun K258 hK258 => ?_
          refine qpe 1 [(0, pp b_x0), (5, pp b_205), (6, pp b_206), (7, pp b_208), (8, vi 0), (13, vi 3), (14, vi 0), (19, .slice A_89 (((([] : List Int) ++ ([v_63] : List Int)) ++ ([v_85] : List Int)).length) c_90), (20, vi 2), (21, vi 2), (22, .bool false)] hs fun a hs => hK258 _ _ ?_
          clear hK258
          refine Vk.seq fun K259 hK259 => ?_
          refine qcf hs ?_
          refine wp_exit ?_
          refine hK218 _ _ ?_
          clear hK218
          refine Vk.region ?_
          refine qpe 2 [(0, pp b_x0), (5, pp b_205), (6, pp b_206), (7, pp b_208), (13, vi 3), (14, vi 1)] hs fun a hs => hKL215 _ _ ?_
          clear hKL215
          refine Vk.unroll fun KL260 hKL260 => ?_
          refine qsr fun K261 hK261 => ?_
          refine qpe 1 [(0, pp b_x0), (5, pp b_205), (6, pp b_206), (7, pp b_208), (13, vi 3), (14, vi 1), (15, .bool true)] hs fun a hs => hK261 _ _ ?_
          clear hK261
          refine Vk.seq fun K262 hK262 => ?_
          refine qct hs ?_
          refine wp_skip ?_
          refine hK262 _ _ ?_
          clear hK262
          refine Vk.seq fun K263 hK263 => ?_
          refine wp_block ?_
          refine qsr fun K264 hK264 => ?_
          refine qpe 2 [(0, pp b_x0), (5, pp b_205), (6, pp b_206), (7, pp b_208), (8, vi 1), (13, vi 3), (14, vi 1)] hs fun a hs => hK264 _ _ ?_
          clear hK264
          refine qsr fun K265 hK265 => ?_
          refine qpu 2 hs fun a hs => ?_
          refine qld 3 (C.slc A_141 (((([] : List Int) ++ ([v_115] : List Int)) ++ ([v_137] : List Int)).length) c_142) hs rfl fun a hs => ?_
          refine qpe 2 [(0, pp b_x0), (5, pp b_205), (6, pp b_206), (7, pp b_208), (8, vi 1), (13, vi 3), (14, vi 1), (19, .slice A_141 (((([] : List Int) ++ ([v_115] : List Int)) ++ ([v_137] : List Int)).length) c_142), (20, vi 2), (21, vi 0)] hs fun a hs => hK265 _ _ ?_
          clear hK265
          refine wp_block ?_
          refine Vk.unroll0 40 ?_
          refine Vk.unroll fun KL266 hKL266 => ?_
          refine qsr fun K267 hK267 => ?_
          refine qpe 1 [(0, pp b_x0), (5, pp b_205), (6, pp b_206), (7, pp b_208), (8, vi 1), (13, vi 3), (14, vi 1), (19, .slice A_141 (((([] : List Int) ++ ([v_115] : List Int)) ++ ([v_137] : List Int)).length) c_142), (20, vi 2), (21, vi 0), (22, .bool true)] hs fun a hs => hK267 _ _ ?_
          clear hK267
          refine Vk.seq fun K268 hK268 => ?_
          refine qct hs ?_
          refine wp_skip ?_
          refine hK268 _ _ ?_
          clear hK268
          refine Vk.seq fun K269 hK269 => ?_
          refine wp_block ?_
          refine qsr fun K270 hK270 => ?_
          obtain ⟨h_271, hm⟩ := ite_t hm
          obtain ⟨e_274, h_272, hm⟩ := bind_t hm
          obtain ⟨b_275, o_276, hA_277, h_273⟩ := Sl.elem (Own.rowSl 0 (Own.to (S' := rowp A_141 c_142 3 1 (eI .i64) ((([] : List Int) ++ ([v_115] : List Int)) ++ ([v_137] : List Int)) :: S) hs.own [9] 24 (by kernel_rfl) (by kernel_rfl)) rfl) h_272
          refine Vk.step (Vk.value (some 23) (.pointer (some ⟨b_275, o_276 + 0 * 1, none⟩)) hs (by kernel_rfl) (op := (.indexAddr 159 (.tmp 19) (.tmp 21))) (by kernel_rfl) (fun o ho => run_idxSlc (k := .i64) ho (cap := c_142) (len := ((([] : List Int) ++ ([v_115] : List Int)) ++ ([v_137] : List Int)).length) ((congrArg (fun A => Value.slice A (((([] : List Int) ++ ([v_115] : List Int)) ++ ([v_137] : List Int)).length) (c_142)) hA_277) ▸ (by kernel_rfl)) (by kernel_rfl) (by kernel_rfl) (idx_ok h_271 h_272) _) fun a hs => ?_)
          refine Vk.step (Vk.value (some 24) (vi e_274) hs (by kernel_rfl) (op := (.load 3 (.tmp 23))) (by kernel_rfl) (fun o ho => run_load1 (c := ci e_274) ho (by kernel_rfl) (by kernel_rfl) (fun w ho => h_273 w ho 0 _ rfl) _ (Own.to (S' := rowp A_141 c_142 3 1 (eI .i64) ((([] : List Int) ++ ([v_115] : List Int)) ++ ([v_137] : List Int)) :: S) hs.own [9] 24 (by kernel_rfl) (by kernel_rfl))) fun a hs => ?_)
          refine qpe 1 [(0, pp b_x0), (5, pp b_205), (6, pp b_206), (7, pp b_208), (8, vi 1), (10, vi e_274), (13, vi 3), (14, vi 1), (19, .slice A_141 (((([] : List Int) ++ ([v_115] : List Int)) ++ ([v_137] : List Int)).length) c_142), (20, vi 2), (21, vi 0)] hs fun a hs => hK270 _ _ ?_
          clear hK270
          refine Vk.region ?_
          refine qpu 6 hs fun a hs => ?_
          obtain ⟨v_279, h_278, hm⟩ := bind_t hm
          refine Vk.step (Vk.value (some 31) (vi v_279) hs (by kernel_rfl) (op := (.load 3 (.tmp 30))) (by kernel_rfl) (fun o ho => run_load1 (c := ci v_279) ho (by kernel_rfl) (by kernel_rfl) (Cell.own 1 rfl (getI_some h_278)) _ hs.own) fun a hs => ?_)
          refine qpu 1 hs fun a hs => ?_
          obtain ⟨v_282, h_281, hm⟩ := bind_t hm
          refine Vk.step (Vk.call (some 33) 150 #[pp b_x0, vi 5, vi 1, vi v_279, vi e_274] hs (by kernel_rfl) (by kernel_rfl) (by kernel_rfl) ?_)
          refine (wire_Machine_Two.ok k v_255.2 5 1 v_279 e_274 v_282 h_281 κ w (pt b_208 (blk ((x1.set (0) (ci v_237.1)).set (0) (ci v_255.1)) 28) :: pt b_206 (blk [ci 0, ci 0, ci 0] 28) :: pt b_205 (blk ([C.slc A_89 (((([] : List Int) ++ ([v_63] : List Int)) ++ ([v_85] : List Int)).length) c_90, C.slc A_141 (((([] : List Int) ++ ([v_115] : List Int)) ++ ([v_137] : List Int)).length) c_142, C.slc A_193 (((([] : List Int) ++ ([v_167] : List Int)) ++ ([v_189] : List Int)).length) c_194]) 160) :: pt b_204 (blk x1 28) :: rowp A_190 1 3 1 (eI .i64) ([v_189] : List Int) :: rowp A_193 c_194 3 1 (eI .i64) ((([] : List Int) ++ ([v_167] : List Int)) ++ ([v_189] : List Int)) :: rowp A_168 1 3 1 (eI .i64) ([v_167] : List Int) :: rowp A_138 1 3 1 (eI .i64) ([v_137] : List Int) :: rowp A_141 c_142 3 1 (eI .i64) ((([] : List Int) ++ ([v_115] : List Int)) ++ ([v_137] : List Int)) :: rowp A_116 1 3 1 (eI .i64) ([v_115] : List Int) :: rowp A_86 1 3 1 (eI .i64) ([v_85] : List Int) :: rowp A_89 c_90 3 1 (eI .i64) ((([] : List Int) ++ ([v_63] : List Int)) ++ ([v_85] : List Int)) :: rowp A_64 1 3 1 (eI .i64) ([v_63] : List Int) :: pt b_39 (blk ([C.slc A_89 (((([] : List Int) ++ ([v_63] : List Int)) ++ ([v_85] : List Int)).length) c_90, C.slc A_141 (((([] : List Int) ++ ([v_115] : List Int)) ++ ([v_137] : List Int)).length) c_142, C.slc A_193 (((([] : List Int) ++ ([v_167] : List Int)) ++ ([v_189] : List Int)).length) c_194]) 160) :: pt b_36 (blk v_35.1 26) :: pt b_22 (blk [ci 0, ci 0, ci 0] 28) :: pt b_21 (blk ([C.slc A_12 (([0, 1] : List Int).length) 2, C.slc A_14 (([0, 2] : List Int).length) 2, C.slc A_16 (([1, 2] : List Int).length) 2]) 160) :: pt b_20 (blk x1 28) :: rowp A_16 2 3 1 (eI .i64) ([1, 2] : List Int) :: rowp A_14 2 3 1 (eI .i64) ([0, 2] : List Int) :: rowp A_12 2 3 1 (eI .i64) ([0, 1] : List Int) :: pt b_3 (blk [ci 0, ci 0, ci 0] 28) :: pt b_2 (blk x1 28) :: S) b_x0 (Own.to hs.own [0, 1, 2, 3, 4, 5, 6, 7, 8, 9, 10, 11, 12, 13, 14, 15, 16, 17, 18, 19, 20, 21, 22, 23] 24 (by kernel_rfl) (by kernel_rfl))).mono ?_
          rintro _ w ⟨rfl, how⟩
          refine ⟨_, _, _, rfl, how, fun a hs => ?_⟩
          refine qpu 2 hs fun a hs => ?_
          obtain ⟨h_283, hm⟩ := ite_t hm
          refine Vk.step (Vk.store1 (b := b_208) (ty := 3) (x := (.tmp 35)) (y := (.tmp 33)) (off := 1) (ci v_282.1) 1 hs (by kernel_rfl) (by kernel_rfl) (by kernel_rfl) (by kernel_rfl) (by kernel_rfl) (by kernel_rfl) rfl h_283 fun a w hs => ?_)
          refine qpe 0 [(0, pp b_x0), (5, pp b_205), (6, pp b_206), (7, pp b_208), (8, vi 1), (13, vi 3), (14, vi 1), (19, .slice A_141 (((([] : List Int) ++ ([v_115] : List Int)) ++ ([v_137] : List Int)).length) c_142), (20, vi 2), (21, vi 0)] hs fun a hs => hK269 _ _ ?_
          clear hK269
          refine Vk.region ?_
          refine qpe 2 [(0, pp b_x0), (5, pp b_205), (6, pp b_206), (7, pp b_208), (8, vi 1), (13, vi 3), (14, vi 1), (19, .slice A_141 (((([] : List Int) ++ ([v_115] : List Int)) ++ ([v_137] : List Int)).length) c_142), (20, vi 2), (21, vi 1)] hs fun a hs => hKL266 _ _ ?_
          clear hKL266
          refine Vk.unroll fun KL284 hKL284 => ?_
          refine qsr fun K285 hK285 => ?_
          refine qpe 1 [(0, pp b_x0), (5, pp b_205), (6, pp b_206), (7, pp b_208), (8, vi 1), (13, vi 3), (14, vi 1), (19, .slice A_141 (((([] : List Int) ++ ([v_115] : List Int)) ++ ([v_137] : List Int)).length) c_142), (20, vi 2), (21, vi 1), (22, .bool true)] hs fun a hs => hK285 _ _ ?_
          clear hK285
          refine Vk.seq fun K286 hK286 => ?_
          refine qct hs ?_
          refine wp_skip ?_
          refine hK286 _ _ ?_
          clear hK286
          refine Vk.seq fun K287 hK287 => ?_
          refine wp_block ?_
          refine qsr fun K288 hK288 => ?_
          obtain ⟨h_289, hm⟩ := ite_t hm
          obtain ⟨e_292, h_290, hm⟩ := bind_t hm
          obtain ⟨b_293, o_294, hA_295, h_291⟩ := Sl.elem (Own.rowSl 0 (Own.to (S' := rowp A_141 c_142 3 1 (eI .i64) ((([] : List Int) ++ ([v_115] : List Int)) ++ ([v_137] : List Int)) :: S) hs.own [9] 24 (by kernel_rfl) (by kernel_rfl)) rfl) h_290
          refine Vk.step (Vk.value (some 23) (.pointer (some ⟨b_293, o_294 + 1 * 1, none⟩)) hs (by kernel_rfl) (op := (.indexAddr 159 (.tmp 19) (.tmp 21))) (by kernel_rfl) (fun o ho => run_idxSlc (k := .i64) ho (cap := c_142) (len := ((([] : List Int) ++ ([v_115] : List Int)) ++ ([v_137] : List Int)).length) ((congrArg (fun A => Value.slice A (((([] : List Int) ++ ([v_115] : List Int)) ++ ([v_137] : List Int)).length) (c_142)) hA_295) ▸ (by kernel_rfl)) (by kernel_rfl) (by kernel_rfl) (idx_ok h_289 h_290) _) fun a hs => ?_)
          refine Vk.step (Vk.value (some 24) (vi e_292) hs (by kernel_rfl) (op := (.load 3 (.tmp 23))) (by kernel_rfl) (fun o ho => run_load1 (c := ci e_292) ho (by kernel_rfl) (by kernel_rfl) (fun w ho => h_291 w ho 0 _ rfl) _ (Own.to (S' := rowp A_141 c_142 3 1 (eI .i64) ((([] : List Int) ++ ([v_115] : List Int)) ++ ([v_137] : List Int)) :: S) hs.own [9] 24 (by kernel_rfl) (by kernel_rfl))) fun a hs => ?_)
          refine qpe 1 [(0, pp b_x0), (5, pp b_205), (6, pp b_206), (7, pp b_208), (8, vi 1), (10, vi e_292), (13, vi 3), (14, vi 1), (19, .slice A_141 (((([] : List Int) ++ ([v_115] : List Int)) ++ ([v_137] : List Int)).length) c_142), (20, vi 2), (21, vi 1)] hs fun a hs => hK288 _ _ ?_
          clear hK288
          refine Vk.region ?_
          refine qpu 6 hs fun a hs => ?_
          obtain ⟨v_297, h_296, hm⟩ := bind_t hm
          refine Vk.step (Vk.value (some 31) (vi v_297) hs (by kernel_rfl) (op := (.load 3 (.tmp 30))) (by kernel_rfl) (fun o ho => run_load1 (c := ci v_297) ho (by kernel_rfl) (by kernel_rfl) (Cell.own 1 rfl (getI_some h_296)) _ hs.own) fun a hs => ?_)
          refine qpu 1 hs fun a hs => ?_
          obtain ⟨v_300, h_299, hm⟩ := bind_t hm
          refine Vk.step (Vk.call (some 33) 150 #[pp b_x0, vi 5, vi 1, vi v_297, vi e_292] hs (by kernel_rfl) (by kernel_rfl) (by kernel_rfl) ?_)
          refine (wire_Machine_Two.ok k v_282.2 5 1 v_297 e_292 v_300 h_299 κ w (pt b_208 (blk (((x1.set (0) (ci v_237.1)).set (0) (ci v_255.1)).set (1) (ci v_282.1)) 28) :: pt b_206 (blk [ci 0, ci 0, ci 0] 28) :: pt b_205 (blk ([C.slc A_89 (((([] : List Int) ++ ([v_63] : List Int)) ++ ([v_85] : List Int)).length) c_90, C.slc A_141 (((([] : List Int) ++ ([v_115] : List Int)) ++ ([v_137] : List Int)).length) c_142, C.slc A_193 (((([] : List Int) ++ ([v_167] : List Int)) ++ ([v_189] : List Int)).length) c_194]) 160) :: pt b_204 (blk x1 28) :: rowp A_190 1 3 1 (eI .i64) ([v_189] : List Int) :: rowp A_193 c_194 3 1 (eI .i64) ((([] : List Int) ++ ([v_167] : List Int)) ++ ([v_189] : List Int)) :: rowp A_168 1 3 1 (eI .i64) ([v_167] : List Int) :: rowp A_138 1 3 1 (eI .i64) ([v_137] : List Int) :: rowp A_141 c_142 3 1 (eI .i64) ((([] : List Int) ++ ([v_115] : List Int)) ++ ([v_137] : List Int)) :: rowp A_116 1 3 1 (eI .i64) ([v_115] : List Int) :: rowp A_86 1 3 1 (eI .i64) ([v_85] : List Int) :: rowp A_89 c_90 3 1 (eI .i64) ((([] : List Int) ++ ([v_63] : List Int)) ++ ([v_85] : List Int)) :: rowp A_64 1 3 1 (eI .i64) ([v_63] : List Int) :: pt b_39 (blk ([C.slc A_89 (((([] : List Int) ++ ([v_63] : List Int)) ++ ([v_85] : List Int)).length) c_90, C.slc A_141 (((([] : List Int) ++ ([v_115] : List Int)) ++ ([v_137] : List Int)).length) c_142, C.slc A_193 (((([] : List Int) ++ ([v_167] : List Int)) ++ ([v_189] : List Int)).length) c_194]) 160) :: pt b_36 (blk v_35.1 26) :: pt b_22 (blk [ci 0, ci 0, ci 0] 28) :: pt b_21 (blk ([C.slc A_12 (([0, 1] : List Int).length) 2, C.slc A_14 (([0, 2] : List Int).length) 2, C.slc A_16 (([1, 2] : List Int).length) 2]) 160) :: pt b_20 (blk x1 28) :: rowp A_16 2 3 1 (eI .i64) ([1, 2] : List Int) :: rowp A_14 2 3 1 (eI .i64) ([0, 2] : List Int) :: rowp A_12 2 3 1 (eI .i64) ([0, 1] : List Int) :: pt b_3 (blk [ci 0, ci 0, ci 0] 28) :: pt b_2 (blk x1 28) :: S) b_x0 (Own.to hs.own [0, 1, 2, 3, 4, 5, 6, 7, 8, 9, 10, 11, 12, 13, 14, 15, 16, 17, 18, 19, 20, 21, 22, 23] 24 (by kernel_rfl) (by kernel_rfl))).mono ?_
          rintro _ w ⟨rfl, how⟩
          refine ⟨_, _, _, rfl, how, fun a hs => ?_⟩
          refine qpu 2 hs fun a hs => ?_
          obtain ⟨h_301, hm⟩ := ite_t hm
          refine Vk.step (Vk.store1 (b := b_208) (ty := 3) (x := (.tmp 35)) (y := (.tmp 33)) (off := 1) (ci v_300.1) 1 hs (by kernel_rfl) (by kernel_rfl) (by kernel_rfl) (by kernel_rfl) (by kernel_rfl) (by kernel_rfl) rfl h_301 fun a w hs => ?_)
          refine qpe 0 [(0, pp b_x0), (5, pp b_205), (6, pp b_206), (7, pp b_208), (8, vi 1), (13, vi 3), (14, vi 1), (19, .slice A_141 (((([] : List Int) ++ ([v_115] : List Int)) ++ ([v_137] : List Int)).length) c_142), (20, vi 2), (21, vi 1)] hs fun a hs => hK287 _ _ ?_
          clear hK287
          refine Vk.region ?_
          refine qpe 2 [(0, pp b_x0), (5, pp b_205), (6, pp b_206), (7, pp b_208), (8, vi 1), (13, vi 3), (14, vi 1), (19, .slice A_141 (((([] : List Int) ++ ([v_115] : List Int)) ++ ([v_137] : List Int)).length) c_142), (20, vi 2), (21, vi 2)] hs fun a hs => hKL284 _ _ ?_
          clear hKL284
          refine Vk.unroll fun KL302 hKL302 => ?_
          refine qsr fun K303 hK303 => ?_
          refine qpe 1 [(0, pp b_x0), (5, pp b_205), (6, pp b_206), (7, pp b_208), (8, vi 1), (13, vi 3), (14, vi 1), (19, .slice A_141 (((([] : List Int) ++ ([v_115] : List Int)) ++ ([v_137] : List Int)).length) c_142), (20, vi 2), (21, vi 2), (22, .bool false)] hs fun a hs => hK303 _ _ ?_
          clear hK303
          refine Vk.seq fun K304 hK304 => ?_
          refine qcf hs ?_
          refine wp_exit ?_
          refine hK263 _ _ ?_
          clear hK263
          refine Vk.region ?_
          refine qpe 2 [(0, pp b_x0), (5, pp b_205), (6, pp b_206), (7, pp b_208), (13, vi 3), (14, vi 2)] hs fun a hs => hKL260 _ _ ?_
          clear hKL260
          refine Vk.unroll fun KL305 hKL305 => ?_
          refine qsr fun K306 hK306 => ?_
          refine qpe 1 [(0, pp b_x0), (5, pp b_205), (6, pp b_206), (7, pp b_208), (13, vi 3), (14, vi 2), (15, .bool true)] hs fun a hs => hK306 _ _ ?_
          clear hK306
          refine Vk.seq fun K307 hK307 => ?_
          refine qct hs ?_
          refine wp_skip ?_
          refine hK307 _ _ ?_
          clear hK307
          refine Vk.seq fun K308 hK308 => ?_
          refine wp_block ?_
          refine qsr fun K309 hK309 => ?_
          refine qpe 2 [(0, pp b_x0), (5, pp b_205), (6, pp b_206), (7, pp b_208), (8, vi 2), (13, vi 3), (14, vi 2)] hs fun a hs => hK309 _ _ ?_
          clear hK309
          refine qsr fun K310 hK310 => ?_
          refine qpu 2 hs fun a hs => ?_
          refine qld 3 (C.slc A_193 (((([] : List Int) ++ ([v_167] : List Int)) ++ ([v_189] : List Int)).length) c_194) hs rfl fun a hs => ?_
          refine qpe 2 [(0, pp b_x0), (5, pp b_205), (6, pp b_206), (7, pp b_208), (8, vi 2), (13, vi 3), (14, vi 2), (19, .slice A_193 (((([] : List Int) ++ ([v_167] : List Int)) ++ ([v_189] : List Int)).length) c_194), (20, vi 2), (21, vi 0)] hs fun a hs => hK310 _ _ ?_
          clear hK310
          refine wp_block ?_
          refine Vk.unroll0 40 ?_
          refine Vk.unroll fun KL311 hKL311 => ?_
          refine qsr fun K312 hK312 => ?_
          refine qpe 1 [(0, pp b_x0), (5, pp b_205), (6, pp b_206), (7, pp b_208), (8, vi 2), (13, vi 3), (14, vi 2), (19, .slice A_193 (((([] : List Int) ++ ([v_167] : List Int)) ++ ([v_189] : List Int)).length) c_194), (20, vi 2), (21, vi 0), (22, .bool true)] hs fun a hs => hK312 _ _ ?_
          clear hK312
          refine Vk.seq fun K313 hK313 => ?_
          refine qct hs ?_
          refine wp_skip ?_
          refine hK313 _ _ ?_
          clear hK313
          refine Vk.seq fun K314 hK314 => ?_
          refine wp_block ?_
          refine qsr fun K315 hK315 => ?_
          obtain ⟨h_316, hm⟩ := ite_t hm
          obtain ⟨e_319, h_317, hm⟩ := bind_t hm
          obtain ⟨b_320, o_321, hA_322, h_318⟩ := Sl.elem (Own.rowSl 0 (Own.to (S' := rowp A_193 c_194 3 1 (eI .i64) ((([] : List Int) ++ ([v_167] : List Int)) ++ ([v_189] : List Int)) :: S) hs.own [6] 24 (by kernel_rfl) (by kernel_rfl)) rfl) h_317
          refine Vk.step (Vk.value (some 23) (.pointer (some ⟨b_320, o_321 + 0 * 1, none⟩)) hs (by kernel_rfl) (op := (.indexAddr 159 (.tmp 19) (.tmp 21))) (by kernel_rfl) (fun o ho => run_idxSlc (k := .i64) ho (cap := c_194) (len := ((([] : List Int) ++ ([v_167] : List Int)) ++ ([v_189] : List Int)).length) ((congrArg (fun A => Value.slice A (((([] : List Int) ++ ([v_167] : List Int)) ++ ([v_189] : List Int)).length) (c_194)) hA_322) ▸ (by kernel_rfl)) (by kernel_rfl) (by kernel_rfl) (idx_ok h_316 h_317) _) fun a hs => ?_)
          refine Vk.step (Vk.value (some 24) (vi e_319) hs (by kernel_rfl) (op := (.load 3 (.tmp 23))) (by kernel_rfl) (fun o ho => run_load1 (c := ci e_319) ho (by kernel_rfl) (by kernel_rfl) (fun w ho => h_318 w ho 0 _ rfl) _ (Own.to (S' := rowp A_193 c_194 3 1 (eI .i64) ((([] : List Int) ++ ([v_167] : List Int)) ++ ([v_189] : List Int)) :: S) hs.own [6] 24 (by kernel_rfl) (by kernel_rfl))) fun a hs => ?_)
          refine qpe 1 [(0, pp b_x0), (5, pp b_205), (6, pp b_206), (7, pp b_208), (8, vi 2), (10, vi e_319), (13, vi 3), (14, vi 2), (19, .slice A_193 (((([] : List Int) ++ ([v_167] : List Int)) ++ ([v_189] : List Int)).length) c_194), (20, vi 2), (21, vi 0)] hs fun a hs => hK315 _ _ ?_
          clear hK315
          refine Vk.region ?_
          refine qpu 6 hs fun a hs => ?_
          obtain ⟨v_324, h_323, hm⟩ := bind_t hm
          refine Vk.step (Vk.value (some 31) (vi v_324) hs (by kernel_rfl) (op := (.load 3 (.tmp 30))) (by kernel_rfl) (fun o ho => run_load1 (c := ci v_324) ho (by kernel_rfl) (by kernel_rfl) (Cell.own 1 rfl (getI_some h_323)) _ hs.own) fun a hs => ?_)
          refine qpu 1 hs fun a hs => ?_
          obtain ⟨v_327, h_326, hm⟩ := bind_t hm
          refine Vk.step (Vk.call (some 33) 150 #[pp b_x0, vi 5, vi 2, vi v_324, vi e_319] hs (by kernel_rfl) (by kernel_rfl) (by kernel_rfl) ?_)
          refine (wire_Machine_Two.ok k v_300.2 5 2 v_324 e_319 v_327 h_326 κ w (pt b_208 (blk ((((x1.set (0) (ci v_237.1)).set (0) (ci v_255.1)).set (1) (ci v_282.1)).set (1) (ci v_300.1)) 28) :: pt b_206 (blk [ci 0, ci 0, ci 0] 28) :: pt b_205 (blk ([C.slc A_89 (((([] : List Int) ++ ([v_63] : List Int)) ++ ([v_85] : List Int)).length) c_90, C.slc A_141 (((([] : List Int) ++ ([v_115] : List Int)) ++ ([v_137] : List Int)).length) c_142, C.slc A_193 (((([] : List Int) ++ ([v_167] : List Int)) ++ ([v_189] : List Int)).length) c_194]) 160) :: pt b_204 (blk x1 28) :: rowp A_190 1 3 1 (eI .i64) ([v_189] : List Int) :: rowp A_193 c_194 3 1 (eI .i64) ((([] : List Int) ++ ([v_167] : List Int)) ++ ([v_189] : List Int)) :: rowp A_168 1 3 1 (eI .i64) ([v_167] : List Int) :: rowp A_138 1 3 1 (eI .i64) ([v_137] : List Int) :: rowp A_141 c_142 3 1 (eI .i64) ((([] : List Int) ++ ([v_115] : List Int)) ++ ([v_137] : List Int)) :: rowp A_116 1 3 1 (eI .i64) ([v_115] : List Int) :: rowp A_86 1 3 1 (eI .i64) ([v_85] : List Int) :: rowp A_89 c_90 3 1 (eI .i64) ((([] : List Int) ++ ([v_63] : List Int)) ++ ([v_85] : List Int)) :: rowp A_64 1 3 1 (eI .i64) ([v_63] : List Int) :: pt b_39 (blk ([C.slc A_89 (((([] : List Int) ++ ([v_63] : List Int)) ++ ([v_85] : List Int)).length) c_90, C.slc A_141 (((([] : List Int) ++ ([v_115] : List Int)) ++ ([v_137] : List Int)).length) c_142, C.slc A_193 (((([] : List Int) ++ ([v_167] : List Int)) ++ ([v_189] : List Int)).length) c_194]) 160) :: pt b_36 (blk v_35.1 26) :: pt b_22 (blk [ci 0, ci 0, ci 0] 28) :: pt b_21 (blk ([C.slc A_12 (([0, 1] : List Int).length) 2, C.slc A_14 (([0, 2] : List Int).length) 2, C.slc A_16 (([1, 2] : List Int).length) 2]) 160) :: pt b_20 (blk x1 28) :: rowp A_16 2 3 1 (eI .i64) ([1, 2] : List Int) :: rowp A_14 2 3 1 (eI .i64) ([0, 2] : List Int) :: rowp A_12 2 3 1 (eI .i64) ([0, 1] : List Int) :: pt b_3 (blk [ci 0, ci 0, ci 0] 28) :: pt b_2 (blk x1 28) :: S) b_x0 (Own.to hs.own [0, 1, 2, 3, 4, 5, 6, 7, 8, 9, 10, 11, 12, 13, 14, 15, 16, 17, 18, 19, 20, 21, 22, 23] 24 (by kernel_rfl) (by kernel_rfl))).mono ?_
          rintro _ w ⟨rfl, how⟩
          refine ⟨_, _, _, rfl, how, fun a hs => ?_⟩
          refine qpu 2 hs fun a hs => ?_
          obtain ⟨h_328, hm⟩ := ite_t hm
          refine Vk.step (Vk.store1 (b := b_208) (ty := 3) (x := (.tmp 35)) (y := (.tmp 33)) (off := 2) (ci v_327.1) 1 hs (by kernel_rfl) (by kernel_rfl) (by kernel_rfl) (by kernel_rfl) (by kernel_rfl) (by kernel_rfl) rfl h_328 fun a w hs => ?_)
          refine qpe 0 [(0, pp b_x0), (5, pp b_205), (6, pp b_206), (7, pp b_208), (8, vi 2), (13, vi 3), (14, vi 2), (19, .slice A_193 (((([] : List Int) ++ ([v_167] : List Int)) ++ ([v_189] : List Int)).length) c_194), (20, vi 2), (21, vi 0)] hs fun a hs => hK314 _ _ ?_
          clear hK314
          refine Vk.region ?_
          refine qpe 2 [(0, pp b_x0), (5, pp b_205), (6, pp b_206), (7, pp b_208), (8, vi 2), (13, vi 3), (14, vi 2), (19, .slice A_193 (((([] : List Int) ++ ([v_167] : List Int)) ++ ([v_189] : List Int)).length) c_194), (20, vi 2), (21, vi 1)] hs fun a hs => hKL311 _ _ ?_
          clear hKL311
          refine Vk.unroll fun KL329 hKL329 => ?_
          refine qsr fun K330 hK330 => ?_
          refine qpe 1 [(0, pp b_x0), (5, pp b_205), (6, pp b_206), (7, pp b_208), (8, vi 2), (13, vi 3), (14, vi 2), (19, .slice A_193 (((([] : List Int) ++ ([v_167] : List Int)) ++ ([v_189] : List Int)).length) c_194), (20, vi 2), (21, vi 1), (22, .bool true)] hs fun a hs => hK330 _ _ ?_
          clear hK330
          refine Vk.seq fun K331 hK331 => ?_
          refine qct hs ?_
          refine wp_skip ?_
          refine hK331 _ _ ?_
          clear hK331
          refine Vk.seq fun K332 hK332 => ?_
          refine wp_block ?_
          refine qsr fun K333 hK333 => ?_
          obtain ⟨h_334, hm⟩ := ite_t hm
          obtain ⟨e_337, h_335, hm⟩ := bind_t hm
          obtain ⟨b_338, o_339, hA_340, h_336⟩ := Sl.elem (Own.rowSl 0 (Own.to (S' := rowp A_193 c_194 3 1 (eI .i64) ((([] : List Int) ++ ([v_167] : List Int)) ++ ([v_189] : List Int)) :: S) hs.own [6] 24 (by kernel_rfl) (by kernel_rfl)) rfl) h_335
          refine Vk.step (Vk.value (some 23) (.pointer (some ⟨b_338, o_339 + 1 * 1, none⟩)) hs (by kernel_rfl) (op := (.indexAddr 159 (.tmp 19) (.tmp 21))) (by kernel_rfl) (fun o ho => run_idxSlc (k := .i64) ho (cap := c_194) (len := ((([] : List Int) ++ ([v_167] : List Int)) ++ ([v_189] : List Int)).length) ((congrArg (fun A => Value.slice A (((([] : List Int) ++ ([v_167] : List Int)) ++ ([v_189] : List Int)).length) (c_194)) hA_340) ▸ (by kernel_rfl)) (by kernel_rfl) (by kernel_rfl) (idx_ok h_334 h_335) _) fun a hs => ?_)
          refine Vk.step (Vk.value (some 24) (vi e_337) hs (by kernel_rfl) (op := (.load 3 (.tmp 23))) (by kernel_rfl) (fun o ho => run_load1 (c := ci e_337) ho (by kernel_rfl) (by kernel_rfl) (fun w ho => h_336 w ho 0 _ rfl) _ (Own.to (S' := rowp A_193 c_194 3 1 (eI .i64) ((([] : List Int) ++ ([v_167] : List Int)) ++ ([v_189] : List Int)) :: S) hs.own [6] 24 (by kernel_rfl) (by kernel_rfl))) fun a hs => ?_)
          refine qpe 1 [(0, pp b_x0), (5, pp b_205), (6, pp b_206), (7, pp b_208), (8, vi 2), (10, vi e_337), (13, vi 3), (14, vi 2), (19, .slice A_193 (((([] : List Int) ++ ([v_167] : List Int)) ++ ([v_189] : List Int)).length) c_194), (20, vi 2), (21, vi 1)] hs fun a hs => hK333 _ _ ?_
          clear hK333
          refine Vk.region ?_
          refine qpu 6 hs fun a hs => ?_
          obtain ⟨v_342, h_341, hm⟩ := bind_t hm
          refine Vk.step (Vk.value (some 31) (vi v_342) hs (by kernel_rfl) (op := (.load 3 (.tmp 30))) (by kernel_rfl) (fun o ho => run_load1 (c := ci v_342) ho (by kernel_rfl) (by kernel_rfl) (Cell.own 1 rfl (getI_some h_341)) _ hs.own) fun a hs => ?_)
          refine qpu 1 hs fun a hs => ?_
          obtain ⟨v_345, h_344, hm⟩ := bind_t hm
          refine Vk.step (Vk.call (some 33) 150 #[pp b_x0, vi 5, vi 2, vi v_342, vi e_337] hs (by kernel_rfl) (by kernel_rfl) (by kernel_rfl) ?_)
          refine (wire_Machine_Two.ok k v_327.2 5 2 v_342 e_337 v_345 h_344 κ w (pt b_208 (blk (((((x1.set (0) (ci v_237.1)).set (0) (ci v_255.1)).set (1) (ci v_282.1)).set (1) (ci v_300.1)).set (2) (ci v_327.1)) 28) :: pt b_206 (blk [ci 0, ci 0, ci 0] 28) :: pt b_205 (blk ([C.slc A_89 (((([] : List Int) ++ ([v_63] : List Int)) ++ ([v_85] : List Int)).length) c_90, C.slc A_141 (((([] : List Int) ++ ([v_115] : List Int)) ++ ([v_137] : List Int)).length) c_142, C.slc A_193 (((([] : List Int) ++ ([v_167] : List Int)) ++ ([v_189] : List Int)).length) c_194]) 160) :: pt b_204 (blk x1 28) :: rowp A_190 1 3 1 (eI .i64) ([v_189] : List Int) :: rowp A_193 c_194 3 1 (eI .i64) ((([] : List Int) ++ ([v_167] : List Int)) ++ ([v_189] : List Int)) :: rowp A_168 1 3 1 (eI .i64) ([v_167] : List Int) :: rowp A_138 1 3 1 (eI .i64) ([v_137] : List Int) :: rowp A_141 c_142 3 1 (eI .i64) ((([] : List Int) ++ ([v_115] : List Int)) ++ ([v_137] : List Int)) :: rowp A_116 1 3 1 (eI .i64) ([v_115] : List Int) :: rowp A_86 1 3 1 (eI .i64) ([v_85] : List Int) :: rowp A_89 c_90 3 1 (eI .i64) ((([] : List Int) ++ ([v_63] : List Int)) ++ ([v_85] : List Int)) :: rowp A_64 1 3 1 (eI .i64) ([v_63] : List Int) :: pt b_39 (blk ([C.slc A_89 (((([] : List Int) ++ ([v_63] : List Int)) ++ ([v_85] : List Int)).length) c_90, C.slc A_141 (((([] : List Int) ++ ([v_115] : List Int)) ++ ([v_137] : List Int)).length) c_142, C.slc A_193 (((([] : List Int) ++ ([v_167] : List Int)) ++ ([v_189] : List Int)).length) c_194]) 160) :: pt b_36 (blk v_35.1 26) :: pt b_22 (blk [ci 0, ci 0, ci 0] 28) :: pt b_21 (blk ([C.slc A_12 (([0, 1] : List Int).length) 2, C.slc A_14 (([0, 2] : List Int).length) 2, C.slc A_16 (([1, 2] : List Int).length) 2]) 160) :: pt b_20 (blk x1 28) :: rowp A_16 2 3 1 (eI .i64) ([1, 2] : List Int) :: rowp A_14 2 3 1 (eI .i64) ([0, 2] : List Int) :: rowp A_12 2 3 1 (eI .i64) ([0, 1] : List Int) :: pt b_3 (blk [ci 0, ci 0, ci 0] 28) :: pt b_2 (blk x1 28) :: S) b_x0 (Own.to hs.own [0, 1, 2, 3, 4, 5, 6, 7, 8, 9, 10, 11, 12, 13, 14, 15, 16, 17, 18, 19, 20, 21, 22, 23] 24 (by kernel_rfl) (by kernel_rfl))).mono ?_
          rintro _ w ⟨rfl, how⟩
          refine ⟨_, _, _, rfl, how, fun a hs => ?_⟩
          refine qpu 2 hs fun a hs => ?_
          obtain ⟨h_346, hm⟩ := ite_t hm
          refine Vk.step (Vk.store1 (b := b_208) (ty := 3) (x := (.tmp 35)) (y := (.tmp 33)) (off := 2) (ci v_345.1) 1 hs (by kernel_rfl) (by kernel_rfl) (by kernel_rfl) (by kernel_rfl) (by kernel_rfl) (by kernel_rfl) rfl h_346 fun a w hs => ?_)
          refine qpe 0 [(0, pp b_x0), (5, pp b_205), (6, pp b_206), (7, pp b_208), (8, vi 2), (13, vi 3), (14, vi 2), (19, .slice A_193 (((([] : List Int) ++ ([v_167] : List Int)) ++ ([v_189] : List Int)).length) c_194), (20, vi 2), (21, vi 1)] hs fun a hs => hK332 _ _ ?_
          clear hK332
          refine Vk.region ?_
          refine qpe 2 [(0, pp b_x0), (5, pp b_205), (6, pp b_206), (7, pp b_208), (8, vi 2), (13, vi 3), (14, vi 2), (19, .slice A_193 (((([] : List Int) ++ ([v_167] : List Int)) ++ ([v_189] : List Int)).length) c_194), (20, vi 2), (21, vi 2)] hs fun a hs => hKL329 _ _ ?_
          clear hKL329
          refine Vk.unroll fun KL347 hKL347 => ?_
          refine qsr fun K348 hK348 => ?_
          refine qpe 1 [(0, pp b_x0), (5, pp b_205), (6, pp b_206), (7, pp b_208), (8, vi 2), (13, vi 3), (14, vi 2), (19, .slice A_193 (((([] : List Int) ++ ([v_167] : List Int)) ++ ([v_189] : List Int)).length) c_194), (20, vi 2), (21, vi 2), (22, .bool false)] hs fun a hs => hK348 _ _ ?_
          clear hK348
          refine Vk.seq fun K349 hK349 => ?_
          refine qcf hs ?_
          refine wp_exit ?_
          refine hK308 _ _ ?_
          clear hK308
          refine Vk.region ?_
          refine qpe 2 [(0, pp b_x0), (5, pp b_205), (6, pp b_206), (7, pp b_208), (13, vi 3), (14, vi 3)] hs fun a hs => hKL305 _ _ ?_
          clear hKL305
          refine Vk.unroll fun KL350 hKL350 => ?_
          refine qsr fun K351 hK351 => ?_
          refine qpe 1 [(0, pp b_x0), (5, pp b_205), (6, pp b_206), (7, pp b_208), (13, vi 3), (14, vi 3), (15, .bool false)] hs fun a hs => hK351 _ _ ?_
          clear hK351
          refine Vk.seq fun K352 hK352 => ?_
          refine qcf hs ?_
          refine wp_exit ?_
          refine hK209 _ _ ?_
          clear hK209
          refine qsr fun K353 hK353 => ?_
          refine Vk.step (Vk.value (some 38) (.agg (vals ((((((x1.set (0) (ci v_237.1)).set (0) (ci v_255.1)).set (1) (ci v_282.1)).set (1) (ci v_300.1)).set (2) (ci v_327.1)).set (2) (ci v_345.1)))) hs (by kernel_rfl) (op := (.load 28 (.tmp 7))) (by kernel_rfl) (fun o ho => run_loadN (cs := ((((((x1.set (0) (ci v_237.1)).set (0) (ci v_255.1)).set (1) (ci v_282.1)).set (1) (ci v_300.1)).set (2) (ci v_327.1)).set (2) (ci v_345.1))) ho (by kernel_rfl) (by kernel_rfl) (List.length_set.trans (List.length_set.trans (List.length_set.trans (List.length_set.trans (List.length_set.trans (List.length_set.trans h_11)))))) (CellsAt.all 1 rfl) _ hs.own) fun a hs => ?_)
          refine Vk.step (Vk.storeA (b := b_206) (ty := 28) (x := (.tmp 6)) (y := (.tmp 38)) (sz := 3) ((((((x1.set (0) (ci v_237.1)).set (0) (ci v_255.1)).set (1) (ci v_282.1)).set (1) (ci v_300.1)).set (2) (ci v_327.1)).set (2) (ci v_345.1)) 2 hs (by kernel_rfl) (by kernel_rfl) (by kernel_rfl) (by kernel_rfl) (by kernel_rfl) (List.length_set.trans (List.length_set.trans (List.length_set.trans (List.length_set.trans (List.length_set.trans (List.length_set.trans h_11)))))) (by kernel_rfl) rfl (Eq.trans (b := 3) (List.length_set.trans (List.length_set.trans (List.length_set.trans (List.length_set.trans (List.length_set.trans (List.length_set.trans h_11)))))) (Eq.symm rfl)) fun a w hs => ?_)
          refine qpe 0 [(6, pp b_206)] hs fun a hs => hK353 _ _ ?_
          clear hK353
          refine wp_ret ?_
          refine hKP202 _ _ ?_
          refine hKR202 _ _ ?_
          refine Vk.retC (P := Try.prog) (fn := Try.f161) ((((((x1.set (0) (ci v_237.1)).set (0) (ci v_255.1)).set (1) (ci v_282.1)).set (1) (ci v_300.1)).set (2) (ci v_327.1)).set (2) (ci v_345.1)) hs rfl (by kernel_rfl) (sz := 3) (by kernel_rfl) (List.length_set.trans (List.length_set.trans (List.length_set.trans (List.length_set.trans (List.length_set.trans (List.length_set.trans h_11)))))) (CellsAt.all 2 rfl) ⟨_, _, _, rfl, hs.own, fun a hs => ?_⟩
          refine Vk.step (Vk.alloc 15 28 [ci 0, ci 0, ci 0] hs (by kernel_rfl) (by kernel_rfl) (by kernel_rfl) fun b_354 w a hs => ?_)
          refine Vk.step (Vk.storeA (b := b_354) (ty := 28) (x := (.tmp 15)) (y := (.tmp 52)) (sz := 3) ((((((x1.set (0) (ci v_237.1)).set (0) (ci v_255.1)).set (1) (ci v_282.1)).set (1) (ci v_300.1)).set (2) (ci v_327.1)).set (2) (ci v_345.1)) 0 hs (by kernel_rfl) (by kernel_rfl) (by kernel_rfl) (by kernel_rfl) (by kernel_rfl) (List.length_set.trans (List.length_set.trans (List.length_set.trans (List.length_set.trans (List.length_set.trans (List.length_set.trans h_11)))))) (by kernel_rfl) rfl (Eq.trans (b := 3) (List.length_set.trans (List.length_set.trans (List.length_set.trans (List.length_set.trans (List.length_set.trans (List.length_set.trans h_11)))))) (Eq.symm rfl)) fun a w hs => ?_)
          refine qpe 0 [(0, pp b_x0), (8, pp b_22), (15, pp b_354)] hs fun a hs => hK201 _ _ ?_
          clear hK201
          refine qsr fun K355 hK355 => ?_
          refine qpu 1 hs fun a hs => ?_
          obtain ⟨v_358, h_357, hm⟩ := bind_t hm
          refine Vk.step (Vk.call (some 54) 94 #[pp b_x0] hs (by kernel_rfl) (by kernel_rfl) (by kernel_rfl) ?_)
          refine (wire_Machine_End.ok k v_345.2 v_358 h_357 κ w (pt b_354 (blk ((((((x1.set (0) (ci v_237.1)).set (0) (ci v_255.1)).set (1) (ci v_282.1)).set (1) (ci v_300.1)).set (2) (ci v_327.1)).set (2) (ci v_345.1)) 28) :: pt b_208 (blk ((((((x1.set (0) (ci v_237.1)).set (0) (ci v_255.1)).set (1) (ci v_282.1)).set (1) (ci v_300.1)).set (2) (ci v_327.1)).set (2) (ci v_345.1)) 28) :: pt b_206 (blk ((((((x1.set (0) (ci v_237.1)).set (0) (ci v_255.1)).set (1) (ci v_282.1)).set (1) (ci v_300.1)).set (2) (ci v_327.1)).set (2) (ci v_345.1)) 28) :: pt b_205 (blk ([C.slc A_89 (((([] : List Int) ++ ([v_63] : List Int)) ++ ([v_85] : List Int)).length) c_90, C.slc A_141 (((([] : List Int) ++ ([v_115] : List Int)) ++ ([v_137] : List Int)).length) c_142, C.slc A_193 (((([] : List Int) ++ ([v_167] : List Int)) ++ ([v_189] : List Int)).length) c_194]) 160) :: pt b_204 (blk x1 28) :: rowp A_190 1 3 1 (eI .i64) ([v_189] : List Int) :: rowp A_193 c_194 3 1 (eI .i64) ((([] : List Int) ++ ([v_167] : List Int)) ++ ([v_189] : List Int)) :: rowp A_168 1 3 1 (eI .i64) ([v_167] : List Int) :: rowp A_138 1 3 1 (eI .i64) ([v_137] : List Int) :: rowp A_141 c_142 3 1 (eI .i64) ((([] : List Int) ++ ([v_115] : List Int)) ++ ([v_137] : List Int)) :: rowp A_116 1 3 1 (eI .i64) ([v_115] : List Int) :: rowp A_86 1 3 1 (eI .i64) ([v_85] : List Int) :: rowp A_89 c_90 3 1 (eI .i64) ((([] : List Int) ++ ([v_63] : List Int)) ++ ([v_85] : List Int)) :: rowp A_64 1 3 1 (eI .i64) ([v_63] : List Int) :: pt b_39 (blk ([C.slc A_89 (((([] : List Int) ++ ([v_63] : List Int)) ++ ([v_85] : List Int)).length) c_90, C.slc A_141 (((([] : List Int) ++ ([v_115] : List Int)) ++ ([v_137] : List Int)).length) c_142, C.slc A_193 (((([] : List Int) ++ ([v_167] : List Int)) ++ ([v_189] : List Int)).length) c_194]) 160) :: pt b_36 (blk v_35.1 26) :: pt b_22 (blk [ci 0, ci 0, ci 0] 28) :: pt b_21 (blk ([C.slc A_12 (([0, 1] : List Int).length) 2, C.slc A_14 (([0, 2] : List Int).length) 2, C.slc A_16 (([1, 2] : List Int).length) 2]) 160) :: pt b_20 (blk x1 28) :: rowp A_16 2 3 1 (eI .i64) ([1, 2] : List Int) :: rowp A_14 2 3 1 (eI .i64) ([0, 2] : List Int) :: rowp A_12 2 3 1 (eI .i64) ([0, 1] : List Int) :: pt b_3 (blk [ci 0, ci 0, ci 0] 28) :: pt b_2 (blk x1 28) :: S) b_x0 (Own.to hs.own [1, 0, 2, 3, 4, 5, 6, 7, 8, 9, 10, 11, 12, 13, 14, 15, 16, 17, 18, 19, 20, 21, 22, 23, 24] 25 (by kernel_rfl) (by kernel_rfl))).mono ?_
          rintro _ w ⟨rfl, how⟩
          refine ⟨_, _, _, rfl, how, fun a hs => ?_⟩
          refine qpe 0 [(8, pp b_22), (15, pp b_354)] hs fun a hs => hK355 _ _ ?_
          clear hK355
          refine qsr fun K359 hK359 => ?_
          refine Vk.step (Vk.value (some 55) (.agg (vals ((((((x1.set (0) (ci v_237.1)).set (0) (ci v_255.1)).set (1) (ci v_282.1)).set (1) (ci v_300.1)).set (2) (ci v_327.1)).set (2) (ci v_345.1)))) hs (by kernel_rfl) (op := (.load 28 (.tmp 15))) (by kernel_rfl) (fun o ho => run_loadN (cs := ((((((x1.set (0) (ci v_237.1)).set (0) (ci v_255.1)).set (1) (ci v_282.1)).set (1) (ci v_300.1)).set (2) (ci v_327.1)).set (2) (ci v_345.1))) ho (by kernel_rfl) (by kernel_rfl) (List.length_set.trans (List.length_set.trans (List.length_set.trans (List.length_set.trans (List.length_set.trans (List.length_set.trans h_11)))))) (CellsAt.all 1 rfl) _ hs.own) fun a hs => ?_)
          refine Vk.step (Vk.storeA (b := b_22) (ty := 28) (x := (.tmp 8)) (y := (.tmp 55)) (sz := 3) ((((((x1.set (0) (ci v_237.1)).set (0) (ci v_255.1)).set (1) (ci v_282.1)).set (1) (ci v_300.1)).set (2) (ci v_327.1)).set (2) (ci v_345.1)) 17 hs (by kernel_rfl) (by kernel_rfl) (by kernel_rfl) (by kernel_rfl) (by kernel_rfl) (List.length_set.trans (List.length_set.trans (List.length_set.trans (List.length_set.trans (List.length_set.trans (List.length_set.trans h_11)))))) (by kernel_rfl) rfl (Eq.trans (b := 3) (List.length_set.trans (List.length_set.trans (List.length_set.trans (List.length_set.trans (List.length_set.trans (List.length_set.trans h_11)))))) (Eq.symm rfl)) fun a w hs => ?_)
          refine qpe 0 [(8, pp b_22)] hs fun a hs => hK359 _ _ ?_
          clear hK359
          refine wp_ret ?_
          refine hKP18 _ _ ?_
          refine hKR18 _ _ ?_
          refine Vk.retC (P := Try.prog) (fn := Try.f125) ((((((x1.set (0) (ci v_237.1)).set (0) (ci v_255.1)).set (1) (ci v_282.1)).set (1) (ci v_300.1)).set (2) (ci v_327.1)).set (2) (ci v_345.1)) hs rfl (by kernel_rfl) (sz := 3) (by kernel_rfl) (List.length_set.trans (List.length_set.trans (List.length_set.trans (List.length_set.trans (List.length_set.trans (List.length_set.trans h_11)))))) (CellsAt.all 17 rfl) ⟨_, _, _, rfl, hs.own, fun a hs => ?_⟩
          refine Vk.step (Vk.storeA (b := b_3) (ty := 28) (x := (.tmp 4)) (y := (.tmp 14)) (sz := 3) ((((((x1.set (0) (ci v_237.1)).set (0) (ci v_255.1)).set (1) (ci v_282.1)).set (1) (ci v_300.1)).set (2) (ci v_327.1)).set (2) (ci v_345.1)) 23 hs (by kernel_rfl) (by kernel_rfl) (by kernel_rfl) (by kernel_rfl) (by kernel_rfl) (List.length_set.trans (List.length_set.trans (List.length_set.trans (List.length_set.trans (List.length_set.trans (List.length_set.trans h_11)))))) (by kernel_rfl) rfl (Eq.trans (b := 3) (List.length_set.trans (List.length_set.trans (List.length_set.trans (List.length_set.trans (List.length_set.trans (List.length_set.trans h_11)))))) (Eq.symm rfl)) fun a w hs => ?_)
          refine qpe 0 [(4, pp b_3)] hs fun a hs => hK10 _ _ ?_
          clear hK10
          refine wp_ret ?_
          exact Vk.retC (P := Try.prog) (fn := Try.f49) (R := RR) ((((((x1.set (0) (ci v_237.1)).set (0) (ci v_255.1)).set (1) (ci v_282.1)).set (1) (ci v_300.1)).set (2) (ci v_327.1)).set (2) (ci v_345.1)) hs rfl (by kernel_rfl) (sz := 3) (by kernel_rfl) (List.length_set.trans (List.length_set.trans (List.length_set.trans (List.length_set.trans (List.length_set.trans (List.length_set.trans h_11)))))) (CellsAt.all 23 rfl) (by obtain rfl := Option.some.inj hm; subst hRR; exact ⟨rfl, (Own.to hs.own [0] 25 (by kernel_rfl) (by kernel_rfl))⟩)
        · replace hm := bif_f hm hb
          cases hm
      · replace hm := bif_f hm hb
        cases hm
    · replace hm := bif_f hm hb
      cases hm

end Go.Proofs.Ytflgefjocjpjaaa
