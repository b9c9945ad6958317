/- Of each Go function that GuardShows comes to: a model in plain Lean, and that the program's call does what the model says; no condition. -/
import Derived.Test.YtflgefjocjpjaaaProg
import Derived.Test.YtflgefjocjpjaaaVcbaaheei
import Derived.Test.YtflgefjocjpjaaaMGuardShows0
namespace Go.Proofs.Ytflgefjocjpjaaa
open Go Go.Vk
set_option linter.unusedVariables false


abbrev fresh_Full.R (κ : Ctx) (S : List HP) (x0 : Twire_Machine) (x1 : Cells) (b_x0 : Nat) (r : (Cells × Twire_Machine)) : Ending → World → Prop := fun e w' => e = .returned (.agg (vals r.1)) ∧ Ow κ w' (Twire_Machine.own b_x0 r.2 :: S)
def fresh_Full.m (k : Nat) (x0 : Twire_Machine) (x1 : Cells) : Option (Cells × Twire_Machine) := (wire_Machine_N.m k x0).bind fun v_9 => (bif v_9 == 2 then (if x1.length = 3 then (wire_Machine_N.m k x0).bind fun v_375 => (bif v_375 == 2 then (wire_Machine_Begin.m k x0 2).bind fun v_379 => (fresh_masks.m k v_379 1).bind fun v_383 => (if v_383.1.length = 3 then (if 0 ≤ (0 : Int) then (([0] : List Int)[0]?).bind fun e_404 => (if 0 ≤ e_404 ∧ e_404 < 3 then (getI .i64 v_383.1 (0 + e_404.toNat * 1)).bind fun v_411 => (if (([] : List Int).length + ([v_411] : List Int).length) * 8 ≤ 140737488355328 then (if 0 ≤ (0 : Int) then (([0] : List Int)[0]?).bind fun e_435 => (if 0 ≤ e_435 ∧ e_435 < 3 then (getI .i64 v_383.1 (0 + e_435.toNat * 1)).bind fun v_442 => (if (([] : List Int).length + ([v_442] : List Int).length) * 8 ≤ 140737488355328 then (wire_Machine_N.m k v_383.2).bind fun v_477 => (bif v_477 == 2 then (if 0 ≤ (0 : Int) then ((([] : List Int) ++ ([v_411] : List Int))[0]?).bind fun e_492 => (getI .i64 x1 (0)).bind fun v_497 => (wire_Machine_Two.m k v_383.2 5 0 v_497 e_492).bind fun v_500 => (if 0 < x1.length then (if 0 ≤ (0 : Int) then ((([] : List Int) ++ ([v_442] : List Int))[0]?).bind fun e_519 => (getI .i64 (x1.set (0) (ci v_500.1)) (1)).bind fun v_524 => (wire_Machine_Two.m k v_500.2 5 1 v_524 e_519).bind fun v_527 => (if 1 < (x1.set (0) (ci v_500.1)).length then (wire_Machine_End.m k v_527.2).bind fun v_540 => some (((x1.set (0) (ci v_500.1)).set (1) (ci v_527.1)), v_540) else none) else none) else none) else none) else none) else none) else none) else none) else none) else none) else none) else none) else none) else none) else (bif v_9 == 3 then (if x1.length = 3 then (wire_Machine_N.m k x0).bind fun v_27 => (bif v_27 == 3 then (wire_Machine_Begin.m k x0 2).bind fun v_31 => (fresh_masks.m k v_31 3).bind fun v_35 => (if v_35.1.length = 3 then (if 0 ≤ (0 : Int) then (([0, 1] : List Int)[0]?).bind fun e_56 => (if 0 ≤ e_56 ∧ e_56 < 3 then (getI .i64 v_35.1 (0 + e_56.toNat * 1)).bind fun v_63 => (if (([] : List Int).length + ([v_63] : List Int).length) * 8 ≤ 140737488355328 then (if 0 ≤ (1 : Int) then (([0, 1] : List Int)[1]?).bind fun e_78 => (if 0 ≤ e_78 ∧ e_78 < 3 then (getI .i64 v_35.1 (0 + e_78.toNat * 1)).bind fun v_85 => (if ((([] : List Int) ++ ([v_63] : List Int)).length + ([v_85] : List Int).length) * 8 ≤ 140737488355328 then (if 0 ≤ (0 : Int) then (([0, 2] : List Int)[0]?).bind fun e_108 => (if 0 ≤ e_108 ∧ e_108 < 3 then (getI .i64 v_35.1 (0 + e_108.toNat * 1)).bind fun v_115 => (if (([] : List Int).length + ([v_115] : List Int).length) * 8 ≤ 140737488355328 then (if 0 ≤ (1 : Int) then (([0, 2] : List Int)[1]?).bind fun e_130 => (if 0 ≤ e_130 ∧ e_130 < 3 then (getI .i64 v_35.1 (0 + e_130.toNat * 1)).bind fun v_137 => (if ((([] : List Int) ++ ([v_115] : List Int)).length + ([v_137] : List Int).length) * 8 ≤ 140737488355328 then (if 0 ≤ (0 : Int) then (([1, 2] : List Int)[0]?).bind fun e_160 => (if 0 ≤ e_160 ∧ e_160 < 3 then (getI .i64 v_35.1 (0 + e_160.toNat * 1)).bind fun v_167 => (if (([] : List Int).length + ([v_167] : List Int).length) * 8 ≤ 140737488355328 then (if 0 ≤ (1 : Int) then (([1, 2] : List Int)[1]?).bind fun e_182 => (if 0 ≤ e_182 ∧ e_182 < 3 then (getI .i64 v_35.1 (0 + e_182.toNat * 1)).bind fun v_189 => (if ((([] : List Int) ++ ([v_167] : List Int)).length + ([v_189] : List Int).length) * 8 ≤ 140737488355328 then (wire_Machine_N.m k v_35.2).bind fun v_214 => (bif v_214 == 3 then (if 0 ≤ (0 : Int) then (((([] : List Int) ++ ([v_63] : List Int)) ++ ([v_85] : List Int))[0]?).bind fun e_229 => (getI .i64 x1 (0)).bind fun v_234 => (wire_Machine_Two.m k v_35.2 5 0 v_234 e_229).bind fun v_237 => (if 0 < x1.length then (if 0 ≤ (1 : Int) then (((([] : List Int) ++ ([v_63] : List Int)) ++ ([v_85] : List Int))[1]?).bind fun e_247 => (getI .i64 (x1.set (0) (ci v_237.1)) (0)).bind fun v_252 => (wire_Machine_Two.m k v_237.2 5 0 v_252 e_247).bind fun v_255 => (if 0 < (x1.set (0) (ci v_237.1)).length then (if 0 ≤ (0 : Int) then (((([] : List Int) ++ ([v_115] : List Int)) ++ ([v_137] : List Int))[0]?).bind fun e_274 => (getI .i64 ((x1.set (0) (ci v_237.1)).set (0) (ci v_255.1)) (1)).bind fun v_279 => (wire_Machine_Two.m k v_255.2 5 1 v_279 e_274).bind fun v_282 => (if 1 < ((x1.set (0) (ci v_237.1)).set (0) (ci v_255.1)).length then (if 0 ≤ (1 : Int) then (((([] : List Int) ++ ([v_115] : List Int)) ++ ([v_137] : List Int))[1]?).bind fun e_292 => (getI .i64 (((x1.set (0) (ci v_237.1)).set (0) (ci v_255.1)).set (1) (ci v_282.1)) (1)).bind fun v_297 => (wire_Machine_Two.m k v_282.2 5 1 v_297 e_292).bind fun v_300 => (if 1 < (((x1.set (0) (ci v_237.1)).set (0) (ci v_255.1)).set (1) (ci v_282.1)).length then (if 0 ≤ (0 : Int) then (((([] : List Int) ++ ([v_167] : List Int)) ++ ([v_189] : List Int))[0]?).bind fun e_319 => (getI .i64 ((((x1.set (0) (ci v_237.1)).set (0) (ci v_255.1)).set (1) (ci v_282.1)).set (1) (ci v_300.1)) (2)).bind fun v_324 => (wire_Machine_Two.m k v_300.2 5 2 v_324 e_319).bind fun v_327 => (if 2 < ((((x1.set (0) (ci v_237.1)).set (0) (ci v_255.1)).set (1) (ci v_282.1)).set (1) (ci v_300.1)).length then (if 0 ≤ (1 : Int) then (((([] : List Int) ++ ([v_167] : List Int)) ++ ([v_189] : List Int))[1]?).bind fun e_337 => (getI .i64 (((((x1.set (0) (ci v_237.1)).set (0) (ci v_255.1)).set (1) (ci v_282.1)).set (1) (ci v_300.1)).set (2) (ci v_327.1)) (2)).bind fun v_342 => (wire_Machine_Two.m k v_327.2 5 2 v_342 e_337).bind fun v_345 => (if 2 < (((((x1.set (0) (ci v_237.1)).set (0) (ci v_255.1)).set (1) (ci v_282.1)).set (1) (ci v_300.1)).set (2) (ci v_327.1)).length then (wire_Machine_End.m k v_345.2).bind fun v_358 => some (((((((x1.set (0) (ci v_237.1)).set (0) (ci v_255.1)).set (1) (ci v_282.1)).set (1) (ci v_300.1)).set (2) (ci v_327.1)).set (2) (ci v_345.1)), v_358) else none) else none) else none) else none) else none) else none) else none) else none) else none) else none) else none) else none) else none) else none) else none) else none) else none) else none) else none) else none) else none) else none) else none) else none) else none) else none) else none) else none) else none) else none) else none) else none) else none) else none) else none))

set_option maxRecDepth 100000 in
set_option maxHeartbeats 4000000 in
theorem fresh_Full.ok (k : Nat) (x0 : Twire_Machine) (x1 : Cells) (r : (Cells × Twire_Machine)) (hm : fresh_Full.m k x0 x1 = some r) (κ : Ctx) (w : World) (S : List HP) (b_x0 : Nat) (ho : Ow κ w (Twire_Machine.own b_x0 x0 :: S)) :
  Calls Try.prog 49 #[pp b_x0, .agg (vals x1)] w (fresh_Full.R κ S x0 x1 b_x0 r) := by
 unfold fresh_Full.m at hm
 generalize hRR : fresh_Full.R κ S x0 x1 b_x0 r = RR
 refine qen [(0, pp b_x0), (1, .agg (vals x1))] Try.func49 Try.ntmps49 ho fun a hs => ?_
 refine qsr fun K1 hK1 => ?_
 refine qbx 1 28 x1 3 hs fun b_2 w a hs => ?_
 refine qal 28 [ci 0, ci 0, ci 0] 4 hs fun b_3 w a hs => ?_
 refine qpe 0 [(0, pp b_x0), (3, pp b_2), (4, pp b_3)] hs fun a hs => hK1 _ _ ?_
 clear hK1
 refine Vk.seq fun K4 hK4 => ?_
 refine qsr fun K5 hK5 => ?_
 refine qpu 1 hs fun a hs => ?_
 obtain ⟨g_6, hs⟩ := hs.unex 2 rfl
 obtain ⟨v_9, h_8, hm⟩ := bind_t hm
 refine qcl (wire_Machine_N.ok _ _ _ h_8 _ _ _ b_x0 g_6 hs.own.f2) hs fun w a hs => ?_
 rcases Bool.eq_false_or_eq_true (v_9 == 2) with hb | hb
 ·replace hm := bif_t hm hb
  obtain rfl := Vk.of_beq hb
  refine qpk 1 [0, 3, 4, 7] hs fun a hs => hK5 _ _ ?_
  refine qcf hs ?_
  refine wp_skip ?_
  refine hK4 _ _ ?_
  clear hK4
  refine qsr fun K360 hK360 => ?_
  refine qpu 1 hs fun a hs => ?_
  obtain ⟨h_361, hm⟩ := ite_t hm
  refine qlw 2 hs rfl h_361 fun a hs => ?_
  refine Vk.step (Vk.buildOp (sz := 1) (by_ := 8) (t := 159) (e := 3) (parts := #[(0, (.const (vi 0)))]) (zs := vals [ci 0]) ([0] : List Int) (eI .i64) (some 17) hs (by kernel_rfl) (by kernel_rfl) (by kernel_rfl) (by kernel_rfl) (by decide) rfl (fun x _ => rfl) (Nat.le_of_ble_eq_true (by kernel_rfl)) (by kernel_rfl) fun A_362 w a hs => ?_)
  refine Vk.step (Vk.buildOp (sz := 1) (by_ := 8) (t := 159) (e := 3) (parts := #[(0, (.const (vi 0)))]) (zs := vals [ci 0]) ([0] : List Int) (eI .i64) (some 18) hs (by kernel_rfl) (by kernel_rfl) (by kernel_rfl) (by kernel_rfl) (by decide) rfl (fun x _ => rfl) (Nat.le_of_ble_eq_true (by kernel_rfl)) (by kernel_rfl) fun A_364 w a hs => ?_)
  refine qpu 1 hs fun a hs => ?_
  refine Vk.step (Vk.call (some 20) 125 #[pp b_x0, .agg (vals x1), vi 1, .agg (vals ([C.slc A_362 (([0] : List Int).length) 1, C.slc A_364 (([0] : List Int).length) 1, C.slc none 0 0]))] hs (by kernel_rfl) (by kernel_rfl) (by kernel_rfl) ?_)
  refine Vk.enterI [(0, pp b_x0), (1, .agg (vals x1)), (2, vi 1), (3, .agg (vals ([C.slc A_362 (([0] : List Int).length) 1, C.slc A_364 (([0] : List Int).length) 1, C.slc none 0 0])))] Try.func125 rfl Try.ntmps125 (by kernel_rfl) (Nat.le_of_ble_eq_true (by kernel_rfl)) hs.own fun KR366 hKR366 hKP366 a hs => ?_
  refine qsr fun K367 hK367 => ?_
  refine qbx 1 28 x1 5 hs fun b_368 w a hs => ?_
  refine qbx 3 160 ([C.slc A_362 (([0] : List Int).length) 1, C.slc A_364 (([0] : List Int).length) 1, C.slc none 0 0]) 7 hs fun b_369 w a hs => ?_
  refine qal 28 [ci 0, ci 0, ci 0] 8 hs fun b_370 w a hs => ?_
  refine qpk 0 [0, 2, 5, 7, 8] hs fun a hs => hK367 _ _ ?_
  clear hK367
  refine Vk.seq fun K371 hK371 => ?_
  refine qsr fun K372 hK372 => ?_
  refine qpu 1 hs fun a hs => ?_
  obtain ⟨v_375, h_374, hm⟩ := bind_t hm
  refine qcl (wire_Machine_N.ok _ _ _ h_374 _ _ _ b_x0 g_6 hs.own.f5) hs fun w a hs => ?_
  rcases Bool.eq_false_or_eq_true (v_375 == 2) with hb | hb
  ·replace hm := bif_t hm hb
   obtain rfl := Vk.of_beq hb
   refine qpk 1 [0, 2, 5, 7, 8, 18] hs fun a hs => hK372 _ _ ?_
   clear hK372
   refine qcf hs ?_
   refine wp_skip ?_
   refine hK371 _ _ ?_
   clear hK371
   refine qsr fun K376 hK376 => ?_
   refine qpu 1 hs fun a hs => ?_
   replace hs := hs.toEx (Twire_Machine.parts b_x0 x0) g_6 0 rfl
   obtain ⟨v_379, h_378, hm⟩ := bind_t hm
   refine qcl (wire_Machine_Begin.ok _ _ _ _ h_378 _ _ _ b_x0 hs.own) hs fun w a hs => ?_
   refine qpk 0 [0, 2, 5, 7, 8] hs fun a hs => hK376 _ _ ?_
   clear hK376
   refine qsr fun K380 hK380 => ?_
   refine qpu 2 hs fun a hs => ?_
   obtain ⟨v_383, h_382, hm⟩ := bind_t hm
   refine qcl (fresh_masks.ok _ _ _ _ h_382 _ _ _ b_x0 hs.own) hs fun w a hs => ?_
   refine qal 26 [ci 0, ci 0, ci 0] 9 hs fun b_384 w a hs => ?_
   obtain ⟨h_385, hm⟩ := ite_t hm
   refine qsb 0 v_383.1 hs rfl h_385 rfl fun a w hs => ?_
   refine qpk 0 [0, 5, 7, 8, 9] hs fun a hs => hK380 _ _ ?_
   clear hK380
   refine qsr fun K386 hK386 => ?_
   refine qal 160 [C.slc none 0 0, C.slc none 0 0, C.slc none 0 0] 10 hs fun b_387 w a hs => ?_
   refine qpe 0 [(0, pp b_x0), (5, pp b_368), (7, pp b_369), (8, pp b_370), (9, pp b_384), (10, pp b_387)] hs fun a hs => hK386 _ _ ?_
   clear hK386
   refine Vk.seq fun K388 hK388 => ?_
   refine qsr fun K389 hK389 => ?_
   refine qln 4 ([C.slc A_362 (([0] : List Int).length) 1, C.slc A_364 (([0] : List Int).length) 1, C.slc none 0 0]) hs rfl fun a hs => ?_
   refine qpk 1 [0, 5, 8, 9, 10, 26, 27] hs fun a hs => hK389 _ _ ?_
   clear hK389
   refine wp_block ?_
   refine Vk.unroll0 40 ?_
   refine Vk.unroll fun KL390 hKL390 => ?_
   refine qsk 1 [0, 5, 8, 9, 10, 26, 27, 28] hs fun a hs => ?_
   refine qck hs ?_
   refine Vk.seq fun K393 hK393 => ?_
   refine wp_block ?_
   refine qsk 4 [0, 5, 8, 9, 10, 11, 12, 26, 27] hs fun a hs => ?_
   refine qsk 3 [0, 5, 8, 9, 10, 11, 26, 27, 31, 32, 33] hs fun a hs => ?_
   refine wp_block ?_
   refine Vk.unroll0 40 ?_
   refine Vk.unroll fun KL396 hKL396 => ?_
   refine qsk 1 [0, 5, 8, 9, 10, 11, 26, 27, 31, 32, 33, 34] hs fun a hs => ?_
   refine qck hs ?_
   refine Vk.seq fun K399 hK399 => ?_
   refine wp_block ?_
   refine qsr fun K400 hK400 => ?_
   obtain ⟨h_401, hm⟩ := ite_t hm
   obtain ⟨e_404, h_402, hm⟩ := bind_t hm
   obtain ⟨b_405, o_406, hA_407, h_403⟩ := Sl.elem (Ow.rowSl 0 (Ow.to (S' := rowp A_362 1 3 1 (eI .i64) ([0] : List Int) :: S) hs.own [7] 10 (by kernel_rfl) (by kernel_rfl)) rfl) h_402
   refine qva (.pointer (some ⟨b_405, o_406 + 0 * 1, none⟩)) (op := (.indexAddr 159 (.tmp 31) (.tmp 33))) hs (fun o ho => run_idxSlc (k := .i64) ho (cap := 1) (len := ([0] : List Int).length) ((congrArg (fun A => Value.slice A (([0] : List Int).length) (1)) hA_407) ▸ (by kernel_rfl)) (by kernel_rfl) (by kernel_rfl) (idx_ok h_401 h_402) _) fun a hs => ?_
   refine qva (vi e_404) (op := (.load 3 (.tmp 35))) hs (fun o ho => run_load1 (c := ci e_404) ho (by kernel_rfl) (by kernel_rfl) (fun w ho => h_403 w ho 0 _ rfl) _ (Ow.to (S' := rowp A_362 1 3 1 (eI .i64) ([0] : List Int) :: S) hs.own [7] 10 (by kernel_rfl) (by kernel_rfl))) fun a hs => ?_
   refine qpe 1 [(0, pp b_x0), (5, pp b_368), (8, pp b_370), (9, pp b_384), (10, pp b_387), (11, vi 0), (14, vi e_404), (26, .agg (vals ([C.slc A_362 (([0] : List Int).length) 1, C.slc A_364 (([0] : List Int).length) 1, C.slc none 0 0]))), (27, vi 0), (31, .slice A_362 (([0] : List Int).length) 1), (32, vi 1), (33, vi 0)] hs fun a hs => hK400 _ _ ?_
   clear hK400
   obtain ⟨C_408, hC_408⟩ := qC hs.own
   refine qdr 10 κ C_408 hs fun w hs hqC_408 => ?_
   have hcl := qO hC_408 hs.own
   refine qdp (fuel := 7) [0, 1, 2, 4] hs hcl hqC_408 fun a hs => ?_
   refine qdl 3 0 (C.slc none 0 0) hs hcl hqC_408 hC_408 rfl fun a hs => ?_
   obtain ⟨h_409, hm⟩ := ite_t hm
   refine qdx 5 b_384 0 1 hs hcl hqC_408 h_409 fun a hs => ?_
   obtain ⟨v_411, h_410, hm⟩ := bind_t hm
   refine qdi 6 1 hs hcl hqC_408 hC_408 rfl h_410 fun a hs => ?_
   refine Vk.dOnly (i := 7) (by kernel_rfl) (Vk.buildOp (sz := 1) (by_ := 8) (t := 159) (e := 3) (parts := #[(0, (.tmp 43))]) (zs := vals [ci 0]) ([v_411] : List Int) (eI .i64) (some 44) hs (by kernel_rfl) (by kernel_rfl) (by kernel_rfl) (by kernel_rfl) (by decide) rfl (fun x _ => rfl) (Nat.le_of_ble_eq_true (by kernel_rfl)) (by kernel_rfl) fun A_412 w a hs => ?_)
   replace hcl := qO hC_408 hs.own.drop
   refine ⟨fun _ => hcl, ?_⟩
   replace hs := hs.addRow none 3 1 (eI .i64)
   obtain ⟨h_415, hm⟩ := ite_t hm
   refine Vk.dOnly (i := 8) (by kernel_rfl) (Vk.appendOp (x := (.tmp 40)) (y := (.tmp 44)) (e := 3) (t := 159) (by_ := 8) (sz := 1) (enc := (eI .i64)) (A := none) (cap := 0) (xs := ([] : List Int)) (ys := ([v_411] : List Int)) (B := A_412) (c2 := 1) 0 (some 45) hs (by kernel_rfl) (by kernel_rfl) (by kernel_rfl) (by kernel_rfl) rfl (Sl.lift (fun w ho => (Ow.to (S' := rowp A_412 1 3 1 (eI .i64) ([v_411] : List Int) :: S) ho [1] 12 (by kernel_rfl) (by kernel_rfl))) (Ow.rowSl 0 (Ow.to (S' := rowp A_412 1 3 1 (eI .i64) ([v_411] : List Int) :: S) hs.own [1] 12 (by kernel_rfl) (by kernel_rfl)) rfl)) (by kernel_rfl) (by kernel_rfl) (by decide) (by decide) h_415 fun A_416 c_417 w a hs => ?_)
   replace hcl := qO hC_408 hs.own.f1.drop.drop
   refine ⟨fun _ => hcl, ?_⟩
   refine qdp (fuel := 1) [9] hs hcl hqC_408 fun a hs => ?_
   refine qsd 10 2 0 (C.slc A_416 ((([] : List Int) ++ ([v_411] : List Int)).length) c_417) hs rfl fun a w hs => ?_
   refine ⟨fun h => absurd h (by decide), ?_⟩
   replace hs := hs.pick [0, 5, 8, 9, 10, 11, 26, 27, 31, 32, 33] (L' := [(0, pp b_x0), (5, pp b_368), (8, pp b_370), (9, pp b_384), (10, pp b_387), (11, vi 0), (26, .agg (vals ([C.slc A_362 (([0] : List Int).length) 1, C.slc A_364 (([0] : List Int).length) 1, C.slc none 0 0]))), (27, vi 0), (31, .slice A_362 (([0] : List Int).length) 1), (32, vi 1), (33, vi 0)]) (by kernel_rfl)
   refine Vk.dDone (by kernel_rfl) ?_
   refine hK399 _ _ ?_
   clear hK399
   refine Vk.region ?_
   refine qpk 2 [0, 5, 8, 9, 10, 11, 26, 27, 31, 32, 33] hs fun a hs => hKL396 _ _ ?_
   clear hKL396
   refine Vk.unroll fun KL418 hKL418 => ?_
   refine qsk 1 [0, 5, 8, 9, 10, 11, 26, 27, 31, 32, 33, 34] hs fun a hs => ?_
   refine Vk.seq fun K420 hK420 => ?_
   refine qcf hs ?_
   refine wp_exit ?_
   refine hK393 _ _ ?_
   clear hK393
   refine Vk.region ?_
   refine qpk 2 [0, 5, 8, 9, 10, 26, 27] hs fun a hs => hKL390 _ _ ?_
   clear hKL390
   refine Vk.unroll fun KL421 hKL421 => ?_
   refine qsk 1 [0, 5, 8, 9, 10, 26, 27, 28] hs fun a hs => ?_
   refine qck hs ?_
   refine Vk.seq fun K424 hK424 => ?_
   refine wp_block ?_
   refine qsk 4 [0, 5, 8, 9, 10, 11, 12, 26, 27] hs fun a hs => ?_
   refine qse 3 [(0, pp b_x0), (5, pp b_368), (8, pp b_370), (9, pp b_384), (10, pp b_387), (11, vi 1), (26, .agg (vals ([C.slc A_362 (([0] : List Int).length) 1, C.slc A_364 (([0] : List Int).length) 1, C.slc none 0 0]))), (27, vi 1), (31, .slice A_364 (([0] : List Int).length) 1), (32, vi 1), (33, vi 0)] hs fun a hs => ?_
   refine wp_block ?_
   refine Vk.unroll0 40 ?_
   refine Vk.unroll fun KL427 hKL427 => ?_
   refine qsk 1 [0, 5, 8, 9, 10, 11, 26, 27, 31, 32, 33, 34] hs fun a hs => ?_
   refine qck hs ?_
   refine Vk.seq fun K430 hK430 => ?_
   refine wp_block ?_
   refine qsr fun K431 hK431 => ?_
   obtain ⟨h_432, hm⟩ := ite_t hm
   obtain ⟨e_435, h_433, hm⟩ := bind_t hm
   obtain ⟨b_436, o_437, hA_438, h_434⟩ := Sl.elem (Ow.rowSl 0 (Ow.to (S' := rowp A_364 1 3 1 (eI .i64) ([0] : List Int) :: S) hs.own [8] 12 (by kernel_rfl) (by kernel_rfl)) rfl) h_433
   refine qva (.pointer (some ⟨b_436, o_437 + 0 * 1, none⟩)) (op := (.indexAddr 159 (.tmp 31) (.tmp 33))) hs (fun o ho => run_idxSlc (k := .i64) ho (cap := 1) (len := ([0] : List Int).length) ((congrArg (fun A => Value.slice A (([0] : List Int).length) (1)) hA_438) ▸ (by kernel_rfl)) (by kernel_rfl) (by kernel_rfl) (idx_ok h_432 h_433) _) fun a hs => ?_
   refine qva (vi e_435) (op := (.load 3 (.tmp 35))) hs (fun o ho => run_load1 (c := ci e_435) ho (by kernel_rfl) (by kernel_rfl) (fun w ho => h_434 w ho 0 _ rfl) _ (Ow.to (S' := rowp A_364 1 3 1 (eI .i64) ([0] : List Int) :: S) hs.own [8] 12 (by kernel_rfl) (by kernel_rfl))) fun a hs => ?_
   refine qpk 1 [0, 5, 8, 9, 10, 11, 14, 26, 27, 31, 32, 33] hs fun a hs => hK431 _ _ ?_
   clear hK431
   obtain ⟨C_439, hC_439⟩ := qC hs.own
   refine qdr 10 κ C_439 hs fun w hs hqC_439 => ?_
   have hcl := qO hC_439 hs.own
   refine qdp (fuel := 7) [0, 1, 2, 4] hs hcl hqC_439 fun a hs => ?_
   refine qdl 3 2 (C.slc none 0 0) hs hcl hqC_439 hC_439 rfl fun a hs => ?_
   obtain ⟨h_440, hm⟩ := ite_t hm
   refine qdx 5 b_384 0 1 hs hcl hqC_439 h_440 fun a hs => ?_
   obtain ⟨v_442, h_441, hm⟩ := bind_t hm
   refine qdi 6 3 hs hcl hqC_439 hC_439 rfl h_441 fun a hs => ?_
   refine Vk.dOnly (i := 7) (by kernel_rfl) (Vk.buildOp (sz := 1) (by_ := 8) (t := 159) (e := 3) (parts := #[(0, (.tmp 43))]) (zs := vals [ci 0]) ([v_442] : List Int) (eI .i64) (some 44) hs (by kernel_rfl) (by kernel_rfl) (by kernel_rfl) (by kernel_rfl) (by decide) rfl (fun x _ => rfl) (Nat.le_of_ble_eq_true (by kernel_rfl)) (by kernel_rfl) fun A_443 w a hs => ?_)
   replace hcl := qO hC_439 hs.own.drop
   refine ⟨fun _ => hcl, ?_⟩
   replace hs := hs.addRow none 3 1 (eI .i64)
   obtain ⟨h_446, hm⟩ := ite_t hm
   refine Vk.dOnly (i := 8) (by kernel_rfl) (Vk.appendOp (x := (.tmp 40)) (y := (.tmp 44)) (e := 3) (t := 159) (by_ := 8) (sz := 1) (enc := (eI .i64)) (A := none) (cap := 0) (xs := ([] : List Int)) (ys := ([v_442] : List Int)) (B := A_443) (c2 := 1) 0 (some 45) hs (by kernel_rfl) (by kernel_rfl) (by kernel_rfl) (by kernel_rfl) rfl (Sl.lift (fun w ho => (Ow.to (S' := rowp A_443 1 3 1 (eI .i64) ([v_442] : List Int) :: S) ho [1] 14 (by kernel_rfl) (by kernel_rfl))) (Ow.rowSl 0 (Ow.to (S' := rowp A_443 1 3 1 (eI .i64) ([v_442] : List Int) :: S) hs.own [1] 14 (by kernel_rfl) (by kernel_rfl)) rfl)) (by kernel_rfl) (by kernel_rfl) (by decide) (by decide) h_446 fun A_447 c_448 w a hs => ?_)
   replace hcl := qO hC_439 hs.own.f1.drop.drop
   refine ⟨fun _ => hcl, ?_⟩
   refine qdp (fuel := 1) [9] hs hcl hqC_439 fun a hs => ?_
   refine qsd 10 4 1 (C.slc A_447 ((([] : List Int) ++ ([v_442] : List Int)).length) c_448) hs rfl fun a w hs => ?_
   refine ⟨fun h => absurd h (by decide), ?_⟩
   replace hs := hs.pick [0, 5, 8, 9, 10, 11, 26, 27, 31, 32, 33] (L' := [(0, pp b_x0), (5, pp b_368), (8, pp b_370), (9, pp b_384), (10, pp b_387), (11, vi 1), (26, .agg (vals ([C.slc A_362 (([0] : List Int).length) 1, C.slc A_364 (([0] : List Int).length) 1, C.slc none 0 0]))), (27, vi 1), (31, .slice A_364 (([0] : List Int).length) 1), (32, vi 1), (33, vi 0)]) (by kernel_rfl)
   refine Vk.dDone (by kernel_rfl) ?_
   refine hK430 _ _ ?_
   clear hK430
   refine Vk.region ?_
   refine qpk 2 [0, 5, 8, 9, 10, 11, 26, 27, 31, 32, 33] hs fun a hs => hKL427 _ _ ?_
   clear hKL427
   refine Vk.unroll fun KL449 hKL449 => ?_
   refine qsk 1 [0, 5, 8, 9, 10, 11, 26, 27, 31, 32, 33, 34] hs fun a hs => ?_
   refine Vk.seq fun K451 hK451 => ?_
   refine qcf hs ?_
   refine wp_exit ?_
   refine hK424 _ _ ?_
   clear hK424
   refine Vk.region ?_
   refine qpk 2 [0, 5, 8, 9, 10, 26, 27] hs fun a hs => hKL421 _ _ ?_
   clear hKL421
   refine Vk.unroll fun KL452 hKL452 => ?_
   refine qse 1 [(0, pp b_x0), (5, pp b_368), (8, pp b_370), (9, pp b_384), (10, pp b_387), (26, .agg (vals ([C.slc A_362 (([0] : List Int).length) 1, C.slc A_364 (([0] : List Int).length) 1, C.slc none 0 0]))), (27, vi 2), (28, .bool true)] hs fun a hs => ?_
   refine qck hs ?_
   refine Vk.seq fun K455 hK455 => ?_
   refine wp_block ?_
   refine qsk 4 [0, 5, 8, 9, 10, 11, 12, 26, 27] hs fun a hs => ?_
   refine qsk 3 [0, 5, 8, 9, 10, 11, 26, 27, 31, 32, 33] hs fun a hs => ?_
   refine wp_block ?_
   refine Vk.unroll0 40 ?_
   refine Vk.unroll fun KL458 hKL458 => ?_
   refine qsk 1 [0, 5, 8, 9, 10, 11, 26, 27, 31, 32, 33, 34] hs fun a hs => ?_
   refine Vk.seq fun K460 hK460 => ?_
   refine qcf hs ?_
   refine wp_exit ?_
   refine hK455 _ _ ?_
   clear hK455
   refine Vk.region ?_
   refine qpk 2 [0, 5, 8, 9, 10, 26, 27] hs fun a hs => hKL452 _ _ ?_
   clear hKL452
   refine Vk.unroll fun KL461 hKL461 => ?_
   refine qsk 1 [0, 5, 8, 9, 10, 26, 27, 28] hs fun a hs => ?_
   refine Vk.seq fun K463 hK463 => ?_
   refine qcf hs ?_
   refine wp_exit ?_
   refine hK388 _ _ ?_
   clear hK388
   refine qsr fun K464 hK464 => ?_
   refine qpu 1 hs fun a hs => ?_
   refine qlw 9 hs rfl h_361 fun a hs => ?_
   refine qln 4 ([C.slc A_416 ((([] : List Int) ++ ([v_411] : List Int)).length) c_417, C.slc A_447 ((([] : List Int) ++ ([v_442] : List Int)).length) c_448, C.slc none 0 0]) hs rfl fun a hs => ?_
   refine Vk.step (Vk.call (some 52) 161 #[pp b_x0, .agg (vals x1), .agg (vals ([C.slc A_416 ((([] : List Int) ++ ([v_411] : List Int)).length) c_417, C.slc A_447 ((([] : List Int) ++ ([v_442] : List Int)).length) c_448, C.slc none 0 0]))] hs (by kernel_rfl) (by kernel_rfl) (by kernel_rfl) ?_)
   refine Vk.enterI [(0, pp b_x0), (1, .agg (vals x1)), (2, .agg (vals ([C.slc A_416 ((([] : List Int) ++ ([v_411] : List Int)).length) c_417, C.slc A_447 ((([] : List Int) ++ ([v_442] : List Int)).length) c_448, C.slc none 0 0])))] Try.func161 rfl Try.ntmps161 (by kernel_rfl) (Nat.le_of_ble_eq_true (by kernel_rfl)) hs.own fun KR465 hKR465 hKP465 a hs => ?_
   refine qsr fun K466 hK466 => ?_
   refine qbx 1 28 x1 4 hs fun b_467 w a hs => ?_
   refine qbx 2 160 ([C.slc A_416 ((([] : List Int) ++ ([v_411] : List Int)).length) c_417, C.slc A_447 ((([] : List Int) ++ ([v_442] : List Int)).length) c_448, C.slc none 0 0]) 5 hs fun b_468 w a hs => ?_
   refine qal 28 [ci 0, ci 0, ci 0] 6 hs fun b_469 w a hs => ?_
   refine qpe 0 [(0, pp b_x0), (4, pp b_467), (5, pp b_468), (6, pp b_469)] hs fun a hs => hK466 _ _ ?_
   clear hK466
   refine qsr fun K470 hK470 => ?_
   refine qlw 2 hs rfl h_361 fun a hs => ?_
   refine qal 28 [ci 0, ci 0, ci 0] 7 hs fun b_471 w a hs => ?_
   refine qsb 0 x1 hs rfl h_361 rfl fun a w hs => ?_
   refine qpe 0 [(0, pp b_x0), (5, pp b_468), (6, pp b_469), (7, pp b_471)] hs fun a hs => hK470 _ _ ?_
   clear hK470
   refine Vk.seq fun K472 hK472 => ?_
   refine qsr fun K473 hK473 => ?_
   refine qpu 1 hs fun a hs => ?_
   obtain ⟨g_474, hs⟩ := hs.unex 10 rfl
   obtain ⟨v_477, h_476, hm⟩ := bind_t hm
   refine qcl (wire_Machine_N.ok _ _ _ h_476 _ _ _ b_x0 g_474 hs.own.f10) hs fun w a hs => ?_
   rcases Bool.eq_false_or_eq_true (v_477 == 2) with hb | hb
   ·replace hm := bif_t hm hb
    obtain rfl := Vk.of_beq hb
    refine qpk 1 [0, 5, 6, 7, 13, 14] hs fun a hs => hK473 _ _ ?_
    clear hK473
    refine wp_block ?_
    refine Vk.unroll0 40 ?_
    refine Vk.unroll fun KL478 hKL478 => ?_
    refine qsk 1 [0, 5, 6, 7, 13, 14, 15] hs fun a hs => ?_
    refine qck hs ?_
    refine Vk.seq fun K481 hK481 => ?_
    refine wp_block ?_
    refine qsk 2 [0, 5, 6, 7, 8, 13, 14] hs fun a hs => ?_
    refine qsr fun K483 hK483 => ?_
    refine qpu 2 hs fun a hs => ?_
    refine qld 3 (C.slc A_416 ((([] : List Int) ++ ([v_411] : List Int)).length) c_417) hs rfl fun a hs => ?_
    refine qpk 2 [0, 5, 6, 7, 8, 13, 14, 19, 20, 21] hs fun a hs => hK483 _ _ ?_
    clear hK483
    refine wp_block ?_
    refine Vk.unroll0 40 ?_
    refine Vk.unroll fun KL484 hKL484 => ?_
    refine qsk 1 [0, 5, 6, 7, 8, 13, 14, 19, 20, 21, 22] hs fun a hs => ?_
    refine qck hs ?_
    refine Vk.seq fun K487 hK487 => ?_
    refine wp_block ?_
    refine qsr fun K488 hK488 => ?_
    obtain ⟨h_489, hm⟩ := ite_t hm
    obtain ⟨e_492, h_490, hm⟩ := bind_t hm
    obtain ⟨b_493, o_494, hA_495, h_491⟩ := Sl.elem (Ow.rowSl 0 (Ow.to (S' := rowp A_416 c_417 3 1 (eI .i64) (([] : List Int) ++ ([v_411] : List Int)) :: S) hs.own [7] 18 (by kernel_rfl) (by kernel_rfl)) rfl) h_490
    refine qva (.pointer (some ⟨b_493, o_494 + 0 * 1, none⟩)) (op := (.indexAddr 159 (.tmp 19) (.tmp 21))) hs (fun o ho => run_idxSlc (k := .i64) ho (cap := c_417) (len := (([] : List Int) ++ ([v_411] : List Int)).length) ((congrArg (fun A => Value.slice A ((([] : List Int) ++ ([v_411] : List Int)).length) (c_417)) hA_495) ▸ (by kernel_rfl)) (by kernel_rfl) (by kernel_rfl) (idx_ok h_489 h_490) _) fun a hs => ?_
    refine qva (vi e_492) (op := (.load 3 (.tmp 23))) hs (fun o ho => run_load1 (c := ci e_492) ho (by kernel_rfl) (by kernel_rfl) (fun w ho => h_491 w ho 0 _ rfl) _ (Ow.to (S' := rowp A_416 c_417 3 1 (eI .i64) (([] : List Int) ++ ([v_411] : List Int)) :: S) hs.own [7] 18 (by kernel_rfl) (by kernel_rfl))) fun a hs => ?_
    refine qpe 1 [(0, pp b_x0), (5, pp b_468), (6, pp b_469), (7, pp b_471), (8, vi 0), (10, vi e_492), (13, vi 2), (14, vi 0), (19, .slice A_416 ((([] : List Int) ++ ([v_411] : List Int)).length) c_417), (20, vi 1), (21, vi 0)] hs fun a hs => hK488 _ _ ?_
    clear hK488
    refine Vk.region ?_
    refine qpu 6 hs fun a hs => ?_
    obtain ⟨v_497, h_496, hm⟩ := bind_t hm
    refine qli 1 hs rfl h_496 fun a hs => ?_
    refine qpu 1 hs fun a hs => ?_
    replace hs := hs.toEx (Twire_Machine.parts b_x0 v_383.2) g_474 0 rfl
    obtain ⟨v_500, h_499, hm⟩ := bind_t hm
    refine qcl (wire_Machine_Two.ok _ _ _ _ _ _ _ h_499 _ _ _ b_x0 hs.own) hs fun w a hs => ?_
    refine qpu 2 hs fun a hs => ?_
    obtain ⟨h_501, hm⟩ := ite_t hm
    refine Vk.step (Vk.store1 (b := b_471) (ty := 3) (x := (.tmp 35)) (y := (.tmp 33)) (off := 0) (ci v_500.1) 1 hs (by kernel_rfl) (by kernel_rfl) (by kernel_rfl) (by kernel_rfl) (by kernel_rfl) (by kernel_rfl) rfl h_501 fun a w hs => ?_)
    refine qpk 0 [0, 5, 6, 7, 8, 13, 14, 19, 20, 21] hs fun a hs => hK487 _ _ ?_
    clear hK487
    refine Vk.region ?_
    refine qpk 2 [0, 5, 6, 7, 8, 13, 14, 19, 20, 21] hs fun a hs => hKL484 _ _ ?_
    clear hKL484
    refine Vk.unroll fun KL502 hKL502 => ?_
    refine qsk 1 [0, 5, 6, 7, 8, 13, 14, 19, 20, 21, 22] hs fun a hs => ?_
    refine Vk.seq fun K504 hK504 => ?_
    refine qcf hs ?_
    refine wp_exit ?_
    refine hK481 _ _ ?_
    clear hK481
    refine Vk.region ?_
    refine qpk 2 [0, 5, 6, 7, 13, 14] hs fun a hs => hKL478 _ _ ?_
    clear hKL478
    refine Vk.unroll fun KL505 hKL505 => ?_
    refine qsk 1 [0, 5, 6, 7, 13, 14, 15] hs fun a hs => ?_
    refine qck hs ?_
    refine Vk.seq fun K508 hK508 => ?_
    refine wp_block ?_
    refine qse 2 [(0, pp b_x0), (5, pp b_468), (6, pp b_469), (7, pp b_471), (8, vi 1), (13, vi 2), (14, vi 1)] hs fun a hs => ?_
    refine qsr fun K510 hK510 => ?_
    refine qpu 2 hs fun a hs => ?_
    refine qld 3 (C.slc A_447 ((([] : List Int) ++ ([v_442] : List Int)).length) c_448) hs rfl fun a hs => ?_
    refine qpk 2 [0, 5, 6, 7, 8, 13, 14, 19, 20, 21] hs fun a hs => hK510 _ _ ?_
    clear hK510
    refine wp_block ?_
    refine Vk.unroll0 40 ?_
    refine Vk.unroll fun KL511 hKL511 => ?_
    refine qsk 1 [0, 5, 6, 7, 8, 13, 14, 19, 20, 21, 22] hs fun a hs => ?_
    refine qck hs ?_
    refine Vk.seq fun K514 hK514 => ?_
    refine wp_block ?_
    refine qsr fun K515 hK515 => ?_
    obtain ⟨h_516, hm⟩ := ite_t hm
    obtain ⟨e_519, h_517, hm⟩ := bind_t hm
    obtain ⟨b_520, o_521, hA_522, h_518⟩ := Sl.elem (Ow.rowSl 0 (Ow.to (S' := rowp A_447 c_448 3 1 (eI .i64) (([] : List Int) ++ ([v_442] : List Int)) :: S) hs.own [5] 18 (by kernel_rfl) (by kernel_rfl)) rfl) h_517
    refine qva (.pointer (some ⟨b_520, o_521 + 0 * 1, none⟩)) (op := (.indexAddr 159 (.tmp 19) (.tmp 21))) hs (fun o ho => run_idxSlc (k := .i64) ho (cap := c_448) (len := (([] : List Int) ++ ([v_442] : List Int)).length) ((congrArg (fun A => Value.slice A ((([] : List Int) ++ ([v_442] : List Int)).length) (c_448)) hA_522) ▸ (by kernel_rfl)) (by kernel_rfl) (by kernel_rfl) (idx_ok h_516 h_517) _) fun a hs => ?_
    refine qva (vi e_519) (op := (.load 3 (.tmp 23))) hs (fun o ho => run_load1 (c := ci e_519) ho (by kernel_rfl) (by kernel_rfl) (fun w ho => h_518 w ho 0 _ rfl) _ (Ow.to (S' := rowp A_447 c_448 3 1 (eI .i64) (([] : List Int) ++ ([v_442] : List Int)) :: S) hs.own [5] 18 (by kernel_rfl) (by kernel_rfl))) fun a hs => ?_
    refine qpk 1 [0, 5, 6, 7, 8, 10, 13, 14, 19, 20, 21] hs fun a hs => hK515 _ _ ?_
    clear hK515
    refine Vk.region ?_
    refine qpu 6 hs fun a hs => ?_
    obtain ⟨v_524, h_523, hm⟩ := bind_t hm
    refine qli 1 hs rfl h_523 fun a hs => ?_
    refine qpu 1 hs fun a hs => ?_
    obtain ⟨v_527, h_526, hm⟩ := bind_t hm
    refine qcl (wire_Machine_Two.ok _ _ _ _ _ _ _ h_526 _ _ _ b_x0 hs.own) hs fun w a hs => ?_
    refine qpu 2 hs fun a hs => ?_
    obtain ⟨h_528, hm⟩ := ite_t hm
    refine Vk.step (Vk.store1 (b := b_471) (ty := 3) (x := (.tmp 35)) (y := (.tmp 33)) (off := 1) (ci v_527.1) 1 hs (by kernel_rfl) (by kernel_rfl) (by kernel_rfl) (by kernel_rfl) (by kernel_rfl) (by kernel_rfl) rfl h_528 fun a w hs => ?_)
    refine qpk 0 [0, 5, 6, 7, 8, 13, 14, 19, 20, 21] hs fun a hs => hK514 _ _ ?_
    clear hK514
    refine Vk.region ?_
    refine qpk 2 [0, 5, 6, 7, 8, 13, 14, 19, 20, 21] hs fun a hs => hKL511 _ _ ?_
    clear hKL511
    refine Vk.unroll fun KL529 hKL529 => ?_
    refine qse 1 [(0, pp b_x0), (5, pp b_468), (6, pp b_469), (7, pp b_471), (8, vi 1), (13, vi 2), (14, vi 1), (19, .slice A_447 ((([] : List Int) ++ ([v_442] : List Int)).length) c_448), (20, vi 1), (21, vi 1), (22, .bool false)] hs fun a hs => ?_
    refine Vk.seq fun K531 hK531 => ?_
    refine qcf hs ?_
    refine wp_exit ?_
    refine hK508 _ _ ?_
    clear hK508
    refine Vk.region ?_
    refine qpk 2 [0, 5, 6, 7, 13, 14] hs fun a hs => hKL505 _ _ ?_
    clear hKL505
    refine Vk.unroll fun KL532 hKL532 => ?_
    refine qsk 1 [0, 5, 6, 7, 13, 14, 15] hs fun a hs => ?_
    refine Vk.seq fun K534 hK534 => ?_
    refine qcf hs ?_
    refine wp_exit ?_
    refine hK472 _ _ ?_
    clear hK472
    refine qsr fun K535 hK535 => ?_
    refine qva (.agg (vals ((x1.set (0) (ci v_500.1)).set (1) (ci v_527.1)))) (op := (.load 28 (.tmp 7))) hs (fun o ho => run_loadN (cs := ((x1.set (0) (ci v_500.1)).set (1) (ci v_527.1))) ho (by kernel_rfl) (by kernel_rfl) (List.length_set.trans (List.length_set.trans h_361)) (CellsAt.all 1 rfl) _ hs.own) fun a hs => ?_
    refine Vk.step (Vk.storeA (b := b_469) (ty := 28) (x := (.tmp 6)) (y := (.tmp 38)) (sz := 3) ((x1.set (0) (ci v_500.1)).set (1) (ci v_527.1)) 2 hs (by kernel_rfl) (by kernel_rfl) (by kernel_rfl) (by kernel_rfl) (by kernel_rfl) (List.length_set.trans (List.length_set.trans h_361)) (by kernel_rfl) rfl (Eq.trans (b := 3) (List.length_set.trans (List.length_set.trans h_361)) (Eq.symm rfl)) fun a w hs => ?_)
    refine qpe 0 [(6, pp b_469)] hs fun a hs => hK535 _ _ ?_
    clear hK535
    refine wp_ret ?_
    refine hKP465 _ _ ?_
    refine hKR465 _ _ ?_
    refine Vk.retC (P := Try.prog) (fn := Try.f161) ((x1.set (0) (ci v_500.1)).set (1) (ci v_527.1)) hs rfl (by kernel_rfl) (sz := 3) (by kernel_rfl) (List.length_set.trans (List.length_set.trans h_361)) (CellsAt.all 2 rfl) ⟨_, _, _, rfl, hs.own, fun a hs => ?_⟩
    refine qal 28 [ci 0, ci 0, ci 0] 15 hs fun b_536 w a hs => ?_
    refine Vk.step (Vk.storeA (b := b_536) (ty := 28) (x := (.tmp 15)) (y := (.tmp 52)) (sz := 3) ((x1.set (0) (ci v_500.1)).set (1) (ci v_527.1)) 0 hs (by kernel_rfl) (by kernel_rfl) (by kernel_rfl) (by kernel_rfl) (by kernel_rfl) (List.length_set.trans (List.length_set.trans h_361)) (by kernel_rfl) rfl (Eq.trans (b := 3) (List.length_set.trans (List.length_set.trans h_361)) (Eq.symm rfl)) fun a w hs => ?_)
    refine qpk 0 [0, 8, 15] hs fun a hs => hK464 _ _ ?_
    clear hK464
    refine qsr fun K537 hK537 => ?_
    refine qpu 1 hs fun a hs => ?_
    obtain ⟨v_540, h_539, hm⟩ := bind_t hm
    refine qcl (wire_Machine_End.ok _ _ _ h_539 _ _ _ b_x0 hs.own.f1) hs fun w a hs => ?_
    refine qpk 0 [8, 15] hs fun a hs => hK537 _ _ ?_
    clear hK537
    refine qsr fun K541 hK541 => ?_
    refine qva (.agg (vals ((x1.set (0) (ci v_500.1)).set (1) (ci v_527.1)))) (op := (.load 28 (.tmp 15))) hs (fun o ho => run_loadN (cs := ((x1.set (0) (ci v_500.1)).set (1) (ci v_527.1))) ho (by kernel_rfl) (by kernel_rfl) (List.length_set.trans (List.length_set.trans h_361)) (CellsAt.all 1 rfl) _ hs.own) fun a hs => ?_
    refine Vk.step (Vk.storeA (b := b_370) (ty := 28) (x := (.tmp 8)) (y := (.tmp 55)) (sz := 3) ((x1.set (0) (ci v_500.1)).set (1) (ci v_527.1)) 12 hs (by kernel_rfl) (by kernel_rfl) (by kernel_rfl) (by kernel_rfl) (by kernel_rfl) (List.length_set.trans (List.length_set.trans h_361)) (by kernel_rfl) rfl (Eq.trans (b := 3) (List.length_set.trans (List.length_set.trans h_361)) (Eq.symm rfl)) fun a w hs => ?_)
    refine qpe 0 [(8, pp b_370)] hs fun a hs => hK541 _ _ ?_
    clear hK541
    refine wp_ret ?_
    refine hKP366 _ _ ?_
    refine hKR366 _ _ ?_
    refine Vk.retC (P := Try.prog) (fn := Try.f125) ((x1.set (0) (ci v_500.1)).set (1) (ci v_527.1)) hs rfl (by kernel_rfl) (sz := 3) (by kernel_rfl) (List.length_set.trans (List.length_set.trans h_361)) (CellsAt.all 12 rfl) ⟨_, _, _, rfl, hs.own, fun a hs => ?_⟩
    refine Vk.step (Vk.storeA (b := b_3) (ty := 28) (x := (.tmp 4)) (y := (.tmp 20)) (sz := 3) ((x1.set (0) (ci v_500.1)).set (1) (ci v_527.1)) 17 hs (by kernel_rfl) (by kernel_rfl) (by kernel_rfl) (by kernel_rfl) (by kernel_rfl) (List.length_set.trans (List.length_set.trans h_361)) (by kernel_rfl) rfl (Eq.trans (b := 3) (List.length_set.trans (List.length_set.trans h_361)) (Eq.symm rfl)) fun a w hs => ?_)
    refine qpe 0 [(4, pp b_3)] hs fun a hs => hK360 _ _ ?_
    clear hK360
    refine wp_ret ?_
    exact Vk.retC ((x1.set (0) (ci v_500.1)).set (1) (ci v_527.1)) hs rfl (by kernel_rfl) (sz := 3) (by kernel_rfl) (List.length_set.trans (List.length_set.trans h_361)) (CellsAt.all 17 rfl) (hRR ▸ by cases hm; exact ⟨rfl, (hs.own.too [0] 19)⟩)
   ·replace hm := bif_f hm hb
    cases hm
  ·replace hm := bif_f hm hb
   cases hm
 ·replace hm := bif_f hm hb
  rcases Bool.eq_false_or_eq_true (v_9 == 3) with hb | hb
  ·replace hm := bif_t hm hb
   obtain rfl := Vk.of_beq hb
   refine qpk 1 [0, 3, 4, 7] hs fun a hs => hK5 _ _ ?_
   refine qct hs ?_
   refine qsr fun K10 hK10 => ?_
   refine qpu 1 hs fun a hs => ?_
   obtain ⟨h_11, hm⟩ := ite_t hm
   refine qlw 2 hs rfl h_11 fun a hs => ?_
   refine Vk.step (Vk.buildOp (sz := 1) (by_ := 8) (t := 159) (e := 3) (parts := #[(0, (.const (vi 0))), (1, (.const (vi 1)))]) (zs := vals [ci 0]) ([0, 1] : List Int) (eI .i64) (some 10) hs (by kernel_rfl) (by kernel_rfl) (by kernel_rfl) (by kernel_rfl) (by decide) rfl (fun x _ => rfl) (Nat.le_of_ble_eq_true (by kernel_rfl)) (by kernel_rfl) fun A_12 w a hs => ?_)
   refine Vk.step (Vk.buildOp (sz := 1) (by_ := 8) (t := 159) (e := 3) (parts := #[(0, (.const (vi 0))), (1, (.const (vi 2)))]) (zs := vals [ci 0]) ([0, 2] : List Int) (eI .i64) (some 11) hs (by kernel_rfl) (by kernel_rfl) (by kernel_rfl) (by kernel_rfl) (by decide) rfl (fun x _ => rfl) (Nat.le_of_ble_eq_true (by kernel_rfl)) (by kernel_rfl) fun A_14 w a hs => ?_)
   refine Vk.step (Vk.buildOp (sz := 1) (by_ := 8) (t := 159) (e := 3) (parts := #[(0, (.const (vi 1))), (1, (.const (vi 2)))]) (zs := vals [ci 0]) ([1, 2] : List Int) (eI .i64) (some 12) hs (by kernel_rfl) (by kernel_rfl) (by kernel_rfl) (by kernel_rfl) (by decide) rfl (fun x _ => rfl) (Nat.le_of_ble_eq_true (by kernel_rfl)) (by kernel_rfl) fun A_16 w a hs => ?_)
   refine qpu 1 hs fun a hs => ?_
   refine Vk.step (Vk.call (some 14) 125 #[pp b_x0, .agg (vals x1), vi 3, .agg (vals ([C.slc A_12 (([0, 1] : List Int).length) 2, C.slc A_14 (([0, 2] : List Int).length) 2, C.slc A_16 (([1, 2] : List Int).length) 2]))] hs (by kernel_rfl) (by kernel_rfl) (by kernel_rfl) ?_)
   refine Vk.enterI [(0, pp b_x0), (1, .agg (vals x1)), (2, vi 3), (3, .agg (vals ([C.slc A_12 (([0, 1] : List Int).length) 2, C.slc A_14 (([0, 2] : List Int).length) 2, C.slc A_16 (([1, 2] : List Int).length) 2])))] Try.func125 rfl Try.ntmps125 (by kernel_rfl) (Nat.le_of_ble_eq_true (by kernel_rfl)) hs.own fun KR18 hKR18 hKP18 a hs => ?_
   refine qsr fun K19 hK19 => ?_
   refine qbx 1 28 x1 5 hs fun b_20 w a hs => ?_
   refine qbx 3 160 ([C.slc A_12 (([0, 1] : List Int).length) 2, C.slc A_14 (([0, 2] : List Int).length) 2, C.slc A_16 (([1, 2] : List Int).length) 2]) 7 hs fun b_21 w a hs => ?_
   refine qal 28 [ci 0, ci 0, ci 0] 8 hs fun b_22 w a hs => ?_
   refine qpk 0 [0, 2, 5, 7, 8] hs fun a hs => hK19 _ _ ?_
   clear hK19
   refine Vk.seq fun K23 hK23 => ?_
   refine qsr fun K24 hK24 => ?_
   refine qpu 1 hs fun a hs => ?_
   obtain ⟨v_27, h_26, hm⟩ := bind_t hm
   refine qcl (wire_Machine_N.ok _ _ _ h_26 _ _ _ b_x0 g_6 hs.own.f6) hs fun w a hs => ?_
   rcases Bool.eq_false_or_eq_true (v_27 == 3) with hb | hb
   ·replace hm := bif_t hm hb
    obtain rfl := Vk.of_beq hb
    refine qpk 1 [0, 2, 5, 7, 8, 18] hs fun a hs => hK24 _ _ ?_
    clear hK24
    refine qcf hs ?_
    refine wp_skip ?_
    refine hK23 _ _ ?_
    clear hK23
    refine qsr fun K28 hK28 => ?_
    refine qpu 1 hs fun a hs => ?_
    replace hs := hs.toEx (Twire_Machine.parts b_x0 x0) g_6 0 rfl
    obtain ⟨v_31, h_30, hm⟩ := bind_t hm
    refine qcl (wire_Machine_Begin.ok _ _ _ _ h_30 _ _ _ b_x0 hs.own) hs fun w a hs => ?_
    refine qpk 0 [0, 2, 5, 7, 8] hs fun a hs => hK28 _ _ ?_
    clear hK28
    refine qsr fun K32 hK32 => ?_
    refine qpu 2 hs fun a hs => ?_
    obtain ⟨v_35, h_34, hm⟩ := bind_t hm
    refine qcl (fresh_masks.ok _ _ _ _ h_34 _ _ _ b_x0 hs.own) hs fun w a hs => ?_
    refine qal 26 [ci 0, ci 0, ci 0] 9 hs fun b_36 w a hs => ?_
    obtain ⟨h_37, hm⟩ := ite_t hm
    refine qsb 0 v_35.1 hs rfl h_37 rfl fun a w hs => ?_
    refine qpk 0 [0, 5, 7, 8, 9] hs fun a hs => hK32 _ _ ?_
    clear hK32
    refine qsr fun K38 hK38 => ?_
    refine qal 160 [C.slc none 0 0, C.slc none 0 0, C.slc none 0 0] 10 hs fun b_39 w a hs => ?_
    refine qpe 0 [(0, pp b_x0), (5, pp b_20), (7, pp b_21), (8, pp b_22), (9, pp b_36), (10, pp b_39)] hs fun a hs => hK38 _ _ ?_
    clear hK38
    refine Vk.seq fun K40 hK40 => ?_
    refine qsr fun K41 hK41 => ?_
    refine qln 4 ([C.slc A_12 (([0, 1] : List Int).length) 2, C.slc A_14 (([0, 2] : List Int).length) 2, C.slc A_16 (([1, 2] : List Int).length) 2]) hs rfl fun a hs => ?_
    refine qpk 1 [0, 5, 8, 9, 10, 26, 27] hs fun a hs => hK41 _ _ ?_
    clear hK41
    refine wp_block ?_
    refine Vk.unroll0 40 ?_
    refine Vk.unroll fun KL42 hKL42 => ?_
    refine qsk 1 [0, 5, 8, 9, 10, 26, 27, 28] hs fun a hs => ?_
    refine qck hs ?_
    refine Vk.seq fun K45 hK45 => ?_
    refine wp_block ?_
    refine qsk 4 [0, 5, 8, 9, 10, 11, 12, 26, 27] hs fun a hs => ?_
    refine qsk 3 [0, 5, 8, 9, 10, 11, 26, 27, 31, 32, 33] hs fun a hs => ?_
    refine wp_block ?_
    refine Vk.unroll0 40 ?_
    refine Vk.unroll fun KL48 hKL48 => ?_
    refine qsk 1 [0, 5, 8, 9, 10, 11, 26, 27, 31, 32, 33, 34] hs fun a hs => ?_
    refine qck hs ?_
    refine Vk.seq fun K51 hK51 => ?_
    refine wp_block ?_
    refine qsr fun K52 hK52 => ?_
    obtain ⟨h_53, hm⟩ := ite_t hm
    obtain ⟨e_56, h_54, hm⟩ := bind_t hm
    obtain ⟨b_57, o_58, hA_59, h_55⟩ := Sl.elem (Ow.rowSl 0 (Ow.to (S' := rowp A_12 2 3 1 (eI .i64) ([0, 1] : List Int) :: S) hs.own [8] 11 (by kernel_rfl) (by kernel_rfl)) rfl) h_54
    refine qva (.pointer (some ⟨b_57, o_58 + 0 * 1, none⟩)) (op := (.indexAddr 159 (.tmp 31) (.tmp 33))) hs (fun o ho => run_idxSlc (k := .i64) ho (cap := 2) (len := ([0, 1] : List Int).length) ((congrArg (fun A => Value.slice A (([0, 1] : List Int).length) (2)) hA_59) ▸ (by kernel_rfl)) (by kernel_rfl) (by kernel_rfl) (idx_ok h_53 h_54) _) fun a hs => ?_
    refine qva (vi e_56) (op := (.load 3 (.tmp 35))) hs (fun o ho => run_load1 (c := ci e_56) ho (by kernel_rfl) (by kernel_rfl) (fun w ho => h_55 w ho 0 _ rfl) _ (Ow.to (S' := rowp A_12 2 3 1 (eI .i64) ([0, 1] : List Int) :: S) hs.own [8] 11 (by kernel_rfl) (by kernel_rfl))) fun a hs => ?_
    refine qpe 1 [(0, pp b_x0), (5, pp b_20), (8, pp b_22), (9, pp b_36), (10, pp b_39), (11, vi 0), (14, vi e_56), (26, .agg (vals ([C.slc A_12 (([0, 1] : List Int).length) 2, C.slc A_14 (([0, 2] : List Int).length) 2, C.slc A_16 (([1, 2] : List Int).length) 2]))), (27, vi 0), (31, .slice A_12 (([0, 1] : List Int).length) 2), (32, vi 2), (33, vi 0)] hs fun a hs => hK52 _ _ ?_
    clear hK52
    obtain ⟨C_60, hC_60⟩ := qC hs.own
    refine qdr 10 κ C_60 hs fun w hs hqC_60 => ?_
    have hcl := qO hC_60 hs.own
    refine qdp (fuel := 7) [0, 1, 2, 4] hs hcl hqC_60 fun a hs => ?_
    refine qdl 3 0 (C.slc none 0 0) hs hcl hqC_60 hC_60 rfl fun a hs => ?_
    obtain ⟨h_61, hm⟩ := ite_t hm
    refine qdx 5 b_36 0 1 hs hcl hqC_60 h_61 fun a hs => ?_
    obtain ⟨v_63, h_62, hm⟩ := bind_t hm
    refine qdi 6 1 hs hcl hqC_60 hC_60 rfl h_62 fun a hs => ?_
    refine Vk.dOnly (i := 7) (by kernel_rfl) (Vk.buildOp (sz := 1) (by_ := 8) (t := 159) (e := 3) (parts := #[(0, (.tmp 43))]) (zs := vals [ci 0]) ([v_63] : List Int) (eI .i64) (some 44) hs (by kernel_rfl) (by kernel_rfl) (by kernel_rfl) (by kernel_rfl) (by decide) rfl (fun x _ => rfl) (Nat.le_of_ble_eq_true (by kernel_rfl)) (by kernel_rfl) fun A_64 w a hs => ?_)
    replace hcl := qO hC_60 hs.own.drop
    refine ⟨fun _ => hcl, ?_⟩
    replace hs := hs.addRow none 3 1 (eI .i64)
    obtain ⟨h_67, hm⟩ := ite_t hm
    refine Vk.dOnly (i := 8) (by kernel_rfl) (Vk.appendOp (x := (.tmp 40)) (y := (.tmp 44)) (e := 3) (t := 159) (by_ := 8) (sz := 1) (enc := (eI .i64)) (A := none) (cap := 0) (xs := ([] : List Int)) (ys := ([v_63] : List Int)) (B := A_64) (c2 := 1) 0 (some 45) hs (by kernel_rfl) (by kernel_rfl) (by kernel_rfl) (by kernel_rfl) rfl (Sl.lift (fun w ho => (Ow.to (S' := rowp A_64 1 3 1 (eI .i64) ([v_63] : List Int) :: S) ho [1] 13 (by kernel_rfl) (by kernel_rfl))) (Ow.rowSl 0 (Ow.to (S' := rowp A_64 1 3 1 (eI .i64) ([v_63] : List Int) :: S) hs.own [1] 13 (by kernel_rfl) (by kernel_rfl)) rfl)) (by kernel_rfl) (by kernel_rfl) (by decide) (by decide) h_67 fun A_68 c_69 w a hs => ?_)
    replace hcl := qO hC_60 hs.own.f1.drop.drop
    refine ⟨fun _ => hcl, ?_⟩
    refine qdp (fuel := 1) [9] hs hcl hqC_60 fun a hs => ?_
    refine qsd 10 2 0 (C.slc A_68 ((([] : List Int) ++ ([v_63] : List Int)).length) c_69) hs rfl fun a w hs => ?_
    refine ⟨fun h => absurd h (by decide), ?_⟩
    replace hs := hs.pick [0, 5, 8, 9, 10, 11, 26, 27, 31, 32, 33] (L' := [(0, pp b_x0), (5, pp b_20), (8, pp b_22), (9, pp b_36), (10, pp b_39), (11, vi 0), (26, .agg (vals ([C.slc A_12 (([0, 1] : List Int).length) 2, C.slc A_14 (([0, 2] : List Int).length) 2, C.slc A_16 (([1, 2] : List Int).length) 2]))), (27, vi 0), (31, .slice A_12 (([0, 1] : List Int).length) 2), (32, vi 2), (33, vi 0)]) (by kernel_rfl)
    refine Vk.dDone (by kernel_rfl) ?_
    refine hK51 _ _ ?_
    clear hK51
    refine Vk.region ?_
    refine qpk 2 [0, 5, 8, 9, 10, 11, 26, 27, 31, 32, 33] hs fun a hs => hKL48 _ _ ?_
    clear hKL48
    refine Vk.unroll fun KL70 hKL70 => ?_
    refine qsk 1 [0, 5, 8, 9, 10, 11, 26, 27, 31, 32, 33, 34] hs fun a hs => ?_
    refine qck hs ?_
    refine Vk.seq fun K73 hK73 => ?_
    refine wp_block ?_
    refine qsr fun K74 hK74 => ?_
    obtain ⟨h_75, hm⟩ := ite_t hm
    obtain ⟨e_78, h_76, hm⟩ := bind_t hm
    obtain ⟨b_79, o_80, hA_81, h_77⟩ := Sl.elem (Ow.rowSl 0 (Ow.to (S' := rowp A_12 2 3 1 (eI .i64) ([0, 1] : List Int) :: S) hs.own [10] 13 (by kernel_rfl) (by kernel_rfl)) rfl) h_76
    refine qva (.pointer (some ⟨b_79, o_80 + 1 * 1, none⟩)) (op := (.indexAddr 159 (.tmp 31) (.tmp 33))) hs (fun o ho => run_idxSlc (k := .i64) ho (cap := 2) (len := ([0, 1] : List Int).length) ((congrArg (fun A => Value.slice A (([0, 1] : List Int).length) (2)) hA_81) ▸ (by kernel_rfl)) (by kernel_rfl) (by kernel_rfl) (idx_ok h_75 h_76) _) fun a hs => ?_
    refine qva (vi e_78) (op := (.load 3 (.tmp 35))) hs (fun o ho => run_load1 (c := ci e_78) ho (by kernel_rfl) (by kernel_rfl) (fun w ho => h_77 w ho 0 _ rfl) _ (Ow.to (S' := rowp A_12 2 3 1 (eI .i64) ([0, 1] : List Int) :: S) hs.own [10] 13 (by kernel_rfl) (by kernel_rfl))) fun a hs => ?_
    refine qpk 1 [0, 5, 8, 9, 10, 11, 14, 26, 27, 31, 32, 33] hs fun a hs => hK74 _ _ ?_
    clear hK74
    obtain ⟨C_82, hC_82⟩ := qC hs.own.drop
    refine qdr 10 κ C_82 hs fun w hs hqC_82 => ?_
    have hcl := qO hC_82 hs.own.drop
    refine qdp (fuel := 7) [0, 1, 2, 4] hs hcl hqC_82 fun a hs => ?_
    refine qdl 3 1 (C.slc A_68 ((([] : List Int) ++ ([v_63] : List Int)).length) c_69) hs hcl hqC_82 hC_82 rfl fun a hs => ?_
    obtain ⟨h_83, hm⟩ := ite_t hm
    refine qdx 5 b_36 0 1 hs hcl hqC_82 h_83 fun a hs => ?_
    obtain ⟨v_85, h_84, hm⟩ := bind_t hm
    refine qdi 6 2 hs hcl hqC_82 hC_82 rfl h_84 fun a hs => ?_
    refine Vk.dOnly (i := 7) (by kernel_rfl) (Vk.buildOp (sz := 1) (by_ := 8) (t := 159) (e := 3) (parts := #[(0, (.tmp 43))]) (zs := vals [ci 0]) ([v_85] : List Int) (eI .i64) (some 44) hs (by kernel_rfl) (by kernel_rfl) (by kernel_rfl) (by kernel_rfl) (by decide) rfl (fun x _ => rfl) (Nat.le_of_ble_eq_true (by kernel_rfl)) (by kernel_rfl) fun A_86 w a hs => ?_)
    replace hcl := qO hC_82 hs.own.f1.drop.drop
    refine ⟨fun _ => hcl, ?_⟩
    obtain ⟨h_88, hm⟩ := ite_t hm
    refine Vk.dOnly (i := 8) (by kernel_rfl) (Vk.appendOp (x := (.tmp 40)) (y := (.tmp 44)) (e := 3) (t := 159) (by_ := 8) (sz := 1) (enc := (eI .i64)) (A := A_68) (cap := c_69) (xs := ([] : List Int) ++ ([v_63] : List Int)) (ys := ([v_85] : List Int)) (B := A_86) (c2 := 1) 1 (some 45) hs (by kernel_rfl) (by kernel_rfl) (by kernel_rfl) (by kernel_rfl) rfl (Sl.lift (fun w ho => (Ow.to (S' := rowp A_86 1 3 1 (eI .i64) ([v_85] : List Int) :: S) ho [0] 14 (by kernel_rfl) (by kernel_rfl))) (Ow.rowSl 0 (Ow.to (S' := rowp A_86 1 3 1 (eI .i64) ([v_85] : List Int) :: S) hs.own [0] 14 (by kernel_rfl) (by kernel_rfl)) rfl)) (by kernel_rfl) (by kernel_rfl) (by decide) (by decide) h_88 fun A_89 c_90 w a hs => ?_)
    replace hcl := qO hC_82 hs.own.f1.drop.drop
    refine ⟨fun _ => hcl, ?_⟩
    refine qdp (fuel := 1) [9] hs hcl hqC_82 fun a hs => ?_
    refine qsd 10 3 0 (C.slc A_89 (((([] : List Int) ++ ([v_63] : List Int)) ++ ([v_85] : List Int)).length) c_90) hs rfl fun a w hs => ?_
    refine ⟨fun h => absurd h (by decide), ?_⟩
    replace hs := hs.pick [0, 5, 8, 9, 10, 11, 26, 27, 31, 32, 33] (L' := [(0, pp b_x0), (5, pp b_20), (8, pp b_22), (9, pp b_36), (10, pp b_39), (11, vi 0), (26, .agg (vals ([C.slc A_12 (([0, 1] : List Int).length) 2, C.slc A_14 (([0, 2] : List Int).length) 2, C.slc A_16 (([1, 2] : List Int).length) 2]))), (27, vi 0), (31, .slice A_12 (([0, 1] : List Int).length) 2), (32, vi 2), (33, vi 1)]) (by kernel_rfl)
    refine Vk.dDone (by kernel_rfl) ?_
    refine hK73 _ _ ?_
    clear hK73
    refine Vk.region ?_
    refine qpk 2 [0, 5, 8, 9, 10, 11, 26, 27, 31, 32, 33] hs fun a hs => hKL70 _ _ ?_
    clear hKL70
    refine Vk.unroll fun KL91 hKL91 => ?_
    refine qsk 1 [0, 5, 8, 9, 10, 11, 26, 27, 31, 32, 33, 34] hs fun a hs => ?_
    refine Vk.seq fun K93 hK93 => ?_
    refine qcf hs ?_
    refine wp_exit ?_
    refine hK45 _ _ ?_
    clear hK45
    refine Vk.region ?_
    refine qpe 2 [(0, pp b_x0), (5, pp b_20), (8, pp b_22), (9, pp b_36), (10, pp b_39), (26, .agg (vals ([C.slc A_12 (([0, 1] : List Int).length) 2, C.slc A_14 (([0, 2] : List Int).length) 2, C.slc A_16 (([1, 2] : List Int).length) 2]))), (27, vi 1)] hs fun a hs => hKL42 _ _ ?_
    clear hKL42
    refine Vk.unroll fun KL94 hKL94 => ?_
    refine qsk 1 [0, 5, 8, 9, 10, 26, 27, 28] hs fun a hs => ?_
    refine qck hs ?_
    refine Vk.seq fun K97 hK97 => ?_
    refine wp_block ?_
    refine qsk 4 [0, 5, 8, 9, 10, 11, 12, 26, 27] hs fun a hs => ?_
    refine qsk 3 [0, 5, 8, 9, 10, 11, 26, 27, 31, 32, 33] hs fun a hs => ?_
    refine wp_block ?_
    refine Vk.unroll0 40 ?_
    refine Vk.unroll fun KL100 hKL100 => ?_
    refine qsk 1 [0, 5, 8, 9, 10, 11, 26, 27, 31, 32, 33, 34] hs fun a hs => ?_
    refine qck hs ?_
    refine Vk.seq fun K103 hK103 => ?_
    refine wp_block ?_
    refine qsr fun K104 hK104 => ?_
    obtain ⟨h_105, hm⟩ := ite_t hm
    obtain ⟨e_108, h_106, hm⟩ := bind_t hm
    obtain ⟨b_109, o_110, hA_111, h_107⟩ := Sl.elem (Ow.rowSl 0 (Ow.to (S' := rowp A_14 2 3 1 (eI .i64) ([0, 2] : List Int) :: S) hs.own [10] 14 (by kernel_rfl) (by kernel_rfl)) rfl) h_106
    refine qva (.pointer (some ⟨b_109, o_110 + 0 * 1, none⟩)) (op := (.indexAddr 159 (.tmp 31) (.tmp 33))) hs (fun o ho => run_idxSlc (k := .i64) ho (cap := 2) (len := ([0, 2] : List Int).length) ((congrArg (fun A => Value.slice A (([0, 2] : List Int).length) (2)) hA_111) ▸ (by kernel_rfl)) (by kernel_rfl) (by kernel_rfl) (idx_ok h_105 h_106) _) fun a hs => ?_
    refine qva (vi e_108) (op := (.load 3 (.tmp 35))) hs (fun o ho => run_load1 (c := ci e_108) ho (by kernel_rfl) (by kernel_rfl) (fun w ho => h_107 w ho 0 _ rfl) _ (Ow.to (S' := rowp A_14 2 3 1 (eI .i64) ([0, 2] : List Int) :: S) hs.own [10] 14 (by kernel_rfl) (by kernel_rfl))) fun a hs => ?_
    refine qpk 1 [0, 5, 8, 9, 10, 11, 14, 26, 27, 31, 32, 33] hs fun a hs => hK104 _ _ ?_
    clear hK104
    obtain ⟨C_112, hC_112⟩ := qC hs.own
    refine qdr 10 κ C_112 hs fun w hs hqC_112 => ?_
    have hcl := qO hC_112 hs.own
    refine qdp (fuel := 7) [0, 1, 2, 4] hs hcl hqC_112 fun a hs => ?_
    refine qdl 3 3 (C.slc none 0 0) hs hcl hqC_112 hC_112 rfl fun a hs => ?_
    obtain ⟨h_113, hm⟩ := ite_t hm
    refine qdx 5 b_36 0 1 hs hcl hqC_112 h_113 fun a hs => ?_
    obtain ⟨v_115, h_114, hm⟩ := bind_t hm
    refine qdi 6 4 hs hcl hqC_112 hC_112 rfl h_114 fun a hs => ?_
    refine Vk.dOnly (i := 7) (by kernel_rfl) (Vk.buildOp (sz := 1) (by_ := 8) (t := 159) (e := 3) (parts := #[(0, (.tmp 43))]) (zs := vals [ci 0]) ([v_115] : List Int) (eI .i64) (some 44) hs (by kernel_rfl) (by kernel_rfl) (by kernel_rfl) (by kernel_rfl) (by decide) rfl (fun x _ => rfl) (Nat.le_of_ble_eq_true (by kernel_rfl)) (by kernel_rfl) fun A_116 w a hs => ?_)
    replace hcl := qO hC_112 hs.own.drop
    refine ⟨fun _ => hcl, ?_⟩
    replace hs := hs.addRow none 3 1 (eI .i64)
    obtain ⟨h_119, hm⟩ := ite_t hm
    refine Vk.dOnly (i := 8) (by kernel_rfl) (Vk.appendOp (x := (.tmp 40)) (y := (.tmp 44)) (e := 3) (t := 159) (by_ := 8) (sz := 1) (enc := (eI .i64)) (A := none) (cap := 0) (xs := ([] : List Int)) (ys := ([v_115] : List Int)) (B := A_116) (c2 := 1) 0 (some 45) hs (by kernel_rfl) (by kernel_rfl) (by kernel_rfl) (by kernel_rfl) rfl (Sl.lift (fun w ho => (Ow.to (S' := rowp A_116 1 3 1 (eI .i64) ([v_115] : List Int) :: S) ho [1] 16 (by kernel_rfl) (by kernel_rfl))) (Ow.rowSl 0 (Ow.to (S' := rowp A_116 1 3 1 (eI .i64) ([v_115] : List Int) :: S) hs.own [1] 16 (by kernel_rfl) (by kernel_rfl)) rfl)) (by kernel_rfl) (by kernel_rfl) (by decide) (by decide) h_119 fun A_120 c_121 w a hs => ?_)
    replace hcl := qO hC_112 hs.own.f1.drop.drop
    refine ⟨fun _ => hcl, ?_⟩
    refine qdp (fuel := 1) [9] hs hcl hqC_112 fun a hs => ?_
    refine qsd 10 5 1 (C.slc A_120 ((([] : List Int) ++ ([v_115] : List Int)).length) c_121) hs rfl fun a w hs => ?_
    refine ⟨fun h => absurd h (by decide), ?_⟩
    replace hs := hs.pick [0, 5, 8, 9, 10, 11, 26, 27, 31, 32, 33] (L' := [(0, pp b_x0), (5, pp b_20), (8, pp b_22), (9, pp b_36), (10, pp b_39), (11, vi 1), (26, .agg (vals ([C.slc A_12 (([0, 1] : List Int).length) 2, C.slc A_14 (([0, 2] : List Int).length) 2, C.slc A_16 (([1, 2] : List Int).length) 2]))), (27, vi 1), (31, .slice A_14 (([0, 2] : List Int).length) 2), (32, vi 2), (33, vi 0)]) (by kernel_rfl)
    refine Vk.dDone (by kernel_rfl) ?_
    refine hK103 _ _ ?_
    clear hK103
    refine Vk.region ?_
    refine qpe 2 [(0, pp b_x0), (5, pp b_20), (8, pp b_22), (9, pp b_36), (10, pp b_39), (11, vi 1), (26, .agg (vals ([C.slc A_12 (([0, 1] : List Int).length) 2, C.slc A_14 (([0, 2] : List Int).length) 2, C.slc A_16 (([1, 2] : List Int).length) 2]))), (27, vi 1), (31, .slice A_14 (([0, 2] : List Int).length) 2), (32, vi 2), (33, vi 1)] hs fun a hs => hKL100 _ _ ?_
    clear hKL100
    refine Vk.unroll fun KL122 hKL122 => ?_
    refine qsk 1 [0, 5, 8, 9, 10, 11, 26, 27, 31, 32, 33, 34] hs fun a hs => ?_
    refine qck hs ?_
    refine Vk.seq fun K125 hK125 => ?_
    refine wp_block ?_
    refine qsr fun K126 hK126 => ?_
    obtain ⟨h_127, hm⟩ := ite_t hm
    obtain ⟨e_130, h_128, hm⟩ := bind_t hm
    obtain ⟨b_131, o_132, hA_133, h_129⟩ := Sl.elem (Ow.rowSl 0 (Ow.to (S' := rowp A_14 2 3 1 (eI .i64) ([0, 2] : List Int) :: S) hs.own [12] 16 (by kernel_rfl) (by kernel_rfl)) rfl) h_128
    refine qva (.pointer (some ⟨b_131, o_132 + 1 * 1, none⟩)) (op := (.indexAddr 159 (.tmp 31) (.tmp 33))) hs (fun o ho => run_idxSlc (k := .i64) ho (cap := 2) (len := ([0, 2] : List Int).length) ((congrArg (fun A => Value.slice A (([0, 2] : List Int).length) (2)) hA_133) ▸ (by kernel_rfl)) (by kernel_rfl) (by kernel_rfl) (idx_ok h_127 h_128) _) fun a hs => ?_
    refine qva (vi e_130) (op := (.load 3 (.tmp 35))) hs (fun o ho => run_load1 (c := ci e_130) ho (by kernel_rfl) (by kernel_rfl) (fun w ho => h_129 w ho 0 _ rfl) _ (Ow.to (S' := rowp A_14 2 3 1 (eI .i64) ([0, 2] : List Int) :: S) hs.own [12] 16 (by kernel_rfl) (by kernel_rfl))) fun a hs => ?_
    refine qpk 1 [0, 5, 8, 9, 10, 11, 14, 26, 27, 31, 32, 33] hs fun a hs => hK126 _ _ ?_
    clear hK126
    obtain ⟨C_134, hC_134⟩ := qC hs.own.drop
    refine qdr 10 κ C_134 hs fun w hs hqC_134 => ?_
    have hcl := qO hC_134 hs.own.drop
    refine qdp (fuel := 7) [0, 1, 2, 4] hs hcl hqC_134 fun a hs => ?_
    refine qdl 3 4 (C.slc A_120 ((([] : List Int) ++ ([v_115] : List Int)).length) c_121) hs hcl hqC_134 hC_134 rfl fun a hs => ?_
    obtain ⟨h_135, hm⟩ := ite_t hm
    refine qdx 5 b_36 0 1 hs hcl hqC_134 h_135 fun a hs => ?_
    obtain ⟨v_137, h_136, hm⟩ := bind_t hm
    refine qdi 6 5 hs hcl hqC_134 hC_134 rfl h_136 fun a hs => ?_
    refine Vk.dOnly (i := 7) (by kernel_rfl) (Vk.buildOp (sz := 1) (by_ := 8) (t := 159) (e := 3) (parts := #[(0, (.tmp 43))]) (zs := vals [ci 0]) ([v_137] : List Int) (eI .i64) (some 44) hs (by kernel_rfl) (by kernel_rfl) (by kernel_rfl) (by kernel_rfl) (by decide) rfl (fun x _ => rfl) (Nat.le_of_ble_eq_true (by kernel_rfl)) (by kernel_rfl) fun A_138 w a hs => ?_)
    replace hcl := qO hC_134 hs.own.f1.drop.drop
    refine ⟨fun _ => hcl, ?_⟩
    obtain ⟨h_140, hm⟩ := ite_t hm
    refine Vk.dOnly (i := 8) (by kernel_rfl) (Vk.appendOp (x := (.tmp 40)) (y := (.tmp 44)) (e := 3) (t := 159) (by_ := 8) (sz := 1) (enc := (eI .i64)) (A := A_120) (cap := c_121) (xs := ([] : List Int) ++ ([v_115] : List Int)) (ys := ([v_137] : List Int)) (B := A_138) (c2 := 1) 1 (some 45) hs (by kernel_rfl) (by kernel_rfl) (by kernel_rfl) (by kernel_rfl) rfl (Sl.lift (fun w ho => (Ow.to (S' := rowp A_138 1 3 1 (eI .i64) ([v_137] : List Int) :: S) ho [0] 17 (by kernel_rfl) (by kernel_rfl))) (Ow.rowSl 0 (Ow.to (S' := rowp A_138 1 3 1 (eI .i64) ([v_137] : List Int) :: S) hs.own [0] 17 (by kernel_rfl) (by kernel_rfl)) rfl)) (by kernel_rfl) (by kernel_rfl) (by decide) (by decide) h_140 fun A_141 c_142 w a hs => ?_)
    replace hcl := qO hC_134 hs.own.f1.drop.drop
    refine ⟨fun _ => hcl, ?_⟩
    refine qdp (fuel := 1) [9] hs hcl hqC_134 fun a hs => ?_
    refine qsd 10 6 1 (C.slc A_141 (((([] : List Int) ++ ([v_115] : List Int)) ++ ([v_137] : List Int)).length) c_142) hs rfl fun a w hs => ?_
    refine ⟨fun h => absurd h (by decide), ?_⟩
    replace hs := hs.pick [0, 5, 8, 9, 10, 11, 26, 27, 31, 32, 33] (L' := [(0, pp b_x0), (5, pp b_20), (8, pp b_22), (9, pp b_36), (10, pp b_39), (11, vi 1), (26, .agg (vals ([C.slc A_12 (([0, 1] : List Int).length) 2, C.slc A_14 (([0, 2] : List Int).length) 2, C.slc A_16 (([1, 2] : List Int).length) 2]))), (27, vi 1), (31, .slice A_14 (([0, 2] : List Int).length) 2), (32, vi 2), (33, vi 1)]) (by kernel_rfl)
    refine Vk.dDone (by kernel_rfl) ?_
    refine hK125 _ _ ?_
    clear hK125
    refine Vk.region ?_
    refine qpk 2 [0, 5, 8, 9, 10, 11, 26, 27, 31, 32, 33] hs fun a hs => hKL122 _ _ ?_
    clear hKL122
    refine Vk.unroll fun KL143 hKL143 => ?_
    refine qsk 1 [0, 5, 8, 9, 10, 11, 26, 27, 31, 32, 33, 34] hs fun a hs => ?_
    refine Vk.seq fun K145 hK145 => ?_
    refine qcf hs ?_
    refine wp_exit ?_
    refine hK97 _ _ ?_
    clear hK97
    refine Vk.region ?_
    refine qpk 2 [0, 5, 8, 9, 10, 26, 27] hs fun a hs => hKL94 _ _ ?_
    clear hKL94
    refine Vk.unroll fun KL146 hKL146 => ?_
    refine qse 1 [(0, pp b_x0), (5, pp b_20), (8, pp b_22), (9, pp b_36), (10, pp b_39), (26, .agg (vals ([C.slc A_12 (([0, 1] : List Int).length) 2, C.slc A_14 (([0, 2] : List Int).length) 2, C.slc A_16 (([1, 2] : List Int).length) 2]))), (27, vi 2), (28, .bool true)] hs fun a hs => ?_
    refine qck hs ?_
    refine Vk.seq fun K149 hK149 => ?_
    refine wp_block ?_
    refine qsk 4 [0, 5, 8, 9, 10, 11, 12, 26, 27] hs fun a hs => ?_
    refine qsk 3 [0, 5, 8, 9, 10, 11, 26, 27, 31, 32, 33] hs fun a hs => ?_
    refine wp_block ?_
    refine Vk.unroll0 40 ?_
    refine Vk.unroll fun KL152 hKL152 => ?_
    refine qsk 1 [0, 5, 8, 9, 10, 11, 26, 27, 31, 32, 33, 34] hs fun a hs => ?_
    refine qck hs ?_
    refine Vk.seq fun K155 hK155 => ?_
    refine wp_block ?_
    refine qsr fun K156 hK156 => ?_
    obtain ⟨h_157, hm⟩ := ite_t hm
    obtain ⟨e_160, h_158, hm⟩ := bind_t hm
    obtain ⟨b_161, o_162, hA_163, h_159⟩ := Sl.elem (Ow.rowSl 0 (Ow.to (S' := rowp A_16 2 3 1 (eI .i64) ([1, 2] : List Int) :: S) hs.own [12] 17 (by kernel_rfl) (by kernel_rfl)) rfl) h_158
    refine qva (.pointer (some ⟨b_161, o_162 + 0 * 1, none⟩)) (op := (.indexAddr 159 (.tmp 31) (.tmp 33))) hs (fun o ho => run_idxSlc (k := .i64) ho (cap := 2) (len := ([1, 2] : List Int).length) ((congrArg (fun A => Value.slice A (([1, 2] : List Int).length) (2)) hA_163) ▸ (by kernel_rfl)) (by kernel_rfl) (by kernel_rfl) (idx_ok h_157 h_158) _) fun a hs => ?_
    refine qva (vi e_160) (op := (.load 3 (.tmp 35))) hs (fun o ho => run_load1 (c := ci e_160) ho (by kernel_rfl) (by kernel_rfl) (fun w ho => h_159 w ho 0 _ rfl) _ (Ow.to (S' := rowp A_16 2 3 1 (eI .i64) ([1, 2] : List Int) :: S) hs.own [12] 17 (by kernel_rfl) (by kernel_rfl))) fun a hs => ?_
    refine qpk 1 [0, 5, 8, 9, 10, 11, 14, 26, 27, 31, 32, 33] hs fun a hs => hK156 _ _ ?_
    clear hK156
    obtain ⟨C_164, hC_164⟩ := qC hs.own
    refine qdr 10 κ C_164 hs fun w hs hqC_164 => ?_
    have hcl := qO hC_164 hs.own
    refine qdp (fuel := 7) [0, 1, 2, 4] hs hcl hqC_164 fun a hs => ?_
    refine qdl 3 6 (C.slc none 0 0) hs hcl hqC_164 hC_164 rfl fun a hs => ?_
    obtain ⟨h_165, hm⟩ := ite_t hm
    refine qdx 5 b_36 0 1 hs hcl hqC_164 h_165 fun a hs => ?_
    obtain ⟨v_167, h_166, hm⟩ := bind_t hm
    refine qdi 6 7 hs hcl hqC_164 hC_164 rfl h_166 fun a hs => ?_
    refine Vk.dOnly (i := 7) (by kernel_rfl) (Vk.buildOp (sz := 1) (by_ := 8) (t := 159) (e := 3) (parts := #[(0, (.tmp 43))]) (zs := vals [ci 0]) ([v_167] : List Int) (eI .i64) (some 44) hs (by kernel_rfl) (by kernel_rfl) (by kernel_rfl) (by kernel_rfl) (by decide) rfl (fun x _ => rfl) (Nat.le_of_ble_eq_true (by kernel_rfl)) (by kernel_rfl) fun A_168 w a hs => ?_)
    replace hcl := qO hC_164 hs.own.drop
    refine ⟨fun _ => hcl, ?_⟩
    replace hs := hs.addRow none 3 1 (eI .i64)
    obtain ⟨h_171, hm⟩ := ite_t hm
    refine Vk.dOnly (i := 8) (by kernel_rfl) (Vk.appendOp (x := (.tmp 40)) (y := (.tmp 44)) (e := 3) (t := 159) (by_ := 8) (sz := 1) (enc := (eI .i64)) (A := none) (cap := 0) (xs := ([] : List Int)) (ys := ([v_167] : List Int)) (B := A_168) (c2 := 1) 0 (some 45) hs (by kernel_rfl) (by kernel_rfl) (by kernel_rfl) (by kernel_rfl) rfl (Sl.lift (fun w ho => (Ow.to (S' := rowp A_168 1 3 1 (eI .i64) ([v_167] : List Int) :: S) ho [1] 19 (by kernel_rfl) (by kernel_rfl))) (Ow.rowSl 0 (Ow.to (S' := rowp A_168 1 3 1 (eI .i64) ([v_167] : List Int) :: S) hs.own [1] 19 (by kernel_rfl) (by kernel_rfl)) rfl)) (by kernel_rfl) (by kernel_rfl) (by decide) (by decide) h_171 fun A_172 c_173 w a hs => ?_)
    replace hcl := qO hC_164 hs.own.f1.drop.drop
    refine ⟨fun _ => hcl, ?_⟩
    refine qdp (fuel := 1) [9] hs hcl hqC_164 fun a hs => ?_
    refine qsd 10 8 2 (C.slc A_172 ((([] : List Int) ++ ([v_167] : List Int)).length) c_173) hs rfl fun a w hs => ?_
    refine ⟨fun h => absurd h (by decide), ?_⟩
    replace hs := hs.pick [0, 5, 8, 9, 10, 11, 26, 27, 31, 32, 33] (L' := [(0, pp b_x0), (5, pp b_20), (8, pp b_22), (9, pp b_36), (10, pp b_39), (11, vi 2), (26, .agg (vals ([C.slc A_12 (([0, 1] : List Int).length) 2, C.slc A_14 (([0, 2] : List Int).length) 2, C.slc A_16 (([1, 2] : List Int).length) 2]))), (27, vi 2), (31, .slice A_16 (([1, 2] : List Int).length) 2), (32, vi 2), (33, vi 0)]) (by kernel_rfl)
    refine Vk.dDone (by kernel_rfl) ?_
    refine hK155 _ _ ?_
    clear hK155
    refine Vk.region ?_
    refine qpk 2 [0, 5, 8, 9, 10, 11, 26, 27, 31, 32, 33] hs fun a hs => hKL152 _ _ ?_
    clear hKL152
    refine Vk.unroll fun KL174 hKL174 => ?_
    refine qse 1 [(0, pp b_x0), (5, pp b_20), (8, pp b_22), (9, pp b_36), (10, pp b_39), (11, vi 2), (26, .agg (vals ([C.slc A_12 (([0, 1] : List Int).length) 2, C.slc A_14 (([0, 2] : List Int).length) 2, C.slc A_16 (([1, 2] : List Int).length) 2]))), (27, vi 2), (31, .slice A_16 (([1, 2] : List Int).length) 2), (32, vi 2), (33, vi 1), (34, .bool true)] hs fun a hs => ?_
    refine qck hs ?_
    refine Vk.seq fun K177 hK177 => ?_
    refine wp_block ?_
    refine qsr fun K178 hK178 => ?_
    obtain ⟨h_179, hm⟩ := ite_t hm
    obtain ⟨e_182, h_180, hm⟩ := bind_t hm
    obtain ⟨b_183, o_184, hA_185, h_181⟩ := Sl.elem (Ow.rowSl 0 (Ow.to (S' := rowp A_16 2 3 1 (eI .i64) ([1, 2] : List Int) :: S) hs.own [14] 19 (by kernel_rfl) (by kernel_rfl)) rfl) h_180
    refine qva (.pointer (some ⟨b_183, o_184 + 1 * 1, none⟩)) (op := (.indexAddr 159 (.tmp 31) (.tmp 33))) hs (fun o ho => run_idxSlc (k := .i64) ho (cap := 2) (len := ([1, 2] : List Int).length) ((congrArg (fun A => Value.slice A (([1, 2] : List Int).length) (2)) hA_185) ▸ (by kernel_rfl)) (by kernel_rfl) (by kernel_rfl) (idx_ok h_179 h_180) _) fun a hs => ?_
    refine qva (vi e_182) (op := (.load 3 (.tmp 35))) hs (fun o ho => run_load1 (c := ci e_182) ho (by kernel_rfl) (by kernel_rfl) (fun w ho => h_181 w ho 0 _ rfl) _ (Ow.to (S' := rowp A_16 2 3 1 (eI .i64) ([1, 2] : List Int) :: S) hs.own [14] 19 (by kernel_rfl) (by kernel_rfl))) fun a hs => ?_
    refine qpk 1 [0, 5, 8, 9, 10, 11, 14, 26, 27, 31, 32, 33] hs fun a hs => hK178 _ _ ?_
    clear hK178
    obtain ⟨C_186, hC_186⟩ := qC hs.own.drop
    refine qdr 10 κ C_186 hs fun w hs hqC_186 => ?_
    have hcl := qO hC_186 hs.own.drop
    refine qdp (fuel := 7) [0, 1, 2, 4] hs hcl hqC_186 fun a hs => ?_
    refine qdl 3 7 (C.slc A_172 ((([] : List Int) ++ ([v_167] : List Int)).length) c_173) hs hcl hqC_186 hC_186 rfl fun a hs => ?_
    obtain ⟨h_187, hm⟩ := ite_t hm
    refine qdx 5 b_36 0 1 hs hcl hqC_186 h_187 fun a hs => ?_
    obtain ⟨v_189, h_188, hm⟩ := bind_t hm
    refine qdi 6 8 hs hcl hqC_186 hC_186 rfl h_188 fun a hs => ?_
    refine Vk.dOnly (i := 7) (by kernel_rfl) (Vk.buildOp (sz := 1) (by_ := 8) (t := 159) (e := 3) (parts := #[(0, (.tmp 43))]) (zs := vals [ci 0]) ([v_189] : List Int) (eI .i64) (some 44) hs (by kernel_rfl) (by kernel_rfl) (by kernel_rfl) (by kernel_rfl) (by decide) rfl (fun x _ => rfl) (Nat.le_of_ble_eq_true (by kernel_rfl)) (by kernel_rfl) fun A_190 w a hs => ?_)
    replace hcl := qO hC_186 hs.own.f1.drop.drop
    refine ⟨fun _ => hcl, ?_⟩
    obtain ⟨h_192, hm⟩ := ite_t hm
    refine Vk.dOnly (i := 8) (by kernel_rfl) (Vk.appendOp (x := (.tmp 40)) (y := (.tmp 44)) (e := 3) (t := 159) (by_ := 8) (sz := 1) (enc := (eI .i64)) (A := A_172) (cap := c_173) (xs := ([] : List Int) ++ ([v_167] : List Int)) (ys := ([v_189] : List Int)) (B := A_190) (c2 := 1) 1 (some 45) hs (by kernel_rfl) (by kernel_rfl) (by kernel_rfl) (by kernel_rfl) rfl (Sl.lift (fun w ho => (Ow.to (S' := rowp A_190 1 3 1 (eI .i64) ([v_189] : List Int) :: S) ho [0] 20 (by kernel_rfl) (by kernel_rfl))) (Ow.rowSl 0 (Ow.to (S' := rowp A_190 1 3 1 (eI .i64) ([v_189] : List Int) :: S) hs.own [0] 20 (by kernel_rfl) (by kernel_rfl)) rfl)) (by kernel_rfl) (by kernel_rfl) (by decide) (by decide) h_192 fun A_193 c_194 w a hs => ?_)
    replace hcl := qO hC_186 hs.own.f1.drop.drop
    refine ⟨fun _ => hcl, ?_⟩
    refine qdp (fuel := 1) [9] hs hcl hqC_186 fun a hs => ?_
    refine qsd 10 9 2 (C.slc A_193 (((([] : List Int) ++ ([v_167] : List Int)) ++ ([v_189] : List Int)).length) c_194) hs rfl fun a w hs => ?_
    refine ⟨fun h => absurd h (by decide), ?_⟩
    replace hs := hs.pick [0, 5, 8, 9, 10, 11, 26, 27, 31, 32, 33] (L' := [(0, pp b_x0), (5, pp b_20), (8, pp b_22), (9, pp b_36), (10, pp b_39), (11, vi 2), (26, .agg (vals ([C.slc A_12 (([0, 1] : List Int).length) 2, C.slc A_14 (([0, 2] : List Int).length) 2, C.slc A_16 (([1, 2] : List Int).length) 2]))), (27, vi 2), (31, .slice A_16 (([1, 2] : List Int).length) 2), (32, vi 2), (33, vi 1)]) (by kernel_rfl)
    refine Vk.dDone (by kernel_rfl) ?_
    refine hK177 _ _ ?_
    clear hK177
    refine Vk.region ?_
    refine qpk 2 [0, 5, 8, 9, 10, 11, 26, 27, 31, 32, 33] hs fun a hs => hKL174 _ _ ?_
    clear hKL174
    refine Vk.unroll fun KL195 hKL195 => ?_
    refine qsk 1 [0, 5, 8, 9, 10, 11, 26, 27, 31, 32, 33, 34] hs fun a hs => ?_
    refine Vk.seq fun K197 hK197 => ?_
    refine qcf hs ?_
    refine wp_exit ?_
    refine hK149 _ _ ?_
    clear hK149
    refine Vk.region ?_
    refine qpk 2 [0, 5, 8, 9, 10, 26, 27] hs fun a hs => hKL146 _ _ ?_
    clear hKL146
    refine Vk.unroll fun KL198 hKL198 => ?_
    refine qsk 1 [0, 5, 8, 9, 10, 26, 27, 28] hs fun a hs => ?_
    refine Vk.seq fun K200 hK200 => ?_
    refine qcf hs ?_
    refine wp_exit ?_
    refine hK40 _ _ ?_
    clear hK40
    refine qsr fun K201 hK201 => ?_
    refine qpu 1 hs fun a hs => ?_
    refine qlw 14 hs rfl h_11 fun a hs => ?_
    refine qln 9 ([C.slc A_89 (((([] : List Int) ++ ([v_63] : List Int)) ++ ([v_85] : List Int)).length) c_90, C.slc A_141 (((([] : List Int) ++ ([v_115] : List Int)) ++ ([v_137] : List Int)).length) c_142, C.slc A_193 (((([] : List Int) ++ ([v_167] : List Int)) ++ ([v_189] : List Int)).length) c_194]) hs rfl fun a hs => ?_
    refine Vk.step (Vk.call (some 52) 161 #[pp b_x0, .agg (vals x1), .agg (vals ([C.slc A_89 (((([] : List Int) ++ ([v_63] : List Int)) ++ ([v_85] : List Int)).length) c_90, C.slc A_141 (((([] : List Int) ++ ([v_115] : List Int)) ++ ([v_137] : List Int)).length) c_142, C.slc A_193 (((([] : List Int) ++ ([v_167] : List Int)) ++ ([v_189] : List Int)).length) c_194]))] hs (by kernel_rfl) (by kernel_rfl) (by kernel_rfl) ?_)
    refine Vk.enterI [(0, pp b_x0), (1, .agg (vals x1)), (2, .agg (vals ([C.slc A_89 (((([] : List Int) ++ ([v_63] : List Int)) ++ ([v_85] : List Int)).length) c_90, C.slc A_141 (((([] : List Int) ++ ([v_115] : List Int)) ++ ([v_137] : List Int)).length) c_142, C.slc A_193 (((([] : List Int) ++ ([v_167] : List Int)) ++ ([v_189] : List Int)).length) c_194])))] Try.func161 rfl Try.ntmps161 (by kernel_rfl) (Nat.le_of_ble_eq_true (by kernel_rfl)) hs.own fun KR202 hKR202 hKP202 a hs => ?_
    refine qsr fun K203 hK203 => ?_
    refine qbx 1 28 x1 4 hs fun b_204 w a hs => ?_
    refine qbx 2 160 ([C.slc A_89 (((([] : List Int) ++ ([v_63] : List Int)) ++ ([v_85] : List Int)).length) c_90, C.slc A_141 (((([] : List Int) ++ ([v_115] : List Int)) ++ ([v_137] : List Int)).length) c_142, C.slc A_193 (((([] : List Int) ++ ([v_167] : List Int)) ++ ([v_189] : List Int)).length) c_194]) 5 hs fun b_205 w a hs => ?_
    refine qal 28 [ci 0, ci 0, ci 0] 6 hs fun b_206 w a hs => ?_
    refine qpe 0 [(0, pp b_x0), (4, pp b_204), (5, pp b_205), (6, pp b_206)] hs fun a hs => hK203 _ _ ?_
    clear hK203
    refine qsr fun K207 hK207 => ?_
    refine qlw 2 hs rfl h_11 fun a hs => ?_
    refine qal 28 [ci 0, ci 0, ci 0] 7 hs fun b_208 w a hs => ?_
    refine qsb 0 x1 hs rfl h_11 rfl fun a w hs => ?_
    refine qpe 0 [(0, pp b_x0), (5, pp b_205), (6, pp b_206), (7, pp b_208)] hs fun a hs => hK207 _ _ ?_
    clear hK207
    refine Vk.seq fun K209 hK209 => ?_
    refine qsr fun K210 hK210 => ?_
    refine qpu 1 hs fun a hs => ?_
    obtain ⟨g_211, hs⟩ := hs.unex 15 rfl
    obtain ⟨v_214, h_213, hm⟩ := bind_t hm
    refine qcl (wire_Machine_N.ok _ _ _ h_213 _ _ _ b_x0 g_211 hs.own.f15) hs fun w a hs => ?_
    rcases Bool.eq_false_or_eq_true (v_214 == 3) with hb | hb
    ·replace hm := bif_t hm hb
     obtain rfl := Vk.of_beq hb
     refine qpk 1 [0, 5, 6, 7, 13, 14] hs fun a hs => hK210 _ _ ?_
     clear hK210
     refine wp_block ?_
     refine Vk.unroll0 40 ?_
     refine Vk.unroll fun KL215 hKL215 => ?_
     refine qsk 1 [0, 5, 6, 7, 13, 14, 15] hs fun a hs => ?_
     refine qck hs ?_
     refine Vk.seq fun K218 hK218 => ?_
     refine wp_block ?_
     refine qsk 2 [0, 5, 6, 7, 8, 13, 14] hs fun a hs => ?_
     refine qsr fun K220 hK220 => ?_
     refine qpu 2 hs fun a hs => ?_
     refine qld 3 (C.slc A_89 (((([] : List Int) ++ ([v_63] : List Int)) ++ ([v_85] : List Int)).length) c_90) hs rfl fun a hs => ?_
     refine qpk 2 [0, 5, 6, 7, 8, 13, 14, 19, 20, 21] hs fun a hs => hK220 _ _ ?_
     clear hK220
     refine wp_block ?_
     refine Vk.unroll0 40 ?_
     refine Vk.unroll fun KL221 hKL221 => ?_
     refine qsk 1 [0, 5, 6, 7, 8, 13, 14, 19, 20, 21, 22] hs fun a hs => ?_
     refine qck hs ?_
     refine Vk.seq fun K224 hK224 => ?_
     refine wp_block ?_
     refine qsr fun K225 hK225 => ?_
     obtain ⟨h_226, hm⟩ := ite_t hm
     obtain ⟨e_229, h_227, hm⟩ := bind_t hm
     obtain ⟨b_230, o_231, hA_232, h_228⟩ := Sl.elem (Ow.rowSl 0 (Ow.to (S' := rowp A_89 c_90 3 1 (eI .i64) ((([] : List Int) ++ ([v_63] : List Int)) ++ ([v_85] : List Int)) :: S) hs.own [12] 24 (by kernel_rfl) (by kernel_rfl)) rfl) h_227
     refine qva (.pointer (some ⟨b_230, o_231 + 0 * 1, none⟩)) (op := (.indexAddr 159 (.tmp 19) (.tmp 21))) hs (fun o ho => run_idxSlc (k := .i64) ho (cap := c_90) (len := ((([] : List Int) ++ ([v_63] : List Int)) ++ ([v_85] : List Int)).length) ((congrArg (fun A => Value.slice A (((([] : List Int) ++ ([v_63] : List Int)) ++ ([v_85] : List Int)).length) (c_90)) hA_232) ▸ (by kernel_rfl)) (by kernel_rfl) (by kernel_rfl) (idx_ok h_226 h_227) _) fun a hs => ?_
     refine qva (vi e_229) (op := (.load 3 (.tmp 23))) hs (fun o ho => run_load1 (c := ci e_229) ho (by kernel_rfl) (by kernel_rfl) (fun w ho => h_228 w ho 0 _ rfl) _ (Ow.to (S' := rowp A_89 c_90 3 1 (eI .i64) ((([] : List Int) ++ ([v_63] : List Int)) ++ ([v_85] : List Int)) :: S) hs.own [12] 24 (by kernel_rfl) (by kernel_rfl))) fun a hs => ?_
     refine qpe 1 [(0, pp b_x0), (5, pp b_205), (6, pp b_206), (7, pp b_208), (8, vi 0), (10, vi e_229), (13, vi 3), (14, vi 0), (19, .slice A_89 (((([] : List Int) ++ ([v_63] : List Int)) ++ ([v_85] : List Int)).length) c_90), (20, vi 2), (21, vi 0)] hs fun a hs => hK225 _ _ ?_
     clear hK225
     refine Vk.region ?_
     refine qpu 6 hs fun a hs => ?_
     obtain ⟨v_234, h_233, hm⟩ := bind_t hm
     refine qli 1 hs rfl h_233 fun a hs => ?_
     refine qpu 1 hs fun a hs => ?_
     replace hs := hs.toEx (Twire_Machine.parts b_x0 v_35.2) g_211 0 rfl
     obtain ⟨v_237, h_236, hm⟩ := bind_t hm
     refine qcl (wire_Machine_Two.ok _ _ _ _ _ _ _ h_236 _ _ _ b_x0 hs.own) hs fun w a hs => ?_
     refine qpu 2 hs fun a hs => ?_
     obtain ⟨h_238, hm⟩ := ite_t hm
     refine Vk.step (Vk.store1 (b := b_208) (ty := 3) (x := (.tmp 35)) (y := (.tmp 33)) (off := 0) (ci v_237.1) 1 hs (by kernel_rfl) (by kernel_rfl) (by kernel_rfl) (by kernel_rfl) (by kernel_rfl) (by kernel_rfl) rfl h_238 fun a w hs => ?_)
     refine qpk 0 [0, 5, 6, 7, 8, 13, 14, 19, 20, 21] hs fun a hs => hK224 _ _ ?_
     clear hK224
     refine Vk.region ?_
     refine qpk 2 [0, 5, 6, 7, 8, 13, 14, 19, 20, 21] hs fun a hs => hKL221 _ _ ?_
     clear hKL221
     refine Vk.unroll fun KL239 hKL239 => ?_
     refine qsk 1 [0, 5, 6, 7, 8, 13, 14, 19, 20, 21, 22] hs fun a hs => ?_
     refine qck hs ?_
     refine Vk.seq fun K242 hK242 => ?_
     refine wp_block ?_
     refine qsr fun K243 hK243 => ?_
     obtain ⟨h_244, hm⟩ := ite_t hm
     obtain ⟨e_247, h_245, hm⟩ := bind_t hm
     obtain ⟨b_248, o_249, hA_250, h_246⟩ := Sl.elem (Ow.rowSl 0 (Ow.to (S' := rowp A_89 c_90 3 1 (eI .i64) ((([] : List Int) ++ ([v_63] : List Int)) ++ ([v_85] : List Int)) :: S) hs.own [12] 24 (by kernel_rfl) (by kernel_rfl)) rfl) h_245
     refine qva (.pointer (some ⟨b_248, o_249 + 1 * 1, none⟩)) (op := (.indexAddr 159 (.tmp 19) (.tmp 21))) hs (fun o ho => run_idxSlc (k := .i64) ho (cap := c_90) (len := ((([] : List Int) ++ ([v_63] : List Int)) ++ ([v_85] : List Int)).length) ((congrArg (fun A => Value.slice A (((([] : List Int) ++ ([v_63] : List Int)) ++ ([v_85] : List Int)).length) (c_90)) hA_250) ▸ (by kernel_rfl)) (by kernel_rfl) (by kernel_rfl) (idx_ok h_244 h_245) _) fun a hs => ?_
     refine qva (vi e_247) (op := (.load 3 (.tmp 23))) hs (fun o ho => run_load1 (c := ci e_247) ho (by kernel_rfl) (by kernel_rfl) (fun w ho => h_246 w ho 0 _ rfl) _ (Ow.to (S' := rowp A_89 c_90 3 1 (eI .i64) ((([] : List Int) ++ ([v_63] : List Int)) ++ ([v_85] : List Int)) :: S) hs.own [12] 24 (by kernel_rfl) (by kernel_rfl))) fun a hs => ?_
     refine qpk 1 [0, 5, 6, 7, 8, 10, 13, 14, 19, 20, 21] hs fun a hs => hK243 _ _ ?_
     clear hK243
     refine Vk.region ?_
     refine qpu 6 hs fun a hs => ?_
     obtain ⟨v_252, h_251, hm⟩ := bind_t hm
     refine qli 1 hs rfl h_251 fun a hs => ?_
     refine qpu 1 hs fun a hs => ?_
     obtain ⟨v_255, h_254, hm⟩ := bind_t hm
     refine qcl (wire_Machine_Two.ok _ _ _ _ _ _ _ h_254 _ _ _ b_x0 hs.own) hs fun w a hs => ?_
     refine qpu 2 hs fun a hs => ?_
     obtain ⟨h_256, hm⟩ := ite_t hm
     refine Vk.step (Vk.store1 (b := b_208) (ty := 3) (x := (.tmp 35)) (y := (.tmp 33)) (off := 0) (ci v_255.1) 1 hs (by kernel_rfl) (by kernel_rfl) (by kernel_rfl) (by kernel_rfl) (by kernel_rfl) (by kernel_rfl) rfl h_256 fun a w hs => ?_)
     refine qpk 0 [0, 5, 6, 7, 8, 13, 14, 19, 20, 21] hs fun a hs => hK242 _ _ ?_
     clear hK242
     refine Vk.region ?_
     refine qpe 2 [(0, pp b_x0), (5, pp b_205), (6, pp b_206), (7, pp b_208), (8, vi 0), (13, vi 3), (14, vi 0), (19, .slice A_89 (((([] : List Int) ++ ([v_63] : List Int)) ++ ([v_85] : List Int)).length) c_90), (20, vi 2), (21, vi 2)] hs fun a hs => hKL239 _ _ ?_
     clear hKL239
     refine Vk.unroll fun KL257 hKL257 => ?_
     refine qsk 1 [0, 5, 6, 7, 8, 13, 14, 19, 20, 21, 22] hs fun a hs => ?_
     refine Vk.seq fun K259 hK259 => ?_
     refine qcf hs ?_
     refine wp_exit ?_
     refine hK218 _ _ ?_
     clear hK218
     refine Vk.region ?_
     refine qpk 2 [0, 5, 6, 7, 13, 14] hs fun a hs => hKL215 _ _ ?_
     clear hKL215
     refine Vk.unroll fun KL260 hKL260 => ?_
     refine qsk 1 [0, 5, 6, 7, 13, 14, 15] hs fun a hs => ?_
     refine qck hs ?_
     refine Vk.seq fun K263 hK263 => ?_
     refine wp_block ?_
     refine qsk 2 [0, 5, 6, 7, 8, 13, 14] hs fun a hs => ?_
     refine qsr fun K265 hK265 => ?_
     refine qpu 2 hs fun a hs => ?_
     refine qld 3 (C.slc A_141 (((([] : List Int) ++ ([v_115] : List Int)) ++ ([v_137] : List Int)).length) c_142) hs rfl fun a hs => ?_
     refine qpk 2 [0, 5, 6, 7, 8, 13, 14, 19, 20, 21] hs fun a hs => hK265 _ _ ?_
     clear hK265
     refine wp_block ?_
     refine Vk.unroll0 40 ?_
     refine Vk.unroll fun KL266 hKL266 => ?_
     refine qse 1 [(0, pp b_x0), (5, pp b_205), (6, pp b_206), (7, pp b_208), (8, vi 1), (13, vi 3), (14, vi 1), (19, .slice A_141 (((([] : List Int) ++ ([v_115] : List Int)) ++ ([v_137] : List Int)).length) c_142), (20, vi 2), (21, vi 0), (22, .bool true)] hs fun a hs => ?_
     refine qck hs ?_
     refine Vk.seq fun K269 hK269 => ?_
     refine wp_block ?_
     refine qsr fun K270 hK270 => ?_
     obtain ⟨h_271, hm⟩ := ite_t hm
     obtain ⟨e_274, h_272, hm⟩ := bind_t hm
     obtain ⟨b_275, o_276, hA_277, h_273⟩ := Sl.elem (Ow.rowSl 0 (Ow.to (S' := rowp A_141 c_142 3 1 (eI .i64) ((([] : List Int) ++ ([v_115] : List Int)) ++ ([v_137] : List Int)) :: S) hs.own [9] 24 (by kernel_rfl) (by kernel_rfl)) rfl) h_272
     refine qva (.pointer (some ⟨b_275, o_276 + 0 * 1, none⟩)) (op := (.indexAddr 159 (.tmp 19) (.tmp 21))) hs (fun o ho => run_idxSlc (k := .i64) ho (cap := c_142) (len := ((([] : List Int) ++ ([v_115] : List Int)) ++ ([v_137] : List Int)).length) ((congrArg (fun A => Value.slice A (((([] : List Int) ++ ([v_115] : List Int)) ++ ([v_137] : List Int)).length) (c_142)) hA_277) ▸ (by kernel_rfl)) (by kernel_rfl) (by kernel_rfl) (idx_ok h_271 h_272) _) fun a hs => ?_
     refine qva (vi e_274) (op := (.load 3 (.tmp 23))) hs (fun o ho => run_load1 (c := ci e_274) ho (by kernel_rfl) (by kernel_rfl) (fun w ho => h_273 w ho 0 _ rfl) _ (Ow.to (S' := rowp A_141 c_142 3 1 (eI .i64) ((([] : List Int) ++ ([v_115] : List Int)) ++ ([v_137] : List Int)) :: S) hs.own [9] 24 (by kernel_rfl) (by kernel_rfl))) fun a hs => ?_
     refine qpk 1 [0, 5, 6, 7, 8, 10, 13, 14, 19, 20, 21] hs fun a hs => hK270 _ _ ?_
     clear hK270
     refine Vk.region ?_
     refine qpu 6 hs fun a hs => ?_
     obtain ⟨v_279, h_278, hm⟩ := bind_t hm
     refine qli 1 hs rfl h_278 fun a hs => ?_
     refine qpu 1 hs fun a hs => ?_
     obtain ⟨v_282, h_281, hm⟩ := bind_t hm
     refine qcl (wire_Machine_Two.ok _ _ _ _ _ _ _ h_281 _ _ _ b_x0 hs.own) hs fun w a hs => ?_
     refine qpu 2 hs fun a hs => ?_
     obtain ⟨h_283, hm⟩ := ite_t hm
     refine Vk.step (Vk.store1 (b := b_208) (ty := 3) (x := (.tmp 35)) (y := (.tmp 33)) (off := 1) (ci v_282.1) 1 hs (by kernel_rfl) (by kernel_rfl) (by kernel_rfl) (by kernel_rfl) (by kernel_rfl) (by kernel_rfl) rfl h_283 fun a w hs => ?_)
     refine qpk 0 [0, 5, 6, 7, 8, 13, 14, 19, 20, 21] hs fun a hs => hK269 _ _ ?_
     clear hK269
     refine Vk.region ?_
     refine qpk 2 [0, 5, 6, 7, 8, 13, 14, 19, 20, 21] hs fun a hs => hKL266 _ _ ?_
     clear hKL266
     refine Vk.unroll fun KL284 hKL284 => ?_
     refine qsk 1 [0, 5, 6, 7, 8, 13, 14, 19, 20, 21, 22] hs fun a hs => ?_
     refine qck hs ?_
     refine Vk.seq fun K287 hK287 => ?_
     refine wp_block ?_
     refine qsr fun K288 hK288 => ?_
     obtain ⟨h_289, hm⟩ := ite_t hm
     obtain ⟨e_292, h_290, hm⟩ := bind_t hm
     obtain ⟨b_293, o_294, hA_295, h_291⟩ := Sl.elem (Ow.rowSl 0 (Ow.to (S' := rowp A_141 c_142 3 1 (eI .i64) ((([] : List Int) ++ ([v_115] : List Int)) ++ ([v_137] : List Int)) :: S) hs.own [9] 24 (by kernel_rfl) (by kernel_rfl)) rfl) h_290
     refine qva (.pointer (some ⟨b_293, o_294 + 1 * 1, none⟩)) (op := (.indexAddr 159 (.tmp 19) (.tmp 21))) hs (fun o ho => run_idxSlc (k := .i64) ho (cap := c_142) (len := ((([] : List Int) ++ ([v_115] : List Int)) ++ ([v_137] : List Int)).length) ((congrArg (fun A => Value.slice A (((([] : List Int) ++ ([v_115] : List Int)) ++ ([v_137] : List Int)).length) (c_142)) hA_295) ▸ (by kernel_rfl)) (by kernel_rfl) (by kernel_rfl) (idx_ok h_289 h_290) _) fun a hs => ?_
     refine qva (vi e_292) (op := (.load 3 (.tmp 23))) hs (fun o ho => run_load1 (c := ci e_292) ho (by kernel_rfl) (by kernel_rfl) (fun w ho => h_291 w ho 0 _ rfl) _ (Ow.to (S' := rowp A_141 c_142 3 1 (eI .i64) ((([] : List Int) ++ ([v_115] : List Int)) ++ ([v_137] : List Int)) :: S) hs.own [9] 24 (by kernel_rfl) (by kernel_rfl))) fun a hs => ?_
     refine qpk 1 [0, 5, 6, 7, 8, 10, 13, 14, 19, 20, 21] hs fun a hs => hK288 _ _ ?_
     clear hK288
     refine Vk.region ?_
     refine qpu 6 hs fun a hs => ?_
     obtain ⟨v_297, h_296, hm⟩ := bind_t hm
     refine qli 1 hs rfl h_296 fun a hs => ?_
     refine qpu 1 hs fun a hs => ?_
     obtain ⟨v_300, h_299, hm⟩ := bind_t hm
     refine qcl (wire_Machine_Two.ok _ _ _ _ _ _ _ h_299 _ _ _ b_x0 hs.own) hs fun w a hs => ?_
     refine qpu 2 hs fun a hs => ?_
     obtain ⟨h_301, hm⟩ := ite_t hm
     refine Vk.step (Vk.store1 (b := b_208) (ty := 3) (x := (.tmp 35)) (y := (.tmp 33)) (off := 1) (ci v_300.1) 1 hs (by kernel_rfl) (by kernel_rfl) (by kernel_rfl) (by kernel_rfl) (by kernel_rfl) (by kernel_rfl) rfl h_301 fun a w hs => ?_)
     refine qpe 0 [(0, pp b_x0), (5, pp b_205), (6, pp b_206), (7, pp b_208), (8, vi 1), (13, vi 3), (14, vi 1), (19, .slice A_141 (((([] : List Int) ++ ([v_115] : List Int)) ++ ([v_137] : List Int)).length) c_142), (20, vi 2), (21, vi 1)] hs fun a hs => hK287 _ _ ?_
     clear hK287
     refine Vk.region ?_
     refine qpk 2 [0, 5, 6, 7, 8, 13, 14, 19, 20, 21] hs fun a hs => hKL284 _ _ ?_
     clear hKL284
     refine Vk.unroll fun KL302 hKL302 => ?_
     refine qsk 1 [0, 5, 6, 7, 8, 13, 14, 19, 20, 21, 22] hs fun a hs => ?_
     refine Vk.seq fun K304 hK304 => ?_
     refine qcf hs ?_
     refine wp_exit ?_
     refine hK263 _ _ ?_
     clear hK263
     refine Vk.region ?_
     refine qpk 2 [0, 5, 6, 7, 13, 14] hs fun a hs => hKL260 _ _ ?_
     clear hKL260
     refine Vk.unroll fun KL305 hKL305 => ?_
     refine qsk 1 [0, 5, 6, 7, 13, 14, 15] hs fun a hs => ?_
     refine qck hs ?_
     refine Vk.seq fun K308 hK308 => ?_
     refine wp_block ?_
     refine qsk 2 [0, 5, 6, 7, 8, 13, 14] hs fun a hs => ?_
     refine qsr fun K310 hK310 => ?_
     refine qpu 2 hs fun a hs => ?_
     refine qld 3 (C.slc A_193 (((([] : List Int) ++ ([v_167] : List Int)) ++ ([v_189] : List Int)).length) c_194) hs rfl fun a hs => ?_
     refine qpe 2 [(0, pp b_x0), (5, pp b_205), (6, pp b_206), (7, pp b_208), (8, vi 2), (13, vi 3), (14, vi 2), (19, .slice A_193 (((([] : List Int) ++ ([v_167] : List Int)) ++ ([v_189] : List Int)).length) c_194), (20, vi 2), (21, vi 0)] hs fun a hs => hK310 _ _ ?_
     clear hK310
     refine wp_block ?_
     refine Vk.unroll0 40 ?_
     refine Vk.unroll fun KL311 hKL311 => ?_
     refine qsk 1 [0, 5, 6, 7, 8, 13, 14, 19, 20, 21, 22] hs fun a hs => ?_
     refine qck hs ?_
     refine Vk.seq fun K314 hK314 => ?_
     refine wp_block ?_
     refine qsr fun K315 hK315 => ?_
     obtain ⟨h_316, hm⟩ := ite_t hm
     obtain ⟨e_319, h_317, hm⟩ := bind_t hm
     obtain ⟨b_320, o_321, hA_322, h_318⟩ := Sl.elem (Ow.rowSl 0 (Ow.to (S' := rowp A_193 c_194 3 1 (eI .i64) ((([] : List Int) ++ ([v_167] : List Int)) ++ ([v_189] : List Int)) :: S) hs.own [6] 24 (by kernel_rfl) (by kernel_rfl)) rfl) h_317
     refine qva (.pointer (some ⟨b_320, o_321 + 0 * 1, none⟩)) (op := (.indexAddr 159 (.tmp 19) (.tmp 21))) hs (fun o ho => run_idxSlc (k := .i64) ho (cap := c_194) (len := ((([] : List Int) ++ ([v_167] : List Int)) ++ ([v_189] : List Int)).length) ((congrArg (fun A => Value.slice A (((([] : List Int) ++ ([v_167] : List Int)) ++ ([v_189] : List Int)).length) (c_194)) hA_322) ▸ (by kernel_rfl)) (by kernel_rfl) (by kernel_rfl) (idx_ok h_316 h_317) _) fun a hs => ?_
     refine qva (vi e_319) (op := (.load 3 (.tmp 23))) hs (fun o ho => run_load1 (c := ci e_319) ho (by kernel_rfl) (by kernel_rfl) (fun w ho => h_318 w ho 0 _ rfl) _ (Ow.to (S' := rowp A_193 c_194 3 1 (eI .i64) ((([] : List Int) ++ ([v_167] : List Int)) ++ ([v_189] : List Int)) :: S) hs.own [6] 24 (by kernel_rfl) (by kernel_rfl))) fun a hs => ?_
     refine qpk 1 [0, 5, 6, 7, 8, 10, 13, 14, 19, 20, 21] hs fun a hs => hK315 _ _ ?_
     clear hK315
     refine Vk.region ?_
     refine qpu 6 hs fun a hs => ?_
     obtain ⟨v_324, h_323, hm⟩ := bind_t hm
     refine qli 1 hs rfl h_323 fun a hs => ?_
     refine qpu 1 hs fun a hs => ?_
     obtain ⟨v_327, h_326, hm⟩ := bind_t hm
     refine qcl (wire_Machine_Two.ok _ _ _ _ _ _ _ h_326 _ _ _ b_x0 hs.own) hs fun w a hs => ?_
     refine qpu 2 hs fun a hs => ?_
     obtain ⟨h_328, hm⟩ := ite_t hm
     refine Vk.step (Vk.store1 (b := b_208) (ty := 3) (x := (.tmp 35)) (y := (.tmp 33)) (off := 2) (ci v_327.1) 1 hs (by kernel_rfl) (by kernel_rfl) (by kernel_rfl) (by kernel_rfl) (by kernel_rfl) (by kernel_rfl) rfl h_328 fun a w hs => ?_)
     refine qpk 0 [0, 5, 6, 7, 8, 13, 14, 19, 20, 21] hs fun a hs => hK314 _ _ ?_
     clear hK314
     refine Vk.region ?_
     refine qpk 2 [0, 5, 6, 7, 8, 13, 14, 19, 20, 21] hs fun a hs => hKL311 _ _ ?_
     clear hKL311
     refine Vk.unroll fun KL329 hKL329 => ?_
     refine qsk 1 [0, 5, 6, 7, 8, 13, 14, 19, 20, 21, 22] hs fun a hs => ?_
     refine qck hs ?_
     refine Vk.seq fun K332 hK332 => ?_
     refine wp_block ?_
     refine qsr fun K333 hK333 => ?_
     obtain ⟨h_334, hm⟩ := ite_t hm
     obtain ⟨e_337, h_335, hm⟩ := bind_t hm
     obtain ⟨b_338, o_339, hA_340, h_336⟩ := Sl.elem (Ow.rowSl 0 (Ow.to (S' := rowp A_193 c_194 3 1 (eI .i64) ((([] : List Int) ++ ([v_167] : List Int)) ++ ([v_189] : List Int)) :: S) hs.own [6] 24 (by kernel_rfl) (by kernel_rfl)) rfl) h_335
     refine qva (.pointer (some ⟨b_338, o_339 + 1 * 1, none⟩)) (op := (.indexAddr 159 (.tmp 19) (.tmp 21))) hs (fun o ho => run_idxSlc (k := .i64) ho (cap := c_194) (len := ((([] : List Int) ++ ([v_167] : List Int)) ++ ([v_189] : List Int)).length) ((congrArg (fun A => Value.slice A (((([] : List Int) ++ ([v_167] : List Int)) ++ ([v_189] : List Int)).length) (c_194)) hA_340) ▸ (by kernel_rfl)) (by kernel_rfl) (by kernel_rfl) (idx_ok h_334 h_335) _) fun a hs => ?_
     refine qva (vi e_337) (op := (.load 3 (.tmp 23))) hs (fun o ho => run_load1 (c := ci e_337) ho (by kernel_rfl) (by kernel_rfl) (fun w ho => h_336 w ho 0 _ rfl) _ (Ow.to (S' := rowp A_193 c_194 3 1 (eI .i64) ((([] : List Int) ++ ([v_167] : List Int)) ++ ([v_189] : List Int)) :: S) hs.own [6] 24 (by kernel_rfl) (by kernel_rfl))) fun a hs => ?_
     refine qpe 1 [(0, pp b_x0), (5, pp b_205), (6, pp b_206), (7, pp b_208), (8, vi 2), (10, vi e_337), (13, vi 3), (14, vi 2), (19, .slice A_193 (((([] : List Int) ++ ([v_167] : List Int)) ++ ([v_189] : List Int)).length) c_194), (20, vi 2), (21, vi 1)] hs fun a hs => hK333 _ _ ?_
     clear hK333
     refine Vk.region ?_
     refine qpu 6 hs fun a hs => ?_
     obtain ⟨v_342, h_341, hm⟩ := bind_t hm
     refine qli 1 hs rfl h_341 fun a hs => ?_
     refine qpu 1 hs fun a hs => ?_
     obtain ⟨v_345, h_344, hm⟩ := bind_t hm
     refine qcl (wire_Machine_Two.ok _ _ _ _ _ _ _ h_344 _ _ _ b_x0 hs.own) hs fun w a hs => ?_
     refine qpu 2 hs fun a hs => ?_
     obtain ⟨h_346, hm⟩ := ite_t hm
     refine Vk.step (Vk.store1 (b := b_208) (ty := 3) (x := (.tmp 35)) (y := (.tmp 33)) (off := 2) (ci v_345.1) 1 hs (by kernel_rfl) (by kernel_rfl) (by kernel_rfl) (by kernel_rfl) (by kernel_rfl) (by kernel_rfl) rfl h_346 fun a w hs => ?_)
     refine qpk 0 [0, 5, 6, 7, 8, 13, 14, 19, 20, 21] hs fun a hs => hK332 _ _ ?_
     clear hK332
     refine Vk.region ?_
     refine qpk 2 [0, 5, 6, 7, 8, 13, 14, 19, 20, 21] hs fun a hs => hKL329 _ _ ?_
     clear hKL329
     refine Vk.unroll fun KL347 hKL347 => ?_
     refine qsk 1 [0, 5, 6, 7, 8, 13, 14, 19, 20, 21, 22] hs fun a hs => ?_
     refine Vk.seq fun K349 hK349 => ?_
     refine qcf hs ?_
     refine wp_exit ?_
     refine hK308 _ _ ?_
     clear hK308
     refine Vk.region ?_
     refine qpk 2 [0, 5, 6, 7, 13, 14] hs fun a hs => hKL305 _ _ ?_
     clear hKL305
     refine Vk.unroll fun KL350 hKL350 => ?_
     refine qsk 1 [0, 5, 6, 7, 13, 14, 15] hs fun a hs => ?_
     refine Vk.seq fun K352 hK352 => ?_
     refine qcf hs ?_
     refine wp_exit ?_
     refine hK209 _ _ ?_
     clear hK209
     refine qsr fun K353 hK353 => ?_
     refine qva (.agg (vals ((((((x1.set (0) (ci v_237.1)).set (0) (ci v_255.1)).set (1) (ci v_282.1)).set (1) (ci v_300.1)).set (2) (ci v_327.1)).set (2) (ci v_345.1)))) (op := (.load 28 (.tmp 7))) hs (fun o ho => run_loadN (cs := ((((((x1.set (0) (ci v_237.1)).set (0) (ci v_255.1)).set (1) (ci v_282.1)).set (1) (ci v_300.1)).set (2) (ci v_327.1)).set (2) (ci v_345.1))) ho (by kernel_rfl) (by kernel_rfl) (List.length_set.trans (List.length_set.trans (List.length_set.trans (List.length_set.trans (List.length_set.trans (List.length_set.trans h_11)))))) (CellsAt.all 1 rfl) _ hs.own) fun a hs => ?_
     refine Vk.step (Vk.storeA (b := b_206) (ty := 28) (x := (.tmp 6)) (y := (.tmp 38)) (sz := 3) ((((((x1.set (0) (ci v_237.1)).set (0) (ci v_255.1)).set (1) (ci v_282.1)).set (1) (ci v_300.1)).set (2) (ci v_327.1)).set (2) (ci v_345.1)) 2 hs (by kernel_rfl) (by kernel_rfl) (by kernel_rfl) (by kernel_rfl) (by kernel_rfl) (List.length_set.trans (List.length_set.trans (List.length_set.trans (List.length_set.trans (List.length_set.trans (List.length_set.trans h_11)))))) (by kernel_rfl) rfl (Eq.trans (b := 3) (List.length_set.trans (List.length_set.trans (List.length_set.trans (List.length_set.trans (List.length_set.trans (List.length_set.trans h_11)))))) (Eq.symm rfl)) fun a w hs => ?_)
     refine qpe 0 [(6, pp b_206)] hs fun a hs => hK353 _ _ ?_
     clear hK353
     refine wp_ret ?_
     refine hKP202 _ _ ?_
     refine hKR202 _ _ ?_
     refine Vk.retC (P := Try.prog) (fn := Try.f161) ((((((x1.set (0) (ci v_237.1)).set (0) (ci v_255.1)).set (1) (ci v_282.1)).set (1) (ci v_300.1)).set (2) (ci v_327.1)).set (2) (ci v_345.1)) hs rfl (by kernel_rfl) (sz := 3) (by kernel_rfl) (List.length_set.trans (List.length_set.trans (List.length_set.trans (List.length_set.trans (List.length_set.trans (List.length_set.trans h_11)))))) (CellsAt.all 2 rfl) ⟨_, _, _, rfl, hs.own, fun a hs => ?_⟩
     refine qal 28 [ci 0, ci 0, ci 0] 15 hs fun b_354 w a hs => ?_
     refine Vk.step (Vk.storeA (b := b_354) (ty := 28) (x := (.tmp 15)) (y := (.tmp 52)) (sz := 3) ((((((x1.set (0) (ci v_237.1)).set (0) (ci v_255.1)).set (1) (ci v_282.1)).set (1) (ci v_300.1)).set (2) (ci v_327.1)).set (2) (ci v_345.1)) 0 hs (by kernel_rfl) (by kernel_rfl) (by kernel_rfl) (by kernel_rfl) (by kernel_rfl) (List.length_set.trans (List.length_set.trans (List.length_set.trans (List.length_set.trans (List.length_set.trans (List.length_set.trans h_11)))))) (by kernel_rfl) rfl (Eq.trans (b := 3) (List.length_set.trans (List.length_set.trans (List.length_set.trans (List.length_set.trans (List.length_set.trans (List.length_set.trans h_11)))))) (Eq.symm rfl)) fun a w hs => ?_)
     refine qpk 0 [0, 8, 15] hs fun a hs => hK201 _ _ ?_
     clear hK201
     refine qsr fun K355 hK355 => ?_
     refine qpu 1 hs fun a hs => ?_
     obtain ⟨v_358, h_357, hm⟩ := bind_t hm
     refine qcl (wire_Machine_End.ok _ _ _ h_357 _ _ _ b_x0 hs.own.f1) hs fun w a hs => ?_
     refine qpk 0 [8, 15] hs fun a hs => hK355 _ _ ?_
     clear hK355
     refine qsr fun K359 hK359 => ?_
     refine qva (.agg (vals ((((((x1.set (0) (ci v_237.1)).set (0) (ci v_255.1)).set (1) (ci v_282.1)).set (1) (ci v_300.1)).set (2) (ci v_327.1)).set (2) (ci v_345.1)))) (op := (.load 28 (.tmp 15))) hs (fun o ho => run_loadN (cs := ((((((x1.set (0) (ci v_237.1)).set (0) (ci v_255.1)).set (1) (ci v_282.1)).set (1) (ci v_300.1)).set (2) (ci v_327.1)).set (2) (ci v_345.1))) ho (by kernel_rfl) (by kernel_rfl) (List.length_set.trans (List.length_set.trans (List.length_set.trans (List.length_set.trans (List.length_set.trans (List.length_set.trans h_11)))))) (CellsAt.all 1 rfl) _ hs.own) fun a hs => ?_
     refine Vk.step (Vk.storeA (b := b_22) (ty := 28) (x := (.tmp 8)) (y := (.tmp 55)) (sz := 3) ((((((x1.set (0) (ci v_237.1)).set (0) (ci v_255.1)).set (1) (ci v_282.1)).set (1) (ci v_300.1)).set (2) (ci v_327.1)).set (2) (ci v_345.1)) 17 hs (by kernel_rfl) (by kernel_rfl) (by kernel_rfl) (by kernel_rfl) (by kernel_rfl) (List.length_set.trans (List.length_set.trans (List.length_set.trans (List.length_set.trans (List.length_set.trans (List.length_set.trans h_11)))))) (by kernel_rfl) rfl (Eq.trans (b := 3) (List.length_set.trans (List.length_set.trans (List.length_set.trans (List.length_set.trans (List.length_set.trans (List.length_set.trans h_11)))))) (Eq.symm rfl)) fun a w hs => ?_)
     refine qpe 0 [(8, pp b_22)] hs fun a hs => hK359 _ _ ?_
     clear hK359
     refine wp_ret ?_
     refine hKP18 _ _ ?_
     refine hKR18 _ _ ?_
     refine Vk.retC (P := Try.prog) (fn := Try.f125) ((((((x1.set (0) (ci v_237.1)).set (0) (ci v_255.1)).set (1) (ci v_282.1)).set (1) (ci v_300.1)).set (2) (ci v_327.1)).set (2) (ci v_345.1)) hs rfl (by kernel_rfl) (sz := 3) (by kernel_rfl) (List.length_set.trans (List.length_set.trans (List.length_set.trans (List.length_set.trans (List.length_set.trans (List.length_set.trans h_11)))))) (CellsAt.all 17 rfl) ⟨_, _, _, rfl, hs.own, fun a hs => ?_⟩
     refine Vk.step (Vk.storeA (b := b_3) (ty := 28) (x := (.tmp 4)) (y := (.tmp 14)) (sz := 3) ((((((x1.set (0) (ci v_237.1)).set (0) (ci v_255.1)).set (1) (ci v_282.1)).set (1) (ci v_300.1)).set (2) (ci v_327.1)).set (2) (ci v_345.1)) 23 hs (by kernel_rfl) (by kernel_rfl) (by kernel_rfl) (by kernel_rfl) (by kernel_rfl) (List.length_set.trans (List.length_set.trans (List.length_set.trans (List.length_set.trans (List.length_set.trans (List.length_set.trans h_11)))))) (by kernel_rfl) rfl (Eq.trans (b := 3) (List.length_set.trans (List.length_set.trans (List.length_set.trans (List.length_set.trans (List.length_set.trans (List.length_set.trans h_11)))))) (Eq.symm rfl)) fun a w hs => ?_)
     refine qpe 0 [(4, pp b_3)] hs fun a hs => hK10 _ _ ?_
     clear hK10
     refine wp_ret ?_
     exact Vk.retC ((((((x1.set (0) (ci v_237.1)).set (0) (ci v_255.1)).set (1) (ci v_282.1)).set (1) (ci v_300.1)).set (2) (ci v_327.1)).set (2) (ci v_345.1)) hs rfl (by kernel_rfl) (sz := 3) (by kernel_rfl) (List.length_set.trans (List.length_set.trans (List.length_set.trans (List.length_set.trans (List.length_set.trans (List.length_set.trans h_11)))))) (CellsAt.all 23 rfl) (hRR ▸ by cases hm; exact ⟨rfl, (hs.own.too [0] 25)⟩)
    ·replace hm := bif_f hm hb
     cases hm
   ·replace hm := bif_f hm hb
    cases hm
  ·replace hm := bif_f hm hb
   cases hm


abbrev wire_Machine_Open.R (κ : Ctx) (S : List HP) (x0 : Twire_Machine) (x1 : Int) (x2 : Int) (x3 : Int) (b_x0 : Nat) (r : (Int × Twire_Machine)) : Ending → World → Prop := fun e w' => e = .returned (vw r.1) ∧ Ow κ w' (Twire_Machine.own b_x0 r.2 :: S)
def wire_Machine_Open.m (k : Nat) (x0 : Twire_Machine) (x1 : Int) (x2 : Int) (x3 : Int) : Option (Int × Twire_Machine) := (wire_Machine_Do.m k x0 (⟨12, (-1), x1, x2, x3, 0⟩ : Tapi_Op) 0).bind fun v_5 => (bif decide (v_5.1 < 0) then some (0, v_5.2) else (bif v_5.2.dry then some (18446744073709551615, v_5.2) else (if 0 ≤ v_5.1 then (v_5.2.values[v_5.1.toNat]?).bind fun e_19 => some (e_19, v_5.2) else none)))

set_option maxRecDepth 100000 in
set_option maxHeartbeats 4000000 in
theorem wire_Machine_Open.ok (k : Nat) (x0 : Twire_Machine) (x1 : Int) (x2 : Int) (x3 : Int) (r : (Int × Twire_Machine)) (hm : wire_Machine_Open.m k x0 x1 x2 x3 = some r) (κ : Ctx) (w : World) (S : List HP) (b_x0 : Nat) (ho : Ow κ w (Twire_Machine.own b_x0 x0 :: S)) :
  Calls Try.prog 140 #[pp b_x0, vi x1, vi x2, vi x3] w (wire_Machine_Open.R κ S x0 x1 x2 x3 b_x0 r) := by
 unfold wire_Machine_Open.m at hm
 generalize hRR : wire_Machine_Open.R κ S x0 x1 x2 x3 b_x0 r = RR
 refine qen [(0, pp b_x0), (1, vi x1), (2, vi x2), (3, vi x3)] Try.func140 Try.ntmps140 ho fun a hs => ?_
 refine qsk 1 [0, 1, 2, 3] hs fun a hs => ?_
 refine qsr fun K2 hK2 => ?_
 refine qpu 5 hs fun a hs => ?_
 obtain ⟨v_5, h_4, hm⟩ := bind_t hm
 refine qcl (wire_Machine_Do.ok _ _ _ _ _ h_4 _ _ _ b_x0 hs.own) hs fun w a hs => ?_
 refine qpk 1 [0, 9] hs fun a hs => hK2 _ _ ?_
 clear hK2
 refine Vk.seq fun K6 hK6 => ?_
 refine wp_block ?_
 refine qsk 3 [0, 9, 16] hs fun a hs => ?_
 refine qcs (decide (v_5.1 < 0)) hs (fun hb => ?_) fun hb => ?_
 ·replace hm := bif_t hm hb
  refine qse 1 [(8, vw 0)] hs fun a hs => ?_
  refine wp_ret ?_
  exact qr1 (vw 0) hs rfl hRR (by cases hm; exact ⟨rfl, hs.own⟩)
 ·replace hm := bif_f hm hb
  refine qsr fun K9 hK9 => ?_
  refine qpu 3 hs fun a hs => ?_
  obtain ⟨g_10, hs⟩ := hs.unbag 0 rfl
  refine qld 0 (C.bool v_5.2.dry) hs rfl fun a hs => ?_
  refine qpk 1 [0, 9, 19] hs fun a hs => hK9 _ _ ?_
  clear hK9
  refine qcs (v_5.2.dry) hs (fun hb => ?_) fun hb => ?_
  ·replace hm := bif_t hm hb
   refine qsk 1 [8] hs fun a hs => ?_
   refine wp_ret ?_
   replace hs := hs.bagG (l := Twire_Machine.parts b_x0 v_5.2 g_10) (S' := S) hs.own
   replace hs := hs.toEx (Twire_Machine.parts b_x0 v_5.2) g_10 0 rfl
   exact qr1 (vw 18446744073709551615) hs rfl hRR (by cases hm; exact ⟨rfl, hs.own⟩)
  ·replace hm := bif_f hm hb
   refine wp_skip ?_
   refine hK6 _ _ ?_
   clear hK6
   refine qsr fun K15 hK15 => ?_
   refine qpu 3 hs fun a hs => ?_
   refine qld 0 (C.slc g_10.2.2.2.1 v_5.2.values.length g_10.2.2.2.2.1) hs rfl fun a hs => ?_
   refine qpu 1 hs fun a hs => ?_
   obtain ⟨h_16, hm⟩ := ite_t hm
   obtain ⟨e_19, h_17, hm⟩ := bind_t hm
   obtain ⟨b_20, o_21, hA_22, h_18⟩ := Sl.elem (Ow.rowSl 0 (Ow.to (S' := rowp g_10.2.2.2.1 g_10.2.2.2.2.1 32 1 (eI .u64) v_5.2.values :: S) hs.own [3] 5 (by kernel_rfl) (by kernel_rfl)) rfl) h_17
   refine qva (.pointer (some ⟨b_20, o_21 + v_5.1.toNat * 1, none⟩)) (op := (.indexAddr 25 (.tmp 27) (.tmp 28))) hs (fun o ho => run_idxSlc (k := .i64) ho (cap := g_10.2.2.2.2.1) (len := v_5.2.values.length) ((congrArg (fun A => Value.slice A (v_5.2.values.length) (g_10.2.2.2.2.1)) hA_22) ▸ (by kernel_rfl)) (by kernel_rfl) (by kernel_rfl) (idx_ok h_16 h_17) _) fun a hs => ?_
   refine qva (vw e_19) (op := (.load 32 (.tmp 29))) hs (fun o ho => run_load1 (c := cw e_19) ho (by kernel_rfl) (by kernel_rfl) (fun w ho => h_18 w ho 0 _ rfl) _ (Ow.to (S' := rowp g_10.2.2.2.1 g_10.2.2.2.2.1 32 1 (eI .u64) v_5.2.values :: S) hs.own [3] 5 (by kernel_rfl) (by kernel_rfl))) fun a hs => ?_
   refine qpe 1 [(8, vw e_19)] hs fun a hs => hK15 _ _ ?_
   clear hK15
   refine wp_ret ?_
   replace hs := hs.bagG (l := Twire_Machine.parts b_x0 v_5.2 g_10) (S' := S) hs.own
   replace hs := hs.toEx (Twire_Machine.parts b_x0 v_5.2) g_10 0 rfl
   exact qr1 (vw e_19) hs rfl hRR (by cases hm; exact ⟨rfl, hs.own⟩)


abbrev guard_Open.R (κ : Ctx) (S : List HP) (x0 : Twire_Machine) (x1 : Cells) (b_x0 : Nat) (r : (Int × Twire_Machine)) : Ending → World → Prop := fun e w' => e = .returned (vw r.1) ∧ Ow κ w' (Twire_Machine.own b_x0 r.2 :: S)
def guard_Open.m (k : Nat) (x0 : Twire_Machine) (x1 : Cells) : Option (Int × Twire_Machine) := (if x1.length = 3 then (fresh_Full.m k x0 x1).bind fun v_7 => (if v_7.1.length = 3 then (getI .i64 v_7.1 (0)).bind fun v_12 => (getI .i64 v_7.1 (1)).bind fun v_14 => (getI .i64 v_7.1 (2)).bind fun v_16 => (wire_Machine_Open.m k v_7.2 v_12 v_14 v_16).bind fun v_19 => some (v_19.1, v_19.2) else none) else none)

set_option maxRecDepth 100000 in
set_option maxHeartbeats 4000000 in
theorem guard_Open.ok (k : Nat) (x0 : Twire_Machine) (x1 : Cells) (r : (Int × Twire_Machine)) (hm : guard_Open.m k x0 x1 = some r) (κ : Ctx) (w : World) (S : List HP) (b_x0 : Nat) (ho : Ow κ w (Twire_Machine.own b_x0 x0 :: S)) :
  Calls Try.prog 68 #[pp b_x0, .agg (vals x1)] w (guard_Open.R κ S x0 x1 b_x0 r) := by
 unfold guard_Open.m at hm
 generalize hRR : guard_Open.R κ S x0 x1 b_x0 r = RR
 refine qen [(0, pp b_x0), (1, .agg (vals x1))] Try.func68 Try.ntmps68 ho fun a hs => ?_
 refine qsr fun K1 hK1 => ?_
 refine qbx 1 28 x1 3 hs fun b_2 w a hs => ?_
 refine qpe 1 [(0, pp b_x0), (3, pp b_2)] hs fun a hs => hK1 _ _ ?_
 clear hK1
 refine qsr fun K3 hK3 => ?_
 refine qpu 1 hs fun a hs => ?_
 obtain ⟨h_4, hm⟩ := ite_t hm
 refine qlw 0 hs rfl h_4 fun a hs => ?_
 obtain ⟨v_7, h_6, hm⟩ := bind_t hm
 refine qcl (fresh_Full.ok _ _ _ _ h_6 _ _ _ b_x0 hs.own.f1) hs fun w a hs => ?_
 refine qal 28 [ci 0, ci 0, ci 0] 5 hs fun b_8 w a hs => ?_
 obtain ⟨h_9, hm⟩ := ite_t hm
 refine qsb 0 v_7.1 hs rfl h_9 rfl fun a w hs => ?_
 refine qpe 0 [(0, pp b_x0), (5, pp b_8)] hs fun a hs => hK3 _ _ ?_
 clear hK3
 refine qsr fun K10 hK10 => ?_
 refine qpu 3 hs fun a hs => ?_
 obtain ⟨v_12, h_11, hm⟩ := bind_t hm
 refine qli 0 hs rfl h_11 fun a hs => ?_
 refine qpu 2 hs fun a hs => ?_
 obtain ⟨v_14, h_13, hm⟩ := bind_t hm
 refine qli 0 hs rfl h_13 fun a hs => ?_
 refine qpu 2 hs fun a hs => ?_
 obtain ⟨v_16, h_15, hm⟩ := bind_t hm
 refine qli 0 hs rfl h_15 fun a hs => ?_
 obtain ⟨v_19, h_18, hm⟩ := bind_t hm
 refine qcl (wire_Machine_Open.ok _ _ _ _ _ _ h_18 _ _ _ b_x0 hs.own.f1) hs fun w a hs => ?_
 refine qpe 1 [(4, vw v_19.1)] hs fun a hs => hK10 _ _ ?_
 clear hK10
 refine wp_ret ?_
 exact qr1 (vw v_19.1) hs rfl hRR (by cases hm; exact ⟨rfl, hs.own.f2.drop.f1.drop⟩)


abbrev guard_masked.R (κ : Ctx) (S : List HP) (x0 : Twire_Machine) (x1 : Cells) (x2 : Int) (b_x0 : Nat) (r : (Int × Twire_Machine)) : Ending → World → Prop := fun e w' => e = .returned (vw r.1) ∧ Ow κ w' (Twire_Machine.own b_x0 r.2 :: S)
def guard_masked.m (k : Nat) (x0 : Twire_Machine) (x1 : Cells) (x2 : Int) : Option (Int × Twire_Machine) := (if x1.length = 3 then (share_One.m k x0 8 x1 x2).bind fun v_7 => (guard_Open.m k v_7.2 v_7.1).bind fun v_10 => some (v_10.1, v_10.2) else none)

set_option maxRecDepth 100000 in
set_option maxHeartbeats 4000000 in
theorem guard_masked.ok (k : Nat) (x0 : Twire_Machine) (x1 : Cells) (x2 : Int) (r : (Int × Twire_Machine)) (hm : guard_masked.m k x0 x1 x2 = some r) (κ : Ctx) (w : World) (S : List HP) (b_x0 : Nat) (ho : Ow κ w (Twire_Machine.own b_x0 x0 :: S)) :
  Calls Try.prog 136 #[pp b_x0, .agg (vals x1), vw x2] w (guard_masked.R κ S x0 x1 x2 b_x0 r) := by
 unfold guard_masked.m at hm
 generalize hRR : guard_masked.R κ S x0 x1 x2 b_x0 r = RR
 refine qen [(0, pp b_x0), (1, .agg (vals x1)), (2, vw x2)] Try.func136 Try.ntmps136 ho fun a hs => ?_
 refine qsr fun K1 hK1 => ?_
 refine qbx 1 28 x1 4 hs fun b_2 w a hs => ?_
 refine qpk 1 [0, 2, 4] hs fun a hs => hK1 _ _ ?_
 clear hK1
 refine qsr fun K3 hK3 => ?_
 refine qpu 2 hs fun a hs => ?_
 obtain ⟨h_4, hm⟩ := ite_t hm
 refine qlw 0 hs rfl h_4 fun a hs => ?_
 refine qpu 1 hs fun a hs => ?_
 obtain ⟨v_7, h_6, hm⟩ := bind_t hm
 refine qcl (share_One.ok _ _ _ _ _ _ h_6 _ _ _ b_x0 hs.own.f1) hs fun w a hs => ?_
 obtain ⟨v_10, h_9, hm⟩ := bind_t hm
 refine qcl (guard_Open.ok _ _ _ _ h_9 _ _ _ b_x0 hs.own) hs fun w a hs => ?_
 refine qpe 1 [(6, vw v_10.1)] hs fun a hs => hK3 _ _ ?_
 clear hK3
 refine wp_ret ?_
 exact qr1 (vw v_10.1) hs rfl hRR (by cases hm; exact ⟨rfl, hs.own.f1.drop⟩)


def octet_Store.l1 (x0 : Int) (x1 : Int) : Nat → (List Int) → Int → Option (List Int)
 | 0, _, _ => none
 | k + 1, q_9, q_10 => (bif decide (q_10 < (((List.replicate (mx 0 (mn x1 8)).toNat 0 : List Int).length : Nat) : Int)) then (if 0 ≤ IntKind.i64.wrap (8 * q_10) then (if 0 ≤ q_10 then (q_9[q_10.toNat]?).bind fun e_19 => octet_Store.l1 x0 x1 k (q_9.set q_10.toNat (IntKind.u8.wrap (shr .u64 x0 (IntKind.i64.wrap (8 * q_10))))) (IntKind.i64.wrap (q_10 + 1)) else none) else none) else some q_9)
abbrev octet_Store.R (κ : Ctx) (S : List HP) (x0 : Int) (x1 : Int) (r : List Int) : Ending → World → Prop := fun e w' => ∃ (A_r0 : Option Addr), ∃ (c_r0 : Nat), e = .returned (.slice A_r0 r.length c_r0) ∧ Ow κ w' (rowp A_r0 c_r0 5 1 (eI .u8) r :: S)
def octet_Store.m (k : Nat) (x0 : Int) (x1 : Int) : Option (List Int) := (if (0 : Int) ≤ (mx 0 (mn x1 8)) ∧ ((mx 0 (mn x1 8)) : Int) ≤ (mx 0 (mn x1 8)) ∧ (1 : Int) * (mx 0 (mn x1 8)) ≤ 281474976710656 then (octet_Store.l1 x0 x1 k (List.replicate (mx 0 (mn x1 8)).toNat 0 : List Int) 0).bind fun p_23 => some p_23 else none)

set_option maxRecDepth 100000 in
set_option maxHeartbeats 4000000 in
theorem octet_Store.ok (k : Nat) (x0 : Int) (x1 : Int) (r : List Int) (hm : octet_Store.m k x0 x1 = some r) (κ : Ctx) (w : World) (S : List HP) (ho : Ow κ w (S)) :
  Calls Try.prog 135 #[vw x0, vi x1] w (octet_Store.R κ S x0 x1 r) := by
 unfold octet_Store.m at hm
 generalize hRR : octet_Store.R κ S x0 x1 r = RR
 refine qen [(0, vw x0), (1, vi x1)] Try.func135 Try.ntmps135 ho fun a hs => ?_
 refine qse 1 [(0, vw x0), (1, vi x1)] hs fun a hs => ?_
 refine qsr fun K2 hK2 => ?_
 refine qpu 3 hs fun a hs => ?_
 obtain ⟨h_3, hm⟩ := ite_t hm
 refine Vk.step (Vk.makeOp (x := (.tmp 9)) (y := (.tmp 9)) (kl := .i64) (kc := .i64) (enc := (eI .u8)) (sz := 1) (by_ := 1) (t := 69) (e := 5) (0) (some 10) hs (by kernel_rfl) (by kernel_rfl) (by kernel_rfl) (by kernel_rfl) (by kernel_rfl) (by kernel_rfl) rfl (by decide) h_3 (by decide) fun A_4 w a hs => ?_)
 refine qpk 1 [0, 5] hs fun a hs => hK2 _ _ ?_
 clear hK2
 refine Vk.seq fun K6 hK6 => ?_
 refine qsk 3 [0, 5, 12, 13] hs fun a hs => ?_
 refine wp_block ?_
 obtain ⟨r8, hl8, hm⟩ := bind_t hm
 have hx8 : ∀ (p_23 : List Int), r8 = p_23 → ∀ (a : Act) (w : World), St 26 a w κ [(5, .slice A_4 p_23.length ((mx 0 (mn x1 8)).toNat))] (rowp A_4 ((mx 0 (mn x1 8)).toNat) 5 1 (eI .u8) p_23 :: S) → K6 a w := by
  intro p_23 he a w hs
  subst r8
  refine hK6 _ _ ?_
  clear hK6
  refine qse 2 [(4, .slice A_4 p_23.length ((mx 0 (mn x1 8)).toNat))] hs fun a hs => ?_
  refine wp_ret ?_
  exact qr1 (.slice A_4 p_23.length ((mx 0 (mn x1 8)).toNat)) hs rfl hRR (by cases hm; exact ⟨A_4, (mx 0 (mn x1 8)).toNat, rfl, hs.own⟩)
 refine Vk.loopBy (fun k (s : List Int × Int) a w => octet_Store.l1 x0 x1 k s.1 s.2 = some r8 ∧ St 26 a w κ [(0, vw x0), (5, .slice A_4 s.1.length ((mx 0 (mn x1 8)).toNat)), (12, vi (((List.replicate (mx 0 (mn x1 8)).toNat 0 : List Int).length : Nat) : Int)), (13, vi s.2)] (rowp A_4 ((mx 0 (mn x1 8)).toNat) 5 1 (eI .u8) s.1 :: S)) k ((List.replicate (mx 0 (mn x1 8)).toNat 0 : List Int), 0) ⟨hl8, hs.go [0, 5, 12, 13] [0] 1 (by kernel_rfl) (by kernel_rfl) (by kernel_rfl)⟩ (fun s a w h => by obtain ⟨h1, _⟩ := h; simp [octet_Store.l1] at h1) (fun k KL8 ih s a w h => ?_)
 obtain ⟨q_9, q_10⟩ := s
 obtain ⟨hm, hs⟩ := h
 try dsimp only at hm hs
 rw [octet_Store.l1] at hm
 refine qsk 1 [0, 5, 12, 13, 14] hs fun a hs => ?_
 refine Vk.seq fun K12 hK12 => ?_
 refine qcs (decide (q_10 < (((List.replicate (mx 0 (mn x1 8)).toNat 0 : List Int).length : Nat) : Int))) hs (fun hb => ?_) fun hb => ?_
 ·replace hm := bif_t hm hb
  refine wp_skip ?_
  refine hK12 _ _ ?_
  clear hK12
  refine Vk.seq fun K13 hK13 => ?_
  refine wp_block ?_
  refine qse 2 [(0, vw x0), (5, .slice A_4 q_9.length ((mx 0 (mn x1 8)).toNat)), (6, vi q_10), (12, vi (((List.replicate (mx 0 (mn x1 8)).toNat 0 : List Int).length : Nat) : Int)), (13, vi q_10)] hs fun a hs => ?_
  refine Vk.region ?_
  refine qpu 5 hs fun a hs => ?_
  obtain ⟨h_15, hm⟩ := ite_t hm
  refine qva (vw (shr .u64 x0 (IntKind.i64.wrap (8 * q_10)))) (op := (.binOp .shr 32 (.tmp 18) (.tmp 20) 3)) hs (fun o ho => run_shr (k' := .i64) ho (by kernel_rfl) (by kernel_rfl) h_15 _) fun a hs => ?_
  refine qpu 1 hs fun a hs => ?_
  obtain ⟨h_16, hm⟩ := ite_t hm
  obtain ⟨e_19, h_17, hm⟩ := bind_t hm
  obtain ⟨b_20, o_21, hA_22, h_18⟩ := Sl.elem (Ow.rowSl 0 hs.own rfl) h_17
  refine qva (.pointer (some ⟨b_20, o_21 + q_10.toNat * 1, none⟩)) (op := (.indexAddr 69 (.tmp 16) (.tmp 17))) hs (fun o ho => run_idxSlc (k := .i64) ho (cap := (mx 0 (mn x1 8)).toNat) (len := q_9.length) ((congrArg (fun A => Value.slice A (q_9.length) ((mx 0 (mn x1 8)).toNat)) hA_22) ▸ (by kernel_rfl)) (by kernel_rfl) (by kernel_rfl) (idx_ok h_16 h_17) _) fun a hs => ?_
  refine Vk.step (Vk.storeRow (T := 5) (ty := 5) (x := (.tmp 23)) (y := (.tmp 22)) (o := o_21) (m := q_10.toNat) (IntKind.u8.wrap (shr .u64 x0 (IntKind.i64.wrap (8 * q_10)))) 0 hs (by kernel_rfl) (by kernel_rfl) (by kernel_rfl) hA_22 rfl (by kernel_rfl) (by kernel_rfl) rfl (by kernel_rfl) rfl (lt_of_get h_17) fun a w hs => ?_)
  replace hs : St 26 a w κ [(0, vw x0), (5, .slice A_4 q_9.length ((mx 0 (mn x1 8)).toNat)), (6, vi q_10), (12, vi (((List.replicate (mx 0 (mn x1 8)).toNat 0 : List Int).length : Nat) : Int)), (13, vi q_10), (16, .slice A_4 q_9.length ((mx 0 (mn x1 8)).toNat)), (17, vi q_10), (18, vw x0), (19, vi q_10), (20, vi (IntKind.i64.wrap (8 * q_10))), (21, vw (shr .u64 x0 (IntKind.i64.wrap (8 * q_10)))), (22, .int .u8 (IntKind.u8.wrap (shr .u64 x0 (IntKind.i64.wrap (8 * q_10))))), (23, .pointer (some ⟨b_20, o_21 + q_10.toNat * 1, none⟩))] (rowp A_4 ((mx 0 (mn x1 8)).toNat) 5 1 (eI .u8) (q_9.set q_10.toNat (IntKind.u8.wrap (shr .u64 x0 (IntKind.i64.wrap (8 * q_10))))) :: S) := hs.pick [0, 5, 6, 12, 13, 16, 17, 18, 19, 20, 21, 22, 23] (by kernel_rfl)
  replace hs := hs.conv2 (L' := [(0, vw x0), (5, .slice A_4 ((q_9.set q_10.toNat (IntKind.u8.wrap (shr .u64 x0 (IntKind.i64.wrap (8 * q_10))))).length) ((mx 0 (mn x1 8)).toNat)), (6, vi q_10), (12, vi (((List.replicate (mx 0 (mn x1 8)).toNat 0 : List Int).length : Nat) : Int)), (13, vi q_10), (16, .slice A_4 ((q_9.set q_10.toNat (IntKind.u8.wrap (shr .u64 x0 (IntKind.i64.wrap (8 * q_10))))).length) ((mx 0 (mn x1 8)).toNat)), (17, vi q_10), (18, vw x0), (19, vi q_10), (20, vi (IntKind.i64.wrap (8 * q_10))), (21, vw (shr .u64 x0 (IntKind.i64.wrap (8 * q_10)))), (22, .int .u8 (IntKind.u8.wrap (shr .u64 x0 (IntKind.i64.wrap (8 * q_10))))), (23, .pointer (some ⟨b_20, o_21 + q_10.toNat * 1, none⟩))]) (S' := rowp A_4 ((mx 0 (mn x1 8)).toNat) 5 1 (eI .u8) (q_9.set q_10.toNat (IntKind.u8.wrap (shr .u64 x0 (IntKind.i64.wrap (8 * q_10))))) :: S) (by simp only [List.length_set]) (rfl)
  refine qpk 0 [0, 5, 12, 13] hs fun a hs => hK13 _ _ ?_
  clear hK13
  refine Vk.region ?_
  refine qpk 2 [0, 5, 12, 13] hs fun a hs => ?_
  refine ih ((q_9.set q_10.toNat (IntKind.u8.wrap (shr .u64 x0 (IntKind.i64.wrap (8 * q_10))))), (IntKind.i64.wrap (q_10 + 1))) _ _ ⟨hm, hs.go [0, 5, 12, 13] [0] 1 (by kernel_rfl) (by kernel_rfl) (by kernel_rfl)⟩
 ·replace hm := bif_f hm hb
  refine wp_exit ?_
  exact hx8 q_9 (Option.some.inj hm).symm _ _ (hs.go [5] [0] 1 (by kernel_rfl) (by kernel_rfl) (by kernel_rfl))


def guard_Bytes.j1 (k : Nat) (p_73 : List Int) (p_75 : Twire_Machine) : Option ((List Int × Twire_Machine)) := some (p_73, p_75)
def guard_Bytes.l1 (x1 : List Cells) : Nat → Int → Int → Twire_Machine → (List Int) → Option (Sum (Twire_Machine × List Int × Int) (Twire_Machine × List Int × Int))
 | 0, _, _, _, _ => none
 | k + 1, q_16, q_17, q_18, q_21 => (bif decide (q_17 < ((x1.length : Nat) : Int)) then (if 0 ≤ q_17 then (x1[q_17.toNat]?).bind fun e_29 => (if e_29.length = 3 then (bif decide (q_16 < 1) then some (.inl (q_18, q_21, q_16)) else (octet_Low.m k (IntKind.i64.wrap (8 * (mn q_16 8)))).bind fun v_43 => (guard_masked.m k q_18 e_29 v_43).bind fun v_46 => (octet_Store.m k v_46.1 (mn q_16 8)).bind fun v_49 => (if (q_21.length + v_49.length) * 1 ≤ 140737488355328 then guard_Bytes.l1 x1 k (IntKind.i64.wrap (q_16 - 8)) (IntKind.i64.wrap (q_17 + 1)) v_46.2 (q_21 ++ v_49) else none)) else none) else none) else some (.inr (q_18, q_21, q_16)))
abbrev guard_Bytes.R (κ : Ctx) (S : List HP) (x0 : Twire_Machine) (x1 : List Cells) (x2 : Int) (b_x0 : Nat) (A_x1 : Option Addr) (c_x1 : Nat) (r : (List Int × Twire_Machine)) : Ending → World → Prop := fun e w' => ∃ (A_r0 : Option Addr), ∃ (c_r0 : Nat), e = .returned (.slice A_r0 r.1.length c_r0) ∧ Ow κ w' (rowp A_r0 c_r0 5 1 (eI .u8) r.1 :: Twire_Machine.own b_x0 r.2 :: S)
def guard_Bytes.m (k : Nat) (x0 : Twire_Machine) (x1 : List Cells) (x2 : Int) : Option (List Int × Twire_Machine) := (guard_Bytes.l1 x1 k x2 0 x0 ([] : List Int)).bind fun x => match x with | .inl (p_55, p_58, p_59) => guard_Bytes.j1 k p_58 p_55 | .inr (p_60, p_63, p_64) => guard_Bytes.j1 k p_63 p_60

set_option maxRecDepth 100000 in
set_option maxHeartbeats 4000000 in
theorem guard_Bytes.ok (k : Nat) (x0 : Twire_Machine) (x1 : List Cells) (x2 : Int) (r : (List Int × Twire_Machine)) (hm : guard_Bytes.m k x0 x1 x2 = some r) (κ : Ctx) (w : World) (S : List HP) (b_x0 : Nat) (A_x1 : Option Addr) (c_x1 : Nat) (hx_x1 : Sl κ S A_x1 c_x1 3 eC x1) (ho : Ow κ w (Twire_Machine.own b_x0 x0 :: S)) :
  Calls Try.prog 61 #[pp b_x0, .slice A_x1 x1.length c_x1, vi x2] w (guard_Bytes.R κ S x0 x1 x2 b_x0 A_x1 c_x1 r) := by
 unfold guard_Bytes.m at hm
 generalize hRR : guard_Bytes.R κ S x0 x1 x2 b_x0 A_x1 c_x1 r = RR
 refine enterM [(0, pp b_x0), (1, .slice A_x1 x1.length c_x1), (2, vi x2)] Try.func61 Try.ntmps61 ho fun a hs => ?_
 refine qsr fun K1 hK1 => ?_
 refine qbx 0 41 [cp b_x0] 3 hs fun b_2 w a hs => ?_
 refine qpk 1 [1, 2, 3] hs fun a hs => hK1 _ _ ?_
 clear hK1
 refine qsr fun K3 hK3 => ?_
 refine qal 69 [C.slc none 0 0] 7 hs fun b_4 w a hs => ?_
 refine qpk 0 [1, 2, 3, 7] hs fun a hs => hK3 _ _ ?_
 clear hK3
 refine Vk.seq fun K5 hK5 => ?_
 have hj5 : ∀ (p_73 : List Int) (p_75 : Twire_Machine), guard_Bytes.j1 k p_73 p_75 = some r → ∀ (A_71 : Option Addr) (c_72 : Nat) (dm_74 : Nat) (a : Act) (w : World), St ⟨26, [mkD dm_74]⟩ a w κ [(7, pp b_4)] (pt b_4 (blk [C.slc A_71 p_73.length c_72] 69) :: rowp A_71 c_72 5 1 (eI .u8) p_73 :: pt dm_74 dfD :: Twire_Machine.own b_x0 p_75 :: S) → K5 a w := by
  intro p_73 p_75 hm A_71 c_72 dm_74 a w hs
  unfold guard_Bytes.j1 at hm
  refine hK5 _ _ ?_
  refine qsr fun K76 hK76 => ?_
  refine qld 0 (C.slc A_71 p_73.length c_72) hs rfl fun a hs => ?_
  refine qpk 1 [6] hs fun a hs => hK76 _ _ ?_
  clear hK76
  refine wp_ret ?_
  refine leaves1 2 hs rfl rfl fun a w hs => ?_
  replace hs : St 26 a w κ [(6, .slice A_71 p_73.length c_72)] (pt b_4 (blk [C.slc A_71 p_73.length c_72] 69) :: rowp A_71 c_72 5 1 (eI .u8) p_73 :: Twire_Machine.own b_x0 p_75 :: S) := hs.pick [6] (by kernel_rfl)
  exact qr1 (.slice A_71 p_73.length c_72) hs rfl hRR (by cases hm; exact ⟨A_71, c_72, rfl, hs.own.drop⟩)
 refine qsr fun K6 hK6 => ?_
 refine qpu 2 hs fun a hs => ?_
 refine Vk.step (Vk.call (some 12) 134 #[.slice A_x1 x1.length c_x1, vi x2] hs (by kernel_rfl) (by kernel_rfl) (by kernel_rfl) ?_)
 refine Vk.enterI [(0, .slice A_x1 x1.length c_x1), (1, vi x2)] Try.func134 rfl Try.ntmps134 (by kernel_rfl) (Nat.le_of_ble_eq_true (by kernel_rfl)) hs.own fun KR7 hKR7 hKP7 a hs => ?_
 refine qsr fun K8 hK8 => ?_
 refine qbx 0 43 [C.slc A_x1 x1.length c_x1] 2 hs fun b_9 w a hs => ?_
 refine qbx 1 3 [ci x2] 3 hs fun b_10 w a hs => ?_
 refine qpe 1 [(2, pp b_9), (3, pp b_10)] hs fun a hs => hK8 _ _ ?_
 clear hK8
 refine qsk 2 [4] hs fun a hs => ?_
 refine wp_ret ?_
 refine hKP7 _ _ ?_
 refine hKR7 _ _ ?_
 refine Vk.ret1 (P := Try.prog) (fn := Try.f134) (.func (.func 164) #[] #[pp b_9, pp b_10]) hs rfl (by kernel_rfl) ⟨_, _, _, rfl, hs.own, fun a hs => ?_⟩
 refine qpk 0 [3, 7, 12] hs fun a hs => hK6 _ _ ?_
 clear hK6
 refine wp_block ?_
 replace hs := hs.pick [3, 7, 12] (L' := [(3, pp b_2), (7, pp b_4), (12, .func (.func 164) #[] #[pp b_9, pp b_10])]) (by kernel_rfl)
 refine rangeFn (gf := 164) (caps := #[pp b_9, pp b_10]) hs fun lp_12 dm_12 fm_12 Tm_12 Xr_12 Yr_12 w hX_12 hY_12 hT_12 ho => ?_
 refine Vk.enterI [(0, .func (.yield lp_12) #[] #[]), (1, pp b_9), (2, pp b_10)] Try.func164 rfl Try.ntmps164 (by kernel_rfl) (Nat.le_of_ble_eq_true (by kernel_rfl)) ho fun KR12 hKR12 hKP12 a hs => ?_
 refine tailK fun KN12 hKN12 => ?_
 refine qsr fun K13 hK13 => ?_
 refine qld 3 (C.slc A_x1 x1.length c_x1) hs rfl fun a hs => ?_
 refine qpe 2 [(0, .func (.yield lp_12) #[] #[]), (2, pp b_10), (6, .slice A_x1 x1.length c_x1), (7, vi ((x1.length : Nat) : Int)), (8, vi 0)] hs fun a hs => hK13 _ _ ?_
 clear hK13
 refine wp_block ?_
 replace hs := hs.addRow none 5 1 (eI .u8)
 obtain ⟨r15, hl15, hm⟩ := bind_t hm
 have hx15_0 : ∀ (p_55 : Twire_Machine) (p_58 : List Int) (p_59 : Int), r15 = Sum.inl (p_55, p_58, p_59) → ∀ (A_56 : Option Addr) (c_57 : Nat) (a : Act) (w : World), St 25 a w κ [] (pt lp_12 Xr_12 :: pt dm_12 dfD :: Twire_Machine.own b_x0 p_55 :: pt b_2 (blk [cp b_x0] 41) :: pt b_4 (blk [C.slc A_56 p_58.length c_57] 69) :: rowp A_56 c_57 5 1 (eI .u8) p_58 :: pt b_9 (blk [C.slc A_x1 x1.length c_x1] 43) :: pt b_10 (blk [ci p_59] 3) :: S) → KR12 a w := by
  intro p_55 p_58 p_59 he A_56 c_57 a w hs
  subst r15
  refine hKR12 _ _ ?_
  refine Vk.ret0 (P := Try.prog) (fn := Try.f164) hs rfl ⟨_, _, 0, ⟨_, rfl⟩, hs.own, rfl, fun a w (hs : St ⟨26, [mkD dm_12]⟩ a w κ [(3, pp b_2), (7, pp b_4), (12, .func (.func 164) #[] #[pp b_9, pp b_10])] (pt dm_12 dfD :: Twire_Machine.own b_x0 p_55 :: pt b_2 (blk [cp b_x0] 41) :: pt b_4 (blk [C.slc A_56 p_58.length c_57] 69) :: rowp A_56 c_57 5 1 (eI .u8) p_58 :: pt b_9 (blk [C.slc A_x1 x1.length c_x1] 43) :: pt b_10 (blk [ci p_59] 3) :: S)) => ?_⟩
  exact hj5 p_58 p_55 hm A_56 c_57 dm_12 _ _ (hs.go [7] [3, 4, 0, 1] 7 (by kernel_rfl) (by kernel_rfl) (by kernel_rfl))
 have hx15_1 : ∀ (p_60 : Twire_Machine) (p_63 : List Int) (p_64 : Int), r15 = Sum.inr (p_60, p_63, p_64) → ∀ (A_61 : Option Addr) (c_62 : Nat) (a : Act) (w : World), St 25 a w κ [] (pt lp_12 Xr_12 :: pt dm_12 dfD :: Twire_Machine.own b_x0 p_60 :: pt b_2 (blk [cp b_x0] 41) :: pt b_4 (blk [C.slc A_61 p_63.length c_62] 69) :: rowp A_61 c_62 5 1 (eI .u8) p_63 :: pt b_9 (blk [C.slc A_x1 x1.length c_x1] 43) :: pt b_10 (blk [ci p_64] 3) :: S) → KN12 a w := by
  intro p_60 p_63 p_64 he A_61 c_62 a w hs
  subst r15
  refine hKN12 _ _ ?_
  refine Vk.end0 (P := Try.prog) (fn := Try.f164) hs rfl ⟨_, _, 0, ⟨_, rfl⟩, hs.own, rfl, fun a w (hs : St ⟨26, [mkD dm_12]⟩ a w κ [(3, pp b_2), (7, pp b_4), (12, .func (.func 164) #[] #[pp b_9, pp b_10])] (pt dm_12 dfD :: Twire_Machine.own b_x0 p_60 :: pt b_2 (blk [cp b_x0] 41) :: pt b_4 (blk [C.slc A_61 p_63.length c_62] 69) :: rowp A_61 c_62 5 1 (eI .u8) p_63 :: pt b_9 (blk [C.slc A_x1 x1.length c_x1] 43) :: pt b_10 (blk [ci p_64] 3) :: S)) => ?_⟩
  exact hj5 p_63 p_60 hm A_61 c_62 dm_12 _ _ (hs.go [7] [3, 4, 0, 1] 7 (by kernel_rfl) (by kernel_rfl) (by kernel_rfl))
 refine Vk.loopBy (fun k (s : Int × Int × Twire_Machine × List Int) a w => ∃ (A_19 : Option Addr), ∃ (c_20 : Nat), guard_Bytes.l1 x1 k s.1 s.2.1 s.2.2.1 s.2.2.2 = some r15 ∧ St 25 a w κ [(0, .func (.yield lp_12) #[] #[]), (2, pp b_10), (6, .slice A_x1 x1.length c_x1), (7, vi ((x1.length : Nat) : Int)), (8, vi s.2.1)] (pt b_10 (blk [ci s.1] 3) :: pt lp_12 Xr_12 :: pt dm_12 dfD :: Twire_Machine.own b_x0 s.2.2.1 :: pt b_2 (blk [cp b_x0] 41) :: pt b_4 (blk [C.slc A_19 s.2.2.2.length c_20] 69) :: rowp A_19 c_20 5 1 (eI .u8) s.2.2.2 :: pt b_9 (blk [C.slc A_x1 x1.length c_x1] 43) :: S)) k (x2, 0, x0, ([] : List Int)) ⟨none, 0, hl15, hs.go [0, 2, 6, 7, 8] [3, 1, 2, 7, 6, 5, 0, 4] 8 (by kernel_rfl) (by kernel_rfl) (by kernel_rfl)⟩ (fun s a w h => by obtain ⟨_, _, h1, _⟩ := h; simp [guard_Bytes.l1] at h1) (fun k KL15 ih s a w h => ?_)
 obtain ⟨q_16, q_17, q_18, q_21⟩ := s
 obtain ⟨A_19, c_20, hm, hs⟩ := h
 try dsimp only at hm hs
 rw [guard_Bytes.l1] at hm
 refine qsk 1 [0, 2, 6, 7, 8, 9] hs fun a hs => ?_
 refine Vk.seq fun K23 hK23 => ?_
 refine qcs (decide (q_17 < ((x1.length : Nat) : Int))) hs (fun hb => ?_) fun hb => ?_
 ·replace hm := bif_t hm hb
  refine wp_skip ?_
  refine hK23 _ _ ?_
  clear hK23
  refine Vk.seq fun K24 hK24 => ?_
  refine wp_block ?_
  refine qsr fun K25 hK25 => ?_
  obtain ⟨h_26, hm⟩ := ite_t hm
  obtain ⟨e_29, h_27, hm⟩ := bind_t hm
  obtain ⟨b_30, o_31, hA_32, h_28⟩ := Sl.elem hx_x1 h_27
  refine qva (.pointer (some ⟨b_30, o_31 + q_17.toNat * 3, none⟩)) (op := (.indexAddr 43 (.tmp 6) (.tmp 8))) hs (fun o ho => run_idxSlc (k := .i64) ho (cap := c_x1) (len := x1.length) ((congrArg (fun A => Value.slice A (x1.length) (c_x1)) hA_32) ▸ (by kernel_rfl)) (by kernel_rfl) (by kernel_rfl) (idx_ok h_26 h_27) _) fun a hs => ?_
  obtain ⟨h_33, hm⟩ := ite_t hm
  refine qva (.agg (vals e_29)) (op := (.load 28 (.tmp 10))) hs (fun o ho => run_loadN (cs := e_29) ho (by kernel_rfl) (by kernel_rfl) h_33 h_28 _ hs.own.drop.drop.drop.drop.drop.drop.drop.drop) fun a hs => ?_
  refine qal 28 [ci 0, ci 0, ci 0] 5 hs fun b_34 w a hs => ?_
  refine qsb 0 e_29 hs rfl h_33 rfl fun a w hs => ?_
  refine qpk 0 [0, 2, 5, 6, 7, 8] hs fun a hs => hK25 _ _ ?_
  clear hK25
  refine Vk.seq fun K35 hK35 => ?_
  refine qsr fun K36 hK36 => ?_
  refine qld 1 (ci q_16) hs rfl fun a hs => ?_
  refine qpu 2 hs fun a hs => ?_
  rcases Bool.eq_false_or_eq_true (decide (q_16 < 1)) with hb | hb
  ·replace hm := bif_t hm hb
   replace hs := hs.known (t := 14) hb (by kernel_rfl)
   refine qpk 7 [0, 2, 6, 7, 8, 21] hs fun a hs => hK36 _ _ ?_
   refine qct hs ?_
   refine wp_ret ?_
   refine hKP12 _ _ ?_
   exact hx15_0 q_18 q_21 q_16 (Option.some.inj hm).symm A_19 c_20 _ _ (hs.go [] [2, 3, 4, 5, 6, 7, 8, 1] 9 (by kernel_rfl) (by kernel_rfl) (by kernel_rfl))
  ·replace hm := bif_f hm hb
   replace hs := hs.known (t := 14) hb (by kernel_rfl)
   refine qpu 1 hs fun a hs => ?_
   refine qlw 0 hs rfl h_33 fun a hs => ?_
   refine qld 1 (ci q_16) hs rfl fun a hs => ?_
   refine qpu 1 hs fun a hs => ?_
   refine yieldOp 2 #[.agg (vals e_29), vi (mn q_16 8)] hs hX_12 hY_12 hT_12 rfl fun KA37 QB37 a hqB37 hno37 hKB37 hb37 he37 hs => ?_
   replace hs := hs.pick [3, 7, 13, 14] (L' := [(3, pp b_2), (7, pp b_4), (13, .agg (vals e_29)), (14, vi (mn q_16 8))]) (by kernel_rfl)
   refine seqI fun K38 hK38 => ?_
   refine regionI ?_
   refine qal 28 [ci 0, ci 0, ci 0] 8 hs fun b_39 w a hs => ?_
   refine qsb 0 e_29 hs rfl h_33 rfl fun a w hs => ?_
   refine qpk 0 [3, 7, 8, 14] hs fun a hs => hK38 _ _ ?_
   clear hK38
   refine regionI ?_
   refine qpk 1 [3, 7, 8, 9] hs fun a hs => ?_
   refine hb37 3 _ _ _ _ _ hs rfl fun w hs => ?_
   replace hs : St 26 a w κ [(3, pp b_2), (7, pp b_4), (8, pp b_39), (9, vi (mn q_16 8))] (pt b_39 (blk e_29 28) :: pt b_34 (blk e_29 28) :: pt b_10 (blk [ci q_16] 3) :: pt lp_12 Yr_12 :: pt dm_12 dfD :: Twire_Machine.own b_x0 q_18 :: pt b_2 (blk [cp b_x0] 41) :: pt b_4 (blk [C.slc A_19 q_21.length c_20] 69) :: rowp A_19 c_20 5 1 (eI .u8) q_21 :: pt b_9 (blk [C.slc A_x1 x1.length c_x1] 43) :: S) := hs.pick [3, 7, 8, 9] (by kernel_rfl)
   refine blockI ?_
   obtain ⟨C_40, hC_40⟩ := qC hs.own.f5.drop
   refine qdrI 9 κ C_40 hs fun w hs hqC_40 => ?_
   have hcl := qO hC_40 hs.own.f5.drop
   refine qdp (fuel := 8) [3, 4, 7] hs hcl hqC_40 fun a hs => ?_
   refine qdl 0 6 (C.slc A_19 q_21.length c_20) hs hcl hqC_40 hC_40 rfl fun a hs => ?_
   refine qdl 1 5 (cp b_x0) hs hcl hqC_40 hC_40 rfl fun a hs => ?_
   refine qdw 2 0 hs hcl hqC_40 hC_40 rfl h_33 fun a hs => ?_
   obtain ⟨v_43, h_42, hm⟩ := bind_t hm
   refine qdc 5 (octet_Low.ok _ _ _ h_42 _ _ (pt b_39 (blk e_29 28) :: pt b_34 (blk e_29 28) :: pt b_10 (blk [ci q_16] 3) :: pt lp_12 Yr_12 :: pt dm_12 dfD :: Twire_Machine.own b_x0 q_18 :: pt b_2 (blk [cp b_x0] 41) :: pt b_4 (blk [C.slc A_19 q_21.length c_20] 69) :: rowp A_19 c_20 5 1 (eI .u8) q_21 :: pt b_9 (blk [C.slc A_x1 x1.length c_x1] 43) :: S) hs.own) hs fun w a hs => ?_
   replace hcl := qO hC_40 hs.own.f5.drop
   refine ⟨fun _ => hcl, ?_⟩
   obtain ⟨v_46, h_45, hm⟩ := bind_t hm
   refine qdc 6 (guard_masked.ok _ _ _ _ _ h_45 _ _ _ b_x0 hs.own.f5) hs fun w a hs => ?_
   replace hcl := qO hC_40 hs.own.drop
   refine ⟨fun _ => hcl, ?_⟩
   obtain ⟨v_49, h_48, hm⟩ := bind_t hm
   refine Vk.dOnly (i := 8) (by kernel_rfl) (Vk.call (some 23) 135 #[vw v_46.1, vi (mn q_16 8)] hs (by kernel_rfl) (by kernel_rfl) (by kernel_rfl) ?_)
   refine (octet_Store.ok k v_46.1 (mn q_16 8) v_49 h_48 κ w (Twire_Machine.own b_x0 v_46.2 :: pt b_39 (blk e_29 28) :: pt b_34 (blk e_29 28) :: pt b_10 (blk [ci q_16] 3) :: pt lp_12 Yr_12 :: pt dm_12 dfD :: pt b_2 (blk [cp b_x0] 41) :: pt b_4 (blk [C.slc A_19 q_21.length c_20] 69) :: rowp A_19 c_20 5 1 (eI .u8) q_21 :: pt b_9 (blk [C.slc A_x1 x1.length c_x1] 43) :: S) hs.own).mono ?_
   rintro _ w ⟨Ar47x0_50, cr47x0_51, rfl, how⟩
   refine ⟨_, _, _, rfl, how, fun a hs => ?_⟩
   replace hcl := qO hC_40 hs.own.f1.drop.drop
   refine ⟨fun _ => hcl, ?_⟩
   obtain ⟨h_52, hm⟩ := ite_t hm
   refine Vk.dOnly (i := 9) (by kernel_rfl) (Vk.appendOp (x := (.tmp 15)) (y := (.tmp 23)) (e := 5) (t := 69) (by_ := 1) (sz := 1) (enc := (eI .u8)) (A := A_19) (cap := c_20) (xs := q_21) (ys := v_49) (B := Ar47x0_50) (c2 := cr47x0_51) 9 (some 24) hs (by kernel_rfl) (by kernel_rfl) (by kernel_rfl) (by kernel_rfl) rfl (Sl.lift (fun w ho => (Ow.to (S' := rowp Ar47x0_50 cr47x0_51 5 1 (eI .u8) v_49 :: S) ho [0] 11 (by kernel_rfl) (by kernel_rfl))) (Ow.rowSl 0 (Ow.to (S' := rowp Ar47x0_50 cr47x0_51 5 1 (eI .u8) v_49 :: S) hs.own [0] 11 (by kernel_rfl) (by kernel_rfl)) rfl)) (by kernel_rfl) (by kernel_rfl) (by decide) (by decide) h_52 fun A_53 c_54 w a hs => ?_)
   refine ⟨fun h => absurd h (by decide), ?_⟩
   refine qsd 10 8 0 (C.slc A_53 ((q_21 ++ v_49).length) c_54) hs rfl fun a w hs => ?_
   refine ⟨fun h => absurd h (by decide), ?_⟩
   replace hs := hs.pick [] (L' := []) (by kernel_rfl)
   refine Vk.dDone (by kernel_rfl) ?_
   refine he37 5 _ _ _ _ _ hs rfl fun a w hs => ?_
   replace hs : St 25 a w κ [(0, .func (.yield lp_12) #[] #[]), (2, pp b_10), (5, pp b_34), (6, .slice A_x1 x1.length c_x1), (7, vi ((x1.length : Nat) : Int)), (8, vi q_17), (12, vi q_16), (13, .bool (decide (q_16 < 1))), (14, .bool false), (15, .func (.yield lp_12) #[] #[]), (16, .agg (vals e_29)), (17, vi q_16), (18, vi (mn q_16 8)), (19, .bool true)] (rowp Ar47x0_50 cr47x0_51 5 1 (eI .u8) v_49 :: Twire_Machine.own b_x0 v_46.2 :: pt b_39 (blk e_29 28) :: pt b_34 (blk e_29 28) :: pt b_10 (blk [ci q_16] 3) :: pt lp_12 Xr_12 :: pt dm_12 dfD :: pt b_2 (blk [cp b_x0] 41) :: pt b_4 (blk [C.slc A_53 ((q_21 ++ v_49).length) c_54] 69) :: rowp A_53 c_54 5 1 (eI .u8) (q_21 ++ v_49) :: pt b_9 (blk [C.slc A_x1 x1.length c_x1] 43) :: S) := hs.pick [0, 2, 5, 6, 7, 8, 12, 13, 14, 15, 16, 17, 18, 19] (by kernel_rfl)
   refine qpe 2 [(0, .func (.yield lp_12) #[] #[]), (2, pp b_10), (6, .slice A_x1 x1.length c_x1), (7, vi ((x1.length : Nat) : Int)), (8, vi q_17), (15, .func (.yield lp_12) #[] #[]), (16, .agg (vals e_29)), (17, vi q_16), (18, vi (mn q_16 8)), (19, .bool true), (20, .bool false), (21, .bool false)] hs fun a hs => hK36 _ _ ?_
   refine qcf hs ?_
   refine wp_skip ?_
   refine hK35 _ _ ?_
   clear hK35
   refine Vk.region ?_
   refine qld 4 (ci q_16) hs rfl fun a hs => ?_
   refine qpu 1 hs fun a hs => ?_
   refine qst 4 0 (ci (IntKind.i64.wrap (q_16 - 8))) hs rfl fun a w hs => ?_
   refine qpk 0 [0, 2, 6, 7, 8, 15, 16, 17, 18, 19, 20] hs fun a hs => hK24 _ _ ?_
   clear hK24
   refine Vk.region ?_
   refine qpk 2 [0, 2, 6, 7, 8, 15, 16, 17, 18, 19, 20] hs fun a hs => ?_
   refine ih ((IntKind.i64.wrap (q_16 - 8)), (IntKind.i64.wrap (q_17 + 1)), v_46.2, (q_21 ++ v_49)) _ _ ⟨A_53, c_54, hm, hs.go [0, 2, 6, 7, 8] [4, 5, 6, 1, 7, 8, 9, 10] 11 (by kernel_rfl) (by kernel_rfl) (by kernel_rfl)⟩
 ·replace hm := bif_f hm hb
  refine wp_exit ?_
  exact hx15_1 q_18 q_21 q_16 (Option.some.inj hm).symm A_19 c_20 _ _ (hs.go [] [1, 2, 3, 4, 5, 6, 7, 0] 8 (by kernel_rfl) (by kernel_rfl) (by kernel_rfl))


abbrev slices_Clone_api_Op_api_Op.R (κ : Ctx) (S : List HP) (x0 : List Tapi_Op) (A_x0 : Option Addr) (c_x0 : Nat) (r : List Tapi_Op) : Ending → World → Prop := fun e w' => ∃ (A_r0 : Option Addr), ∃ (c_r0 : Nat), e = .returned (.slice A_r0 r.length c_r0) ∧ Ow κ w' (rowp A_r0 c_r0 93 6 Tapi_Op.cells r :: S)
def slices_Clone_api_Op_api_Op.m (k : Nat) (x0 : List Tapi_Op) : Option (List Tapi_Op) := (if (([] : List Tapi_Op).length + x0.length) * 48 ≤ 140737488355328 then some (([] : List Tapi_Op) ++ x0) else none)

set_option maxRecDepth 100000 in
set_option maxHeartbeats 4000000 in
theorem slices_Clone_api_Op_api_Op.ok (k : Nat) (x0 : List Tapi_Op) (r : List Tapi_Op) (hm : slices_Clone_api_Op_api_Op.m k x0 = some r) (κ : Ctx) (w : World) (S : List HP) (A_x0 : Option Addr) (c_x0 : Nat) (hx_x0 : Sl κ S A_x0 c_x0 6 Tapi_Op.cells x0) (ho : Ow κ w (S)) :
  Calls Try.prog 138 #[.slice A_x0 x0.length c_x0] w (slices_Clone_api_Op_api_Op.R κ S x0 A_x0 c_x0 r) := by
 unfold slices_Clone_api_Op_api_Op.m at hm
 rcases A_x0 with _ | p_x0
 ·obtain rfl : c_x0 = 0 := hx_x0.none rfl
  obtain rfl : x0 = [] := List.length_eq_zero_iff.1 (Nat.le_zero.1 hx_x0.le)
  replace hm : some ([] : List Tapi_Op) = some r := by simpa using hm
  refine Vk.enter [(0, .slice none 0 0)] Try.func138 rfl Try.ntmps138 (by kernel_rfl) (Nat.le_of_ble_eq_true (by kernel_rfl)) ho fun a hs => ?_
  refine Vk.seq fun K1 hK1 => ?_
  refine Vk.region ?_
  refine Vk.pures 1 [(2, .slice none 0 0)] hs (by kernel_rfl) fun a hs => ?_
  replace hs := hs.pick [0] (L' := [(0, .slice none 0 0)]) (by kernel_rfl)
  refine Vk.done (by kernel_rfl) ?_
  refine hK1 _ _ ?_
  clear hK1
  refine Vk.seq fun K2 hK2 => ?_
  refine Vk.seq fun K3 hK3 => ?_
  refine Vk.region ?_
  refine Vk.pures 2 [(4, .bool true), (3, .slice none 0 0)] hs (by kernel_rfl) fun a hs => ?_
  replace hs := hs.pick [0, 4] (L' := [(0, .slice none 0 0), (4, .bool true)]) (by kernel_rfl)
  refine Vk.done (by kernel_rfl) ?_
  refine hK3 _ _ ?_
  clear hK3
  refine Vk.condT hs (by kernel_rfl) (by kernel_rfl) ?_
  refine Vk.seq fun K4 hK4 => ?_
  refine Vk.region ?_
  refine Vk.pures 1 [(2, .slice none 0 0)] hs (by kernel_rfl) fun a hs => ?_
  replace hs := hs.pick [2] (L' := [(2, .slice none 0 0)]) (by kernel_rfl)
  refine Vk.done (by kernel_rfl) ?_
  refine hK4 _ _ ?_
  clear hK4
  refine wp_ret ?_
  replace hs := hs.addRow none 93 6 Tapi_Op.cells
  exact Vk.ret1 (P := Try.prog) (fn := Try.f138) (R := slices_Clone_api_Op_api_Op.R κ S [] none 0 r) (.slice none (([] : List Tapi_Op).length) 0) hs rfl (by kernel_rfl) (by obtain rfl := Option.some.inj hm; exact ⟨none, 0, rfl, hs.own⟩)
 ·skip
  refine Vk.enter [(0, .slice (some p_x0) x0.length c_x0)] Try.func138 rfl Try.ntmps138 (by kernel_rfl) (Nat.le_of_ble_eq_true (by kernel_rfl)) ho fun a hs => ?_
  refine Vk.seq fun K1 hK1 => ?_
  refine Vk.region ?_
  refine Vk.pures 1 [(2, .slice none 0 0)] hs (by kernel_rfl) fun a hs => ?_
  replace hs := hs.pick [0] (L' := [(0, .slice (some p_x0) x0.length c_x0)]) (by kernel_rfl)
  refine Vk.done (by kernel_rfl) ?_
  refine hK1 _ _ ?_
  clear hK1
  refine Vk.seq fun K2 hK2 => ?_
  refine Vk.seq fun K3 hK3 => ?_
  refine Vk.region ?_
  refine Vk.pures 2 [(4, .bool false), (3, .slice (some p_x0) x0.length c_x0)] hs (by kernel_rfl) fun a hs => ?_
  replace hs := hs.pick [0, 4] (L' := [(0, .slice (some p_x0) x0.length c_x0), (4, .bool false)]) (by kernel_rfl)
  refine Vk.done (by kernel_rfl) ?_
  refine hK3 _ _ ?_
  clear hK3
  refine Vk.condF hs (by kernel_rfl) (by kernel_rfl) ?_
  refine wp_skip ?_
  refine hK2 _ _ ?_
  clear hK2
  refine Vk.seq fun K4 hK4 => ?_
  refine Vk.region ?_
  refine Vk.step (Vk.buildOp (sz := 6) (by_ := 48) (t := 59) (e := 93) (parts := #[]) (zs := vals [C.int .i64 0, C.int .i64 0, C.int .i64 0, C.int .i64 0, C.int .i64 0, C.int .u64 0]) ([] : List Tapi_Op) Tapi_Op.cells (some 5) hs (by kernel_rfl) (by kernel_rfl) (by kernel_rfl) (by kernel_rfl) (by decide) rfl (fun x _ => rfl) (Nat.le_of_ble_eq_true (by kernel_rfl)) (by kernel_rfl) fun A_5 w a hs => ?_)
  refine Vk.pures 1 [(6, .slice (some p_x0) x0.length c_x0)] hs (by kernel_rfl) fun a hs => ?_
  obtain ⟨h_7, hm⟩ := ite_t hm
  refine Vk.step (Vk.appendOp (x := (.tmp 5)) (y := (.tmp 6)) (e := 93) (t := 59) (by_ := 48) (sz := 6) (enc := Tapi_Op.cells) (A := A_5) (cap := 0) (xs := ([] : List Tapi_Op)) (ys := x0) (B := (some p_x0)) (c2 := c_x0) 0 (some 7) hs (by kernel_rfl) (by kernel_rfl) (by kernel_rfl) (by kernel_rfl) rfl hx_x0.less (by kernel_rfl) (by kernel_rfl) (by decide) (by decide) h_7 fun A_8 c_9 w a hs => ?_)
  refine Vk.pures 1 [(2, .slice A_8 ((([] : List Tapi_Op) ++ x0).length) c_9)] hs (by kernel_rfl) fun a hs => ?_
  replace hs := hs.pick [2] (L' := [(2, .slice A_8 ((([] : List Tapi_Op) ++ x0).length) c_9)]) (by kernel_rfl)
  refine Vk.done (by kernel_rfl) ?_
  refine hK4 _ _ ?_
  clear hK4
  refine wp_ret ?_
  exact Vk.ret1 (P := Try.prog) (fn := Try.f138) (R := slices_Clone_api_Op_api_Op.R κ S x0 (some p_x0) c_x0 r) (.slice A_8 ((([] : List Tapi_Op) ++ x0).length) c_9) hs rfl (by kernel_rfl) (by obtain rfl := Option.some.inj hm; exact ⟨A_8, c_9, rfl, hs.own⟩)


abbrev slices_Clone_api_Span_api_Span.R (κ : Ctx) (S : List HP) (x0 : List Tapi_Span) (A_x0 : Option Addr) (c_x0 : Nat) (r : List Tapi_Span) : Ending → World → Prop := fun e w' => ∃ (A_r0 : Option Addr), ∃ (c_r0 : Nat), e = .returned (.slice A_r0 r.length c_r0) ∧ Ow κ w' (rowp A_r0 c_r0 175 3 Tapi_Span.cells r :: S)
def slices_Clone_api_Span_api_Span.m (k : Nat) (x0 : List Tapi_Span) : Option (List Tapi_Span) := (if (([] : List Tapi_Span).length + x0.length) * 24 ≤ 140737488355328 then some (([] : List Tapi_Span) ++ x0) else none)

set_option maxRecDepth 100000 in
set_option maxHeartbeats 4000000 in
theorem slices_Clone_api_Span_api_Span.ok (k : Nat) (x0 : List Tapi_Span) (r : List Tapi_Span) (hm : slices_Clone_api_Span_api_Span.m k x0 = some r) (κ : Ctx) (w : World) (S : List HP) (A_x0 : Option Addr) (c_x0 : Nat) (hx_x0 : Sl κ S A_x0 c_x0 3 Tapi_Span.cells x0) (ho : Ow κ w (S)) :
  Calls Try.prog 139 #[.slice A_x0 x0.length c_x0] w (slices_Clone_api_Span_api_Span.R κ S x0 A_x0 c_x0 r) := by
 unfold slices_Clone_api_Span_api_Span.m at hm
 rcases A_x0 with _ | p_x0
 ·obtain rfl : c_x0 = 0 := hx_x0.none rfl
  obtain rfl : x0 = [] := List.length_eq_zero_iff.1 (Nat.le_zero.1 hx_x0.le)
  replace hm : some ([] : List Tapi_Span) = some r := by simpa using hm
  refine Vk.enter [(0, .slice none 0 0)] Try.func139 rfl Try.ntmps139 (by kernel_rfl) (Nat.le_of_ble_eq_true (by kernel_rfl)) ho fun a hs => ?_
  refine Vk.seq fun K1 hK1 => ?_
  refine Vk.region ?_
  refine Vk.pures 1 [(2, .slice none 0 0)] hs (by kernel_rfl) fun a hs => ?_
  replace hs := hs.pick [0] (L' := [(0, .slice none 0 0)]) (by kernel_rfl)
  refine Vk.done (by kernel_rfl) ?_
  refine hK1 _ _ ?_
  clear hK1
  refine Vk.seq fun K2 hK2 => ?_
  refine Vk.seq fun K3 hK3 => ?_
  refine Vk.region ?_
  refine Vk.pures 2 [(4, .bool true), (3, .slice none 0 0)] hs (by kernel_rfl) fun a hs => ?_
  replace hs := hs.pick [0, 4] (L' := [(0, .slice none 0 0), (4, .bool true)]) (by kernel_rfl)
  refine Vk.done (by kernel_rfl) ?_
  refine hK3 _ _ ?_
  clear hK3
  refine Vk.condT hs (by kernel_rfl) (by kernel_rfl) ?_
  refine Vk.seq fun K4 hK4 => ?_
  refine Vk.region ?_
  refine Vk.pures 1 [(2, .slice none 0 0)] hs (by kernel_rfl) fun a hs => ?_
  replace hs := hs.pick [2] (L' := [(2, .slice none 0 0)]) (by kernel_rfl)
  refine Vk.done (by kernel_rfl) ?_
  refine hK4 _ _ ?_
  clear hK4
  refine wp_ret ?_
  replace hs := hs.addRow none 175 3 Tapi_Span.cells
  exact Vk.ret1 (P := Try.prog) (fn := Try.f139) (R := slices_Clone_api_Span_api_Span.R κ S [] none 0 r) (.slice none (([] : List Tapi_Span).length) 0) hs rfl (by kernel_rfl) (by obtain rfl := Option.some.inj hm; exact ⟨none, 0, rfl, hs.own⟩)
 ·skip
  refine Vk.enter [(0, .slice (some p_x0) x0.length c_x0)] Try.func139 rfl Try.ntmps139 (by kernel_rfl) (Nat.le_of_ble_eq_true (by kernel_rfl)) ho fun a hs => ?_
  refine Vk.seq fun K1 hK1 => ?_
  refine Vk.region ?_
  refine Vk.pures 1 [(2, .slice none 0 0)] hs (by kernel_rfl) fun a hs => ?_
  replace hs := hs.pick [0] (L' := [(0, .slice (some p_x0) x0.length c_x0)]) (by kernel_rfl)
  refine Vk.done (by kernel_rfl) ?_
  refine hK1 _ _ ?_
  clear hK1
  refine Vk.seq fun K2 hK2 => ?_
  refine Vk.seq fun K3 hK3 => ?_
  refine Vk.region ?_
  refine Vk.pures 2 [(4, .bool false), (3, .slice (some p_x0) x0.length c_x0)] hs (by kernel_rfl) fun a hs => ?_
  replace hs := hs.pick [0, 4] (L' := [(0, .slice (some p_x0) x0.length c_x0), (4, .bool false)]) (by kernel_rfl)
  refine Vk.done (by kernel_rfl) ?_
  refine hK3 _ _ ?_
  clear hK3
  refine Vk.condF hs (by kernel_rfl) (by kernel_rfl) ?_
  refine wp_skip ?_
  refine hK2 _ _ ?_
  clear hK2
  refine Vk.seq fun K4 hK4 => ?_
  refine Vk.region ?_
  refine Vk.step (Vk.buildOp (sz := 3) (by_ := 24) (t := 60) (e := 175) (parts := #[]) (zs := vals [C.int .i64 0, C.int .i64 0, C.int .i64 0]) ([] : List Tapi_Span) Tapi_Span.cells (some 5) hs (by kernel_rfl) (by kernel_rfl) (by kernel_rfl) (by kernel_rfl) (by decide) rfl (fun x _ => rfl) (Nat.le_of_ble_eq_true (by kernel_rfl)) (by kernel_rfl) fun A_5 w a hs => ?_)
  refine Vk.pures 1 [(6, .slice (some p_x0) x0.length c_x0)] hs (by kernel_rfl) fun a hs => ?_
  obtain ⟨h_7, hm⟩ := ite_t hm
  refine Vk.step (Vk.appendOp (x := (.tmp 5)) (y := (.tmp 6)) (e := 175) (t := 60) (by_ := 24) (sz := 3) (enc := Tapi_Span.cells) (A := A_5) (cap := 0) (xs := ([] : List Tapi_Span)) (ys := x0) (B := (some p_x0)) (c2 := c_x0) 0 (some 7) hs (by kernel_rfl) (by kernel_rfl) (by kernel_rfl) (by kernel_rfl) rfl hx_x0.less (by kernel_rfl) (by kernel_rfl) (by decide) (by decide) h_7 fun A_8 c_9 w a hs => ?_)
  refine Vk.pures 1 [(2, .slice A_8 ((([] : List Tapi_Span) ++ x0).length) c_9)] hs (by kernel_rfl) fun a hs => ?_
  replace hs := hs.pick [2] (L' := [(2, .slice A_8 ((([] : List Tapi_Span) ++ x0).length) c_9)]) (by kernel_rfl)
  refine Vk.done (by kernel_rfl) ?_
  refine hK4 _ _ ?_
  clear hK4
  refine wp_ret ?_
  exact Vk.ret1 (P := Try.prog) (fn := Try.f139) (R := slices_Clone_api_Span_api_Span.R κ S x0 (some p_x0) c_x0 r) (.slice A_8 ((([] : List Tapi_Span) ++ x0).length) c_9) hs rfl (by kernel_rfl) (by obtain rfl := Option.some.inj hm; exact ⟨A_8, c_9, rfl, hs.own⟩)

structure Tapi_Trace where
 n : Int
 ops : List Tapi_Op
 blocks : List Tapi_Span
 deriving Inhabited
def Tapi_Trace.obj (x : Tapi_Trace) (Aops : Option Addr) (cops : Nat) (Ablocks : Option Addr) (cblocks : Nat) : Cells := [C.int .i64 x.n, C.slc Aops x.ops.length cops, C.slc Ablocks x.blocks.length cblocks]

abbrev wire_Machine_Trace.R (κ : Ctx) (S : List HP) (x0 : Twire_Machine) (b_x0 : Nat) (g_x0 : Nat × Option Addr × Nat × Option Addr × Nat × Option Addr × Nat) (r : Tapi_Trace) : Ending → World → Prop := fun e w' => ∃ (A_r0ops : Option Addr), ∃ (c_r0ops : Nat), ∃ (A_r0blocks : Option Addr), ∃ (c_r0blocks : Nat), e = .returned (.agg (vals [ci r.n, C.slc A_r0ops r.ops.length c_r0ops, C.slc A_r0blocks r.blocks.length c_r0blocks])) ∧ Ow κ w' (rowp A_r0ops c_r0ops 93 6 Tapi_Op.cells r.ops :: rowp A_r0blocks c_r0blocks 175 3 Tapi_Span.cells r.blocks :: bagL (Twire_Machine.parts b_x0 x0 g_x0) :: S)
def wire_Machine_Trace.m (k : Nat) (x0 : Twire_Machine) : Option Tapi_Trace := (slices_Clone_api_Op_api_Op.m k x0.ops).bind fun v_12 => (slices_Clone_api_Span_api_Span.m k x0.blocks).bind fun v_17 => some (⟨x0.n, v_12, v_17⟩ : Tapi_Trace)

set_option maxRecDepth 100000 in
set_option maxHeartbeats 4000000 in
theorem wire_Machine_Trace.ok (k : Nat) (x0 : Twire_Machine) (r : Tapi_Trace) (hm : wire_Machine_Trace.m k x0 = some r) (κ : Ctx) (w : World) (S : List HP) (b_x0 : Nat) (g_x0 : Nat × Option Addr × Nat × Option Addr × Nat × Option Addr × Nat) (ho : Ow κ w (bagL (Twire_Machine.parts b_x0 x0 g_x0) :: S)) :
  Calls Try.prog 62 #[pp b_x0] w (wire_Machine_Trace.R κ S x0 b_x0 g_x0 r) := by
 unfold wire_Machine_Trace.m at hm
 generalize hRR : wire_Machine_Trace.R κ S x0 b_x0 g_x0 r = RR
 refine qen [(0, pp b_x0)] Try.func62 Try.ntmps62 ho fun a hs => ?_
 refine qsr fun K1 hK1 => ?_
 refine qal 102 [ci 0, C.slc none 0 0, C.slc none 0 0] 2 hs fun b_2 w a hs => ?_
 refine qpe 0 [(0, pp b_x0), (2, pp b_2)] hs fun a hs => hK1 _ _ ?_
 clear hK1
 refine Vk.seq fun K3 hK3 => ?_
 refine qsk 2 [0, 2, 4] hs fun a hs => ?_
 refine qcf hs ?_
 refine wp_skip ?_
 refine hK3 _ _ ?_
 clear hK3
 refine Vk.seq fun K5 hK5 => ?_
 replace hs := hs.unbagAt 1 rfl
 obtain ⟨C_9, hC_9⟩ := qC hs.own
 refine qdr 15 κ C_9 hs fun w hs hqC_9 => ?_
 have hcl := qO hC_9 hs.own
 refine qdp (fuel := 7) [0, 1, 2, 4, 5, 6, 9, 10, 11] hs hcl hqC_9 fun a hs => ?_
 refine qdl 3 0 (ci x0.n) hs hcl hqC_9 hC_9 rfl fun a hs => ?_
 refine qdl 7 0 (C.slc g_x0.2.1 x0.ops.length g_x0.2.2.1) hs hcl hqC_9 hC_9 rfl fun a hs => ?_
 refine qdl 12 0 (C.slc g_x0.2.2.2.2.2.1 x0.blocks.length g_x0.2.2.2.2.2.2) hs hcl hqC_9 hC_9 rfl fun a hs => ?_
 obtain ⟨v_12, h_11, hm⟩ := bind_t hm
 refine Vk.dOnly (i := 8) (by kernel_rfl) (Vk.call (some 14) 138 #[.slice g_x0.2.1 x0.ops.length g_x0.2.2.1] hs (by kernel_rfl) (by kernel_rfl) (by kernel_rfl) ?_)
 refine (slices_Clone_api_Op_api_Op.ok k x0.ops v_12 h_11 κ w (pt b_x0 (blk (Twire_Machine.obj x0 g_x0.1 g_x0.2.1 g_x0.2.2.1 g_x0.2.2.2.1 g_x0.2.2.2.2.1 g_x0.2.2.2.2.2.1 g_x0.2.2.2.2.2.2) 139) :: opto x0.dry (Ttape_Tape.own g_x0.1 x0.tape) :: rowp g_x0.2.1 g_x0.2.2.1 93 6 Tapi_Op.cells x0.ops :: rowp g_x0.2.2.2.1 g_x0.2.2.2.2.1 32 1 (eI .u64) x0.values :: rowp g_x0.2.2.2.2.2.1 g_x0.2.2.2.2.2.2 175 3 Tapi_Span.cells x0.blocks :: pt b_2 (blk [ci 0, C.slc none 0 0, C.slc none 0 0] 102) :: S) g_x0.2.1 g_x0.2.2.1 (Sl.lift (fun w ho => (Ow.to (S' := rowp g_x0.2.1 g_x0.2.2.1 93 6 Tapi_Op.cells x0.ops :: S) ho [2] 6 (by kernel_rfl) (by kernel_rfl))) (Ow.rowSl 0 (Ow.to (S' := rowp g_x0.2.1 g_x0.2.2.1 93 6 Tapi_Op.cells x0.ops :: S) hs.own [2] 6 (by kernel_rfl) (by kernel_rfl)) rfl)) hs.own).mono ?_
 rintro _ w ⟨Ar10x0_13, cr10x0_14, rfl, how⟩
 refine ⟨_, _, _, rfl, how, fun a hs => ?_⟩
 replace hcl := qO hC_9 hs.own.drop
 refine ⟨fun _ => hcl, ?_⟩
 obtain ⟨v_17, h_16, hm⟩ := bind_t hm
 refine Vk.dOnly (i := 13) (by kernel_rfl) (Vk.call (some 19) 139 #[.slice g_x0.2.2.2.2.2.1 x0.blocks.length g_x0.2.2.2.2.2.2] hs (by kernel_rfl) (by kernel_rfl) (by kernel_rfl) ?_)
 refine (slices_Clone_api_Span_api_Span.ok k x0.blocks v_17 h_16 κ w (rowp Ar10x0_13 cr10x0_14 93 6 Tapi_Op.cells v_12 :: pt b_x0 (blk (Twire_Machine.obj x0 g_x0.1 g_x0.2.1 g_x0.2.2.1 g_x0.2.2.2.1 g_x0.2.2.2.2.1 g_x0.2.2.2.2.2.1 g_x0.2.2.2.2.2.2) 139) :: opto x0.dry (Ttape_Tape.own g_x0.1 x0.tape) :: rowp g_x0.2.1 g_x0.2.2.1 93 6 Tapi_Op.cells x0.ops :: rowp g_x0.2.2.2.1 g_x0.2.2.2.2.1 32 1 (eI .u64) x0.values :: rowp g_x0.2.2.2.2.2.1 g_x0.2.2.2.2.2.2 175 3 Tapi_Span.cells x0.blocks :: pt b_2 (blk [ci 0, C.slc none 0 0, C.slc none 0 0] 102) :: S) g_x0.2.2.2.2.2.1 g_x0.2.2.2.2.2.2 (Sl.lift (fun w ho => (Ow.to (S' := rowp g_x0.2.2.2.2.2.1 g_x0.2.2.2.2.2.2 175 3 Tapi_Span.cells x0.blocks :: S) ho [5] 7 (by kernel_rfl) (by kernel_rfl))) (Ow.rowSl 0 (Ow.to (S' := rowp g_x0.2.2.2.2.2.1 g_x0.2.2.2.2.2.2 175 3 Tapi_Span.cells x0.blocks :: S) hs.own [5] 7 (by kernel_rfl) (by kernel_rfl)) rfl)) hs.own).mono ?_
 rintro _ w ⟨Ar15x0_18, cr15x0_19, rfl, how⟩
 refine ⟨_, _, _, rfl, how, fun a hs => ?_⟩
 replace hcl := qO hC_9 hs.own.f1.drop.drop
 refine ⟨fun _ => hcl, ?_⟩
 refine qdp (fuel := 1) [14] hs hcl hqC_9 fun a hs => ?_
 refine qsA 15 7 [ci x0.n, C.slc Ar10x0_13 v_12.length cr10x0_14, C.slc Ar15x0_18 v_17.length cr15x0_19] hs rfl rfl rfl fun a w hs => ?_
 refine ⟨fun h => absurd h (by decide), ?_⟩
 replace hs := hs.pick [2] (L' := [(2, pp b_2)]) (by kernel_rfl)
 refine Vk.dDone (by kernel_rfl) ?_
 refine hK5 _ _ ?_
 clear hK5
 refine wp_ret ?_
 replace hs := hs.bagG (l := Twire_Machine.parts b_x0 x0 g_x0) (S' := rowp Ar15x0_18 cr15x0_19 175 3 Tapi_Span.cells v_17 :: rowp Ar10x0_13 cr10x0_14 93 6 Tapi_Op.cells v_12 :: pt b_2 (blk [ci x0.n, C.slc Ar10x0_13 v_12.length cr10x0_14, C.slc Ar15x0_18 v_17.length cr15x0_19] 102) :: S) hs.own.f6.f6.f6.f6.f6
 exact Vk.retC [ci x0.n, C.slc Ar10x0_13 v_12.length cr10x0_14, C.slc Ar15x0_18 v_17.length cr15x0_19] hs rfl (by kernel_rfl) (sz := 3) (by kernel_rfl) rfl (CellsAt.all 3 rfl) (hRR ▸ by cases hm; exact ⟨Ar10x0_13, cr10x0_14, Ar15x0_18, cr15x0_19, rfl, hs.own.f3.drop.f1.f2⟩)


abbrev visorref01_Same.R (κ : Ctx) (S : List HP) (x0 : List Int) (x1 : List Int) (A_x0 : Option Addr) (c_x0 : Nat) (A_x1 : Option Addr) (c_x1 : Nat) (r : Bool) : Ending → World → Prop := fun e w' => e = .returned (.bool r) ∧ Ow κ w' (S)
def visorref01_Same.m (k : Nat) (x0 : List Int) (x1 : List Int) : Option Bool := some ((strOfNums x0).toList == (strOfNums x1).toList)

set_option maxRecDepth 100000 in
set_option maxHeartbeats 4000000 in
theorem visorref01_Same.ok (k : Nat) (x0 : List Int) (x1 : List Int) (r : Bool) (hm : visorref01_Same.m k x0 x1 = some r) (κ : Ctx) (w : World) (S : List HP) (A_x0 : Option Addr) (c_x0 : Nat) (hx_x0 : Sl κ S A_x0 c_x0 1 (eI .u8) x0) (A_x1 : Option Addr) (c_x1 : Nat) (hx_x1 : Sl κ S A_x1 c_x1 1 (eI .u8) x1) (ho : Ow κ w (S)) :
  Calls Try.prog 63 #[.slice A_x0 x0.length c_x0, .slice A_x1 x1.length c_x1] w (visorref01_Same.R κ S x0 x1 A_x0 c_x0 A_x1 c_x1 r) := by
 unfold visorref01_Same.m at hm
 generalize hRR : visorref01_Same.R κ S x0 x1 A_x0 c_x0 A_x1 c_x1 r = RR
 refine qen [(0, .slice A_x0 x0.length c_x0), (1, .slice A_x1 x1.length c_x1)] Try.func63 Try.ntmps63 ho fun a hs => ?_
 refine qse 1 [(0, .slice A_x0 x0.length c_x0), (1, .slice A_x1 x1.length c_x1)] hs fun a hs => ?_
 refine qsr fun K2 hK2 => ?_
 refine qpu 1 hs fun a hs => ?_
 refine qva (.string (strOfNums x0)) (op := (.convert 69 9 (.tmp 5))) hs (fun o ho => run_toStr (e := 5) (cap := c_x0) hx_x0 ho (by kernel_rfl) (by kernel_rfl) (by kernel_rfl) (by kernel_rfl) _ hs.own) fun a hs => ?_
 refine qpu 1 hs fun a hs => ?_
 refine qva (.string (strOfNums x1)) (op := (.convert 69 9 (.tmp 7))) hs (fun o ho => run_toStr (e := 5) (cap := c_x1) hx_x1 ho (by kernel_rfl) (by kernel_rfl) (by kernel_rfl) (by kernel_rfl) _ hs.own) fun a hs => ?_
 refine qpk 2 [4] hs fun a hs => hK2 _ _ ?_
 clear hK2
 refine wp_ret ?_
 exact qr1 (.bool ((strOfNums x0).toList == (strOfNums x1).toList)) hs rfl hRR (by cases hm; exact ⟨rfl, hs.own⟩)


abbrev wire_Machine_Values.R (κ : Ctx) (S : List HP) (x0 : Twire_Machine) (b_x0 : Nat) (g_x0 : Nat × Option Addr × Nat × Option Addr × Nat × Option Addr × Nat) (r : List Int) : Ending → World → Prop := fun e w' => ∃ (A_r0 : Option Addr), ∃ (c_r0 : Nat), e = .returned (.slice A_r0 r.length c_r0) ∧ Ow κ w' (rowp A_r0 c_r0 32 1 (eI .u64) r :: bagL (Twire_Machine.parts b_x0 x0 g_x0) :: S)
def wire_Machine_Values.m (k : Nat) (x0 : Twire_Machine) : Option (List Int) := (slices_Clone_uint64_uint64.m k x0.values).bind fun v_10 => some v_10

set_option maxRecDepth 100000 in
set_option maxHeartbeats 4000000 in
theorem wire_Machine_Values.ok (k : Nat) (x0 : Twire_Machine) (r : List Int) (hm : wire_Machine_Values.m k x0 = some r) (κ : Ctx) (w : World) (S : List HP) (b_x0 : Nat) (g_x0 : Nat × Option Addr × Nat × Option Addr × Nat × Option Addr × Nat) (ho : Ow κ w (bagL (Twire_Machine.parts b_x0 x0 g_x0) :: S)) :
  Calls Try.prog 22 #[pp b_x0] w (wire_Machine_Values.R κ S x0 b_x0 g_x0 r) := by
 unfold wire_Machine_Values.m at hm
 generalize hRR : wire_Machine_Values.R κ S x0 b_x0 g_x0 r = RR
 refine qen [(0, pp b_x0)] Try.func22 Try.ntmps22 ho fun a hs => ?_
 refine qse 1 [(0, pp b_x0)] hs fun a hs => ?_
 refine Vk.seq fun K2 hK2 => ?_
 refine qsk 2 [0, 4] hs fun a hs => ?_
 refine qcf hs ?_
 refine wp_skip ?_
 refine hK2 _ _ ?_
 clear hK2
 refine qsr fun K4 hK4 => ?_
 refine qpu 3 hs fun a hs => ?_
 replace hs := hs.unbagAt 0 rfl
 refine qld 0 (C.slc g_x0.2.2.2.1 x0.values.length g_x0.2.2.2.2.1) hs rfl fun a hs => ?_
 obtain ⟨v_10, h_9, hm⟩ := bind_t hm
 refine Vk.step (Vk.call (some 9) 96 #[.slice g_x0.2.2.2.1 x0.values.length g_x0.2.2.2.2.1] hs (by kernel_rfl) (by kernel_rfl) (by kernel_rfl) ?_)
 refine (slices_Clone_uint64_uint64.ok k x0.values v_10 h_9 κ w (pt b_x0 (blk (Twire_Machine.obj x0 g_x0.1 g_x0.2.1 g_x0.2.2.1 g_x0.2.2.2.1 g_x0.2.2.2.2.1 g_x0.2.2.2.2.2.1 g_x0.2.2.2.2.2.2) 139) :: opto x0.dry (Ttape_Tape.own g_x0.1 x0.tape) :: rowp g_x0.2.1 g_x0.2.2.1 93 6 Tapi_Op.cells x0.ops :: rowp g_x0.2.2.2.1 g_x0.2.2.2.2.1 32 1 (eI .u64) x0.values :: rowp g_x0.2.2.2.2.2.1 g_x0.2.2.2.2.2.2 175 3 Tapi_Span.cells x0.blocks :: S) g_x0.2.2.2.1 g_x0.2.2.2.2.1 (Sl.lift (fun w ho => (Ow.to (S' := rowp g_x0.2.2.2.1 g_x0.2.2.2.2.1 32 1 (eI .u64) x0.values :: S) ho [3] 5 (by kernel_rfl) (by kernel_rfl))) (Ow.rowSl 0 (Ow.to (S' := rowp g_x0.2.2.2.1 g_x0.2.2.2.2.1 32 1 (eI .u64) x0.values :: S) hs.own [3] 5 (by kernel_rfl) (by kernel_rfl)) rfl)) hs.own).mono ?_
 rintro _ w ⟨Ar8x0_11, cr8x0_12, rfl, how⟩
 refine ⟨_, _, _, rfl, how, fun a hs => ?_⟩
 refine qpk 1 [2] hs fun a hs => hK4 _ _ ?_
 clear hK4
 refine wp_ret ?_
 replace hs := hs.bagG (l := Twire_Machine.parts b_x0 x0 g_x0) (S' := rowp Ar8x0_11 cr8x0_12 32 1 (eI .u64) v_10 :: S) hs.own.f5.f5.f5.f5.f5
 exact qr1 (.slice Ar8x0_11 v_10.length cr8x0_12) hs rfl hRR (by cases hm; exact ⟨Ar8x0_11, cr8x0_12, rfl, hs.own.f1⟩)


def visorref01_Low.l1 (x0 : Int) : Nat → Int → Int → Option (Int)
 | 0, _, _ => none
 | k + 1, q_6, q_7 => (bif (decide (q_7 < x0)) && (decide (q_7 < 64)) then visorref01_Low.l1 x0 k (IntKind.u64.wrap ((IntKind.u64.wrap (q_6 * 2)) + 1)) (IntKind.i64.wrap (q_7 + 1)) else some q_6)
abbrev visorref01_Low.R (κ : Ctx) (S : List HP) (x0 : Int) (r : Int) : Ending → World → Prop := fun e w' => e = .returned (vw r) ∧ Ow κ w' (S)
def visorref01_Low.m (k : Nat) (x0 : Int) : Option Int := (visorref01_Low.l1 x0 k 0 0).bind fun p_12 => some p_12

set_option maxRecDepth 100000 in
set_option maxHeartbeats 4000000 in
theorem visorref01_Low.ok (k : Nat) (x0 : Int) (r : Int) (hm : visorref01_Low.m k x0 = some r) (κ : Ctx) (w : World) (S : List HP) (ho : Ow κ w (S)) :
  Calls Try.prog 64 #[vi x0] w (visorref01_Low.R κ S x0 r) := by
 unfold visorref01_Low.m at hm
 generalize hRR : visorref01_Low.R κ S x0 r = RR
 refine qen [(0, vi x0)] Try.func64 Try.ntmps64 ho fun a hs => ?_
 refine qse 1 [(0, vi x0)] hs fun a hs => ?_
 refine qse 1 [(0, vi x0), (3, vw 0)] hs fun a hs => ?_
 refine Vk.seq fun K3 hK3 => ?_
 refine qsk 1 [0, 3, 4] hs fun a hs => ?_
 refine wp_block ?_
 obtain ⟨r5, hl5, hm⟩ := bind_t hm
 have hx5 : ∀ (p_12 : Int), r5 = p_12 → ∀ (a : Act) (w : World), St 18 a w κ [(3, vw p_12)] (S) → K3 a w := by
  intro p_12 he a w hs
  subst r5
  refine hK3 _ _ ?_
  clear hK3
  refine qse 2 [(2, vw p_12)] hs fun a hs => ?_
  refine wp_ret ?_
  exact qr1 (vw p_12) hs rfl hRR (by cases hm; exact ⟨rfl, hs.own⟩)
 refine Vk.loopBy (fun k (s : Int × Int) a w => visorref01_Low.l1 x0 k s.1 s.2 = some r5 ∧ St 18 a w κ [(0, vi x0), (3, vw s.1), (4, vi s.2)] (S)) k (0, 0) ⟨hl5, hs.go [0, 3, 4] [] 0 (by kernel_rfl) (by kernel_rfl) (by kernel_rfl)⟩ (fun s a w h => by obtain ⟨h1, _⟩ := h; simp [visorref01_Low.l1] at h1) (fun k KL5 ih s a w h => ?_)
 obtain ⟨q_6, q_7⟩ := s
 obtain ⟨hm, hs⟩ := h
 try dsimp only at hm hs
 rw [visorref01_Low.l1] at hm
 refine Vk.seq fun K8 hK8 => ?_
 refine qsr fun K9 hK9 => ?_
 refine qpu 4 hs fun a hs => ?_
 refine qsc 8 3 hs fun a hs => ?_
 refine qpk 0 [0, 3, 4, 11] hs fun a hs => hK9 _ _ ?_
 clear hK9
 refine qcs ((decide (q_7 < x0)) && (decide (q_7 < 64))) hs (fun hb => ?_) fun hb => ?_
 ·replace hm := bif_t hm hb
  refine wp_skip ?_
  refine hK8 _ _ ?_
  clear hK8
  refine Vk.seq fun K11 hK11 => ?_
  refine wp_block ?_
  refine Vk.region ?_
  refine qpk 4 [0, 3, 4] hs fun a hs => hK11 _ _ ?_
  clear hK11
  refine Vk.region ?_
  refine qpk 3 [0, 3, 4] hs fun a hs => ?_
  refine ih ((IntKind.u64.wrap ((IntKind.u64.wrap (q_6 * 2)) + 1)), (IntKind.i64.wrap (q_7 + 1))) _ _ ⟨hm, hs.go [0, 3, 4] [] 0 (by kernel_rfl) (by kernel_rfl) (by kernel_rfl)⟩
 ·replace hm := bif_f hm hb
  refine wp_exit ?_
  exact hx5 q_6 (Option.some.inj hm).symm _ _ (hs.go [3] [] 0 (by kernel_rfl) (by kernel_rfl) (by kernel_rfl))

structure Tvisorlaw20_Pair where
 m : Twire_Machine
 x : Tvisorref19_M
 l : List Cells
 v : List Int
 deriving Inhabited
def Tvisorlaw20_Pair.obj (x : Tvisorlaw20_Pair) (bm : Nat) (bx : Nat) (Al : Option Addr) (cl : Nat) (Av : Option Addr) (cv : Nat) : Cells := [C.ptr (some ⟨bm, 0, none⟩), C.ptr (some ⟨bx, 0, none⟩), C.slc Al x.l.length cl, C.slc Av x.v.length cv]

def visorlaw24_awake.j1 (k : Nat) (p_71 : Bool) : Option (Bool) := some p_71
abbrev visorlaw24_awake.R (κ : Ctx) (S : List HP) (r : Bool) : Ending → World → Prop := fun e w' => e = .returned (.bool r) ∧ Ow κ w' (S)
def visorlaw24_awake.m (k : Nat) : Option Bool := ((visorlaw20_Begins.m k 2 ([77] : List Int) 99).bind fun v => match v with | (.inl v_8) => some false | (.inr v_15) => (bif !v_15.2.2.2.2 then some false else (share_Public.m k v_15.1 258).bind fun v_33 => (if v_33.1.length = 3 then (guard_Bytes.m k v_33.2 ([v_33.1] : List Cells) 2).bind fun v_39 => (bif ((v_39.1.length : Nat) : Int) == 2 then (if 0 ≤ (0 : Int) then (v_39.1[0]?).bind fun e_53 => (bif e_53 == 2 then (if 0 ≤ (1 : Int) then (v_39.1[1]?).bind fun e_67 => visorlaw24_awake.j1 k (e_67 == 1) else none) else visorlaw24_awake.j1 k false) else none) else visorlaw24_awake.j1 k false) else none)))

set_option maxRecDepth 100000 in
set_option maxHeartbeats 4000000 in
theorem visorlaw24_awake.ok (k : Nat) (r : Bool) (hm : visorlaw24_awake.m k = some r) (κ : Ctx) (w : World) (S : List HP) (ho : Ow κ w (S)) :
  Calls Try.prog 65 #[] w (visorlaw24_awake.R κ S r) := by
 unfold visorlaw24_awake.m at hm
 generalize hRR : visorlaw24_awake.R κ S r = RR
 refine qen [] Try.func65 Try.ntmps65 ho fun a hs => ?_
 refine qse 1 [] hs fun a hs => ?_
 refine qsr fun K2 hK2 => ?_
 refine Vk.step (Vk.buildOp (sz := 1) (by_ := 8) (t := 25) (e := 32) (parts := #[(0, (.const (vw 77)))]) (zs := vals [cw 0]) ([77] : List Int) (eI .u64) (some 5) hs (by kernel_rfl) (by kernel_rfl) (by kernel_rfl) (by kernel_rfl) (by decide) rfl (fun x _ => rfl) (Nat.le_of_ble_eq_true (by kernel_rfl)) (by kernel_rfl) fun A_3 w a hs => ?_)
 replace hs := hs.toRd 0 rfl
 obtain ⟨v_7, h_6, hm⟩ := bind_t hm
 refine Vk.step (Vk.call (some 6) 18 #[vi 2, .slice A_3 (([77] : List Int).length) 1, vi 99] hs (by kernel_rfl) (by kernel_rfl) (by kernel_rfl) ?_)
 refine (visorlaw20_Begins.ok k 2 ([77] : List Int) 99 v_7 h_6 κ w (S) A_3 1 hs.own).mono ?_
 rintro _ w (⟨v_8, rfl, br5x0x_9, Ar5x0l_10, cr5x0l_11, Ar5x0v_12, cr5x0v_13, rfl, how⟩ | ⟨v_15, rfl, br5x0m_16, br5x0x_17, Ar5x0l_18, cr5x0l_19, Ar5x0v_20, cr5x0v_21, rfl, how⟩)
 ·dsimp only at hm
  refine ⟨_, _, _, rfl, how, fun a hs => ?_⟩
  refine qpu 3 hs fun a hs => ?_
  refine qal 45 [C.ptr none, C.ptr none, C.slc none 0 0, C.slc none 0 0] 1 hs fun b_14 w a hs => ?_
  refine qsa 0 [C.ptr none, cp br5x0x_9, C.slc Ar5x0l_10 v_8.2.1.length cr5x0l_11, C.slc Ar5x0v_12 v_8.2.2.length cr5x0v_13] hs rfl fun a w hs => ?_
  refine qpk 1 [1, 2] hs fun a hs => hK2 _ _ ?_
  refine Vk.seq fun K23 hK23 => ?_
  refine qsk 2 [1, 10] hs fun a hs => ?_
  refine qct hs ?_
  refine qse 1 [(0, .bool false)] hs fun a hs => ?_
  refine wp_ret ?_
  exact qr1 (.bool false) hs rfl hRR (by cases hm; exact ⟨rfl, (hs.own.too [] 4)⟩)
 ·dsimp only at hm
  refine ⟨_, _, _, rfl, how, fun a hs => ?_⟩
  refine qpu 3 hs fun a hs => ?_
  refine qal 45 [C.ptr none, C.ptr none, C.slc none 0 0, C.slc none 0 0] 1 hs fun b_22 w a hs => ?_
  refine qsa 0 [cp br5x0m_16, cp br5x0x_17, C.slc Ar5x0l_18 v_15.2.2.1.length cr5x0l_19, C.slc Ar5x0v_20 v_15.2.2.2.1.length cr5x0v_21] hs rfl fun a w hs => ?_
  refine qpk 1 [1, 2] hs fun a hs => hK2 _ _ ?_
  refine Vk.seq fun K26 hK26 => ?_
  refine qsk 2 [1, 10] hs fun a hs => ?_
  refine qcs (!v_15.2.2.2.2) hs (fun hb => ?_) fun hb => ?_
  ·replace hm := bif_t hm hb
   refine qse 1 [(0, .bool false)] hs fun a hs => ?_
   refine wp_ret ?_
   exact qr1 (.bool false) hs rfl hRR (by cases hm; exact ⟨rfl, (hs.own.too [] 5)⟩)
  ·replace hm := bif_f hm hb
   refine wp_skip ?_
   refine hK26 _ _ ?_
   clear hK26
   refine Vk.seq fun K29 hK29 => ?_
   obtain ⟨C_30, hC_30⟩ := qC hs.own.f1.drop
   refine qdr 8 κ C_30 hs fun w hs hqC_30 => ?_
   have hcl := qO hC_30 hs.own.f1.drop
   refine qdp (fuel := 6) [0, 2] hs hcl hqC_30 fun a hs => ?_
   refine qdl 1 0 (cp br5x0m_16) hs hcl hqC_30 hC_30 rfl fun a hs => ?_
   refine qdl 3 0 (cp br5x0m_16) hs hcl hqC_30 hC_30 rfl fun a hs => ?_
   obtain ⟨v_33, h_32, hm⟩ := bind_t hm
   refine qdc 4 (share_Public.ok _ _ _ _ h_32 _ _ _ br5x0m_16 hs.own.f1) hs fun w a hs => ?_
   replace hcl := qO hC_30 hs.own.drop
   refine ⟨fun _ => hcl, ?_⟩
   obtain ⟨h_36, hm⟩ := ite_t hm
   refine Vk.dOnly (i := 5) (by kernel_rfl) (Vk.buildOp (sz := 3) (by_ := 24) (t := 43) (e := 28) (parts := #[(0, (.tmp 15))]) (zs := vals [ci 0, ci 0, ci 0]) ([v_33.1] : List Cells) eC (some 16) hs (by kernel_rfl) (by kernel_rfl) (by kernel_rfl) (by kernel_rfl) (by decide) rfl (fun x _ => by obtain rfl := List.mem_singleton.1 ‹_›; exact h_36) (Nat.le_of_ble_eq_true (by kernel_rfl)) (fill3 h_36 (by kernel_rfl)) fun A_34 w a hs => ?_)
   replace hcl := qO hC_30 hs.own.f1.drop.drop
   refine ⟨fun _ => hcl, ?_⟩
   obtain ⟨v_39, h_38, hm⟩ := bind_t hm
   refine Vk.dOnly (i := 6) (by kernel_rfl) (Vk.call (some 17) 61 #[pp br5x0m_16, .slice A_34 (([v_33.1] : List Cells).length) 1, vi 2] hs (by kernel_rfl) (by kernel_rfl) (by kernel_rfl) ?_)
   refine (guard_Bytes.ok k v_33.2 ([v_33.1] : List Cells) 2 v_39 h_38 κ w (rowp A_34 1 28 3 eC ([v_33.1] : List Cells) :: pt b_22 (blk [cp br5x0m_16, cp br5x0x_17, C.slc Ar5x0l_18 v_15.2.2.1.length cr5x0l_19, C.slc Ar5x0v_20 v_15.2.2.2.1.length cr5x0v_21] 45) :: Tvisorref19_M.own κ br5x0x_17 v_15.2.1 :: rowp Ar5x0l_18 cr5x0l_19 28 3 eC v_15.2.2.1 :: rowp Ar5x0v_20 cr5x0v_21 32 1 (eI .u64) v_15.2.2.2.1 :: S) br5x0m_16 A_34 1 (Sl.lift (fun w ho => (Ow.to (S' := rowp A_34 1 28 3 eC ([v_33.1] : List Cells) :: S) ho [0] 5 (by kernel_rfl) (by kernel_rfl))) (Ow.rowSl 0 (Ow.to (S' := rowp A_34 1 28 3 eC ([v_33.1] : List Cells) :: S) hs.own [0] 6 (by kernel_rfl) (by kernel_rfl)) rfl)) hs.own.f1).mono ?_
   rintro _ w ⟨Ar37x0_40, cr37x0_41, rfl, how⟩
   refine ⟨_, _, _, rfl, how, fun a hs => ?_⟩
   replace hcl := qO hC_30 hs.own.f2.drop.f1.drop.drop
   refine ⟨fun _ => hcl, ?_⟩
   refine qdp (fuel := 0) [7] hs hcl hqC_30 fun a hs => ?_
   replace hs := hs.pick [3] (L' := [(3, .slice Ar37x0_40 v_39.1.length cr37x0_41)]) (by kernel_rfl)
   refine Vk.dDone (by kernel_rfl) ?_
   refine hK29 _ _ ?_
   clear hK29
   refine Vk.seq fun K42 hK42 => ?_
   have hj42 : ∀ (p_71 : Bool), visorlaw24_awake.j1 k p_71 = some r → ∀ (a : Act) (w : World), St 33 a w κ [(0, .bool p_71)] (S) → K42 a w := by
    intro p_71 hm a w hs
    unfold visorlaw24_awake.j1 at hm
    refine hK42 _ _ ?_
    refine wp_ret ?_
    exact qr1 (.bool p_71) hs rfl hRR (by cases hm; exact ⟨rfl, hs.own⟩)
   refine Vk.region ?_
   refine qpu 4 hs fun a hs => ?_
   rcases Bool.eq_false_or_eq_true (((v_39.1.length : Nat) : Int) == 2) with hb | hb
   ·replace hm := bif_t hm hb
    replace hs := hs.known (t := 21) hb (by kernel_rfl)
    refine qpu 1 hs fun a hs => ?_
    obtain ⟨h_50, hm⟩ := ite_t hm
    obtain ⟨e_53, h_51, hm⟩ := bind_t hm
    obtain ⟨b_54, o_55, hA_56, h_52⟩ := Sl.elem (Ow.rowSl 0 (Ow.to (S' := rowp Ar37x0_40 cr37x0_41 5 1 (eI .u8) v_39.1 :: S) hs.own [0] 7 (by kernel_rfl) (by kernel_rfl)) rfl) h_51
    refine qva (.pointer (some ⟨b_54, o_55 + 0 * 1, none⟩)) (op := (.indexAddr 69 (.tmp 22) (.const (vi 0)))) hs (fun o ho => run_idxSlc (k := .i64) ho (cap := cr37x0_41) (len := v_39.1.length) ((congrArg (fun A => Value.slice A (v_39.1.length) (cr37x0_41)) hA_56) ▸ (by kernel_rfl)) (by kernel_rfl) (by kernel_rfl) (idx_ok h_50 h_51) _) fun a hs => ?_
    refine qva (.int .u8 e_53) (op := (.load 5 (.tmp 23))) hs (fun o ho => run_load1 (c := C.int .u8 e_53) ho (by kernel_rfl) (by kernel_rfl) (fun w ho => h_52 w ho 0 _ rfl) _ (Ow.to (S' := rowp Ar37x0_40 cr37x0_41 5 1 (eI .u8) v_39.1 :: S) hs.own [0] 7 (by kernel_rfl) (by kernel_rfl))) fun a hs => ?_
    refine qpu 3 hs fun a hs => ?_
    rcases Bool.eq_false_or_eq_true (e_53 == 2) with hb | hb
    ·replace hm := bif_t hm hb
     replace hs := hs.known (t := 27) hb (by kernel_rfl)
     refine qpu 1 hs fun a hs => ?_
     obtain ⟨h_64, hm⟩ := ite_t hm
     obtain ⟨e_67, h_65, hm⟩ := bind_t hm
     obtain ⟨b_68, o_69, hA_70, h_66⟩ := Sl.elem (Ow.rowSl 0 (Ow.to (S' := rowp Ar37x0_40 cr37x0_41 5 1 (eI .u8) v_39.1 :: S) hs.own [0] 7 (by kernel_rfl) (by kernel_rfl)) rfl) h_65
     refine qva (.pointer (some ⟨b_68, o_69 + 1 * 1, none⟩)) (op := (.indexAddr 69 (.tmp 28) (.const (vi 1)))) hs (fun o ho => run_idxSlc (k := .i64) ho (cap := cr37x0_41) (len := v_39.1.length) ((congrArg (fun A => Value.slice A (v_39.1.length) (cr37x0_41)) hA_70) ▸ (by kernel_rfl)) (by kernel_rfl) (by kernel_rfl) (idx_ok h_64 h_65) _) fun a hs => ?_
     refine qva (.int .u8 e_67) (op := (.load 5 (.tmp 29))) hs (fun o ho => run_load1 (c := C.int .u8 e_67) ho (by kernel_rfl) (by kernel_rfl) (fun w ho => h_66 w ho 0 _ rfl) _ (Ow.to (S' := rowp Ar37x0_40 cr37x0_41 5 1 (eI .u8) v_39.1 :: S) hs.own [0] 7 (by kernel_rfl) (by kernel_rfl))) fun a hs => ?_
     refine qpe 3 [(0, .bool (e_67 == 1))] hs fun a hs => ?_
     exact hj42 (e_67 == 1) hm _ _ (hs.go [0] [] 7 (by kernel_rfl) (by kernel_rfl) (by kernel_rfl))
    ·replace hm := bif_f hm hb
     replace hs := hs.known (t := 27) hb (by kernel_rfl)
     refine qpe 6 [(0, .bool false)] hs fun a hs => ?_
     exact hj42 false hm _ _ (hs.go [0] [] 7 (by kernel_rfl) (by kernel_rfl) (by kernel_rfl))
   ·replace hm := bif_f hm hb
    replace hs := hs.known (t := 21) hb (by kernel_rfl)
    refine qpe 12 [(0, .bool false)] hs fun a hs => ?_
    exact hj42 false hm _ _ (hs.go [0] [] 7 (by kernel_rfl) (by kernel_rfl) (by kernel_rfl))


def visorlaw24_GuardShows.j4 (k : Nat) (p_258 : Bool) : Option (Bool) := some p_258
def visorlaw24_GuardShows.j3 (k : Nat) (rec209 : Int → Int → Option (Sum (Bool) (Int))) (q_211 : Int) (p_247 : Int) : Option (Sum (Bool) (Int)) := rec209 p_247 (IntKind.i64.wrap (q_211 + 1))
def visorlaw24_GuardShows.l2 (x2 : Int) (v_176 : Tapi_Trace) (v_204 : List Int) : Nat → Int → Int → Option (Sum (Bool) (Int))
 | 0, _, _ => none
 | k + 1, q_210, q_211 => (bif (decide (q_211 < ((v_176.ops.length : Nat) : Int))) && (decide (q_211 < ((v_204.length : Nat) : Int))) then (if 0 ≤ q_211 then (v_176.ops[q_211.toNat]?).bind fun e_221 => (bif e_221.kind != 12 then visorlaw24_GuardShows.j3 k (visorlaw24_GuardShows.l2 x2 v_176 v_204 k) q_211 q_210 else (bif decide ((IntKind.i64.wrap ((Int.tmod (IntKind.i64.wrap x2) 65) - (IntKind.i64.wrap (8 * q_210)))) < 8) then (if 0 ≤ q_211 then (v_204[q_211.toNat]?).bind fun e_232 => (if 0 ≤ q_211 then (v_204[q_211.toNat]?).bind fun e_239 => (visorref01_Low.m k (IntKind.i64.wrap (8 * (IntKind.i64.wrap ((Int.tmod (IntKind.i64.wrap x2) 65) - (IntKind.i64.wrap (8 * q_210))))))).bind fun v_245 => (bif e_232 != (band .u64 e_239 v_245) then some (.inl false) else visorlaw24_GuardShows.l2 x2 v_176 v_204 k (IntKind.i64.wrap (q_210 + 1)) (IntKind.i64.wrap (q_211 + 1))) else none) else none) else visorlaw24_GuardShows.j3 k (visorlaw24_GuardShows.l2 x2 v_176 v_204 k) q_211 (IntKind.i64.wrap (q_210 + 1)))) else none) else some (.inr q_210))
def visorlaw24_GuardShows.j2 (k : Nat) (x2 : Int) (v_169 : List Int × Twire_Machine) (v_176 : Tapi_Trace) (p_197 : Bool) : Option (Bool) := (bif p_197 then some false else (wire_Machine_Values.m k v_169.2).bind fun v_204 => (visorlaw24_GuardShows.l2 x2 v_176 v_204 k 0 0).bind fun x => match x with | .inl v => some v | .inr p_249 => (bif p_249 == (IntKind.i64.wrap (Int.tdiv (IntKind.i64.wrap ((Int.tmod (IntKind.i64.wrap x2) 65) + 7)) 8)) then (visorlaw24_awake.m k).bind fun v_257 => visorlaw24_GuardShows.j4 k v_257 else visorlaw24_GuardShows.j4 k false))
def visorlaw24_GuardShows.l1 (x1 : Cells) : Nat → Twire_Machine → Twire_Machine → Cells → Cells → (List Int) → Int → Option (Twire_Machine × Twire_Machine × Cells × List Int)
 | 0, _, _, _, _, _, _ => none
 | k + 1, q_96, q_97, q_98, q_99, q_102, q_103 => (bif decide (q_103 < 8) then (if 0 ≤ q_103 ∧ q_103 < 8 then (getI .u64 x1 (0 + q_103.toNat * 1)).bind fun v_111 => (share_Encode.m k q_96 v_111).bind fun v_114 => (if 0 ≤ q_103 ∧ q_103 < 8 then (if v_114.1.length = 3 then (if 0 + q_103.toNat * 3 + v_114.1.length ≤ q_98.length then (if 0 ≤ q_103 ∧ q_103 < 8 then (getI .u64 x1 (0 + q_103.toNat * 1)).bind fun v_122 => (share_Public.m k q_97 v_122).bind fun v_125 => (if 0 ≤ q_103 ∧ q_103 < 8 then (if v_125.1.length = 3 then (if 0 + q_103.toNat * 3 + v_125.1.length ≤ q_99.length then (if 0 ≤ q_103 ∧ q_103 < 8 then (getI .u64 x1 (0 + q_103.toNat * 1)).bind fun v_131 => (visorref01_Store.m k v_131 8).bind fun v_134 => (if (q_102.length + v_134.length) * 1 ≤ 140737488355328 then visorlaw24_GuardShows.l1 x1 k v_114.2 v_125.2 (splice q_98 (0 + q_103.toNat * 3) v_114.1) (splice q_99 (0 + q_103.toNat * 3) v_125.1) (q_102 ++ v_134) (IntKind.i64.wrap (q_103 + 1)) else none) else none) else none) else none) else none) else none) else none) else none) else none) else none) else some (q_96, q_97, q_99, q_102))
def visorlaw24_GuardShows.j1 (k : Nat) (x1 : Cells) (x2 : Int) (x3 : Cells) (p_7 : Int) : Option (Bool) := (wds .u64 24 x3).bind fun l_9 => ((visorlaw20_Begins.m k p_7 l_9 600).bind fun v => match v with | (.inl v_18) => ((visorlaw20_Begins.m k p_7 l_9 600).bind fun v => match v with | (.inl v_38) => some false | (.inr v_45) => some false) | (.inr v_25) => ((visorlaw20_Begins.m k p_7 l_9 600).bind fun v => match v with | (.inl v_64) => some false | (.inr v_71) => (bif (!v_25.2.2.2.2) || (!v_71.2.2.2.2) then some false else (visorlaw24_GuardShows.l1 x1 k v_25.1 v_71.1 [ci 0, ci 0, ci 0, ci 0, ci 0, ci 0, ci 0, ci 0, ci 0, ci 0, ci 0, ci 0, ci 0, ci 0, ci 0, ci 0, ci 0, ci 0, ci 0, ci 0, ci 0, ci 0, ci 0, ci 0] [ci 0, ci 0, ci 0, ci 0, ci 0, ci 0, ci 0, ci 0, ci 0, ci 0, ci 0, ci 0, ci 0, ci 0, ci 0, ci 0, ci 0, ci 0, ci 0, ci 0, ci 0, ci 0, ci 0, ci 0] ([] : List Int) 0).bind fun x => match x with | (p_140, p_141, p_142, p_145) => (wire_Machine_Err.m k p_140).bind fun v_159 => (bif v_159 != 0 then some false else (cks 3 8 p_142).bind fun l_164 => (guard_Bytes.m k p_141 l_164 (Int.tmod (IntKind.i64.wrap x2) 65)).bind fun v_169 => (wire_Machine_Trace.m k v_169.2).bind fun v_176 => (wire_Machine_Err.m k v_169.2).bind fun v_186 => (bif v_186 != 0 then visorlaw24_GuardShows.j2 k x2 v_169 v_176 true else (if ((0 : Int) ≤ Int.tmod (IntKind.i64.wrap x2) 65) ∧ 0 ≤ (Int.tmod (IntKind.i64.wrap x2) 65).toNat ∧ (Int.tmod (IntKind.i64.wrap x2) 65).toNat ≤ p_145.length then (visorref01_Same.m k v_169.1 (p_145.take (Int.tmod (IntKind.i64.wrap x2) 65).toNat)).bind fun v_196 => visorlaw24_GuardShows.j2 k x2 v_169 v_176 (!v_196) else none))))))
abbrev visorlaw24_GuardShows.R (κ : Ctx) (S : List HP) (x0 : Bool) (x1 : Cells) (x2 : Int) (x3 : Cells) (r : Bool) : Ending → World → Prop := fun e w' => e = .returned (.bool r) ∧ Ow κ w' (S)
def visorlaw24_GuardShows.m (k : Nat) (x0 : Bool) (x1 : Cells) (x2 : Int) (x3 : Cells) : Option Bool := (bif x0 then visorlaw24_GuardShows.j1 k x1 x2 x3 3 else visorlaw24_GuardShows.j1 k x1 x2 x3 2)

set_option maxRecDepth 100000 in
set_option maxHeartbeats 4000000 in
theorem visorlaw24_GuardShows.ok (k : Nat) (x0 : Bool) (x1 : Cells) (x2 : Int) (x3 : Cells) (r : Bool) (hm : visorlaw24_GuardShows.m k x0 x1 x2 x3 = some r) (κ : Ctx) (w : World) (S : List HP) (ho : Ow κ w (S)) :
  Calls Try.prog 9 #[.bool x0, .agg (vals x1), .int .u8 x2, .agg (vals x3)] w (visorlaw24_GuardShows.R κ S x0 x1 x2 x3 r) := by
 unfold visorlaw24_GuardShows.m at hm
 generalize hRR : visorlaw24_GuardShows.R κ S x0 x1 x2 x3 r = RR
 refine qen [(0, .bool x0), (1, .agg (vals x1)), (2, .int .u8 x2), (3, .agg (vals x3))] Try.func9 Try.ntmps9 ho fun a hs => ?_
 refine qsr fun K1 hK1 => ?_
 refine qbx 1 80 x1 5 hs fun b_2 w a hs => ?_
 refine qbx 3 98 x3 7 hs fun b_3 w a hs => ?_
 refine qpk 1 [0, 2, 5, 7] hs fun a hs => hK1 _ _ ?_
 clear hK1
 refine qsk 1 [0, 2, 5, 7, 9] hs fun a hs => ?_
 refine Vk.seq fun K5 hK5 => ?_
 have hj5 : ∀ (p_7 : Int), visorlaw24_GuardShows.j1 k x1 x2 x3 p_7 = some r → ∀ (a : Act) (w : World), St 154 a w κ [(2, .int .u8 x2), (5, pp b_2), (7, pp b_3), (9, vi p_7)] (pt b_2 (blk x1 80) :: pt b_3 (blk x3 98) :: S) → K5 a w := by
  intro p_7 hm a w hs
  unfold visorlaw24_GuardShows.j1 at hm
  refine hK5 _ _ ?_
  refine qsr fun K8 hK8 => ?_
  refine qpu 1 hs fun a hs => ?_
  obtain ⟨l_9, h_10, hm⟩ := bind_t hm
  have hx_11 := Ow.ptSl (sz := 1) (N := 24) (off := 0) 0 hs.own.drop rfl (part_all (wds_clen h_10)) (wds_sl h_10)
  refine qva (.slice (some ⟨b_3, 0, none⟩) l_9.length 24) (op := (.slice 98 (.tmp 7) none none none)) hs (fun o ho => run_arr0 (sz := 1) (e := 32) (wds_len h_10) ho (by kernel_rfl) (by kernel_rfl) (by kernel_rfl) _) fun a hs => ?_
  obtain ⟨κ, hle_12, hs, hsl_13⟩ := hs.giveArr 1 h_10 rfl
  replace hs := hs.addRd hsl_13
  obtain ⟨v_17, h_16, hm⟩ := bind_t hm
  refine Vk.step (Vk.call (some 29) 18 #[vi p_7, .slice (some ⟨b_3, 0, none⟩) l_9.length 24, vi 600] hs (by kernel_rfl) (by kernel_rfl) (by kernel_rfl) ?_)
  refine (visorlaw20_Begins.ok k p_7 l_9 600 v_17 h_16 κ w (pt b_2 (blk x1 80) :: S) (some ⟨b_3, 0, none⟩) 24 hs.own).mono ?_
  rintro _ w (⟨v_18, rfl, br15x0x_19, Ar15x0l_20, cr15x0l_21, Ar15x0v_22, cr15x0v_23, rfl, how⟩ | ⟨v_25, rfl, br15x0m_26, br15x0x_27, Ar15x0l_28, cr15x0l_29, Ar15x0v_30, cr15x0v_31, rfl, how⟩)
  ·dsimp only at hm
   refine ⟨_, _, _, rfl, how, fun a hs => ?_⟩
   refine qpu 3 hs fun a hs => ?_
   refine qal 45 [C.ptr none, C.ptr none, C.slc none 0 0, C.slc none 0 0] 10 hs fun b_24 w a hs => ?_
   refine qsa 0 [C.ptr none, cp br15x0x_19, C.slc Ar15x0l_20 v_18.2.1.length cr15x0l_21, C.slc Ar15x0v_22 v_18.2.2.length cr15x0v_23] hs rfl fun a w hs => ?_
   refine qpk 1 [2, 5, 7, 9, 10, 11] hs fun a hs => hK8 _ _ ?_
   refine qsr fun K33 hK33 => ?_
   refine qpu 1 hs fun a hs => ?_
   refine qva (.slice (some ⟨b_3, 0, none⟩) l_9.length 24) (op := (.slice 98 (.tmp 7) none none none)) hs (fun o ho => run_arr0 (sz := 1) (e := 32) (wds_len h_10) ho (by kernel_rfl) (by kernel_rfl) (by kernel_rfl) _) fun a hs => ?_
   replace hs := hs.addRd hsl_13
   obtain ⟨v_37, h_36, hm⟩ := bind_t hm
   refine Vk.step (Vk.call (some 35) 18 #[vi p_7, .slice (some ⟨b_3, 0, none⟩) l_9.length 24, vi 600] hs (by kernel_rfl) (by kernel_rfl) (by kernel_rfl) ?_)
   refine (visorlaw20_Begins.ok k p_7 l_9 600 v_37 h_36 κ w (pt b_24 (blk [C.ptr none, cp br15x0x_19, C.slc Ar15x0l_20 v_18.2.1.length cr15x0l_21, C.slc Ar15x0v_22 v_18.2.2.length cr15x0v_23] 45) :: Tvisorref19_M.own κ br15x0x_19 v_18.1 :: rowp Ar15x0l_20 cr15x0l_21 28 3 eC v_18.2.1 :: rowp Ar15x0v_22 cr15x0v_23 32 1 (eI .u64) v_18.2.2 :: pt b_2 (blk x1 80) :: S) (some ⟨b_3, 0, none⟩) 24 hs.own).mono ?_
   rintro _ w (⟨v_38, rfl, br35x0x_39, Ar35x0l_40, cr35x0l_41, Ar35x0v_42, cr35x0v_43, rfl, how⟩ | ⟨v_45, rfl, br35x0m_46, br35x0x_47, Ar35x0l_48, cr35x0l_49, Ar35x0v_50, cr35x0v_51, rfl, how⟩)
   ·dsimp only at hm
    refine ⟨_, _, _, rfl, how, fun a hs => ?_⟩
    refine qpu 3 hs fun a hs => ?_
    refine qal 45 [C.ptr none, C.ptr none, C.slc none 0 0, C.slc none 0 0] 12 hs fun b_44 w a hs => ?_
    refine qsa 0 [C.ptr none, cp br35x0x_39, C.slc Ar35x0l_40 v_38.2.1.length cr35x0l_41, C.slc Ar35x0v_42 v_38.2.2.length cr35x0v_43] hs rfl fun a w hs => ?_
    refine qpk 1 [2, 5, 10, 11, 12, 13] hs fun a hs => hK33 _ _ ?_
    refine Vk.seq fun K53 hK53 => ?_
    refine qsk 6 [2, 5, 10, 12, 43] hs fun a hs => ?_
    refine qct hs ?_
    refine qse 1 [(8, .bool false)] hs fun a hs => ?_
    refine wp_ret ?_
    exact qr1 (.bool false) hs rfl hRR (by cases hm; exact ⟨rfl, (Ow.less hle_12 (hs.own.too [] 9))⟩)
   ·dsimp only at hm
    refine ⟨_, _, _, rfl, how, fun a hs => ?_⟩
    refine qpu 3 hs fun a hs => ?_
    refine qal 45 [C.ptr none, C.ptr none, C.slc none 0 0, C.slc none 0 0] 12 hs fun b_52 w a hs => ?_
    refine qsa 0 [cp br35x0m_46, cp br35x0x_47, C.slc Ar35x0l_48 v_45.2.2.1.length cr35x0l_49, C.slc Ar35x0v_50 v_45.2.2.2.1.length cr35x0v_51] hs rfl fun a w hs => ?_
    refine qpk 1 [2, 5, 10, 11, 12, 13] hs fun a hs => hK33 _ _ ?_
    refine Vk.seq fun K56 hK56 => ?_
    refine qsk 6 [2, 5, 10, 12, 43] hs fun a hs => ?_
    refine qct hs ?_
    refine qse 1 [(8, .bool false)] hs fun a hs => ?_
    refine wp_ret ?_
    exact qr1 (.bool false) hs rfl hRR (by cases hm; exact ⟨rfl, (Ow.less hle_12 (hs.own.too [] 10))⟩)
  ·dsimp only at hm
   refine ⟨_, _, _, rfl, how, fun a hs => ?_⟩
   refine qpu 3 hs fun a hs => ?_
   refine qal 45 [C.ptr none, C.ptr none, C.slc none 0 0, C.slc none 0 0] 10 hs fun b_32 w a hs => ?_
   refine qsa 0 [cp br15x0m_26, cp br15x0x_27, C.slc Ar15x0l_28 v_25.2.2.1.length cr15x0l_29, C.slc Ar15x0v_30 v_25.2.2.2.1.length cr15x0v_31] hs rfl fun a w hs => ?_
   refine qpk 1 [2, 5, 7, 9, 10, 11] hs fun a hs => hK8 _ _ ?_
   refine qsr fun K59 hK59 => ?_
   refine qpu 1 hs fun a hs => ?_
   refine qva (.slice (some ⟨b_3, 0, none⟩) l_9.length 24) (op := (.slice 98 (.tmp 7) none none none)) hs (fun o ho => run_arr0 (sz := 1) (e := 32) (wds_len h_10) ho (by kernel_rfl) (by kernel_rfl) (by kernel_rfl) _) fun a hs => ?_
   replace hs := hs.addRd hsl_13
   obtain ⟨v_63, h_62, hm⟩ := bind_t hm
   refine Vk.step (Vk.call (some 35) 18 #[vi p_7, .slice (some ⟨b_3, 0, none⟩) l_9.length 24, vi 600] hs (by kernel_rfl) (by kernel_rfl) (by kernel_rfl) ?_)
   refine (visorlaw20_Begins.ok k p_7 l_9 600 v_63 h_62 κ w (pt b_32 (blk [cp br15x0m_26, cp br15x0x_27, C.slc Ar15x0l_28 v_25.2.2.1.length cr15x0l_29, C.slc Ar15x0v_30 v_25.2.2.2.1.length cr15x0v_31] 45) :: Twire_Machine.own br15x0m_26 v_25.1 :: Tvisorref19_M.own κ br15x0x_27 v_25.2.1 :: rowp Ar15x0l_28 cr15x0l_29 28 3 eC v_25.2.2.1 :: rowp Ar15x0v_30 cr15x0v_31 32 1 (eI .u64) v_25.2.2.2.1 :: pt b_2 (blk x1 80) :: S) (some ⟨b_3, 0, none⟩) 24 hs.own).mono ?_
   rintro _ w (⟨v_64, rfl, br61x0x_65, Ar61x0l_66, cr61x0l_67, Ar61x0v_68, cr61x0v_69, rfl, how⟩ | ⟨v_71, rfl, br61x0m_72, br61x0x_73, Ar61x0l_74, cr61x0l_75, Ar61x0v_76, cr61x0v_77, rfl, how⟩)
   ·dsimp only at hm
    refine ⟨_, _, _, rfl, how, fun a hs => ?_⟩
    refine qpu 3 hs fun a hs => ?_
    refine qal 45 [C.ptr none, C.ptr none, C.slc none 0 0, C.slc none 0 0] 12 hs fun b_70 w a hs => ?_
    refine qsa 0 [C.ptr none, cp br61x0x_65, C.slc Ar61x0l_66 v_64.2.1.length cr61x0l_67, C.slc Ar61x0v_68 v_64.2.2.length cr61x0v_69] hs rfl fun a w hs => ?_
    refine qpe 1 [(2, .int .u8 x2), (5, pp b_2), (10, pp b_32), (11, .bool v_25.2.2.2.2), (12, pp b_70), (13, .bool false)] hs fun a hs => hK59 _ _ ?_
    refine Vk.seq fun K79 hK79 => ?_
    refine qsr fun K80 hK80 => ?_
    refine qpu 3 hs fun a hs => ?_
    suffices hj_81 : ∀ a, St 154 a w κ [(2, .int .u8 x2), (5, pp b_2), (10, pp b_32), (11, .bool v_25.2.2.2.2), (12, pp b_70), (13, .bool false), (38, .bool v_25.2.2.2.2), (39, .bool (!v_25.2.2.2.2)), (40, .bool (!v_25.2.2.2.2)), (43, .bool true)] (pt b_70 (blk [C.ptr none, cp br61x0x_65, C.slc Ar61x0l_66 v_64.2.1.length cr61x0l_67, C.slc Ar61x0v_68 v_64.2.2.length cr61x0v_69] 45) :: Tvisorref19_M.own κ br61x0x_65 v_64.1 :: rowp Ar61x0l_66 cr61x0l_67 28 3 eC v_64.2.1 :: rowp Ar61x0v_68 cr61x0v_69 32 1 (eI .u64) v_64.2.2 :: pt b_32 (blk [cp br15x0m_26, cp br15x0x_27, C.slc Ar15x0l_28 v_25.2.2.1.length cr15x0l_29, C.slc Ar15x0v_30 v_25.2.2.2.1.length cr15x0v_31] 45) :: Twire_Machine.own br15x0m_26 v_25.1 :: Tvisorref19_M.own κ br15x0x_27 v_25.2.1 :: rowp Ar15x0l_28 cr15x0l_29 28 3 eC v_25.2.2.1 :: rowp Ar15x0v_30 cr15x0v_31 32 1 (eI .u64) v_25.2.2.2.1 :: pt b_2 (blk x1 80) :: S) → wpFrom Try.prog _ _ 6 a w by
     rcases Bool.eq_false_or_eq_true (!v_25.2.2.2.2) with hb | hb
     ·replace hs := hs.known (t := 40) hb (by kernel_rfl)
      refine qpu 3 hs fun a hs => ?_
      have hq := hs.pick [2, 5, 10, 11, 12, 13, 38, 39, 40, 43] (L' := [(2, .int .u8 x2), (5, pp b_2), (10, pp b_32), (11, .bool v_25.2.2.2.2), (12, pp b_70), (13, .bool false), (38, .bool v_25.2.2.2.2), (39, .bool (!v_25.2.2.2.2)), (40, .bool true), (43, .bool true)]) (by kernel_rfl)
      exact hj_81 _ (hq.conv (by first | (rw [hb] <;> rfl) | rfl))
     ·replace hs := hs.known (t := 40) hb (by kernel_rfl)
      refine qpu 3 hs fun a hs => ?_
      have hq := hs.pick [2, 5, 10, 11, 12, 13, 38, 39, 40, 43] (L' := [(2, .int .u8 x2), (5, pp b_2), (10, pp b_32), (11, .bool v_25.2.2.2.2), (12, pp b_70), (13, .bool false), (38, .bool v_25.2.2.2.2), (39, .bool (!v_25.2.2.2.2)), (40, .bool false), (43, .bool true)]) (by kernel_rfl)
      exact hj_81 _ (hq.conv (by first | (rw [hb] <;> rfl) | rfl))
    intro a hs
    refine qpk 0 [2, 5, 10, 12, 43] hs fun a hs => hK80 _ _ ?_
    clear hK80
    refine qct hs ?_
    refine qse 1 [(8, .bool false)] hs fun a hs => ?_
    refine wp_ret ?_
    exact qr1 (.bool false) hs rfl hRR (by cases hm; exact ⟨rfl, (Ow.less hle_12 (hs.own.too [] 10))⟩)
   ·dsimp only at hm
    refine ⟨_, _, _, rfl, how, fun a hs => ?_⟩
    refine qpu 3 hs fun a hs => ?_
    refine qal 45 [C.ptr none, C.ptr none, C.slc none 0 0, C.slc none 0 0] 12 hs fun b_78 w a hs => ?_
    refine qsa 0 [cp br61x0m_72, cp br61x0x_73, C.slc Ar61x0l_74 v_71.2.2.1.length cr61x0l_75, C.slc Ar61x0v_76 v_71.2.2.2.1.length cr61x0v_77] hs rfl fun a w hs => ?_
    refine qpk 1 [2, 5, 10, 11, 12, 13] hs fun a hs => hK59 _ _ ?_
    refine Vk.seq fun K83 hK83 => ?_
    refine qsr fun K84 hK84 => ?_
    refine qpu 3 hs fun a hs => ?_
    refine qsc 40 3 hs fun a hs => ?_
    refine qpk 0 [2, 5, 10, 12, 43] hs fun a hs => hK84 _ _ ?_
    clear hK84
    refine qcs ((!v_25.2.2.2.2) || (!v_71.2.2.2.2)) hs (fun hb => ?_) fun hb => ?_
    ·replace hm := bif_t hm hb
     refine qse 1 [(8, .bool false)] hs fun a hs => ?_
     refine wp_ret ?_
     exact qr1 (.bool false) hs rfl hRR (by cases hm; exact ⟨rfl, (Ow.less hle_12 (hs.own.too [] 11))⟩)
    ·replace hm := bif_f hm hb
     refine wp_skip ?_
     refine hK83 _ _ ?_
     clear hK83
     refine qsr fun K87 hK87 => ?_
     refine qpu 2 hs fun a hs => ?_
     refine qal 71 [ci 0, ci 0, ci 0, ci 0, ci 0, ci 0, ci 0, ci 0, ci 0, ci 0, ci 0, ci 0, ci 0, ci 0, ci 0, ci 0, ci 0, ci 0, ci 0, ci 0, ci 0, ci 0, ci 0, ci 0] 14 hs fun b_88 w a hs => ?_
     refine qal 71 [ci 0, ci 0, ci 0, ci 0, ci 0, ci 0, ci 0, ci 0, ci 0, ci 0, ci 0, ci 0, ci 0, ci 0, ci 0, ci 0, ci 0, ci 0, ci 0, ci 0, ci 0, ci 0, ci 0, ci 0] 15 hs fun b_89 w a hs => ?_
     refine qsa 1 [ci 0, ci 0, ci 0, ci 0, ci 0, ci 0, ci 0, ci 0, ci 0, ci 0, ci 0, ci 0, ci 0, ci 0, ci 0, ci 0, ci 0, ci 0, ci 0, ci 0, ci 0, ci 0, ci 0, ci 0] hs rfl fun a w hs => ?_
     refine qsa 0 [ci 0, ci 0, ci 0, ci 0, ci 0, ci 0, ci 0, ci 0, ci 0, ci 0, ci 0, ci 0, ci 0, ci 0, ci 0, ci 0, ci 0, ci 0, ci 0, ci 0, ci 0, ci 0, ci 0, ci 0] hs rfl fun a w hs => ?_
     refine qpk 0 [2, 5, 10, 12, 14, 15] hs fun a hs => hK87 _ _ ?_
     clear hK87
     refine qsr fun K90 hK90 => ?_
     refine Vk.step (Vk.buildOp (sz := 1) (by_ := 1) (t := 69) (e := 5) (parts := #[]) (zs := vals [C.int .u8 0]) ([] : List Int) (eI .u8) (some 46) hs (by kernel_rfl) (by kernel_rfl) (by kernel_rfl) (by kernel_rfl) (by decide) rfl (fun x _ => rfl) (Nat.le_of_ble_eq_true (by kernel_rfl)) (by kernel_rfl) fun A_91 w a hs => ?_)
     refine qpk 1 [2, 5, 10, 12, 14, 15, 16] hs fun a hs => hK90 _ _ ?_
     clear hK90
     refine Vk.seq fun K93 hK93 => ?_
     refine qse 1 [(2, .int .u8 x2), (5, pp b_2), (10, pp b_32), (12, pp b_78), (14, pp b_88), (15, pp b_89), (16, .slice A_91 (([] : List Int).length) 0), (17, vi 0)] hs fun a hs => ?_
     refine wp_block ?_
     obtain ⟨r95, hl95, hm⟩ := bind_t hm
     have hx95 : ∀ (p_140 : Twire_Machine) (p_141 : Twire_Machine) (p_142 : Cells) (p_145 : List Int), r95 = (p_140, p_141, p_142, p_145) → ∀ (A_143 : Option Addr) (c_144 : Nat) (a : Act) (w : World), St 154 a w κ [(2, .int .u8 x2), (10, pp b_32), (12, pp b_78), (15, pp b_89), (16, .slice A_143 p_145.length c_144)] (pt b_32 (blk [cp br15x0m_26, cp br15x0x_27, C.slc Ar15x0l_28 v_25.2.2.1.length cr15x0l_29, C.slc Ar15x0v_30 v_25.2.2.2.1.length cr15x0v_31] 45) :: Twire_Machine.own br15x0m_26 p_140 :: Tvisorref19_M.own κ br15x0x_27 v_25.2.1 :: rowp Ar15x0l_28 cr15x0l_29 28 3 eC v_25.2.2.1 :: rowp Ar15x0v_30 cr15x0v_31 32 1 (eI .u64) v_25.2.2.2.1 :: pt b_78 (blk [cp br61x0m_72, cp br61x0x_73, C.slc Ar61x0l_74 v_71.2.2.1.length cr61x0l_75, C.slc Ar61x0v_76 v_71.2.2.2.1.length cr61x0v_77] 45) :: Twire_Machine.own br61x0m_72 p_141 :: Tvisorref19_M.own κ br61x0x_73 v_71.2.1 :: rowp Ar61x0l_74 cr61x0l_75 28 3 eC v_71.2.2.1 :: rowp Ar61x0v_76 cr61x0v_77 32 1 (eI .u64) v_71.2.2.2.1 :: pt b_89 (blk p_142 71) :: rowp A_143 c_144 5 1 (eI .u8) p_145 :: S) → K93 a w := by
      intro p_140 p_141 p_142 p_145 he A_143 c_144 a w hs
      subst r95
      refine hK93 _ _ ?_
      clear hK93
      refine Vk.seq fun K154 hK154 => ?_
      refine qsr fun K155 hK155 => ?_
      refine qpu 1 hs fun a hs => ?_
      refine qld 0 (cp br15x0m_26) hs rfl fun a hs => ?_
      obtain ⟨g_156, hs⟩ := hs.unex 1 rfl
      obtain ⟨v_159, h_158, hm⟩ := bind_t hm
      refine qcl (wire_Machine_Err.ok _ _ _ h_158 _ _ _ br15x0m_26 g_156 hs.own.f1) hs fun w a hs => ?_
      refine qpk 1 [2, 12, 15, 16, 76] hs fun a hs => hK155 _ _ ?_
      clear hK155
      refine qcs (v_159 != 0) hs (fun hb => ?_) fun hb => ?_
      ·replace hm := bif_t hm hb
       refine qse 1 [(8, .bool false)] hs fun a hs => ?_
       refine wp_ret ?_
       replace hs := hs.toEx (Twire_Machine.parts br15x0m_26 p_140) g_156 0 rfl
       exact qr1 (.bool false) hs rfl hRR (by cases hm; exact ⟨rfl, (Ow.less hle_12 (hs.own.too [] 12))⟩)
      ·replace hm := bif_f hm hb
       refine wp_skip ?_
       refine hK154 _ _ ?_
       clear hK154
       refine qse 4 [(12, pp b_78), (15, pp b_89), (16, .slice A_143 p_145.length c_144), (18, vi (Int.tmod (IntKind.i64.wrap x2) 65))] hs fun a hs => ?_
       refine Vk.seq fun K162 hK162 => ?_
       obtain ⟨C_163, hC_163⟩ : ∃ X0 : List HP, X0 = (bagL (Twire_Machine.parts br15x0m_26 p_140 g_156) :: pt b_32 (blk [cp br15x0m_26, cp br15x0x_27, C.slc Ar15x0l_28 v_25.2.2.1.length cr15x0l_29, C.slc Ar15x0v_30 v_25.2.2.2.1.length cr15x0v_31] 45) :: Tvisorref19_M.own κ br15x0x_27 v_25.2.1 :: rowp Ar15x0l_28 cr15x0l_29 28 3 eC v_25.2.2.1 :: rowp Ar15x0v_30 cr15x0v_31 32 1 (eI .u64) v_25.2.2.2.1 :: pt b_78 (blk [cp br61x0m_72, cp br61x0x_73, C.slc Ar61x0l_74 v_71.2.2.1.length cr61x0l_75, C.slc Ar61x0v_76 v_71.2.2.2.1.length cr61x0v_77] 45) :: Twire_Machine.own br61x0m_72 p_141 :: Tvisorref19_M.own κ br61x0x_73 v_71.2.1 :: rowp Ar61x0l_74 cr61x0l_75 28 3 eC v_71.2.2.1 :: rowp Ar61x0v_76 cr61x0v_77 32 1 (eI .u64) v_71.2.2.2.1 :: pt b_89 (blk p_142 71) :: rowp A_143 c_144 5 1 (eI .u8) p_145 :: S) := ⟨_, rfl⟩
       refine qdr 4 κ C_163 hs fun w hs hqC_163 => ?_
       have hcz : Ow κ w (bagL (Twire_Machine.parts br15x0m_26 p_140 g_156) :: pt b_32 (blk [cp br15x0m_26, cp br15x0x_27, C.slc Ar15x0l_28 v_25.2.2.1.length cr15x0l_29, C.slc Ar15x0v_30 v_25.2.2.2.1.length cr15x0v_31] 45) :: Tvisorref19_M.own κ br15x0x_27 v_25.2.1 :: rowp Ar15x0l_28 cr15x0l_29 28 3 eC v_25.2.2.1 :: rowp Ar15x0v_30 cr15x0v_31 32 1 (eI .u64) v_25.2.2.2.1 :: pt b_78 (blk [cp br61x0m_72, cp br61x0x_73, C.slc Ar61x0l_74 v_71.2.2.1.length cr61x0l_75, C.slc Ar61x0v_76 v_71.2.2.2.1.length cr61x0v_77] 45) :: Twire_Machine.own br61x0m_72 p_141 :: Tvisorref19_M.own κ br61x0x_73 v_71.2.1 :: rowp Ar61x0l_74 cr61x0l_75 28 3 eC v_71.2.2.1 :: rowp Ar61x0v_76 cr61x0v_77 32 1 (eI .u64) v_71.2.2.2.1 :: pt b_89 (blk p_142 71) :: rowp A_143 c_144 5 1 (eI .u8) p_145 :: S) := hs.own
       have hcl : Ow κ w C_163 := by rw [hC_163]; exact hcz
       refine qdp (fuel := 4) [0, 3] hs hcl hqC_163 fun a hs => ?_
       refine qdl 1 5 (cp br61x0m_72) hs hcl hqC_163 hC_163 rfl fun a hs => ?_
       obtain ⟨l_164, h_165, hm⟩ := bind_t hm
       have hx_166 := Ow.ptSl (sz := 3) (N := 8) (off := 0) 0 (Ow.to (S' := pt b_89 (blk p_142 71) :: S) hcz [10] 12 (by kernel_rfl) (by kernel_rfl)) rfl (part_all (cks_clen h_165)) (cks_sl h_165)
       refine qdt 2 (.slice (some ⟨b_89, 0, none⟩) l_164.length 8) (op := (.slice 71 (.tmp 15) none none none)) hs hcl hqC_163 (fun w hw o ho => by rw [hC_163] at hw; exact run_arr0 (sz := 3) (e := 28) (cks_len h_165) ho (by kernel_rfl) (by kernel_rfl) (by kernel_rfl) _) fun a hs => ?_
       obtain ⟨v_169, h_168, hm⟩ := bind_t hm
       refine Vk.dOnly (i := 4) (by kernel_rfl) (Vk.call (some 84) 61 #[pp br61x0m_72, .slice (some ⟨b_89, 0, none⟩) l_164.length 8, vi (Int.tmod (IntKind.i64.wrap x2) 65)] hs (by kernel_rfl) (by kernel_rfl) (by kernel_rfl) ?_)
       refine (guard_Bytes.ok k p_141 l_164 (Int.tmod (IntKind.i64.wrap x2) 65) v_169 h_168 κ w (bagL (Twire_Machine.parts br15x0m_26 p_140 g_156) :: pt b_32 (blk [cp br15x0m_26, cp br15x0x_27, C.slc Ar15x0l_28 v_25.2.2.1.length cr15x0l_29, C.slc Ar15x0v_30 v_25.2.2.2.1.length cr15x0v_31] 45) :: Tvisorref19_M.own κ br15x0x_27 v_25.2.1 :: rowp Ar15x0l_28 cr15x0l_29 28 3 eC v_25.2.2.1 :: rowp Ar15x0v_30 cr15x0v_31 32 1 (eI .u64) v_25.2.2.2.1 :: pt b_78 (blk [cp br61x0m_72, cp br61x0x_73, C.slc Ar61x0l_74 v_71.2.2.1.length cr61x0l_75, C.slc Ar61x0v_76 v_71.2.2.2.1.length cr61x0v_77] 45) :: Tvisorref19_M.own κ br61x0x_73 v_71.2.1 :: rowp Ar61x0l_74 cr61x0l_75 28 3 eC v_71.2.2.1 :: rowp Ar61x0v_76 cr61x0v_77 32 1 (eI .u64) v_71.2.2.2.1 :: pt b_89 (blk p_142 71) :: rowp A_143 c_144 5 1 (eI .u8) p_145 :: S) br61x0m_72 (some ⟨b_89, 0, none⟩) 8 (Sl.lift (fun w ho => (Ow.to (S' := pt b_89 (blk p_142 71) :: S) ho [9] 11 (by kernel_rfl) (by kernel_rfl))) hx_166) hs.own.f6).mono ?_
       rintro _ w ⟨Ar167x0_170, cr167x0_171, rfl, how⟩
       refine ⟨_, _, _, rfl, how, fun a hs => ?_⟩
       refine ⟨fun h => absurd h (by decide), ?_⟩
       refine Vk.dOnly (i := 5) (by kernel_rfl) (Vk.dPure1 [(19, .slice Ar167x0_170 v_169.1.length cr167x0_171)] hs (by kernel_rfl) fun a hs => ?_)
       refine ⟨fun h => absurd h (by decide), ?_⟩
       replace hs := hs.pick [12, 16, 18, 19] (L' := [(12, pp b_78), (16, .slice A_143 p_145.length c_144), (18, vi (Int.tmod (IntKind.i64.wrap x2) 65)), (19, .slice Ar167x0_170 v_169.1.length cr167x0_171)]) (by kernel_rfl)
       refine Vk.dDone (by kernel_rfl) ?_
       refine hK162 _ _ ?_
       clear hK162
       refine qsr fun K172 hK172 => ?_
       refine qpu 1 hs fun a hs => ?_
       refine qld 7 (cp br61x0m_72) hs rfl fun a hs => ?_
       obtain ⟨g_173, hs⟩ := hs.unex 1 rfl
       obtain ⟨v_176, h_175, hm⟩ := bind_t hm
       refine Vk.step (Vk.call (some 87) 62 #[pp br61x0m_72] hs (by kernel_rfl) (by kernel_rfl) (by kernel_rfl) ?_)
       refine (wire_Machine_Trace.ok k v_169.2 v_176 h_175 κ w (rowp Ar167x0_170 cr167x0_171 5 1 (eI .u8) v_169.1 :: bagL (Twire_Machine.parts br15x0m_26 p_140 g_156) :: pt b_32 (blk [cp br15x0m_26, cp br15x0x_27, C.slc Ar15x0l_28 v_25.2.2.1.length cr15x0l_29, C.slc Ar15x0v_30 v_25.2.2.2.1.length cr15x0v_31] 45) :: Tvisorref19_M.own κ br15x0x_27 v_25.2.1 :: rowp Ar15x0l_28 cr15x0l_29 28 3 eC v_25.2.2.1 :: rowp Ar15x0v_30 cr15x0v_31 32 1 (eI .u64) v_25.2.2.2.1 :: pt b_78 (blk [cp br61x0m_72, cp br61x0x_73, C.slc Ar61x0l_74 v_71.2.2.1.length cr61x0l_75, C.slc Ar61x0v_76 v_71.2.2.2.1.length cr61x0v_77] 45) :: Tvisorref19_M.own κ br61x0x_73 v_71.2.1 :: rowp Ar61x0l_74 cr61x0l_75 28 3 eC v_71.2.2.1 :: rowp Ar61x0v_76 cr61x0v_77 32 1 (eI .u64) v_71.2.2.2.1 :: pt b_89 (blk p_142 71) :: rowp A_143 c_144 5 1 (eI .u8) p_145 :: S) br61x0m_72 g_173 hs.own.f1).mono ?_
       rintro _ w ⟨Ar174x0ops_177, cr174x0ops_178, Ar174x0blocks_179, cr174x0blocks_180, rfl, how⟩
       refine ⟨_, _, _, rfl, how, fun a hs => ?_⟩
       refine qal 102 [ci 0, C.slc none 0 0, C.slc none 0 0] 20 hs fun b_181 w a hs => ?_
       refine qsa 0 [ci v_176.n, C.slc Ar174x0ops_177 v_176.ops.length cr174x0ops_178, C.slc Ar174x0blocks_179 v_176.blocks.length cr174x0blocks_180] hs rfl fun a w hs => ?_
       refine qpk 0 [12, 16, 18, 19, 20] hs fun a hs => hK172 _ _ ?_
       clear hK172
       refine Vk.seq fun K182 hK182 => ?_
       refine Vk.seq fun K183 hK183 => ?_
       have hj183 : ∀ (p_197 : Bool), visorlaw24_GuardShows.j2 k x2 v_169 v_176 p_197 = some r → ∀ (a : Act) (w : World), St 154 a w κ [(12, pp b_78), (18, vi (Int.tmod (IntKind.i64.wrap x2) 65)), (20, pp b_181), (99, .bool p_197)] (pt b_78 (blk [cp br61x0m_72, cp br61x0x_73, C.slc Ar61x0l_74 v_71.2.2.1.length cr61x0l_75, C.slc Ar61x0v_76 v_71.2.2.2.1.length cr61x0v_77] 45) :: Twire_Machine.own br61x0m_72 v_169.2 :: Tvisorref19_M.own κ br61x0x_73 v_71.2.1 :: rowp Ar61x0l_74 cr61x0l_75 28 3 eC v_71.2.2.1 :: rowp Ar61x0v_76 cr61x0v_77 32 1 (eI .u64) v_71.2.2.2.1 :: pt b_181 (blk (Tapi_Trace.obj v_176 Ar174x0ops_177 cr174x0ops_178 Ar174x0blocks_179 cr174x0blocks_180) 102) :: rowp Ar174x0ops_177 cr174x0ops_178 93 6 Tapi_Op.cells v_176.ops :: rowp Ar174x0blocks_179 cr174x0blocks_180 175 3 Tapi_Span.cells v_176.blocks :: S) → K183 a w := by
        intro p_197 hm a w hs
        unfold visorlaw24_GuardShows.j2 at hm
        refine hK183 _ _ ?_
        refine qcs (p_197) hs (fun hb => ?_) fun hb => ?_
        ·replace hm := bif_t hm hb
         refine qse 1 [(8, .bool false)] hs fun a hs => ?_
         refine wp_ret ?_
         exact qr1 (.bool false) hs rfl hRR (by cases hm; exact ⟨rfl, (Ow.less hle_12 (hs.own.too [] 8))⟩)
        ·replace hm := bif_f hm hb
         refine wp_skip ?_
         refine hK182 _ _ ?_
         clear hK182
         refine qse 1 [(12, pp b_78), (18, vi (Int.tmod (IntKind.i64.wrap x2) 65)), (20, pp b_181), (21, vi 0)] hs fun a hs => ?_
         refine qsr fun K200 hK200 => ?_
         refine qpu 1 hs fun a hs => ?_
         refine qld 0 (cp br61x0m_72) hs rfl fun a hs => ?_
         obtain ⟨g_201, hs⟩ := hs.unex 1 rfl
         obtain ⟨v_204, h_203, hm⟩ := bind_t hm
         refine Vk.step (Vk.call (some 102) 22 #[pp br61x0m_72] hs (by kernel_rfl) (by kernel_rfl) (by kernel_rfl) ?_)
         refine (wire_Machine_Values.ok k v_169.2 v_204 h_203 κ w (pt b_78 (blk [cp br61x0m_72, cp br61x0x_73, C.slc Ar61x0l_74 v_71.2.2.1.length cr61x0l_75, C.slc Ar61x0v_76 v_71.2.2.2.1.length cr61x0v_77] 45) :: Tvisorref19_M.own κ br61x0x_73 v_71.2.1 :: rowp Ar61x0l_74 cr61x0l_75 28 3 eC v_71.2.2.1 :: rowp Ar61x0v_76 cr61x0v_77 32 1 (eI .u64) v_71.2.2.2.1 :: pt b_181 (blk (Tapi_Trace.obj v_176 Ar174x0ops_177 cr174x0ops_178 Ar174x0blocks_179 cr174x0blocks_180) 102) :: rowp Ar174x0ops_177 cr174x0ops_178 93 6 Tapi_Op.cells v_176.ops :: rowp Ar174x0blocks_179 cr174x0blocks_180 175 3 Tapi_Span.cells v_176.blocks :: S) br61x0m_72 g_201 hs.own.f1).mono ?_
         rintro _ w ⟨Ar202x0_205, cr202x0_206, rfl, how⟩
         refine ⟨_, _, _, rfl, how, fun a hs => ?_⟩
         refine qpk 1 [18, 20, 21, 22] hs fun a hs => hK200 _ _ ?_
         clear hK200
         refine Vk.seq fun K207 hK207 => ?_
         refine qsk 1 [18, 20, 21, 22, 23] hs fun a hs => ?_
         refine wp_block ?_
         replace hs := hs.toEx (Twire_Machine.parts br61x0m_72 v_169.2) g_201 1 rfl
         obtain ⟨r209, hl209, hm⟩ := bind_t hm
         have hx209 : ∀ (p_249 : Int), r209 = Sum.inr p_249 → ∀ (a : Act) (w : World), St 154 a w κ [(18, vi (Int.tmod (IntKind.i64.wrap x2) 65)), (21, vi p_249)] (S) → K207 a w := by
          intro p_249 he a w hs
          subst r209
          refine hK207 _ _ ?_
          clear hK207
          refine Vk.seq fun K254 hK254 => ?_
          have hj254 : ∀ (p_258 : Bool), visorlaw24_GuardShows.j4 k p_258 = some r → ∀ (a : Act) (w : World), St 154 a w κ [(8, .bool p_258)] (S) → K254 a w := by
           intro p_258 hm a w hs
           unfold visorlaw24_GuardShows.j4 at hm
           refine hK254 _ _ ?_
           refine wp_ret ?_
           exact qr1 (.bool p_258) hs rfl hRR (by cases hm; exact ⟨rfl, (Ow.less hle_12 hs.own)⟩)
          refine Vk.region ?_
          refine qpu 6 hs fun a hs => ?_
          rcases Bool.eq_false_or_eq_true (p_249 == (IntKind.i64.wrap (Int.tdiv (IntKind.i64.wrap ((Int.tmod (IntKind.i64.wrap x2) 65) + 7)) 8))) with hb | hb
          ·replace hm := bif_t hm hb
           replace hs := hs.known (t := 151) hb (by kernel_rfl)
           obtain ⟨v_257, h_256, hm⟩ := bind_t hm
           refine qcl (visorlaw24_awake.ok _ _ h_256 _ _ (S) hs.own) hs fun w a hs => ?_
           refine qpe 2 [(8, .bool v_257)] hs fun a hs => ?_
           exact hj254 v_257 hm _ _ (hs.go [8] [] 0 (by kernel_rfl) (by kernel_rfl) (by kernel_rfl))
          ·replace hm := bif_f hm hb
           replace hs := hs.known (t := 151) hb (by kernel_rfl)
           refine qpe 3 [(8, .bool false)] hs fun a hs => ?_
           exact hj254 false hm _ _ (hs.go [8] [] 0 (by kernel_rfl) (by kernel_rfl) (by kernel_rfl))
         have hret209 : ∀ v, r209 = Sum.inl v → v = r := by intro v he; subst r209; exact Option.some.inj hm
         refine Vk.loopBy (fun k (s : Int × Int) a w => visorlaw24_GuardShows.l2 x2 v_176 v_204 k s.1 s.2 = some r209 ∧ St 154 a w κ [(18, vi (Int.tmod (IntKind.i64.wrap x2) 65)), (20, pp b_181), (21, vi s.1), (22, .slice Ar202x0_205 v_204.length cr202x0_206), (23, vi s.2)] (pt b_181 (blk (Tapi_Trace.obj v_176 Ar174x0ops_177 cr174x0ops_178 Ar174x0blocks_179 cr174x0blocks_180) 102) :: rowp Ar174x0ops_177 cr174x0ops_178 93 6 Tapi_Op.cells v_176.ops :: rowp Ar174x0blocks_179 cr174x0blocks_180 175 3 Tapi_Span.cells v_176.blocks :: rowp Ar202x0_205 cr202x0_206 32 1 (eI .u64) v_204 :: S)) k (0, 0) ⟨hl209, hs.go [18, 20, 21, 22, 23] [6, 7, 8, 0] 9 (by kernel_rfl) (by kernel_rfl) (by kernel_rfl)⟩ (fun s a w h => by obtain ⟨h1, _⟩ := h; simp [visorlaw24_GuardShows.l2] at h1) (fun k KL209 ih s a w h => ?_)
         obtain ⟨q_210, q_211⟩ := s
         obtain ⟨hm, hs⟩ := h
         try dsimp only at hm hs
         rw [visorlaw24_GuardShows.l2] at hm
         refine Vk.seq fun K212 hK212 => ?_
         refine qsr fun K213 hK213 => ?_
         refine qpu 2 hs fun a hs => ?_
         refine qld 0 (C.slc Ar174x0ops_177 v_176.ops.length cr174x0ops_178) hs rfl fun a hs => ?_
         refine qpu 3 hs fun a hs => ?_
         refine qsc 108 5 hs fun a hs => ?_
         refine qpk 0 [18, 20, 21, 22, 23, 113] hs fun a hs => hK213 _ _ ?_
         clear hK213
         refine qcs ((decide (q_211 < ((v_176.ops.length : Nat) : Int))) && (decide (q_211 < ((v_204.length : Nat) : Int)))) hs (fun hb => ?_) fun hb => ?_
         ·replace hm := bif_t hm hb
          refine wp_skip ?_
          refine hK212 _ _ ?_
          clear hK212
          refine Vk.seq fun K215 hK215 => ?_
          have hj248 : ∀ (p_247 : Int), visorlaw24_GuardShows.j3 k (visorlaw24_GuardShows.l2 x2 v_176 v_204 k) q_211 p_247 = some r209 → ∀ (a : Act) (w : World), St 154 a w κ [(18, vi (Int.tmod (IntKind.i64.wrap x2) 65)), (20, pp b_181), (21, vi p_247), (22, .slice Ar202x0_205 v_204.length cr202x0_206), (23, vi q_211)] (pt b_181 (blk (Tapi_Trace.obj v_176 Ar174x0ops_177 cr174x0ops_178 Ar174x0blocks_179 cr174x0blocks_180) 102) :: rowp Ar174x0ops_177 cr174x0ops_178 93 6 Tapi_Op.cells v_176.ops :: rowp Ar174x0blocks_179 cr174x0blocks_180 175 3 Tapi_Span.cells v_176.blocks :: rowp Ar202x0_205 cr202x0_206 32 1 (eI .u64) v_204 :: S) → K215 a w := by
           intro p_247 hm a w hs
           unfold visorlaw24_GuardShows.j3 at hm
           refine hK215 _ _ ?_
           refine Vk.region ?_
           refine qpk 3 [18, 20, 21, 22, 23] hs fun a hs => ?_
           refine ih (p_247, (IntKind.i64.wrap (q_211 + 1))) _ _ ⟨hm, hs.go [18, 20, 21, 22, 23] [0, 1, 2, 3] 4 (by kernel_rfl) (by kernel_rfl) (by kernel_rfl)⟩
          refine wp_block ?_
          refine Vk.seq fun K216 hK216 => ?_
          refine qsr fun K217 hK217 => ?_
          refine qpu 1 hs fun a hs => ?_
          refine qld 0 (C.slc Ar174x0ops_177 v_176.ops.length cr174x0ops_178) hs rfl fun a hs => ?_
          refine qpu 1 hs fun a hs => ?_
          obtain ⟨h_218, hm⟩ := ite_t hm
          obtain ⟨e_221, h_219, hm⟩ := bind_t hm
          obtain ⟨b_222, o_223, hA_224, h_220⟩ := Sl.elem (Ow.rowSl 0 (Ow.to (S' := rowp Ar174x0ops_177 cr174x0ops_178 93 6 Tapi_Op.cells v_176.ops :: S) hs.own [1] 4 (by kernel_rfl) (by kernel_rfl)) rfl) h_219
          refine qva (.pointer (some ⟨b_222, o_223 + q_211.toNat * 6, none⟩)) (op := (.indexAddr 59 (.tmp 117) (.tmp 118))) hs (fun o ho => run_idxSlc (k := .i64) ho (cap := cr174x0ops_178) (len := v_176.ops.length) ((congrArg (fun A => Value.slice A (v_176.ops.length) (cr174x0ops_178)) hA_224) ▸ (by kernel_rfl)) (by kernel_rfl) (by kernel_rfl) (idx_ok h_218 h_219) _) fun a hs => ?_
          refine qpu 1 hs fun a hs => ?_
          refine qva (vi e_221.kind) (op := (.load 3 (.tmp 120))) hs (fun o ho => run_load1 (b := b_222) (off := o_223 + q_211.toNat * 6) (c := ci e_221.kind) ho (by kernel_rfl) (by kernel_rfl) (CellsAt.cell h_220 (i := 0) (by kernel_rfl)) _ (Ow.to (S' := rowp Ar174x0ops_177 cr174x0ops_178 93 6 Tapi_Op.cells v_176.ops :: S) hs.own [1] 4 (by kernel_rfl) (by kernel_rfl))) fun a hs => ?_
          refine qpe 1 [(18, vi (Int.tmod (IntKind.i64.wrap x2) 65)), (20, pp b_181), (21, vi q_210), (22, .slice Ar202x0_205 v_204.length cr202x0_206), (23, vi q_211), (122, .bool (e_221.kind != 12))] hs fun a hs => hK217 _ _ ?_
          clear hK217
          refine qcs (e_221.kind != 12) hs (fun hb => ?_) fun hb => ?_
          ·replace hm := bif_t hm hb
           refine wp_exit ?_
           exact hj248 q_210 hm _ _ (hs.go [18, 20, 21, 22, 23] [0, 1, 2, 3] 4 (by kernel_rfl) (by kernel_rfl) (by kernel_rfl))
          ·replace hm := bif_f hm hb
           refine wp_skip ?_
           refine hK216 _ _ ?_
           clear hK216
           refine qsk 5 [18, 20, 21, 22, 23, 24] hs fun a hs => ?_
           refine Vk.seq fun K226 hK226 => ?_
           refine Vk.seq fun K227 hK227 => ?_
           obtain ⟨C_228, hC_228⟩ : ∃ X0 : List HP, X0 = (pt b_181 (blk (Tapi_Trace.obj v_176 Ar174x0ops_177 cr174x0ops_178 Ar174x0blocks_179 cr174x0blocks_180) 102) :: rowp Ar174x0ops_177 cr174x0ops_178 93 6 Tapi_Op.cells v_176.ops :: rowp Ar174x0blocks_179 cr174x0blocks_180 175 3 Tapi_Span.cells v_176.blocks :: rowp Ar202x0_205 cr202x0_206 32 1 (eI .u64) v_204 :: S) := ⟨_, rfl⟩
           refine qdr 17 κ C_228 hs fun w hs hqC_228 => ?_
           have hcz : Ow κ w (pt b_181 (blk (Tapi_Trace.obj v_176 Ar174x0ops_177 cr174x0ops_178 Ar174x0blocks_179 cr174x0blocks_180) 102) :: rowp Ar174x0ops_177 cr174x0ops_178 93 6 Tapi_Op.cells v_176.ops :: rowp Ar174x0blocks_179 cr174x0blocks_180 175 3 Tapi_Span.cells v_176.blocks :: rowp Ar202x0_205 cr202x0_206 32 1 (eI .u64) v_204 :: S) := hs.own
           have hcl : Ow κ w C_228 := by rw [hC_228]; exact hcz
           refine qdp (fuel := 14) [0, 1, 2] hs hcl hqC_228 fun a hs => ?_
           rcases Bool.eq_false_or_eq_true (decide ((IntKind.i64.wrap ((Int.tmod (IntKind.i64.wrap x2) 65) - (IntKind.i64.wrap (8 * q_210)))) < 8)) with hb | hb
           ·replace hm := bif_t hm hb
            replace hs := hs.known (t := 129) hb (by kernel_rfl)
            refine qdp (fuel := 8) [3, 4, 7, 8, 11, 12] hs hcl hqC_228 fun a hs => ?_
            obtain ⟨h_229, hm⟩ := ite_t hm
            obtain ⟨e_232, h_230, hm⟩ := bind_t hm
            obtain ⟨b_233, o_234, hA_235, h_231⟩ := Sl.elem (Ow.rowSl 0 hcz.drop.drop.drop rfl) h_230
            refine qdt 5 (.pointer (some ⟨b_233, o_234 + q_211.toNat * 1, none⟩)) (op := (.indexAddr 25 (.tmp 130) (.tmp 131))) hs hcl hqC_228 (fun w hw o ho => by rw [hC_228] at hw; exact run_idxSlc (k := .i64) ho (cap := cr202x0_206) (len := v_204.length) ((congrArg (fun A => Value.slice A (v_204.length) (cr202x0_206)) hA_235) ▸ (by kernel_rfl)) (by kernel_rfl) (by kernel_rfl) (idx_ok h_229 h_230) _) fun a hs => ?_
            refine qdt 6 (vw e_232) (op := (.load 32 (.tmp 132))) hs hcl hqC_228 (fun w hw o ho => by rw [hC_228] at hw; exact run_load1 (c := cw e_232) ho (by kernel_rfl) (by kernel_rfl) (fun w ho => h_231 w ho 0 _ rfl) _ hw.drop.drop.drop) fun a hs => ?_
            obtain ⟨h_236, hm⟩ := ite_t hm
            obtain ⟨e_239, h_237, hm⟩ := bind_t hm
            obtain ⟨b_240, o_241, hA_242, h_238⟩ := Sl.elem (Ow.rowSl 0 hcz.drop.drop.drop rfl) h_237
            refine qdt 9 (.pointer (some ⟨b_240, o_241 + q_211.toNat * 1, none⟩)) (op := (.indexAddr 25 (.tmp 134) (.tmp 135))) hs hcl hqC_228 (fun w hw o ho => by rw [hC_228] at hw; exact run_idxSlc (k := .i64) ho (cap := cr202x0_206) (len := v_204.length) ((congrArg (fun A => Value.slice A (v_204.length) (cr202x0_206)) hA_242) ▸ (by kernel_rfl)) (by kernel_rfl) (by kernel_rfl) (idx_ok h_236 h_237) _) fun a hs => ?_
            refine qdt 10 (vw e_239) (op := (.load 32 (.tmp 136))) hs hcl hqC_228 (fun w hw o ho => by rw [hC_228] at hw; exact run_load1 (c := cw e_239) ho (by kernel_rfl) (by kernel_rfl) (fun w ho => h_238 w ho 0 _ rfl) _ hw.drop.drop.drop) fun a hs => ?_
            obtain ⟨v_245, h_244, hm⟩ := bind_t hm
            refine qdc 13 (visorref01_Low.ok _ _ _ h_244 _ _ (pt b_181 (blk (Tapi_Trace.obj v_176 Ar174x0ops_177 cr174x0ops_178 Ar174x0blocks_179 cr174x0blocks_180) 102) :: rowp Ar174x0ops_177 cr174x0ops_178 93 6 Tapi_Op.cells v_176.ops :: rowp Ar174x0blocks_179 cr174x0blocks_180 175 3 Tapi_Span.cells v_176.blocks :: rowp Ar202x0_205 cr202x0_206 32 1 (eI .u64) v_204 :: S) hs.own) hs fun w a hs => ?_
            replace hcl := qO hC_228 hs.own
            refine ⟨fun _ => hcl, ?_⟩
            refine qdp (fuel := 0) [14, 15, 16] hs hcl hqC_228 fun a hs => ?_
            replace hs := hs.pick [18, 20, 21, 22, 23, 130, 131, 132, 133, 134, 135, 136, 137, 138, 139, 140, 141, 142, 143] (L' := [(18, vi (Int.tmod (IntKind.i64.wrap x2) 65)), (20, pp b_181), (21, vi q_210), (22, .slice Ar202x0_205 v_204.length cr202x0_206), (23, vi q_211), (130, .slice Ar202x0_205 v_204.length cr202x0_206), (131, vi q_211), (132, .pointer (some ⟨b_233, o_234 + q_211.toNat * 1, none⟩)), (133, vw e_232), (134, .slice Ar202x0_205 v_204.length cr202x0_206), (135, vi q_211), (136, .pointer (some ⟨b_240, o_241 + q_211.toNat * 1, none⟩)), (137, vw e_239), (138, vi (IntKind.i64.wrap ((Int.tmod (IntKind.i64.wrap x2) 65) - (IntKind.i64.wrap (8 * q_210))))), (139, vi (IntKind.i64.wrap (8 * (IntKind.i64.wrap ((Int.tmod (IntKind.i64.wrap x2) 65) - (IntKind.i64.wrap (8 * q_210))))))), (140, vw v_245), (141, vw (band .u64 e_239 v_245)), (142, .bool (e_232 != (band .u64 e_239 v_245))), (143, .bool (e_232 != (band .u64 e_239 v_245)))]) (by kernel_rfl)
            refine Vk.dDone (by kernel_rfl) ?_
            refine hK227 _ _ ?_
            refine qcs (e_232 != (band .u64 e_239 v_245)) hs (fun hb => ?_) fun hb => ?_
            ·replace hm := bif_t hm hb
             refine qse 1 [(8, .bool false)] hs fun a hs => ?_
             refine wp_ret ?_
             exact Vk.ret1 (P := Try.prog) (fn := Try.f9) (R := RR) (.bool false) hs rfl (by kernel_rfl) (by obtain rfl := hret209 _ ((Option.some.inj hm).symm); subst hRR; exact ⟨rfl, (Ow.less hle_12 (hs.own.too [] 4))⟩)
            ·replace hm := bif_f hm hb
             refine wp_skip ?_
             refine hK226 _ _ ?_
             refine Vk.region ?_
             refine qpk 3 [18, 20, 21, 22, 23, 130, 131, 132, 133, 134, 135, 136, 137, 138, 139, 140, 141, 142] hs fun a hs => hK215 _ _ ?_
             refine Vk.region ?_
             refine qpk 3 [18, 20, 21, 22, 23, 130, 131, 132, 133, 134, 135, 136, 137, 138, 139, 140, 141, 142] hs fun a hs => ?_
             refine ih ((IntKind.i64.wrap (q_210 + 1)), (IntKind.i64.wrap (q_211 + 1))) _ _ ⟨hm, hs.go [18, 20, 21, 22, 23] [0, 1, 2, 3] 4 (by kernel_rfl) (by kernel_rfl) (by kernel_rfl)⟩
           ·replace hm := bif_f hm hb
            replace hs := hs.known (t := 129) hb (by kernel_rfl)
            refine qdp (fuel := 0) [3, 4, 5, 6, 7, 8, 9, 10, 11, 12, 13, 14, 15, 16] hs hcl hqC_228 fun a hs => ?_
            replace hs := hs.pick [18, 20, 21, 22, 23, 143] (L' := [(18, vi (Int.tmod (IntKind.i64.wrap x2) 65)), (20, pp b_181), (21, vi q_210), (22, .slice Ar202x0_205 v_204.length cr202x0_206), (23, vi q_211), (143, .bool false)]) (by kernel_rfl)
            refine Vk.dDone (by kernel_rfl) ?_
            refine hK227 _ _ ?_
            refine qcf hs ?_
            refine wp_skip ?_
            refine hK226 _ _ ?_
            refine Vk.region ?_
            refine qpe 3 [(18, vi (Int.tmod (IntKind.i64.wrap x2) 65)), (20, pp b_181), (21, vi (IntKind.i64.wrap (q_210 + 1))), (22, .slice Ar202x0_205 v_204.length cr202x0_206), (23, vi q_211)] hs fun a hs => ?_
            exact hj248 (IntKind.i64.wrap (q_210 + 1)) hm _ _ (hs.go [18, 20, 21, 22, 23] [0, 1, 2, 3] 4 (by kernel_rfl) (by kernel_rfl) (by kernel_rfl))
         ·replace hm := bif_f hm hb
          refine wp_exit ?_
          exact hx209 q_210 (Option.some.inj hm).symm _ _ (hs.go [18, 21] [] 4 (by kernel_rfl) (by kernel_rfl) (by kernel_rfl))
       refine Vk.region ?_
       refine qpu 1 hs fun a hs => ?_
       refine qld 10 (cp br61x0m_72) hs rfl fun a hs => ?_
       obtain ⟨v_186, h_185, hm⟩ := bind_t hm
       refine qcl (wire_Machine_Err.ok _ _ _ h_185 _ _ _ br61x0m_72 g_173 hs.own.f3) hs fun w a hs => ?_
       refine qpu 2 hs fun a hs => ?_
       rcases Bool.eq_false_or_eq_true (v_186 != 0) with hb | hb
       ·replace hm := bif_t hm hb
        replace hs := hs.known (t := 92) hb (by kernel_rfl)
        refine qpe 7 [(12, pp b_78), (18, vi (Int.tmod (IntKind.i64.wrap x2) 65)), (20, pp b_181), (99, .bool true)] hs fun a hs => ?_
        replace hs := hs.toEx (Twire_Machine.parts br61x0m_72 v_169.2) g_173 0 rfl
        replace hs := hs.toEx (Twire_Machine.parts br15x0m_26 p_140) g_156 5 rfl
        exact hj183 true hm _ _ (hs.go [12, 18, 20, 99] [10, 0, 11, 12, 13, 1, 2, 3] 16 (by kernel_rfl) (by kernel_rfl) (by kernel_rfl))
       ·replace hm := bif_f hm hb
        replace hs := hs.known (t := 92) hb (by kernel_rfl)
        refine qpu 3 hs fun a hs => ?_
        obtain ⟨h_193, hm⟩ := ite_t hm
        refine qva (.slice A_143 ((p_145.take (Int.tmod (IntKind.i64.wrap x2) 65).toNat).length) c_144) (op := (.slice 69 (.tmp 94) none (some (.tmp 95)) none)) hs (fun o ho => run_sub0 (e := 5) (kk := .i64) 15 hs.own rfl ⟨h_193.1, h_193.2.2⟩ ho (by kernel_rfl) (by kernel_rfl) (by kernel_rfl) (by kernel_rfl)) fun a hs => ?_
        replace hs := hs.take 15 _ rfl h_193.2.2
        obtain ⟨v_196, h_195, hm⟩ := bind_t hm
        refine qcl (visorref01_Same.ok _ _ _ _ h_195 _ _ (bagL (Twire_Machine.parts br61x0m_72 v_169.2 g_173) :: pt b_181 (blk (Tapi_Trace.obj v_176 Ar174x0ops_177 cr174x0ops_178 Ar174x0blocks_179 cr174x0blocks_180) 102) :: rowp Ar174x0ops_177 cr174x0ops_178 93 6 Tapi_Op.cells v_176.ops :: rowp Ar174x0blocks_179 cr174x0blocks_180 175 3 Tapi_Span.cells v_176.blocks :: rowp Ar167x0_170 cr167x0_171 5 1 (eI .u8) v_169.1 :: bagL (Twire_Machine.parts br15x0m_26 p_140 g_156) :: pt b_32 (blk [cp br15x0m_26, cp br15x0x_27, C.slc Ar15x0l_28 v_25.2.2.1.length cr15x0l_29, C.slc Ar15x0v_30 v_25.2.2.2.1.length cr15x0v_31] 45) :: Tvisorref19_M.own κ br15x0x_27 v_25.2.1 :: rowp Ar15x0l_28 cr15x0l_29 28 3 eC v_25.2.2.1 :: rowp Ar15x0v_30 cr15x0v_31 32 1 (eI .u64) v_25.2.2.2.1 :: pt b_78 (blk [cp br61x0m_72, cp br61x0x_73, C.slc Ar61x0l_74 v_71.2.2.1.length cr61x0l_75, C.slc Ar61x0v_76 v_71.2.2.2.1.length cr61x0v_77] 45) :: Tvisorref19_M.own κ br61x0x_73 v_71.2.1 :: rowp Ar61x0l_74 cr61x0l_75 28 3 eC v_71.2.2.1 :: rowp Ar61x0v_76 cr61x0v_77 32 1 (eI .u64) v_71.2.2.2.1 :: pt b_89 (blk p_142 71) :: rowp A_143 c_144 5 1 (eI .u8) (p_145.take (Int.tmod (IntKind.i64.wrap x2) 65).toNat) :: S) Ar167x0_170 cr167x0_171 (Sl.lift (fun w ho => (Ow.to (S' := rowp Ar167x0_170 cr167x0_171 5 1 (eI .u8) v_169.1 :: S) ho [4] 16 (by kernel_rfl) (by kernel_rfl))) (Ow.rowSl 0 (Ow.to (S' := rowp Ar167x0_170 cr167x0_171 5 1 (eI .u8) v_169.1 :: S) hs.own [4] 16 (by kernel_rfl) (by kernel_rfl)) rfl)) A_143 c_144 ((Ow.rowSl 0 hs.own.drop.drop.drop.drop.drop.drop.drop.drop.drop.drop.drop.drop.drop.drop.drop rfl).less.less.less.less.less.less.less.less.less.less.less.less.less.less.less) hs.own) hs fun w a hs => ?_
        refine qpe 2 [(12, pp b_78), (18, vi (Int.tmod (IntKind.i64.wrap x2) 65)), (20, pp b_181), (99, .bool (!v_196))] hs fun a hs => ?_
        replace hs := hs.toEx (Twire_Machine.parts br61x0m_72 v_169.2) g_173 0 rfl
        replace hs := hs.toEx (Twire_Machine.parts br15x0m_26 p_140) g_156 5 rfl
        exact hj183 (!v_196) hm _ _ (hs.go [12, 18, 20, 99] [10, 0, 11, 12, 13, 1, 2, 3] 16 (by kernel_rfl) (by kernel_rfl) (by kernel_rfl))
     refine Vk.loopBy (fun k (s : Twire_Machine × Twire_Machine × Cells × Cells × List Int × Int) a w => ∃ (A_100 : Option Addr), ∃ (c_101 : Nat), visorlaw24_GuardShows.l1 x1 k s.1 s.2.1 s.2.2.1 s.2.2.2.1 s.2.2.2.2.1 s.2.2.2.2.2 = some r95 ∧ St 154 a w κ [(2, .int .u8 x2), (5, pp b_2), (10, pp b_32), (12, pp b_78), (14, pp b_88), (15, pp b_89), (16, .slice A_100 s.2.2.2.2.1.length c_101), (17, vi s.2.2.2.2.2)] (pt b_2 (blk x1 80) :: pt b_32 (blk [cp br15x0m_26, cp br15x0x_27, C.slc Ar15x0l_28 v_25.2.2.1.length cr15x0l_29, C.slc Ar15x0v_30 v_25.2.2.2.1.length cr15x0v_31] 45) :: Twire_Machine.own br15x0m_26 s.1 :: Tvisorref19_M.own κ br15x0x_27 v_25.2.1 :: rowp Ar15x0l_28 cr15x0l_29 28 3 eC v_25.2.2.1 :: rowp Ar15x0v_30 cr15x0v_31 32 1 (eI .u64) v_25.2.2.2.1 :: pt b_78 (blk [cp br61x0m_72, cp br61x0x_73, C.slc Ar61x0l_74 v_71.2.2.1.length cr61x0l_75, C.slc Ar61x0v_76 v_71.2.2.2.1.length cr61x0v_77] 45) :: Twire_Machine.own br61x0m_72 s.2.1 :: Tvisorref19_M.own κ br61x0x_73 v_71.2.1 :: rowp Ar61x0l_74 cr61x0l_75 28 3 eC v_71.2.2.1 :: rowp Ar61x0v_76 cr61x0v_77 32 1 (eI .u64) v_71.2.2.2.1 :: pt b_88 (blk s.2.2.1 71) :: pt b_89 (blk s.2.2.2.1 71) :: rowp A_100 c_101 5 1 (eI .u8) s.2.2.2.2.1 :: S)) k (v_25.1, v_71.1, [ci 0, ci 0, ci 0, ci 0, ci 0, ci 0, ci 0, ci 0, ci 0, ci 0, ci 0, ci 0, ci 0, ci 0, ci 0, ci 0, ci 0, ci 0, ci 0, ci 0, ci 0, ci 0, ci 0, ci 0], [ci 0, ci 0, ci 0, ci 0, ci 0, ci 0, ci 0, ci 0, ci 0, ci 0, ci 0, ci 0, ci 0, ci 0, ci 0, ci 0, ci 0, ci 0, ci 0, ci 0, ci 0, ci 0, ci 0, ci 0], ([] : List Int), 0) ⟨A_91, 0, hl95, hs.go [2, 5, 10, 12, 14, 15, 16, 17] [13, 8, 9, 10, 11, 12, 3, 4, 5, 6, 7, 2, 1, 0] 14 (by kernel_rfl) (by kernel_rfl) (by kernel_rfl)⟩ (fun s a w h => by obtain ⟨_, _, h1, _⟩ := h; simp [visorlaw24_GuardShows.l1] at h1) (fun k KL95 ih s a w h => ?_)
     obtain ⟨q_96, q_97, q_98, q_99, q_102, q_103⟩ := s
     obtain ⟨A_100, c_101, hm, hs⟩ := h
     try dsimp only at hm hs
     rw [visorlaw24_GuardShows.l1] at hm
     refine Vk.seq fun K104 hK104 => ?_
     refine qsk 2 [2, 5, 10, 12, 14, 15, 16, 17, 48] hs fun a hs => ?_
     refine qcs (decide (q_103 < 8)) hs (fun hb => ?_) fun hb => ?_
     ·replace hm := bif_t hm hb
      refine wp_skip ?_
      refine hK104 _ _ ?_
      clear hK104
      refine Vk.seq fun K106 hK106 => ?_
      refine wp_block ?_
      refine Vk.seq fun K107 hK107 => ?_
      obtain ⟨C_108, hC_108⟩ := qC hs.own.f2.drop
      refine qdr 8 κ C_108 hs fun w hs hqC_108 => ?_
      have hcl := qO hC_108 hs.own.f2.drop
      refine qdp (fuel := 6) [0, 1, 3] hs hcl hqC_108 fun a hs => ?_
      refine qdl 2 1 (cp br15x0m_26) hs hcl hqC_108 hC_108 rfl fun a hs => ?_
      obtain ⟨h_109, hm⟩ := ite_t hm
      refine qdx 4 b_2 0 1 hs hcl hqC_108 h_109 fun a hs => ?_
      obtain ⟨v_111, h_110, hm⟩ := bind_t hm
      refine qdi 5 0 hs hcl hqC_108 hC_108 rfl h_110 fun a hs => ?_
      obtain ⟨v_114, h_113, hm⟩ := bind_t hm
      refine qdc 6 (share_Encode.ok _ _ _ _ h_113 _ _ _ br15x0m_26 hs.own.f2) hs fun w a hs => ?_
      replace hcl := qO hC_108 hs.own.drop
      refine ⟨fun _ => hcl, ?_⟩
      obtain ⟨h_115, hm⟩ := ite_t hm
      refine qdx 7 b_88 0 3 hs hcl hqC_108 h_115 fun a hs => ?_
      obtain ⟨h_116, hm⟩ := ite_t hm
      obtain ⟨h_117, hm⟩ := ite_t hm
      refine Vk.dOnly (i := 8) (by kernel_rfl) (Vk.storeN (b := b_88) (ty := 28) (x := (.tmp 58)) (y := (.tmp 57)) (off := 0 + q_103.toNat * 3) (sz := 3) v_114.1 11 hs (by kernel_rfl) (by kernel_rfl) (by kernel_rfl) (by kernel_rfl) (by kernel_rfl) h_116 (by kernel_rfl) rfl h_117 fun a w hs => ?_)
      refine ⟨fun h => absurd h (by decide), ?_⟩
      replace hs := hs.pick [2, 5, 10, 12, 14, 15, 16, 17] (L' := [(2, .int .u8 x2), (5, pp b_2), (10, pp b_32), (12, pp b_78), (14, pp b_88), (15, pp b_89), (16, .slice A_100 q_102.length c_101), (17, vi q_103)]) (by kernel_rfl)
      refine Vk.dDone (by kernel_rfl) ?_
      refine hK107 _ _ ?_
      clear hK107
      refine Vk.seq fun K118 hK118 => ?_
      obtain ⟨C_119, hC_119⟩ := qC hs.own.f7.drop
      refine qdr 8 κ C_119 hs fun w hs hqC_119 => ?_
      have hcl := qO hC_119 hs.own.f7.drop
      refine qdp (fuel := 6) [0, 1, 3] hs hcl hqC_119 fun a hs => ?_
      refine qdl 2 6 (cp br61x0m_72) hs hcl hqC_119 hC_119 rfl fun a hs => ?_
      obtain ⟨h_120, hm⟩ := ite_t hm
      refine qdx 4 b_2 0 1 hs hcl hqC_119 h_120 fun a hs => ?_
      obtain ⟨v_122, h_121, hm⟩ := bind_t hm
      refine qdi 5 1 hs hcl hqC_119 hC_119 rfl h_121 fun a hs => ?_
      obtain ⟨v_125, h_124, hm⟩ := bind_t hm
      refine qdc 6 (share_Public.ok _ _ _ _ h_124 _ _ _ br61x0m_72 hs.own.f7) hs fun w a hs => ?_
      replace hcl := qO hC_119 hs.own.drop
      refine ⟨fun _ => hcl, ?_⟩
      obtain ⟨h_126, hm⟩ := ite_t hm
      refine qdx 7 b_89 0 3 hs hcl hqC_119 h_126 fun a hs => ?_
      obtain ⟨h_127, hm⟩ := ite_t hm
      obtain ⟨h_128, hm⟩ := ite_t hm
      refine Vk.dOnly (i := 8) (by kernel_rfl) (Vk.storeN (b := b_89) (ty := 28) (x := (.tmp 66)) (y := (.tmp 65)) (off := 0 + q_103.toNat * 3) (sz := 3) v_125.1 12 hs (by kernel_rfl) (by kernel_rfl) (by kernel_rfl) (by kernel_rfl) (by kernel_rfl) h_127 (by kernel_rfl) rfl h_128 fun a w hs => ?_)
      refine ⟨fun h => absurd h (by decide), ?_⟩
      replace hs := hs.pick [2, 5, 10, 12, 14, 15, 16, 17] (L' := [(2, .int .u8 x2), (5, pp b_2), (10, pp b_32), (12, pp b_78), (14, pp b_88), (15, pp b_89), (16, .slice A_100 q_102.length c_101), (17, vi q_103)]) (by kernel_rfl)
      refine Vk.dDone (by kernel_rfl) ?_
      refine hK118 _ _ ?_
      clear hK118
      refine Vk.region ?_
      refine qpu 2 hs fun a hs => ?_
      obtain ⟨h_129, hm⟩ := ite_t hm
      refine qix b_2 0 1 hs h_129 fun a hs => ?_
      obtain ⟨v_131, h_130, hm⟩ := bind_t hm
      refine qli 2 hs rfl h_130 fun a hs => ?_
      obtain ⟨v_134, h_133, hm⟩ := bind_t hm
      refine Vk.step (Vk.call (some 71) 60 #[vw v_131, vi 8] hs (by kernel_rfl) (by kernel_rfl) (by kernel_rfl) ?_)
      refine (visorref01_Store.ok k v_131 8 v_134 h_133 κ w (Twire_Machine.own br61x0m_72 v_125.2 :: Twire_Machine.own br15x0m_26 v_114.2 :: pt b_2 (blk x1 80) :: pt b_32 (blk [cp br15x0m_26, cp br15x0x_27, C.slc Ar15x0l_28 v_25.2.2.1.length cr15x0l_29, C.slc Ar15x0v_30 v_25.2.2.2.1.length cr15x0v_31] 45) :: Tvisorref19_M.own κ br15x0x_27 v_25.2.1 :: rowp Ar15x0l_28 cr15x0l_29 28 3 eC v_25.2.2.1 :: rowp Ar15x0v_30 cr15x0v_31 32 1 (eI .u64) v_25.2.2.2.1 :: pt b_78 (blk [cp br61x0m_72, cp br61x0x_73, C.slc Ar61x0l_74 v_71.2.2.1.length cr61x0l_75, C.slc Ar61x0v_76 v_71.2.2.2.1.length cr61x0v_77] 45) :: Tvisorref19_M.own κ br61x0x_73 v_71.2.1 :: rowp Ar61x0l_74 cr61x0l_75 28 3 eC v_71.2.2.1 :: rowp Ar61x0v_76 cr61x0v_77 32 1 (eI .u64) v_71.2.2.2.1 :: pt b_88 (blk (splice q_98 (0 + q_103.toNat * 3) v_114.1) 71) :: pt b_89 (blk (splice q_99 (0 + q_103.toNat * 3) v_125.1) 71) :: rowp A_100 c_101 5 1 (eI .u8) q_102 :: S) hs.own).mono ?_
      rintro _ w ⟨Ar132x0_135, cr132x0_136, rfl, how⟩
      refine ⟨_, _, _, rfl, how, fun a hs => ?_⟩
      obtain ⟨h_137, hm⟩ := ite_t hm
      refine Vk.step (Vk.appendOp (x := (.tmp 67)) (y := (.tmp 71)) (e := 5) (t := 69) (by_ := 1) (sz := 1) (enc := (eI .u8)) (A := A_100) (cap := c_101) (xs := q_102) (ys := v_134) (B := Ar132x0_135) (c2 := cr132x0_136) 14 (some 72) hs (by kernel_rfl) (by kernel_rfl) (by kernel_rfl) (by kernel_rfl) rfl (Sl.lift (fun w ho => (Ow.to (S' := rowp Ar132x0_135 cr132x0_136 5 1 (eI .u8) v_134 :: S) ho [0] 15 (by kernel_rfl) (by kernel_rfl))) (Ow.rowSl 0 (Ow.to (S' := rowp Ar132x0_135 cr132x0_136 5 1 (eI .u8) v_134 :: S) hs.own [0] 15 (by kernel_rfl) (by kernel_rfl)) rfl)) (by kernel_rfl) (by kernel_rfl) (by decide) (by decide) h_137 fun A_138 c_139 w a hs => ?_)
      refine qpk 1 [2, 5, 10, 12, 14, 15, 16, 17] hs fun a hs => hK106 _ _ ?_
      clear hK106
      refine Vk.region ?_
      refine qpk 3 [2, 5, 10, 12, 14, 15, 16, 17] hs fun a hs => ?_
      refine ih (v_114.2, v_125.2, (splice q_98 (0 + q_103.toNat * 3) v_114.1), (splice q_99 (0 + q_103.toNat * 3) v_125.1), (q_102 ++ v_134), (IntKind.i64.wrap (q_103 + 1))) _ _ ⟨A_138, c_139, hm, hs.go [2, 5, 10, 12, 14, 15, 16, 17] [3, 4, 2, 5, 6, 7, 8, 1, 9, 10, 11, 12, 13, 14] 15 (by kernel_rfl) (by kernel_rfl) (by kernel_rfl)⟩
     ·replace hm := bif_f hm hb
      refine wp_exit ?_
      exact hx95 q_96 q_97 q_99 q_102 (Option.some.inj hm).symm A_100 c_101 _ _ (hs.go [2, 10, 12, 15, 16] [1, 2, 3, 4, 5, 6, 7, 8, 9, 10, 12, 13] 14 (by kernel_rfl) (by kernel_rfl) (by kernel_rfl))
 refine qsk 1 [2, 5, 7, 9, 25] hs fun a hs => ?_
 refine qcs (x0) hs (fun hb => ?_) fun hb => ?_
 ·replace hm := bif_t hm hb
  refine Vk.region ?_
  refine qpe 1 [(2, .int .u8 x2), (5, pp b_2), (7, pp b_3), (9, vi 3)] hs fun a hs => ?_
  exact hj5 3 hm _ _ (hs.go [2, 5, 7, 9] [1, 0] 2 (by kernel_rfl) (by kernel_rfl) (by kernel_rfl))
 ·replace hm := bif_f hm hb
  refine wp_skip ?_
  exact hj5 2 hm _ _ (hs.go [2, 5, 7, 9] [1, 0] 2 (by kernel_rfl) (by kernel_rfl) (by kernel_rfl))

end Go.Proofs.Ytflgefjocjpjaaa
