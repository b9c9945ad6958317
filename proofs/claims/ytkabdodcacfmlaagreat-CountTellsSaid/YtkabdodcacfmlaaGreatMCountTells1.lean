/- Of each Go function that CountTells comes to: a model in plain Lean, and that the program's call does what the model says; no condition. -/
import Derived.Test.YtkabdodcacfmlaaGreatProg
import Derived.Test.YtkabdodcacfmlaaGreatVoopcamee
import Derived.Test.YtkabdodcacfmlaaGreatMCountTells0
namespace Go.Proofs.YtkabdodcacfmlaaGreat
open Go Go.Vk
set_option linter.unusedVariables false


abbrev fresh_Full.R (κ : Ctx) (S : List HP) (x0 : Twire_Machine) (x1 : Cells) (b_x0 : Nat) (r : (Cells × Twire_Machine)) : Ending → World → Prop := fun e w' => e = .returned (.agg (vals r.1)) ∧ Ow κ w' (Twire_Machine.own b_x0 r.2 :: S)
def fresh_Full.m (k : Nat) (x0 : Twire_Machine) (x1 : Cells) : Option (Cells × Twire_Machine) := (wire_Machine_N.m k x0).bind fun v_9 => (bif v_9 == 2 then (if x1.length = 3 then (wire_Machine_N.m k x0).bind fun v_375 => (bif v_375 == 2 then (wire_Machine_Begin.m k x0 2).bind fun v_379 => (fresh_masks.m k v_379 1).bind fun v_383 => (if v_383.1.length = 3 then (if 0 ≤ (0 : Int) then (([0] : List Int)[0]?).bind fun e_404 => (if 0 ≤ e_404 ∧ e_404 < 3 then (getI .i64 v_383.1 (0 + e_404.toNat * 1)).bind fun v_411 => (if (([] : List Int).length + ([v_411] : List Int).length) * 8 ≤ 140737488355328 then (if 0 ≤ (0 : Int) then (([0] : List Int)[0]?).bind fun e_435 => (if 0 ≤ e_435 ∧ e_435 < 3 then (getI .i64 v_383.1 (0 + e_435.toNat * 1)).bind fun v_442 => (if (([] : List Int).length + ([v_442] : List Int).length) * 8 ≤ 140737488355328 then (wire_Machine_N.m k v_383.2).bind fun v_477 => (bif v_477 == 2 then (if 0 ≤ (0 : Int) then ((([] : List Int) ++ ([v_411] : List Int))[0]?).bind fun e_492 => (getI .i64 x1 (0)).bind fun v_497 => (wire_Machine_Two.m k v_383.2 5 0 v_497 e_492).bind fun v_500 => (if 0 < x1.length then (if 0 ≤ (0 : Int) then ((([] : List Int) ++ ([v_442] : List Int))[0]?).bind fun e_519 => (getI .i64 (x1.set (0) (ci v_500.1)) (1)).bind fun v_524 => (wire_Machine_Two.m k v_500.2 5 1 v_524 e_519).bind fun v_527 => (if 1 < (x1.set (0) (ci v_500.1)).length then (wire_Machine_End.m k v_527.2).bind fun v_540 => some (((x1.set (0) (ci v_500.1)).set (1) (ci v_527.1)), v_540) else none) else none) else none) else none) else none) else none) else none) else none) else none) else none) else none) else none) else none) else none) else (bif v_9 == 3 then (if x1.length = 3 then (wire_Machine_N.m k x0).bind fun v_27 => (bif v_27 == 3 then (wire_Machine_Begin.m k x0 2).bind fun v_31 => (fresh_masks.m k v_31 3).bind fun v_35 => (if v_35.1.length = 3 then (if 0 ≤ (0 : Int) then (([0, 1] : List Int)[0]?).bind fun e_56 => (if 0 ≤ e_56 ∧ e_56 < 3 then (getI .i64 v_35.1 (0 + e_56.toNat * 1)).bind fun v_63 => (if (([] : List Int).length + ([v_63] : List Int).length) * 8 ≤ 140737488355328 then (if 0 ≤ (1 : Int) then (([0, 1] : List Int)[1]?).bind fun e_78 => (if 0 ≤ e_78 ∧ e_78 < 3 then (getI .i64 v_35.1 (0 + e_78.toNat * 1)).bind fun v_85 => (if ((([] : List Int) ++ ([v_63] : List Int)).length + ([v_85] : List Int).length) * 8 ≤ 140737488355328 then (if 0 ≤ (0 : Int) then (([0, 2] : List Int)[0]?).bind fun e_108 => (if 0 ≤ e_108 ∧ e_108 < 3 then (getI .i64 v_35.1 (0 + e_108.toNat * 1)).bind fun v_115 => (if (([] : List Int).length + ([v_115] : List Int).length) * 8 ≤ 140737488355328 then (if 0 ≤ (1 : Int) then (([0, 2] : List Int)[1]?).bind fun e_130 => (if 0 ≤ e_130 ∧ e_130 < 3 then (getI .i64 v_35.1 (0 + e_130.toNat * 1)).bind fun v_137 => (if ((([] : List Int) ++ ([v_115] : List Int)).length + ([v_137] : List Int).length) * 8 ≤ 140737488355328 then (if 0 ≤ (0 : Int) then (([1, 2] : List Int)[0]?).bind fun e_160 => (if 0 ≤ e_160 ∧ e_160 < 3 then (getI .i64 v_35.1 (0 + e_160.toNat * 1)).bind fun v_167 => (if (([] : List Int).length + ([v_167] : List Int).length) * 8 ≤ 140737488355328 then (if 0 ≤ (1 : Int) then (([1, 2] : List Int)[1]?).bind fun e_182 => (if 0 ≤ e_182 ∧ e_182 < 3 then (getI .i64 v_35.1 (0 + e_182.toNat * 1)).bind fun v_189 => (if ((([] : List Int) ++ ([v_167] : List Int)).length + ([v_189] : List Int).length) * 8 ≤ 140737488355328 then (wire_Machine_N.m k v_35.2).bind fun v_214 => (bif v_214 == 3 then (if 0 ≤ (0 : Int) then (((([] : List Int) ++ ([v_63] : List Int)) ++ ([v_85] : List Int))[0]?).bind fun e_229 => (getI .i64 x1 (0)).bind fun v_234 => (wire_Machine_Two.m k v_35.2 5 0 v_234 e_229).bind fun v_237 => (if 0 < x1.length then (if 0 ≤ (1 : Int) then (((([] : List Int) ++ ([v_63] : List Int)) ++ ([v_85] : List Int))[1]?).bind fun e_247 => (getI .i64 (x1.set (0) (ci v_237.1)) (0)).bind fun v_252 => (wire_Machine_Two.m k v_237.2 5 0 v_252 e_247).bind fun v_255 => (if 0 < (x1.set (0) (ci v_237.1)).length then (if 0 ≤ (0 : Int) then (((([] : List Int) ++ ([v_115] : List Int)) ++ ([v_137] : List Int))[0]?).bind fun e_274 => (getI .i64 ((x1.set (0) (ci v_237.1)).set (0) (ci v_255.1)) (1)).bind fun v_279 => (wire_Machine_Two.m k v_255.2 5 1 v_279 e_274).bind fun v_282 => (if 1 < ((x1.set (0) (ci v_237.1)).set (0) (ci v_255.1)).length then (if 0 ≤ (1 : Int) then (((([] : List Int) ++ ([v_115] : List Int)) ++ ([v_137] : List Int))[1]?).bind fun e_292 => (getI .i64 (((x1.set (0) (ci v_237.1)).set (0) (ci v_255.1)).set (1) (ci v_282.1)) (1)).bind fun v_297 => (wire_Machine_Two.m k v_282.2 5 1 v_297 e_292).bind fun v_300 => (if 1 < (((x1.set (0) (ci v_237.1)).set (0) (ci v_255.1)).set (1) (ci v_282.1)).length then (if 0 ≤ (0 : Int) then (((([] : List Int) ++ ([v_167] : List Int)) ++ ([v_189] : List Int))[0]?).bind fun e_319 => (getI .i64 ((((x1.set (0) (ci v_237.1)).set (0) (ci v_255.1)).set (1) (ci v_282.1)).set (1) (ci v_300.1)) (2)).bind fun v_324 => (wire_Machine_Two.m k v_300.2 5 2 v_324 e_319).bind fun v_327 => (if 2 < ((((x1.set (0) (ci v_237.1)).set (0) (ci v_255.1)).set (1) (ci v_282.1)).set (1) (ci v_300.1)).length then (if 0 ≤ (1 : Int) then (((([] : List Int) ++ ([v_167] : List Int)) ++ ([v_189] : List Int))[1]?).bind fun e_337 => (getI .i64 (((((x1.set (0) (ci v_237.1)).set (0) (ci v_255.1)).set (1) (ci v_282.1)).set (1) (ci v_300.1)).set (2) (ci v_327.1)) (2)).bind fun v_342 => (wire_Machine_Two.m k v_327.2 5 2 v_342 e_337).bind fun v_345 => (if 2 < (((((x1.set (0) (ci v_237.1)).set (0) (ci v_255.1)).set (1) (ci v_282.1)).set (1) (ci v_300.1)).set (2) (ci v_327.1)).length then (wire_Machine_End.m k v_345.2).bind fun v_358 => some (((((((x1.set (0) (ci v_237.1)).set (0) (ci v_255.1)).set (1) (ci v_282.1)).set (1) (ci v_300.1)).set (2) (ci v_327.1)).set (2) (ci v_345.1)), v_358) else none) else none) else none) else none) else none) else none) else none) else none) else none) else none) else none) else none) else none) else none) else none) else none) else none) else none) else none) else none) else none) else none) else none) else none) else none) else none) else none) else none) else none) else none) else none) else none) else none) else none) else none))

set_option maxRecDepth 100000 in
set_option maxHeartbeats 4000000 in
theorem fresh_Full.ok (k : Nat) (x0 : Twire_Machine) (x1 : Cells) (r : (Cells × Twire_Machine)) (hm : fresh_Full.m k x0 x1 = some r) (κ : Ctx) (w : World) (S : List HP) (b_x0 : Nat) (ho : Ow κ w (Twire_Machine.own b_x0 x0 :: S)) :
  Calls Tryz.prog 55 #[pp b_x0, .agg (vals x1)] w (fresh_Full.R κ S x0 x1 b_x0 r) := by
 unfold fresh_Full.m at hm
 generalize hRR : fresh_Full.R κ S x0 x1 b_x0 r = RR
 refine qen [(0, pp b_x0), (1, .agg (vals x1))] Tryz.func55 Tryz.ntmps55 ho fun a hs => ?_
 refine qsr fun K1 hK1 => ?_
 refine qbx 1 75 x1 3 hs fun b_2 w a hs => ?_
 refine qal 75 [ci 0, ci 0, ci 0] 4 hs fun b_3 w a hs => ?_
 refine qpe 0 [(0, pp b_x0), (3, pp b_2), (4, pp b_3)] hs fun a hs => hK1 _ _ ?_
 clear hK1
 refine Vk.seq fun K4 hK4 => ?_
 refine qsr fun K5 hK5 => ?_
 refine qpu 1 hs fun a hs => ?_
 obtain ⟨g_6, hs⟩ := hs.unex 2 rfl
 obtain ⟨v_9, h_8, hm⟩ := bind_t hm
 refine qcl (wire_Machine_N.ok _ _ _ h_8 _ _ _ b_x0 g_6 hs.own.f2) hs fun w a hs => ?_
 rcases Bool.eq_false_or_eq_true (v_9 == 2) with hb | hb
 ·replace hm := bif_t hm hb
  obtain rfl := Vk.of_beq hb
  refine qpk 1 [0, 3, 4, 7] hs fun a hs => hK5 _ _ ?_
  refine qcf hs ?_
  refine wp_skip ?_
  refine hK4 _ _ ?_
  clear hK4
  refine qsr fun K360 hK360 => ?_
  refine qpu 1 hs fun a hs => ?_
  obtain ⟨h_361, hm⟩ := ite_t hm
  refine qlw 2 hs rfl h_361 fun a hs => ?_
  refine Vk.step (Vk.buildOp (sz := 1) (by_ := 8) (t := 28) (e := 3) (parts := #[(0, (.const (vi 0)))]) (zs := vals [ci 0]) ([0] : List Int) (eI .i64) (some 17) hs (by kernel_rfl) (by kernel_rfl) (by kernel_rfl) (by kernel_rfl) (by decide) rfl (fun x _ => rfl) (Nat.le_of_ble_eq_true (by kernel_rfl)) (by kernel_rfl) fun A_362 w a hs => ?_)
  refine Vk.step (Vk.buildOp (sz := 1) (by_ := 8) (t := 28) (e := 3) (parts := #[(0, (.const (vi 0)))]) (zs := vals [ci 0]) ([0] : List Int) (eI .i64) (some 18) hs (by kernel_rfl) (by kernel_rfl) (by kernel_rfl) (by kernel_rfl) (by decide) rfl (fun x _ => rfl) (Nat.le_of_ble_eq_true (by kernel_rfl)) (by kernel_rfl) fun A_364 w a hs => ?_)
  refine qpu 1 hs fun a hs => ?_
  refine Vk.step (Vk.call (some 20) 92 #[pp b_x0, .agg (vals x1), vi 1, .agg (vals ([C.slc A_362 (([0] : List Int).length) 1, C.slc A_364 (([0] : List Int).length) 1, C.slc none 0 0]))] hs (by kernel_rfl) (by kernel_rfl) (by kernel_rfl) ?_)
  refine Vk.enterI [(0, pp b_x0), (1, .agg (vals x1)), (2, vi 1), (3, .agg (vals ([C.slc A_362 (([0] : List Int).length) 1, C.slc A_364 (([0] : List Int).length) 1, C.slc none 0 0])))] Tryz.func92 rfl Tryz.ntmps92 (by kernel_rfl) (Nat.le_of_ble_eq_true (by kernel_rfl)) hs.own fun KR366 hKR366 hKP366 a hs => ?_
  refine qsr fun K367 hK367 => ?_
  refine qbx 1 75 x1 5 hs fun b_368 w a hs => ?_
  refine qbx 3 138 ([C.slc A_362 (([0] : List Int).length) 1, C.slc A_364 (([0] : List Int).length) 1, C.slc none 0 0]) 7 hs fun b_369 w a hs => ?_
  refine qal 75 [ci 0, ci 0, ci 0] 8 hs fun b_370 w a hs => ?_
  refine qpk 0 [0, 2, 5, 7, 8] hs fun a hs => hK367 _ _ ?_
  clear hK367
  refine Vk.seq fun K371 hK371 => ?_
  refine qsr fun K372 hK372 => ?_
  refine qpu 1 hs fun a hs => ?_
  obtain ⟨v_375, h_374, hm⟩ := bind_t hm
  refine qcl (wire_Machine_N.ok _ _ _ h_374 _ _ _ b_x0 g_6 hs.own.f5) hs fun w a hs => ?_
  rcases Bool.eq_false_or_eq_true (v_375 == 2) with hb | hb
  ·replace hm := bif_t hm hb
   obtain rfl := Vk.of_beq hb
   refine qpk 1 [0, 2, 5, 7, 8, 18] hs fun a hs => hK372 _ _ ?_
   clear hK372
   refine qcf hs ?_
   refine wp_skip ?_
   refine hK371 _ _ ?_
   clear hK371
   refine qsr fun K376 hK376 => ?_
   refine qpu 1 hs fun a hs => ?_
   replace hs := hs.toEx (Twire_Machine.parts b_x0 x0) g_6 0 rfl
   obtain ⟨v_379, h_378, hm⟩ := bind_t hm
   refine qcl (wire_Machine_Begin.ok _ _ _ _ h_378 _ _ _ b_x0 hs.own) hs fun w a hs => ?_
   refine qpk 0 [0, 2, 5, 7, 8] hs fun a hs => hK376 _ _ ?_
   clear hK376
   refine qsr fun K380 hK380 => ?_
   refine qpu 2 hs fun a hs => ?_
   obtain ⟨v_383, h_382, hm⟩ := bind_t hm
   refine qcl (fresh_masks.ok _ _ _ _ h_382 _ _ _ b_x0 hs.own) hs fun w a hs => ?_
   refine qal 73 [ci 0, ci 0, ci 0] 9 hs fun b_384 w a hs => ?_
   obtain ⟨h_385, hm⟩ := ite_t hm
   refine qsb 0 v_383.1 hs rfl h_385 rfl fun a w hs => ?_
   refine qpk 0 [0, 5, 7, 8, 9] hs fun a hs => hK380 _ _ ?_
   clear hK380
   refine qsr fun K386 hK386 => ?_
   refine qal 138 [C.slc none 0 0, C.slc none 0 0, C.slc none 0 0] 10 hs fun b_387 w a hs => ?_
   refine qpe 0 [(0, pp b_x0), (5, pp b_368), (7, pp b_369), (8, pp b_370), (9, pp b_384), (10, pp b_387)] hs fun a hs => hK386 _ _ ?_
   clear hK386
   refine Vk.seq fun K388 hK388 => ?_
   refine qsr fun K389 hK389 => ?_
   refine qln 4 ([C.slc A_362 (([0] : List Int).length) 1, C.slc A_364 (([0] : List Int).length) 1, C.slc none 0 0]) hs rfl fun a hs => ?_
   refine qpk 1 [0, 5, 8, 9, 10, 26, 27] hs fun a hs => hK389 _ _ ?_
   clear hK389
   refine wp_block ?_
   refine Vk.unroll0 40 ?_
   refine Vk.unroll fun KL390 hKL390 => ?_
   refine qsk 1 [0, 5, 8, 9, 10, 26, 27, 28] hs fun a hs => ?_
   refine qck hs ?_
   refine Vk.seq fun K393 hK393 => ?_
   refine wp_block ?_
   refine qsk 4 [0, 5, 8, 9, 10, 11, 12, 26, 27] hs fun a hs => ?_
   refine qsk 3 [0, 5, 8, 9, 10, 11, 26, 27, 31, 32, 33] hs fun a hs => ?_
   refine wp_block ?_
   refine Vk.unroll0 40 ?_
   refine Vk.unroll fun KL396 hKL396 => ?_
   refine qsk 1 [0, 5, 8, 9, 10, 11, 26, 27, 31, 32, 33, 34] hs fun a hs => ?_
   refine qck hs ?_
   refine Vk.seq fun K399 hK399 => ?_
   refine wp_block ?_
   refine qsr fun K400 hK400 => ?_
   obtain ⟨h_401, hm⟩ := ite_t hm
   obtain ⟨e_404, h_402, hm⟩ := bind_t hm
   obtain ⟨b_405, o_406, hA_407, h_403⟩ := Sl.elem (Ow.rowSl 0 (Ow.to (S' := rowp A_362 1 3 1 (eI .i64) ([0] : List Int) :: S) hs.own [7] 10 (by kernel_rfl) (by kernel_rfl)) rfl) h_402
   refine qva (.pointer (some ⟨b_405, o_406 + 0 * 1, none⟩)) (op := (.indexAddr 28 (.tmp 31) (.tmp 33))) hs (fun o ho => run_idxSlc (k := .i64) ho (cap := 1) (len := ([0] : List Int).length) ((congrArg (fun A => Value.slice A (([0] : List Int).length) (1)) hA_407) ▸ (by kernel_rfl)) (by kernel_rfl) (by kernel_rfl) (idx_ok h_401 h_402) _) fun a hs => ?_
   refine qva (vi e_404) (op := (.load 3 (.tmp 35))) hs (fun o ho => run_load1 (c := ci e_404) ho (by kernel_rfl) (by kernel_rfl) (fun w ho => h_403 w ho 0 _ rfl) _ (Ow.to (S' := rowp A_362 1 3 1 (eI .i64) ([0] : List Int) :: S) hs.own [7] 10 (by kernel_rfl) (by kernel_rfl))) fun a hs => ?_
   refine qpe 1 [(0, pp b_x0), (5, pp b_368), (8, pp b_370), (9, pp b_384), (10, pp b_387), (11, vi 0), (14, vi e_404), (26, .agg (vals ([C.slc A_362 (([0] : List Int).length) 1, C.slc A_364 (([0] : List Int).length) 1, C.slc none 0 0]))), (27, vi 0), (31, .slice A_362 (([0] : List Int).length) 1), (32, vi 1), (33, vi 0)] hs fun a hs => hK400 _ _ ?_
   clear hK400
   obtain ⟨C_408, hC_408⟩ := qC hs.own
   refine qdr 10 κ C_408 hs fun w hs hqC_408 => ?_
   have hcl := qO hC_408 hs.own
   refine qdp (fuel := 7) [0, 1, 2, 4] hs hcl hqC_408 fun a hs => ?_
   refine qdl 3 0 (C.slc none 0 0) hs hcl hqC_408 hC_408 rfl fun a hs => ?_
   obtain ⟨h_409, hm⟩ := ite_t hm
   refine qdx 5 b_384 0 1 hs hcl hqC_408 h_409 fun a hs => ?_
   obtain ⟨v_411, h_410, hm⟩ := bind_t hm
   refine qdi 6 1 hs hcl hqC_408 hC_408 rfl h_410 fun a hs => ?_
   refine Vk.dOnly (i := 7) (by kernel_rfl) (Vk.buildOp (sz := 1) (by_ := 8) (t := 28) (e := 3) (parts := #[(0, (.tmp 43))]) (zs := vals [ci 0]) ([v_411] : List Int) (eI .i64) (some 44) hs (by kernel_rfl) (by kernel_rfl) (by kernel_rfl) (by kernel_rfl) (by decide) rfl (fun x _ => rfl) (Nat.le_of_ble_eq_true (by kernel_rfl)) (by kernel_rfl) fun A_412 w a hs => ?_)
   replace hcl := qO hC_408 hs.own.drop
   refine ⟨fun _ => hcl, ?_⟩
   replace hs := hs.addRow none 3 1 (eI .i64)
   obtain ⟨h_415, hm⟩ := ite_t hm
   refine Vk.dOnly (i := 8) (by kernel_rfl) (Vk.appendOp (x := (.tmp 40)) (y := (.tmp 44)) (e := 3) (t := 28) (by_ := 8) (sz := 1) (enc := (eI .i64)) (A := none) (cap := 0) (xs := ([] : List Int)) (ys := ([v_411] : List Int)) (B := A_412) (c2 := 1) 0 (some 45) hs (by kernel_rfl) (by kernel_rfl) (by kernel_rfl) (by kernel_rfl) rfl (Sl.lift (fun w ho => (Ow.to (S' := rowp A_412 1 3 1 (eI .i64) ([v_411] : List Int) :: S) ho [1] 12 (by kernel_rfl) (by kernel_rfl))) (Ow.rowSl 0 (Ow.to (S' := rowp A_412 1 3 1 (eI .i64) ([v_411] : List Int) :: S) hs.own [1] 12 (by kernel_rfl) (by kernel_rfl)) rfl)) (by kernel_rfl) (by kernel_rfl) (by decide) (by decide) h_415 fun A_416 c_417 w a hs => ?_)
   replace hcl := qO hC_408 hs.own.f1.drop.drop
   refine ⟨fun _ => hcl, ?_⟩
   refine qdp (fuel := 1) [9] hs hcl hqC_408 fun a hs => ?_
   refine qsd 10 2 0 (C.slc A_416 ((([] : List Int) ++ ([v_411] : List Int)).length) c_417) hs rfl fun a w hs => ?_
   refine ⟨fun h => absurd h (by decide), ?_⟩
   replace hs := hs.pick [0, 5, 8, 9, 10, 11, 26, 27, 31, 32, 33] (L' := [(0, pp b_x0), (5, pp b_368), (8, pp b_370), (9, pp b_384), (10, pp b_387), (11, vi 0), (26, .agg (vals ([C.slc A_362 (([0] : List Int).length) 1, C.slc A_364 (([0] : List Int).length) 1, C.slc none 0 0]))), (27, vi 0), (31, .slice A_362 (([0] : List Int).length) 1), (32, vi 1), (33, vi 0)]) (by kernel_rfl)
   refine Vk.dDone (by kernel_rfl) ?_
   refine hK399 _ _ ?_
   clear hK399
   refine Vk.region ?_
   refine qpk 2 [0, 5, 8, 9, 10, 11, 26, 27, 31, 32, 33] hs fun a hs => hKL396 _ _ ?_
   clear hKL396
   refine Vk.unroll fun KL418 hKL418 => ?_
   refine qsk 1 [0, 5, 8, 9, 10, 11, 26, 27, 31, 32, 33, 34] hs fun a hs => ?_
   refine Vk.seq fun K420 hK420 => ?_
   refine qcf hs ?_
   refine wp_exit ?_
   refine hK393 _ _ ?_
   clear hK393
   refine Vk.region ?_
   refine qpk 2 [0, 5, 8, 9, 10, 26, 27] hs fun a hs => hKL390 _ _ ?_
   clear hKL390
   refine Vk.unroll fun KL421 hKL421 => ?_
   refine qsk 1 [0, 5, 8, 9, 10, 26, 27, 28] hs fun a hs => ?_
   refine qck hs ?_
   refine Vk.seq fun K424 hK424 => ?_
   refine wp_block ?_
   refine qsk 4 [0, 5, 8, 9, 10, 11, 12, 26, 27] hs fun a hs => ?_
   refine qse 3 [(0, pp b_x0), (5, pp b_368), (8, pp b_370), (9, pp b_384), (10, pp b_387), (11, vi 1), (26, .agg (vals ([C.slc A_362 (([0] : List Int).length) 1, C.slc A_364 (([0] : List Int).length) 1, C.slc none 0 0]))), (27, vi 1), (31, .slice A_364 (([0] : List Int).length) 1), (32, vi 1), (33, vi 0)] hs fun a hs => ?_
   refine wp_block ?_
   refine Vk.unroll0 40 ?_
   refine Vk.unroll fun KL427 hKL427 => ?_
   refine qsk 1 [0, 5, 8, 9, 10, 11, 26, 27, 31, 32, 33, 34] hs fun a hs => ?_
   refine qck hs ?_
   refine Vk.seq fun K430 hK430 => ?_
   refine wp_block ?_
   refine qsr fun K431 hK431 => ?_
   obtain ⟨h_432, hm⟩ := ite_t hm
   obtain ⟨e_435, h_433, hm⟩ := bind_t hm
   obtain ⟨b_436, o_437, hA_438, h_434⟩ := Sl.elem (Ow.rowSl 0 (Ow.to (S' := rowp A_364 1 3 1 (eI .i64) ([0] : List Int) :: S) hs.own [8] 12 (by kernel_rfl) (by kernel_rfl)) rfl) h_433
   refine qva (.pointer (some ⟨b_436, o_437 + 0 * 1, none⟩)) (op := (.indexAddr 28 (.tmp 31) (.tmp 33))) hs (fun o ho => run_idxSlc (k := .i64) ho (cap := 1) (len := ([0] : List Int).length) ((congrArg (fun A => Value.slice A (([0] : List Int).length) (1)) hA_438) ▸ (by kernel_rfl)) (by kernel_rfl) (by kernel_rfl) (idx_ok h_432 h_433) _) fun a hs => ?_
   refine qva (vi e_435) (op := (.load 3 (.tmp 35))) hs (fun o ho => run_load1 (c := ci e_435) ho (by kernel_rfl) (by kernel_rfl) (fun w ho => h_434 w ho 0 _ rfl) _ (Ow.to (S' := rowp A_364 1 3 1 (eI .i64) ([0] : List Int) :: S) hs.own [8] 12 (by kernel_rfl) (by kernel_rfl))) fun a hs => ?_
   refine qpk 1 [0, 5, 8, 9, 10, 11, 14, 26, 27, 31, 32, 33] hs fun a hs => hK431 _ _ ?_
   clear hK431
   obtain ⟨C_439, hC_439⟩ := qC hs.own
   refine qdr 10 κ C_439 hs fun w hs hqC_439 => ?_
   have hcl := qO hC_439 hs.own
   refine qdp (fuel := 7) [0, 1, 2, 4] hs hcl hqC_439 fun a hs => ?_
   refine qdl 3 2 (C.slc none 0 0) hs hcl hqC_439 hC_439 rfl fun a hs => ?_
   obtain ⟨h_440, hm⟩ := ite_t hm
   refine qdx 5 b_384 0 1 hs hcl hqC_439 h_440 fun a hs => ?_
   obtain ⟨v_442, h_441, hm⟩ := bind_t hm
   refine qdi 6 3 hs hcl hqC_439 hC_439 rfl h_441 fun a hs => ?_
   refine Vk.dOnly (i := 7) (by kernel_rfl) (Vk.buildOp (sz := 1) (by_ := 8) (t := 28) (e := 3) (parts := #[(0, (.tmp 43))]) (zs := vals [ci 0]) ([v_442] : List Int) (eI .i64) (some 44) hs (by kernel_rfl) (by kernel_rfl) (by kernel_rfl) (by kernel_rfl) (by decide) rfl (fun x _ => rfl) (Nat.le_of_ble_eq_true (by kernel_rfl)) (by kernel_rfl) fun A_443 w a hs => ?_)
   replace hcl := qO hC_439 hs.own.drop
   refine ⟨fun _ => hcl, ?_⟩
   replace hs := hs.addRow none 3 1 (eI .i64)
   obtain ⟨h_446, hm⟩ := ite_t hm
   refine Vk.dOnly (i := 8) (by kernel_rfl) (Vk.appendOp (x := (.tmp 40)) (y := (.tmp 44)) (e := 3) (t := 28) (by_ := 8) (sz := 1) (enc := (eI .i64)) (A := none) (cap := 0) (xs := ([] : List Int)) (ys := ([v_442] : List Int)) (B := A_443) (c2 := 1) 0 (some 45) hs (by kernel_rfl) (by kernel_rfl) (by kernel_rfl) (by kernel_rfl) rfl (Sl.lift (fun w ho => (Ow.to (S' := rowp A_443 1 3 1 (eI .i64) ([v_442] : List Int) :: S) ho [1] 14 (by kernel_rfl) (by kernel_rfl))) (Ow.rowSl 0 (Ow.to (S' := rowp A_443 1 3 1 (eI .i64) ([v_442] : List Int) :: S) hs.own [1] 14 (by kernel_rfl) (by kernel_rfl)) rfl)) (by kernel_rfl) (by kernel_rfl) (by decide) (by decide) h_446 fun A_447 c_448 w a hs => ?_)
   replace hcl := qO hC_439 hs.own.f1.drop.drop
   refine ⟨fun _ => hcl, ?_⟩
   refine qdp (fuel := 1) [9] hs hcl hqC_439 fun a hs => ?_
   refine qsd 10 4 1 (C.slc A_447 ((([] : List Int) ++ ([v_442] : List Int)).length) c_448) hs rfl fun a w hs => ?_
   refine ⟨fun h => absurd h (by decide), ?_⟩
   replace hs := hs.pick [0, 5, 8, 9, 10, 11, 26, 27, 31, 32, 33] (L' := [(0, pp b_x0), (5, pp b_368), (8, pp b_370), (9, pp b_384), (10, pp b_387), (11, vi 1), (26, .agg (vals ([C.slc A_362 (([0] : List Int).length) 1, C.slc A_364 (([0] : List Int).length) 1, C.slc none 0 0]))), (27, vi 1), (31, .slice A_364 (([0] : List Int).length) 1), (32, vi 1), (33, vi 0)]) (by kernel_rfl)
   refine Vk.dDone (by kernel_rfl) ?_
   refine hK430 _ _ ?_
   clear hK430
   refine Vk.region ?_
   refine qpk 2 [0, 5, 8, 9, 10, 11, 26, 27, 31, 32, 33] hs fun a hs => hKL427 _ _ ?_
   clear hKL427
   refine Vk.unroll fun KL449 hKL449 => ?_
   refine qsk 1 [0, 5, 8, 9, 10, 11, 26, 27, 31, 32, 33, 34] hs fun a hs => ?_
   refine Vk.seq fun K451 hK451 => ?_
   refine qcf hs ?_
   refine wp_exit ?_
   refine hK424 _ _ ?_
   clear hK424
   refine Vk.region ?_
   refine qpk 2 [0, 5, 8, 9, 10, 26, 27] hs fun a hs => hKL421 _ _ ?_
   clear hKL421
   refine Vk.unroll fun KL452 hKL452 => ?_
   refine qse 1 [(0, pp b_x0), (5, pp b_368), (8, pp b_370), (9, pp b_384), (10, pp b_387), (26, .agg (vals ([C.slc A_362 (([0] : List Int).length) 1, C.slc A_364 (([0] : List Int).length) 1, C.slc none 0 0]))), (27, vi 2), (28, .bool true)] hs fun a hs => ?_
   refine qck hs ?_
   refine Vk.seq fun K455 hK455 => ?_
   refine wp_block ?_
   refine qsk 4 [0, 5, 8, 9, 10, 11, 12, 26, 27] hs fun a hs => ?_
   refine qsk 3 [0, 5, 8, 9, 10, 11, 26, 27, 31, 32, 33] hs fun a hs => ?_
   refine wp_block ?_
   refine Vk.unroll0 40 ?_
   refine Vk.unroll fun KL458 hKL458 => ?_
   refine qsk 1 [0, 5, 8, 9, 10, 11, 26, 27, 31, 32, 33, 34] hs fun a hs => ?_
   refine Vk.seq fun K460 hK460 => ?_
   refine qcf hs ?_
   refine wp_exit ?_
   refine hK455 _ _ ?_
   clear hK455
   refine Vk.region ?_
   refine qpk 2 [0, 5, 8, 9, 10, 26, 27] hs fun a hs => hKL452 _ _ ?_
   clear hKL452
   refine Vk.unroll fun KL461 hKL461 => ?_
   refine qsk 1 [0, 5, 8, 9, 10, 26, 27, 28] hs fun a hs => ?_
   refine Vk.seq fun K463 hK463 => ?_
   refine qcf hs ?_
   refine wp_exit ?_
   refine hK388 _ _ ?_
   clear hK388
   refine qsr fun K464 hK464 => ?_
   refine qpu 1 hs fun a hs => ?_
   refine qlw 9 hs rfl h_361 fun a hs => ?_
   refine qln 4 ([C.slc A_416 ((([] : List Int) ++ ([v_411] : List Int)).length) c_417, C.slc A_447 ((([] : List Int) ++ ([v_442] : List Int)).length) c_448, C.slc none 0 0]) hs rfl fun a hs => ?_
   refine Vk.step (Vk.call (some 52) 112 #[pp b_x0, .agg (vals x1), .agg (vals ([C.slc A_416 ((([] : List Int) ++ ([v_411] : List Int)).length) c_417, C.slc A_447 ((([] : List Int) ++ ([v_442] : List Int)).length) c_448, C.slc none 0 0]))] hs (by kernel_rfl) (by kernel_rfl) (by kernel_rfl) ?_)
   refine Vk.enterI [(0, pp b_x0), (1, .agg (vals x1)), (2, .agg (vals ([C.slc A_416 ((([] : List Int) ++ ([v_411] : List Int)).length) c_417, C.slc A_447 ((([] : List Int) ++ ([v_442] : List Int)).length) c_448, C.slc none 0 0])))] Tryz.func112 rfl Tryz.ntmps112 (by kernel_rfl) (Nat.le_of_ble_eq_true (by kernel_rfl)) hs.own fun KR465 hKR465 hKP465 a hs => ?_
   refine qsr fun K466 hK466 => ?_
   refine qbx 1 75 x1 4 hs fun b_467 w a hs => ?_
   refine qbx 2 138 ([C.slc A_416 ((([] : List Int) ++ ([v_411] : List Int)).length) c_417, C.slc A_447 ((([] : List Int) ++ ([v_442] : List Int)).length) c_448, C.slc none 0 0]) 5 hs fun b_468 w a hs => ?_
   refine qal 75 [ci 0, ci 0, ci 0] 6 hs fun b_469 w a hs => ?_
   refine qpe 0 [(0, pp b_x0), (4, pp b_467), (5, pp b_468), (6, pp b_469)] hs fun a hs => hK466 _ _ ?_
   clear hK466
   refine qsr fun K470 hK470 => ?_
   refine qlw 2 hs rfl h_361 fun a hs => ?_
   refine qal 75 [ci 0, ci 0, ci 0] 7 hs fun b_471 w a hs => ?_
   refine qsb 0 x1 hs rfl h_361 rfl fun a w hs => ?_
   refine qpe 0 [(0, pp b_x0), (5, pp b_468), (6, pp b_469), (7, pp b_471)] hs fun a hs => hK470 _ _ ?_
   clear hK470
   refine Vk.seq fun K472 hK472 => ?_
   refine qsr fun K473 hK473 => ?_
   refine qpu 1 hs fun a hs => ?_
   obtain ⟨g_474, hs⟩ := hs.unex 10 rfl
   obtain ⟨v_477, h_476, hm⟩ := bind_t hm
   refine qcl (wire_Machine_N.ok _ _ _ h_476 _ _ _ b_x0 g_474 hs.own.f10) hs fun w a hs => ?_
   rcases Bool.eq_false_or_eq_true (v_477 == 2) with hb | hb
   ·replace hm := bif_t hm hb
    obtain rfl := Vk.of_beq hb
    refine qpk 1 [0, 5, 6, 7, 13, 14] hs fun a hs => hK473 _ _ ?_
    clear hK473
    refine wp_block ?_
    refine Vk.unroll0 40 ?_
    refine Vk.unroll fun KL478 hKL478 => ?_
    refine qsk 1 [0, 5, 6, 7, 13, 14, 15] hs fun a hs => ?_
    refine qck hs ?_
    refine Vk.seq fun K481 hK481 => ?_
    refine wp_block ?_
    refine qsk 2 [0, 5, 6, 7, 8, 13, 14] hs fun a hs => ?_
    refine qsr fun K483 hK483 => ?_
    refine qpu 2 hs fun a hs => ?_
    refine qld 3 (C.slc A_416 ((([] : List Int) ++ ([v_411] : List Int)).length) c_417) hs rfl fun a hs => ?_
    refine qpk 2 [0, 5, 6, 7, 8, 13, 14, 19, 20, 21] hs fun a hs => hK483 _ _ ?_
    clear hK483
    refine wp_block ?_
    refine Vk.unroll0 40 ?_
    refine Vk.unroll fun KL484 hKL484 => ?_
    refine qsk 1 [0, 5, 6, 7, 8, 13, 14, 19, 20, 21, 22] hs fun a hs => ?_
    refine qck hs ?_
    refine Vk.seq fun K487 hK487 => ?_
    refine wp_block ?_
    refine qsr fun K488 hK488 => ?_
    obtain ⟨h_489, hm⟩ := ite_t hm
    obtain ⟨e_492, h_490, hm⟩ := bind_t hm
    obtain ⟨b_493, o_494, hA_495, h_491⟩ := Sl.elem (Ow.rowSl 0 (Ow.to (S' := rowp A_416 c_417 3 1 (eI .i64) (([] : List Int) ++ ([v_411] : List Int)) :: S) hs.own [7] 18 (by kernel_rfl) (by kernel_rfl)) rfl) h_490
    refine qva (.pointer (some ⟨b_493, o_494 + 0 * 1, none⟩)) (op := (.indexAddr 28 (.tmp 19) (.tmp 21))) hs (fun o ho => run_idxSlc (k := .i64) ho (cap := c_417) (len := (([] : List Int) ++ ([v_411] : List Int)).length) ((congrArg (fun A => Value.slice A ((([] : List Int) ++ ([v_411] : List Int)).length) (c_417)) hA_495) ▸ (by kernel_rfl)) (by kernel_rfl) (by kernel_rfl) (idx_ok h_489 h_490) _) fun a hs => ?_
    refine qva (vi e_492) (op := (.load 3 (.tmp 23))) hs (fun o ho => run_load1 (c := ci e_492) ho (by kernel_rfl) (by kernel_rfl) (fun w ho => h_491 w ho 0 _ rfl) _ (Ow.to (S' := rowp A_416 c_417 3 1 (eI .i64) (([] : List Int) ++ ([v_411] : List Int)) :: S) hs.own [7] 18 (by kernel_rfl) (by kernel_rfl))) fun a hs => ?_
    refine qpe 1 [(0, pp b_x0), (5, pp b_468), (6, pp b_469), (7, pp b_471), (8, vi 0), (10, vi e_492), (13, vi 2), (14, vi 0), (19, .slice A_416 ((([] : List Int) ++ ([v_411] : List Int)).length) c_417), (20, vi 1), (21, vi 0)] hs fun a hs => hK488 _ _ ?_
    clear hK488
    refine Vk.region ?_
    refine qpu 6 hs fun a hs => ?_
    obtain ⟨v_497, h_496, hm⟩ := bind_t hm
    refine qli 1 hs rfl h_496 fun a hs => ?_
    refine qpu 1 hs fun a hs => ?_
    replace hs := hs.toEx (Twire_Machine.parts b_x0 v_383.2) g_474 0 rfl
    obtain ⟨v_500, h_499, hm⟩ := bind_t hm
    refine qcl (wire_Machine_Two.ok _ _ _ _ _ _ _ h_499 _ _ _ b_x0 hs.own) hs fun w a hs => ?_
    refine qpu 2 hs fun a hs => ?_
    obtain ⟨h_501, hm⟩ := ite_t hm
    refine Vk.step (Vk.store1 (b := b_471) (ty := 3) (x := (.tmp 35)) (y := (.tmp 33)) (off := 0) (ci v_500.1) 1 hs (by kernel_rfl) (by kernel_rfl) (by kernel_rfl) (by kernel_rfl) (by kernel_rfl) (by kernel_rfl) rfl h_501 fun a w hs => ?_)
    refine qpk 0 [0, 5, 6, 7, 8, 13, 14, 19, 20, 21] hs fun a hs => hK487 _ _ ?_
    clear hK487
    refine Vk.region ?_
    refine qpk 2 [0, 5, 6, 7, 8, 13, 14, 19, 20, 21] hs fun a hs => hKL484 _ _ ?_
    clear hKL484
    refine Vk.unroll fun KL502 hKL502 => ?_
    refine qsk 1 [0, 5, 6, 7, 8, 13, 14, 19, 20, 21, 22] hs fun a hs => ?_
    refine Vk.seq fun K504 hK504 => ?_
    refine qcf hs ?_
    refine wp_exit ?_
    refine hK481 _ _ ?_
    clear hK481
    refine Vk.region ?_
    refine qpk 2 [0, 5, 6, 7, 13, 14] hs fun a hs => hKL478 _ _ ?_
    clear hKL478
    refine Vk.unroll fun KL505 hKL505 => ?_
    refine qsk 1 [0, 5, 6, 7, 13, 14, 15] hs fun a hs => ?_
    refine qck hs ?_
    refine Vk.seq fun K508 hK508 => ?_
    refine wp_block ?_
    refine qse 2 [(0, pp b_x0), (5, pp b_468), (6, pp b_469), (7, pp b_471), (8, vi 1), (13, vi 2), (14, vi 1)] hs fun a hs => ?_
    refine qsr fun K510 hK510 => ?_
    refine qpu 2 hs fun a hs => ?_
    refine qld 3 (C.slc A_447 ((([] : List Int) ++ ([v_442] : List Int)).length) c_448) hs rfl fun a hs => ?_
    refine qpk 2 [0, 5, 6, 7, 8, 13, 14, 19, 20, 21] hs fun a hs => hK510 _ _ ?_
    clear hK510
    refine wp_block ?_
    refine Vk.unroll0 40 ?_
    refine Vk.unroll fun KL511 hKL511 => ?_
    refine qsk 1 [0, 5, 6, 7, 8, 13, 14, 19, 20, 21, 22] hs fun a hs => ?_
    refine qck hs ?_
    refine Vk.seq fun K514 hK514 => ?_
    refine wp_block ?_
    refine qsr fun K515 hK515 => ?_
    obtain ⟨h_516, hm⟩ := ite_t hm
    obtain ⟨e_519, h_517, hm⟩ := bind_t hm
    obtain ⟨b_520, o_521, hA_522, h_518⟩ := Sl.elem (Ow.rowSl 0 (Ow.to (S' := rowp A_447 c_448 3 1 (eI .i64) (([] : List Int) ++ ([v_442] : List Int)) :: S) hs.own [5] 18 (by kernel_rfl) (by kernel_rfl)) rfl) h_517
    refine qva (.pointer (some ⟨b_520, o_521 + 0 * 1, none⟩)) (op := (.indexAddr 28 (.tmp 19) (.tmp 21))) hs (fun o ho => run_idxSlc (k := .i64) ho (cap := c_448) (len := (([] : List Int) ++ ([v_442] : List Int)).length) ((congrArg (fun A => Value.slice A ((([] : List Int) ++ ([v_442] : List Int)).length) (c_448)) hA_522) ▸ (by kernel_rfl)) (by kernel_rfl) (by kernel_rfl) (idx_ok h_516 h_517) _) fun a hs => ?_
    refine qva (vi e_519) (op := (.load 3 (.tmp 23))) hs (fun o ho => run_load1 (c := ci e_519) ho (by kernel_rfl) (by kernel_rfl) (fun w ho => h_518 w ho 0 _ rfl) _ (Ow.to (S' := rowp A_447 c_448 3 1 (eI .i64) (([] : List Int) ++ ([v_442] : List Int)) :: S) hs.own [5] 18 (by kernel_rfl) (by kernel_rfl))) fun a hs => ?_
    refine qpk 1 [0, 5, 6, 7, 8, 10, 13, 14, 19, 20, 21] hs fun a hs => hK515 _ _ ?_
    clear hK515
    refine Vk.region ?_
    refine qpu 6 hs fun a hs => ?_
    obtain ⟨v_524, h_523, hm⟩ := bind_t hm
    refine qli 1 hs rfl h_523 fun a hs => ?_
    refine qpu 1 hs fun a hs => ?_
    obtain ⟨v_527, h_526, hm⟩ := bind_t hm
    refine qcl (wire_Machine_Two.ok _ _ _ _ _ _ _ h_526 _ _ _ b_x0 hs.own) hs fun w a hs => ?_
    refine qpu 2 hs fun a hs => ?_
    obtain ⟨h_528, hm⟩ := ite_t hm
    refine Vk.step (Vk.store1 (b := b_471) (ty := 3) (x := (.tmp 35)) (y := (.tmp 33)) (off := 1) (ci v_527.1) 1 hs (by kernel_rfl) (by kernel_rfl) (by kernel_rfl) (by kernel_rfl) (by kernel_rfl) (by kernel_rfl) rfl h_528 fun a w hs => ?_)
    refine qpk 0 [0, 5, 6, 7, 8, 13, 14, 19, 20, 21] hs fun a hs => hK514 _ _ ?_
    clear hK514
    refine Vk.region ?_
    refine qpk 2 [0, 5, 6, 7, 8, 13, 14, 19, 20, 21] hs fun a hs => hKL511 _ _ ?_
    clear hKL511
    refine Vk.unroll fun KL529 hKL529 => ?_
    refine qse 1 [(0, pp b_x0), (5, pp b_468), (6, pp b_469), (7, pp b_471), (8, vi 1), (13, vi 2), (14, vi 1), (19, .slice A_447 ((([] : List Int) ++ ([v_442] : List Int)).length) c_448), (20, vi 1), (21, vi 1), (22, .bool false)] hs fun a hs => ?_
    refine Vk.seq fun K531 hK531 => ?_
    refine qcf hs ?_
    refine wp_exit ?_
    refine hK508 _ _ ?_
    clear hK508
    refine Vk.region ?_
    refine qpk 2 [0, 5, 6, 7, 13, 14] hs fun a hs => hKL505 _ _ ?_
    clear hKL505
    refine Vk.unroll fun KL532 hKL532 => ?_
    refine qsk 1 [0, 5, 6, 7, 13, 14, 15] hs fun a hs => ?_
    refine Vk.seq fun K534 hK534 => ?_
    refine qcf hs ?_
    refine wp_exit ?_
    refine hK472 _ _ ?_
    clear hK472
    refine qsr fun K535 hK535 => ?_
    refine qva (.agg (vals ((x1.set (0) (ci v_500.1)).set (1) (ci v_527.1)))) (op := (.load 75 (.tmp 7))) hs (fun o ho => run_loadN (cs := ((x1.set (0) (ci v_500.1)).set (1) (ci v_527.1))) ho (by kernel_rfl) (by kernel_rfl) (List.length_set.trans (List.length_set.trans h_361)) (CellsAt.all 1 rfl) _ hs.own) fun a hs => ?_
    refine Vk.step (Vk.storeA (b := b_469) (ty := 75) (x := (.tmp 6)) (y := (.tmp 38)) (sz := 3) ((x1.set (0) (ci v_500.1)).set (1) (ci v_527.1)) 2 hs (by kernel_rfl) (by kernel_rfl) (by kernel_rfl) (by kernel_rfl) (by kernel_rfl) (List.length_set.trans (List.length_set.trans h_361)) (by kernel_rfl) rfl (Eq.trans (b := 3) (List.length_set.trans (List.length_set.trans h_361)) (Eq.symm rfl)) fun a w hs => ?_)
    refine qpe 0 [(6, pp b_469)] hs fun a hs => hK535 _ _ ?_
    clear hK535
    refine wp_ret ?_
    refine hKP465 _ _ ?_
    refine hKR465 _ _ ?_
    refine Vk.retC (P := Tryz.prog) (fn := Tryz.f112) ((x1.set (0) (ci v_500.1)).set (1) (ci v_527.1)) hs rfl (by kernel_rfl) (sz := 3) (by kernel_rfl) (List.length_set.trans (List.length_set.trans h_361)) (CellsAt.all 2 rfl) ⟨_, _, _, rfl, hs.own, fun a hs => ?_⟩
    refine qal 75 [ci 0, ci 0, ci 0] 15 hs fun b_536 w a hs => ?_
    refine Vk.step (Vk.storeA (b := b_536) (ty := 75) (x := (.tmp 15)) (y := (.tmp 52)) (sz := 3) ((x1.set (0) (ci v_500.1)).set (1) (ci v_527.1)) 0 hs (by kernel_rfl) (by kernel_rfl) (by kernel_rfl) (by kernel_rfl) (by kernel_rfl) (List.length_set.trans (List.length_set.trans h_361)) (by kernel_rfl) rfl (Eq.trans (b := 3) (List.length_set.trans (List.length_set.trans h_361)) (Eq.symm rfl)) fun a w hs => ?_)
    refine qpk 0 [0, 8, 15] hs fun a hs => hK464 _ _ ?_
    clear hK464
    refine qsr fun K537 hK537 => ?_
    refine qpu 1 hs fun a hs => ?_
    obtain ⟨v_540, h_539, hm⟩ := bind_t hm
    refine qcl (wire_Machine_End.ok _ _ _ h_539 _ _ _ b_x0 hs.own.f1) hs fun w a hs => ?_
    refine qpk 0 [8, 15] hs fun a hs => hK537 _ _ ?_
    clear hK537
    refine qsr fun K541 hK541 => ?_
    refine qva (.agg (vals ((x1.set (0) (ci v_500.1)).set (1) (ci v_527.1)))) (op := (.load 75 (.tmp 15))) hs (fun o ho => run_loadN (cs := ((x1.set (0) (ci v_500.1)).set (1) (ci v_527.1))) ho (by kernel_rfl) (by kernel_rfl) (List.length_set.trans (List.length_set.trans h_361)) (CellsAt.all 1 rfl) _ hs.own) fun a hs => ?_
    refine Vk.step (Vk.storeA (b := b_370) (ty := 75) (x := (.tmp 8)) (y := (.tmp 55)) (sz := 3) ((x1.set (0) (ci v_500.1)).set (1) (ci v_527.1)) 12 hs (by kernel_rfl) (by kernel_rfl) (by kernel_rfl) (by kernel_rfl) (by kernel_rfl) (List.length_set.trans (List.length_set.trans h_361)) (by kernel_rfl) rfl (Eq.trans (b := 3) (List.length_set.trans (List.length_set.trans h_361)) (Eq.symm rfl)) fun a w hs => ?_)
    refine qpe 0 [(8, pp b_370)] hs fun a hs => hK541 _ _ ?_
    clear hK541
    refine wp_ret ?_
    refine hKP366 _ _ ?_
    refine hKR366 _ _ ?_
    refine Vk.retC (P := Tryz.prog) (fn := Tryz.f92) ((x1.set (0) (ci v_500.1)).set (1) (ci v_527.1)) hs rfl (by kernel_rfl) (sz := 3) (by kernel_rfl) (List.length_set.trans (List.length_set.trans h_361)) (CellsAt.all 12 rfl) ⟨_, _, _, rfl, hs.own, fun a hs => ?_⟩
    refine Vk.step (Vk.storeA (b := b_3) (ty := 75) (x := (.tmp 4)) (y := (.tmp 20)) (sz := 3) ((x1.set (0) (ci v_500.1)).set (1) (ci v_527.1)) 17 hs (by kernel_rfl) (by kernel_rfl) (by kernel_rfl) (by kernel_rfl) (by kernel_rfl) (List.length_set.trans (List.length_set.trans h_361)) (by kernel_rfl) rfl (Eq.trans (b := 3) (List.length_set.trans (List.length_set.trans h_361)) (Eq.symm rfl)) fun a w hs => ?_)
    refine qpe 0 [(4, pp b_3)] hs fun a hs => hK360 _ _ ?_
    clear hK360
    refine wp_ret ?_
    exact Vk.retC ((x1.set (0) (ci v_500.1)).set (1) (ci v_527.1)) hs rfl (by kernel_rfl) (sz := 3) (by kernel_rfl) (List.length_set.trans (List.length_set.trans h_361)) (CellsAt.all 17 rfl) (hRR ▸ by cases hm; exact ⟨rfl, (hs.own.too [0] 19)⟩)
   ·replace hm := bif_f hm hb
    cases hm
  ·replace hm := bif_f hm hb
   cases hm
 ·replace hm := bif_f hm hb
  rcases Bool.eq_false_or_eq_true (v_9 == 3) with hb | hb
  ·replace hm := bif_t hm hb
   obtain rfl := Vk.of_beq hb
   refine qpk 1 [0, 3, 4, 7] hs fun a hs => hK5 _ _ ?_
   refine qct hs ?_
   refine qsr fun K10 hK10 => ?_
   refine qpu 1 hs fun a hs => ?_
   obtain ⟨h_11, hm⟩ := ite_t hm
   refine qlw 2 hs rfl h_11 fun a hs => ?_
   refine Vk.step (Vk.buildOp (sz := 1) (by_ := 8) (t := 28) (e := 3) (parts := #[(0, (.const (vi 0))), (1, (.const (vi 1)))]) (zs := vals [ci 0]) ([0, 1] : List Int) (eI .i64) (some 10) hs (by kernel_rfl) (by kernel_rfl) (by kernel_rfl) (by kernel_rfl) (by decide) rfl (fun x _ => rfl) (Nat.le_of_ble_eq_true (by kernel_rfl)) (by kernel_rfl) fun A_12 w a hs => ?_)
   refine Vk.step (Vk.buildOp (sz := 1) (by_ := 8) (t := 28) (e := 3) (parts := #[(0, (.const (vi 0))), (1, (.const (vi 2)))]) (zs := vals [ci 0]) ([0, 2] : List Int) (eI .i64) (some 11) hs (by kernel_rfl) (by kernel_rfl) (by kernel_rfl) (by kernel_rfl) (by decide) rfl (fun x _ => rfl) (Nat.le_of_ble_eq_true (by kernel_rfl)) (by kernel_rfl) fun A_14 w a hs => ?_)
   refine Vk.step (Vk.buildOp (sz := 1) (by_ := 8) (t := 28) (e := 3) (parts := #[(0, (.const (vi 1))), (1, (.const (vi 2)))]) (zs := vals [ci 0]) ([1, 2] : List Int) (eI .i64) (some 12) hs (by kernel_rfl) (by kernel_rfl) (by kernel_rfl) (by kernel_rfl) (by decide) rfl (fun x _ => rfl) (Nat.le_of_ble_eq_true (by kernel_rfl)) (by kernel_rfl) fun A_16 w a hs => ?_)
   refine qpu 1 hs fun a hs => ?_
   refine Vk.step (Vk.call (some 14) 92 #[pp b_x0, .agg (vals x1), vi 3, .agg (vals ([C.slc A_12 (([0, 1] : List Int).length) 2, C.slc A_14 (([0, 2] : List Int).length) 2, C.slc A_16 (([1, 2] : List Int).length) 2]))] hs (by kernel_rfl) (by kernel_rfl) (by kernel_rfl) ?_)
   refine Vk.enterI [(0, pp b_x0), (1, .agg (vals x1)), (2, vi 3), (3, .agg (vals ([C.slc A_12 (([0, 1] : List Int).length) 2, C.slc A_14 (([0, 2] : List Int).length) 2, C.slc A_16 (([1, 2] : List Int).length) 2])))] Tryz.func92 rfl Tryz.ntmps92 (by kernel_rfl) (Nat.le_of_ble_eq_true (by kernel_rfl)) hs.own fun KR18 hKR18 hKP18 a hs => ?_
   refine qsr fun K19 hK19 => ?_
   refine qbx 1 75 x1 5 hs fun b_20 w a hs => ?_
   refine qbx 3 138 ([C.slc A_12 (([0, 1] : List Int).length) 2, C.slc A_14 (([0, 2] : List Int).length) 2, C.slc A_16 (([1, 2] : List Int).length) 2]) 7 hs fun b_21 w a hs => ?_
   refine qal 75 [ci 0, ci 0, ci 0] 8 hs fun b_22 w a hs => ?_
   refine qpk 0 [0, 2, 5, 7, 8] hs fun a hs => hK19 _ _ ?_
   clear hK19
   refine Vk.seq fun K23 hK23 => ?_
   refine qsr fun K24 hK24 => ?_
   refine qpu 1 hs fun a hs => ?_
   obtain ⟨v_27, h_26, hm⟩ := bind_t hm
   refine qcl (wire_Machine_N.ok _ _ _ h_26 _ _ _ b_x0 g_6 hs.own.f6) hs fun w a hs => ?_
   rcases Bool.eq_false_or_eq_true (v_27 == 3) with hb | hb
   ·replace hm := bif_t hm hb
    obtain rfl := Vk.of_beq hb
    refine qpk 1 [0, 2, 5, 7, 8, 18] hs fun a hs => hK24 _ _ ?_
    clear hK24
    refine qcf hs ?_
    refine wp_skip ?_
    refine hK23 _ _ ?_
    clear hK23
    refine qsr fun K28 hK28 => ?_
    refine qpu 1 hs fun a hs => ?_
    replace hs := hs.toEx (Twire_Machine.parts b_x0 x0) g_6 0 rfl
    obtain ⟨v_31, h_30, hm⟩ := bind_t hm
    refine qcl (wire_Machine_Begin.ok _ _ _ _ h_30 _ _ _ b_x0 hs.own) hs fun w a hs => ?_
    refine qpk 0 [0, 2, 5, 7, 8] hs fun a hs => hK28 _ _ ?_
    clear hK28
    refine qsr fun K32 hK32 => ?_
    refine qpu 2 hs fun a hs => ?_
    obtain ⟨v_35, h_34, hm⟩ := bind_t hm
    refine qcl (fresh_masks.ok _ _ _ _ h_34 _ _ _ b_x0 hs.own) hs fun w a hs => ?_
    refine qal 73 [ci 0, ci 0, ci 0] 9 hs fun b_36 w a hs => ?_
    obtain ⟨h_37, hm⟩ := ite_t hm
    refine qsb 0 v_35.1 hs rfl h_37 rfl fun a w hs => ?_
    refine qpk 0 [0, 5, 7, 8, 9] hs fun a hs => hK32 _ _ ?_
    clear hK32
    refine qsr fun K38 hK38 => ?_
    refine qal 138 [C.slc none 0 0, C.slc none 0 0, C.slc none 0 0] 10 hs fun b_39 w a hs => ?_
    refine qpe 0 [(0, pp b_x0), (5, pp b_20), (7, pp b_21), (8, pp b_22), (9, pp b_36), (10, pp b_39)] hs fun a hs => hK38 _ _ ?_
    clear hK38
    refine Vk.seq fun K40 hK40 => ?_
    refine qsr fun K41 hK41 => ?_
    refine qln 4 ([C.slc A_12 (([0, 1] : List Int).length) 2, C.slc A_14 (([0, 2] : List Int).length) 2, C.slc A_16 (([1, 2] : List Int).length) 2]) hs rfl fun a hs => ?_
    refine qpk 1 [0, 5, 8, 9, 10, 26, 27] hs fun a hs => hK41 _ _ ?_
    clear hK41
    refine wp_block ?_
    refine Vk.unroll0 40 ?_
    refine Vk.unroll fun KL42 hKL42 => ?_
    refine qsk 1 [0, 5, 8, 9, 10, 26, 27, 28] hs fun a hs => ?_
    refine qck hs ?_
    refine Vk.seq fun K45 hK45 => ?_
    refine wp_block ?_
    refine qsk 4 [0, 5, 8, 9, 10, 11, 12, 26, 27] hs fun a hs => ?_
    refine qsk 3 [0, 5, 8, 9, 10, 11, 26, 27, 31, 32, 33] hs fun a hs => ?_
    refine wp_block ?_
    refine Vk.unroll0 40 ?_
    refine Vk.unroll fun KL48 hKL48 => ?_
    refine qsk 1 [0, 5, 8, 9, 10, 11, 26, 27, 31, 32, 33, 34] hs fun a hs => ?_
    refine qck hs ?_
    refine Vk.seq fun K51 hK51 => ?_
    refine wp_block ?_
    refine qsr fun K52 hK52 => ?_
    obtain ⟨h_53, hm⟩ := ite_t hm
    obtain ⟨e_56, h_54, hm⟩ := bind_t hm
    obtain ⟨b_57, o_58, hA_59, h_55⟩ := Sl.elem (Ow.rowSl 0 (Ow.to (S' := rowp A_12 2 3 1 (eI .i64) ([0, 1] : List Int) :: S) hs.own [8] 11 (by kernel_rfl) (by kernel_rfl)) rfl) h_54
    refine qva (.pointer (some ⟨b_57, o_58 + 0 * 1, none⟩)) (op := (.indexAddr 28 (.tmp 31) (.tmp 33))) hs (fun o ho => run_idxSlc (k := .i64) ho (cap := 2) (len := ([0, 1] : List Int).length) ((congrArg (fun A => Value.slice A (([0, 1] : List Int).length) (2)) hA_59) ▸ (by kernel_rfl)) (by kernel_rfl) (by kernel_rfl) (idx_ok h_53 h_54) _) fun a hs => ?_
    refine qva (vi e_56) (op := (.load 3 (.tmp 35))) hs (fun o ho => run_load1 (c := ci e_56) ho (by kernel_rfl) (by kernel_rfl) (fun w ho => h_55 w ho 0 _ rfl) _ (Ow.to (S' := rowp A_12 2 3 1 (eI .i64) ([0, 1] : List Int) :: S) hs.own [8] 11 (by kernel_rfl) (by kernel_rfl))) fun a hs => ?_
    refine qpe 1 [(0, pp b_x0), (5, pp b_20), (8, pp b_22), (9, pp b_36), (10, pp b_39), (11, vi 0), (14, vi e_56), (26, .agg (vals ([C.slc A_12 (([0, 1] : List Int).length) 2, C.slc A_14 (([0, 2] : List Int).length) 2, C.slc A_16 (([1, 2] : List Int).length) 2]))), (27, vi 0), (31, .slice A_12 (([0, 1] : List Int).length) 2), (32, vi 2), (33, vi 0)] hs fun a hs => hK52 _ _ ?_
    clear hK52
    obtain ⟨C_60, hC_60⟩ := qC hs.own
    refine qdr 10 κ C_60 hs fun w hs hqC_60 => ?_
    have hcl := qO hC_60 hs.own
    refine qdp (fuel := 7) [0, 1, 2, 4] hs hcl hqC_60 fun a hs => ?_
    refine qdl 3 0 (C.slc none 0 0) hs hcl hqC_60 hC_60 rfl fun a hs => ?_
    obtain ⟨h_61, hm⟩ := ite_t hm
    refine qdx 5 b_36 0 1 hs hcl hqC_60 h_61 fun a hs => ?_
    obtain ⟨v_63, h_62, hm⟩ := bind_t hm
    refine qdi 6 1 hs hcl hqC_60 hC_60 rfl h_62 fun a hs => ?_
    refine Vk.dOnly (i := 7) (by kernel_rfl) (Vk.buildOp (sz := 1) (by_ := 8) (t := 28) (e := 3) (parts := #[(0, (.tmp 43))]) (zs := vals [ci 0]) ([v_63] : List Int) (eI .i64) (some 44) hs (by kernel_rfl) (by kernel_rfl) (by kernel_rfl) (by kernel_rfl) (by decide) rfl (fun x _ => rfl) (Nat.le_of_ble_eq_true (by kernel_rfl)) (by kernel_rfl) fun A_64 w a hs => ?_)
    replace hcl := qO hC_60 hs.own.drop
    refine ⟨fun _ => hcl, ?_⟩
    replace hs := hs.addRow none 3 1 (eI .i64)
    obtain ⟨h_67, hm⟩ := ite_t hm
    refine Vk.dOnly (i := 8) (by kernel_rfl) (Vk.appendOp (x := (.tmp 40)) (y := (.tmp 44)) (e := 3) (t := 28) (by_ := 8) (sz := 1) (enc := (eI .i64)) (A := none) (cap := 0) (xs := ([] : List Int)) (ys := ([v_63] : List Int)) (B := A_64) (c2 := 1) 0 (some 45) hs (by kernel_rfl) (by kernel_rfl) (by kernel_rfl) (by kernel_rfl) rfl (Sl.lift (fun w ho => (Ow.to (S' := rowp A_64 1 3 1 (eI .i64) ([v_63] : List Int) :: S) ho [1] 13 (by kernel_rfl) (by kernel_rfl))) (Ow.rowSl 0 (Ow.to (S' := rowp A_64 1 3 1 (eI .i64) ([v_63] : List Int) :: S) hs.own [1] 13 (by kernel_rfl) (by kernel_rfl)) rfl)) (by kernel_rfl) (by kernel_rfl) (by decide) (by decide) h_67 fun A_68 c_69 w a hs => ?_)
    replace hcl := qO hC_60 hs.own.f1.drop.drop
    refine ⟨fun _ => hcl, ?_⟩
    refine qdp (fuel := 1) [9] hs hcl hqC_60 fun a hs => ?_
    refine qsd 10 2 0 (C.slc A_68 ((([] : List Int) ++ ([v_63] : List Int)).length) c_69) hs rfl fun a w hs => ?_
    refine ⟨fun h => absurd h (by decide), ?_⟩
    replace hs := hs.pick [0, 5, 8, 9, 10, 11, 26, 27, 31, 32, 33] (L' := [(0, pp b_x0), (5, pp b_20), (8, pp b_22), (9, pp b_36), (10, pp b_39), (11, vi 0), (26, .agg (vals ([C.slc A_12 (([0, 1] : List Int).length) 2, C.slc A_14 (([0, 2] : List Int).length) 2, C.slc A_16 (([1, 2] : List Int).length) 2]))), (27, vi 0), (31, .slice A_12 (([0, 1] : List Int).length) 2), (32, vi 2), (33, vi 0)]) (by kernel_rfl)
    refine Vk.dDone (by kernel_rfl) ?_
    refine hK51 _ _ ?_
    clear hK51
    refine Vk.region ?_
    refine qpk 2 [0, 5, 8, 9, 10, 11, 26, 27, 31, 32, 33] hs fun a hs => hKL48 _ _ ?_
    clear hKL48
    refine Vk.unroll fun KL70 hKL70 => ?_
    refine qsk 1 [0, 5, 8, 9, 10, 11, 26, 27, 31, 32, 33, 34] hs fun a hs => ?_
    refine qck hs ?_
    refine Vk.seq fun K73 hK73 => ?_
    refine wp_block ?_
    refine qsr fun K74 hK74 => ?_
    obtain ⟨h_75, hm⟩ := ite_t hm
    obtain ⟨e_78, h_76, hm⟩ := bind_t hm
    obtain ⟨b_79, o_80, hA_81, h_77⟩ := Sl.elem (Ow.rowSl 0 (Ow.to (S' := rowp A_12 2 3 1 (eI .i64) ([0, 1] : List Int) :: S) hs.own [10] 13 (by kernel_rfl) (by kernel_rfl)) rfl) h_76
    refine qva (.pointer (some ⟨b_79, o_80 + 1 * 1, none⟩)) (op := (.indexAddr 28 (.tmp 31) (.tmp 33))) hs (fun o ho => run_idxSlc (k := .i64) ho (cap := 2) (len := ([0, 1] : List Int).length) ((congrArg (fun A => Value.slice A (([0, 1] : List Int).length) (2)) hA_81) ▸ (by kernel_rfl)) (by kernel_rfl) (by kernel_rfl) (idx_ok h_75 h_76) _) fun a hs => ?_
    refine qva (vi e_78) (op := (.load 3 (.tmp 35))) hs (fun o ho => run_load1 (c := ci e_78) ho (by kernel_rfl) (by kernel_rfl) (fun w ho => h_77 w ho 0 _ rfl) _ (Ow.to (S' := rowp A_12 2 3 1 (eI .i64) ([0, 1] : List Int) :: S) hs.own [10] 13 (by kernel_rfl) (by kernel_rfl))) fun a hs => ?_
    refine qpk 1 [0, 5, 8, 9, 10, 11, 14, 26, 27, 31, 32, 33] hs fun a hs => hK74 _ _ ?_
    clear hK74
    obtain ⟨C_82, hC_82⟩ := qC hs.own.drop
    refine qdr 10 κ C_82 hs fun w hs hqC_82 => ?_
    have hcl := qO hC_82 hs.own.drop
    refine qdp (fuel := 7) [0, 1, 2, 4] hs hcl hqC_82 fun a hs => ?_
    refine qdl 3 1 (C.slc A_68 ((([] : List Int) ++ ([v_63] : List Int)).length) c_69) hs hcl hqC_82 hC_82 rfl fun a hs => ?_
    obtain ⟨h_83, hm⟩ := ite_t hm
    refine qdx 5 b_36 0 1 hs hcl hqC_82 h_83 fun a hs => ?_
    obtain ⟨v_85, h_84, hm⟩ := bind_t hm
    refine qdi 6 2 hs hcl hqC_82 hC_82 rfl h_84 fun a hs => ?_
    refine Vk.dOnly (i := 7) (by kernel_rfl) (Vk.buildOp (sz := 1) (by_ := 8) (t := 28) (e := 3) (parts := #[(0, (.tmp 43))]) (zs := vals [ci 0]) ([v_85] : List Int) (eI .i64) (some 44) hs (by kernel_rfl) (by kernel_rfl) (by kernel_rfl) (by kernel_rfl) (by decide) rfl (fun x _ => rfl) (Nat.le_of_ble_eq_true (by kernel_rfl)) (by kernel_rfl) fun A_86 w a hs => ?_)
    replace hcl := qO hC_82 hs.own.f1.drop.drop
    refine ⟨fun _ => hcl, ?_⟩
    obtain ⟨h_88, hm⟩ := ite_t hm
    refine Vk.dOnly (i := 8) (by kernel_rfl) (Vk.appendOp (x := (.tmp 40)) (y := (.tmp 44)) (e := 3) (t := 28) (by_ := 8) (sz := 1) (enc := (eI .i64)) (A := A_68) (cap := c_69) (xs := ([] : List Int) ++ ([v_63] : List Int)) (ys := ([v_85] : List Int)) (B := A_86) (c2 := 1) 1 (some 45) hs (by kernel_rfl) (by kernel_rfl) (by kernel_rfl) (by kernel_rfl) rfl (Sl.lift (fun w ho => (Ow.to (S' := rowp A_86 1 3 1 (eI .i64) ([v_85] : List Int) :: S) ho [0] 14 (by kernel_rfl) (by kernel_rfl))) (Ow.rowSl 0 (Ow.to (S' := rowp A_86 1 3 1 (eI .i64) ([v_85] : List Int) :: S) hs.own [0] 14 (by kernel_rfl) (by kernel_rfl)) rfl)) (by kernel_rfl) (by kernel_rfl) (by decide) (by decide) h_88 fun A_89 c_90 w a hs => ?_)
    replace hcl := qO hC_82 hs.own.f1.drop.drop
    refine ⟨fun _ => hcl, ?_⟩
    refine qdp (fuel := 1) [9] hs hcl hqC_82 fun a hs => ?_
    refine qsd 10 3 0 (C.slc A_89 (((([] : List Int) ++ ([v_63] : List Int)) ++ ([v_85] : List Int)).length) c_90) hs rfl fun a w hs => ?_
    refine ⟨fun h => absurd h (by decide), ?_⟩
    replace hs := hs.pick [0, 5, 8, 9, 10, 11, 26, 27, 31, 32, 33] (L' := [(0, pp b_x0), (5, pp b_20), (8, pp b_22), (9, pp b_36), (10, pp b_39), (11, vi 0), (26, .agg (vals ([C.slc A_12 (([0, 1] : List Int).length) 2, C.slc A_14 (([0, 2] : List Int).length) 2, C.slc A_16 (([1, 2] : List Int).length) 2]))), (27, vi 0), (31, .slice A_12 (([0, 1] : List Int).length) 2), (32, vi 2), (33, vi 1)]) (by kernel_rfl)
    refine Vk.dDone (by kernel_rfl) ?_
    refine hK73 _ _ ?_
    clear hK73
    refine Vk.region ?_
    refine qpk 2 [0, 5, 8, 9, 10, 11, 26, 27, 31, 32, 33] hs fun a hs => hKL70 _ _ ?_
    clear hKL70
    refine Vk.unroll fun KL91 hKL91 => ?_
    refine qsk 1 [0, 5, 8, 9, 10, 11, 26, 27, 31, 32, 33, 34] hs fun a hs => ?_
    refine Vk.seq fun K93 hK93 => ?_
    refine qcf hs ?_
    refine wp_exit ?_
    refine hK45 _ _ ?_
    clear hK45
    refine Vk.region ?_
    refine qpe 2 [(0, pp b_x0), (5, pp b_20), (8, pp b_22), (9, pp b_36), (10, pp b_39), (26, .agg (vals ([C.slc A_12 (([0, 1] : List Int).length) 2, C.slc A_14 (([0, 2] : List Int).length) 2, C.slc A_16 (([1, 2] : List Int).length) 2]))), (27, vi 1)] hs fun a hs => hKL42 _ _ ?_
    clear hKL42
    refine Vk.unroll fun KL94 hKL94 => ?_
    refine qsk 1 [0, 5, 8, 9, 10, 26, 27, 28] hs fun a hs => ?_
    refine qck hs ?_
    refine Vk.seq fun K97 hK97 => ?_
    refine wp_block ?_
    refine qsk 4 [0, 5, 8, 9, 10, 11, 12, 26, 27] hs fun a hs => ?_
    refine qsk 3 [0, 5, 8, 9, 10, 11, 26, 27, 31, 32, 33] hs fun a hs => ?_
    refine wp_block ?_
    refine Vk.unroll0 40 ?_
    refine Vk.unroll fun KL100 hKL100 => ?_
    refine qsk 1 [0, 5, 8, 9, 10, 11, 26, 27, 31, 32, 33, 34] hs fun a hs => ?_
    refine qck hs ?_
    refine Vk.seq fun K103 hK103 => ?_
    refine wp_block ?_
    refine qsr fun K104 hK104 => ?_
    obtain ⟨h_105, hm⟩ := ite_t hm
    obtain ⟨e_108, h_106, hm⟩ := bind_t hm
    obtain ⟨b_109, o_110, hA_111, h_107⟩ := Sl.elem (Ow.rowSl 0 (Ow.to (S' := rowp A_14 2 3 1 (eI .i64) ([0, 2] : List Int) :: S) hs.own [10] 14 (by kernel_rfl) (by kernel_rfl)) rfl) h_106
    refine qva (.pointer (some ⟨b_109, o_110 + 0 * 1, none⟩)) (op := (.indexAddr 28 (.tmp 31) (.tmp 33))) hs (fun o ho => run_idxSlc (k := .i64) ho (cap := 2) (len := ([0, 2] : List Int).length) ((congrArg (fun A => Value.slice A (([0, 2] : List Int).length) (2)) hA_111) ▸ (by kernel_rfl)) (by kernel_rfl) (by kernel_rfl) (idx_ok h_105 h_106) _) fun a hs => ?_
    refine qva (vi e_108) (op := (.load 3 (.tmp 35))) hs (fun o ho => run_load1 (c := ci e_108) ho (by kernel_rfl) (by kernel_rfl) (fun w ho => h_107 w ho 0 _ rfl) _ (Ow.to (S' := rowp A_14 2 3 1 (eI .i64) ([0, 2] : List Int) :: S) hs.own [10] 14 (by kernel_rfl) (by kernel_rfl))) fun a hs => ?_
    refine qpk 1 [0, 5, 8, 9, 10, 11, 14, 26, 27, 31, 32, 33] hs fun a hs => hK104 _ _ ?_
    clear hK104
    obtain ⟨C_112, hC_112⟩ := qC hs.own
    refine qdr 10 κ C_112 hs fun w hs hqC_112 => ?_
    have hcl := qO hC_112 hs.own
    refine qdp (fuel := 7) [0, 1, 2, 4] hs hcl hqC_112 fun a hs => ?_
    refine qdl 3 3 (C.slc none 0 0) hs hcl hqC_112 hC_112 rfl fun a hs => ?_
    obtain ⟨h_113, hm⟩ := ite_t hm
    refine qdx 5 b_36 0 1 hs hcl hqC_112 h_113 fun a hs => ?_
    obtain ⟨v_115, h_114, hm⟩ := bind_t hm
    refine qdi 6 4 hs hcl hqC_112 hC_112 rfl h_114 fun a hs => ?_
    refine Vk.dOnly (i := 7) (by kernel_rfl) (Vk.buildOp (sz := 1) (by_ := 8) (t := 28) (e := 3) (parts := #[(0, (.tmp 43))]) (zs := vals [ci 0]) ([v_115] : List Int) (eI .i64) (some 44) hs (by kernel_rfl) (by kernel_rfl) (by kernel_rfl) (by kernel_rfl) (by decide) rfl (fun x _ => rfl) (Nat.le_of_ble_eq_true (by kernel_rfl)) (by kernel_rfl) fun A_116 w a hs => ?_)
    replace hcl := qO hC_112 hs.own.drop
    refine ⟨fun _ => hcl, ?_⟩
    replace hs := hs.addRow none 3 1 (eI .i64)
    obtain ⟨h_119, hm⟩ := ite_t hm
    refine Vk.dOnly (i := 8) (by kernel_rfl) (Vk.appendOp (x := (.tmp 40)) (y := (.tmp 44)) (e := 3) (t := 28) (by_ := 8) (sz := 1) (enc := (eI .i64)) (A := none) (cap := 0) (xs := ([] : List Int)) (ys := ([v_115] : List Int)) (B := A_116) (c2 := 1) 0 (some 45) hs (by kernel_rfl) (by kernel_rfl) (by kernel_rfl) (by kernel_rfl) rfl (Sl.lift (fun w ho => (Ow.to (S' := rowp A_116 1 3 1 (eI .i64) ([v_115] : List Int) :: S) ho [1] 16 (by kernel_rfl) (by kernel_rfl))) (Ow.rowSl 0 (Ow.to (S' := rowp A_116 1 3 1 (eI .i64) ([v_115] : List Int) :: S) hs.own [1] 16 (by kernel_rfl) (by kernel_rfl)) rfl)) (by kernel_rfl) (by kernel_rfl) (by decide) (by decide) h_119 fun A_120 c_121 w a hs => ?_)
    replace hcl := qO hC_112 hs.own.f1.drop.drop
    refine ⟨fun _ => hcl, ?_⟩
    refine qdp (fuel := 1) [9] hs hcl hqC_112 fun a hs => ?_
    refine qsd 10 5 1 (C.slc A_120 ((([] : List Int) ++ ([v_115] : List Int)).length) c_121) hs rfl fun a w hs => ?_
    refine ⟨fun h => absurd h (by decide), ?_⟩
    replace hs := hs.pick [0, 5, 8, 9, 10, 11, 26, 27, 31, 32, 33] (L' := [(0, pp b_x0), (5, pp b_20), (8, pp b_22), (9, pp b_36), (10, pp b_39), (11, vi 1), (26, .agg (vals ([C.slc A_12 (([0, 1] : List Int).length) 2, C.slc A_14 (([0, 2] : List Int).length) 2, C.slc A_16 (([1, 2] : List Int).length) 2]))), (27, vi 1), (31, .slice A_14 (([0, 2] : List Int).length) 2), (32, vi 2), (33, vi 0)]) (by kernel_rfl)
    refine Vk.dDone (by kernel_rfl) ?_
    refine hK103 _ _ ?_
    clear hK103
    refine Vk.region ?_
    refine qpe 2 [(0, pp b_x0), (5, pp b_20), (8, pp b_22), (9, pp b_36), (10, pp b_39), (11, vi 1), (26, .agg (vals ([C.slc A_12 (([0, 1] : List Int).length) 2, C.slc A_14 (([0, 2] : List Int).length) 2, C.slc A_16 (([1, 2] : List Int).length) 2]))), (27, vi 1), (31, .slice A_14 (([0, 2] : List Int).length) 2), (32, vi 2), (33, vi 1)] hs fun a hs => hKL100 _ _ ?_
    clear hKL100
    refine Vk.unroll fun KL122 hKL122 => ?_
    refine qsk 1 [0, 5, 8, 9, 10, 11, 26, 27, 31, 32, 33, 34] hs fun a hs => ?_
    refine qck hs ?_
    refine Vk.seq fun K125 hK125 => ?_
    refine wp_block ?_
    refine qsr fun K126 hK126 => ?_
    obtain ⟨h_127, hm⟩ := ite_t hm
    obtain ⟨e_130, h_128, hm⟩ := bind_t hm
    obtain ⟨b_131, o_132, hA_133, h_129⟩ := Sl.elem (Ow.rowSl 0 (Ow.to (S' := rowp A_14 2 3 1 (eI .i64) ([0, 2] : List Int) :: S) hs.own [12] 16 (by kernel_rfl) (by kernel_rfl)) rfl) h_128
    refine qva (.pointer (some ⟨b_131, o_132 + 1 * 1, none⟩)) (op := (.indexAddr 28 (.tmp 31) (.tmp 33))) hs (fun o ho => run_idxSlc (k := .i64) ho (cap := 2) (len := ([0, 2] : List Int).length) ((congrArg (fun A => Value.slice A (([0, 2] : List Int).length) (2)) hA_133) ▸ (by kernel_rfl)) (by kernel_rfl) (by kernel_rfl) (idx_ok h_127 h_128) _) fun a hs => ?_
    refine qva (vi e_130) (op := (.load 3 (.tmp 35))) hs (fun o ho => run_load1 (c := ci e_130) ho (by kernel_rfl) (by kernel_rfl) (fun w ho => h_129 w ho 0 _ rfl) _ (Ow.to (S' := rowp A_14 2 3 1 (eI .i64) ([0, 2] : List Int) :: S) hs.own [12] 16 (by kernel_rfl) (by kernel_rfl))) fun a hs => ?_
    refine qpk 1 [0, 5, 8, 9, 10, 11, 14, 26, 27, 31, 32, 33] hs fun a hs => hK126 _ _ ?_
    clear hK126
    obtain ⟨C_134, hC_134⟩ := qC hs.own.drop
    refine qdr 10 κ C_134 hs fun w hs hqC_134 => ?_
    have hcl := qO hC_134 hs.own.drop
    refine qdp (fuel := 7) [0, 1, 2, 4] hs hcl hqC_134 fun a hs => ?_
    refine qdl 3 4 (C.slc A_120 ((([] : List Int) ++ ([v_115] : List Int)).length) c_121) hs hcl hqC_134 hC_134 rfl fun a hs => ?_
    obtain ⟨h_135, hm⟩ := ite_t hm
    refine qdx 5 b_36 0 1 hs hcl hqC_134 h_135 fun a hs => ?_
    obtain ⟨v_137, h_136, hm⟩ := bind_t hm
    refine qdi 6 5 hs hcl hqC_134 hC_134 rfl h_136 fun a hs => ?_
    refine Vk.dOnly (i := 7) (by kernel_rfl) (Vk.buildOp (sz := 1) (by_ := 8) (t := 28) (e := 3) (parts := #[(0, (.tmp 43))]) (zs := vals [ci 0]) ([v_137] : List Int) (eI .i64) (some 44) hs (by kernel_rfl) (by kernel_rfl) (by kernel_rfl) (by kernel_rfl) (by decide) rfl (fun x _ => rfl) (Nat.le_of_ble_eq_true (by kernel_rfl)) (by kernel_rfl) fun A_138 w a hs => ?_)
    replace hcl := qO hC_134 hs.own.f1.drop.drop
    refine ⟨fun _ => hcl, ?_⟩
    obtain ⟨h_140, hm⟩ := ite_t hm
    refine Vk.dOnly (i := 8) (by kernel_rfl) (Vk.appendOp (x := (.tmp 40)) (y := (.tmp 44)) (e := 3) (t := 28) (by_ := 8) (sz := 1) (enc := (eI .i64)) (A := A_120) (cap := c_121) (xs := ([] : List Int) ++ ([v_115] : List Int)) (ys := ([v_137] : List Int)) (B := A_138) (c2 := 1) 1 (some 45) hs (by kernel_rfl) (by kernel_rfl) (by kernel_rfl) (by kernel_rfl) rfl (Sl.lift (fun w ho => (Ow.to (S' := rowp A_138 1 3 1 (eI .i64) ([v_137] : List Int) :: S) ho [0] 17 (by kernel_rfl) (by kernel_rfl))) (Ow.rowSl 0 (Ow.to (S' := rowp A_138 1 3 1 (eI .i64) ([v_137] : List Int) :: S) hs.own [0] 17 (by kernel_rfl) (by kernel_rfl)) rfl)) (by kernel_rfl) (by kernel_rfl) (by decide) (by decide) h_140 fun A_141 c_142 w a hs => ?_)
    replace hcl := qO hC_134 hs.own.f1.drop.drop
    refine ⟨fun _ => hcl, ?_⟩
    refine qdp (fuel := 1) [9] hs hcl hqC_134 fun a hs => ?_
    refine qsd 10 6 1 (C.slc A_141 (((([] : List Int) ++ ([v_115] : List Int)) ++ ([v_137] : List Int)).length) c_142) hs rfl fun a w hs => ?_
    refine ⟨fun h => absurd h (by decide), ?_⟩
    replace hs := hs.pick [0, 5, 8, 9, 10, 11, 26, 27, 31, 32, 33] (L' := [(0, pp b_x0), (5, pp b_20), (8, pp b_22), (9, pp b_36), (10, pp b_39), (11, vi 1), (26, .agg (vals ([C.slc A_12 (([0, 1] : List Int).length) 2, C.slc A_14 (([0, 2] : List Int).length) 2, C.slc A_16 (([1, 2] : List Int).length) 2]))), (27, vi 1), (31, .slice A_14 (([0, 2] : List Int).length) 2), (32, vi 2), (33, vi 1)]) (by kernel_rfl)
    refine Vk.dDone (by kernel_rfl) ?_
    refine hK125 _ _ ?_
    clear hK125
    refine Vk.region ?_
    refine qpk 2 [0, 5, 8, 9, 10, 11, 26, 27, 31, 32, 33] hs fun a hs => hKL122 _ _ ?_
    clear hKL122
    refine Vk.unroll fun KL143 hKL143 => ?_
    refine qsk 1 [0, 5, 8, 9, 10, 11, 26, 27, 31, 32, 33, 34] hs fun a hs => ?_
    refine Vk.seq fun K145 hK145 => ?_
    refine qcf hs ?_
    refine wp_exit ?_
    refine hK97 _ _ ?_
    clear hK97
    refine Vk.region ?_
    refine qpk 2 [0, 5, 8, 9, 10, 26, 27] hs fun a hs => hKL94 _ _ ?_
    clear hKL94
    refine Vk.unroll fun KL146 hKL146 => ?_
    refine qse 1 [(0, pp b_x0), (5, pp b_20), (8, pp b_22), (9, pp b_36), (10, pp b_39), (26, .agg (vals ([C.slc A_12 (([0, 1] : List Int).length) 2, C.slc A_14 (([0, 2] : List Int).length) 2, C.slc A_16 (([1, 2] : List Int).length) 2]))), (27, vi 2), (28, .bool true)] hs fun a hs => ?_
    refine qck hs ?_
    refine Vk.seq fun K149 hK149 => ?_
    refine wp_block ?_
    refine qsk 4 [0, 5, 8, 9, 10, 11, 12, 26, 27] hs fun a hs => ?_
    refine qsk 3 [0, 5, 8, 9, 10, 11, 26, 27, 31, 32, 33] hs fun a hs => ?_
    refine wp_block ?_
    refine Vk.unroll0 40 ?_
    refine Vk.unroll fun KL152 hKL152 => ?_
    refine qsk 1 [0, 5, 8, 9, 10, 11, 26, 27, 31, 32, 33, 34] hs fun a hs => ?_
    refine qck hs ?_
    refine Vk.seq fun K155 hK155 => ?_
    refine wp_block ?_
    refine qsr fun K156 hK156 => ?_
    obtain ⟨h_157, hm⟩ := ite_t hm
    obtain ⟨e_160, h_158, hm⟩ := bind_t hm
    obtain ⟨b_161, o_162, hA_163, h_159⟩ := Sl.elem (Ow.rowSl 0 (Ow.to (S' := rowp A_16 2 3 1 (eI .i64) ([1, 2] : List Int) :: S) hs.own [12] 17 (by kernel_rfl) (by kernel_rfl)) rfl) h_158
    refine qva (.pointer (some ⟨b_161, o_162 + 0 * 1, none⟩)) (op := (.indexAddr 28 (.tmp 31) (.tmp 33))) hs (fun o ho => run_idxSlc (k := .i64) ho (cap := 2) (len := ([1, 2] : List Int).length) ((congrArg (fun A => Value.slice A (([1, 2] : List Int).length) (2)) hA_163) ▸ (by kernel_rfl)) (by kernel_rfl) (by kernel_rfl) (idx_ok h_157 h_158) _) fun a hs => ?_
    refine qva (vi e_160) (op := (.load 3 (.tmp 35))) hs (fun o ho => run_load1 (c := ci e_160) ho (by kernel_rfl) (by kernel_rfl) (fun w ho => h_159 w ho 0 _ rfl) _ (Ow.to (S' := rowp A_16 2 3 1 (eI .i64) ([1, 2] : List Int) :: S) hs.own [12] 17 (by kernel_rfl) (by kernel_rfl))) fun a hs => ?_
    refine qpk 1 [0, 5, 8, 9, 10, 11, 14, 26, 27, 31, 32, 33] hs fun a hs => hK156 _ _ ?_
    clear hK156
    obtain ⟨C_164, hC_164⟩ := qC hs.own
    refine qdr 10 κ C_164 hs fun w hs hqC_164 => ?_
    have hcl := qO hC_164 hs.own
    refine qdp (fuel := 7) [0, 1, 2, 4] hs hcl hqC_164 fun a hs => ?_
    refine qdl 3 6 (C.slc none 0 0) hs hcl hqC_164 hC_164 rfl fun a hs => ?_
    obtain ⟨h_165, hm⟩ := ite_t hm
    refine qdx 5 b_36 0 1 hs hcl hqC_164 h_165 fun a hs => ?_
    obtain ⟨v_167, h_166, hm⟩ := bind_t hm
    refine qdi 6 7 hs hcl hqC_164 hC_164 rfl h_166 fun a hs => ?_
    refine Vk.dOnly (i := 7) (by kernel_rfl) (Vk.buildOp (sz := 1) (by_ := 8) (t := 28) (e := 3) (parts := #[(0, (.tmp 43))]) (zs := vals [ci 0]) ([v_167] : List Int) (eI .i64) (some 44) hs (by kernel_rfl) (by kernel_rfl) (by kernel_rfl) (by kernel_rfl) (by decide) rfl (fun x _ => rfl) (Nat.le_of_ble_eq_true (by kernel_rfl)) (by kernel_rfl) fun A_168 w a hs => ?_)
    replace hcl := qO hC_164 hs.own.drop
    refine ⟨fun _ => hcl, ?_⟩
    replace hs := hs.addRow none 3 1 (eI .i64)
    obtain ⟨h_171, hm⟩ := ite_t hm
    refine Vk.dOnly (i := 8) (by kernel_rfl) (Vk.appendOp (x := (.tmp 40)) (y := (.tmp 44)) (e := 3) (t := 28) (by_ := 8) (sz := 1) (enc := (eI .i64)) (A := none) (cap := 0) (xs := ([] : List Int)) (ys := ([v_167] : List Int)) (B := A_168) (c2 := 1) 0 (some 45) hs (by kernel_rfl) (by kernel_rfl) (by kernel_rfl) (by kernel_rfl) rfl (Sl.lift (fun w ho => (Ow.to (S' := rowp A_168 1 3 1 (eI .i64) ([v_167] : List Int) :: S) ho [1] 19 (by kernel_rfl) (by kernel_rfl))) (Ow.rowSl 0 (Ow.to (S' := rowp A_168 1 3 1 (eI .i64) ([v_167] : List Int) :: S) hs.own [1] 19 (by kernel_rfl) (by kernel_rfl)) rfl)) (by kernel_rfl) (by kernel_rfl) (by decide) (by decide) h_171 fun A_172 c_173 w a hs => ?_)
    replace hcl := qO hC_164 hs.own.f1.drop.drop
    refine ⟨fun _ => hcl, ?_⟩
    refine qdp (fuel := 1) [9] hs hcl hqC_164 fun a hs => ?_
    refine qsd 10 8 2 (C.slc A_172 ((([] : List Int) ++ ([v_167] : List Int)).length) c_173) hs rfl fun a w hs => ?_
    refine ⟨fun h => absurd h (by decide), ?_⟩
    replace hs := hs.pick [0, 5, 8, 9, 10, 11, 26, 27, 31, 32, 33] (L' := [(0, pp b_x0), (5, pp b_20), (8, pp b_22), (9, pp b_36), (10, pp b_39), (11, vi 2), (26, .agg (vals ([C.slc A_12 (([0, 1] : List Int).length) 2, C.slc A_14 (([0, 2] : List Int).length) 2, C.slc A_16 (([1, 2] : List Int).length) 2]))), (27, vi 2), (31, .slice A_16 (([1, 2] : List Int).length) 2), (32, vi 2), (33, vi 0)]) (by kernel_rfl)
    refine Vk.dDone (by kernel_rfl) ?_
    refine hK155 _ _ ?_
    clear hK155
    refine Vk.region ?_
    refine qpk 2 [0, 5, 8, 9, 10, 11, 26, 27, 31, 32, 33] hs fun a hs => hKL152 _ _ ?_
    clear hKL152
    refine Vk.unroll fun KL174 hKL174 => ?_
    refine qse 1 [(0, pp b_x0), (5, pp b_20), (8, pp b_22), (9, pp b_36), (10, pp b_39), (11, vi 2), (26, .agg (vals ([C.slc A_12 (([0, 1] : List Int).length) 2, C.slc A_14 (([0, 2] : List Int).length) 2, C.slc A_16 (([1, 2] : List Int).length) 2]))), (27, vi 2), (31, .slice A_16 (([1, 2] : List Int).length) 2), (32, vi 2), (33, vi 1), (34, .bool true)] hs fun a hs => ?_
    refine qck hs ?_
    refine Vk.seq fun K177 hK177 => ?_
    refine wp_block ?_
    refine qsr fun K178 hK178 => ?_
    obtain ⟨h_179, hm⟩ := ite_t hm
    obtain ⟨e_182, h_180, hm⟩ := bind_t hm
    obtain ⟨b_183, o_184, hA_185, h_181⟩ := Sl.elem (Ow.rowSl 0 (Ow.to (S' := rowp A_16 2 3 1 (eI .i64) ([1, 2] : List Int) :: S) hs.own [14] 19 (by kernel_rfl) (by kernel_rfl)) rfl) h_180
    refine qva (.pointer (some ⟨b_183, o_184 + 1 * 1, none⟩)) (op := (.indexAddr 28 (.tmp 31) (.tmp 33))) hs (fun o ho => run_idxSlc (k := .i64) ho (cap := 2) (len := ([1, 2] : List Int).length) ((congrArg (fun A => Value.slice A (([1, 2] : List Int).length) (2)) hA_185) ▸ (by kernel_rfl)) (by kernel_rfl) (by kernel_rfl) (idx_ok h_179 h_180) _) fun a hs => ?_
    refine qva (vi e_182) (op := (.load 3 (.tmp 35))) hs (fun o ho => run_load1 (c := ci e_182) ho (by kernel_rfl) (by kernel_rfl) (fun w ho => h_181 w ho 0 _ rfl) _ (Ow.to (S' := rowp A_16 2 3 1 (eI .i64) ([1, 2] : List Int) :: S) hs.own [14] 19 (by kernel_rfl) (by kernel_rfl))) fun a hs => ?_
    refine qpk 1 [0, 5, 8, 9, 10, 11, 14, 26, 27, 31, 32, 33] hs fun a hs => hK178 _ _ ?_
    clear hK178
    obtain ⟨C_186, hC_186⟩ := qC hs.own.drop
    refine qdr 10 κ C_186 hs fun w hs hqC_186 => ?_
    have hcl := qO hC_186 hs.own.drop
    refine qdp (fuel := 7) [0, 1, 2, 4] hs hcl hqC_186 fun a hs => ?_
    refine qdl 3 7 (C.slc A_172 ((([] : List Int) ++ ([v_167] : List Int)).length) c_173) hs hcl hqC_186 hC_186 rfl fun a hs => ?_
    obtain ⟨h_187, hm⟩ := ite_t hm
    refine qdx 5 b_36 0 1 hs hcl hqC_186 h_187 fun a hs => ?_
    obtain ⟨v_189, h_188, hm⟩ := bind_t hm
    refine qdi 6 8 hs hcl hqC_186 hC_186 rfl h_188 fun a hs => ?_
    refine Vk.dOnly (i := 7) (by kernel_rfl) (Vk.buildOp (sz := 1) (by_ := 8) (t := 28) (e := 3) (parts := #[(0, (.tmp 43))]) (zs := vals [ci 0]) ([v_189] : List Int) (eI .i64) (some 44) hs (by kernel_rfl) (by kernel_rfl) (by kernel_rfl) (by kernel_rfl) (by decide) rfl (fun x _ => rfl) (Nat.le_of_ble_eq_true (by kernel_rfl)) (by kernel_rfl) fun A_190 w a hs => ?_)
    replace hcl := qO hC_186 hs.own.f1.drop.drop
    refine ⟨fun _ => hcl, ?_⟩
    obtain ⟨h_192, hm⟩ := ite_t hm
    refine Vk.dOnly (i := 8) (by kernel_rfl) (Vk.appendOp (x := (.tmp 40)) (y := (.tmp 44)) (e := 3) (t := 28) (by_ := 8) (sz := 1) (enc := (eI .i64)) (A := A_172) (cap := c_173) (xs := ([] : List Int) ++ ([v_167] : List Int)) (ys := ([v_189] : List Int)) (B := A_190) (c2 := 1) 1 (some 45) hs (by kernel_rfl) (by kernel_rfl) (by kernel_rfl) (by kernel_rfl) rfl (Sl.lift (fun w ho => (Ow.to (S' := rowp A_190 1 3 1 (eI .i64) ([v_189] : List Int) :: S) ho [0] 20 (by kernel_rfl) (by kernel_rfl))) (Ow.rowSl 0 (Ow.to (S' := rowp A_190 1 3 1 (eI .i64) ([v_189] : List Int) :: S) hs.own [0] 20 (by kernel_rfl) (by kernel_rfl)) rfl)) (by kernel_rfl) (by kernel_rfl) (by decide) (by decide) h_192 fun A_193 c_194 w a hs => ?_)
    replace hcl := qO hC_186 hs.own.f1.drop.drop
    refine ⟨fun _ => hcl, ?_⟩
    refine qdp (fuel := 1) [9] hs hcl hqC_186 fun a hs => ?_
    refine qsd 10 9 2 (C.slc A_193 (((([] : List Int) ++ ([v_167] : List Int)) ++ ([v_189] : List Int)).length) c_194) hs rfl fun a w hs => ?_
    refine ⟨fun h => absurd h (by decide), ?_⟩
    replace hs := hs.pick [0, 5, 8, 9, 10, 11, 26, 27, 31, 32, 33] (L' := [(0, pp b_x0), (5, pp b_20), (8, pp b_22), (9, pp b_36), (10, pp b_39), (11, vi 2), (26, .agg (vals ([C.slc A_12 (([0, 1] : List Int).length) 2, C.slc A_14 (([0, 2] : List Int).length) 2, C.slc A_16 (([1, 2] : List Int).length) 2]))), (27, vi 2), (31, .slice A_16 (([1, 2] : List Int).length) 2), (32, vi 2), (33, vi 1)]) (by kernel_rfl)
    refine Vk.dDone (by kernel_rfl) ?_
    refine hK177 _ _ ?_
    clear hK177
    refine Vk.region ?_
    refine qpk 2 [0, 5, 8, 9, 10, 11, 26, 27, 31, 32, 33] hs fun a hs => hKL174 _ _ ?_
    clear hKL174
    refine Vk.unroll fun KL195 hKL195 => ?_
    refine qsk 1 [0, 5, 8, 9, 10, 11, 26, 27, 31, 32, 33, 34] hs fun a hs => ?_
    refine Vk.seq fun K197 hK197 => ?_
    refine qcf hs ?_
    refine wp_exit ?_
    refine hK149 _ _ ?_
    clear hK149
    refine Vk.region ?_
    refine qpk 2 [0, 5, 8, 9, 10, 26, 27] hs fun a hs => hKL146 _ _ ?_
    clear hKL146
    refine Vk.unroll fun KL198 hKL198 => ?_
    refine qsk 1 [0, 5, 8, 9, 10, 26, 27, 28] hs fun a hs => ?_
    refine Vk.seq fun K200 hK200 => ?_
    refine qcf hs ?_
    refine wp_exit ?_
    refine hK40 _ _ ?_
    clear hK40
    refine qsr fun K201 hK201 => ?_
    refine qpu 1 hs fun a hs => ?_
    refine qlw 14 hs rfl h_11 fun a hs => ?_
    refine qln 9 ([C.slc A_89 (((([] : List Int) ++ ([v_63] : List Int)) ++ ([v_85] : List Int)).length) c_90, C.slc A_141 (((([] : List Int) ++ ([v_115] : List Int)) ++ ([v_137] : List Int)).length) c_142, C.slc A_193 (((([] : List Int) ++ ([v_167] : List Int)) ++ ([v_189] : List Int)).length) c_194]) hs rfl fun a hs => ?_
    refine Vk.step (Vk.call (some 52) 112 #[pp b_x0, .agg (vals x1), .agg (vals ([C.slc A_89 (((([] : List Int) ++ ([v_63] : List Int)) ++ ([v_85] : List Int)).length) c_90, C.slc A_141 (((([] : List Int) ++ ([v_115] : List Int)) ++ ([v_137] : List Int)).length) c_142, C.slc A_193 (((([] : List Int) ++ ([v_167] : List Int)) ++ ([v_189] : List Int)).length) c_194]))] hs (by kernel_rfl) (by kernel_rfl) (by kernel_rfl) ?_)
    refine Vk.enterI [(0, pp b_x0), (1, .agg (vals x1)), (2, .agg (vals ([C.slc A_89 (((([] : List Int) ++ ([v_63] : List Int)) ++ ([v_85] : List Int)).length) c_90, C.slc A_141 (((([] : List Int) ++ ([v_115] : List Int)) ++ ([v_137] : List Int)).length) c_142, C.slc A_193 (((([] : List Int) ++ ([v_167] : List Int)) ++ ([v_189] : List Int)).length) c_194])))] Tryz.func112 rfl Tryz.ntmps112 (by kernel_rfl) (Nat.le_of_ble_eq_true (by kernel_rfl)) hs.own fun KR202 hKR202 hKP202 a hs => ?_
    refine qsr fun K203 hK203 => ?_
    refine qbx 1 75 x1 4 hs fun b_204 w a hs => ?_
    refine qbx 2 138 ([C.slc A_89 (((([] : List Int) ++ ([v_63] : List Int)) ++ ([v_85] : List Int)).length) c_90, C.slc A_141 (((([] : List Int) ++ ([v_115] : List Int)) ++ ([v_137] : List Int)).length) c_142, C.slc A_193 (((([] : List Int) ++ ([v_167] : List Int)) ++ ([v_189] : List Int)).length) c_194]) 5 hs fun b_205 w a hs => ?_
    refine qal 75 [ci 0, ci 0, ci 0] 6 hs fun b_206 w a hs => ?_
    refine qpe 0 [(0, pp b_x0), (4, pp b_204), (5, pp b_205), (6, pp b_206)] hs fun a hs => hK203 _ _ ?_
    clear hK203
    refine qsr fun K207 hK207 => ?_
    refine qlw 2 hs rfl h_11 fun a hs => ?_
    refine qal 75 [ci 0, ci 0, ci 0] 7 hs fun b_208 w a hs => ?_
    refine qsb 0 x1 hs rfl h_11 rfl fun a w hs => ?_
    refine qpe 0 [(0, pp b_x0), (5, pp b_205), (6, pp b_206), (7, pp b_208)] hs fun a hs => hK207 _ _ ?_
    clear hK207
    refine Vk.seq fun K209 hK209 => ?_
    refine qsr fun K210 hK210 => ?_
    refine qpu 1 hs fun a hs => ?_
    obtain ⟨g_211, hs⟩ := hs.unex 15 rfl
    obtain ⟨v_214, h_213, hm⟩ := bind_t hm
    refine qcl (wire_Machine_N.ok _ _ _ h_213 _ _ _ b_x0 g_211 hs.own.f15) hs fun w a hs => ?_
    rcases Bool.eq_false_or_eq_true (v_214 == 3) with hb | hb
    ·replace hm := bif_t hm hb
     obtain rfl := Vk.of_beq hb
     refine qpk 1 [0, 5, 6, 7, 13, 14] hs fun a hs => hK210 _ _ ?_
     clear hK210
     refine wp_block ?_
     refine Vk.unroll0 40 ?_
     refine Vk.unroll fun KL215 hKL215 => ?_
     refine qsk 1 [0, 5, 6, 7, 13, 14, 15] hs fun a hs => ?_
     refine qck hs ?_
     refine Vk.seq fun K218 hK218 => ?_
     refine wp_block ?_
     refine qsk 2 [0, 5, 6, 7, 8, 13, 14] hs fun a hs => ?_
     refine qsr fun K220 hK220 => ?_
     refine qpu 2 hs fun a hs => ?_
     refine qld 3 (C.slc A_89 (((([] : List Int) ++ ([v_63] : List Int)) ++ ([v_85] : List Int)).length) c_90) hs rfl fun a hs => ?_
     refine qpk 2 [0, 5, 6, 7, 8, 13, 14, 19, 20, 21] hs fun a hs => hK220 _ _ ?_
     clear hK220
     refine wp_block ?_
     refine Vk.unroll0 40 ?_
     refine Vk.unroll fun KL221 hKL221 => ?_
     refine qsk 1 [0, 5, 6, 7, 8, 13, 14, 19, 20, 21, 22] hs fun a hs => ?_
     refine qck hs ?_
     refine Vk.seq fun K224 hK224 => ?_
     refine wp_block ?_
     refine qsr fun K225 hK225 => ?_
     obtain ⟨h_226, hm⟩ := ite_t hm
     obtain ⟨e_229, h_227, hm⟩ := bind_t hm
     obtain ⟨b_230, o_231, hA_232, h_228⟩ := Sl.elem (Ow.rowSl 0 (Ow.to (S' := rowp A_89 c_90 3 1 (eI .i64) ((([] : List Int) ++ ([v_63] : List Int)) ++ ([v_85] : List Int)) :: S) hs.own [12] 24 (by kernel_rfl) (by kernel_rfl)) rfl) h_227
     refine qva (.pointer (some ⟨b_230, o_231 + 0 * 1, none⟩)) (op := (.indexAddr 28 (.tmp 19) (.tmp 21))) hs (fun o ho => run_idxSlc (k := .i64) ho (cap := c_90) (len := ((([] : List Int) ++ ([v_63] : List Int)) ++ ([v_85] : List Int)).length) ((congrArg (fun A => Value.slice A (((([] : List Int) ++ ([v_63] : List Int)) ++ ([v_85] : List Int)).length) (c_90)) hA_232) ▸ (by kernel_rfl)) (by kernel_rfl) (by kernel_rfl) (idx_ok h_226 h_227) _) fun a hs => ?_
     refine qva (vi e_229) (op := (.load 3 (.tmp 23))) hs (fun o ho => run_load1 (c := ci e_229) ho (by kernel_rfl) (by kernel_rfl) (fun w ho => h_228 w ho 0 _ rfl) _ (Ow.to (S' := rowp A_89 c_90 3 1 (eI .i64) ((([] : List Int) ++ ([v_63] : List Int)) ++ ([v_85] : List Int)) :: S) hs.own [12] 24 (by kernel_rfl) (by kernel_rfl))) fun a hs => ?_
     refine qpe 1 [(0, pp b_x0), (5, pp b_205), (6, pp b_206), (7, pp b_208), (8, vi 0), (10, vi e_229), (13, vi 3), (14, vi 0), (19, .slice A_89 (((([] : List Int) ++ ([v_63] : List Int)) ++ ([v_85] : List Int)).length) c_90), (20, vi 2), (21, vi 0)] hs fun a hs => hK225 _ _ ?_
     clear hK225
     refine Vk.region ?_
     refine qpu 6 hs fun a hs => ?_
     obtain ⟨v_234, h_233, hm⟩ := bind_t hm
     refine qli 1 hs rfl h_233 fun a hs => ?_
     refine qpu 1 hs fun a hs => ?_
     replace hs := hs.toEx (Twire_Machine.parts b_x0 v_35.2) g_211 0 rfl
     obtain ⟨v_237, h_236, hm⟩ := bind_t hm
     refine qcl (wire_Machine_Two.ok _ _ _ _ _ _ _ h_236 _ _ _ b_x0 hs.own) hs fun w a hs => ?_
     refine qpu 2 hs fun a hs => ?_
     obtain ⟨h_238, hm⟩ := ite_t hm
     refine Vk.step (Vk.store1 (b := b_208) (ty := 3) (x := (.tmp 35)) (y := (.tmp 33)) (off := 0) (ci v_237.1) 1 hs (by kernel_rfl) (by kernel_rfl) (by kernel_rfl) (by kernel_rfl) (by kernel_rfl) (by kernel_rfl) rfl h_238 fun a w hs => ?_)
     refine qpk 0 [0, 5, 6, 7, 8, 13, 14, 19, 20, 21] hs fun a hs => hK224 _ _ ?_
     clear hK224
     refine Vk.region ?_
     refine qpk 2 [0, 5, 6, 7, 8, 13, 14, 19, 20, 21] hs fun a hs => hKL221 _ _ ?_
     clear hKL221
     refine Vk.unroll fun KL239 hKL239 => ?_
     refine qsk 1 [0, 5, 6, 7, 8, 13, 14, 19, 20, 21, 22] hs fun a hs => ?_
     refine qck hs ?_
     refine Vk.seq fun K242 hK242 => ?_
     refine wp_block ?_
     refine qsr fun K243 hK243 => ?_
     obtain ⟨h_244, hm⟩ := ite_t hm
     obtain ⟨e_247, h_245, hm⟩ := bind_t hm
     obtain ⟨b_248, o_249, hA_250, h_246⟩ := Sl.elem (Ow.rowSl 0 (Ow.to (S' := rowp A_89 c_90 3 1 (eI .i64) ((([] : List Int) ++ ([v_63] : List Int)) ++ ([v_85] : List Int)) :: S) hs.own [12] 24 (by kernel_rfl) (by kernel_rfl)) rfl) h_245
     refine qva (.pointer (some ⟨b_248, o_249 + 1 * 1, none⟩)) (op := (.indexAddr 28 (.tmp 19) (.tmp 21))) hs (fun o ho => run_idxSlc (k := .i64) ho (cap := c_90) (len := ((([] : List Int) ++ ([v_63] : List Int)) ++ ([v_85] : List Int)).length) ((congrArg (fun A => Value.slice A (((([] : List Int) ++ ([v_63] : List Int)) ++ ([v_85] : List Int)).length) (c_90)) hA_250) ▸ (by kernel_rfl)) (by kernel_rfl) (by kernel_rfl) (idx_ok h_244 h_245) _) fun a hs => ?_
     refine qva (vi e_247) (op := (.load 3 (.tmp 23))) hs (fun o ho => run_load1 (c := ci e_247) ho (by kernel_rfl) (by kernel_rfl) (fun w ho => h_246 w ho 0 _ rfl) _ (Ow.to (S' := rowp A_89 c_90 3 1 (eI .i64) ((([] : List Int) ++ ([v_63] : List Int)) ++ ([v_85] : List Int)) :: S) hs.own [12] 24 (by kernel_rfl) (by kernel_rfl))) fun a hs => ?_
     refine qpk 1 [0, 5, 6, 7, 8, 10, 13, 14, 19, 20, 21] hs fun a hs => hK243 _ _ ?_
     clear hK243
     refine Vk.region ?_
     refine qpu 6 hs fun a hs => ?_
     obtain ⟨v_252, h_251, hm⟩ := bind_t hm
     refine qli 1 hs rfl h_251 fun a hs => ?_
     refine qpu 1 hs fun a hs => ?_
     obtain ⟨v_255, h_254, hm⟩ := bind_t hm
     refine qcl (wire_Machine_Two.ok _ _ _ _ _ _ _ h_254 _ _ _ b_x0 hs.own) hs fun w a hs => ?_
     refine qpu 2 hs fun a hs => ?_
     obtain ⟨h_256, hm⟩ := ite_t hm
     refine Vk.step (Vk.store1 (b := b_208) (ty := 3) (x := (.tmp 35)) (y := (.tmp 33)) (off := 0) (ci v_255.1) 1 hs (by kernel_rfl) (by kernel_rfl) (by kernel_rfl) (by kernel_rfl) (by kernel_rfl) (by kernel_rfl) rfl h_256 fun a w hs => ?_)
     refine qpk 0 [0, 5, 6, 7, 8, 13, 14, 19, 20, 21] hs fun a hs => hK242 _ _ ?_
     clear hK242
     refine Vk.region ?_
     refine qpe 2 [(0, pp b_x0), (5, pp b_205), (6, pp b_206), (7, pp b_208), (8, vi 0), (13, vi 3), (14, vi 0), (19, .slice A_89 (((([] : List Int) ++ ([v_63] : List Int)) ++ ([v_85] : List Int)).length) c_90), (20, vi 2), (21, vi 2)] hs fun a hs => hKL239 _ _ ?_
     clear hKL239
     refine Vk.unroll fun KL257 hKL257 => ?_
     refine qsk 1 [0, 5, 6, 7, 8, 13, 14, 19, 20, 21, 22] hs fun a hs => ?_
     refine Vk.seq fun K259 hK259 => ?_
     refine qcf hs ?_
     refine wp_exit ?_
     refine hK218 _ _ ?_
     clear hK218
     refine Vk.region ?_
     refine qpk 2 [0, 5, 6, 7, 13, 14] hs fun a hs => hKL215 _ _ ?_
     clear hKL215
     refine Vk.unroll fun KL260 hKL260 => ?_
     refine qsk 1 [0, 5, 6, 7, 13, 14, 15] hs fun a hs => ?_
     refine qck hs ?_
     refine Vk.seq fun K263 hK263 => ?_
     refine wp_block ?_
     refine qsk 2 [0, 5, 6, 7, 8, 13, 14] hs fun a hs => ?_
     refine qsr fun K265 hK265 => ?_
     refine qpu 2 hs fun a hs => ?_
     refine qld 3 (C.slc A_141 (((([] : List Int) ++ ([v_115] : List Int)) ++ ([v_137] : List Int)).length) c_142) hs rfl fun a hs => ?_
     refine qpk 2 [0, 5, 6, 7, 8, 13, 14, 19, 20, 21] hs fun a hs => hK265 _ _ ?_
     clear hK265
     refine wp_block ?_
     refine Vk.unroll0 40 ?_
     refine Vk.unroll fun KL266 hKL266 => ?_
     refine qse 1 [(0, pp b_x0), (5, pp b_205), (6, pp b_206), (7, pp b_208), (8, vi 1), (13, vi 3), (14, vi 1), (19, .slice A_141 (((([] : List Int) ++ ([v_115] : List Int)) ++ ([v_137] : List Int)).length) c_142), (20, vi 2), (21, vi 0), (22, .bool true)] hs fun a hs => ?_
     refine qck hs ?_
     refine Vk.seq fun K269 hK269 => ?_
     refine wp_block ?_
     refine qsr fun K270 hK270 => ?_
     obtain ⟨h_271, hm⟩ := ite_t hm
     obtain ⟨e_274, h_272, hm⟩ := bind_t hm
     obtain ⟨b_275, o_276, hA_277, h_273⟩ := Sl.elem (Ow.rowSl 0 (Ow.to (S' := rowp A_141 c_142 3 1 (eI .i64) ((([] : List Int) ++ ([v_115] : List Int)) ++ ([v_137] : List Int)) :: S) hs.own [9] 24 (by kernel_rfl) (by kernel_rfl)) rfl) h_272
     refine qva (.pointer (some ⟨b_275, o_276 + 0 * 1, none⟩)) (op := (.indexAddr 28 (.tmp 19) (.tmp 21))) hs (fun o ho => run_idxSlc (k := .i64) ho (cap := c_142) (len := ((([] : List Int) ++ ([v_115] : List Int)) ++ ([v_137] : List Int)).length) ((congrArg (fun A => Value.slice A (((([] : List Int) ++ ([v_115] : List Int)) ++ ([v_137] : List Int)).length) (c_142)) hA_277) ▸ (by kernel_rfl)) (by kernel_rfl) (by kernel_rfl) (idx_ok h_271 h_272) _) fun a hs => ?_
     refine qva (vi e_274) (op := (.load 3 (.tmp 23))) hs (fun o ho => run_load1 (c := ci e_274) ho (by kernel_rfl) (by kernel_rfl) (fun w ho => h_273 w ho 0 _ rfl) _ (Ow.to (S' := rowp A_141 c_142 3 1 (eI .i64) ((([] : List Int) ++ ([v_115] : List Int)) ++ ([v_137] : List Int)) :: S) hs.own [9] 24 (by kernel_rfl) (by kernel_rfl))) fun a hs => ?_
     refine qpk 1 [0, 5, 6, 7, 8, 10, 13, 14, 19, 20, 21] hs fun a hs => hK270 _ _ ?_
     clear hK270
     refine Vk.region ?_
     refine qpu 6 hs fun a hs => ?_
     obtain ⟨v_279, h_278, hm⟩ := bind_t hm
     refine qli 1 hs rfl h_278 fun a hs => ?_
     refine qpu 1 hs fun a hs => ?_
     obtain ⟨v_282, h_281, hm⟩ := bind_t hm
     refine qcl (wire_Machine_Two.ok _ _ _ _ _ _ _ h_281 _ _ _ b_x0 hs.own) hs fun w a hs => ?_
     refine qpu 2 hs fun a hs => ?_
     obtain ⟨h_283, hm⟩ := ite_t hm
     refine Vk.step (Vk.store1 (b := b_208) (ty := 3) (x := (.tmp 35)) (y := (.tmp 33)) (off := 1) (ci v_282.1) 1 hs (by kernel_rfl) (by kernel_rfl) (by kernel_rfl) (by kernel_rfl) (by kernel_rfl) (by kernel_rfl) rfl h_283 fun a w hs => ?_)
     refine qpk 0 [0, 5, 6, 7, 8, 13, 14, 19, 20, 21] hs fun a hs => hK269 _ _ ?_
     clear hK269
     refine Vk.region ?_
     refine qpk 2 [0, 5, 6, 7, 8, 13, 14, 19, 20, 21] hs fun a hs => hKL266 _ _ ?_
     clear hKL266
     refine Vk.unroll fun KL284 hKL284 => ?_
     refine qsk 1 [0, 5, 6, 7, 8, 13, 14, 19, 20, 21, 22] hs fun a hs => ?_
     refine qck hs ?_
     refine Vk.seq fun K287 hK287 => ?_
     refine wp_block ?_
     refine qsr fun K288 hK288 => ?_
     obtain ⟨h_289, hm⟩ := ite_t hm
     obtain ⟨e_292, h_290, hm⟩ := bind_t hm
     obtain ⟨b_293, o_294, hA_295, h_291⟩ := Sl.elem (Ow.rowSl 0 (Ow.to (S' := rowp A_141 c_142 3 1 (eI .i64) ((([] : List Int) ++ ([v_115] : List Int)) ++ ([v_137] : List Int)) :: S) hs.own [9] 24 (by kernel_rfl) (by kernel_rfl)) rfl) h_290
     refine qva (.pointer (some ⟨b_293, o_294 + 1 * 1, none⟩)) (op := (.indexAddr 28 (.tmp 19) (.tmp 21))) hs (fun o ho => run_idxSlc (k := .i64) ho (cap := c_142) (len := ((([] : List Int) ++ ([v_115] : List Int)) ++ ([v_137] : List Int)).length) ((congrArg (fun A => Value.slice A (((([] : List Int) ++ ([v_115] : List Int)) ++ ([v_137] : List Int)).length) (c_142)) hA_295) ▸ (by kernel_rfl)) (by kernel_rfl) (by kernel_rfl) (idx_ok h_289 h_290) _) fun a hs => ?_
     refine qva (vi e_292) (op := (.load 3 (.tmp 23))) hs (fun o ho => run_load1 (c := ci e_292) ho (by kernel_rfl) (by kernel_rfl) (fun w ho => h_291 w ho 0 _ rfl) _ (Ow.to (S' := rowp A_141 c_142 3 1 (eI .i64) ((([] : List Int) ++ ([v_115] : List Int)) ++ ([v_137] : List Int)) :: S) hs.own [9] 24 (by kernel_rfl) (by kernel_rfl))) fun a hs => ?_
     refine qpk 1 [0, 5, 6, 7, 8, 10, 13, 14, 19, 20, 21] hs fun a hs => hK288 _ _ ?_
     clear hK288
     refine Vk.region ?_
     refine qpu 6 hs fun a hs => ?_
     obtain ⟨v_297, h_296, hm⟩ := bind_t hm
     refine qli 1 hs rfl h_296 fun a hs => ?_
     refine qpu 1 hs fun a hs => ?_
     obtain ⟨v_300, h_299, hm⟩ := bind_t hm
     refine qcl (wire_Machine_Two.ok _ _ _ _ _ _ _ h_299 _ _ _ b_x0 hs.own) hs fun w a hs => ?_
     refine qpu 2 hs fun a hs => ?_
     obtain ⟨h_301, hm⟩ := ite_t hm
     refine Vk.step (Vk.store1 (b := b_208) (ty := 3) (x := (.tmp 35)) (y := (.tmp 33)) (off := 1) (ci v_300.1) 1 hs (by kernel_rfl) (by kernel_rfl) (by kernel_rfl) (by kernel_rfl) (by kernel_rfl) (by kernel_rfl) rfl h_301 fun a w hs => ?_)
     refine qpe 0 [(0, pp b_x0), (5, pp b_205), (6, pp b_206), (7, pp b_208), (8, vi 1), (13, vi 3), (14, vi 1), (19, .slice A_141 (((([] : List Int) ++ ([v_115] : List Int)) ++ ([v_137] : List Int)).length) c_142), (20, vi 2), (21, vi 1)] hs fun a hs => hK287 _ _ ?_
     clear hK287
     refine Vk.region ?_
     refine qpk 2 [0, 5, 6, 7, 8, 13, 14, 19, 20, 21] hs fun a hs => hKL284 _ _ ?_
     clear hKL284
     refine Vk.unroll fun KL302 hKL302 => ?_
     refine qsk 1 [0, 5, 6, 7, 8, 13, 14, 19, 20, 21, 22] hs fun a hs => ?_
     refine Vk.seq fun K304 hK304 => ?_
     refine qcf hs ?_
     refine wp_exit ?_
     refine hK263 _ _ ?_
     clear hK263
     refine Vk.region ?_
     refine qpk 2 [0, 5, 6, 7, 13, 14] hs fun a hs => hKL260 _ _ ?_
     clear hKL260
     refine Vk.unroll fun KL305 hKL305 => ?_
     refine qsk 1 [0, 5, 6, 7, 13, 14, 15] hs fun a hs => ?_
     refine qck hs ?_
     refine Vk.seq fun K308 hK308 => ?_
     refine wp_block ?_
     refine qsk 2 [0, 5, 6, 7, 8, 13, 14] hs fun a hs => ?_
     refine qsr fun K310 hK310 => ?_
     refine qpu 2 hs fun a hs => ?_
     refine qld 3 (C.slc A_193 (((([] : List Int) ++ ([v_167] : List Int)) ++ ([v_189] : List Int)).length) c_194) hs rfl fun a hs => ?_
     refine qpe 2 [(0, pp b_x0), (5, pp b_205), (6, pp b_206), (7, pp b_208), (8, vi 2), (13, vi 3), (14, vi 2), (19, .slice A_193 (((([] : List Int) ++ ([v_167] : List Int)) ++ ([v_189] : List Int)).length) c_194), (20, vi 2), (21, vi 0)] hs fun a hs => hK310 _ _ ?_
     clear hK310
     refine wp_block ?_
     refine Vk.unroll0 40 ?_
     refine Vk.unroll fun KL311 hKL311 => ?_
     refine qsk 1 [0, 5, 6, 7, 8, 13, 14, 19, 20, 21, 22] hs fun a hs => ?_
     refine qck hs ?_
     refine Vk.seq fun K314 hK314 => ?_
     refine wp_block ?_
     refine qsr fun K315 hK315 => ?_
     obtain ⟨h_316, hm⟩ := ite_t hm
     obtain ⟨e_319, h_317, hm⟩ := bind_t hm
     obtain ⟨b_320, o_321, hA_322, h_318⟩ := Sl.elem (Ow.rowSl 0 (Ow.to (S' := rowp A_193 c_194 3 1 (eI .i64) ((([] : List Int) ++ ([v_167] : List Int)) ++ ([v_189] : List Int)) :: S) hs.own [6] 24 (by kernel_rfl) (by kernel_rfl)) rfl) h_317
     refine qva (.pointer (some ⟨b_320, o_321 + 0 * 1, none⟩)) (op := (.indexAddr 28 (.tmp 19) (.tmp 21))) hs (fun o ho => run_idxSlc (k := .i64) ho (cap := c_194) (len := ((([] : List Int) ++ ([v_167] : List Int)) ++ ([v_189] : List Int)).length) ((congrArg (fun A => Value.slice A (((([] : List Int) ++ ([v_167] : List Int)) ++ ([v_189] : List Int)).length) (c_194)) hA_322) ▸ (by kernel_rfl)) (by kernel_rfl) (by kernel_rfl) (idx_ok h_316 h_317) _) fun a hs => ?_
     refine qva (vi e_319) (op := (.load 3 (.tmp 23))) hs (fun o ho => run_load1 (c := ci e_319) ho (by kernel_rfl) (by kernel_rfl) (fun w ho => h_318 w ho 0 _ rfl) _ (Ow.to (S' := rowp A_193 c_194 3 1 (eI .i64) ((([] : List Int) ++ ([v_167] : List Int)) ++ ([v_189] : List Int)) :: S) hs.own [6] 24 (by kernel_rfl) (by kernel_rfl))) fun a hs => ?_
     refine qpk 1 [0, 5, 6, 7, 8, 10, 13, 14, 19, 20, 21] hs fun a hs => hK315 _ _ ?_
     clear hK315
     refine Vk.region ?_
     refine qpu 6 hs fun a hs => ?_
     obtain ⟨v_324, h_323, hm⟩ := bind_t hm
     refine qli 1 hs rfl h_323 fun a hs => ?_
     refine qpu 1 hs fun a hs => ?_
     obtain ⟨v_327, h_326, hm⟩ := bind_t hm
     refine qcl (wire_Machine_Two.ok _ _ _ _ _ _ _ h_326 _ _ _ b_x0 hs.own) hs fun w a hs => ?_
     refine qpu 2 hs fun a hs => ?_
     obtain ⟨h_328, hm⟩ := ite_t hm
     refine Vk.step (Vk.store1 (b := b_208) (ty := 3) (x := (.tmp 35)) (y := (.tmp 33)) (off := 2) (ci v_327.1) 1 hs (by kernel_rfl) (by kernel_rfl) (by kernel_rfl) (by kernel_rfl) (by kernel_rfl) (by kernel_rfl) rfl h_328 fun a w hs => ?_)
     refine qpk 0 [0, 5, 6, 7, 8, 13, 14, 19, 20, 21] hs fun a hs => hK314 _ _ ?_
     clear hK314
     refine Vk.region ?_
     refine qpk 2 [0, 5, 6, 7, 8, 13, 14, 19, 20, 21] hs fun a hs => hKL311 _ _ ?_
     clear hKL311
     refine Vk.unroll fun KL329 hKL329 => ?_
     refine qsk 1 [0, 5, 6, 7, 8, 13, 14, 19, 20, 21, 22] hs fun a hs => ?_
     refine qck hs ?_
     refine Vk.seq fun K332 hK332 => ?_
     refine wp_block ?_
     refine qsr fun K333 hK333 => ?_
     obtain ⟨h_334, hm⟩ := ite_t hm
     obtain ⟨e_337, h_335, hm⟩ := bind_t hm
     obtain ⟨b_338, o_339, hA_340, h_336⟩ := Sl.elem (Ow.rowSl 0 (Ow.to (S' := rowp A_193 c_194 3 1 (eI .i64) ((([] : List Int) ++ ([v_167] : List Int)) ++ ([v_189] : List Int)) :: S) hs.own [6] 24 (by kernel_rfl) (by kernel_rfl)) rfl) h_335
     refine qva (.pointer (some ⟨b_338, o_339 + 1 * 1, none⟩)) (op := (.indexAddr 28 (.tmp 19) (.tmp 21))) hs (fun o ho => run_idxSlc (k := .i64) ho (cap := c_194) (len := ((([] : List Int) ++ ([v_167] : List Int)) ++ ([v_189] : List Int)).length) ((congrArg (fun A => Value.slice A (((([] : List Int) ++ ([v_167] : List Int)) ++ ([v_189] : List Int)).length) (c_194)) hA_340) ▸ (by kernel_rfl)) (by kernel_rfl) (by kernel_rfl) (idx_ok h_334 h_335) _) fun a hs => ?_
     refine qva (vi e_337) (op := (.load 3 (.tmp 23))) hs (fun o ho => run_load1 (c := ci e_337) ho (by kernel_rfl) (by kernel_rfl) (fun w ho => h_336 w ho 0 _ rfl) _ (Ow.to (S' := rowp A_193 c_194 3 1 (eI .i64) ((([] : List Int) ++ ([v_167] : List Int)) ++ ([v_189] : List Int)) :: S) hs.own [6] 24 (by kernel_rfl) (by kernel_rfl))) fun a hs => ?_
     refine qpe 1 [(0, pp b_x0), (5, pp b_205), (6, pp b_206), (7, pp b_208), (8, vi 2), (10, vi e_337), (13, vi 3), (14, vi 2), (19, .slice A_193 (((([] : List Int) ++ ([v_167] : List Int)) ++ ([v_189] : List Int)).length) c_194), (20, vi 2), (21, vi 1)] hs fun a hs => hK333 _ _ ?_
     clear hK333
     refine Vk.region ?_
     refine qpu 6 hs fun a hs => ?_
     obtain ⟨v_342, h_341, hm⟩ := bind_t hm
     refine qli 1 hs rfl h_341 fun a hs => ?_
     refine qpu 1 hs fun a hs => ?_
     obtain ⟨v_345, h_344, hm⟩ := bind_t hm
     refine qcl (wire_Machine_Two.ok _ _ _ _ _ _ _ h_344 _ _ _ b_x0 hs.own) hs fun w a hs => ?_
     refine qpu 2 hs fun a hs => ?_
     obtain ⟨h_346, hm⟩ := ite_t hm
     refine Vk.step (Vk.store1 (b := b_208) (ty := 3) (x := (.tmp 35)) (y := (.tmp 33)) (off := 2) (ci v_345.1) 1 hs (by kernel_rfl) (by kernel_rfl) (by kernel_rfl) (by kernel_rfl) (by kernel_rfl) (by kernel_rfl) rfl h_346 fun a w hs => ?_)
     refine qpk 0 [0, 5, 6, 7, 8, 13, 14, 19, 20, 21] hs fun a hs => hK332 _ _ ?_
     clear hK332
     refine Vk.region ?_
     refine qpk 2 [0, 5, 6, 7, 8, 13, 14, 19, 20, 21] hs fun a hs => hKL329 _ _ ?_
     clear hKL329
     refine Vk.unroll fun KL347 hKL347 => ?_
     refine qsk 1 [0, 5, 6, 7, 8, 13, 14, 19, 20, 21, 22] hs fun a hs => ?_
     refine Vk.seq fun K349 hK349 => ?_
     refine qcf hs ?_
     refine wp_exit ?_
     refine hK308 _ _ ?_
     clear hK308
     refine Vk.region ?_
     refine qpk 2 [0, 5, 6, 7, 13, 14] hs fun a hs => hKL305 _ _ ?_
     clear hKL305
     refine Vk.unroll fun KL350 hKL350 => ?_
     refine qsk 1 [0, 5, 6, 7, 13, 14, 15] hs fun a hs => ?_
     refine Vk.seq fun K352 hK352 => ?_
     refine qcf hs ?_
     refine wp_exit ?_
     refine hK209 _ _ ?_
     clear hK209
     refine qsr fun K353 hK353 => ?_
     refine qva (.agg (vals ((((((x1.set (0) (ci v_237.1)).set (0) (ci v_255.1)).set (1) (ci v_282.1)).set (1) (ci v_300.1)).set (2) (ci v_327.1)).set (2) (ci v_345.1)))) (op := (.load 75 (.tmp 7))) hs (fun o ho => run_loadN (cs := ((((((x1.set (0) (ci v_237.1)).set (0) (ci v_255.1)).set (1) (ci v_282.1)).set (1) (ci v_300.1)).set (2) (ci v_327.1)).set (2) (ci v_345.1))) ho (by kernel_rfl) (by kernel_rfl) (List.length_set.trans (List.length_set.trans (List.length_set.trans (List.length_set.trans (List.length_set.trans (List.length_set.trans h_11)))))) (CellsAt.all 1 rfl) _ hs.own) fun a hs => ?_
     refine Vk.step (Vk.storeA (b := b_206) (ty := 75) (x := (.tmp 6)) (y := (.tmp 38)) (sz := 3) ((((((x1.set (0) (ci v_237.1)).set (0) (ci v_255.1)).set (1) (ci v_282.1)).set (1) (ci v_300.1)).set (2) (ci v_327.1)).set (2) (ci v_345.1)) 2 hs (by kernel_rfl) (by kernel_rfl) (by kernel_rfl) (by kernel_rfl) (by kernel_rfl) (List.length_set.trans (List.length_set.trans (List.length_set.trans (List.length_set.trans (List.length_set.trans (List.length_set.trans h_11)))))) (by kernel_rfl) rfl (Eq.trans (b := 3) (List.length_set.trans (List.length_set.trans (List.length_set.trans (List.length_set.trans (List.length_set.trans (List.length_set.trans h_11)))))) (Eq.symm rfl)) fun a w hs => ?_)
     refine qpe 0 [(6, pp b_206)] hs fun a hs => hK353 _ _ ?_
     clear hK353
     refine wp_ret ?_
     refine hKP202 _ _ ?_
     refine hKR202 _ _ ?_
     refine Vk.retC (P := Tryz.prog) (fn := Tryz.f112) ((((((x1.set (0) (ci v_237.1)).set (0) (ci v_255.1)).set (1) (ci v_282.1)).set (1) (ci v_300.1)).set (2) (ci v_327.1)).set (2) (ci v_345.1)) hs rfl (by kernel_rfl) (sz := 3) (by kernel_rfl) (List.length_set.trans (List.length_set.trans (List.length_set.trans (List.length_set.trans (List.length_set.trans (List.length_set.trans h_11)))))) (CellsAt.all 2 rfl) ⟨_, _, _, rfl, hs.own, fun a hs => ?_⟩
     refine qal 75 [ci 0, ci 0, ci 0] 15 hs fun b_354 w a hs => ?_
     refine Vk.step (Vk.storeA (b := b_354) (ty := 75) (x := (.tmp 15)) (y := (.tmp 52)) (sz := 3) ((((((x1.set (0) (ci v_237.1)).set (0) (ci v_255.1)).set (1) (ci v_282.1)).set (1) (ci v_300.1)).set (2) (ci v_327.1)).set (2) (ci v_345.1)) 0 hs (by kernel_rfl) (by kernel_rfl) (by kernel_rfl) (by kernel_rfl) (by kernel_rfl) (List.length_set.trans (List.length_set.trans (List.length_set.trans (List.length_set.trans (List.length_set.trans (List.length_set.trans h_11)))))) (by kernel_rfl) rfl (Eq.trans (b := 3) (List.length_set.trans (List.length_set.trans (List.length_set.trans (List.length_set.trans (List.length_set.trans (List.length_set.trans h_11)))))) (Eq.symm rfl)) fun a w hs => ?_)
     refine qpk 0 [0, 8, 15] hs fun a hs => hK201 _ _ ?_
     clear hK201
     refine qsr fun K355 hK355 => ?_
     refine qpu 1 hs fun a hs => ?_
     obtain ⟨v_358, h_357, hm⟩ := bind_t hm
     refine qcl (wire_Machine_End.ok _ _ _ h_357 _ _ _ b_x0 hs.own.f1) hs fun w a hs => ?_
     refine qpk 0 [8, 15] hs fun a hs => hK355 _ _ ?_
     clear hK355
     refine qsr fun K359 hK359 => ?_
     refine qva (.agg (vals ((((((x1.set (0) (ci v_237.1)).set (0) (ci v_255.1)).set (1) (ci v_282.1)).set (1) (ci v_300.1)).set (2) (ci v_327.1)).set (2) (ci v_345.1)))) (op := (.load 75 (.tmp 15))) hs (fun o ho => run_loadN (cs := ((((((x1.set (0) (ci v_237.1)).set (0) (ci v_255.1)).set (1) (ci v_282.1)).set (1) (ci v_300.1)).set (2) (ci v_327.1)).set (2) (ci v_345.1))) ho (by kernel_rfl) (by kernel_rfl) (List.length_set.trans (List.length_set.trans (List.length_set.trans (List.length_set.trans (List.length_set.trans (List.length_set.trans h_11)))))) (CellsAt.all 1 rfl) _ hs.own) fun a hs => ?_
     refine Vk.step (Vk.storeA (b := b_22) (ty := 75) (x := (.tmp 8)) (y := (.tmp 55)) (sz := 3) ((((((x1.set (0) (ci v_237.1)).set (0) (ci v_255.1)).set (1) (ci v_282.1)).set (1) (ci v_300.1)).set (2) (ci v_327.1)).set (2) (ci v_345.1)) 17 hs (by kernel_rfl) (by kernel_rfl) (by kernel_rfl) (by kernel_rfl) (by kernel_rfl) (List.length_set.trans (List.length_set.trans (List.length_set.trans (List.length_set.trans (List.length_set.trans (List.length_set.trans h_11)))))) (by kernel_rfl) rfl (Eq.trans (b := 3) (List.length_set.trans (List.length_set.trans (List.length_set.trans (List.length_set.trans (List.length_set.trans (List.length_set.trans h_11)))))) (Eq.symm rfl)) fun a w hs => ?_)
     refine qpe 0 [(8, pp b_22)] hs fun a hs => hK359 _ _ ?_
     clear hK359
     refine wp_ret ?_
     refine hKP18 _ _ ?_
     refine hKR18 _ _ ?_
     refine Vk.retC (P := Tryz.prog) (fn := Tryz.f92) ((((((x1.set (0) (ci v_237.1)).set (0) (ci v_255.1)).set (1) (ci v_282.1)).set (1) (ci v_300.1)).set (2) (ci v_327.1)).set (2) (ci v_345.1)) hs rfl (by kernel_rfl) (sz := 3) (by kernel_rfl) (List.length_set.trans (List.length_set.trans (List.length_set.trans (List.length_set.trans (List.length_set.trans (List.length_set.trans h_11)))))) (CellsAt.all 17 rfl) ⟨_, _, _, rfl, hs.own, fun a hs => ?_⟩
     refine Vk.step (Vk.storeA (b := b_3) (ty := 75) (x := (.tmp 4)) (y := (.tmp 14)) (sz := 3) ((((((x1.set (0) (ci v_237.1)).set (0) (ci v_255.1)).set (1) (ci v_282.1)).set (1) (ci v_300.1)).set (2) (ci v_327.1)).set (2) (ci v_345.1)) 23 hs (by kernel_rfl) (by kernel_rfl) (by kernel_rfl) (by kernel_rfl) (by kernel_rfl) (List.length_set.trans (List.length_set.trans (List.length_set.trans (List.length_set.trans (List.length_set.trans (List.length_set.trans h_11)))))) (by kernel_rfl) rfl (Eq.trans (b := 3) (List.length_set.trans (List.length_set.trans (List.length_set.trans (List.length_set.trans (List.length_set.trans (List.length_set.trans h_11)))))) (Eq.symm rfl)) fun a w hs => ?_)
     refine qpe 0 [(4, pp b_3)] hs fun a hs => hK10 _ _ ?_
     clear hK10
     refine wp_ret ?_
     exact Vk.retC ((((((x1.set (0) (ci v_237.1)).set (0) (ci v_255.1)).set (1) (ci v_282.1)).set (1) (ci v_300.1)).set (2) (ci v_327.1)).set (2) (ci v_345.1)) hs rfl (by kernel_rfl) (sz := 3) (by kernel_rfl) (List.length_set.trans (List.length_set.trans (List.length_set.trans (List.length_set.trans (List.length_set.trans (List.length_set.trans h_11)))))) (CellsAt.all 23 rfl) (hRR ▸ by cases hm; exact ⟨rfl, (hs.own.too [0] 25)⟩)
    ·replace hm := bif_f hm hb
     cases hm
   ·replace hm := bif_f hm hb
    cases hm
  ·replace hm := bif_f hm hb
   cases hm


abbrev times_Dom.R (κ : Ctx) (S : List HP) (x0 : Twire_Machine) (x1 : Cells) (x2 : Cells) (b_x0 : Nat) (r : (Cells × Twire_Machine)) : Ending → World → Prop := fun e w' => e = .returned (.agg (vals r.1)) ∧ Ow κ w' (Twire_Machine.own b_x0 r.2 :: S)
def times_Dom.m (k : Nat) (x0 : Twire_Machine) (x1 : Cells) (x2 : Cells) : Option (Cells × Twire_Machine) := (wire_Machine_N.m k x0).bind fun v_10 => (bif v_10 == 2 then (wire_Machine_Begin.m k x0 3).bind fun v_14 => (if x1.length = 3 then (if x2.length = 3 then (wire_Machine_N.m k v_14).bind fun v_29 => (bif v_29 == 2 then (wire_Machine_Rand.m k v_14 (-1)).bind fun v_45 => (getI .i64 x1 (0)).bind fun v_76 => (getI .i64 x2 (0)).bind fun v_78 => (wire_Machine_Two.m k v_45.2 7 0 v_76 v_78).bind fun v_81 => (getI .i64 x1 (0)).bind fun v_89 => (getI .i64 x2 (1)).bind fun v_91 => (wire_Machine_Two.m k v_81.2 7 0 v_89 v_91).bind fun v_94 => (getI .i64 x1 (1)).bind fun v_111 => (getI .i64 x2 (0)).bind fun v_113 => (wire_Machine_Two.m k v_94.2 7 1 v_111 v_113).bind fun v_116 => (getI .i64 x1 (1)).bind fun v_124 => (getI .i64 x2 (1)).bind fun v_126 => (wire_Machine_Two.m k v_116.2 7 1 v_124 v_126).bind fun v_129 => (wire_Machine_N.m k v_129.2).bind fun v_147 => (bif v_147 == 2 then (wire_Machine_Two.m k v_129.2 5 0 v_94.1 v_45.1).bind fun v_179 => (wire_Machine_Two.m k v_179.2 5 0 v_81.1 v_179.1).bind fun v_182 => (wire_Machine_Two.m k v_182.2 5 1 v_116.1 v_45.1).bind fun v_209 => (wire_Machine_Two.m k v_209.2 5 1 v_129.1 v_209.1).bind fun v_212 => (wire_Machine_End.m k v_212.2).bind fun v_230 => some ([ci v_182.1, ci v_212.1, ci (-1)], v_230) else none) else none) else none) else none) else (bif v_10 == 3 then (wire_Machine_Begin.m k x0 3).bind fun v_235 => (if x1.length = 3 then (if x2.length = 3 then (wire_Machine_N.m k v_235).bind fun v_250 => (bif v_250 == 3 then (wire_Machine_Rand.m k v_235 (-1)).bind fun v_266 => (wire_Machine_Rand.m k v_266.2 (-1)).bind fun v_274 => (wire_Machine_Rand.m k v_274.2 (-1)).bind fun v_291 => (getI .i64 x1 (0)).bind fun v_322 => (getI .i64 x2 (0)).bind fun v_324 => (wire_Machine_Two.m k v_291.2 7 0 v_322 v_324).bind fun v_327 => (getI .i64 x1 (0)).bind fun v_335 => (getI .i64 x2 (1)).bind fun v_337 => (wire_Machine_Two.m k v_327.2 7 0 v_335 v_337).bind fun v_340 => (getI .i64 x1 (0)).bind fun v_348 => (getI .i64 x2 (2)).bind fun v_350 => (wire_Machine_Two.m k v_340.2 7 0 v_348 v_350).bind fun v_353 => (getI .i64 x1 (1)).bind fun v_370 => (getI .i64 x2 (0)).bind fun v_372 => (wire_Machine_Two.m k v_353.2 7 1 v_370 v_372).bind fun v_375 => (getI .i64 x1 (1)).bind fun v_383 => (getI .i64 x2 (1)).bind fun v_385 => (wire_Machine_Two.m k v_375.2 7 1 v_383 v_385).bind fun v_388 => (getI .i64 x1 (1)).bind fun v_396 => (getI .i64 x2 (2)).bind fun v_398 => (wire_Machine_Two.m k v_388.2 7 1 v_396 v_398).bind fun v_401 => (getI .i64 x1 (2)).bind fun v_418 => (getI .i64 x2 (0)).bind fun v_420 => (wire_Machine_Two.m k v_401.2 7 2 v_418 v_420).bind fun v_423 => (getI .i64 x1 (2)).bind fun v_431 => (getI .i64 x2 (1)).bind fun v_433 => (wire_Machine_Two.m k v_423.2 7 2 v_431 v_433).bind fun v_436 => (getI .i64 x1 (2)).bind fun v_444 => (getI .i64 x2 (2)).bind fun v_446 => (wire_Machine_Two.m k v_436.2 7 2 v_444 v_446).bind fun v_449 => (wire_Machine_N.m k v_449.2).bind fun v_467 => (bif v_467 == 3 then (wire_Machine_Two.m k v_449.2 5 0 v_340.1 v_266.1).bind fun v_499 => (wire_Machine_Two.m k v_499.2 5 0 v_327.1 v_499.1).bind fun v_502 => (wire_Machine_Two.m k v_502.2 5 0 v_353.1 v_274.1).bind fun v_519 => (wire_Machine_Two.m k v_519.2 5 0 v_502.1 v_519.1).bind fun v_522 => (wire_Machine_Two.m k v_522.2 5 1 v_375.1 v_266.1).bind fun v_549 => (wire_Machine_Two.m k v_549.2 5 1 v_388.1 v_549.1).bind fun v_552 => (wire_Machine_Two.m k v_552.2 5 1 v_401.1 v_291.1).bind fun v_575 => (wire_Machine_Two.m k v_575.2 5 1 v_552.1 v_575.1).bind fun v_578 => (wire_Machine_Two.m k v_578.2 5 2 v_423.1 v_274.1).bind fun v_605 => (wire_Machine_Two.m k v_605.2 5 2 v_449.1 v_605.1).bind fun v_608 => (wire_Machine_Two.m k v_608.2 5 2 v_436.1 v_291.1).bind fun v_625 => (wire_Machine_Two.m k v_625.2 5 2 v_608.1 v_625.1).bind fun v_628 => (wire_Machine_End.m k v_628.2).bind fun v_646 => some ([ci v_522.1, ci v_578.1, ci v_628.1], v_646) else none) else none) else none) else none) else none))

set_option maxRecDepth 100000 in
set_option maxHeartbeats 4000000 in
theorem times_Dom.ok (k : Nat) (x0 : Twire_Machine) (x1 : Cells) (x2 : Cells) (r : (Cells × Twire_Machine)) (hm : times_Dom.m k x0 x1 x2 = some r) (κ : Ctx) (w : World) (S : List HP) (b_x0 : Nat) (ho : Ow κ w (Twire_Machine.own b_x0 x0 :: S)) :
  Calls Tryz.prog 109 #[pp b_x0, .agg (vals x1), .agg (vals x2)] w (times_Dom.R κ S x0 x1 x2 b_x0 r) := by
 unfold times_Dom.m at hm
 generalize hRR : times_Dom.R κ S x0 x1 x2 b_x0 r = RR
 refine qen [(0, pp b_x0), (1, .agg (vals x1)), (2, .agg (vals x2))] Tryz.func109 Tryz.ntmps109 ho fun a hs => ?_
 refine qsr fun K1 hK1 => ?_
 refine qbx 1 75 x1 4 hs fun b_2 w a hs => ?_
 refine qbx 2 75 x2 5 hs fun b_3 w a hs => ?_
 refine qal 75 [ci 0, ci 0, ci 0] 6 hs fun b_4 w a hs => ?_
 refine qpe 0 [(0, pp b_x0), (4, pp b_2), (5, pp b_3), (6, pp b_4)] hs fun a hs => hK1 _ _ ?_
 clear hK1
 refine Vk.seq fun K5 hK5 => ?_
 refine qsr fun K6 hK6 => ?_
 refine qpu 1 hs fun a hs => ?_
 obtain ⟨g_7, hs⟩ := hs.unex 3 rfl
 obtain ⟨v_10, h_9, hm⟩ := bind_t hm
 refine qcl (wire_Machine_N.ok _ _ _ h_9 _ _ _ b_x0 g_7 hs.own.f3) hs fun w a hs => ?_
 rcases Bool.eq_false_or_eq_true (v_10 == 2) with hb | hb
 ·replace hm := bif_t hm hb
  obtain rfl := Vk.of_beq hb
  refine qpk 1 [0, 4, 5, 6, 11] hs fun a hs => hK6 _ _ ?_
  refine qcf hs ?_
  refine wp_skip ?_
  refine hK5 _ _ ?_
  refine qsr fun K11 hK11 => ?_
  refine qpu 1 hs fun a hs => ?_
  replace hs := hs.toEx (Twire_Machine.parts b_x0 x0) g_7 0 rfl
  obtain ⟨v_14, h_13, hm⟩ := bind_t hm
  refine qcl (wire_Machine_Begin.ok _ _ _ _ h_13 _ _ _ b_x0 hs.own) hs fun w a hs => ?_
  refine qpk 0 [0, 4, 5, 6] hs fun a hs => hK11 _ _ ?_
  clear hK11
  refine qsr fun K15 hK15 => ?_
  refine qpu 1 hs fun a hs => ?_
  obtain ⟨h_16, hm⟩ := ite_t hm
  refine qlw 3 hs rfl h_16 fun a hs => ?_
  obtain ⟨h_17, hm⟩ := ite_t hm
  refine qlw 2 hs rfl h_17 fun a hs => ?_
  refine Vk.step (Vk.call (some 19) 132 #[pp b_x0, .agg (vals x1), .agg (vals x2)] hs (by kernel_rfl) (by kernel_rfl) (by kernel_rfl) ?_)
  refine Vk.enterI [(0, pp b_x0), (1, .agg (vals x1)), (2, .agg (vals x2))] Tryz.func132 rfl Tryz.ntmps132 (by kernel_rfl) (Nat.le_of_ble_eq_true (by kernel_rfl)) hs.own fun KR18 hKR18 hKP18 a hs => ?_
  refine qsr fun K19 hK19 => ?_
  refine qbx 1 75 x1 4 hs fun b_20 w a hs => ?_
  refine qbx 2 75 x2 5 hs fun b_21 w a hs => ?_
  refine qpk 1 [0, 4, 5] hs fun a hs => hK19 _ _ ?_
  clear hK19
  refine qsr fun K22 hK22 => ?_
  refine qpu 1 hs fun a hs => ?_
  refine Vk.step (Vk.mapOp 14 197 hs (by kernel_rfl) (by kernel_rfl) fun b_23 w a hs => ?_)
  refine qpu 1 hs fun a hs => ?_
  refine qbx 15 200 [cp b_x0, C.map (some b_23), ci 0, ci 0, ci 0, ci 0, ci 0, ci 0, ci 0, ci 0, ci 0] 16 hs fun b_24 w a hs => ?_
  refine qpe 1 [(0, pp b_x0), (4, pp b_20), (5, pp b_21), (7, pp b_24)] hs fun a hs => hK22 _ _ ?_
  clear hK22
  refine qsr fun K25 hK25 => ?_
  refine qpu 1 hs fun a hs => ?_
  obtain ⟨g_26, hs⟩ := hs.unex 4 rfl
  obtain ⟨v_29, h_28, hm⟩ := bind_t hm
  refine qcl (wire_Machine_N.ok _ _ _ h_28 _ _ _ b_x0 g_26 hs.own.f4) hs fun w a hs => ?_
  rcases Bool.eq_false_or_eq_true (v_29 == 2) with hb | hb
  ·replace hm := bif_t hm hb
   obtain rfl := Vk.of_beq hb
   refine qpk 1 [0, 4, 5, 7, 8] hs fun a hs => hK25 _ _ ?_
   clear hK25
   refine Vk.seq fun K30 hK30 => ?_
   refine qsk 2 [0, 4, 5, 7, 8, 19, 20] hs fun a hs => ?_
   refine wp_block ?_
   refine Vk.unroll0 40 ?_
   refine Vk.unroll fun KL32 hKL32 => ?_
   refine qsk 1 [0, 4, 5, 7, 8, 19, 20, 21] hs fun a hs => ?_
   refine qck hs ?_
   refine Vk.seq fun K35 hK35 => ?_
   refine wp_block ?_
   refine qsk 2 [0, 4, 5, 7, 8, 9, 19, 20] hs fun a hs => ?_
   refine qsk 3 [0, 4, 5, 7, 8, 9, 10, 19, 20] hs fun a hs => ?_
   refine wp_block ?_
   refine Vk.unroll0 40 ?_
   refine Vk.unroll fun KL38 hKL38 => ?_
   refine Vk.seq fun K39 hK39 => ?_
   refine qse 3 [(0, pp b_x0), (4, pp b_20), (5, pp b_21), (7, pp b_24), (8, vi 2), (9, vi 0), (10, vi 1), (19, vi 2), (20, vi 0), (27, .bool true)] hs fun a hs => ?_
   refine qct hs ?_
   refine wp_skip ?_
   refine hK39 _ _ ?_
   clear hK39
   refine Vk.seq fun K41 hK41 => ?_
   refine wp_block ?_
   obtain ⟨C_42, hC_42⟩ := qC hs.own.drop
   refine qdr 9 κ C_42 hs fun w hs hqC_42 => ?_
   have hcl := qO hC_42 hs.own.drop
   refine qdp (fuel := 3) [0, 1, 2, 4, 5, 6, 7] hs hcl hqC_42 fun a hs => ?_
   refine qdl 3 0 (C.map (some b_23)) hs hcl hqC_42 hC_42 rfl fun a hs => ?_
   replace hs := hs.toEx (Twire_Machine.parts b_x0 v_14) g_26 0 rfl
   obtain ⟨v_45, h_44, hm⟩ := bind_t hm
   refine qdc 8 (wire_Machine_Rand.ok _ _ _ _ h_44 _ _ _ b_x0 hs.own) hs fun w a hs => ?_
   replace hcl := qO hC_42 hs.own.drop
   refine ⟨fun _ => hcl, ?_⟩
   refine Vk.dOnly (i := 9) (by kernel_rfl) (Vk.updateOp (t := 197) (xm := (.tmp 33)) (xk := (.tmp 36)) (xv := (.tmp 38)) (b := b_23) (es' := #[⟨.agg (vals [ci 0, ci 1]), vi v_45.1, 0⟩]) (clock' := 1) (.agg (vals [ci 0, ci 1])) (vi v_45.1) 2 hs (by kernel_rfl) (by kernel_rfl) (by kernel_rfl) (by kernel_rfl) (by kernel_rfl) rfl (by kernel_rfl) fun a w hs => ?_)
   refine ⟨fun h => absurd h (by decide), ?_⟩
   replace hs := hs.pick [0, 4, 5, 7, 8, 9, 10, 19, 20] (L' := [(0, pp b_x0), (4, pp b_20), (5, pp b_21), (7, pp b_24), (8, vi 2), (9, vi 0), (10, vi 1), (19, vi 2), (20, vi 0)]) (by kernel_rfl)
   refine Vk.dDone (by kernel_rfl) ?_
   refine hK41 _ _ ?_
   clear hK41
   refine Vk.region ?_
   refine qpk 3 [0, 4, 5, 7, 8, 9, 10, 19, 20] hs fun a hs => hKL38 _ _ ?_
   clear hKL38
   refine Vk.unroll fun KL46 hKL46 => ?_
   refine Vk.seq fun K47 hK47 => ?_
   refine qsk 3 [0, 4, 5, 7, 8, 9, 10, 19, 20, 27] hs fun a hs => ?_
   refine qcf hs ?_
   refine wp_exit ?_
   refine hK35 _ _ ?_
   clear hK35
   refine Vk.region ?_
   refine qpk 2 [0, 4, 5, 7, 8, 19, 20] hs fun a hs => hKL32 _ _ ?_
   clear hKL32
   refine Vk.unroll fun KL49 hKL49 => ?_
   refine qsk 1 [0, 4, 5, 7, 8, 19, 20, 21] hs fun a hs => ?_
   refine qck hs ?_
   refine Vk.seq fun K52 hK52 => ?_
   refine wp_block ?_
   refine qsk 2 [0, 4, 5, 7, 8, 9, 19, 20] hs fun a hs => ?_
   refine qse 3 [(0, pp b_x0), (4, pp b_20), (5, pp b_21), (7, pp b_24), (8, vi 2), (9, vi 1), (10, vi 2), (19, vi 2), (20, vi 1)] hs fun a hs => ?_
   refine wp_block ?_
   refine Vk.unroll0 40 ?_
   refine Vk.unroll fun KL55 hKL55 => ?_
   refine Vk.seq fun K56 hK56 => ?_
   refine qsk 3 [0, 4, 5, 7, 8, 9, 10, 19, 20, 27] hs fun a hs => ?_
   refine qcf hs ?_
   refine wp_exit ?_
   refine hK52 _ _ ?_
   clear hK52
   refine Vk.region ?_
   refine qpk 2 [0, 4, 5, 7, 8, 19, 20] hs fun a hs => hKL49 _ _ ?_
   clear hKL49
   refine Vk.unroll fun KL58 hKL58 => ?_
   refine qsk 1 [0, 4, 5, 7, 8, 19, 20, 21] hs fun a hs => ?_
   refine Vk.seq fun K60 hK60 => ?_
   refine qcf hs ?_
   refine wp_exit ?_
   refine hK30 _ _ ?_
   clear hK30
   refine Vk.seq fun K61 hK61 => ?_
   refine qsk 2 [0, 4, 5, 7, 8, 40, 41] hs fun a hs => ?_
   refine wp_block ?_
   refine Vk.unroll0 40 ?_
   refine Vk.unroll fun KL63 hKL63 => ?_
   refine qsk 1 [0, 4, 5, 7, 8, 40, 41, 42] hs fun a hs => ?_
   refine qck hs ?_
   refine Vk.seq fun K66 hK66 => ?_
   refine wp_block ?_
   refine qse 2 [(0, pp b_x0), (4, pp b_20), (5, pp b_21), (7, pp b_24), (8, vi 2), (11, vi 0), (40, vi 2), (41, vi 0)] hs fun a hs => ?_
   refine qsk 2 [0, 4, 5, 7, 8, 11, 40, 41, 44, 45] hs fun a hs => ?_
   refine wp_block ?_
   refine Vk.unroll0 40 ?_
   refine Vk.unroll fun KL69 hKL69 => ?_
   refine qsk 1 [0, 4, 5, 7, 8, 11, 40, 41, 44, 45, 46] hs fun a hs => ?_
   refine qck hs ?_
   refine Vk.seq fun K72 hK72 => ?_
   refine wp_block ?_
   refine qsk 2 [0, 4, 5, 7, 8, 11, 12, 40, 41, 44, 45] hs fun a hs => ?_
   obtain ⟨C_74, hC_74⟩ := qC hs.own.drop
   refine qdr 18 κ C_74 hs fun w hs hqC_74 => ?_
   have hcl := qO hC_74 hs.own.drop
   refine qdp (fuel := 5) [0, 1, 2, 3, 4, 5, 6, 7, 9, 10, 11, 14, 15, 16] hs hcl hqC_74 fun a hs => ?_
   obtain ⟨v_76, h_75, hm⟩ := bind_t hm
   refine qdi 8 3 hs hcl hqC_74 hC_74 rfl h_75 fun a hs => ?_
   obtain ⟨v_78, h_77, hm⟩ := bind_t hm
   refine qdi 12 2 hs hcl hqC_74 hC_74 rfl h_77 fun a hs => ?_
   obtain ⟨v_81, h_80, hm⟩ := bind_t hm
   refine qdc 13 (wire_Machine_Two.ok _ _ _ _ _ _ _ h_80 _ _ _ b_x0 hs.own) hs fun w a hs => ?_
   replace hcl := qO hC_74 hs.own.drop
   refine ⟨fun _ => hcl, ?_⟩
   refine qdp (fuel := 1) [17] hs hcl hqC_74 fun a hs => ?_
   refine qsd 18 1 2 (ci v_81.1) hs rfl fun a w hs => ?_
   refine ⟨fun h => absurd h (by decide), ?_⟩
   replace hs := hs.pick [0, 4, 5, 7, 8, 11, 40, 41, 44, 45] (L' := [(0, pp b_x0), (4, pp b_20), (5, pp b_21), (7, pp b_24), (8, vi 2), (11, vi 0), (40, vi 2), (41, vi 0), (44, vi 2), (45, vi 0)]) (by kernel_rfl)
   refine Vk.dDone (by kernel_rfl) ?_
   refine hK72 _ _ ?_
   clear hK72
   refine Vk.region ?_
   refine qpk 2 [0, 4, 5, 7, 8, 11, 40, 41, 44, 45] hs fun a hs => hKL69 _ _ ?_
   clear hKL69
   refine Vk.unroll fun KL82 hKL82 => ?_
   refine qsk 1 [0, 4, 5, 7, 8, 11, 40, 41, 44, 45, 46] hs fun a hs => ?_
   refine qck hs ?_
   refine Vk.seq fun K85 hK85 => ?_
   refine wp_block ?_
   refine qse 2 [(0, pp b_x0), (4, pp b_20), (5, pp b_21), (7, pp b_24), (8, vi 2), (11, vi 0), (12, vi 1), (40, vi 2), (41, vi 0), (44, vi 2), (45, vi 1)] hs fun a hs => ?_
   obtain ⟨C_87, hC_87⟩ := qC hs.own.drop
   refine qdr 18 κ C_87 hs fun w hs hqC_87 => ?_
   have hcl := qO hC_87 hs.own.drop
   refine qdp (fuel := 5) [0, 1, 2, 3, 4, 5, 6, 7, 9, 10, 11, 14, 15, 16] hs hcl hqC_87 fun a hs => ?_
   obtain ⟨v_89, h_88, hm⟩ := bind_t hm
   refine qdi 8 3 hs hcl hqC_87 hC_87 rfl h_88 fun a hs => ?_
   obtain ⟨v_91, h_90, hm⟩ := bind_t hm
   refine qdi 12 2 hs hcl hqC_87 hC_87 rfl h_90 fun a hs => ?_
   obtain ⟨v_94, h_93, hm⟩ := bind_t hm
   refine qdc 13 (wire_Machine_Two.ok _ _ _ _ _ _ _ h_93 _ _ _ b_x0 hs.own) hs fun w a hs => ?_
   replace hcl := qO hC_87 hs.own.drop
   refine ⟨fun _ => hcl, ?_⟩
   refine qdp (fuel := 1) [17] hs hcl hqC_87 fun a hs => ?_
   refine qsd 18 1 3 (ci v_94.1) hs rfl fun a w hs => ?_
   refine ⟨fun h => absurd h (by decide), ?_⟩
   replace hs := hs.pick [0, 4, 5, 7, 8, 11, 40, 41, 44, 45] (L' := [(0, pp b_x0), (4, pp b_20), (5, pp b_21), (7, pp b_24), (8, vi 2), (11, vi 0), (40, vi 2), (41, vi 0), (44, vi 2), (45, vi 1)]) (by kernel_rfl)
   refine Vk.dDone (by kernel_rfl) ?_
   refine hK85 _ _ ?_
   clear hK85
   refine Vk.region ?_
   refine qpk 2 [0, 4, 5, 7, 8, 11, 40, 41, 44, 45] hs fun a hs => hKL82 _ _ ?_
   clear hKL82
   refine Vk.unroll fun KL95 hKL95 => ?_
   refine qsk 1 [0, 4, 5, 7, 8, 11, 40, 41, 44, 45, 46] hs fun a hs => ?_
   refine Vk.seq fun K97 hK97 => ?_
   refine qcf hs ?_
   refine wp_exit ?_
   refine hK66 _ _ ?_
   clear hK66
   refine Vk.region ?_
   refine qpk 2 [0, 4, 5, 7, 8, 40, 41] hs fun a hs => hKL63 _ _ ?_
   clear hKL63
   refine Vk.unroll fun KL98 hKL98 => ?_
   refine qsk 1 [0, 4, 5, 7, 8, 40, 41, 42] hs fun a hs => ?_
   refine qck hs ?_
   refine Vk.seq fun K101 hK101 => ?_
   refine wp_block ?_
   refine qsk 2 [0, 4, 5, 7, 8, 11, 40, 41] hs fun a hs => ?_
   refine qse 2 [(0, pp b_x0), (4, pp b_20), (5, pp b_21), (7, pp b_24), (8, vi 2), (11, vi 1), (40, vi 2), (41, vi 1), (44, vi 2), (45, vi 0)] hs fun a hs => ?_
   refine wp_block ?_
   refine Vk.unroll0 40 ?_
   refine Vk.unroll fun KL104 hKL104 => ?_
   refine qsk 1 [0, 4, 5, 7, 8, 11, 40, 41, 44, 45, 46] hs fun a hs => ?_
   refine qck hs ?_
   refine Vk.seq fun K107 hK107 => ?_
   refine wp_block ?_
   refine qsk 2 [0, 4, 5, 7, 8, 11, 12, 40, 41, 44, 45] hs fun a hs => ?_
   obtain ⟨C_109, hC_109⟩ := qC hs.own.drop
   refine qdr 18 κ C_109 hs fun w hs hqC_109 => ?_
   have hcl := qO hC_109 hs.own.drop
   refine qdp (fuel := 5) [0, 1, 2, 3, 4, 5, 6, 7, 9, 10, 11, 14, 15, 16] hs hcl hqC_109 fun a hs => ?_
   obtain ⟨v_111, h_110, hm⟩ := bind_t hm
   refine qdi 8 3 hs hcl hqC_109 hC_109 rfl h_110 fun a hs => ?_
   obtain ⟨v_113, h_112, hm⟩ := bind_t hm
   refine qdi 12 2 hs hcl hqC_109 hC_109 rfl h_112 fun a hs => ?_
   obtain ⟨v_116, h_115, hm⟩ := bind_t hm
   refine qdc 13 (wire_Machine_Two.ok _ _ _ _ _ _ _ h_115 _ _ _ b_x0 hs.own) hs fun w a hs => ?_
   replace hcl := qO hC_109 hs.own.drop
   refine ⟨fun _ => hcl, ?_⟩
   refine qdp (fuel := 1) [17] hs hcl hqC_109 fun a hs => ?_
   refine qsd 18 1 5 (ci v_116.1) hs rfl fun a w hs => ?_
   refine ⟨fun h => absurd h (by decide), ?_⟩
   replace hs := hs.pick [0, 4, 5, 7, 8, 11, 40, 41, 44, 45] (L' := [(0, pp b_x0), (4, pp b_20), (5, pp b_21), (7, pp b_24), (8, vi 2), (11, vi 1), (40, vi 2), (41, vi 1), (44, vi 2), (45, vi 0)]) (by kernel_rfl)
   refine Vk.dDone (by kernel_rfl) ?_
   refine hK107 _ _ ?_
   clear hK107
   refine Vk.region ?_
   refine qpk 2 [0, 4, 5, 7, 8, 11, 40, 41, 44, 45] hs fun a hs => hKL104 _ _ ?_
   clear hKL104
   refine Vk.unroll fun KL117 hKL117 => ?_
   refine qsk 1 [0, 4, 5, 7, 8, 11, 40, 41, 44, 45, 46] hs fun a hs => ?_
   refine qck hs ?_
   refine Vk.seq fun K120 hK120 => ?_
   refine wp_block ?_
   refine qsk 2 [0, 4, 5, 7, 8, 11, 12, 40, 41, 44, 45] hs fun a hs => ?_
   obtain ⟨C_122, hC_122⟩ := qC hs.own.drop
   refine qdr 18 κ C_122 hs fun w hs hqC_122 => ?_
   have hcl := qO hC_122 hs.own.drop
   refine qdp (fuel := 5) [0, 1, 2, 3, 4, 5, 6, 7, 9, 10, 11, 14, 15, 16] hs hcl hqC_122 fun a hs => ?_
   obtain ⟨v_124, h_123, hm⟩ := bind_t hm
   refine qdi 8 3 hs hcl hqC_122 hC_122 rfl h_123 fun a hs => ?_
   obtain ⟨v_126, h_125, hm⟩ := bind_t hm
   refine qdi 12 2 hs hcl hqC_122 hC_122 rfl h_125 fun a hs => ?_
   obtain ⟨v_129, h_128, hm⟩ := bind_t hm
   refine qdc 13 (wire_Machine_Two.ok _ _ _ _ _ _ _ h_128 _ _ _ b_x0 hs.own) hs fun w a hs => ?_
   replace hcl := qO hC_122 hs.own.drop
   refine ⟨fun _ => hcl, ?_⟩
   refine qdp (fuel := 1) [17] hs hcl hqC_122 fun a hs => ?_
   refine qsd 18 1 6 (ci v_129.1) hs rfl fun a w hs => ?_
   refine ⟨fun h => absurd h (by decide), ?_⟩
   replace hs := hs.pick [0, 4, 5, 7, 8, 11, 40, 41, 44, 45] (L' := [(0, pp b_x0), (4, pp b_20), (5, pp b_21), (7, pp b_24), (8, vi 2), (11, vi 1), (40, vi 2), (41, vi 1), (44, vi 2), (45, vi 1)]) (by kernel_rfl)
   refine Vk.dDone (by kernel_rfl) ?_
   refine hK120 _ _ ?_
   clear hK120
   refine Vk.region ?_
   refine qpe 2 [(0, pp b_x0), (4, pp b_20), (5, pp b_21), (7, pp b_24), (8, vi 2), (11, vi 1), (40, vi 2), (41, vi 1), (44, vi 2), (45, vi 2)] hs fun a hs => hKL117 _ _ ?_
   clear hKL117
   refine Vk.unroll fun KL130 hKL130 => ?_
   refine qsk 1 [0, 4, 5, 7, 8, 11, 40, 41, 44, 45, 46] hs fun a hs => ?_
   refine Vk.seq fun K132 hK132 => ?_
   refine qcf hs ?_
   refine wp_exit ?_
   refine hK101 _ _ ?_
   clear hK101
   refine Vk.region ?_
   refine qpk 2 [0, 4, 5, 7, 8, 40, 41] hs fun a hs => hKL98 _ _ ?_
   clear hKL98
   refine Vk.unroll fun KL133 hKL133 => ?_
   refine qsk 1 [0, 4, 5, 7, 8, 40, 41, 42] hs fun a hs => ?_
   refine Vk.seq fun K135 hK135 => ?_
   refine qcf hs ?_
   refine wp_exit ?_
   refine hK61 _ _ ?_
   clear hK61
   refine qse 2 [(6, pp b_24)] hs fun a hs => ?_
   refine wp_ret ?_
   refine hKP18 _ _ ?_
   refine hKR18 _ _ ?_
   refine Vk.ret1 (P := Tryz.prog) (fn := Tryz.f132) (pp b_24) hs rfl (by kernel_rfl) ⟨_, _, _, rfl, hs.own, fun a hs => ?_⟩
   refine qpk 1 [0, 6, 7] hs fun a hs => hK15 _ _ ?_
   clear hK15
   refine qsr fun K137 hK137 => ?_
   refine qpu 3 hs fun a hs => ?_
   refine Vk.step (Vk.call (some 23) 133 #[pp b_24, .func (.func 134) #[pp b_24] #[]] hs (by kernel_rfl) (by kernel_rfl) (by kernel_rfl) ?_)
   refine Vk.enterI [(0, pp b_24), (1, .func (.func 134) #[pp b_24] #[])] Tryz.func133 rfl Tryz.ntmps133 (by kernel_rfl) (Nat.le_of_ble_eq_true (by kernel_rfl)) hs.own fun KR138 hKR138 hKP138 a hs => ?_
   refine qsr fun K139 hK139 => ?_
   refine qal 75 [ci 0, ci 0, ci 0] 4 hs fun b_140 w a hs => ?_
   refine qpk 0 [0, 1, 4] hs fun a hs => hK139 _ _ ?_
   clear hK139
   refine qsr fun K141 hK141 => ?_
   refine qpu 2 hs fun a hs => ?_
   refine qal 75 [ci 0, ci 0, ci 0] 5 hs fun b_142 w a hs => ?_
   refine qsa 0 [ci (-1), ci (-1), ci (-1)] hs rfl fun a w hs => ?_
   refine qpe 0 [(0, pp b_24), (1, .func (.func 134) #[pp b_24] #[]), (4, pp b_140), (5, pp b_142)] hs fun a hs => hK141 _ _ ?_
   clear hK141
   refine qsr fun K143 hK143 => ?_
   refine qpu 3 hs fun a hs => ?_
   refine qld 3 (cp b_x0) hs rfl fun a hs => ?_
   obtain ⟨g_144, hs⟩ := hs.unex 2 rfl
   obtain ⟨v_147, h_146, hm⟩ := bind_t hm
   refine qcl (wire_Machine_N.ok _ _ _ h_146 _ _ _ b_x0 g_144 hs.own.f2) hs fun w a hs => ?_
   rcases Bool.eq_false_or_eq_true (v_147 == 2) with hb | hb
   ·replace hm := bif_t hm hb
    obtain rfl := Vk.of_beq hb
    refine qpk 1 [0, 1, 4, 5, 6] hs fun a hs => hK143 _ _ ?_
    clear hK143
    refine Vk.seq fun K148 hK148 => ?_
    refine qsk 2 [0, 1, 4, 5, 6, 16, 17] hs fun a hs => ?_
    refine wp_block ?_
    refine Vk.unroll0 40 ?_
    refine Vk.unroll fun KL150 hKL150 => ?_
    refine qsk 1 [0, 1, 4, 5, 6, 16, 17, 18] hs fun a hs => ?_
    refine qck hs ?_
    refine Vk.seq fun K153 hK153 => ?_
    refine wp_block ?_
    refine qsk 2 [0, 1, 4, 5, 6, 7, 16, 17] hs fun a hs => ?_
    refine qsr fun K155 hK155 => ?_
    refine qpu 8 hs fun a hs => ?_
    refine qld 3 (ci v_81.1) hs rfl fun a hs => ?_
    refine qpu 2 hs fun a hs => ?_
    refine qst 1 0 (ci v_81.1) hs rfl fun a w hs => ?_
    refine qpk 0 [0, 1, 4, 5, 6, 7, 16, 17] hs fun a hs => hK155 _ _ ?_
    clear hK155
    refine qse 2 [(0, pp b_24), (1, .func (.func 134) #[pp b_24] #[]), (4, pp b_140), (5, pp b_142), (6, vi 2), (7, vi 0), (16, vi 2), (17, vi 0), (31, vi 2), (32, vi 0)] hs fun a hs => ?_
    refine wp_block ?_
    refine Vk.unroll0 40 ?_
    refine Vk.unroll fun KL157 hKL157 => ?_
    refine qsk 1 [0, 1, 4, 5, 6, 7, 16, 17, 31, 32, 33] hs fun a hs => ?_
    refine qck hs ?_
    refine Vk.seq fun K160 hK160 => ?_
    refine wp_block ?_
    refine qsk 2 [0, 1, 4, 5, 6, 7, 8, 16, 17, 31, 32] hs fun a hs => ?_
    refine qsk 3 [0, 1, 4, 5, 6, 7, 8, 16, 17, 31, 32, 37] hs fun a hs => ?_
    refine qcf hs ?_
    refine wp_skip ?_
    refine hK160 _ _ ?_
    clear hK160
    refine Vk.region ?_
    refine qpk 2 [0, 1, 4, 5, 6, 7, 16, 17, 31, 32] hs fun a hs => hKL157 _ _ ?_
    clear hKL157
    refine Vk.unroll fun KL163 hKL163 => ?_
    refine qsk 1 [0, 1, 4, 5, 6, 7, 16, 17, 31, 32, 33] hs fun a hs => ?_
    refine qck hs ?_
    refine Vk.seq fun K166 hK166 => ?_
    refine wp_block ?_
    refine qse 2 [(0, pp b_24), (1, .func (.func 134) #[pp b_24] #[]), (4, pp b_140), (5, pp b_142), (6, vi 2), (7, vi 0), (8, vi 1), (16, vi 2), (17, vi 0), (31, vi 2), (32, vi 1)] hs fun a hs => ?_
    refine qsk 3 [0, 1, 4, 5, 6, 7, 8, 16, 17, 31, 32, 37] hs fun a hs => ?_
    refine qct hs ?_
    obtain ⟨C_169, hC_169⟩ := qC hs.own.drop
    refine qdr 17 κ C_169 hs fun w hs hqC_169 => ?_
    have hcl := qO hC_169 hs.own.drop
    refine qdp (fuel := 6) [0, 1, 2, 3, 5, 6, 7, 8, 10, 11, 12, 15] hs hcl hqC_169 fun a hs => ?_
    refine qdl 4 2 (cp b_x0) hs hcl hqC_169 hC_169 rfl fun a hs => ?_
    refine qdl 9 0 (ci v_81.1) hs hcl hqC_169 hC_169 rfl fun a hs => ?_
    refine Vk.dOnly (i := 13) (by kernel_rfl) (Vk.call (some 51) 134 #[pp b_24, vi 0, vi 1] hs (by kernel_rfl) (by kernel_rfl) (by kernel_rfl) ?_)
    refine Vk.enterI [(0, pp b_24), (1, vi 0), (2, vi 1)] Tryz.func134 rfl Tryz.ntmps134 (by kernel_rfl) (Nat.le_of_ble_eq_true (by kernel_rfl)) hs.own fun KR170 hKR170 hKP170 a hs => ?_
    refine qsk 1 [0, 1, 2] hs fun a hs => ?_
    refine Vk.seq fun K172 hK172 => ?_
    obtain ⟨C_173, hC_173⟩ := qC hs.own
    refine qdr 17 κ C_173 hs fun w hs hqC_173 => ?_
    have hcl := qO hC_173 hs.own
    refine qdp (fuel := 5) [0, 1, 2, 4, 5, 6, 7, 8, 9, 10, 11, 13, 14, 15] hs hcl hqC_173 fun a hs => ?_
    refine qdl 3 3 (cp b_x0) hs hcl hqC_173 hC_173 rfl fun a hs => ?_
    refine qdl 12 3 (ci v_94.1) hs hcl hqC_173 hC_173 rfl fun a hs => ?_
    refine Vk.dOnly (i := 16) (by kernel_rfl) (Vk.call (some 23) 147 #[pp b_24, vi 0, vi 1] hs (by kernel_rfl) (by kernel_rfl) (by kernel_rfl) ?_)
    refine Vk.enterI [(0, pp b_24), (1, vi 0), (2, vi 1)] Tryz.func147 rfl Tryz.ntmps147 (by kernel_rfl) (Nat.le_of_ble_eq_true (by kernel_rfl)) hs.own fun KR174 hKR174 hKP174 a hs => ?_
    refine qsk 1 [0, 1, 2] hs fun a hs => ?_
    refine qsr fun K176 hK176 => ?_
    refine qpu 3 hs fun a hs => ?_
    refine qld 3 (C.map (some b_23)) hs rfl fun a hs => ?_
    refine qpu 7 hs fun a hs => ?_
    refine qva (vi v_45.1) (op := (.lookup 197 (.tmp 10) (.tmp 17) false)) hs (fun o ho => run_lookup (b := b_23) (key := .agg (vals [ci 0, ci 1])) 4 rfl ho (by kernel_rfl) (by kernel_rfl) (by kernel_rfl) _ hs.own) fun a hs => ?_
    refine qpe 1 [(6, vi v_45.1)] hs fun a hs => hK176 _ _ ?_
    clear hK176
    refine wp_ret ?_
    refine hKP174 _ _ ?_
    refine hKR174 _ _ ?_
    refine Vk.ret1 (P := Tryz.prog) (fn := Tryz.f147) (vi v_45.1) hs rfl (by kernel_rfl) ⟨_, _, _, rfl, hs.own, fun a hs => ?_⟩
    replace hcl := qO hC_173 hs.own
    refine ⟨fun _ => hcl, ?_⟩
    replace hs := hs.toEx (Twire_Machine.parts b_x0 v_129.2) g_144 0 rfl
    obtain ⟨v_179, h_178, hm⟩ := bind_t hm
    refine qdc 17 (wire_Machine_Two.ok _ _ _ _ _ _ _ h_178 _ _ _ b_x0 hs.own) hs fun w a hs => ?_
    refine ⟨fun h => absurd h (by decide), ?_⟩
    refine Vk.dOnly (i := 18) (by kernel_rfl) (Vk.dPure1 [(6, vi v_179.1)] hs (by kernel_rfl) fun a hs => ?_)
    refine ⟨fun h => absurd h (by decide), ?_⟩
    replace hs := hs.pick [6] (L' := [(6, vi v_179.1)]) (by kernel_rfl)
    refine Vk.dDone (by kernel_rfl) ?_
    refine hK172 _ _ ?_
    clear hK172
    refine wp_ret ?_
    refine hKP170 _ _ ?_
    refine hKR170 _ _ ?_
    refine Vk.ret1 (P := Tryz.prog) (fn := Tryz.f134) (vi v_179.1) hs rfl (by kernel_rfl) ⟨_, _, _, rfl, hs.own, fun a hs => ?_⟩
    replace hcl := qO hC_169 hs.own.drop
    refine ⟨fun _ => hcl, ?_⟩
    obtain ⟨v_182, h_181, hm⟩ := bind_t hm
    refine qdc 14 (wire_Machine_Two.ok _ _ _ _ _ _ _ h_181 _ _ _ b_x0 hs.own) hs fun w a hs => ?_
    replace hcl := qO hC_169 hs.own.drop
    refine ⟨fun _ => hcl, ?_⟩
    refine qdp (fuel := 1) [16] hs hcl hqC_169 fun a hs => ?_
    refine qsd 17 1 0 (ci v_182.1) hs rfl fun a w hs => ?_
    refine ⟨fun h => absurd h (by decide), ?_⟩
    replace hs := hs.pick [0, 1, 4, 5, 6, 7, 16, 17, 31, 32] (L' := [(0, pp b_24), (1, .func (.func 134) #[pp b_24] #[]), (4, pp b_140), (5, pp b_142), (6, vi 2), (7, vi 0), (16, vi 2), (17, vi 0), (31, vi 2), (32, vi 1)]) (by kernel_rfl)
    refine Vk.dDone (by kernel_rfl) ?_
    refine hK166 _ _ ?_
    clear hK166
    refine Vk.region ?_
    refine qpk 2 [0, 1, 4, 5, 6, 7, 16, 17, 31, 32] hs fun a hs => hKL163 _ _ ?_
    clear hKL163
    refine Vk.unroll fun KL183 hKL183 => ?_
    refine qsk 1 [0, 1, 4, 5, 6, 7, 16, 17, 31, 32, 33] hs fun a hs => ?_
    refine Vk.seq fun K185 hK185 => ?_
    refine qcf hs ?_
    refine wp_exit ?_
    refine hK153 _ _ ?_
    clear hK153
    refine Vk.region ?_
    refine qpk 2 [0, 1, 4, 5, 6, 16, 17] hs fun a hs => hKL150 _ _ ?_
    clear hKL150
    refine Vk.unroll fun KL186 hKL186 => ?_
    refine qsk 1 [0, 1, 4, 5, 6, 16, 17, 18] hs fun a hs => ?_
    refine qck hs ?_
    refine Vk.seq fun K189 hK189 => ?_
    refine wp_block ?_
    refine qsk 2 [0, 1, 4, 5, 6, 7, 16, 17] hs fun a hs => ?_
    refine qsr fun K191 hK191 => ?_
    refine qpu 8 hs fun a hs => ?_
    refine qld 3 (ci v_129.1) hs rfl fun a hs => ?_
    refine qpu 2 hs fun a hs => ?_
    refine qst 1 1 (ci v_129.1) hs rfl fun a w hs => ?_
    refine qpe 0 [(0, pp b_24), (1, .func (.func 134) #[pp b_24] #[]), (4, pp b_140), (5, pp b_142), (6, vi 2), (7, vi 1), (16, vi 2), (17, vi 1)] hs fun a hs => hK191 _ _ ?_
    clear hK191
    refine qsk 2 [0, 1, 4, 5, 6, 7, 16, 17, 31, 32] hs fun a hs => ?_
    refine wp_block ?_
    refine Vk.unroll0 40 ?_
    refine Vk.unroll fun KL193 hKL193 => ?_
    refine qsk 1 [0, 1, 4, 5, 6, 7, 16, 17, 31, 32, 33] hs fun a hs => ?_
    refine qck hs ?_
    refine Vk.seq fun K196 hK196 => ?_
    refine wp_block ?_
    refine qsk 2 [0, 1, 4, 5, 6, 7, 8, 16, 17, 31, 32] hs fun a hs => ?_
    refine qsk 3 [0, 1, 4, 5, 6, 7, 8, 16, 17, 31, 32, 37] hs fun a hs => ?_
    refine qct hs ?_
    obtain ⟨C_199, hC_199⟩ := qC hs.own.drop
    refine qdr 17 κ C_199 hs fun w hs hqC_199 => ?_
    have hcl := qO hC_199 hs.own.drop
    refine qdp (fuel := 6) [0, 1, 2, 3, 5, 6, 7, 8, 10, 11, 12, 15] hs hcl hqC_199 fun a hs => ?_
    refine qdl 4 2 (cp b_x0) hs hcl hqC_199 hC_199 rfl fun a hs => ?_
    refine qdl 9 0 (ci v_129.1) hs hcl hqC_199 hC_199 rfl fun a hs => ?_
    refine Vk.dOnly (i := 13) (by kernel_rfl) (Vk.call (some 51) 134 #[pp b_24, vi 1, vi 0] hs (by kernel_rfl) (by kernel_rfl) (by kernel_rfl) ?_)
    refine Vk.enterI [(0, pp b_24), (1, vi 1), (2, vi 0)] Tryz.func134 rfl Tryz.ntmps134 (by kernel_rfl) (Nat.le_of_ble_eq_true (by kernel_rfl)) hs.own fun KR200 hKR200 hKP200 a hs => ?_
    refine qsk 1 [0, 1, 2] hs fun a hs => ?_
    refine Vk.seq fun K202 hK202 => ?_
    obtain ⟨C_203, hC_203⟩ := qC hs.own
    refine qdr 17 κ C_203 hs fun w hs hqC_203 => ?_
    have hcl := qO hC_203 hs.own
    refine qdp (fuel := 5) [0, 1, 2, 4, 5, 6, 7, 8, 9, 10, 11, 13, 14, 15] hs hcl hqC_203 fun a hs => ?_
    refine qdl 3 3 (cp b_x0) hs hcl hqC_203 hC_203 rfl fun a hs => ?_
    refine qdl 12 3 (ci v_116.1) hs hcl hqC_203 hC_203 rfl fun a hs => ?_
    refine Vk.dOnly (i := 16) (by kernel_rfl) (Vk.call (some 23) 147 #[pp b_24, vi 1, vi 0] hs (by kernel_rfl) (by kernel_rfl) (by kernel_rfl) ?_)
    refine Vk.enterI [(0, pp b_24), (1, vi 1), (2, vi 0)] Tryz.func147 rfl Tryz.ntmps147 (by kernel_rfl) (Nat.le_of_ble_eq_true (by kernel_rfl)) hs.own fun KR204 hKR204 hKP204 a hs => ?_
    refine qse 1 [(0, pp b_24), (1, vi 1), (2, vi 0)] hs fun a hs => ?_
    refine qsr fun K206 hK206 => ?_
    refine qpu 3 hs fun a hs => ?_
    refine qld 3 (C.map (some b_23)) hs rfl fun a hs => ?_
    refine qpu 7 hs fun a hs => ?_
    refine qva (vi v_45.1) (op := (.lookup 197 (.tmp 10) (.tmp 17) false)) hs (fun o ho => run_lookup (b := b_23) (key := .agg (vals [ci 0, ci 1])) 4 rfl ho (by kernel_rfl) (by kernel_rfl) (by kernel_rfl) _ hs.own) fun a hs => ?_
    refine qpe 1 [(6, vi v_45.1)] hs fun a hs => hK206 _ _ ?_
    clear hK206
    refine wp_ret ?_
    refine hKP204 _ _ ?_
    refine hKR204 _ _ ?_
    refine Vk.ret1 (P := Tryz.prog) (fn := Tryz.f147) (vi v_45.1) hs rfl (by kernel_rfl) ⟨_, _, _, rfl, hs.own, fun a hs => ?_⟩
    replace hcl := qO hC_203 hs.own
    refine ⟨fun _ => hcl, ?_⟩
    obtain ⟨v_209, h_208, hm⟩ := bind_t hm
    refine qdc 17 (wire_Machine_Two.ok _ _ _ _ _ _ _ h_208 _ _ _ b_x0 hs.own) hs fun w a hs => ?_
    refine ⟨fun h => absurd h (by decide), ?_⟩
    refine Vk.dOnly (i := 18) (by kernel_rfl) (Vk.dPure1 [(6, vi v_209.1)] hs (by kernel_rfl) fun a hs => ?_)
    refine ⟨fun h => absurd h (by decide), ?_⟩
    replace hs := hs.pick [6] (L' := [(6, vi v_209.1)]) (by kernel_rfl)
    refine Vk.dDone (by kernel_rfl) ?_
    refine hK202 _ _ ?_
    clear hK202
    refine wp_ret ?_
    refine hKP200 _ _ ?_
    refine hKR200 _ _ ?_
    refine Vk.ret1 (P := Tryz.prog) (fn := Tryz.f134) (vi v_209.1) hs rfl (by kernel_rfl) ⟨_, _, _, rfl, hs.own, fun a hs => ?_⟩
    replace hcl := qO hC_199 hs.own.drop
    refine ⟨fun _ => hcl, ?_⟩
    obtain ⟨v_212, h_211, hm⟩ := bind_t hm
    refine qdc 14 (wire_Machine_Two.ok _ _ _ _ _ _ _ h_211 _ _ _ b_x0 hs.own) hs fun w a hs => ?_
    replace hcl := qO hC_199 hs.own.drop
    refine ⟨fun _ => hcl, ?_⟩
    refine qdp (fuel := 1) [16] hs hcl hqC_199 fun a hs => ?_
    refine qsd 17 1 1 (ci v_212.1) hs rfl fun a w hs => ?_
    refine ⟨fun h => absurd h (by decide), ?_⟩
    replace hs := hs.pick [0, 1, 4, 5, 6, 7, 16, 17, 31, 32] (L' := [(0, pp b_24), (1, .func (.func 134) #[pp b_24] #[]), (4, pp b_140), (5, pp b_142), (6, vi 2), (7, vi 1), (16, vi 2), (17, vi 1), (31, vi 2), (32, vi 0)]) (by kernel_rfl)
    refine Vk.dDone (by kernel_rfl) ?_
    refine hK196 _ _ ?_
    clear hK196
    refine Vk.region ?_
    refine qpk 2 [0, 1, 4, 5, 6, 7, 16, 17, 31, 32] hs fun a hs => hKL193 _ _ ?_
    clear hKL193
    refine Vk.unroll fun KL213 hKL213 => ?_
    refine qsk 1 [0, 1, 4, 5, 6, 7, 16, 17, 31, 32, 33] hs fun a hs => ?_
    refine qck hs ?_
    refine Vk.seq fun K216 hK216 => ?_
    refine wp_block ?_
    refine qsk 2 [0, 1, 4, 5, 6, 7, 8, 16, 17, 31, 32] hs fun a hs => ?_
    refine qsk 3 [0, 1, 4, 5, 6, 7, 8, 16, 17, 31, 32, 37] hs fun a hs => ?_
    refine qcf hs ?_
    refine wp_skip ?_
    refine hK216 _ _ ?_
    clear hK216
    refine Vk.region ?_
    refine qpk 2 [0, 1, 4, 5, 6, 7, 16, 17, 31, 32] hs fun a hs => hKL213 _ _ ?_
    clear hKL213
    refine Vk.unroll fun KL219 hKL219 => ?_
    refine qse 1 [(0, pp b_24), (1, .func (.func 134) #[pp b_24] #[]), (4, pp b_140), (5, pp b_142), (6, vi 2), (7, vi 1), (16, vi 2), (17, vi 1), (31, vi 2), (32, vi 2), (33, .bool false)] hs fun a hs => ?_
    refine Vk.seq fun K221 hK221 => ?_
    refine qcf hs ?_
    refine wp_exit ?_
    refine hK189 _ _ ?_
    clear hK189
    refine Vk.region ?_
    refine qpk 2 [0, 1, 4, 5, 6, 16, 17] hs fun a hs => hKL186 _ _ ?_
    clear hKL186
    refine Vk.unroll fun KL222 hKL222 => ?_
    refine qsk 1 [0, 1, 4, 5, 6, 16, 17, 18] hs fun a hs => ?_
    refine Vk.seq fun K224 hK224 => ?_
    refine qcf hs ?_
    refine wp_exit ?_
    refine hK148 _ _ ?_
    clear hK148
    refine qsr fun K225 hK225 => ?_
    refine qln 1 ([ci v_182.1, ci v_212.1, ci (-1)]) hs rfl fun a hs => ?_
    refine qsa 2 [ci v_182.1, ci v_212.1, ci (-1)] hs rfl fun a w hs => ?_
    refine qpe 0 [(4, pp b_140)] hs fun a hs => hK225 _ _ ?_
    clear hK225
    refine wp_ret ?_
    refine hKP138 _ _ ?_
    refine hKR138 _ _ ?_
    refine Vk.retC (P := Tryz.prog) (fn := Tryz.f133) [ci v_182.1, ci v_212.1, ci (-1)] hs rfl (by kernel_rfl) (sz := 3) (by kernel_rfl) rfl (CellsAt.all 2 rfl) ⟨_, _, _, rfl, hs.own, fun a hs => ?_⟩
    refine qal 75 [ci 0, ci 0, ci 0] 8 hs fun b_226 w a hs => ?_
    refine qsa 0 [ci v_182.1, ci v_212.1, ci (-1)] hs rfl fun a w hs => ?_
    refine qpk 0 [0, 6, 8] hs fun a hs => hK137 _ _ ?_
    clear hK137
    refine qsr fun K227 hK227 => ?_
    refine qpu 1 hs fun a hs => ?_
    obtain ⟨v_230, h_229, hm⟩ := bind_t hm
    refine qcl (wire_Machine_End.ok _ _ _ h_229 _ _ _ b_x0 hs.own.f1) hs fun w a hs => ?_
    refine qpe 0 [(6, pp b_4), (8, pp b_226)] hs fun a hs => hK227 _ _ ?_
    clear hK227
    refine qsr fun K231 hK231 => ?_
    refine qln 1 ([ci v_182.1, ci v_212.1, ci (-1)]) hs rfl fun a hs => ?_
    refine qsa 8 [ci v_182.1, ci v_212.1, ci (-1)] hs rfl fun a w hs => ?_
    refine qpe 0 [(6, pp b_4)] hs fun a hs => hK231 _ _ ?_
    clear hK231
    refine wp_ret ?_
    exact Vk.retC [ci v_182.1, ci v_212.1, ci (-1)] hs rfl (by kernel_rfl) (sz := 3) (by kernel_rfl) rfl (CellsAt.all 8 rfl) (hRR ▸ by cases hm; exact ⟨rfl, (hs.own.too [0] 11)⟩)
   ·replace hm := bif_f hm hb
    cases hm
  ·replace hm := bif_f hm hb
   cases hm
 ·replace hm := bif_f hm hb
  rcases Bool.eq_false_or_eq_true (v_10 == 3) with hb | hb
  ·replace hm := bif_t hm hb
   obtain rfl := Vk.of_beq hb
   refine qpk 1 [0, 4, 5, 6, 11] hs fun a hs => hK6 _ _ ?_
   refine qcf hs ?_
   refine wp_skip ?_
   refine hK5 _ _ ?_
   refine qsr fun K232 hK232 => ?_
   refine qpu 1 hs fun a hs => ?_
   replace hs := hs.toEx (Twire_Machine.parts b_x0 x0) g_7 0 rfl
   obtain ⟨v_235, h_234, hm⟩ := bind_t hm
   refine qcl (wire_Machine_Begin.ok _ _ _ _ h_234 _ _ _ b_x0 hs.own) hs fun w a hs => ?_
   refine qpk 0 [0, 4, 5, 6] hs fun a hs => hK232 _ _ ?_
   clear hK232
   refine qsr fun K236 hK236 => ?_
   refine qpu 1 hs fun a hs => ?_
   obtain ⟨h_237, hm⟩ := ite_t hm
   refine qlw 3 hs rfl h_237 fun a hs => ?_
   obtain ⟨h_238, hm⟩ := ite_t hm
   refine qlw 2 hs rfl h_238 fun a hs => ?_
   refine Vk.step (Vk.call (some 19) 132 #[pp b_x0, .agg (vals x1), .agg (vals x2)] hs (by kernel_rfl) (by kernel_rfl) (by kernel_rfl) ?_)
   refine Vk.enterI [(0, pp b_x0), (1, .agg (vals x1)), (2, .agg (vals x2))] Tryz.func132 rfl Tryz.ntmps132 (by kernel_rfl) (Nat.le_of_ble_eq_true (by kernel_rfl)) hs.own fun KR239 hKR239 hKP239 a hs => ?_
   refine qsr fun K240 hK240 => ?_
   refine qbx 1 75 x1 4 hs fun b_241 w a hs => ?_
   refine qbx 2 75 x2 5 hs fun b_242 w a hs => ?_
   refine qpk 1 [0, 4, 5] hs fun a hs => hK240 _ _ ?_
   clear hK240
   refine qsr fun K243 hK243 => ?_
   refine qpu 1 hs fun a hs => ?_
   refine Vk.step (Vk.mapOp 14 197 hs (by kernel_rfl) (by kernel_rfl) fun b_244 w a hs => ?_)
   refine qpu 1 hs fun a hs => ?_
   refine qbx 15 200 [cp b_x0, C.map (some b_244), ci 0, ci 0, ci 0, ci 0, ci 0, ci 0, ci 0, ci 0, ci 0] 16 hs fun b_245 w a hs => ?_
   refine qpe 1 [(0, pp b_x0), (4, pp b_241), (5, pp b_242), (7, pp b_245)] hs fun a hs => hK243 _ _ ?_
   clear hK243
   refine qsr fun K246 hK246 => ?_
   refine qpu 1 hs fun a hs => ?_
   obtain ⟨g_247, hs⟩ := hs.unex 4 rfl
   obtain ⟨v_250, h_249, hm⟩ := bind_t hm
   refine qcl (wire_Machine_N.ok _ _ _ h_249 _ _ _ b_x0 g_247 hs.own.f4) hs fun w a hs => ?_
   rcases Bool.eq_false_or_eq_true (v_250 == 3) with hb | hb
   ·replace hm := bif_t hm hb
    obtain rfl := Vk.of_beq hb
    refine qpk 1 [0, 4, 5, 7, 8] hs fun a hs => hK246 _ _ ?_
    clear hK246
    refine Vk.seq fun K251 hK251 => ?_
    refine qsk 2 [0, 4, 5, 7, 8, 19, 20] hs fun a hs => ?_
    refine wp_block ?_
    refine Vk.unroll0 40 ?_
    refine Vk.unroll fun KL253 hKL253 => ?_
    refine qsk 1 [0, 4, 5, 7, 8, 19, 20, 21] hs fun a hs => ?_
    refine qck hs ?_
    refine Vk.seq fun K256 hK256 => ?_
    refine wp_block ?_
    refine qsk 2 [0, 4, 5, 7, 8, 9, 19, 20] hs fun a hs => ?_
    refine qsk 3 [0, 4, 5, 7, 8, 9, 10, 19, 20] hs fun a hs => ?_
    refine wp_block ?_
    refine Vk.unroll0 40 ?_
    refine Vk.unroll fun KL259 hKL259 => ?_
    refine Vk.seq fun K260 hK260 => ?_
    refine qse 3 [(0, pp b_x0), (4, pp b_241), (5, pp b_242), (7, pp b_245), (8, vi 3), (9, vi 0), (10, vi 1), (19, vi 3), (20, vi 0), (27, .bool true)] hs fun a hs => ?_
    refine qct hs ?_
    refine wp_skip ?_
    refine hK260 _ _ ?_
    clear hK260
    refine Vk.seq fun K262 hK262 => ?_
    refine wp_block ?_
    obtain ⟨C_263, hC_263⟩ := qC hs.own.drop
    refine qdr 9 κ C_263 hs fun w hs hqC_263 => ?_
    have hcl := qO hC_263 hs.own.drop
    refine qdp (fuel := 3) [0, 1, 2, 4, 5, 6, 7] hs hcl hqC_263 fun a hs => ?_
    refine qdl 3 0 (C.map (some b_244)) hs hcl hqC_263 hC_263 rfl fun a hs => ?_
    replace hs := hs.toEx (Twire_Machine.parts b_x0 v_235) g_247 0 rfl
    obtain ⟨v_266, h_265, hm⟩ := bind_t hm
    refine qdc 8 (wire_Machine_Rand.ok _ _ _ _ h_265 _ _ _ b_x0 hs.own) hs fun w a hs => ?_
    replace hcl := qO hC_263 hs.own.drop
    refine ⟨fun _ => hcl, ?_⟩
    refine Vk.dOnly (i := 9) (by kernel_rfl) (Vk.updateOp (t := 197) (xm := (.tmp 33)) (xk := (.tmp 36)) (xv := (.tmp 38)) (b := b_244) (es' := #[⟨.agg (vals [ci 0, ci 1]), vi v_266.1, 0⟩]) (clock' := 1) (.agg (vals [ci 0, ci 1])) (vi v_266.1) 2 hs (by kernel_rfl) (by kernel_rfl) (by kernel_rfl) (by kernel_rfl) (by kernel_rfl) rfl (by kernel_rfl) fun a w hs => ?_)
    refine ⟨fun h => absurd h (by decide), ?_⟩
    replace hs := hs.pick [0, 4, 5, 7, 8, 9, 10, 19, 20] (L' := [(0, pp b_x0), (4, pp b_241), (5, pp b_242), (7, pp b_245), (8, vi 3), (9, vi 0), (10, vi 1), (19, vi 3), (20, vi 0)]) (by kernel_rfl)
    refine Vk.dDone (by kernel_rfl) ?_
    refine hK262 _ _ ?_
    clear hK262
    refine Vk.region ?_
    refine qpk 3 [0, 4, 5, 7, 8, 9, 10, 19, 20] hs fun a hs => hKL259 _ _ ?_
    clear hKL259
    refine Vk.unroll fun KL267 hKL267 => ?_
    refine Vk.seq fun K268 hK268 => ?_
    refine qsk 3 [0, 4, 5, 7, 8, 9, 10, 19, 20, 27] hs fun a hs => ?_
    refine qct hs ?_
    refine wp_skip ?_
    refine hK268 _ _ ?_
    clear hK268
    refine Vk.seq fun K270 hK270 => ?_
    refine wp_block ?_
    obtain ⟨C_271, hC_271⟩ := qC hs.own.drop
    refine qdr 9 κ C_271 hs fun w hs hqC_271 => ?_
    have hcl := qO hC_271 hs.own.drop
    refine qdp (fuel := 3) [0, 1, 2, 4, 5, 6, 7] hs hcl hqC_271 fun a hs => ?_
    refine qdl 3 0 (C.map (some b_244)) hs hcl hqC_271 hC_271 rfl fun a hs => ?_
    obtain ⟨v_274, h_273, hm⟩ := bind_t hm
    refine qdc 8 (wire_Machine_Rand.ok _ _ _ _ h_273 _ _ _ b_x0 hs.own) hs fun w a hs => ?_
    replace hcl := qO hC_271 hs.own.drop
    refine ⟨fun _ => hcl, ?_⟩
    refine Vk.dOnly (i := 9) (by kernel_rfl) (Vk.updateOp (t := 197) (xm := (.tmp 33)) (xk := (.tmp 36)) (xv := (.tmp 38)) (b := b_244) (es' := #[⟨.agg (vals [ci 0, ci 1]), vi v_266.1, 0⟩, ⟨.agg (vals [ci 0, ci 2]), vi v_274.1, 1⟩]) (clock' := 2) (.agg (vals [ci 0, ci 2])) (vi v_274.1) 2 hs (by kernel_rfl) (by kernel_rfl) (by kernel_rfl) (by kernel_rfl) (by kernel_rfl) rfl (by kernel_rfl) fun a w hs => ?_)
    refine ⟨fun h => absurd h (by decide), ?_⟩
    replace hs := hs.pick [0, 4, 5, 7, 8, 9, 10, 19, 20] (L' := [(0, pp b_x0), (4, pp b_241), (5, pp b_242), (7, pp b_245), (8, vi 3), (9, vi 0), (10, vi 2), (19, vi 3), (20, vi 0)]) (by kernel_rfl)
    refine Vk.dDone (by kernel_rfl) ?_
    refine hK270 _ _ ?_
    clear hK270
    refine Vk.region ?_
    refine qpk 3 [0, 4, 5, 7, 8, 9, 10, 19, 20] hs fun a hs => hKL267 _ _ ?_
    clear hKL267
    refine Vk.unroll fun KL275 hKL275 => ?_
    refine Vk.seq fun K276 hK276 => ?_
    refine qsk 3 [0, 4, 5, 7, 8, 9, 10, 19, 20, 27] hs fun a hs => ?_
    refine qcf hs ?_
    refine wp_exit ?_
    refine hK256 _ _ ?_
    clear hK256
    refine Vk.region ?_
    refine qpk 2 [0, 4, 5, 7, 8, 19, 20] hs fun a hs => hKL253 _ _ ?_
    clear hKL253
    refine Vk.unroll fun KL278 hKL278 => ?_
    refine qse 1 [(0, pp b_x0), (4, pp b_241), (5, pp b_242), (7, pp b_245), (8, vi 3), (19, vi 3), (20, vi 1), (21, .bool true)] hs fun a hs => ?_
    refine qck hs ?_
    refine Vk.seq fun K281 hK281 => ?_
    refine wp_block ?_
    refine qsk 2 [0, 4, 5, 7, 8, 9, 19, 20] hs fun a hs => ?_
    refine qsk 3 [0, 4, 5, 7, 8, 9, 10, 19, 20] hs fun a hs => ?_
    refine wp_block ?_
    refine Vk.unroll0 40 ?_
    refine Vk.unroll fun KL284 hKL284 => ?_
    refine Vk.seq fun K285 hK285 => ?_
    refine qsk 3 [0, 4, 5, 7, 8, 9, 10, 19, 20, 27] hs fun a hs => ?_
    refine qct hs ?_
    refine wp_skip ?_
    refine hK285 _ _ ?_
    clear hK285
    refine Vk.seq fun K287 hK287 => ?_
    refine wp_block ?_
    obtain ⟨C_288, hC_288⟩ := qC hs.own.drop
    refine qdr 9 κ C_288 hs fun w hs hqC_288 => ?_
    have hcl := qO hC_288 hs.own.drop
    refine qdp (fuel := 3) [0, 1, 2, 4, 5, 6, 7] hs hcl hqC_288 fun a hs => ?_
    refine qdl 3 0 (C.map (some b_244)) hs hcl hqC_288 hC_288 rfl fun a hs => ?_
    obtain ⟨v_291, h_290, hm⟩ := bind_t hm
    refine qdc 8 (wire_Machine_Rand.ok _ _ _ _ h_290 _ _ _ b_x0 hs.own) hs fun w a hs => ?_
    replace hcl := qO hC_288 hs.own.drop
    refine ⟨fun _ => hcl, ?_⟩
    refine Vk.dOnly (i := 9) (by kernel_rfl) (Vk.updateOp (t := 197) (xm := (.tmp 33)) (xk := (.tmp 36)) (xv := (.tmp 38)) (b := b_244) (es' := #[⟨.agg (vals [ci 0, ci 1]), vi v_266.1, 0⟩, ⟨.agg (vals [ci 0, ci 2]), vi v_274.1, 1⟩, ⟨.agg (vals [ci 1, ci 2]), vi v_291.1, 2⟩]) (clock' := 3) (.agg (vals [ci 1, ci 2])) (vi v_291.1) 2 hs (by kernel_rfl) (by kernel_rfl) (by kernel_rfl) (by kernel_rfl) (by kernel_rfl) rfl (by kernel_rfl) fun a w hs => ?_)
    refine ⟨fun h => absurd h (by decide), ?_⟩
    replace hs := hs.pick [0, 4, 5, 7, 8, 9, 10, 19, 20] (L' := [(0, pp b_x0), (4, pp b_241), (5, pp b_242), (7, pp b_245), (8, vi 3), (9, vi 1), (10, vi 2), (19, vi 3), (20, vi 1)]) (by kernel_rfl)
    refine Vk.dDone (by kernel_rfl) ?_
    refine hK287 _ _ ?_
    clear hK287
    refine Vk.region ?_
    refine qpk 3 [0, 4, 5, 7, 8, 9, 10, 19, 20] hs fun a hs => hKL284 _ _ ?_
    clear hKL284
    refine Vk.unroll fun KL292 hKL292 => ?_
    refine Vk.seq fun K293 hK293 => ?_
    refine qsk 3 [0, 4, 5, 7, 8, 9, 10, 19, 20, 27] hs fun a hs => ?_
    refine qcf hs ?_
    refine wp_exit ?_
    refine hK281 _ _ ?_
    clear hK281
    refine Vk.region ?_
    refine qpe 2 [(0, pp b_x0), (4, pp b_241), (5, pp b_242), (7, pp b_245), (8, vi 3), (19, vi 3), (20, vi 2)] hs fun a hs => hKL278 _ _ ?_
    clear hKL278
    refine Vk.unroll fun KL295 hKL295 => ?_
    refine qsk 1 [0, 4, 5, 7, 8, 19, 20, 21] hs fun a hs => ?_
    refine qck hs ?_
    refine Vk.seq fun K298 hK298 => ?_
    refine wp_block ?_
    refine qsk 2 [0, 4, 5, 7, 8, 9, 19, 20] hs fun a hs => ?_
    refine qsk 3 [0, 4, 5, 7, 8, 9, 10, 19, 20] hs fun a hs => ?_
    refine wp_block ?_
    refine Vk.unroll0 40 ?_
    refine Vk.unroll fun KL301 hKL301 => ?_
    refine Vk.seq fun K302 hK302 => ?_
    refine qsk 3 [0, 4, 5, 7, 8, 9, 10, 19, 20, 27] hs fun a hs => ?_
    refine qcf hs ?_
    refine wp_exit ?_
    refine hK298 _ _ ?_
    clear hK298
    refine Vk.region ?_
    refine qpk 2 [0, 4, 5, 7, 8, 19, 20] hs fun a hs => hKL295 _ _ ?_
    clear hKL295
    refine Vk.unroll fun KL304 hKL304 => ?_
    refine qse 1 [(0, pp b_x0), (4, pp b_241), (5, pp b_242), (7, pp b_245), (8, vi 3), (19, vi 3), (20, vi 3), (21, .bool false)] hs fun a hs => ?_
    refine Vk.seq fun K306 hK306 => ?_
    refine qcf hs ?_
    refine wp_exit ?_
    refine hK251 _ _ ?_
    clear hK251
    refine Vk.seq fun K307 hK307 => ?_
    refine qsk 2 [0, 4, 5, 7, 8, 40, 41] hs fun a hs => ?_
    refine wp_block ?_
    refine Vk.unroll0 40 ?_
    refine Vk.unroll fun KL309 hKL309 => ?_
    refine qsk 1 [0, 4, 5, 7, 8, 40, 41, 42] hs fun a hs => ?_
    refine qck hs ?_
    refine Vk.seq fun K312 hK312 => ?_
    refine wp_block ?_
    refine qsk 2 [0, 4, 5, 7, 8, 11, 40, 41] hs fun a hs => ?_
    refine qsk 2 [0, 4, 5, 7, 8, 11, 40, 41, 44, 45] hs fun a hs => ?_
    refine wp_block ?_
    refine Vk.unroll0 40 ?_
    refine Vk.unroll fun KL315 hKL315 => ?_
    refine qsk 1 [0, 4, 5, 7, 8, 11, 40, 41, 44, 45, 46] hs fun a hs => ?_
    refine qck hs ?_
    refine Vk.seq fun K318 hK318 => ?_
    refine wp_block ?_
    refine qse 2 [(0, pp b_x0), (4, pp b_241), (5, pp b_242), (7, pp b_245), (8, vi 3), (11, vi 0), (12, vi 0), (40, vi 3), (41, vi 0), (44, vi 3), (45, vi 0)] hs fun a hs => ?_
    obtain ⟨C_320, hC_320⟩ := qC hs.own.drop
    refine qdr 18 κ C_320 hs fun w hs hqC_320 => ?_
    have hcl := qO hC_320 hs.own.drop
    refine qdp (fuel := 5) [0, 1, 2, 3, 4, 5, 6, 7, 9, 10, 11, 14, 15, 16] hs hcl hqC_320 fun a hs => ?_
    obtain ⟨v_322, h_321, hm⟩ := bind_t hm
    refine qdi 8 3 hs hcl hqC_320 hC_320 rfl h_321 fun a hs => ?_
    obtain ⟨v_324, h_323, hm⟩ := bind_t hm
    refine qdi 12 2 hs hcl hqC_320 hC_320 rfl h_323 fun a hs => ?_
    obtain ⟨v_327, h_326, hm⟩ := bind_t hm
    refine qdc 13 (wire_Machine_Two.ok _ _ _ _ _ _ _ h_326 _ _ _ b_x0 hs.own) hs fun w a hs => ?_
    replace hcl := qO hC_320 hs.own.drop
    refine ⟨fun _ => hcl, ?_⟩
    refine qdp (fuel := 1) [17] hs hcl hqC_320 fun a hs => ?_
    refine qsd 18 1 2 (ci v_327.1) hs rfl fun a w hs => ?_
    refine ⟨fun h => absurd h (by decide), ?_⟩
    replace hs := hs.pick [0, 4, 5, 7, 8, 11, 40, 41, 44, 45] (L' := [(0, pp b_x0), (4, pp b_241), (5, pp b_242), (7, pp b_245), (8, vi 3), (11, vi 0), (40, vi 3), (41, vi 0), (44, vi 3), (45, vi 0)]) (by kernel_rfl)
    refine Vk.dDone (by kernel_rfl) ?_
    refine hK318 _ _ ?_
    clear hK318
    refine Vk.region ?_
    refine qpk 2 [0, 4, 5, 7, 8, 11, 40, 41, 44, 45] hs fun a hs => hKL315 _ _ ?_
    clear hKL315
    refine Vk.unroll fun KL328 hKL328 => ?_
    refine qsk 1 [0, 4, 5, 7, 8, 11, 40, 41, 44, 45, 46] hs fun a hs => ?_
    refine qck hs ?_
    refine Vk.seq fun K331 hK331 => ?_
    refine wp_block ?_
    refine qsk 2 [0, 4, 5, 7, 8, 11, 12, 40, 41, 44, 45] hs fun a hs => ?_
    obtain ⟨C_333, hC_333⟩ := qC hs.own.drop
    refine qdr 18 κ C_333 hs fun w hs hqC_333 => ?_
    have hcl := qO hC_333 hs.own.drop
    refine qdp (fuel := 5) [0, 1, 2, 3, 4, 5, 6, 7, 9, 10, 11, 14, 15, 16] hs hcl hqC_333 fun a hs => ?_
    obtain ⟨v_335, h_334, hm⟩ := bind_t hm
    refine qdi 8 3 hs hcl hqC_333 hC_333 rfl h_334 fun a hs => ?_
    obtain ⟨v_337, h_336, hm⟩ := bind_t hm
    refine qdi 12 2 hs hcl hqC_333 hC_333 rfl h_336 fun a hs => ?_
    obtain ⟨v_340, h_339, hm⟩ := bind_t hm
    refine qdc 13 (wire_Machine_Two.ok _ _ _ _ _ _ _ h_339 _ _ _ b_x0 hs.own) hs fun w a hs => ?_
    replace hcl := qO hC_333 hs.own.drop
    refine ⟨fun _ => hcl, ?_⟩
    refine qdp (fuel := 1) [17] hs hcl hqC_333 fun a hs => ?_
    refine qsd 18 1 3 (ci v_340.1) hs rfl fun a w hs => ?_
    refine ⟨fun h => absurd h (by decide), ?_⟩
    replace hs := hs.pick [0, 4, 5, 7, 8, 11, 40, 41, 44, 45] (L' := [(0, pp b_x0), (4, pp b_241), (5, pp b_242), (7, pp b_245), (8, vi 3), (11, vi 0), (40, vi 3), (41, vi 0), (44, vi 3), (45, vi 1)]) (by kernel_rfl)
    refine Vk.dDone (by kernel_rfl) ?_
    refine hK331 _ _ ?_
    clear hK331
    refine Vk.region ?_
    refine qpk 2 [0, 4, 5, 7, 8, 11, 40, 41, 44, 45] hs fun a hs => hKL328 _ _ ?_
    clear hKL328
    refine Vk.unroll fun KL341 hKL341 => ?_
    refine qsk 1 [0, 4, 5, 7, 8, 11, 40, 41, 44, 45, 46] hs fun a hs => ?_
    refine qck hs ?_
    refine Vk.seq fun K344 hK344 => ?_
    refine wp_block ?_
    refine qse 2 [(0, pp b_x0), (4, pp b_241), (5, pp b_242), (7, pp b_245), (8, vi 3), (11, vi 0), (12, vi 2), (40, vi 3), (41, vi 0), (44, vi 3), (45, vi 2)] hs fun a hs => ?_
    obtain ⟨C_346, hC_346⟩ := qC hs.own.drop
    refine qdr 18 κ C_346 hs fun w hs hqC_346 => ?_
    have hcl := qO hC_346 hs.own.drop
    refine qdp (fuel := 5) [0, 1, 2, 3, 4, 5, 6, 7, 9, 10, 11, 14, 15, 16] hs hcl hqC_346 fun a hs => ?_
    obtain ⟨v_348, h_347, hm⟩ := bind_t hm
    refine qdi 8 3 hs hcl hqC_346 hC_346 rfl h_347 fun a hs => ?_
    obtain ⟨v_350, h_349, hm⟩ := bind_t hm
    refine qdi 12 2 hs hcl hqC_346 hC_346 rfl h_349 fun a hs => ?_
    obtain ⟨v_353, h_352, hm⟩ := bind_t hm
    refine qdc 13 (wire_Machine_Two.ok _ _ _ _ _ _ _ h_352 _ _ _ b_x0 hs.own) hs fun w a hs => ?_
    replace hcl := qO hC_346 hs.own.drop
    refine ⟨fun _ => hcl, ?_⟩
    refine qdp (fuel := 1) [17] hs hcl hqC_346 fun a hs => ?_
    refine qsd 18 1 4 (ci v_353.1) hs rfl fun a w hs => ?_
    refine ⟨fun h => absurd h (by decide), ?_⟩
    replace hs := hs.pick [0, 4, 5, 7, 8, 11, 40, 41, 44, 45] (L' := [(0, pp b_x0), (4, pp b_241), (5, pp b_242), (7, pp b_245), (8, vi 3), (11, vi 0), (40, vi 3), (41, vi 0), (44, vi 3), (45, vi 2)]) (by kernel_rfl)
    refine Vk.dDone (by kernel_rfl) ?_
    refine hK344 _ _ ?_
    clear hK344
    refine Vk.region ?_
    refine qpk 2 [0, 4, 5, 7, 8, 11, 40, 41, 44, 45] hs fun a hs => hKL341 _ _ ?_
    clear hKL341
    refine Vk.unroll fun KL354 hKL354 => ?_
    refine qsk 1 [0, 4, 5, 7, 8, 11, 40, 41, 44, 45, 46] hs fun a hs => ?_
    refine Vk.seq fun K356 hK356 => ?_
    refine qcf hs ?_
    refine wp_exit ?_
    refine hK312 _ _ ?_
    clear hK312
    refine Vk.region ?_
    refine qpk 2 [0, 4, 5, 7, 8, 40, 41] hs fun a hs => hKL309 _ _ ?_
    clear hKL309
    refine Vk.unroll fun KL357 hKL357 => ?_
    refine qsk 1 [0, 4, 5, 7, 8, 40, 41, 42] hs fun a hs => ?_
    refine qck hs ?_
    refine Vk.seq fun K360 hK360 => ?_
    refine wp_block ?_
    refine qsk 2 [0, 4, 5, 7, 8, 11, 40, 41] hs fun a hs => ?_
    refine qse 2 [(0, pp b_x0), (4, pp b_241), (5, pp b_242), (7, pp b_245), (8, vi 3), (11, vi 1), (40, vi 3), (41, vi 1), (44, vi 3), (45, vi 0)] hs fun a hs => ?_
    refine wp_block ?_
    refine Vk.unroll0 40 ?_
    refine Vk.unroll fun KL363 hKL363 => ?_
    refine qsk 1 [0, 4, 5, 7, 8, 11, 40, 41, 44, 45, 46] hs fun a hs => ?_
    refine qck hs ?_
    refine Vk.seq fun K366 hK366 => ?_
    refine wp_block ?_
    refine qsk 2 [0, 4, 5, 7, 8, 11, 12, 40, 41, 44, 45] hs fun a hs => ?_
    obtain ⟨C_368, hC_368⟩ := qC hs.own.drop
    refine qdr 18 κ C_368 hs fun w hs hqC_368 => ?_
    have hcl := qO hC_368 hs.own.drop
    refine qdp (fuel := 5) [0, 1, 2, 3, 4, 5, 6, 7, 9, 10, 11, 14, 15, 16] hs hcl hqC_368 fun a hs => ?_
    obtain ⟨v_370, h_369, hm⟩ := bind_t hm
    refine qdi 8 3 hs hcl hqC_368 hC_368 rfl h_369 fun a hs => ?_
    obtain ⟨v_372, h_371, hm⟩ := bind_t hm
    refine qdi 12 2 hs hcl hqC_368 hC_368 rfl h_371 fun a hs => ?_
    obtain ⟨v_375, h_374, hm⟩ := bind_t hm
    refine qdc 13 (wire_Machine_Two.ok _ _ _ _ _ _ _ h_374 _ _ _ b_x0 hs.own) hs fun w a hs => ?_
    replace hcl := qO hC_368 hs.own.drop
    refine ⟨fun _ => hcl, ?_⟩
    refine qdp (fuel := 1) [17] hs hcl hqC_368 fun a hs => ?_
    refine qsd 18 1 5 (ci v_375.1) hs rfl fun a w hs => ?_
    refine ⟨fun h => absurd h (by decide), ?_⟩
    replace hs := hs.pick [0, 4, 5, 7, 8, 11, 40, 41, 44, 45] (L' := [(0, pp b_x0), (4, pp b_241), (5, pp b_242), (7, pp b_245), (8, vi 3), (11, vi 1), (40, vi 3), (41, vi 1), (44, vi 3), (45, vi 0)]) (by kernel_rfl)
    refine Vk.dDone (by kernel_rfl) ?_
    refine hK366 _ _ ?_
    clear hK366
    refine Vk.region ?_
    refine qpk 2 [0, 4, 5, 7, 8, 11, 40, 41, 44, 45] hs fun a hs => hKL363 _ _ ?_
    clear hKL363
    refine Vk.unroll fun KL376 hKL376 => ?_
    refine qsk 1 [0, 4, 5, 7, 8, 11, 40, 41, 44, 45, 46] hs fun a hs => ?_
    refine qck hs ?_
    refine Vk.seq fun K379 hK379 => ?_
    refine wp_block ?_
    refine qsk 2 [0, 4, 5, 7, 8, 11, 12, 40, 41, 44, 45] hs fun a hs => ?_
    obtain ⟨C_381, hC_381⟩ := qC hs.own.drop
    refine qdr 18 κ C_381 hs fun w hs hqC_381 => ?_
    have hcl := qO hC_381 hs.own.drop
    refine qdp (fuel := 5) [0, 1, 2, 3, 4, 5, 6, 7, 9, 10, 11, 14, 15, 16] hs hcl hqC_381 fun a hs => ?_
    obtain ⟨v_383, h_382, hm⟩ := bind_t hm
    refine qdi 8 3 hs hcl hqC_381 hC_381 rfl h_382 fun a hs => ?_
    obtain ⟨v_385, h_384, hm⟩ := bind_t hm
    refine qdi 12 2 hs hcl hqC_381 hC_381 rfl h_384 fun a hs => ?_
    obtain ⟨v_388, h_387, hm⟩ := bind_t hm
    refine qdc 13 (wire_Machine_Two.ok _ _ _ _ _ _ _ h_387 _ _ _ b_x0 hs.own) hs fun w a hs => ?_
    replace hcl := qO hC_381 hs.own.drop
    refine ⟨fun _ => hcl, ?_⟩
    refine qdp (fuel := 1) [17] hs hcl hqC_381 fun a hs => ?_
    refine qsd 18 1 6 (ci v_388.1) hs rfl fun a w hs => ?_
    refine ⟨fun h => absurd h (by decide), ?_⟩
    replace hs := hs.pick [0, 4, 5, 7, 8, 11, 40, 41, 44, 45] (L' := [(0, pp b_x0), (4, pp b_241), (5, pp b_242), (7, pp b_245), (8, vi 3), (11, vi 1), (40, vi 3), (41, vi 1), (44, vi 3), (45, vi 1)]) (by kernel_rfl)
    refine Vk.dDone (by kernel_rfl) ?_
    refine hK379 _ _ ?_
    clear hK379
    refine Vk.region ?_
    refine qpe 2 [(0, pp b_x0), (4, pp b_241), (5, pp b_242), (7, pp b_245), (8, vi 3), (11, vi 1), (40, vi 3), (41, vi 1), (44, vi 3), (45, vi 2)] hs fun a hs => hKL376 _ _ ?_
    clear hKL376
    refine Vk.unroll fun KL389 hKL389 => ?_
    refine qsk 1 [0, 4, 5, 7, 8, 11, 40, 41, 44, 45, 46] hs fun a hs => ?_
    refine qck hs ?_
    refine Vk.seq fun K392 hK392 => ?_
    refine wp_block ?_
    refine qsk 2 [0, 4, 5, 7, 8, 11, 12, 40, 41, 44, 45] hs fun a hs => ?_
    obtain ⟨C_394, hC_394⟩ := qC hs.own.drop
    refine qdr 18 κ C_394 hs fun w hs hqC_394 => ?_
    have hcl := qO hC_394 hs.own.drop
    refine qdp (fuel := 5) [0, 1, 2, 3, 4, 5, 6, 7, 9, 10, 11, 14, 15, 16] hs hcl hqC_394 fun a hs => ?_
    obtain ⟨v_396, h_395, hm⟩ := bind_t hm
    refine qdi 8 3 hs hcl hqC_394 hC_394 rfl h_395 fun a hs => ?_
    obtain ⟨v_398, h_397, hm⟩ := bind_t hm
    refine qdi 12 2 hs hcl hqC_394 hC_394 rfl h_397 fun a hs => ?_
    obtain ⟨v_401, h_400, hm⟩ := bind_t hm
    refine qdc 13 (wire_Machine_Two.ok _ _ _ _ _ _ _ h_400 _ _ _ b_x0 hs.own) hs fun w a hs => ?_
    replace hcl := qO hC_394 hs.own.drop
    refine ⟨fun _ => hcl, ?_⟩
    refine qdp (fuel := 1) [17] hs hcl hqC_394 fun a hs => ?_
    refine qsd 18 1 7 (ci v_401.1) hs rfl fun a w hs => ?_
    refine ⟨fun h => absurd h (by decide), ?_⟩
    replace hs := hs.pick [0, 4, 5, 7, 8, 11, 40, 41, 44, 45] (L' := [(0, pp b_x0), (4, pp b_241), (5, pp b_242), (7, pp b_245), (8, vi 3), (11, vi 1), (40, vi 3), (41, vi 1), (44, vi 3), (45, vi 2)]) (by kernel_rfl)
    refine Vk.dDone (by kernel_rfl) ?_
    refine hK392 _ _ ?_
    clear hK392
    refine Vk.region ?_
    refine qpk 2 [0, 4, 5, 7, 8, 11, 40, 41, 44, 45] hs fun a hs => hKL389 _ _ ?_
    clear hKL389
    refine Vk.unroll fun KL402 hKL402 => ?_
    refine qsk 1 [0, 4, 5, 7, 8, 11, 40, 41, 44, 45, 46] hs fun a hs => ?_
    refine Vk.seq fun K404 hK404 => ?_
    refine qcf hs ?_
    refine wp_exit ?_
    refine hK360 _ _ ?_
    clear hK360
    refine Vk.region ?_
    refine qpk 2 [0, 4, 5, 7, 8, 40, 41] hs fun a hs => hKL357 _ _ ?_
    clear hKL357
    refine Vk.unroll fun KL405 hKL405 => ?_
    refine qse 1 [(0, pp b_x0), (4, pp b_241), (5, pp b_242), (7, pp b_245), (8, vi 3), (40, vi 3), (41, vi 2), (42, .bool true)] hs fun a hs => ?_
    refine qck hs ?_
    refine Vk.seq fun K408 hK408 => ?_
    refine wp_block ?_
    refine qsk 2 [0, 4, 5, 7, 8, 11, 40, 41] hs fun a hs => ?_
    refine qsk 2 [0, 4, 5, 7, 8, 11, 40, 41, 44, 45] hs fun a hs => ?_
    refine wp_block ?_
    refine Vk.unroll0 40 ?_
    refine Vk.unroll fun KL411 hKL411 => ?_
    refine qsk 1 [0, 4, 5, 7, 8, 11, 40, 41, 44, 45, 46] hs fun a hs => ?_
    refine qck hs ?_
    refine Vk.seq fun K414 hK414 => ?_
    refine wp_block ?_
    refine qsk 2 [0, 4, 5, 7, 8, 11, 12, 40, 41, 44, 45] hs fun a hs => ?_
    obtain ⟨C_416, hC_416⟩ := qC hs.own.drop
    refine qdr 18 κ C_416 hs fun w hs hqC_416 => ?_
    have hcl := qO hC_416 hs.own.drop
    refine qdp (fuel := 5) [0, 1, 2, 3, 4, 5, 6, 7, 9, 10, 11, 14, 15, 16] hs hcl hqC_416 fun a hs => ?_
    obtain ⟨v_418, h_417, hm⟩ := bind_t hm
    refine qdi 8 3 hs hcl hqC_416 hC_416 rfl h_417 fun a hs => ?_
    obtain ⟨v_420, h_419, hm⟩ := bind_t hm
    refine qdi 12 2 hs hcl hqC_416 hC_416 rfl h_419 fun a hs => ?_
    obtain ⟨v_423, h_422, hm⟩ := bind_t hm
    refine qdc 13 (wire_Machine_Two.ok _ _ _ _ _ _ _ h_422 _ _ _ b_x0 hs.own) hs fun w a hs => ?_
    replace hcl := qO hC_416 hs.own.drop
    refine ⟨fun _ => hcl, ?_⟩
    refine qdp (fuel := 1) [17] hs hcl hqC_416 fun a hs => ?_
    refine qsd 18 1 8 (ci v_423.1) hs rfl fun a w hs => ?_
    refine ⟨fun h => absurd h (by decide), ?_⟩
    replace hs := hs.pick [0, 4, 5, 7, 8, 11, 40, 41, 44, 45] (L' := [(0, pp b_x0), (4, pp b_241), (5, pp b_242), (7, pp b_245), (8, vi 3), (11, vi 2), (40, vi 3), (41, vi 2), (44, vi 3), (45, vi 0)]) (by kernel_rfl)
    refine Vk.dDone (by kernel_rfl) ?_
    refine hK414 _ _ ?_
    clear hK414
    refine Vk.region ?_
    refine qpk 2 [0, 4, 5, 7, 8, 11, 40, 41, 44, 45] hs fun a hs => hKL411 _ _ ?_
    clear hKL411
    refine Vk.unroll fun KL424 hKL424 => ?_
    refine qse 1 [(0, pp b_x0), (4, pp b_241), (5, pp b_242), (7, pp b_245), (8, vi 3), (11, vi 2), (40, vi 3), (41, vi 2), (44, vi 3), (45, vi 1), (46, .bool true)] hs fun a hs => ?_
    refine qck hs ?_
    refine Vk.seq fun K427 hK427 => ?_
    refine wp_block ?_
    refine qsk 2 [0, 4, 5, 7, 8, 11, 12, 40, 41, 44, 45] hs fun a hs => ?_
    obtain ⟨C_429, hC_429⟩ := qC hs.own.drop
    refine qdr 18 κ C_429 hs fun w hs hqC_429 => ?_
    have hcl := qO hC_429 hs.own.drop
    refine qdp (fuel := 5) [0, 1, 2, 3, 4, 5, 6, 7, 9, 10, 11, 14, 15, 16] hs hcl hqC_429 fun a hs => ?_
    obtain ⟨v_431, h_430, hm⟩ := bind_t hm
    refine qdi 8 3 hs hcl hqC_429 hC_429 rfl h_430 fun a hs => ?_
    obtain ⟨v_433, h_432, hm⟩ := bind_t hm
    refine qdi 12 2 hs hcl hqC_429 hC_429 rfl h_432 fun a hs => ?_
    obtain ⟨v_436, h_435, hm⟩ := bind_t hm
    refine qdc 13 (wire_Machine_Two.ok _ _ _ _ _ _ _ h_435 _ _ _ b_x0 hs.own) hs fun w a hs => ?_
    replace hcl := qO hC_429 hs.own.drop
    refine ⟨fun _ => hcl, ?_⟩
    refine qdp (fuel := 1) [17] hs hcl hqC_429 fun a hs => ?_
    refine qsd 18 1 9 (ci v_436.1) hs rfl fun a w hs => ?_
    refine ⟨fun h => absurd h (by decide), ?_⟩
    replace hs := hs.pick [0, 4, 5, 7, 8, 11, 40, 41, 44, 45] (L' := [(0, pp b_x0), (4, pp b_241), (5, pp b_242), (7, pp b_245), (8, vi 3), (11, vi 2), (40, vi 3), (41, vi 2), (44, vi 3), (45, vi 1)]) (by kernel_rfl)
    refine Vk.dDone (by kernel_rfl) ?_
    refine hK427 _ _ ?_
    clear hK427
    refine Vk.region ?_
    refine qpk 2 [0, 4, 5, 7, 8, 11, 40, 41, 44, 45] hs fun a hs => hKL424 _ _ ?_
    clear hKL424
    refine Vk.unroll fun KL437 hKL437 => ?_
    refine qsk 1 [0, 4, 5, 7, 8, 11, 40, 41, 44, 45, 46] hs fun a hs => ?_
    refine qck hs ?_
    refine Vk.seq fun K440 hK440 => ?_
    refine wp_block ?_
    refine qsk 2 [0, 4, 5, 7, 8, 11, 12, 40, 41, 44, 45] hs fun a hs => ?_
    obtain ⟨C_442, hC_442⟩ := qC hs.own.drop
    refine qdr 18 κ C_442 hs fun w hs hqC_442 => ?_
    have hcl := qO hC_442 hs.own.drop
    refine qdp (fuel := 5) [0, 1, 2, 3, 4, 5, 6, 7, 9, 10, 11, 14, 15, 16] hs hcl hqC_442 fun a hs => ?_
    obtain ⟨v_444, h_443, hm⟩ := bind_t hm
    refine qdi 8 3 hs hcl hqC_442 hC_442 rfl h_443 fun a hs => ?_
    obtain ⟨v_446, h_445, hm⟩ := bind_t hm
    refine qdi 12 2 hs hcl hqC_442 hC_442 rfl h_445 fun a hs => ?_
    obtain ⟨v_449, h_448, hm⟩ := bind_t hm
    refine qdc 13 (wire_Machine_Two.ok _ _ _ _ _ _ _ h_448 _ _ _ b_x0 hs.own) hs fun w a hs => ?_
    replace hcl := qO hC_442 hs.own.drop
    refine ⟨fun _ => hcl, ?_⟩
    refine qdp (fuel := 1) [17] hs hcl hqC_442 fun a hs => ?_
    refine qsd 18 1 10 (ci v_449.1) hs rfl fun a w hs => ?_
    refine ⟨fun h => absurd h (by decide), ?_⟩
    replace hs := hs.pick [0, 4, 5, 7, 8, 11, 40, 41, 44, 45] (L' := [(0, pp b_x0), (4, pp b_241), (5, pp b_242), (7, pp b_245), (8, vi 3), (11, vi 2), (40, vi 3), (41, vi 2), (44, vi 3), (45, vi 2)]) (by kernel_rfl)
    refine Vk.dDone (by kernel_rfl) ?_
    refine hK440 _ _ ?_
    clear hK440
    refine Vk.region ?_
    refine qpk 2 [0, 4, 5, 7, 8, 11, 40, 41, 44, 45] hs fun a hs => hKL437 _ _ ?_
    clear hKL437
    refine Vk.unroll fun KL450 hKL450 => ?_
    refine qse 1 [(0, pp b_x0), (4, pp b_241), (5, pp b_242), (7, pp b_245), (8, vi 3), (11, vi 2), (40, vi 3), (41, vi 2), (44, vi 3), (45, vi 3), (46, .bool false)] hs fun a hs => ?_
    refine Vk.seq fun K452 hK452 => ?_
    refine qcf hs ?_
    refine wp_exit ?_
    refine hK408 _ _ ?_
    clear hK408
    refine Vk.region ?_
    refine qpk 2 [0, 4, 5, 7, 8, 40, 41] hs fun a hs => hKL405 _ _ ?_
    clear hKL405
    refine Vk.unroll fun KL453 hKL453 => ?_
    refine qsk 1 [0, 4, 5, 7, 8, 40, 41, 42] hs fun a hs => ?_
    refine Vk.seq fun K455 hK455 => ?_
    refine qcf hs ?_
    refine wp_exit ?_
    refine hK307 _ _ ?_
    clear hK307
    refine qse 2 [(6, pp b_245)] hs fun a hs => ?_
    refine wp_ret ?_
    refine hKP239 _ _ ?_
    refine hKR239 _ _ ?_
    refine Vk.ret1 (P := Tryz.prog) (fn := Tryz.f132) (pp b_245) hs rfl (by kernel_rfl) ⟨_, _, _, rfl, hs.own, fun a hs => ?_⟩
    refine qpk 1 [0, 6, 7] hs fun a hs => hK236 _ _ ?_
    clear hK236
    refine qsr fun K457 hK457 => ?_
    refine qpu 3 hs fun a hs => ?_
    refine Vk.step (Vk.call (some 23) 133 #[pp b_245, .func (.func 134) #[pp b_245] #[]] hs (by kernel_rfl) (by kernel_rfl) (by kernel_rfl) ?_)
    refine Vk.enterI [(0, pp b_245), (1, .func (.func 134) #[pp b_245] #[])] Tryz.func133 rfl Tryz.ntmps133 (by kernel_rfl) (Nat.le_of_ble_eq_true (by kernel_rfl)) hs.own fun KR458 hKR458 hKP458 a hs => ?_
    refine qsr fun K459 hK459 => ?_
    refine qal 75 [ci 0, ci 0, ci 0] 4 hs fun b_460 w a hs => ?_
    refine qpk 0 [0, 1, 4] hs fun a hs => hK459 _ _ ?_
    clear hK459
    refine qsr fun K461 hK461 => ?_
    refine qpu 2 hs fun a hs => ?_
    refine qal 75 [ci 0, ci 0, ci 0] 5 hs fun b_462 w a hs => ?_
    refine qsa 0 [ci (-1), ci (-1), ci (-1)] hs rfl fun a w hs => ?_
    refine qpe 0 [(0, pp b_245), (1, .func (.func 134) #[pp b_245] #[]), (4, pp b_460), (5, pp b_462)] hs fun a hs => hK461 _ _ ?_
    clear hK461
    refine qsr fun K463 hK463 => ?_
    refine qpu 3 hs fun a hs => ?_
    refine qld 3 (cp b_x0) hs rfl fun a hs => ?_
    obtain ⟨g_464, hs⟩ := hs.unex 2 rfl
    obtain ⟨v_467, h_466, hm⟩ := bind_t hm
    refine qcl (wire_Machine_N.ok _ _ _ h_466 _ _ _ b_x0 g_464 hs.own.f2) hs fun w a hs => ?_
    rcases Bool.eq_false_or_eq_true (v_467 == 3) with hb | hb
    ·replace hm := bif_t hm hb
     obtain rfl := Vk.of_beq hb
     refine qpk 1 [0, 1, 4, 5, 6] hs fun a hs => hK463 _ _ ?_
     clear hK463
     refine Vk.seq fun K468 hK468 => ?_
     refine qsk 2 [0, 1, 4, 5, 6, 16, 17] hs fun a hs => ?_
     refine wp_block ?_
     refine Vk.unroll0 40 ?_
     refine Vk.unroll fun KL470 hKL470 => ?_
     refine qsk 1 [0, 1, 4, 5, 6, 16, 17, 18] hs fun a hs => ?_
     refine qck hs ?_
     refine Vk.seq fun K473 hK473 => ?_
     refine wp_block ?_
     refine qsk 2 [0, 1, 4, 5, 6, 7, 16, 17] hs fun a hs => ?_
     refine qsr fun K475 hK475 => ?_
     refine qpu 8 hs fun a hs => ?_
     refine qld 3 (ci v_327.1) hs rfl fun a hs => ?_
     refine qpu 2 hs fun a hs => ?_
     refine qst 1 0 (ci v_327.1) hs rfl fun a w hs => ?_
     refine qpk 0 [0, 1, 4, 5, 6, 7, 16, 17] hs fun a hs => hK475 _ _ ?_
     clear hK475
     refine qse 2 [(0, pp b_245), (1, .func (.func 134) #[pp b_245] #[]), (4, pp b_460), (5, pp b_462), (6, vi 3), (7, vi 0), (16, vi 3), (17, vi 0), (31, vi 3), (32, vi 0)] hs fun a hs => ?_
     refine wp_block ?_
     refine Vk.unroll0 40 ?_
     refine Vk.unroll fun KL477 hKL477 => ?_
     refine qsk 1 [0, 1, 4, 5, 6, 7, 16, 17, 31, 32, 33] hs fun a hs => ?_
     refine qck hs ?_
     refine Vk.seq fun K480 hK480 => ?_
     refine wp_block ?_
     refine qsk 2 [0, 1, 4, 5, 6, 7, 8, 16, 17, 31, 32] hs fun a hs => ?_
     refine qsk 3 [0, 1, 4, 5, 6, 7, 8, 16, 17, 31, 32, 37] hs fun a hs => ?_
     refine qcf hs ?_
     refine wp_skip ?_
     refine hK480 _ _ ?_
     clear hK480
     refine Vk.region ?_
     refine qpk 2 [0, 1, 4, 5, 6, 7, 16, 17, 31, 32] hs fun a hs => hKL477 _ _ ?_
     clear hKL477
     refine Vk.unroll fun KL483 hKL483 => ?_
     refine qsk 1 [0, 1, 4, 5, 6, 7, 16, 17, 31, 32, 33] hs fun a hs => ?_
     refine qck hs ?_
     refine Vk.seq fun K486 hK486 => ?_
     refine wp_block ?_
     refine qse 2 [(0, pp b_245), (1, .func (.func 134) #[pp b_245] #[]), (4, pp b_460), (5, pp b_462), (6, vi 3), (7, vi 0), (8, vi 1), (16, vi 3), (17, vi 0), (31, vi 3), (32, vi 1)] hs fun a hs => ?_
     refine qsk 3 [0, 1, 4, 5, 6, 7, 8, 16, 17, 31, 32, 37] hs fun a hs => ?_
     refine qct hs ?_
     obtain ⟨C_489, hC_489⟩ := qC hs.own.drop
     refine qdr 17 κ C_489 hs fun w hs hqC_489 => ?_
     have hcl := qO hC_489 hs.own.drop
     refine qdp (fuel := 6) [0, 1, 2, 3, 5, 6, 7, 8, 10, 11, 12, 15] hs hcl hqC_489 fun a hs => ?_
     refine qdl 4 2 (cp b_x0) hs hcl hqC_489 hC_489 rfl fun a hs => ?_
     refine qdl 9 0 (ci v_327.1) hs hcl hqC_489 hC_489 rfl fun a hs => ?_
     refine Vk.dOnly (i := 13) (by kernel_rfl) (Vk.call (some 51) 134 #[pp b_245, vi 0, vi 1] hs (by kernel_rfl) (by kernel_rfl) (by kernel_rfl) ?_)
     refine Vk.enterI [(0, pp b_245), (1, vi 0), (2, vi 1)] Tryz.func134 rfl Tryz.ntmps134 (by kernel_rfl) (Nat.le_of_ble_eq_true (by kernel_rfl)) hs.own fun KR490 hKR490 hKP490 a hs => ?_
     refine qsk 1 [0, 1, 2] hs fun a hs => ?_
     refine Vk.seq fun K492 hK492 => ?_
     obtain ⟨C_493, hC_493⟩ := qC hs.own
     refine qdr 17 κ C_493 hs fun w hs hqC_493 => ?_
     have hcl := qO hC_493 hs.own
     refine qdp (fuel := 5) [0, 1, 2, 4, 5, 6, 7, 8, 9, 10, 11, 13, 14, 15] hs hcl hqC_493 fun a hs => ?_
     refine qdl 3 3 (cp b_x0) hs hcl hqC_493 hC_493 rfl fun a hs => ?_
     refine qdl 12 3 (ci v_340.1) hs hcl hqC_493 hC_493 rfl fun a hs => ?_
     refine Vk.dOnly (i := 16) (by kernel_rfl) (Vk.call (some 23) 147 #[pp b_245, vi 0, vi 1] hs (by kernel_rfl) (by kernel_rfl) (by kernel_rfl) ?_)
     refine Vk.enterI [(0, pp b_245), (1, vi 0), (2, vi 1)] Tryz.func147 rfl Tryz.ntmps147 (by kernel_rfl) (Nat.le_of_ble_eq_true (by kernel_rfl)) hs.own fun KR494 hKR494 hKP494 a hs => ?_
     refine qsk 1 [0, 1, 2] hs fun a hs => ?_
     refine qsr fun K496 hK496 => ?_
     refine qpu 3 hs fun a hs => ?_
     refine qld 3 (C.map (some b_244)) hs rfl fun a hs => ?_
     refine qpu 7 hs fun a hs => ?_
     refine qva (vi v_266.1) (op := (.lookup 197 (.tmp 10) (.tmp 17) false)) hs (fun o ho => run_lookup (b := b_244) (key := .agg (vals [ci 0, ci 1])) 4 rfl ho (by kernel_rfl) (by kernel_rfl) (by kernel_rfl) _ hs.own) fun a hs => ?_
     refine qpe 1 [(6, vi v_266.1)] hs fun a hs => hK496 _ _ ?_
     clear hK496
     refine wp_ret ?_
     refine hKP494 _ _ ?_
     refine hKR494 _ _ ?_
     refine Vk.ret1 (P := Tryz.prog) (fn := Tryz.f147) (vi v_266.1) hs rfl (by kernel_rfl) ⟨_, _, _, rfl, hs.own, fun a hs => ?_⟩
     replace hcl := qO hC_493 hs.own
     refine ⟨fun _ => hcl, ?_⟩
     replace hs := hs.toEx (Twire_Machine.parts b_x0 v_449.2) g_464 0 rfl
     obtain ⟨v_499, h_498, hm⟩ := bind_t hm
     refine qdc 17 (wire_Machine_Two.ok _ _ _ _ _ _ _ h_498 _ _ _ b_x0 hs.own) hs fun w a hs => ?_
     refine ⟨fun h => absurd h (by decide), ?_⟩
     refine Vk.dOnly (i := 18) (by kernel_rfl) (Vk.dPure1 [(6, vi v_499.1)] hs (by kernel_rfl) fun a hs => ?_)
     refine ⟨fun h => absurd h (by decide), ?_⟩
     replace hs := hs.pick [6] (L' := [(6, vi v_499.1)]) (by kernel_rfl)
     refine Vk.dDone (by kernel_rfl) ?_
     refine hK492 _ _ ?_
     clear hK492
     refine wp_ret ?_
     refine hKP490 _ _ ?_
     refine hKR490 _ _ ?_
     refine Vk.ret1 (P := Tryz.prog) (fn := Tryz.f134) (vi v_499.1) hs rfl (by kernel_rfl) ⟨_, _, _, rfl, hs.own, fun a hs => ?_⟩
     replace hcl := qO hC_489 hs.own.drop
     refine ⟨fun _ => hcl, ?_⟩
     obtain ⟨v_502, h_501, hm⟩ := bind_t hm
     refine qdc 14 (wire_Machine_Two.ok _ _ _ _ _ _ _ h_501 _ _ _ b_x0 hs.own) hs fun w a hs => ?_
     replace hcl := qO hC_489 hs.own.drop
     refine ⟨fun _ => hcl, ?_⟩
     refine qdp (fuel := 1) [16] hs hcl hqC_489 fun a hs => ?_
     refine qsd 17 1 0 (ci v_502.1) hs rfl fun a w hs => ?_
     refine ⟨fun h => absurd h (by decide), ?_⟩
     replace hs := hs.pick [0, 1, 4, 5, 6, 7, 16, 17, 31, 32] (L' := [(0, pp b_245), (1, .func (.func 134) #[pp b_245] #[]), (4, pp b_460), (5, pp b_462), (6, vi 3), (7, vi 0), (16, vi 3), (17, vi 0), (31, vi 3), (32, vi 1)]) (by kernel_rfl)
     refine Vk.dDone (by kernel_rfl) ?_
     refine hK486 _ _ ?_
     clear hK486
     refine Vk.region ?_
     refine qpk 2 [0, 1, 4, 5, 6, 7, 16, 17, 31, 32] hs fun a hs => hKL483 _ _ ?_
     clear hKL483
     refine Vk.unroll fun KL503 hKL503 => ?_
     refine qsk 1 [0, 1, 4, 5, 6, 7, 16, 17, 31, 32, 33] hs fun a hs => ?_
     refine qck hs ?_
     refine Vk.seq fun K506 hK506 => ?_
     refine wp_block ?_
     refine qsk 2 [0, 1, 4, 5, 6, 7, 8, 16, 17, 31, 32] hs fun a hs => ?_
     refine qsk 3 [0, 1, 4, 5, 6, 7, 8, 16, 17, 31, 32, 37] hs fun a hs => ?_
     refine qct hs ?_
     obtain ⟨C_509, hC_509⟩ := qC hs.own.drop
     refine qdr 17 κ C_509 hs fun w hs hqC_509 => ?_
     have hcl := qO hC_509 hs.own.drop
     refine qdp (fuel := 6) [0, 1, 2, 3, 5, 6, 7, 8, 10, 11, 12, 15] hs hcl hqC_509 fun a hs => ?_
     refine qdl 4 2 (cp b_x0) hs hcl hqC_509 hC_509 rfl fun a hs => ?_
     refine qdl 9 0 (ci v_502.1) hs hcl hqC_509 hC_509 rfl fun a hs => ?_
     refine Vk.dOnly (i := 13) (by kernel_rfl) (Vk.call (some 51) 134 #[pp b_245, vi 0, vi 2] hs (by kernel_rfl) (by kernel_rfl) (by kernel_rfl) ?_)
     refine Vk.enterI [(0, pp b_245), (1, vi 0), (2, vi 2)] Tryz.func134 rfl Tryz.ntmps134 (by kernel_rfl) (Nat.le_of_ble_eq_true (by kernel_rfl)) hs.own fun KR510 hKR510 hKP510 a hs => ?_
     refine qsk 1 [0, 1, 2] hs fun a hs => ?_
     refine Vk.seq fun K512 hK512 => ?_
     obtain ⟨C_513, hC_513⟩ := qC hs.own
     refine qdr 17 κ C_513 hs fun w hs hqC_513 => ?_
     have hcl := qO hC_513 hs.own
     refine qdp (fuel := 5) [0, 1, 2, 4, 5, 6, 7, 8, 9, 10, 11, 13, 14, 15] hs hcl hqC_513 fun a hs => ?_
     refine qdl 3 3 (cp b_x0) hs hcl hqC_513 hC_513 rfl fun a hs => ?_
     refine qdl 12 3 (ci v_353.1) hs hcl hqC_513 hC_513 rfl fun a hs => ?_
     refine Vk.dOnly (i := 16) (by kernel_rfl) (Vk.call (some 23) 147 #[pp b_245, vi 0, vi 2] hs (by kernel_rfl) (by kernel_rfl) (by kernel_rfl) ?_)
     refine Vk.enterI [(0, pp b_245), (1, vi 0), (2, vi 2)] Tryz.func147 rfl Tryz.ntmps147 (by kernel_rfl) (Nat.le_of_ble_eq_true (by kernel_rfl)) hs.own fun KR514 hKR514 hKP514 a hs => ?_
     refine qse 1 [(0, pp b_245), (1, vi 0), (2, vi 2)] hs fun a hs => ?_
     refine qsr fun K516 hK516 => ?_
     refine qpu 3 hs fun a hs => ?_
     refine qld 3 (C.map (some b_244)) hs rfl fun a hs => ?_
     refine qpu 7 hs fun a hs => ?_
     refine qva (vi v_274.1) (op := (.lookup 197 (.tmp 10) (.tmp 17) false)) hs (fun o ho => run_lookup (b := b_244) (key := .agg (vals [ci 0, ci 2])) 4 rfl ho (by kernel_rfl) (by kernel_rfl) (by kernel_rfl) _ hs.own) fun a hs => ?_
     refine qpe 1 [(6, vi v_274.1)] hs fun a hs => hK516 _ _ ?_
     clear hK516
     refine wp_ret ?_
     refine hKP514 _ _ ?_
     refine hKR514 _ _ ?_
     refine Vk.ret1 (P := Tryz.prog) (fn := Tryz.f147) (vi v_274.1) hs rfl (by kernel_rfl) ⟨_, _, _, rfl, hs.own, fun a hs => ?_⟩
     replace hcl := qO hC_513 hs.own
     refine ⟨fun _ => hcl, ?_⟩
     obtain ⟨v_519, h_518, hm⟩ := bind_t hm
     refine qdc 17 (wire_Machine_Two.ok _ _ _ _ _ _ _ h_518 _ _ _ b_x0 hs.own) hs fun w a hs => ?_
     refine ⟨fun h => absurd h (by decide), ?_⟩
     refine Vk.dOnly (i := 18) (by kernel_rfl) (Vk.dPure1 [(6, vi v_519.1)] hs (by kernel_rfl) fun a hs => ?_)
     refine ⟨fun h => absurd h (by decide), ?_⟩
     replace hs := hs.pick [6] (L' := [(6, vi v_519.1)]) (by kernel_rfl)
     refine Vk.dDone (by kernel_rfl) ?_
     refine hK512 _ _ ?_
     clear hK512
     refine wp_ret ?_
     refine hKP510 _ _ ?_
     refine hKR510 _ _ ?_
     refine Vk.ret1 (P := Tryz.prog) (fn := Tryz.f134) (vi v_519.1) hs rfl (by kernel_rfl) ⟨_, _, _, rfl, hs.own, fun a hs => ?_⟩
     replace hcl := qO hC_509 hs.own.drop
     refine ⟨fun _ => hcl, ?_⟩
     obtain ⟨v_522, h_521, hm⟩ := bind_t hm
     refine qdc 14 (wire_Machine_Two.ok _ _ _ _ _ _ _ h_521 _ _ _ b_x0 hs.own) hs fun w a hs => ?_
     replace hcl := qO hC_509 hs.own.drop
     refine ⟨fun _ => hcl, ?_⟩
     refine qdp (fuel := 1) [16] hs hcl hqC_509 fun a hs => ?_
     refine qsd 17 1 0 (ci v_522.1) hs rfl fun a w hs => ?_
     refine ⟨fun h => absurd h (by decide), ?_⟩
     replace hs := hs.pick [0, 1, 4, 5, 6, 7, 16, 17, 31, 32] (L' := [(0, pp b_245), (1, .func (.func 134) #[pp b_245] #[]), (4, pp b_460), (5, pp b_462), (6, vi 3), (7, vi 0), (16, vi 3), (17, vi 0), (31, vi 3), (32, vi 2)]) (by kernel_rfl)
     refine Vk.dDone (by kernel_rfl) ?_
     refine hK506 _ _ ?_
     clear hK506
     refine Vk.region ?_
     refine qpk 2 [0, 1, 4, 5, 6, 7, 16, 17, 31, 32] hs fun a hs => hKL503 _ _ ?_
     clear hKL503
     refine Vk.unroll fun KL523 hKL523 => ?_
     refine qsk 1 [0, 1, 4, 5, 6, 7, 16, 17, 31, 32, 33] hs fun a hs => ?_
     refine Vk.seq fun K525 hK525 => ?_
     refine qcf hs ?_
     refine wp_exit ?_
     refine hK473 _ _ ?_
     clear hK473
     refine Vk.region ?_
     refine qpk 2 [0, 1, 4, 5, 6, 16, 17] hs fun a hs => hKL470 _ _ ?_
     clear hKL470
     refine Vk.unroll fun KL526 hKL526 => ?_
     refine qsk 1 [0, 1, 4, 5, 6, 16, 17, 18] hs fun a hs => ?_
     refine qck hs ?_
     refine Vk.seq fun K529 hK529 => ?_
     refine wp_block ?_
     refine qsk 2 [0, 1, 4, 5, 6, 7, 16, 17] hs fun a hs => ?_
     refine qsr fun K531 hK531 => ?_
     refine qpu 8 hs fun a hs => ?_
     refine qld 3 (ci v_388.1) hs rfl fun a hs => ?_
     refine qpu 2 hs fun a hs => ?_
     refine qst 1 1 (ci v_388.1) hs rfl fun a w hs => ?_
     refine qpe 0 [(0, pp b_245), (1, .func (.func 134) #[pp b_245] #[]), (4, pp b_460), (5, pp b_462), (6, vi 3), (7, vi 1), (16, vi 3), (17, vi 1)] hs fun a hs => hK531 _ _ ?_
     clear hK531
     refine qsk 2 [0, 1, 4, 5, 6, 7, 16, 17, 31, 32] hs fun a hs => ?_
     refine wp_block ?_
     refine Vk.unroll0 40 ?_
     refine Vk.unroll fun KL533 hKL533 => ?_
     refine qsk 1 [0, 1, 4, 5, 6, 7, 16, 17, 31, 32, 33] hs fun a hs => ?_
     refine qck hs ?_
     refine Vk.seq fun K536 hK536 => ?_
     refine wp_block ?_
     refine qsk 2 [0, 1, 4, 5, 6, 7, 8, 16, 17, 31, 32] hs fun a hs => ?_
     refine qsk 3 [0, 1, 4, 5, 6, 7, 8, 16, 17, 31, 32, 37] hs fun a hs => ?_
     refine qct hs ?_
     obtain ⟨C_539, hC_539⟩ := qC hs.own.drop
     refine qdr 17 κ C_539 hs fun w hs hqC_539 => ?_
     have hcl := qO hC_539 hs.own.drop
     refine qdp (fuel := 6) [0, 1, 2, 3, 5, 6, 7, 8, 10, 11, 12, 15] hs hcl hqC_539 fun a hs => ?_
     refine qdl 4 2 (cp b_x0) hs hcl hqC_539 hC_539 rfl fun a hs => ?_
     refine qdl 9 0 (ci v_388.1) hs hcl hqC_539 hC_539 rfl fun a hs => ?_
     refine Vk.dOnly (i := 13) (by kernel_rfl) (Vk.call (some 51) 134 #[pp b_245, vi 1, vi 0] hs (by kernel_rfl) (by kernel_rfl) (by kernel_rfl) ?_)
     refine Vk.enterI [(0, pp b_245), (1, vi 1), (2, vi 0)] Tryz.func134 rfl Tryz.ntmps134 (by kernel_rfl) (Nat.le_of_ble_eq_true (by kernel_rfl)) hs.own fun KR540 hKR540 hKP540 a hs => ?_
     refine qsk 1 [0, 1, 2] hs fun a hs => ?_
     refine Vk.seq fun K542 hK542 => ?_
     obtain ⟨C_543, hC_543⟩ := qC hs.own
     refine qdr 17 κ C_543 hs fun w hs hqC_543 => ?_
     have hcl := qO hC_543 hs.own
     refine qdp (fuel := 5) [0, 1, 2, 4, 5, 6, 7, 8, 9, 10, 11, 13, 14, 15] hs hcl hqC_543 fun a hs => ?_
     refine qdl 3 3 (cp b_x0) hs hcl hqC_543 hC_543 rfl fun a hs => ?_
     refine qdl 12 3 (ci v_375.1) hs hcl hqC_543 hC_543 rfl fun a hs => ?_
     refine Vk.dOnly (i := 16) (by kernel_rfl) (Vk.call (some 23) 147 #[pp b_245, vi 1, vi 0] hs (by kernel_rfl) (by kernel_rfl) (by kernel_rfl) ?_)
     refine Vk.enterI [(0, pp b_245), (1, vi 1), (2, vi 0)] Tryz.func147 rfl Tryz.ntmps147 (by kernel_rfl) (Nat.le_of_ble_eq_true (by kernel_rfl)) hs.own fun KR544 hKR544 hKP544 a hs => ?_
     refine qse 1 [(0, pp b_245), (1, vi 1), (2, vi 0)] hs fun a hs => ?_
     refine qsr fun K546 hK546 => ?_
     refine qpu 3 hs fun a hs => ?_
     refine qld 3 (C.map (some b_244)) hs rfl fun a hs => ?_
     refine qpu 7 hs fun a hs => ?_
     refine qva (vi v_266.1) (op := (.lookup 197 (.tmp 10) (.tmp 17) false)) hs (fun o ho => run_lookup (b := b_244) (key := .agg (vals [ci 0, ci 1])) 4 rfl ho (by kernel_rfl) (by kernel_rfl) (by kernel_rfl) _ hs.own) fun a hs => ?_
     refine qpe 1 [(6, vi v_266.1)] hs fun a hs => hK546 _ _ ?_
     clear hK546
     refine wp_ret ?_
     refine hKP544 _ _ ?_
     refine hKR544 _ _ ?_
     refine Vk.ret1 (P := Tryz.prog) (fn := Tryz.f147) (vi v_266.1) hs rfl (by kernel_rfl) ⟨_, _, _, rfl, hs.own, fun a hs => ?_⟩
     replace hcl := qO hC_543 hs.own
     refine ⟨fun _ => hcl, ?_⟩
     obtain ⟨v_549, h_548, hm⟩ := bind_t hm
     refine qdc 17 (wire_Machine_Two.ok _ _ _ _ _ _ _ h_548 _ _ _ b_x0 hs.own) hs fun w a hs => ?_
     refine ⟨fun h => absurd h (by decide), ?_⟩
     refine Vk.dOnly (i := 18) (by kernel_rfl) (Vk.dPure1 [(6, vi v_549.1)] hs (by kernel_rfl) fun a hs => ?_)
     refine ⟨fun h => absurd h (by decide), ?_⟩
     replace hs := hs.pick [6] (L' := [(6, vi v_549.1)]) (by kernel_rfl)
     refine Vk.dDone (by kernel_rfl) ?_
     refine hK542 _ _ ?_
     clear hK542
     refine wp_ret ?_
     refine hKP540 _ _ ?_
     refine hKR540 _ _ ?_
     refine Vk.ret1 (P := Tryz.prog) (fn := Tryz.f134) (vi v_549.1) hs rfl (by kernel_rfl) ⟨_, _, _, rfl, hs.own, fun a hs => ?_⟩
     replace hcl := qO hC_539 hs.own.drop
     refine ⟨fun _ => hcl, ?_⟩
     obtain ⟨v_552, h_551, hm⟩ := bind_t hm
     refine qdc 14 (wire_Machine_Two.ok _ _ _ _ _ _ _ h_551 _ _ _ b_x0 hs.own) hs fun w a hs => ?_
     replace hcl := qO hC_539 hs.own.drop
     refine ⟨fun _ => hcl, ?_⟩
     refine qdp (fuel := 1) [16] hs hcl hqC_539 fun a hs => ?_
     refine qsd 17 1 1 (ci v_552.1) hs rfl fun a w hs => ?_
     refine ⟨fun h => absurd h (by decide), ?_⟩
     replace hs := hs.pick [0, 1, 4, 5, 6, 7, 16, 17, 31, 32] (L' := [(0, pp b_245), (1, .func (.func 134) #[pp b_245] #[]), (4, pp b_460), (5, pp b_462), (6, vi 3), (7, vi 1), (16, vi 3), (17, vi 1), (31, vi 3), (32, vi 0)]) (by kernel_rfl)
     refine Vk.dDone (by kernel_rfl) ?_
     refine hK536 _ _ ?_
     clear hK536
     refine Vk.region ?_
     refine qpk 2 [0, 1, 4, 5, 6, 7, 16, 17, 31, 32] hs fun a hs => hKL533 _ _ ?_
     clear hKL533
     refine Vk.unroll fun KL553 hKL553 => ?_
     refine qsk 1 [0, 1, 4, 5, 6, 7, 16, 17, 31, 32, 33] hs fun a hs => ?_
     refine qck hs ?_
     refine Vk.seq fun K556 hK556 => ?_
     refine wp_block ?_
     refine qsk 2 [0, 1, 4, 5, 6, 7, 8, 16, 17, 31, 32] hs fun a hs => ?_
     refine qsk 3 [0, 1, 4, 5, 6, 7, 8, 16, 17, 31, 32, 37] hs fun a hs => ?_
     refine qcf hs ?_
     refine wp_skip ?_
     refine hK556 _ _ ?_
     clear hK556
     refine Vk.region ?_
     refine qpk 2 [0, 1, 4, 5, 6, 7, 16, 17, 31, 32] hs fun a hs => hKL553 _ _ ?_
     clear hKL553
     refine Vk.unroll fun KL559 hKL559 => ?_
     refine qse 1 [(0, pp b_245), (1, .func (.func 134) #[pp b_245] #[]), (4, pp b_460), (5, pp b_462), (6, vi 3), (7, vi 1), (16, vi 3), (17, vi 1), (31, vi 3), (32, vi 2), (33, .bool true)] hs fun a hs => ?_
     refine qck hs ?_
     refine Vk.seq fun K562 hK562 => ?_
     refine wp_block ?_
     refine qsk 2 [0, 1, 4, 5, 6, 7, 8, 16, 17, 31, 32] hs fun a hs => ?_
     refine qsk 3 [0, 1, 4, 5, 6, 7, 8, 16, 17, 31, 32, 37] hs fun a hs => ?_
     refine qct hs ?_
     obtain ⟨C_565, hC_565⟩ := qC hs.own.drop
     refine qdr 17 κ C_565 hs fun w hs hqC_565 => ?_
     have hcl := qO hC_565 hs.own.drop
     refine qdp (fuel := 6) [0, 1, 2, 3, 5, 6, 7, 8, 10, 11, 12, 15] hs hcl hqC_565 fun a hs => ?_
     refine qdl 4 2 (cp b_x0) hs hcl hqC_565 hC_565 rfl fun a hs => ?_
     refine qdl 9 0 (ci v_552.1) hs hcl hqC_565 hC_565 rfl fun a hs => ?_
     refine Vk.dOnly (i := 13) (by kernel_rfl) (Vk.call (some 51) 134 #[pp b_245, vi 1, vi 2] hs (by kernel_rfl) (by kernel_rfl) (by kernel_rfl) ?_)
     refine Vk.enterI [(0, pp b_245), (1, vi 1), (2, vi 2)] Tryz.func134 rfl Tryz.ntmps134 (by kernel_rfl) (Nat.le_of_ble_eq_true (by kernel_rfl)) hs.own fun KR566 hKR566 hKP566 a hs => ?_
     refine qsk 1 [0, 1, 2] hs fun a hs => ?_
     refine Vk.seq fun K568 hK568 => ?_
     obtain ⟨C_569, hC_569⟩ := qC hs.own
     refine qdr 17 κ C_569 hs fun w hs hqC_569 => ?_
     have hcl := qO hC_569 hs.own
     refine qdp (fuel := 5) [0, 1, 2, 4, 5, 6, 7, 8, 9, 10, 11, 13, 14, 15] hs hcl hqC_569 fun a hs => ?_
     refine qdl 3 3 (cp b_x0) hs hcl hqC_569 hC_569 rfl fun a hs => ?_
     refine qdl 12 3 (ci v_401.1) hs hcl hqC_569 hC_569 rfl fun a hs => ?_
     refine Vk.dOnly (i := 16) (by kernel_rfl) (Vk.call (some 23) 147 #[pp b_245, vi 1, vi 2] hs (by kernel_rfl) (by kernel_rfl) (by kernel_rfl) ?_)
     refine Vk.enterI [(0, pp b_245), (1, vi 1), (2, vi 2)] Tryz.func147 rfl Tryz.ntmps147 (by kernel_rfl) (Nat.le_of_ble_eq_true (by kernel_rfl)) hs.own fun KR570 hKR570 hKP570 a hs => ?_
     refine qsk 1 [0, 1, 2] hs fun a hs => ?_
     refine qsr fun K572 hK572 => ?_
     refine qpu 3 hs fun a hs => ?_
     refine qld 3 (C.map (some b_244)) hs rfl fun a hs => ?_
     refine qpu 7 hs fun a hs => ?_
     refine qva (vi v_291.1) (op := (.lookup 197 (.tmp 10) (.tmp 17) false)) hs (fun o ho => run_lookup (b := b_244) (key := .agg (vals [ci 1, ci 2])) 4 rfl ho (by kernel_rfl) (by kernel_rfl) (by kernel_rfl) _ hs.own) fun a hs => ?_
     refine qpe 1 [(6, vi v_291.1)] hs fun a hs => hK572 _ _ ?_
     clear hK572
     refine wp_ret ?_
     refine hKP570 _ _ ?_
     refine hKR570 _ _ ?_
     refine Vk.ret1 (P := Tryz.prog) (fn := Tryz.f147) (vi v_291.1) hs rfl (by kernel_rfl) ⟨_, _, _, rfl, hs.own, fun a hs => ?_⟩
     replace hcl := qO hC_569 hs.own
     refine ⟨fun _ => hcl, ?_⟩
     obtain ⟨v_575, h_574, hm⟩ := bind_t hm
     refine qdc 17 (wire_Machine_Two.ok _ _ _ _ _ _ _ h_574 _ _ _ b_x0 hs.own) hs fun w a hs => ?_
     refine ⟨fun h => absurd h (by decide), ?_⟩
     refine Vk.dOnly (i := 18) (by kernel_rfl) (Vk.dPure1 [(6, vi v_575.1)] hs (by kernel_rfl) fun a hs => ?_)
     refine ⟨fun h => absurd h (by decide), ?_⟩
     replace hs := hs.pick [6] (L' := [(6, vi v_575.1)]) (by kernel_rfl)
     refine Vk.dDone (by kernel_rfl) ?_
     refine hK568 _ _ ?_
     clear hK568
     refine wp_ret ?_
     refine hKP566 _ _ ?_
     refine hKR566 _ _ ?_
     refine Vk.ret1 (P := Tryz.prog) (fn := Tryz.f134) (vi v_575.1) hs rfl (by kernel_rfl) ⟨_, _, _, rfl, hs.own, fun a hs => ?_⟩
     replace hcl := qO hC_565 hs.own.drop
     refine ⟨fun _ => hcl, ?_⟩
     obtain ⟨v_578, h_577, hm⟩ := bind_t hm
     refine qdc 14 (wire_Machine_Two.ok _ _ _ _ _ _ _ h_577 _ _ _ b_x0 hs.own) hs fun w a hs => ?_
     replace hcl := qO hC_565 hs.own.drop
     refine ⟨fun _ => hcl, ?_⟩
     refine qdp (fuel := 1) [16] hs hcl hqC_565 fun a hs => ?_
     refine qsd 17 1 1 (ci v_578.1) hs rfl fun a w hs => ?_
     refine ⟨fun h => absurd h (by decide), ?_⟩
     replace hs := hs.pick [0, 1, 4, 5, 6, 7, 16, 17, 31, 32] (L' := [(0, pp b_245), (1, .func (.func 134) #[pp b_245] #[]), (4, pp b_460), (5, pp b_462), (6, vi 3), (7, vi 1), (16, vi 3), (17, vi 1), (31, vi 3), (32, vi 2)]) (by kernel_rfl)
     refine Vk.dDone (by kernel_rfl) ?_
     refine hK562 _ _ ?_
     clear hK562
     refine Vk.region ?_
     refine qpk 2 [0, 1, 4, 5, 6, 7, 16, 17, 31, 32] hs fun a hs => hKL559 _ _ ?_
     clear hKL559
     refine Vk.unroll fun KL579 hKL579 => ?_
     refine qsk 1 [0, 1, 4, 5, 6, 7, 16, 17, 31, 32, 33] hs fun a hs => ?_
     refine Vk.seq fun K581 hK581 => ?_
     refine qcf hs ?_
     refine wp_exit ?_
     refine hK529 _ _ ?_
     clear hK529
     refine Vk.region ?_
     refine qpk 2 [0, 1, 4, 5, 6, 16, 17] hs fun a hs => hKL526 _ _ ?_
     clear hKL526
     refine Vk.unroll fun KL582 hKL582 => ?_
     refine qsk 1 [0, 1, 4, 5, 6, 16, 17, 18] hs fun a hs => ?_
     refine qck hs ?_
     refine Vk.seq fun K585 hK585 => ?_
     refine wp_block ?_
     refine qsk 2 [0, 1, 4, 5, 6, 7, 16, 17] hs fun a hs => ?_
     refine qsr fun K587 hK587 => ?_
     refine qpu 8 hs fun a hs => ?_
     refine qld 3 (ci v_449.1) hs rfl fun a hs => ?_
     refine qpu 2 hs fun a hs => ?_
     refine qst 1 2 (ci v_449.1) hs rfl fun a w hs => ?_
     refine qpe 0 [(0, pp b_245), (1, .func (.func 134) #[pp b_245] #[]), (4, pp b_460), (5, pp b_462), (6, vi 3), (7, vi 2), (16, vi 3), (17, vi 2)] hs fun a hs => hK587 _ _ ?_
     clear hK587
     refine qsk 2 [0, 1, 4, 5, 6, 7, 16, 17, 31, 32] hs fun a hs => ?_
     refine wp_block ?_
     refine Vk.unroll0 40 ?_
     refine Vk.unroll fun KL589 hKL589 => ?_
     refine qsk 1 [0, 1, 4, 5, 6, 7, 16, 17, 31, 32, 33] hs fun a hs => ?_
     refine qck hs ?_
     refine Vk.seq fun K592 hK592 => ?_
     refine wp_block ?_
     refine qsk 2 [0, 1, 4, 5, 6, 7, 8, 16, 17, 31, 32] hs fun a hs => ?_
     refine qsk 3 [0, 1, 4, 5, 6, 7, 8, 16, 17, 31, 32, 37] hs fun a hs => ?_
     refine qct hs ?_
     obtain ⟨C_595, hC_595⟩ := qC hs.own.drop
     refine qdr 17 κ C_595 hs fun w hs hqC_595 => ?_
     have hcl := qO hC_595 hs.own.drop
     refine qdp (fuel := 6) [0, 1, 2, 3, 5, 6, 7, 8, 10, 11, 12, 15] hs hcl hqC_595 fun a hs => ?_
     refine qdl 4 2 (cp b_x0) hs hcl hqC_595 hC_595 rfl fun a hs => ?_
     refine qdl 9 0 (ci v_449.1) hs hcl hqC_595 hC_595 rfl fun a hs => ?_
     refine Vk.dOnly (i := 13) (by kernel_rfl) (Vk.call (some 51) 134 #[pp b_245, vi 2, vi 0] hs (by kernel_rfl) (by kernel_rfl) (by kernel_rfl) ?_)
     refine Vk.enterI [(0, pp b_245), (1, vi 2), (2, vi 0)] Tryz.func134 rfl Tryz.ntmps134 (by kernel_rfl) (Nat.le_of_ble_eq_true (by kernel_rfl)) hs.own fun KR596 hKR596 hKP596 a hs => ?_
     refine qsk 1 [0, 1, 2] hs fun a hs => ?_
     refine Vk.seq fun K598 hK598 => ?_
     obtain ⟨C_599, hC_599⟩ := qC hs.own
     refine qdr 17 κ C_599 hs fun w hs hqC_599 => ?_
     have hcl := qO hC_599 hs.own
     refine qdp (fuel := 5) [0, 1, 2, 4, 5, 6, 7, 8, 9, 10, 11, 13, 14, 15] hs hcl hqC_599 fun a hs => ?_
     refine qdl 3 3 (cp b_x0) hs hcl hqC_599 hC_599 rfl fun a hs => ?_
     refine qdl 12 3 (ci v_423.1) hs hcl hqC_599 hC_599 rfl fun a hs => ?_
     refine Vk.dOnly (i := 16) (by kernel_rfl) (Vk.call (some 23) 147 #[pp b_245, vi 2, vi 0] hs (by kernel_rfl) (by kernel_rfl) (by kernel_rfl) ?_)
     refine Vk.enterI [(0, pp b_245), (1, vi 2), (2, vi 0)] Tryz.func147 rfl Tryz.ntmps147 (by kernel_rfl) (Nat.le_of_ble_eq_true (by kernel_rfl)) hs.own fun KR600 hKR600 hKP600 a hs => ?_
     refine qse 1 [(0, pp b_245), (1, vi 2), (2, vi 0)] hs fun a hs => ?_
     refine qsr fun K602 hK602 => ?_
     refine qpu 3 hs fun a hs => ?_
     refine qld 3 (C.map (some b_244)) hs rfl fun a hs => ?_
     refine qpu 7 hs fun a hs => ?_
     refine qva (vi v_274.1) (op := (.lookup 197 (.tmp 10) (.tmp 17) false)) hs (fun o ho => run_lookup (b := b_244) (key := .agg (vals [ci 0, ci 2])) 4 rfl ho (by kernel_rfl) (by kernel_rfl) (by kernel_rfl) _ hs.own) fun a hs => ?_
     refine qpe 1 [(6, vi v_274.1)] hs fun a hs => hK602 _ _ ?_
     clear hK602
     refine wp_ret ?_
     refine hKP600 _ _ ?_
     refine hKR600 _ _ ?_
     refine Vk.ret1 (P := Tryz.prog) (fn := Tryz.f147) (vi v_274.1) hs rfl (by kernel_rfl) ⟨_, _, _, rfl, hs.own, fun a hs => ?_⟩
     replace hcl := qO hC_599 hs.own
     refine ⟨fun _ => hcl, ?_⟩
     obtain ⟨v_605, h_604, hm⟩ := bind_t hm
     refine qdc 17 (wire_Machine_Two.ok _ _ _ _ _ _ _ h_604 _ _ _ b_x0 hs.own) hs fun w a hs => ?_
     refine ⟨fun h => absurd h (by decide), ?_⟩
     refine Vk.dOnly (i := 18) (by kernel_rfl) (Vk.dPure1 [(6, vi v_605.1)] hs (by kernel_rfl) fun a hs => ?_)
     refine ⟨fun h => absurd h (by decide), ?_⟩
     replace hs := hs.pick [6] (L' := [(6, vi v_605.1)]) (by kernel_rfl)
     refine Vk.dDone (by kernel_rfl) ?_
     refine hK598 _ _ ?_
     clear hK598
     refine wp_ret ?_
     refine hKP596 _ _ ?_
     refine hKR596 _ _ ?_
     refine Vk.ret1 (P := Tryz.prog) (fn := Tryz.f134) (vi v_605.1) hs rfl (by kernel_rfl) ⟨_, _, _, rfl, hs.own, fun a hs => ?_⟩
     replace hcl := qO hC_595 hs.own.drop
     refine ⟨fun _ => hcl, ?_⟩
     obtain ⟨v_608, h_607, hm⟩ := bind_t hm
     refine qdc 14 (wire_Machine_Two.ok _ _ _ _ _ _ _ h_607 _ _ _ b_x0 hs.own) hs fun w a hs => ?_
     replace hcl := qO hC_595 hs.own.drop
     refine ⟨fun _ => hcl, ?_⟩
     refine qdp (fuel := 1) [16] hs hcl hqC_595 fun a hs => ?_
     refine qsd 17 1 2 (ci v_608.1) hs rfl fun a w hs => ?_
     refine ⟨fun h => absurd h (by decide), ?_⟩
     replace hs := hs.pick [0, 1, 4, 5, 6, 7, 16, 17, 31, 32] (L' := [(0, pp b_245), (1, .func (.func 134) #[pp b_245] #[]), (4, pp b_460), (5, pp b_462), (6, vi 3), (7, vi 2), (16, vi 3), (17, vi 2), (31, vi 3), (32, vi 0)]) (by kernel_rfl)
     refine Vk.dDone (by kernel_rfl) ?_
     refine hK592 _ _ ?_
     clear hK592
     refine Vk.region ?_
     refine qpk 2 [0, 1, 4, 5, 6, 7, 16, 17, 31, 32] hs fun a hs => hKL589 _ _ ?_
     clear hKL589
     refine Vk.unroll fun KL609 hKL609 => ?_
     refine qsk 1 [0, 1, 4, 5, 6, 7, 16, 17, 31, 32, 33] hs fun a hs => ?_
     refine qck hs ?_
     refine Vk.seq fun K612 hK612 => ?_
     refine wp_block ?_
     refine qsk 2 [0, 1, 4, 5, 6, 7, 8, 16, 17, 31, 32] hs fun a hs => ?_
     refine qsk 3 [0, 1, 4, 5, 6, 7, 8, 16, 17, 31, 32, 37] hs fun a hs => ?_
     refine qct hs ?_
     obtain ⟨C_615, hC_615⟩ := qC hs.own.drop
     refine qdr 17 κ C_615 hs fun w hs hqC_615 => ?_
     have hcl := qO hC_615 hs.own.drop
     refine qdp (fuel := 6) [0, 1, 2, 3, 5, 6, 7, 8, 10, 11, 12, 15] hs hcl hqC_615 fun a hs => ?_
     refine qdl 4 2 (cp b_x0) hs hcl hqC_615 hC_615 rfl fun a hs => ?_
     refine qdl 9 0 (ci v_608.1) hs hcl hqC_615 hC_615 rfl fun a hs => ?_
     refine Vk.dOnly (i := 13) (by kernel_rfl) (Vk.call (some 51) 134 #[pp b_245, vi 2, vi 1] hs (by kernel_rfl) (by kernel_rfl) (by kernel_rfl) ?_)
     refine Vk.enterI [(0, pp b_245), (1, vi 2), (2, vi 1)] Tryz.func134 rfl Tryz.ntmps134 (by kernel_rfl) (Nat.le_of_ble_eq_true (by kernel_rfl)) hs.own fun KR616 hKR616 hKP616 a hs => ?_
     refine qsk 1 [0, 1, 2] hs fun a hs => ?_
     refine Vk.seq fun K618 hK618 => ?_
     obtain ⟨C_619, hC_619⟩ := qC hs.own
     refine qdr 17 κ C_619 hs fun w hs hqC_619 => ?_
     have hcl := qO hC_619 hs.own
     refine qdp (fuel := 5) [0, 1, 2, 4, 5, 6, 7, 8, 9, 10, 11, 13, 14, 15] hs hcl hqC_619 fun a hs => ?_
     refine qdl 3 3 (cp b_x0) hs hcl hqC_619 hC_619 rfl fun a hs => ?_
     refine qdl 12 3 (ci v_436.1) hs hcl hqC_619 hC_619 rfl fun a hs => ?_
     refine Vk.dOnly (i := 16) (by kernel_rfl) (Vk.call (some 23) 147 #[pp b_245, vi 2, vi 1] hs (by kernel_rfl) (by kernel_rfl) (by kernel_rfl) ?_)
     refine Vk.enterI [(0, pp b_245), (1, vi 2), (2, vi 1)] Tryz.func147 rfl Tryz.ntmps147 (by kernel_rfl) (Nat.le_of_ble_eq_true (by kernel_rfl)) hs.own fun KR620 hKR620 hKP620 a hs => ?_
     refine qse 1 [(0, pp b_245), (1, vi 2), (2, vi 1)] hs fun a hs => ?_
     refine qsr fun K622 hK622 => ?_
     refine qpu 3 hs fun a hs => ?_
     refine qld 3 (C.map (some b_244)) hs rfl fun a hs => ?_
     refine qpu 7 hs fun a hs => ?_
     refine qva (vi v_291.1) (op := (.lookup 197 (.tmp 10) (.tmp 17) false)) hs (fun o ho => run_lookup (b := b_244) (key := .agg (vals [ci 1, ci 2])) 4 rfl ho (by kernel_rfl) (by kernel_rfl) (by kernel_rfl) _ hs.own) fun a hs => ?_
     refine qpe 1 [(6, vi v_291.1)] hs fun a hs => hK622 _ _ ?_
     clear hK622
     refine wp_ret ?_
     refine hKP620 _ _ ?_
     refine hKR620 _ _ ?_
     refine Vk.ret1 (P := Tryz.prog) (fn := Tryz.f147) (vi v_291.1) hs rfl (by kernel_rfl) ⟨_, _, _, rfl, hs.own, fun a hs => ?_⟩
     replace hcl := qO hC_619 hs.own
     refine ⟨fun _ => hcl, ?_⟩
     obtain ⟨v_625, h_624, hm⟩ := bind_t hm
     refine qdc 17 (wire_Machine_Two.ok _ _ _ _ _ _ _ h_624 _ _ _ b_x0 hs.own) hs fun w a hs => ?_
     refine ⟨fun h => absurd h (by decide), ?_⟩
     refine Vk.dOnly (i := 18) (by kernel_rfl) (Vk.dPure1 [(6, vi v_625.1)] hs (by kernel_rfl) fun a hs => ?_)
     refine ⟨fun h => absurd h (by decide), ?_⟩
     replace hs := hs.pick [6] (L' := [(6, vi v_625.1)]) (by kernel_rfl)
     refine Vk.dDone (by kernel_rfl) ?_
     refine hK618 _ _ ?_
     clear hK618
     refine wp_ret ?_
     refine hKP616 _ _ ?_
     refine hKR616 _ _ ?_
     refine Vk.ret1 (P := Tryz.prog) (fn := Tryz.f134) (vi v_625.1) hs rfl (by kernel_rfl) ⟨_, _, _, rfl, hs.own, fun a hs => ?_⟩
     replace hcl := qO hC_615 hs.own.drop
     refine ⟨fun _ => hcl, ?_⟩
     obtain ⟨v_628, h_627, hm⟩ := bind_t hm
     refine qdc 14 (wire_Machine_Two.ok _ _ _ _ _ _ _ h_627 _ _ _ b_x0 hs.own) hs fun w a hs => ?_
     replace hcl := qO hC_615 hs.own.drop
     refine ⟨fun _ => hcl, ?_⟩
     refine qdp (fuel := 1) [16] hs hcl hqC_615 fun a hs => ?_
     refine qsd 17 1 2 (ci v_628.1) hs rfl fun a w hs => ?_
     refine ⟨fun h => absurd h (by decide), ?_⟩
     replace hs := hs.pick [0, 1, 4, 5, 6, 7, 16, 17, 31, 32] (L' := [(0, pp b_245), (1, .func (.func 134) #[pp b_245] #[]), (4, pp b_460), (5, pp b_462), (6, vi 3), (7, vi 2), (16, vi 3), (17, vi 2), (31, vi 3), (32, vi 1)]) (by kernel_rfl)
     refine Vk.dDone (by kernel_rfl) ?_
     refine hK612 _ _ ?_
     clear hK612
     refine Vk.region ?_
     refine qpk 2 [0, 1, 4, 5, 6, 7, 16, 17, 31, 32] hs fun a hs => hKL609 _ _ ?_
     clear hKL609
     refine Vk.unroll fun KL629 hKL629 => ?_
     refine qsk 1 [0, 1, 4, 5, 6, 7, 16, 17, 31, 32, 33] hs fun a hs => ?_
     refine qck hs ?_
     refine Vk.seq fun K632 hK632 => ?_
     refine wp_block ?_
     refine qsk 2 [0, 1, 4, 5, 6, 7, 8, 16, 17, 31, 32] hs fun a hs => ?_
     refine qsk 3 [0, 1, 4, 5, 6, 7, 8, 16, 17, 31, 32, 37] hs fun a hs => ?_
     refine qcf hs ?_
     refine wp_skip ?_
     refine hK632 _ _ ?_
     clear hK632
     refine Vk.region ?_
     refine qpk 2 [0, 1, 4, 5, 6, 7, 16, 17, 31, 32] hs fun a hs => hKL629 _ _ ?_
     clear hKL629
     refine Vk.unroll fun KL635 hKL635 => ?_
     refine qse 1 [(0, pp b_245), (1, .func (.func 134) #[pp b_245] #[]), (4, pp b_460), (5, pp b_462), (6, vi 3), (7, vi 2), (16, vi 3), (17, vi 2), (31, vi 3), (32, vi 3), (33, .bool false)] hs fun a hs => ?_
     refine Vk.seq fun K637 hK637 => ?_
     refine qcf hs ?_
     refine wp_exit ?_
     refine hK585 _ _ ?_
     clear hK585
     refine Vk.region ?_
     refine qpk 2 [0, 1, 4, 5, 6, 16, 17] hs fun a hs => hKL582 _ _ ?_
     clear hKL582
     refine Vk.unroll fun KL638 hKL638 => ?_
     refine qsk 1 [0, 1, 4, 5, 6, 16, 17, 18] hs fun a hs => ?_
     refine Vk.seq fun K640 hK640 => ?_
     refine qcf hs ?_
     refine wp_exit ?_
     refine hK468 _ _ ?_
     clear hK468
     refine qsr fun K641 hK641 => ?_
     refine qln 1 ([ci v_522.1, ci v_578.1, ci v_628.1]) hs rfl fun a hs => ?_
     refine qsa 2 [ci v_522.1, ci v_578.1, ci v_628.1] hs rfl fun a w hs => ?_
     refine qpe 0 [(4, pp b_460)] hs fun a hs => hK641 _ _ ?_
     clear hK641
     refine wp_ret ?_
     refine hKP458 _ _ ?_
     refine hKR458 _ _ ?_
     refine Vk.retC (P := Tryz.prog) (fn := Tryz.f133) [ci v_522.1, ci v_578.1, ci v_628.1] hs rfl (by kernel_rfl) (sz := 3) (by kernel_rfl) rfl (CellsAt.all 2 rfl) ⟨_, _, _, rfl, hs.own, fun a hs => ?_⟩
     refine qal 75 [ci 0, ci 0, ci 0] 8 hs fun b_642 w a hs => ?_
     refine qsa 0 [ci v_522.1, ci v_578.1, ci v_628.1] hs rfl fun a w hs => ?_
     refine qpk 0 [0, 6, 8] hs fun a hs => hK457 _ _ ?_
     clear hK457
     refine qsr fun K643 hK643 => ?_
     refine qpu 1 hs fun a hs => ?_
     obtain ⟨v_646, h_645, hm⟩ := bind_t hm
     refine qcl (wire_Machine_End.ok _ _ _ h_645 _ _ _ b_x0 hs.own.f1) hs fun w a hs => ?_
     refine qpe 0 [(6, pp b_4), (8, pp b_642)] hs fun a hs => hK643 _ _ ?_
     clear hK643
     refine qsr fun K647 hK647 => ?_
     refine qln 1 ([ci v_522.1, ci v_578.1, ci v_628.1]) hs rfl fun a hs => ?_
     refine qsa 8 [ci v_522.1, ci v_578.1, ci v_628.1] hs rfl fun a w hs => ?_
     refine qpe 0 [(6, pp b_4)] hs fun a hs => hK647 _ _ ?_
     clear hK647
     refine wp_ret ?_
     exact Vk.retC [ci v_522.1, ci v_578.1, ci v_628.1] hs rfl (by kernel_rfl) (sz := 3) (by kernel_rfl) rfl (CellsAt.all 8 rfl) (hRR ▸ by cases hm; exact ⟨rfl, (hs.own.too [0] 11)⟩)
    ·replace hm := bif_f hm hb
     cases hm
   ·replace hm := bif_f hm hb
    cases hm
  ·replace hm := bif_f hm hb
   cases hm

end Go.Proofs.YtkabdodcacfmlaaGreat
