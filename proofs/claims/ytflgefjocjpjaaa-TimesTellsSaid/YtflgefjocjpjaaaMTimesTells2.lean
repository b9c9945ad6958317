/- Of each Go function that TimesTells comes to: a model in plain Lean, and that the program's call does what the model says; no condition. -/
import Derived.Test.YtflgefjocjpjaaaProg
import Derived.Test.YtflgefjocjpjaaaVaepjpifb
import Derived.Test.YtflgefjocjpjaaaMTimesTells1
namespace Go.Proofs.Ytflgefjocjpjaaa
open Go Go.Vk
set_option linter.unusedVariables false


abbrev times_Isw.R (κ : Ctx) (S : List HP) (x0 : Twire_Machine) (x1 : Cells) (x2 : Cells) (b_x0 : Nat) (r : (Cells × Twire_Machine)) : Ending → World → Prop := fun e w' => e = .returned (.agg (vals r.1)) ∧ Own κ w' (Twire_Machine.own b_x0 r.2 :: S)
def times_Isw.m (k : Nat) (x0 : Twire_Machine) (x1 : Cells) (x2 : Cells) : Option (Cells × Twire_Machine) := (wire_Machine_N.m k x0).bind fun v_10 => (bif v_10 == 2 then (wire_Machine_Begin.m k x0 3).bind fun v_14 => (if x1.length = 3 then (if x2.length = 3 then (wire_Machine_N.m k v_14).bind fun v_29 => (bif v_29 == 2 then (wire_Machine_Rand.m k v_14 (-1)).bind fun v_45 => (getI .i64 x1 (0)).bind fun v_76 => (getI .i64 x2 (0)).bind fun v_78 => (wire_Machine_Two.m k v_45.2 7 0 v_76 v_78).bind fun v_81 => (getI .i64 x1 (0)).bind fun v_89 => (getI .i64 x2 (1)).bind fun v_91 => (wire_Machine_Two.m k v_81.2 7 0 v_89 v_91).bind fun v_94 => (getI .i64 x1 (1)).bind fun v_111 => (getI .i64 x2 (0)).bind fun v_113 => (wire_Machine_Two.m k v_94.2 7 1 v_111 v_113).bind fun v_116 => (getI .i64 x1 (1)).bind fun v_124 => (getI .i64 x2 (1)).bind fun v_126 => (wire_Machine_Two.m k v_116.2 7 1 v_124 v_126).bind fun v_129 => (wire_Machine_N.m k v_129.2).bind fun v_147 => (bif v_147 == 2 then (wire_Machine_Two.m k v_129.2 5 0 v_81.1 v_45.1).bind fun v_180 => (wire_Machine_Two.m k v_180.2 5 1 v_45.1 v_94.1).bind fun v_209 => (wire_Machine_Two.m k v_209.2 5 1 v_209.1 v_116.1).bind fun v_212 => (wire_Machine_Two.m k v_212.2 5 1 v_129.1 v_212.1).bind fun v_215 => (wire_Machine_End.m k v_215.2).bind fun v_233 => some ([ci v_180.1, ci v_215.1, ci (-1)], v_233) else none) else none) else none) else none) else (bif v_10 == 3 then (wire_Machine_Begin.m k x0 3).bind fun v_238 => (if x1.length = 3 then (if x2.length = 3 then (wire_Machine_N.m k v_238).bind fun v_253 => (bif v_253 == 3 then (wire_Machine_Rand.m k v_238 (-1)).bind fun v_269 => (wire_Machine_Rand.m k v_269.2 (-1)).bind fun v_277 => (wire_Machine_Rand.m k v_277.2 (-1)).bind fun v_294 => (getI .i64 x1 (0)).bind fun v_325 => (getI .i64 x2 (0)).bind fun v_327 => (wire_Machine_Two.m k v_294.2 7 0 v_325 v_327).bind fun v_330 => (getI .i64 x1 (0)).bind fun v_338 => (getI .i64 x2 (1)).bind fun v_340 => (wire_Machine_Two.m k v_330.2 7 0 v_338 v_340).bind fun v_343 => (getI .i64 x1 (0)).bind fun v_351 => (getI .i64 x2 (2)).bind fun v_353 => (wire_Machine_Two.m k v_343.2 7 0 v_351 v_353).bind fun v_356 => (getI .i64 x1 (1)).bind fun v_373 => (getI .i64 x2 (0)).bind fun v_375 => (wire_Machine_Two.m k v_356.2 7 1 v_373 v_375).bind fun v_378 => (getI .i64 x1 (1)).bind fun v_386 => (getI .i64 x2 (1)).bind fun v_388 => (wire_Machine_Two.m k v_378.2 7 1 v_386 v_388).bind fun v_391 => (getI .i64 x1 (1)).bind fun v_399 => (getI .i64 x2 (2)).bind fun v_401 => (wire_Machine_Two.m k v_391.2 7 1 v_399 v_401).bind fun v_404 => (getI .i64 x1 (2)).bind fun v_421 => (getI .i64 x2 (0)).bind fun v_423 => (wire_Machine_Two.m k v_404.2 7 2 v_421 v_423).bind fun v_426 => (getI .i64 x1 (2)).bind fun v_434 => (getI .i64 x2 (1)).bind fun v_436 => (wire_Machine_Two.m k v_426.2 7 2 v_434 v_436).bind fun v_439 => (getI .i64 x1 (2)).bind fun v_447 => (getI .i64 x2 (2)).bind fun v_449 => (wire_Machine_Two.m k v_439.2 7 2 v_447 v_449).bind fun v_452 => (wire_Machine_N.m k v_452.2).bind fun v_470 => (bif v_470 == 3 then (wire_Machine_Two.m k v_452.2 5 0 v_330.1 v_269.1).bind fun v_503 => (wire_Machine_Two.m k v_503.2 5 0 v_503.1 v_277.1).bind fun v_521 => (wire_Machine_Two.m k v_521.2 5 1 v_269.1 v_343.1).bind fun v_550 => (wire_Machine_Two.m k v_550.2 5 1 v_550.1 v_378.1).bind fun v_553 => (wire_Machine_Two.m k v_553.2 5 1 v_391.1 v_553.1).bind fun v_556 => (wire_Machine_Two.m k v_556.2 5 1 v_556.1 v_294.1).bind fun v_580 => (wire_Machine_Two.m k v_580.2 5 2 v_277.1 v_356.1).bind fun v_609 => (wire_Machine_Two.m k v_609.2 5 2 v_609.1 v_426.1).bind fun v_612 => (wire_Machine_Two.m k v_612.2 5 2 v_452.1 v_612.1).bind fun v_615 => (wire_Machine_Two.m k v_615.2 5 2 v_294.1 v_404.1).bind fun v_634 => (wire_Machine_Two.m k v_634.2 5 2 v_634.1 v_439.1).bind fun v_637 => (wire_Machine_Two.m k v_637.2 5 2 v_615.1 v_637.1).bind fun v_640 => (wire_Machine_End.m k v_640.2).bind fun v_658 => some ([ci v_521.1, ci v_580.1, ci v_640.1], v_658) else none) else none) else none) else none) else none))

set_option maxRecDepth 100000 in
set_option maxHeartbeats 4000000 in
theorem times_Isw.ok (k : Nat) (x0 : Twire_Machine) (x1 : Cells) (x2 : Cells) (r : (Cells × Twire_Machine)) (hm : times_Isw.m k x0 x1 x2 = some r) (κ : Ctx) (w : World) (S : List HP) (b_x0 : Nat) (ho : Own κ w (Twire_Machine.own b_x0 x0 :: S)) :
  Calls Try.prog 21 #[pp b_x0, .agg (vals x1), .agg (vals x2)] w (times_Isw.R κ S x0 x1 x2 b_x0 r) := by
 unfold times_Isw.m at hm
 generalize hRR : times_Isw.R κ S x0 x1 x2 b_x0 r = RR
 refine qen [(0, pp b_x0), (1, .agg (vals x1)), (2, .agg (vals x2))] Try.func21 Try.ntmps21 ho fun a hs => ?_
 refine qsr fun K1 hK1 => ?_
 refine qbx 1 28 x1 4 hs fun b_2 w a hs => ?_
 refine qbx 2 28 x2 5 hs fun b_3 w a hs => ?_
 refine qal 28 [ci 0, ci 0, ci 0] 6 hs fun b_4 w a hs => ?_
 refine qpe 0 [(0, pp b_x0), (4, pp b_2), (5, pp b_3), (6, pp b_4)] hs fun a hs => hK1 _ _ ?_
 clear hK1
 refine Vk.seq fun K5 hK5 => ?_
 refine qsr fun K6 hK6 => ?_
 refine qpu 1 hs fun a hs => ?_
 obtain ⟨g_7, hs⟩ := hs.unex 3 rfl
 obtain ⟨v_10, h_9, hm⟩ := bind_t hm
 refine qcl (wire_Machine_N.ok _ _ _ h_9 _ _ _ b_x0 g_7 hs.own.f3) hs fun w a hs => ?_
 rcases Bool.eq_false_or_eq_true (v_10 == 2) with hb | hb
 ·replace hm := bif_t hm hb
  obtain rfl := Vk.of_beq hb
  refine qpk 1 [0, 4, 5, 6, 11] hs fun a hs => hK6 _ _ ?_
  refine qcf hs ?_
  refine wp_skip ?_
  refine hK5 _ _ ?_
  refine qsr fun K11 hK11 => ?_
  refine qpu 1 hs fun a hs => ?_
  replace hs := hs.toEx (Twire_Machine.parts b_x0 x0) g_7 0 rfl
  obtain ⟨v_14, h_13, hm⟩ := bind_t hm
  refine qcl (wire_Machine_Begin.ok _ _ _ _ h_13 _ _ _ b_x0 hs.own) hs fun w a hs => ?_
  refine qpk 0 [0, 4, 5, 6] hs fun a hs => hK11 _ _ ?_
  clear hK11
  refine qsr fun K15 hK15 => ?_
  refine qpu 1 hs fun a hs => ?_
  obtain ⟨h_16, hm⟩ := ite_t hm
  refine Vk.step (Vk.value (some 17) (.agg (vals x1)) hs (by kernel_rfl) (op := (.load 28 (.tmp 4))) (by kernel_rfl) (fun o ho => run_loadN (cs := x1) ho (by kernel_rfl) (by kernel_rfl) h_16 (CellsAt.all 3 rfl) _ hs.own) fun a hs => ?_)
  obtain ⟨h_17, hm⟩ := ite_t hm
  refine Vk.step (Vk.value (some 18) (.agg (vals x2)) hs (by kernel_rfl) (op := (.load 28 (.tmp 5))) (by kernel_rfl) (fun o ho => run_loadN (cs := x2) ho (by kernel_rfl) (by kernel_rfl) h_17 (CellsAt.all 2 rfl) _ hs.own) fun a hs => ?_)
  refine Vk.step (Vk.call (some 19) 91 #[pp b_x0, .agg (vals x1), .agg (vals x2)] hs (by kernel_rfl) (by kernel_rfl) (by kernel_rfl) ?_)
  refine Vk.enterI [(0, pp b_x0), (1, .agg (vals x1)), (2, .agg (vals x2))] Try.func91 rfl Try.ntmps91 (by kernel_rfl) (Nat.le_of_ble_eq_true (by kernel_rfl)) hs.own fun KR18 hKR18 hKP18 a hs => ?_
  refine qsr fun K19 hK19 => ?_
  refine qbx 1 28 x1 4 hs fun b_20 w a hs => ?_
  refine qbx 2 28 x2 5 hs fun b_21 w a hs => ?_
  refine qpk 1 [0, 4, 5] hs fun a hs => hK19 _ _ ?_
  clear hK19
  refine qsr fun K22 hK22 => ?_
  refine qpu 1 hs fun a hs => ?_
  refine Vk.step (Vk.mapOp 14 186 hs (by kernel_rfl) (by kernel_rfl) fun b_23 w a hs => ?_)
  refine qpu 1 hs fun a hs => ?_
  refine qbx 15 188 [cp b_x0, C.map (some b_23), ci 0, ci 0, ci 0, ci 0, ci 0, ci 0, ci 0, ci 0, ci 0] 16 hs fun b_24 w a hs => ?_
  refine qpe 1 [(0, pp b_x0), (4, pp b_20), (5, pp b_21), (7, pp b_24)] hs fun a hs => hK22 _ _ ?_
  clear hK22
  refine qsr fun K25 hK25 => ?_
  refine qpu 1 hs fun a hs => ?_
  obtain ⟨g_26, hs⟩ := hs.unex 4 rfl
  obtain ⟨v_29, h_28, hm⟩ := bind_t hm
  refine qcl (wire_Machine_N.ok _ _ _ h_28 _ _ _ b_x0 g_26 hs.own.f4) hs fun w a hs => ?_
  rcases Bool.eq_false_or_eq_true (v_29 == 2) with hb | hb
  ·replace hm := bif_t hm hb
   obtain rfl := Vk.of_beq hb
   refine qpk 1 [0, 4, 5, 7, 8] hs fun a hs => hK25 _ _ ?_
   clear hK25
   refine Vk.seq fun K30 hK30 => ?_
   refine qsk 2 [0, 4, 5, 7, 8, 19, 20] hs fun a hs => ?_
   refine wp_block ?_
   refine Vk.unroll0 40 ?_
   refine Vk.unroll fun KL32 hKL32 => ?_
   refine qsk 1 [0, 4, 5, 7, 8, 19, 20, 21] hs fun a hs => ?_
   refine qck hs ?_
   refine Vk.seq fun K35 hK35 => ?_
   refine wp_block ?_
   refine qsk 2 [0, 4, 5, 7, 8, 9, 19, 20] hs fun a hs => ?_
   refine qsk 3 [0, 4, 5, 7, 8, 9, 10, 19, 20] hs fun a hs => ?_
   refine wp_block ?_
   refine Vk.unroll0 40 ?_
   refine Vk.unroll fun KL38 hKL38 => ?_
   refine Vk.seq fun K39 hK39 => ?_
   refine qse 3 [(0, pp b_x0), (4, pp b_20), (5, pp b_21), (7, pp b_24), (8, vi 2), (9, vi 0), (10, vi 1), (19, vi 2), (20, vi 0), (27, .bool true)] hs fun a hs => ?_
   refine qct hs ?_
   refine wp_skip ?_
   refine hK39 _ _ ?_
   clear hK39
   refine Vk.seq fun K41 hK41 => ?_
   refine wp_block ?_
   obtain ⟨C_42, hC_42⟩ := qC hs.own.drop
   refine qdr 9 κ C_42 hs fun w hs hqC_42 => ?_
   have hcl := qO hC_42 hs.own.drop
   refine qdp (fuel := 3) [0, 1, 2, 4, 5, 6, 7] hs hcl hqC_42 fun a hs => ?_
   refine qdl 3 0 (C.map (some b_23)) hs hcl hqC_42 hC_42 rfl fun a hs => ?_
   replace hs := hs.toEx (Twire_Machine.parts b_x0 v_14) g_26 0 rfl
   obtain ⟨v_45, h_44, hm⟩ := bind_t hm
   refine qdc 8 (wire_Machine_Rand.ok _ _ _ _ h_44 _ _ _ b_x0 hs.own) hs fun w a hs => ?_
   replace hcl := qO hC_42 hs.own.drop
   refine ⟨fun _ => hcl, ?_⟩
   refine Vk.dOnly (i := 9) (by kernel_rfl) (Vk.updateOp (t := 186) (xm := (.tmp 33)) (xk := (.tmp 36)) (xv := (.tmp 38)) (b := b_23) (es' := #[⟨.agg (vals [ci 0, ci 1]), vi v_45.1, 0⟩]) (clock' := 1) (.agg (vals [ci 0, ci 1])) (vi v_45.1) 2 hs (by kernel_rfl) (by kernel_rfl) (by kernel_rfl) (by kernel_rfl) (by kernel_rfl) rfl (by kernel_rfl) fun a w hs => ?_)
   refine ⟨fun h => absurd h (by decide), ?_⟩
   replace hs := hs.pick [0, 4, 5, 7, 8, 9, 10, 19, 20] (L' := [(0, pp b_x0), (4, pp b_20), (5, pp b_21), (7, pp b_24), (8, vi 2), (9, vi 0), (10, vi 1), (19, vi 2), (20, vi 0)]) (by kernel_rfl)
   refine Vk.dDone (by kernel_rfl) ?_
   refine hK41 _ _ ?_
   clear hK41
   refine Vk.region ?_
   refine qpk 3 [0, 4, 5, 7, 8, 9, 10, 19, 20] hs fun a hs => hKL38 _ _ ?_
   clear hKL38
   refine Vk.unroll fun KL46 hKL46 => ?_
   refine Vk.seq fun K47 hK47 => ?_
   refine qsk 3 [0, 4, 5, 7, 8, 9, 10, 19, 20, 27] hs fun a hs => ?_
   refine qcf hs ?_
   refine wp_exit ?_
   refine hK35 _ _ ?_
   clear hK35
   refine Vk.region ?_
   refine qpk 2 [0, 4, 5, 7, 8, 19, 20] hs fun a hs => hKL32 _ _ ?_
   clear hKL32
   refine Vk.unroll fun KL49 hKL49 => ?_
   refine qsk 1 [0, 4, 5, 7, 8, 19, 20, 21] hs fun a hs => ?_
   refine qck hs ?_
   refine Vk.seq fun K52 hK52 => ?_
   refine wp_block ?_
   refine qsk 2 [0, 4, 5, 7, 8, 9, 19, 20] hs fun a hs => ?_
   refine qse 3 [(0, pp b_x0), (4, pp b_20), (5, pp b_21), (7, pp b_24), (8, vi 2), (9, vi 1), (10, vi 2), (19, vi 2), (20, vi 1)] hs fun a hs => ?_
   refine wp_block ?_
   refine Vk.unroll0 40 ?_
   refine Vk.unroll fun KL55 hKL55 => ?_
   refine Vk.seq fun K56 hK56 => ?_
   refine qsk 3 [0, 4, 5, 7, 8, 9, 10, 19, 20, 27] hs fun a hs => ?_
   refine qcf hs ?_
   refine wp_exit ?_
   refine hK52 _ _ ?_
   clear hK52
   refine Vk.region ?_
   refine qpk 2 [0, 4, 5, 7, 8, 19, 20] hs fun a hs => hKL49 _ _ ?_
   clear hKL49
   refine Vk.unroll fun KL58 hKL58 => ?_
   refine qsk 1 [0, 4, 5, 7, 8, 19, 20, 21] hs fun a hs => ?_
   refine Vk.seq fun K60 hK60 => ?_
   refine qcf hs ?_
   refine wp_exit ?_
   refine hK30 _ _ ?_
   clear hK30
   refine Vk.seq fun K61 hK61 => ?_
   refine qsk 2 [0, 4, 5, 7, 8, 40, 41] hs fun a hs => ?_
   refine wp_block ?_
   refine Vk.unroll0 40 ?_
   refine Vk.unroll fun KL63 hKL63 => ?_
   refine qsk 1 [0, 4, 5, 7, 8, 40, 41, 42] hs fun a hs => ?_
   refine qck hs ?_
   refine Vk.seq fun K66 hK66 => ?_
   refine wp_block ?_
   refine qse 2 [(0, pp b_x0), (4, pp b_20), (5, pp b_21), (7, pp b_24), (8, vi 2), (11, vi 0), (40, vi 2), (41, vi 0)] hs fun a hs => ?_
   refine qsk 2 [0, 4, 5, 7, 8, 11, 40, 41, 44, 45] hs fun a hs => ?_
   refine wp_block ?_
   refine Vk.unroll0 40 ?_
   refine Vk.unroll fun KL69 hKL69 => ?_
   refine qsk 1 [0, 4, 5, 7, 8, 11, 40, 41, 44, 45, 46] hs fun a hs => ?_
   refine qck hs ?_
   refine Vk.seq fun K72 hK72 => ?_
   refine wp_block ?_
   refine qsk 2 [0, 4, 5, 7, 8, 11, 12, 40, 41, 44, 45] hs fun a hs => ?_
   obtain ⟨C_74, hC_74⟩ := qC hs.own.drop
   refine qdr 18 κ C_74 hs fun w hs hqC_74 => ?_
   have hcl := qO hC_74 hs.own.drop
   refine qdp (fuel := 5) [0, 1, 2, 3, 4, 5, 6, 7, 9, 10, 11, 14, 15, 16] hs hcl hqC_74 fun a hs => ?_
   obtain ⟨v_76, h_75, hm⟩ := bind_t hm
   refine Vk.dTakeT (i := 8) (some 56) (vi v_76) hs (by kernel_rfl) hqC_74 hcl (by kernel_rfl) (by kernel_rfl) (op := (.load 3 (.tmp 55))) (by kernel_rfl) (by kernel_rfl) (fun w hw o ho => by rw [hC_74] at hw; exact run_load1 (c := ci v_76) ho (by kernel_rfl) (by kernel_rfl) (Cell.own 3 rfl (getI_some h_75)) _ hw) fun a hs => ?_
   obtain ⟨v_78, h_77, hm⟩ := bind_t hm
   refine Vk.dTakeT (i := 12) (some 60) (vi v_78) hs (by kernel_rfl) hqC_74 hcl (by kernel_rfl) (by kernel_rfl) (op := (.load 3 (.tmp 59))) (by kernel_rfl) (by kernel_rfl) (fun w hw o ho => by rw [hC_74] at hw; exact run_load1 (c := ci v_78) ho (by kernel_rfl) (by kernel_rfl) (Cell.own 2 rfl (getI_some h_77)) _ hw) fun a hs => ?_
   obtain ⟨v_81, h_80, hm⟩ := bind_t hm
   refine qdc 13 (wire_Machine_Two.ok _ _ _ _ _ _ _ h_80 _ _ _ b_x0 hs.own) hs fun w a hs => ?_
   replace hcl := qO hC_74 hs.own.drop
   refine ⟨fun _ => hcl, ?_⟩
   refine qdp (fuel := 1) [17] hs hcl hqC_74 fun a hs => ?_
   refine Vk.dOnly (i := 18) (by kernel_rfl) (Vk.store1 (b := b_24) (ty := 3) (x := (.tmp 65)) (y := (.tmp 61)) (off := 2) (ci v_81.1) 1 hs (by kernel_rfl) (by kernel_rfl) (by kernel_rfl) (by kernel_rfl) (by kernel_rfl) (by kernel_rfl) rfl (Nat.le_of_ble_eq_true (by kernel_rfl)) fun a w hs => ?_)
   refine ⟨fun h => absurd h (by decide), ?_⟩
   replace hs := hs.pick [0, 4, 5, 7, 8, 11, 40, 41, 44, 45] (L' := [(0, pp b_x0), (4, pp b_20), (5, pp b_21), (7, pp b_24), (8, vi 2), (11, vi 0), (40, vi 2), (41, vi 0), (44, vi 2), (45, vi 0)]) (by kernel_rfl)
   refine Vk.dDone (by kernel_rfl) ?_
   refine hK72 _ _ ?_
   clear hK72
   refine Vk.region ?_
   refine qpk 2 [0, 4, 5, 7, 8, 11, 40, 41, 44, 45] hs fun a hs => hKL69 _ _ ?_
   clear hKL69
   refine Vk.unroll fun KL82 hKL82 => ?_
   refine qsk 1 [0, 4, 5, 7, 8, 11, 40, 41, 44, 45, 46] hs fun a hs => ?_
   refine qck hs ?_
   refine Vk.seq fun K85 hK85 => ?_
   refine wp_block ?_
   refine qse 2 [(0, pp b_x0), (4, pp b_20), (5, pp b_21), (7, pp b_24), (8, vi 2), (11, vi 0), (12, vi 1), (40, vi 2), (41, vi 0), (44, vi 2), (45, vi 1)] hs fun a hs => ?_
   obtain ⟨C_87, hC_87⟩ := qC hs.own.drop
   refine qdr 18 κ C_87 hs fun w hs hqC_87 => ?_
   have hcl := qO hC_87 hs.own.drop
   refine qdp (fuel := 5) [0, 1, 2, 3, 4, 5, 6, 7, 9, 10, 11, 14, 15, 16] hs hcl hqC_87 fun a hs => ?_
   obtain ⟨v_89, h_88, hm⟩ := bind_t hm
   refine Vk.dTakeT (i := 8) (some 56) (vi v_89) hs (by kernel_rfl) hqC_87 hcl (by kernel_rfl) (by kernel_rfl) (op := (.load 3 (.tmp 55))) (by kernel_rfl) (by kernel_rfl) (fun w hw o ho => by rw [hC_87] at hw; exact run_load1 (c := ci v_89) ho (by kernel_rfl) (by kernel_rfl) (Cell.own 3 rfl (getI_some h_88)) _ hw) fun a hs => ?_
   obtain ⟨v_91, h_90, hm⟩ := bind_t hm
   refine Vk.dTakeT (i := 12) (some 60) (vi v_91) hs (by kernel_rfl) hqC_87 hcl (by kernel_rfl) (by kernel_rfl) (op := (.load 3 (.tmp 59))) (by kernel_rfl) (by kernel_rfl) (fun w hw o ho => by rw [hC_87] at hw; exact run_load1 (c := ci v_91) ho (by kernel_rfl) (by kernel_rfl) (Cell.own 2 rfl (getI_some h_90)) _ hw) fun a hs => ?_
   obtain ⟨v_94, h_93, hm⟩ := bind_t hm
   refine qdc 13 (wire_Machine_Two.ok _ _ _ _ _ _ _ h_93 _ _ _ b_x0 hs.own) hs fun w a hs => ?_
   replace hcl := qO hC_87 hs.own.drop
   refine ⟨fun _ => hcl, ?_⟩
   refine qdp (fuel := 1) [17] hs hcl hqC_87 fun a hs => ?_
   refine Vk.dOnly (i := 18) (by kernel_rfl) (Vk.store1 (b := b_24) (ty := 3) (x := (.tmp 65)) (y := (.tmp 61)) (off := 3) (ci v_94.1) 1 hs (by kernel_rfl) (by kernel_rfl) (by kernel_rfl) (by kernel_rfl) (by kernel_rfl) (by kernel_rfl) rfl (Nat.le_of_ble_eq_true (by kernel_rfl)) fun a w hs => ?_)
   refine ⟨fun h => absurd h (by decide), ?_⟩
   replace hs := hs.pick [0, 4, 5, 7, 8, 11, 40, 41, 44, 45] (L' := [(0, pp b_x0), (4, pp b_20), (5, pp b_21), (7, pp b_24), (8, vi 2), (11, vi 0), (40, vi 2), (41, vi 0), (44, vi 2), (45, vi 1)]) (by kernel_rfl)
   refine Vk.dDone (by kernel_rfl) ?_
   refine hK85 _ _ ?_
   clear hK85
   refine Vk.region ?_
   refine qpk 2 [0, 4, 5, 7, 8, 11, 40, 41, 44, 45] hs fun a hs => hKL82 _ _ ?_
   clear hKL82
   refine Vk.unroll fun KL95 hKL95 => ?_
   refine qsk 1 [0, 4, 5, 7, 8, 11, 40, 41, 44, 45, 46] hs fun a hs => ?_
   refine Vk.seq fun K97 hK97 => ?_
   refine qcf hs ?_
   refine wp_exit ?_
   refine hK66 _ _ ?_
   clear hK66
   refine Vk.region ?_
   refine qpk 2 [0, 4, 5, 7, 8, 40, 41] hs fun a hs => hKL63 _ _ ?_
   clear hKL63
   refine Vk.unroll fun KL98 hKL98 => ?_
   refine qsk 1 [0, 4, 5, 7, 8, 40, 41, 42] hs fun a hs => ?_
   refine qck hs ?_
   refine Vk.seq fun K101 hK101 => ?_
   refine wp_block ?_
   refine qsk 2 [0, 4, 5, 7, 8, 11, 40, 41] hs fun a hs => ?_
   refine qse 2 [(0, pp b_x0), (4, pp b_20), (5, pp b_21), (7, pp b_24), (8, vi 2), (11, vi 1), (40, vi 2), (41, vi 1), (44, vi 2), (45, vi 0)] hs fun a hs => ?_
   refine wp_block ?_
   refine Vk.unroll0 40 ?_
   refine Vk.unroll fun KL104 hKL104 => ?_
   refine qsk 1 [0, 4, 5, 7, 8, 11, 40, 41, 44, 45, 46] hs fun a hs => ?_
   refine qck hs ?_
   refine Vk.seq fun K107 hK107 => ?_
   refine wp_block ?_
   refine qsk 2 [0, 4, 5, 7, 8, 11, 12, 40, 41, 44, 45] hs fun a hs => ?_
   obtain ⟨C_109, hC_109⟩ := qC hs.own.drop
   refine qdr 18 κ C_109 hs fun w hs hqC_109 => ?_
   have hcl := qO hC_109 hs.own.drop
   refine qdp (fuel := 5) [0, 1, 2, 3, 4, 5, 6, 7, 9, 10, 11, 14, 15, 16] hs hcl hqC_109 fun a hs => ?_
   obtain ⟨v_111, h_110, hm⟩ := bind_t hm
   refine Vk.dTakeT (i := 8) (some 56) (vi v_111) hs (by kernel_rfl) hqC_109 hcl (by kernel_rfl) (by kernel_rfl) (op := (.load 3 (.tmp 55))) (by kernel_rfl) (by kernel_rfl) (fun w hw o ho => by rw [hC_109] at hw; exact run_load1 (c := ci v_111) ho (by kernel_rfl) (by kernel_rfl) (Cell.own 3 rfl (getI_some h_110)) _ hw) fun a hs => ?_
   obtain ⟨v_113, h_112, hm⟩ := bind_t hm
   refine Vk.dTakeT (i := 12) (some 60) (vi v_113) hs (by kernel_rfl) hqC_109 hcl (by kernel_rfl) (by kernel_rfl) (op := (.load 3 (.tmp 59))) (by kernel_rfl) (by kernel_rfl) (fun w hw o ho => by rw [hC_109] at hw; exact run_load1 (c := ci v_113) ho (by kernel_rfl) (by kernel_rfl) (Cell.own 2 rfl (getI_some h_112)) _ hw) fun a hs => ?_
   obtain ⟨v_116, h_115, hm⟩ := bind_t hm
   refine qdc 13 (wire_Machine_Two.ok _ _ _ _ _ _ _ h_115 _ _ _ b_x0 hs.own) hs fun w a hs => ?_
   replace hcl := qO hC_109 hs.own.drop
   refine ⟨fun _ => hcl, ?_⟩
   refine qdp (fuel := 1) [17] hs hcl hqC_109 fun a hs => ?_
   refine Vk.dOnly (i := 18) (by kernel_rfl) (Vk.store1 (b := b_24) (ty := 3) (x := (.tmp 65)) (y := (.tmp 61)) (off := 5) (ci v_116.1) 1 hs (by kernel_rfl) (by kernel_rfl) (by kernel_rfl) (by kernel_rfl) (by kernel_rfl) (by kernel_rfl) rfl (Nat.le_of_ble_eq_true (by kernel_rfl)) fun a w hs => ?_)
   refine ⟨fun h => absurd h (by decide), ?_⟩
   replace hs := hs.pick [0, 4, 5, 7, 8, 11, 40, 41, 44, 45] (L' := [(0, pp b_x0), (4, pp b_20), (5, pp b_21), (7, pp b_24), (8, vi 2), (11, vi 1), (40, vi 2), (41, vi 1), (44, vi 2), (45, vi 0)]) (by kernel_rfl)
   refine Vk.dDone (by kernel_rfl) ?_
   refine hK107 _ _ ?_
   clear hK107
   refine Vk.region ?_
   refine qpk 2 [0, 4, 5, 7, 8, 11, 40, 41, 44, 45] hs fun a hs => hKL104 _ _ ?_
   clear hKL104
   refine Vk.unroll fun KL117 hKL117 => ?_
   refine qsk 1 [0, 4, 5, 7, 8, 11, 40, 41, 44, 45, 46] hs fun a hs => ?_
   refine qck hs ?_
   refine Vk.seq fun K120 hK120 => ?_
   refine wp_block ?_
   refine qsk 2 [0, 4, 5, 7, 8, 11, 12, 40, 41, 44, 45] hs fun a hs => ?_
   obtain ⟨C_122, hC_122⟩ := qC hs.own.drop
   refine qdr 18 κ C_122 hs fun w hs hqC_122 => ?_
   have hcl := qO hC_122 hs.own.drop
   refine qdp (fuel := 5) [0, 1, 2, 3, 4, 5, 6, 7, 9, 10, 11, 14, 15, 16] hs hcl hqC_122 fun a hs => ?_
   obtain ⟨v_124, h_123, hm⟩ := bind_t hm
   refine Vk.dTakeT (i := 8) (some 56) (vi v_124) hs (by kernel_rfl) hqC_122 hcl (by kernel_rfl) (by kernel_rfl) (op := (.load 3 (.tmp 55))) (by kernel_rfl) (by kernel_rfl) (fun w hw o ho => by rw [hC_122] at hw; exact run_load1 (c := ci v_124) ho (by kernel_rfl) (by kernel_rfl) (Cell.own 3 rfl (getI_some h_123)) _ hw) fun a hs => ?_
   obtain ⟨v_126, h_125, hm⟩ := bind_t hm
   refine Vk.dTakeT (i := 12) (some 60) (vi v_126) hs (by kernel_rfl) hqC_122 hcl (by kernel_rfl) (by kernel_rfl) (op := (.load 3 (.tmp 59))) (by kernel_rfl) (by kernel_rfl) (fun w hw o ho => by rw [hC_122] at hw; exact run_load1 (c := ci v_126) ho (by kernel_rfl) (by kernel_rfl) (Cell.own 2 rfl (getI_some h_125)) _ hw) fun a hs => ?_
   obtain ⟨v_129, h_128, hm⟩ := bind_t hm
   refine qdc 13 (wire_Machine_Two.ok _ _ _ _ _ _ _ h_128 _ _ _ b_x0 hs.own) hs fun w a hs => ?_
   replace hcl := qO hC_122 hs.own.drop
   refine ⟨fun _ => hcl, ?_⟩
   refine qdp (fuel := 1) [17] hs hcl hqC_122 fun a hs => ?_
   refine Vk.dOnly (i := 18) (by kernel_rfl) (Vk.store1 (b := b_24) (ty := 3) (x := (.tmp 65)) (y := (.tmp 61)) (off := 6) (ci v_129.1) 1 hs (by kernel_rfl) (by kernel_rfl) (by kernel_rfl) (by kernel_rfl) (by kernel_rfl) (by kernel_rfl) rfl (Nat.le_of_ble_eq_true (by kernel_rfl)) fun a w hs => ?_)
   refine ⟨fun h => absurd h (by decide), ?_⟩
   replace hs := hs.pick [0, 4, 5, 7, 8, 11, 40, 41, 44, 45] (L' := [(0, pp b_x0), (4, pp b_20), (5, pp b_21), (7, pp b_24), (8, vi 2), (11, vi 1), (40, vi 2), (41, vi 1), (44, vi 2), (45, vi 1)]) (by kernel_rfl)
   refine Vk.dDone (by kernel_rfl) ?_
   refine hK120 _ _ ?_
   clear hK120
   refine Vk.region ?_
   refine qpe 2 [(0, pp b_x0), (4, pp b_20), (5, pp b_21), (7, pp b_24), (8, vi 2), (11, vi 1), (40, vi 2), (41, vi 1), (44, vi 2), (45, vi 2)] hs fun a hs => hKL117 _ _ ?_
   clear hKL117
   refine Vk.unroll fun KL130 hKL130 => ?_
   refine qsk 1 [0, 4, 5, 7, 8, 11, 40, 41, 44, 45, 46] hs fun a hs => ?_
   refine Vk.seq fun K132 hK132 => ?_
   refine qcf hs ?_
   refine wp_exit ?_
   refine hK101 _ _ ?_
   clear hK101
   refine Vk.region ?_
   refine qpk 2 [0, 4, 5, 7, 8, 40, 41] hs fun a hs => hKL98 _ _ ?_
   clear hKL98
   refine Vk.unroll fun KL133 hKL133 => ?_
   refine qsk 1 [0, 4, 5, 7, 8, 40, 41, 42] hs fun a hs => ?_
   refine Vk.seq fun K135 hK135 => ?_
   refine qcf hs ?_
   refine wp_exit ?_
   refine hK61 _ _ ?_
   clear hK61
   refine qse 2 [(6, pp b_24)] hs fun a hs => ?_
   refine wp_ret ?_
   refine hKP18 _ _ ?_
   refine hKR18 _ _ ?_
   refine Vk.ret1 (P := Try.prog) (fn := Try.f91) (pp b_24) hs rfl (by kernel_rfl) ⟨_, _, _, rfl, hs.own, fun a hs => ?_⟩
   refine qpk 1 [0, 6, 7] hs fun a hs => hK15 _ _ ?_
   clear hK15
   refine qsr fun K137 hK137 => ?_
   refine qpu 3 hs fun a hs => ?_
   refine Vk.step (Vk.call (some 23) 92 #[pp b_24, .func (.func 95) #[pp b_24] #[]] hs (by kernel_rfl) (by kernel_rfl) (by kernel_rfl) ?_)
   refine Vk.enterI [(0, pp b_24), (1, .func (.func 95) #[pp b_24] #[])] Try.func92 rfl Try.ntmps92 (by kernel_rfl) (Nat.le_of_ble_eq_true (by kernel_rfl)) hs.own fun KR138 hKR138 hKP138 a hs => ?_
   refine qsr fun K139 hK139 => ?_
   refine qal 28 [ci 0, ci 0, ci 0] 4 hs fun b_140 w a hs => ?_
   refine qpk 0 [0, 1, 4] hs fun a hs => hK139 _ _ ?_
   clear hK139
   refine qsr fun K141 hK141 => ?_
   refine qpu 2 hs fun a hs => ?_
   refine qal 28 [ci 0, ci 0, ci 0] 5 hs fun b_142 w a hs => ?_
   refine qsa 0 [ci (-1), ci (-1), ci (-1)] hs rfl fun a w hs => ?_
   refine qpe 0 [(0, pp b_24), (1, .func (.func 95) #[pp b_24] #[]), (4, pp b_140), (5, pp b_142)] hs fun a hs => hK141 _ _ ?_
   clear hK141
   refine qsr fun K143 hK143 => ?_
   refine qpu 3 hs fun a hs => ?_
   refine qld 3 (cp b_x0) hs rfl fun a hs => ?_
   obtain ⟨g_144, hs⟩ := hs.unex 2 rfl
   obtain ⟨v_147, h_146, hm⟩ := bind_t hm
   refine qcl (wire_Machine_N.ok _ _ _ h_146 _ _ _ b_x0 g_144 hs.own.f2) hs fun w a hs => ?_
   rcases Bool.eq_false_or_eq_true (v_147 == 2) with hb | hb
   ·replace hm := bif_t hm hb
    obtain rfl := Vk.of_beq hb
    refine qpk 1 [0, 1, 4, 5, 6] hs fun a hs => hK143 _ _ ?_
    clear hK143
    refine Vk.seq fun K148 hK148 => ?_
    refine qsk 2 [0, 1, 4, 5, 6, 16, 17] hs fun a hs => ?_
    refine wp_block ?_
    refine Vk.unroll0 40 ?_
    refine Vk.unroll fun KL150 hKL150 => ?_
    refine qsk 1 [0, 1, 4, 5, 6, 16, 17, 18] hs fun a hs => ?_
    refine qck hs ?_
    refine Vk.seq fun K153 hK153 => ?_
    refine wp_block ?_
    refine qsk 2 [0, 1, 4, 5, 6, 7, 16, 17] hs fun a hs => ?_
    refine qsr fun K155 hK155 => ?_
    refine qpu 8 hs fun a hs => ?_
    refine qld 3 (ci v_81.1) hs rfl fun a hs => ?_
    refine qpu 2 hs fun a hs => ?_
    refine qst 1 0 (ci v_81.1) hs rfl fun a w hs => ?_
    refine qpk 0 [0, 1, 4, 5, 6, 7, 16, 17] hs fun a hs => hK155 _ _ ?_
    clear hK155
    refine qse 2 [(0, pp b_24), (1, .func (.func 95) #[pp b_24] #[]), (4, pp b_140), (5, pp b_142), (6, vi 2), (7, vi 0), (16, vi 2), (17, vi 0), (31, vi 2), (32, vi 0)] hs fun a hs => ?_
    refine wp_block ?_
    refine Vk.unroll0 40 ?_
    refine Vk.unroll fun KL157 hKL157 => ?_
    refine qsk 1 [0, 1, 4, 5, 6, 7, 16, 17, 31, 32, 33] hs fun a hs => ?_
    refine qck hs ?_
    refine Vk.seq fun K160 hK160 => ?_
    refine wp_block ?_
    refine qsk 2 [0, 1, 4, 5, 6, 7, 8, 16, 17, 31, 32] hs fun a hs => ?_
    refine qsk 3 [0, 1, 4, 5, 6, 7, 8, 16, 17, 31, 32, 37] hs fun a hs => ?_
    refine qcf hs ?_
    refine wp_skip ?_
    refine hK160 _ _ ?_
    clear hK160
    refine Vk.region ?_
    refine qpk 2 [0, 1, 4, 5, 6, 7, 16, 17, 31, 32] hs fun a hs => hKL157 _ _ ?_
    clear hKL157
    refine Vk.unroll fun KL163 hKL163 => ?_
    refine qsk 1 [0, 1, 4, 5, 6, 7, 16, 17, 31, 32, 33] hs fun a hs => ?_
    refine qck hs ?_
    refine Vk.seq fun K166 hK166 => ?_
    refine wp_block ?_
    refine qse 2 [(0, pp b_24), (1, .func (.func 95) #[pp b_24] #[]), (4, pp b_140), (5, pp b_142), (6, vi 2), (7, vi 0), (8, vi 1), (16, vi 2), (17, vi 0), (31, vi 2), (32, vi 1)] hs fun a hs => ?_
    refine qsk 3 [0, 1, 4, 5, 6, 7, 8, 16, 17, 31, 32, 37] hs fun a hs => ?_
    refine qct hs ?_
    obtain ⟨C_169, hC_169⟩ := qC hs.own.drop
    refine qdr 17 κ C_169 hs fun w hs hqC_169 => ?_
    have hcl := qO hC_169 hs.own.drop
    refine qdp (fuel := 6) [0, 1, 2, 3, 5, 6, 7, 8, 10, 11, 12, 15] hs hcl hqC_169 fun a hs => ?_
    refine qdl 4 2 (cp b_x0) hs hcl hqC_169 hC_169 rfl fun a hs => ?_
    refine qdl 9 0 (ci v_81.1) hs hcl hqC_169 hC_169 rfl fun a hs => ?_
    refine Vk.dOnly (i := 13) (by kernel_rfl) (Vk.call (some 51) 95 #[pp b_24, vi 0, vi 1] hs (by kernel_rfl) (by kernel_rfl) (by kernel_rfl) ?_)
    refine Vk.enterI [(0, pp b_24), (1, vi 0), (2, vi 1)] Try.func95 rfl Try.ntmps95 (by kernel_rfl) (Nat.le_of_ble_eq_true (by kernel_rfl)) hs.own fun KR170 hKR170 hKP170 a hs => ?_
    refine qsk 1 [0, 1, 2] hs fun a hs => ?_
    refine Vk.seq fun K172 hK172 => ?_
    refine qsk 3 [0, 1, 2, 9] hs fun a hs => ?_
    refine qct hs ?_
    refine qsr fun K174 hK174 => ?_
    refine qpu 3 hs fun a hs => ?_
    refine Vk.step (Vk.call (some 13) 151 #[pp b_24, vi 0, vi 1] hs (by kernel_rfl) (by kernel_rfl) (by kernel_rfl) ?_)
    refine Vk.enterI [(0, pp b_24), (1, vi 0), (2, vi 1)] Try.func151 rfl Try.ntmps151 (by kernel_rfl) (Nat.le_of_ble_eq_true (by kernel_rfl)) hs.own fun KR175 hKR175 hKP175 a hs => ?_
    refine qsk 1 [0, 1, 2] hs fun a hs => ?_
    refine qsr fun K177 hK177 => ?_
    refine qpu 3 hs fun a hs => ?_
    refine qld 3 (C.map (some b_23)) hs rfl fun a hs => ?_
    refine qpu 7 hs fun a hs => ?_
    refine Vk.step (Vk.value (some 18) (vi v_45.1) hs (by kernel_rfl) (op := (.lookup 186 (.tmp 10) (.tmp 17) false)) (by kernel_rfl) (fun o ho => run_lookup (b := b_23) (key := .agg (vals [ci 0, ci 1])) 4 rfl ho (by kernel_rfl) (by kernel_rfl) (by kernel_rfl) _ hs.own) fun a hs => ?_)
    refine qpe 1 [(6, vi v_45.1)] hs fun a hs => hK177 _ _ ?_
    clear hK177
    refine wp_ret ?_
    refine hKP175 _ _ ?_
    refine hKR175 _ _ ?_
    refine Vk.ret1 (P := Try.prog) (fn := Try.f151) (vi v_45.1) hs rfl (by kernel_rfl) ⟨_, _, _, rfl, hs.own, fun a hs => ?_⟩
    refine qpe 1 [(6, vi v_45.1)] hs fun a hs => hK174 _ _ ?_
    clear hK174
    refine wp_ret ?_
    refine hKP170 _ _ ?_
    refine hKR170 _ _ ?_
    refine Vk.ret1 (P := Try.prog) (fn := Try.f95) (vi v_45.1) hs rfl (by kernel_rfl) ⟨_, _, _, rfl, hs.own, fun a hs => ?_⟩
    replace hcl := qO hC_169 hs.own.drop
    refine ⟨fun _ => hcl, ?_⟩
    replace hs := hs.toEx (Twire_Machine.parts b_x0 v_129.2) g_144 0 rfl
    obtain ⟨v_180, h_179, hm⟩ := bind_t hm
    refine qdc 14 (wire_Machine_Two.ok _ _ _ _ _ _ _ h_179 _ _ _ b_x0 hs.own) hs fun w a hs => ?_
    replace hcl := qO hC_169 hs.own.drop
    refine ⟨fun _ => hcl, ?_⟩
    refine qdp (fuel := 1) [16] hs hcl hqC_169 fun a hs => ?_
    refine Vk.dOnly (i := 17) (by kernel_rfl) (Vk.store1 (b := b_142) (ty := 3) (x := (.tmp 54)) (y := (.tmp 52)) (off := 0) (ci v_180.1) 1 hs (by kernel_rfl) (by kernel_rfl) (by kernel_rfl) (by kernel_rfl) (by kernel_rfl) (by kernel_rfl) rfl (Nat.le_of_ble_eq_true (by kernel_rfl)) fun a w hs => ?_)
    refine ⟨fun h => absurd h (by decide), ?_⟩
    replace hs := hs.pick [0, 1, 4, 5, 6, 7, 16, 17, 31, 32] (L' := [(0, pp b_24), (1, .func (.func 95) #[pp b_24] #[]), (4, pp b_140), (5, pp b_142), (6, vi 2), (7, vi 0), (16, vi 2), (17, vi 0), (31, vi 2), (32, vi 1)]) (by kernel_rfl)
    refine Vk.dDone (by kernel_rfl) ?_
    refine hK166 _ _ ?_
    clear hK166
    refine Vk.region ?_
    refine qpk 2 [0, 1, 4, 5, 6, 7, 16, 17, 31, 32] hs fun a hs => hKL163 _ _ ?_
    clear hKL163
    refine Vk.unroll fun KL181 hKL181 => ?_
    refine qsk 1 [0, 1, 4, 5, 6, 7, 16, 17, 31, 32, 33] hs fun a hs => ?_
    refine Vk.seq fun K183 hK183 => ?_
    refine qcf hs ?_
    refine wp_exit ?_
    refine hK153 _ _ ?_
    clear hK153
    refine Vk.region ?_
    refine qpk 2 [0, 1, 4, 5, 6, 16, 17] hs fun a hs => hKL150 _ _ ?_
    clear hKL150
    refine Vk.unroll fun KL184 hKL184 => ?_
    refine qsk 1 [0, 1, 4, 5, 6, 16, 17, 18] hs fun a hs => ?_
    refine qck hs ?_
    refine Vk.seq fun K187 hK187 => ?_
    refine wp_block ?_
    refine qsk 2 [0, 1, 4, 5, 6, 7, 16, 17] hs fun a hs => ?_
    refine qsr fun K189 hK189 => ?_
    refine qpu 8 hs fun a hs => ?_
    refine qld 3 (ci v_129.1) hs rfl fun a hs => ?_
    refine qpu 2 hs fun a hs => ?_
    refine qst 1 1 (ci v_129.1) hs rfl fun a w hs => ?_
    refine qpe 0 [(0, pp b_24), (1, .func (.func 95) #[pp b_24] #[]), (4, pp b_140), (5, pp b_142), (6, vi 2), (7, vi 1), (16, vi 2), (17, vi 1)] hs fun a hs => hK189 _ _ ?_
    clear hK189
    refine qsk 2 [0, 1, 4, 5, 6, 7, 16, 17, 31, 32] hs fun a hs => ?_
    refine wp_block ?_
    refine Vk.unroll0 40 ?_
    refine Vk.unroll fun KL191 hKL191 => ?_
    refine qsk 1 [0, 1, 4, 5, 6, 7, 16, 17, 31, 32, 33] hs fun a hs => ?_
    refine qck hs ?_
    refine Vk.seq fun K194 hK194 => ?_
    refine wp_block ?_
    refine qsk 2 [0, 1, 4, 5, 6, 7, 8, 16, 17, 31, 32] hs fun a hs => ?_
    refine qsk 3 [0, 1, 4, 5, 6, 7, 8, 16, 17, 31, 32, 37] hs fun a hs => ?_
    refine qct hs ?_
    obtain ⟨C_197, hC_197⟩ := qC hs.own.drop
    refine qdr 17 κ C_197 hs fun w hs hqC_197 => ?_
    have hcl := qO hC_197 hs.own.drop
    refine qdp (fuel := 6) [0, 1, 2, 3, 5, 6, 7, 8, 10, 11, 12, 15] hs hcl hqC_197 fun a hs => ?_
    refine qdl 4 2 (cp b_x0) hs hcl hqC_197 hC_197 rfl fun a hs => ?_
    refine qdl 9 0 (ci v_129.1) hs hcl hqC_197 hC_197 rfl fun a hs => ?_
    refine Vk.dOnly (i := 13) (by kernel_rfl) (Vk.call (some 51) 95 #[pp b_24, vi 1, vi 0] hs (by kernel_rfl) (by kernel_rfl) (by kernel_rfl) ?_)
    refine Vk.enterI [(0, pp b_24), (1, vi 1), (2, vi 0)] Try.func95 rfl Try.ntmps95 (by kernel_rfl) (Nat.le_of_ble_eq_true (by kernel_rfl)) hs.own fun KR198 hKR198 hKP198 a hs => ?_
    refine qsk 1 [0, 1, 2] hs fun a hs => ?_
    refine Vk.seq fun K200 hK200 => ?_
    refine qse 3 [(0, pp b_24), (1, vi 1), (2, vi 0), (9, .bool false)] hs fun a hs => ?_
    refine qcf hs ?_
    refine wp_skip ?_
    refine hK200 _ _ ?_
    clear hK200
    refine Vk.seq fun K202 hK202 => ?_
    obtain ⟨C_203, hC_203⟩ := qC hs.own.drop
    refine qdr 33 κ C_203 hs fun w hs hqC_203 => ?_
    have hcl := qO hC_203 hs.own.drop
    refine qdp (fuel := 8) [0, 1, 2, 4, 5, 6, 7, 9, 10, 11, 12, 14, 15, 16, 17, 18, 19, 20, 23, 24, 25, 26, 27, 28, 29] hs hcl hqC_203 fun a hs => ?_
    refine qdl 3 2 (cp b_x0) hs hcl hqC_203 hC_203 rfl fun a hs => ?_
    refine qdl 8 2 (cp b_x0) hs hcl hqC_203 hC_203 rfl fun a hs => ?_
    refine qdl 21 2 (ci v_94.1) hs hcl hqC_203 hC_203 rfl fun a hs => ?_
    refine qdl 30 2 (ci v_116.1) hs hcl hqC_203 hC_203 rfl fun a hs => ?_
    refine Vk.dOnly (i := 13) (by kernel_rfl) (Vk.call (some 27) 151 #[pp b_24, vi 0, vi 1] hs (by kernel_rfl) (by kernel_rfl) (by kernel_rfl) ?_)
    refine Vk.enterI [(0, pp b_24), (1, vi 0), (2, vi 1)] Try.func151 rfl Try.ntmps151 (by kernel_rfl) (Nat.le_of_ble_eq_true (by kernel_rfl)) hs.own fun KR204 hKR204 hKP204 a hs => ?_
    refine qsk 1 [0, 1, 2] hs fun a hs => ?_
    refine qsr fun K206 hK206 => ?_
    refine qpu 3 hs fun a hs => ?_
    refine qld 3 (C.map (some b_23)) hs rfl fun a hs => ?_
    refine qpu 7 hs fun a hs => ?_
    refine Vk.step (Vk.value (some 18) (vi v_45.1) hs (by kernel_rfl) (op := (.lookup 186 (.tmp 10) (.tmp 17) false)) (by kernel_rfl) (fun o ho => run_lookup (b := b_23) (key := .agg (vals [ci 0, ci 1])) 4 rfl ho (by kernel_rfl) (by kernel_rfl) (by kernel_rfl) _ hs.own) fun a hs => ?_)
    refine qpe 1 [(6, vi v_45.1)] hs fun a hs => hK206 _ _ ?_
    clear hK206
    refine wp_ret ?_
    refine hKP204 _ _ ?_
    refine hKR204 _ _ ?_
    refine Vk.ret1 (P := Try.prog) (fn := Try.f151) (vi v_45.1) hs rfl (by kernel_rfl) ⟨_, _, _, rfl, hs.own, fun a hs => ?_⟩
    replace hcl := qO hC_203 hs.own.drop
    refine ⟨fun _ => hcl, ?_⟩
    obtain ⟨v_209, h_208, hm⟩ := bind_t hm
    refine qdc 22 (wire_Machine_Two.ok _ _ _ _ _ _ _ h_208 _ _ _ b_x0 hs.own) hs fun w a hs => ?_
    replace hcl := qO hC_203 hs.own.drop
    refine ⟨fun _ => hcl, ?_⟩
    obtain ⟨v_212, h_211, hm⟩ := bind_t hm
    refine qdc 31 (wire_Machine_Two.ok _ _ _ _ _ _ _ h_211 _ _ _ b_x0 hs.own) hs fun w a hs => ?_
    replace hcl := qO hC_203 hs.own.drop
    refine ⟨fun _ => hcl, ?_⟩
    refine qdp (fuel := 0) [32] hs hcl hqC_203 fun a hs => ?_
    replace hs := hs.pick [6] (L' := [(6, vi v_212.1)]) (by kernel_rfl)
    refine Vk.dDone (by kernel_rfl) ?_
    refine hK202 _ _ ?_
    clear hK202
    refine wp_ret ?_
    refine hKP198 _ _ ?_
    refine hKR198 _ _ ?_
    refine Vk.ret1 (P := Try.prog) (fn := Try.f95) (vi v_212.1) hs rfl (by kernel_rfl) ⟨_, _, _, rfl, hs.own, fun a hs => ?_⟩
    replace hcl := qO hC_197 hs.own.drop
    refine ⟨fun _ => hcl, ?_⟩
    obtain ⟨v_215, h_214, hm⟩ := bind_t hm
    refine qdc 14 (wire_Machine_Two.ok _ _ _ _ _ _ _ h_214 _ _ _ b_x0 hs.own) hs fun w a hs => ?_
    replace hcl := qO hC_197 hs.own.drop
    refine ⟨fun _ => hcl, ?_⟩
    refine qdp (fuel := 1) [16] hs hcl hqC_197 fun a hs => ?_
    refine Vk.dOnly (i := 17) (by kernel_rfl) (Vk.store1 (b := b_142) (ty := 3) (x := (.tmp 54)) (y := (.tmp 52)) (off := 1) (ci v_215.1) 1 hs (by kernel_rfl) (by kernel_rfl) (by kernel_rfl) (by kernel_rfl) (by kernel_rfl) (by kernel_rfl) rfl (Nat.le_of_ble_eq_true (by kernel_rfl)) fun a w hs => ?_)
    refine ⟨fun h => absurd h (by decide), ?_⟩
    replace hs := hs.pick [0, 1, 4, 5, 6, 7, 16, 17, 31, 32] (L' := [(0, pp b_24), (1, .func (.func 95) #[pp b_24] #[]), (4, pp b_140), (5, pp b_142), (6, vi 2), (7, vi 1), (16, vi 2), (17, vi 1), (31, vi 2), (32, vi 0)]) (by kernel_rfl)
    refine Vk.dDone (by kernel_rfl) ?_
    refine hK194 _ _ ?_
    clear hK194
    refine Vk.region ?_
    refine qpk 2 [0, 1, 4, 5, 6, 7, 16, 17, 31, 32] hs fun a hs => hKL191 _ _ ?_
    clear hKL191
    refine Vk.unroll fun KL216 hKL216 => ?_
    refine qsk 1 [0, 1, 4, 5, 6, 7, 16, 17, 31, 32, 33] hs fun a hs => ?_
    refine qck hs ?_
    refine Vk.seq fun K219 hK219 => ?_
    refine wp_block ?_
    refine qsk 2 [0, 1, 4, 5, 6, 7, 8, 16, 17, 31, 32] hs fun a hs => ?_
    refine qsk 3 [0, 1, 4, 5, 6, 7, 8, 16, 17, 31, 32, 37] hs fun a hs => ?_
    refine qcf hs ?_
    refine wp_skip ?_
    refine hK219 _ _ ?_
    clear hK219
    refine Vk.region ?_
    refine qpk 2 [0, 1, 4, 5, 6, 7, 16, 17, 31, 32] hs fun a hs => hKL216 _ _ ?_
    clear hKL216
    refine Vk.unroll fun KL222 hKL222 => ?_
    refine qse 1 [(0, pp b_24), (1, .func (.func 95) #[pp b_24] #[]), (4, pp b_140), (5, pp b_142), (6, vi 2), (7, vi 1), (16, vi 2), (17, vi 1), (31, vi 2), (32, vi 2), (33, .bool false)] hs fun a hs => ?_
    refine Vk.seq fun K224 hK224 => ?_
    refine qcf hs ?_
    refine wp_exit ?_
    refine hK187 _ _ ?_
    clear hK187
    refine Vk.region ?_
    refine qpk 2 [0, 1, 4, 5, 6, 16, 17] hs fun a hs => hKL184 _ _ ?_
    clear hKL184
    refine Vk.unroll fun KL225 hKL225 => ?_
    refine qsk 1 [0, 1, 4, 5, 6, 16, 17, 18] hs fun a hs => ?_
    refine Vk.seq fun K227 hK227 => ?_
    refine qcf hs ?_
    refine wp_exit ?_
    refine hK148 _ _ ?_
    clear hK148
    refine qsr fun K228 hK228 => ?_
    refine qln 1 ([ci v_180.1, ci v_215.1, ci (-1)]) hs rfl fun a hs => ?_
    refine qsa 2 [ci v_180.1, ci v_215.1, ci (-1)] hs rfl fun a w hs => ?_
    refine qpe 0 [(4, pp b_140)] hs fun a hs => hK228 _ _ ?_
    clear hK228
    refine wp_ret ?_
    refine hKP138 _ _ ?_
    refine hKR138 _ _ ?_
    refine Vk.retC (P := Try.prog) (fn := Try.f92) [ci v_180.1, ci v_215.1, ci (-1)] hs rfl (by kernel_rfl) (sz := 3) (by kernel_rfl) rfl (CellsAt.all 2 rfl) ⟨_, _, _, rfl, hs.own, fun a hs => ?_⟩
    refine qal 28 [ci 0, ci 0, ci 0] 8 hs fun b_229 w a hs => ?_
    refine qsa 0 [ci v_180.1, ci v_215.1, ci (-1)] hs rfl fun a w hs => ?_
    refine qpk 0 [0, 6, 8] hs fun a hs => hK137 _ _ ?_
    clear hK137
    refine qsr fun K230 hK230 => ?_
    refine qpu 1 hs fun a hs => ?_
    obtain ⟨v_233, h_232, hm⟩ := bind_t hm
    refine qcl (wire_Machine_End.ok _ _ _ h_232 _ _ _ b_x0 hs.own.f1) hs fun w a hs => ?_
    refine qpe 0 [(6, pp b_4), (8, pp b_229)] hs fun a hs => hK230 _ _ ?_
    clear hK230
    refine qsr fun K234 hK234 => ?_
    refine qln 1 ([ci v_180.1, ci v_215.1, ci (-1)]) hs rfl fun a hs => ?_
    refine qsa 8 [ci v_180.1, ci v_215.1, ci (-1)] hs rfl fun a w hs => ?_
    refine qpe 0 [(6, pp b_4)] hs fun a hs => hK234 _ _ ?_
    clear hK234
    refine wp_ret ?_
    exact Vk.retC (P := Try.prog) (fn := Try.f21) (R := RR) [ci v_180.1, ci v_215.1, ci (-1)] hs rfl (by kernel_rfl) (sz := 3) (by kernel_rfl) rfl (CellsAt.all 8 rfl) (by obtain rfl := Option.some.inj hm; subst hRR; exact ⟨rfl, (hs.own.too [0] 11)⟩)
   ·replace hm := bif_f hm hb
    cases hm
  ·replace hm := bif_f hm hb
   cases hm
 ·replace hm := bif_f hm hb
  rcases Bool.eq_false_or_eq_true (v_10 == 3) with hb | hb
  ·replace hm := bif_t hm hb
   obtain rfl := Vk.of_beq hb
   refine qpk 1 [0, 4, 5, 6, 11] hs fun a hs => hK6 _ _ ?_
   refine qcf hs ?_
   refine wp_skip ?_
   refine hK5 _ _ ?_
   refine qsr fun K235 hK235 => ?_
   refine qpu 1 hs fun a hs => ?_
   replace hs := hs.toEx (Twire_Machine.parts b_x0 x0) g_7 0 rfl
   obtain ⟨v_238, h_237, hm⟩ := bind_t hm
   refine qcl (wire_Machine_Begin.ok _ _ _ _ h_237 _ _ _ b_x0 hs.own) hs fun w a hs => ?_
   refine qpk 0 [0, 4, 5, 6] hs fun a hs => hK235 _ _ ?_
   clear hK235
   refine qsr fun K239 hK239 => ?_
   refine qpu 1 hs fun a hs => ?_
   obtain ⟨h_240, hm⟩ := ite_t hm
   refine Vk.step (Vk.value (some 17) (.agg (vals x1)) hs (by kernel_rfl) (op := (.load 28 (.tmp 4))) (by kernel_rfl) (fun o ho => run_loadN (cs := x1) ho (by kernel_rfl) (by kernel_rfl) h_240 (CellsAt.all 3 rfl) _ hs.own) fun a hs => ?_)
   obtain ⟨h_241, hm⟩ := ite_t hm
   refine Vk.step (Vk.value (some 18) (.agg (vals x2)) hs (by kernel_rfl) (op := (.load 28 (.tmp 5))) (by kernel_rfl) (fun o ho => run_loadN (cs := x2) ho (by kernel_rfl) (by kernel_rfl) h_241 (CellsAt.all 2 rfl) _ hs.own) fun a hs => ?_)
   refine Vk.step (Vk.call (some 19) 91 #[pp b_x0, .agg (vals x1), .agg (vals x2)] hs (by kernel_rfl) (by kernel_rfl) (by kernel_rfl) ?_)
   refine Vk.enterI [(0, pp b_x0), (1, .agg (vals x1)), (2, .agg (vals x2))] Try.func91 rfl Try.ntmps91 (by kernel_rfl) (Nat.le_of_ble_eq_true (by kernel_rfl)) hs.own fun KR242 hKR242 hKP242 a hs => ?_
   refine qsr fun K243 hK243 => ?_
   refine qbx 1 28 x1 4 hs fun b_244 w a hs => ?_
   refine qbx 2 28 x2 5 hs fun b_245 w a hs => ?_
   refine qpk 1 [0, 4, 5] hs fun a hs => hK243 _ _ ?_
   clear hK243
   refine qsr fun K246 hK246 => ?_
   refine qpu 1 hs fun a hs => ?_
   refine Vk.step (Vk.mapOp 14 186 hs (by kernel_rfl) (by kernel_rfl) fun b_247 w a hs => ?_)
   refine qpu 1 hs fun a hs => ?_
   refine qbx 15 188 [cp b_x0, C.map (some b_247), ci 0, ci 0, ci 0, ci 0, ci 0, ci 0, ci 0, ci 0, ci 0] 16 hs fun b_248 w a hs => ?_
   refine qpe 1 [(0, pp b_x0), (4, pp b_244), (5, pp b_245), (7, pp b_248)] hs fun a hs => hK246 _ _ ?_
   clear hK246
   refine qsr fun K249 hK249 => ?_
   refine qpu 1 hs fun a hs => ?_
   obtain ⟨g_250, hs⟩ := hs.unex 4 rfl
   obtain ⟨v_253, h_252, hm⟩ := bind_t hm
   refine qcl (wire_Machine_N.ok _ _ _ h_252 _ _ _ b_x0 g_250 hs.own.f4) hs fun w a hs => ?_
   rcases Bool.eq_false_or_eq_true (v_253 == 3) with hb | hb
   ·replace hm := bif_t hm hb
    obtain rfl := Vk.of_beq hb
    refine qpk 1 [0, 4, 5, 7, 8] hs fun a hs => hK249 _ _ ?_
    clear hK249
    refine Vk.seq fun K254 hK254 => ?_
    refine qsk 2 [0, 4, 5, 7, 8, 19, 20] hs fun a hs => ?_
    refine wp_block ?_
    refine Vk.unroll0 40 ?_
    refine Vk.unroll fun KL256 hKL256 => ?_
    refine qsk 1 [0, 4, 5, 7, 8, 19, 20, 21] hs fun a hs => ?_
    refine qck hs ?_
    refine Vk.seq fun K259 hK259 => ?_
    refine wp_block ?_
    refine qsk 2 [0, 4, 5, 7, 8, 9, 19, 20] hs fun a hs => ?_
    refine qsk 3 [0, 4, 5, 7, 8, 9, 10, 19, 20] hs fun a hs => ?_
    refine wp_block ?_
    refine Vk.unroll0 40 ?_
    refine Vk.unroll fun KL262 hKL262 => ?_
    refine Vk.seq fun K263 hK263 => ?_
    refine qse 3 [(0, pp b_x0), (4, pp b_244), (5, pp b_245), (7, pp b_248), (8, vi 3), (9, vi 0), (10, vi 1), (19, vi 3), (20, vi 0), (27, .bool true)] hs fun a hs => ?_
    refine qct hs ?_
    refine wp_skip ?_
    refine hK263 _ _ ?_
    clear hK263
    refine Vk.seq fun K265 hK265 => ?_
    refine wp_block ?_
    obtain ⟨C_266, hC_266⟩ := qC hs.own.drop
    refine qdr 9 κ C_266 hs fun w hs hqC_266 => ?_
    have hcl := qO hC_266 hs.own.drop
    refine qdp (fuel := 3) [0, 1, 2, 4, 5, 6, 7] hs hcl hqC_266 fun a hs => ?_
    refine qdl 3 0 (C.map (some b_247)) hs hcl hqC_266 hC_266 rfl fun a hs => ?_
    replace hs := hs.toEx (Twire_Machine.parts b_x0 v_238) g_250 0 rfl
    obtain ⟨v_269, h_268, hm⟩ := bind_t hm
    refine qdc 8 (wire_Machine_Rand.ok _ _ _ _ h_268 _ _ _ b_x0 hs.own) hs fun w a hs => ?_
    replace hcl := qO hC_266 hs.own.drop
    refine ⟨fun _ => hcl, ?_⟩
    refine Vk.dOnly (i := 9) (by kernel_rfl) (Vk.updateOp (t := 186) (xm := (.tmp 33)) (xk := (.tmp 36)) (xv := (.tmp 38)) (b := b_247) (es' := #[⟨.agg (vals [ci 0, ci 1]), vi v_269.1, 0⟩]) (clock' := 1) (.agg (vals [ci 0, ci 1])) (vi v_269.1) 2 hs (by kernel_rfl) (by kernel_rfl) (by kernel_rfl) (by kernel_rfl) (by kernel_rfl) rfl (by kernel_rfl) fun a w hs => ?_)
    refine ⟨fun h => absurd h (by decide), ?_⟩
    replace hs := hs.pick [0, 4, 5, 7, 8, 9, 10, 19, 20] (L' := [(0, pp b_x0), (4, pp b_244), (5, pp b_245), (7, pp b_248), (8, vi 3), (9, vi 0), (10, vi 1), (19, vi 3), (20, vi 0)]) (by kernel_rfl)
    refine Vk.dDone (by kernel_rfl) ?_
    refine hK265 _ _ ?_
    clear hK265
    refine Vk.region ?_
    refine qpk 3 [0, 4, 5, 7, 8, 9, 10, 19, 20] hs fun a hs => hKL262 _ _ ?_
    clear hKL262
    refine Vk.unroll fun KL270 hKL270 => ?_
    refine Vk.seq fun K271 hK271 => ?_
    refine qsk 3 [0, 4, 5, 7, 8, 9, 10, 19, 20, 27] hs fun a hs => ?_
    refine qct hs ?_
    refine wp_skip ?_
    refine hK271 _ _ ?_
    clear hK271
    refine Vk.seq fun K273 hK273 => ?_
    refine wp_block ?_
    obtain ⟨C_274, hC_274⟩ := qC hs.own.drop
    refine qdr 9 κ C_274 hs fun w hs hqC_274 => ?_
    have hcl := qO hC_274 hs.own.drop
    refine qdp (fuel := 3) [0, 1, 2, 4, 5, 6, 7] hs hcl hqC_274 fun a hs => ?_
    refine qdl 3 0 (C.map (some b_247)) hs hcl hqC_274 hC_274 rfl fun a hs => ?_
    obtain ⟨v_277, h_276, hm⟩ := bind_t hm
    refine qdc 8 (wire_Machine_Rand.ok _ _ _ _ h_276 _ _ _ b_x0 hs.own) hs fun w a hs => ?_
    replace hcl := qO hC_274 hs.own.drop
    refine ⟨fun _ => hcl, ?_⟩
    refine Vk.dOnly (i := 9) (by kernel_rfl) (Vk.updateOp (t := 186) (xm := (.tmp 33)) (xk := (.tmp 36)) (xv := (.tmp 38)) (b := b_247) (es' := #[⟨.agg (vals [ci 0, ci 1]), vi v_269.1, 0⟩, ⟨.agg (vals [ci 0, ci 2]), vi v_277.1, 1⟩]) (clock' := 2) (.agg (vals [ci 0, ci 2])) (vi v_277.1) 2 hs (by kernel_rfl) (by kernel_rfl) (by kernel_rfl) (by kernel_rfl) (by kernel_rfl) rfl (by kernel_rfl) fun a w hs => ?_)
    refine ⟨fun h => absurd h (by decide), ?_⟩
    replace hs := hs.pick [0, 4, 5, 7, 8, 9, 10, 19, 20] (L' := [(0, pp b_x0), (4, pp b_244), (5, pp b_245), (7, pp b_248), (8, vi 3), (9, vi 0), (10, vi 2), (19, vi 3), (20, vi 0)]) (by kernel_rfl)
    refine Vk.dDone (by kernel_rfl) ?_
    refine hK273 _ _ ?_
    clear hK273
    refine Vk.region ?_
    refine qpk 3 [0, 4, 5, 7, 8, 9, 10, 19, 20] hs fun a hs => hKL270 _ _ ?_
    clear hKL270
    refine Vk.unroll fun KL278 hKL278 => ?_
    refine Vk.seq fun K279 hK279 => ?_
    refine qsk 3 [0, 4, 5, 7, 8, 9, 10, 19, 20, 27] hs fun a hs => ?_
    refine qcf hs ?_
    refine wp_exit ?_
    refine hK259 _ _ ?_
    clear hK259
    refine Vk.region ?_
    refine qpk 2 [0, 4, 5, 7, 8, 19, 20] hs fun a hs => hKL256 _ _ ?_
    clear hKL256
    refine Vk.unroll fun KL281 hKL281 => ?_
    refine qse 1 [(0, pp b_x0), (4, pp b_244), (5, pp b_245), (7, pp b_248), (8, vi 3), (19, vi 3), (20, vi 1), (21, .bool true)] hs fun a hs => ?_
    refine qck hs ?_
    refine Vk.seq fun K284 hK284 => ?_
    refine wp_block ?_
    refine qsk 2 [0, 4, 5, 7, 8, 9, 19, 20] hs fun a hs => ?_
    refine qsk 3 [0, 4, 5, 7, 8, 9, 10, 19, 20] hs fun a hs => ?_
    refine wp_block ?_
    refine Vk.unroll0 40 ?_
    refine Vk.unroll fun KL287 hKL287 => ?_
    refine Vk.seq fun K288 hK288 => ?_
    refine qsk 3 [0, 4, 5, 7, 8, 9, 10, 19, 20, 27] hs fun a hs => ?_
    refine qct hs ?_
    refine wp_skip ?_
    refine hK288 _ _ ?_
    clear hK288
    refine Vk.seq fun K290 hK290 => ?_
    refine wp_block ?_
    obtain ⟨C_291, hC_291⟩ := qC hs.own.drop
    refine qdr 9 κ C_291 hs fun w hs hqC_291 => ?_
    have hcl := qO hC_291 hs.own.drop
    refine qdp (fuel := 3) [0, 1, 2, 4, 5, 6, 7] hs hcl hqC_291 fun a hs => ?_
    refine qdl 3 0 (C.map (some b_247)) hs hcl hqC_291 hC_291 rfl fun a hs => ?_
    obtain ⟨v_294, h_293, hm⟩ := bind_t hm
    refine qdc 8 (wire_Machine_Rand.ok _ _ _ _ h_293 _ _ _ b_x0 hs.own) hs fun w a hs => ?_
    replace hcl := qO hC_291 hs.own.drop
    refine ⟨fun _ => hcl, ?_⟩
    refine Vk.dOnly (i := 9) (by kernel_rfl) (Vk.updateOp (t := 186) (xm := (.tmp 33)) (xk := (.tmp 36)) (xv := (.tmp 38)) (b := b_247) (es' := #[⟨.agg (vals [ci 0, ci 1]), vi v_269.1, 0⟩, ⟨.agg (vals [ci 0, ci 2]), vi v_277.1, 1⟩, ⟨.agg (vals [ci 1, ci 2]), vi v_294.1, 2⟩]) (clock' := 3) (.agg (vals [ci 1, ci 2])) (vi v_294.1) 2 hs (by kernel_rfl) (by kernel_rfl) (by kernel_rfl) (by kernel_rfl) (by kernel_rfl) rfl (by kernel_rfl) fun a w hs => ?_)
    refine ⟨fun h => absurd h (by decide), ?_⟩
    replace hs := hs.pick [0, 4, 5, 7, 8, 9, 10, 19, 20] (L' := [(0, pp b_x0), (4, pp b_244), (5, pp b_245), (7, pp b_248), (8, vi 3), (9, vi 1), (10, vi 2), (19, vi 3), (20, vi 1)]) (by kernel_rfl)
    refine Vk.dDone (by kernel_rfl) ?_
    refine hK290 _ _ ?_
    clear hK290
    refine Vk.region ?_
    refine qpk 3 [0, 4, 5, 7, 8, 9, 10, 19, 20] hs fun a hs => hKL287 _ _ ?_
    clear hKL287
    refine Vk.unroll fun KL295 hKL295 => ?_
    refine Vk.seq fun K296 hK296 => ?_
    refine qsk 3 [0, 4, 5, 7, 8, 9, 10, 19, 20, 27] hs fun a hs => ?_
    refine qcf hs ?_
    refine wp_exit ?_
    refine hK284 _ _ ?_
    clear hK284
    refine Vk.region ?_
    refine qpe 2 [(0, pp b_x0), (4, pp b_244), (5, pp b_245), (7, pp b_248), (8, vi 3), (19, vi 3), (20, vi 2)] hs fun a hs => hKL281 _ _ ?_
    clear hKL281
    refine Vk.unroll fun KL298 hKL298 => ?_
    refine qsk 1 [0, 4, 5, 7, 8, 19, 20, 21] hs fun a hs => ?_
    refine qck hs ?_
    refine Vk.seq fun K301 hK301 => ?_
    refine wp_block ?_
    refine qsk 2 [0, 4, 5, 7, 8, 9, 19, 20] hs fun a hs => ?_
    refine qsk 3 [0, 4, 5, 7, 8, 9, 10, 19, 20] hs fun a hs => ?_
    refine wp_block ?_
    refine Vk.unroll0 40 ?_
    refine Vk.unroll fun KL304 hKL304 => ?_
    refine Vk.seq fun K305 hK305 => ?_
    refine qsk 3 [0, 4, 5, 7, 8, 9, 10, 19, 20, 27] hs fun a hs => ?_
    refine qcf hs ?_
    refine wp_exit ?_
    refine hK301 _ _ ?_
    clear hK301
    refine Vk.region ?_
    refine qpk 2 [0, 4, 5, 7, 8, 19, 20] hs fun a hs => hKL298 _ _ ?_
    clear hKL298
    refine Vk.unroll fun KL307 hKL307 => ?_
    refine qse 1 [(0, pp b_x0), (4, pp b_244), (5, pp b_245), (7, pp b_248), (8, vi 3), (19, vi 3), (20, vi 3), (21, .bool false)] hs fun a hs => ?_
    refine Vk.seq fun K309 hK309 => ?_
    refine qcf hs ?_
    refine wp_exit ?_
    refine hK254 _ _ ?_
    clear hK254
    refine Vk.seq fun K310 hK310 => ?_
    refine qsk 2 [0, 4, 5, 7, 8, 40, 41] hs fun a hs => ?_
    refine wp_block ?_
    refine Vk.unroll0 40 ?_
    refine Vk.unroll fun KL312 hKL312 => ?_
    refine qsk 1 [0, 4, 5, 7, 8, 40, 41, 42] hs fun a hs => ?_
    refine qck hs ?_
    refine Vk.seq fun K315 hK315 => ?_
    refine wp_block ?_
    refine qsk 2 [0, 4, 5, 7, 8, 11, 40, 41] hs fun a hs => ?_
    refine qsk 2 [0, 4, 5, 7, 8, 11, 40, 41, 44, 45] hs fun a hs => ?_
    refine wp_block ?_
    refine Vk.unroll0 40 ?_
    refine Vk.unroll fun KL318 hKL318 => ?_
    refine qsk 1 [0, 4, 5, 7, 8, 11, 40, 41, 44, 45, 46] hs fun a hs => ?_
    refine qck hs ?_
    refine Vk.seq fun K321 hK321 => ?_
    refine wp_block ?_
    refine qse 2 [(0, pp b_x0), (4, pp b_244), (5, pp b_245), (7, pp b_248), (8, vi 3), (11, vi 0), (12, vi 0), (40, vi 3), (41, vi 0), (44, vi 3), (45, vi 0)] hs fun a hs => ?_
    obtain ⟨C_323, hC_323⟩ := qC hs.own.drop
    refine qdr 18 κ C_323 hs fun w hs hqC_323 => ?_
    have hcl := qO hC_323 hs.own.drop
    refine qdp (fuel := 5) [0, 1, 2, 3, 4, 5, 6, 7, 9, 10, 11, 14, 15, 16] hs hcl hqC_323 fun a hs => ?_
    obtain ⟨v_325, h_324, hm⟩ := bind_t hm
    refine Vk.dTakeT (i := 8) (some 56) (vi v_325) hs (by kernel_rfl) hqC_323 hcl (by kernel_rfl) (by kernel_rfl) (op := (.load 3 (.tmp 55))) (by kernel_rfl) (by kernel_rfl) (fun w hw o ho => by rw [hC_323] at hw; exact run_load1 (c := ci v_325) ho (by kernel_rfl) (by kernel_rfl) (Cell.own 3 rfl (getI_some h_324)) _ hw) fun a hs => ?_
    obtain ⟨v_327, h_326, hm⟩ := bind_t hm
    refine Vk.dTakeT (i := 12) (some 60) (vi v_327) hs (by kernel_rfl) hqC_323 hcl (by kernel_rfl) (by kernel_rfl) (op := (.load 3 (.tmp 59))) (by kernel_rfl) (by kernel_rfl) (fun w hw o ho => by rw [hC_323] at hw; exact run_load1 (c := ci v_327) ho (by kernel_rfl) (by kernel_rfl) (Cell.own 2 rfl (getI_some h_326)) _ hw) fun a hs => ?_
    obtain ⟨v_330, h_329, hm⟩ := bind_t hm
    refine qdc 13 (wire_Machine_Two.ok _ _ _ _ _ _ _ h_329 _ _ _ b_x0 hs.own) hs fun w a hs => ?_
    replace hcl := qO hC_323 hs.own.drop
    refine ⟨fun _ => hcl, ?_⟩
    refine qdp (fuel := 1) [17] hs hcl hqC_323 fun a hs => ?_
    refine Vk.dOnly (i := 18) (by kernel_rfl) (Vk.store1 (b := b_248) (ty := 3) (x := (.tmp 65)) (y := (.tmp 61)) (off := 2) (ci v_330.1) 1 hs (by kernel_rfl) (by kernel_rfl) (by kernel_rfl) (by kernel_rfl) (by kernel_rfl) (by kernel_rfl) rfl (Nat.le_of_ble_eq_true (by kernel_rfl)) fun a w hs => ?_)
    refine ⟨fun h => absurd h (by decide), ?_⟩
    replace hs := hs.pick [0, 4, 5, 7, 8, 11, 40, 41, 44, 45] (L' := [(0, pp b_x0), (4, pp b_244), (5, pp b_245), (7, pp b_248), (8, vi 3), (11, vi 0), (40, vi 3), (41, vi 0), (44, vi 3), (45, vi 0)]) (by kernel_rfl)
    refine Vk.dDone (by kernel_rfl) ?_
    refine hK321 _ _ ?_
    clear hK321
    refine Vk.region ?_
    refine qpk 2 [0, 4, 5, 7, 8, 11, 40, 41, 44, 45] hs fun a hs => hKL318 _ _ ?_
    clear hKL318
    refine Vk.unroll fun KL331 hKL331 => ?_
    refine qsk 1 [0, 4, 5, 7, 8, 11, 40, 41, 44, 45, 46] hs fun a hs => ?_
    refine qck hs ?_
    refine Vk.seq fun K334 hK334 => ?_
    refine wp_block ?_
    refine qsk 2 [0, 4, 5, 7, 8, 11, 12, 40, 41, 44, 45] hs fun a hs => ?_
    obtain ⟨C_336, hC_336⟩ := qC hs.own.drop
    refine qdr 18 κ C_336 hs fun w hs hqC_336 => ?_
    have hcl := qO hC_336 hs.own.drop
    refine qdp (fuel := 5) [0, 1, 2, 3, 4, 5, 6, 7, 9, 10, 11, 14, 15, 16] hs hcl hqC_336 fun a hs => ?_
    obtain ⟨v_338, h_337, hm⟩ := bind_t hm
    refine Vk.dTakeT (i := 8) (some 56) (vi v_338) hs (by kernel_rfl) hqC_336 hcl (by kernel_rfl) (by kernel_rfl) (op := (.load 3 (.tmp 55))) (by kernel_rfl) (by kernel_rfl) (fun w hw o ho => by rw [hC_336] at hw; exact run_load1 (c := ci v_338) ho (by kernel_rfl) (by kernel_rfl) (Cell.own 3 rfl (getI_some h_337)) _ hw) fun a hs => ?_
    obtain ⟨v_340, h_339, hm⟩ := bind_t hm
    refine Vk.dTakeT (i := 12) (some 60) (vi v_340) hs (by kernel_rfl) hqC_336 hcl (by kernel_rfl) (by kernel_rfl) (op := (.load 3 (.tmp 59))) (by kernel_rfl) (by kernel_rfl) (fun w hw o ho => by rw [hC_336] at hw; exact run_load1 (c := ci v_340) ho (by kernel_rfl) (by kernel_rfl) (Cell.own 2 rfl (getI_some h_339)) _ hw) fun a hs => ?_
    obtain ⟨v_343, h_342, hm⟩ := bind_t hm
    refine qdc 13 (wire_Machine_Two.ok _ _ _ _ _ _ _ h_342 _ _ _ b_x0 hs.own) hs fun w a hs => ?_
    replace hcl := qO hC_336 hs.own.drop
    refine ⟨fun _ => hcl, ?_⟩
    refine qdp (fuel := 1) [17] hs hcl hqC_336 fun a hs => ?_
    refine Vk.dOnly (i := 18) (by kernel_rfl) (Vk.store1 (b := b_248) (ty := 3) (x := (.tmp 65)) (y := (.tmp 61)) (off := 3) (ci v_343.1) 1 hs (by kernel_rfl) (by kernel_rfl) (by kernel_rfl) (by kernel_rfl) (by kernel_rfl) (by kernel_rfl) rfl (Nat.le_of_ble_eq_true (by kernel_rfl)) fun a w hs => ?_)
    refine ⟨fun h => absurd h (by decide), ?_⟩
    replace hs := hs.pick [0, 4, 5, 7, 8, 11, 40, 41, 44, 45] (L' := [(0, pp b_x0), (4, pp b_244), (5, pp b_245), (7, pp b_248), (8, vi 3), (11, vi 0), (40, vi 3), (41, vi 0), (44, vi 3), (45, vi 1)]) (by kernel_rfl)
    refine Vk.dDone (by kernel_rfl) ?_
    refine hK334 _ _ ?_
    clear hK334
    refine Vk.region ?_
    refine qpk 2 [0, 4, 5, 7, 8, 11, 40, 41, 44, 45] hs fun a hs => hKL331 _ _ ?_
    clear hKL331
    refine Vk.unroll fun KL344 hKL344 => ?_
    refine qsk 1 [0, 4, 5, 7, 8, 11, 40, 41, 44, 45, 46] hs fun a hs => ?_
    refine qck hs ?_
    refine Vk.seq fun K347 hK347 => ?_
    refine wp_block ?_
    refine qse 2 [(0, pp b_x0), (4, pp b_244), (5, pp b_245), (7, pp b_248), (8, vi 3), (11, vi 0), (12, vi 2), (40, vi 3), (41, vi 0), (44, vi 3), (45, vi 2)] hs fun a hs => ?_
    obtain ⟨C_349, hC_349⟩ := qC hs.own.drop
    refine qdr 18 κ C_349 hs fun w hs hqC_349 => ?_
    have hcl := qO hC_349 hs.own.drop
    refine qdp (fuel := 5) [0, 1, 2, 3, 4, 5, 6, 7, 9, 10, 11, 14, 15, 16] hs hcl hqC_349 fun a hs => ?_
    obtain ⟨v_351, h_350, hm⟩ := bind_t hm
    refine Vk.dTakeT (i := 8) (some 56) (vi v_351) hs (by kernel_rfl) hqC_349 hcl (by kernel_rfl) (by kernel_rfl) (op := (.load 3 (.tmp 55))) (by kernel_rfl) (by kernel_rfl) (fun w hw o ho => by rw [hC_349] at hw; exact run_load1 (c := ci v_351) ho (by kernel_rfl) (by kernel_rfl) (Cell.own 3 rfl (getI_some h_350)) _ hw) fun a hs => ?_
    obtain ⟨v_353, h_352, hm⟩ := bind_t hm
    refine Vk.dTakeT (i := 12) (some 60) (vi v_353) hs (by kernel_rfl) hqC_349 hcl (by kernel_rfl) (by kernel_rfl) (op := (.load 3 (.tmp 59))) (by kernel_rfl) (by kernel_rfl) (fun w hw o ho => by rw [hC_349] at hw; exact run_load1 (c := ci v_353) ho (by kernel_rfl) (by kernel_rfl) (Cell.own 2 rfl (getI_some h_352)) _ hw) fun a hs => ?_
    obtain ⟨v_356, h_355, hm⟩ := bind_t hm
    refine qdc 13 (wire_Machine_Two.ok _ _ _ _ _ _ _ h_355 _ _ _ b_x0 hs.own) hs fun w a hs => ?_
    replace hcl := qO hC_349 hs.own.drop
    refine ⟨fun _ => hcl, ?_⟩
    refine qdp (fuel := 1) [17] hs hcl hqC_349 fun a hs => ?_
    refine Vk.dOnly (i := 18) (by kernel_rfl) (Vk.store1 (b := b_248) (ty := 3) (x := (.tmp 65)) (y := (.tmp 61)) (off := 4) (ci v_356.1) 1 hs (by kernel_rfl) (by kernel_rfl) (by kernel_rfl) (by kernel_rfl) (by kernel_rfl) (by kernel_rfl) rfl (Nat.le_of_ble_eq_true (by kernel_rfl)) fun a w hs => ?_)
    refine ⟨fun h => absurd h (by decide), ?_⟩
    replace hs := hs.pick [0, 4, 5, 7, 8, 11, 40, 41, 44, 45] (L' := [(0, pp b_x0), (4, pp b_244), (5, pp b_245), (7, pp b_248), (8, vi 3), (11, vi 0), (40, vi 3), (41, vi 0), (44, vi 3), (45, vi 2)]) (by kernel_rfl)
    refine Vk.dDone (by kernel_rfl) ?_
    refine hK347 _ _ ?_
    clear hK347
    refine Vk.region ?_
    refine qpk 2 [0, 4, 5, 7, 8, 11, 40, 41, 44, 45] hs fun a hs => hKL344 _ _ ?_
    clear hKL344
    refine Vk.unroll fun KL357 hKL357 => ?_
    refine qsk 1 [0, 4, 5, 7, 8, 11, 40, 41, 44, 45, 46] hs fun a hs => ?_
    refine Vk.seq fun K359 hK359 => ?_
    refine qcf hs ?_
    refine wp_exit ?_
    refine hK315 _ _ ?_
    clear hK315
    refine Vk.region ?_
    refine qpk 2 [0, 4, 5, 7, 8, 40, 41] hs fun a hs => hKL312 _ _ ?_
    clear hKL312
    refine Vk.unroll fun KL360 hKL360 => ?_
    refine qsk 1 [0, 4, 5, 7, 8, 40, 41, 42] hs fun a hs => ?_
    refine qck hs ?_
    refine Vk.seq fun K363 hK363 => ?_
    refine wp_block ?_
    refine qsk 2 [0, 4, 5, 7, 8, 11, 40, 41] hs fun a hs => ?_
    refine qse 2 [(0, pp b_x0), (4, pp b_244), (5, pp b_245), (7, pp b_248), (8, vi 3), (11, vi 1), (40, vi 3), (41, vi 1), (44, vi 3), (45, vi 0)] hs fun a hs => ?_
    refine wp_block ?_
    refine Vk.unroll0 40 ?_
    refine Vk.unroll fun KL366 hKL366 => ?_
    refine qsk 1 [0, 4, 5, 7, 8, 11, 40, 41, 44, 45, 46] hs fun a hs => ?_
    refine qck hs ?_
    refine Vk.seq fun K369 hK369 => ?_
    refine wp_block ?_
    refine qsk 2 [0, 4, 5, 7, 8, 11, 12, 40, 41, 44, 45] hs fun a hs => ?_
    obtain ⟨C_371, hC_371⟩ := qC hs.own.drop
    refine qdr 18 κ C_371 hs fun w hs hqC_371 => ?_
    have hcl := qO hC_371 hs.own.drop
    refine qdp (fuel := 5) [0, 1, 2, 3, 4, 5, 6, 7, 9, 10, 11, 14, 15, 16] hs hcl hqC_371 fun a hs => ?_
    obtain ⟨v_373, h_372, hm⟩ := bind_t hm
    refine Vk.dTakeT (i := 8) (some 56) (vi v_373) hs (by kernel_rfl) hqC_371 hcl (by kernel_rfl) (by kernel_rfl) (op := (.load 3 (.tmp 55))) (by kernel_rfl) (by kernel_rfl) (fun w hw o ho => by rw [hC_371] at hw; exact run_load1 (c := ci v_373) ho (by kernel_rfl) (by kernel_rfl) (Cell.own 3 rfl (getI_some h_372)) _ hw) fun a hs => ?_
    obtain ⟨v_375, h_374, hm⟩ := bind_t hm
    refine Vk.dTakeT (i := 12) (some 60) (vi v_375) hs (by kernel_rfl) hqC_371 hcl (by kernel_rfl) (by kernel_rfl) (op := (.load 3 (.tmp 59))) (by kernel_rfl) (by kernel_rfl) (fun w hw o ho => by rw [hC_371] at hw; exact run_load1 (c := ci v_375) ho (by kernel_rfl) (by kernel_rfl) (Cell.own 2 rfl (getI_some h_374)) _ hw) fun a hs => ?_
    obtain ⟨v_378, h_377, hm⟩ := bind_t hm
    refine qdc 13 (wire_Machine_Two.ok _ _ _ _ _ _ _ h_377 _ _ _ b_x0 hs.own) hs fun w a hs => ?_
    replace hcl := qO hC_371 hs.own.drop
    refine ⟨fun _ => hcl, ?_⟩
    refine qdp (fuel := 1) [17] hs hcl hqC_371 fun a hs => ?_
    refine Vk.dOnly (i := 18) (by kernel_rfl) (Vk.store1 (b := b_248) (ty := 3) (x := (.tmp 65)) (y := (.tmp 61)) (off := 5) (ci v_378.1) 1 hs (by kernel_rfl) (by kernel_rfl) (by kernel_rfl) (by kernel_rfl) (by kernel_rfl) (by kernel_rfl) rfl (Nat.le_of_ble_eq_true (by kernel_rfl)) fun a w hs => ?_)
    refine ⟨fun h => absurd h (by decide), ?_⟩
    replace hs := hs.pick [0, 4, 5, 7, 8, 11, 40, 41, 44, 45] (L' := [(0, pp b_x0), (4, pp b_244), (5, pp b_245), (7, pp b_248), (8, vi 3), (11, vi 1), (40, vi 3), (41, vi 1), (44, vi 3), (45, vi 0)]) (by kernel_rfl)
    refine Vk.dDone (by kernel_rfl) ?_
    refine hK369 _ _ ?_
    clear hK369
    refine Vk.region ?_
    refine qpk 2 [0, 4, 5, 7, 8, 11, 40, 41, 44, 45] hs fun a hs => hKL366 _ _ ?_
    clear hKL366
    refine Vk.unroll fun KL379 hKL379 => ?_
    refine qsk 1 [0, 4, 5, 7, 8, 11, 40, 41, 44, 45, 46] hs fun a hs => ?_
    refine qck hs ?_
    refine Vk.seq fun K382 hK382 => ?_
    refine wp_block ?_
    refine qsk 2 [0, 4, 5, 7, 8, 11, 12, 40, 41, 44, 45] hs fun a hs => ?_
    obtain ⟨C_384, hC_384⟩ := qC hs.own.drop
    refine qdr 18 κ C_384 hs fun w hs hqC_384 => ?_
    have hcl := qO hC_384 hs.own.drop
    refine qdp (fuel := 5) [0, 1, 2, 3, 4, 5, 6, 7, 9, 10, 11, 14, 15, 16] hs hcl hqC_384 fun a hs => ?_
    obtain ⟨v_386, h_385, hm⟩ := bind_t hm
    refine Vk.dTakeT (i := 8) (some 56) (vi v_386) hs (by kernel_rfl) hqC_384 hcl (by kernel_rfl) (by kernel_rfl) (op := (.load 3 (.tmp 55))) (by kernel_rfl) (by kernel_rfl) (fun w hw o ho => by rw [hC_384] at hw; exact run_load1 (c := ci v_386) ho (by kernel_rfl) (by kernel_rfl) (Cell.own 3 rfl (getI_some h_385)) _ hw) fun a hs => ?_
    obtain ⟨v_388, h_387, hm⟩ := bind_t hm
    refine Vk.dTakeT (i := 12) (some 60) (vi v_388) hs (by kernel_rfl) hqC_384 hcl (by kernel_rfl) (by kernel_rfl) (op := (.load 3 (.tmp 59))) (by kernel_rfl) (by kernel_rfl) (fun w hw o ho => by rw [hC_384] at hw; exact run_load1 (c := ci v_388) ho (by kernel_rfl) (by kernel_rfl) (Cell.own 2 rfl (getI_some h_387)) _ hw) fun a hs => ?_
    obtain ⟨v_391, h_390, hm⟩ := bind_t hm
    refine qdc 13 (wire_Machine_Two.ok _ _ _ _ _ _ _ h_390 _ _ _ b_x0 hs.own) hs fun w a hs => ?_
    replace hcl := qO hC_384 hs.own.drop
    refine ⟨fun _ => hcl, ?_⟩
    refine qdp (fuel := 1) [17] hs hcl hqC_384 fun a hs => ?_
    refine Vk.dOnly (i := 18) (by kernel_rfl) (Vk.store1 (b := b_248) (ty := 3) (x := (.tmp 65)) (y := (.tmp 61)) (off := 6) (ci v_391.1) 1 hs (by kernel_rfl) (by kernel_rfl) (by kernel_rfl) (by kernel_rfl) (by kernel_rfl) (by kernel_rfl) rfl (Nat.le_of_ble_eq_true (by kernel_rfl)) fun a w hs => ?_)
    refine ⟨fun h => absurd h (by decide), ?_⟩
    replace hs := hs.pick [0, 4, 5, 7, 8, 11, 40, 41, 44, 45] (L' := [(0, pp b_x0), (4, pp b_244), (5, pp b_245), (7, pp b_248), (8, vi 3), (11, vi 1), (40, vi 3), (41, vi 1), (44, vi 3), (45, vi 1)]) (by kernel_rfl)
    refine Vk.dDone (by kernel_rfl) ?_
    refine hK382 _ _ ?_
    clear hK382
    refine Vk.region ?_
    refine qpe 2 [(0, pp b_x0), (4, pp b_244), (5, pp b_245), (7, pp b_248), (8, vi 3), (11, vi 1), (40, vi 3), (41, vi 1), (44, vi 3), (45, vi 2)] hs fun a hs => hKL379 _ _ ?_
    clear hKL379
    refine Vk.unroll fun KL392 hKL392 => ?_
    refine qsk 1 [0, 4, 5, 7, 8, 11, 40, 41, 44, 45, 46] hs fun a hs => ?_
    refine qck hs ?_
    refine Vk.seq fun K395 hK395 => ?_
    refine wp_block ?_
    refine qsk 2 [0, 4, 5, 7, 8, 11, 12, 40, 41, 44, 45] hs fun a hs => ?_
    obtain ⟨C_397, hC_397⟩ := qC hs.own.drop
    refine qdr 18 κ C_397 hs fun w hs hqC_397 => ?_
    have hcl := qO hC_397 hs.own.drop
    refine qdp (fuel := 5) [0, 1, 2, 3, 4, 5, 6, 7, 9, 10, 11, 14, 15, 16] hs hcl hqC_397 fun a hs => ?_
    obtain ⟨v_399, h_398, hm⟩ := bind_t hm
    refine Vk.dTakeT (i := 8) (some 56) (vi v_399) hs (by kernel_rfl) hqC_397 hcl (by kernel_rfl) (by kernel_rfl) (op := (.load 3 (.tmp 55))) (by kernel_rfl) (by kernel_rfl) (fun w hw o ho => by rw [hC_397] at hw; exact run_load1 (c := ci v_399) ho (by kernel_rfl) (by kernel_rfl) (Cell.own 3 rfl (getI_some h_398)) _ hw) fun a hs => ?_
    obtain ⟨v_401, h_400, hm⟩ := bind_t hm
    refine Vk.dTakeT (i := 12) (some 60) (vi v_401) hs (by kernel_rfl) hqC_397 hcl (by kernel_rfl) (by kernel_rfl) (op := (.load 3 (.tmp 59))) (by kernel_rfl) (by kernel_rfl) (fun w hw o ho => by rw [hC_397] at hw; exact run_load1 (c := ci v_401) ho (by kernel_rfl) (by kernel_rfl) (Cell.own 2 rfl (getI_some h_400)) _ hw) fun a hs => ?_
    obtain ⟨v_404, h_403, hm⟩ := bind_t hm
    refine qdc 13 (wire_Machine_Two.ok _ _ _ _ _ _ _ h_403 _ _ _ b_x0 hs.own) hs fun w a hs => ?_
    replace hcl := qO hC_397 hs.own.drop
    refine ⟨fun _ => hcl, ?_⟩
    refine qdp (fuel := 1) [17] hs hcl hqC_397 fun a hs => ?_
    refine Vk.dOnly (i := 18) (by kernel_rfl) (Vk.store1 (b := b_248) (ty := 3) (x := (.tmp 65)) (y := (.tmp 61)) (off := 7) (ci v_404.1) 1 hs (by kernel_rfl) (by kernel_rfl) (by kernel_rfl) (by kernel_rfl) (by kernel_rfl) (by kernel_rfl) rfl (Nat.le_of_ble_eq_true (by kernel_rfl)) fun a w hs => ?_)
    refine ⟨fun h => absurd h (by decide), ?_⟩
    replace hs := hs.pick [0, 4, 5, 7, 8, 11, 40, 41, 44, 45] (L' := [(0, pp b_x0), (4, pp b_244), (5, pp b_245), (7, pp b_248), (8, vi 3), (11, vi 1), (40, vi 3), (41, vi 1), (44, vi 3), (45, vi 2)]) (by kernel_rfl)
    refine Vk.dDone (by kernel_rfl) ?_
    refine hK395 _ _ ?_
    clear hK395
    refine Vk.region ?_
    refine qpk 2 [0, 4, 5, 7, 8, 11, 40, 41, 44, 45] hs fun a hs => hKL392 _ _ ?_
    clear hKL392
    refine Vk.unroll fun KL405 hKL405 => ?_
    refine qsk 1 [0, 4, 5, 7, 8, 11, 40, 41, 44, 45, 46] hs fun a hs => ?_
    refine Vk.seq fun K407 hK407 => ?_
    refine qcf hs ?_
    refine wp_exit ?_
    refine hK363 _ _ ?_
    clear hK363
    refine Vk.region ?_
    refine qpk 2 [0, 4, 5, 7, 8, 40, 41] hs fun a hs => hKL360 _ _ ?_
    clear hKL360
    refine Vk.unroll fun KL408 hKL408 => ?_
    refine qse 1 [(0, pp b_x0), (4, pp b_244), (5, pp b_245), (7, pp b_248), (8, vi 3), (40, vi 3), (41, vi 2), (42, .bool true)] hs fun a hs => ?_
    refine qck hs ?_
    refine Vk.seq fun K411 hK411 => ?_
    refine wp_block ?_
    refine qsk 2 [0, 4, 5, 7, 8, 11, 40, 41] hs fun a hs => ?_
    refine qsk 2 [0, 4, 5, 7, 8, 11, 40, 41, 44, 45] hs fun a hs => ?_
    refine wp_block ?_
    refine Vk.unroll0 40 ?_
    refine Vk.unroll fun KL414 hKL414 => ?_
    refine qsk 1 [0, 4, 5, 7, 8, 11, 40, 41, 44, 45, 46] hs fun a hs => ?_
    refine qck hs ?_
    refine Vk.seq fun K417 hK417 => ?_
    refine wp_block ?_
    refine qsk 2 [0, 4, 5, 7, 8, 11, 12, 40, 41, 44, 45] hs fun a hs => ?_
    obtain ⟨C_419, hC_419⟩ := qC hs.own.drop
    refine qdr 18 κ C_419 hs fun w hs hqC_419 => ?_
    have hcl := qO hC_419 hs.own.drop
    refine qdp (fuel := 5) [0, 1, 2, 3, 4, 5, 6, 7, 9, 10, 11, 14, 15, 16] hs hcl hqC_419 fun a hs => ?_
    obtain ⟨v_421, h_420, hm⟩ := bind_t hm
    refine Vk.dTakeT (i := 8) (some 56) (vi v_421) hs (by kernel_rfl) hqC_419 hcl (by kernel_rfl) (by kernel_rfl) (op := (.load 3 (.tmp 55))) (by kernel_rfl) (by kernel_rfl) (fun w hw o ho => by rw [hC_419] at hw; exact run_load1 (c := ci v_421) ho (by kernel_rfl) (by kernel_rfl) (Cell.own 3 rfl (getI_some h_420)) _ hw) fun a hs => ?_
    obtain ⟨v_423, h_422, hm⟩ := bind_t hm
    refine Vk.dTakeT (i := 12) (some 60) (vi v_423) hs (by kernel_rfl) hqC_419 hcl (by kernel_rfl) (by kernel_rfl) (op := (.load 3 (.tmp 59))) (by kernel_rfl) (by kernel_rfl) (fun w hw o ho => by rw [hC_419] at hw; exact run_load1 (c := ci v_423) ho (by kernel_rfl) (by kernel_rfl) (Cell.own 2 rfl (getI_some h_422)) _ hw) fun a hs => ?_
    obtain ⟨v_426, h_425, hm⟩ := bind_t hm
    refine qdc 13 (wire_Machine_Two.ok _ _ _ _ _ _ _ h_425 _ _ _ b_x0 hs.own) hs fun w a hs => ?_
    replace hcl := qO hC_419 hs.own.drop
    refine ⟨fun _ => hcl, ?_⟩
    refine qdp (fuel := 1) [17] hs hcl hqC_419 fun a hs => ?_
    refine Vk.dOnly (i := 18) (by kernel_rfl) (Vk.store1 (b := b_248) (ty := 3) (x := (.tmp 65)) (y := (.tmp 61)) (off := 8) (ci v_426.1) 1 hs (by kernel_rfl) (by kernel_rfl) (by kernel_rfl) (by kernel_rfl) (by kernel_rfl) (by kernel_rfl) rfl (Nat.le_of_ble_eq_true (by kernel_rfl)) fun a w hs => ?_)
    refine ⟨fun h => absurd h (by decide), ?_⟩
    replace hs := hs.pick [0, 4, 5, 7, 8, 11, 40, 41, 44, 45] (L' := [(0, pp b_x0), (4, pp b_244), (5, pp b_245), (7, pp b_248), (8, vi 3), (11, vi 2), (40, vi 3), (41, vi 2), (44, vi 3), (45, vi 0)]) (by kernel_rfl)
    refine Vk.dDone (by kernel_rfl) ?_
    refine hK417 _ _ ?_
    clear hK417
    refine Vk.region ?_
    refine qpk 2 [0, 4, 5, 7, 8, 11, 40, 41, 44, 45] hs fun a hs => hKL414 _ _ ?_
    clear hKL414
    refine Vk.unroll fun KL427 hKL427 => ?_
    refine qse 1 [(0, pp b_x0), (4, pp b_244), (5, pp b_245), (7, pp b_248), (8, vi 3), (11, vi 2), (40, vi 3), (41, vi 2), (44, vi 3), (45, vi 1), (46, .bool true)] hs fun a hs => ?_
    refine qck hs ?_
    refine Vk.seq fun K430 hK430 => ?_
    refine wp_block ?_
    refine qsk 2 [0, 4, 5, 7, 8, 11, 12, 40, 41, 44, 45] hs fun a hs => ?_
    obtain ⟨C_432, hC_432⟩ := qC hs.own.drop
    refine qdr 18 κ C_432 hs fun w hs hqC_432 => ?_
    have hcl := qO hC_432 hs.own.drop
    refine qdp (fuel := 5) [0, 1, 2, 3, 4, 5, 6, 7, 9, 10, 11, 14, 15, 16] hs hcl hqC_432 fun a hs => ?_
    obtain ⟨v_434, h_433, hm⟩ := bind_t hm
    refine Vk.dTakeT (i := 8) (some 56) (vi v_434) hs (by kernel_rfl) hqC_432 hcl (by kernel_rfl) (by kernel_rfl) (op := (.load 3 (.tmp 55))) (by kernel_rfl) (by kernel_rfl) (fun w hw o ho => by rw [hC_432] at hw; exact run_load1 (c := ci v_434) ho (by kernel_rfl) (by kernel_rfl) (Cell.own 3 rfl (getI_some h_433)) _ hw) fun a hs => ?_
    obtain ⟨v_436, h_435, hm⟩ := bind_t hm
    refine Vk.dTakeT (i := 12) (some 60) (vi v_436) hs (by kernel_rfl) hqC_432 hcl (by kernel_rfl) (by kernel_rfl) (op := (.load 3 (.tmp 59))) (by kernel_rfl) (by kernel_rfl) (fun w hw o ho => by rw [hC_432] at hw; exact run_load1 (c := ci v_436) ho (by kernel_rfl) (by kernel_rfl) (Cell.own 2 rfl (getI_some h_435)) _ hw) fun a hs => ?_
    obtain ⟨v_439, h_438, hm⟩ := bind_t hm
    refine qdc 13 (wire_Machine_Two.ok _ _ _ _ _ _ _ h_438 _ _ _ b_x0 hs.own) hs fun w a hs => ?_
    replace hcl := qO hC_432 hs.own.drop
    refine ⟨fun _ => hcl, ?_⟩
    refine qdp (fuel := 1) [17] hs hcl hqC_432 fun a hs => ?_
    refine Vk.dOnly (i := 18) (by kernel_rfl) (Vk.store1 (b := b_248) (ty := 3) (x := (.tmp 65)) (y := (.tmp 61)) (off := 9) (ci v_439.1) 1 hs (by kernel_rfl) (by kernel_rfl) (by kernel_rfl) (by kernel_rfl) (by kernel_rfl) (by kernel_rfl) rfl (Nat.le_of_ble_eq_true (by kernel_rfl)) fun a w hs => ?_)
    refine ⟨fun h => absurd h (by decide), ?_⟩
    replace hs := hs.pick [0, 4, 5, 7, 8, 11, 40, 41, 44, 45] (L' := [(0, pp b_x0), (4, pp b_244), (5, pp b_245), (7, pp b_248), (8, vi 3), (11, vi 2), (40, vi 3), (41, vi 2), (44, vi 3), (45, vi 1)]) (by kernel_rfl)
    refine Vk.dDone (by kernel_rfl) ?_
    refine hK430 _ _ ?_
    clear hK430
    refine Vk.region ?_
    refine qpk 2 [0, 4, 5, 7, 8, 11, 40, 41, 44, 45] hs fun a hs => hKL427 _ _ ?_
    clear hKL427
    refine Vk.unroll fun KL440 hKL440 => ?_
    refine qsk 1 [0, 4, 5, 7, 8, 11, 40, 41, 44, 45, 46] hs fun a hs => ?_
    refine qck hs ?_
    refine Vk.seq fun K443 hK443 => ?_
    refine wp_block ?_
    refine qsk 2 [0, 4, 5, 7, 8, 11, 12, 40, 41, 44, 45] hs fun a hs => ?_
    obtain ⟨C_445, hC_445⟩ := qC hs.own.drop
    refine qdr 18 κ C_445 hs fun w hs hqC_445 => ?_
    have hcl := qO hC_445 hs.own.drop
    refine qdp (fuel := 5) [0, 1, 2, 3, 4, 5, 6, 7, 9, 10, 11, 14, 15, 16] hs hcl hqC_445 fun a hs => ?_
    obtain ⟨v_447, h_446, hm⟩ := bind_t hm
    refine Vk.dTakeT (i := 8) (some 56) (vi v_447) hs (by kernel_rfl) hqC_445 hcl (by kernel_rfl) (by kernel_rfl) (op := (.load 3 (.tmp 55))) (by kernel_rfl) (by kernel_rfl) (fun w hw o ho => by rw [hC_445] at hw; exact run_load1 (c := ci v_447) ho (by kernel_rfl) (by kernel_rfl) (Cell.own 3 rfl (getI_some h_446)) _ hw) fun a hs => ?_
    obtain ⟨v_449, h_448, hm⟩ := bind_t hm
    refine Vk.dTakeT (i := 12) (some 60) (vi v_449) hs (by kernel_rfl) hqC_445 hcl (by kernel_rfl) (by kernel_rfl) (op := (.load 3 (.tmp 59))) (by kernel_rfl) (by kernel_rfl) (fun w hw o ho => by rw [hC_445] at hw; exact run_load1 (c := ci v_449) ho (by kernel_rfl) (by kernel_rfl) (Cell.own 2 rfl (getI_some h_448)) _ hw) fun a hs => ?_
    obtain ⟨v_452, h_451, hm⟩ := bind_t hm
    refine qdc 13 (wire_Machine_Two.ok _ _ _ _ _ _ _ h_451 _ _ _ b_x0 hs.own) hs fun w a hs => ?_
    replace hcl := qO hC_445 hs.own.drop
    refine ⟨fun _ => hcl, ?_⟩
    refine qdp (fuel := 1) [17] hs hcl hqC_445 fun a hs => ?_
    refine Vk.dOnly (i := 18) (by kernel_rfl) (Vk.store1 (b := b_248) (ty := 3) (x := (.tmp 65)) (y := (.tmp 61)) (off := 10) (ci v_452.1) 1 hs (by kernel_rfl) (by kernel_rfl) (by kernel_rfl) (by kernel_rfl) (by kernel_rfl) (by kernel_rfl) rfl (Nat.le_of_ble_eq_true (by kernel_rfl)) fun a w hs => ?_)
    refine ⟨fun h => absurd h (by decide), ?_⟩
    replace hs := hs.pick [0, 4, 5, 7, 8, 11, 40, 41, 44, 45] (L' := [(0, pp b_x0), (4, pp b_244), (5, pp b_245), (7, pp b_248), (8, vi 3), (11, vi 2), (40, vi 3), (41, vi 2), (44, vi 3), (45, vi 2)]) (by kernel_rfl)
    refine Vk.dDone (by kernel_rfl) ?_
    refine hK443 _ _ ?_
    clear hK443
    refine Vk.region ?_
    refine qpk 2 [0, 4, 5, 7, 8, 11, 40, 41, 44, 45] hs fun a hs => hKL440 _ _ ?_
    clear hKL440
    refine Vk.unroll fun KL453 hKL453 => ?_
    refine qse 1 [(0, pp b_x0), (4, pp b_244), (5, pp b_245), (7, pp b_248), (8, vi 3), (11, vi 2), (40, vi 3), (41, vi 2), (44, vi 3), (45, vi 3), (46, .bool false)] hs fun a hs => ?_
    refine Vk.seq fun K455 hK455 => ?_
    refine qcf hs ?_
    refine wp_exit ?_
    refine hK411 _ _ ?_
    clear hK411
    refine Vk.region ?_
    refine qpk 2 [0, 4, 5, 7, 8, 40, 41] hs fun a hs => hKL408 _ _ ?_
    clear hKL408
    refine Vk.unroll fun KL456 hKL456 => ?_
    refine qsk 1 [0, 4, 5, 7, 8, 40, 41, 42] hs fun a hs => ?_
    refine Vk.seq fun K458 hK458 => ?_
    refine qcf hs ?_
    refine wp_exit ?_
    refine hK310 _ _ ?_
    clear hK310
    refine qse 2 [(6, pp b_248)] hs fun a hs => ?_
    refine wp_ret ?_
    refine hKP242 _ _ ?_
    refine hKR242 _ _ ?_
    refine Vk.ret1 (P := Try.prog) (fn := Try.f91) (pp b_248) hs rfl (by kernel_rfl) ⟨_, _, _, rfl, hs.own, fun a hs => ?_⟩
    refine qpk 1 [0, 6, 7] hs fun a hs => hK239 _ _ ?_
    clear hK239
    refine qsr fun K460 hK460 => ?_
    refine qpu 3 hs fun a hs => ?_
    refine Vk.step (Vk.call (some 23) 92 #[pp b_248, .func (.func 95) #[pp b_248] #[]] hs (by kernel_rfl) (by kernel_rfl) (by kernel_rfl) ?_)
    refine Vk.enterI [(0, pp b_248), (1, .func (.func 95) #[pp b_248] #[])] Try.func92 rfl Try.ntmps92 (by kernel_rfl) (Nat.le_of_ble_eq_true (by kernel_rfl)) hs.own fun KR461 hKR461 hKP461 a hs => ?_
    refine qsr fun K462 hK462 => ?_
    refine qal 28 [ci 0, ci 0, ci 0] 4 hs fun b_463 w a hs => ?_
    refine qpk 0 [0, 1, 4] hs fun a hs => hK462 _ _ ?_
    clear hK462
    refine qsr fun K464 hK464 => ?_
    refine qpu 2 hs fun a hs => ?_
    refine qal 28 [ci 0, ci 0, ci 0] 5 hs fun b_465 w a hs => ?_
    refine qsa 0 [ci (-1), ci (-1), ci (-1)] hs rfl fun a w hs => ?_
    refine qpe 0 [(0, pp b_248), (1, .func (.func 95) #[pp b_248] #[]), (4, pp b_463), (5, pp b_465)] hs fun a hs => hK464 _ _ ?_
    clear hK464
    refine qsr fun K466 hK466 => ?_
    refine qpu 3 hs fun a hs => ?_
    refine qld 3 (cp b_x0) hs rfl fun a hs => ?_
    obtain ⟨g_467, hs⟩ := hs.unex 2 rfl
    obtain ⟨v_470, h_469, hm⟩ := bind_t hm
    refine qcl (wire_Machine_N.ok _ _ _ h_469 _ _ _ b_x0 g_467 hs.own.f2) hs fun w a hs => ?_
    rcases Bool.eq_false_or_eq_true (v_470 == 3) with hb | hb
    ·replace hm := bif_t hm hb
     obtain rfl := Vk.of_beq hb
     refine qpk 1 [0, 1, 4, 5, 6] hs fun a hs => hK466 _ _ ?_
     clear hK466
     refine Vk.seq fun K471 hK471 => ?_
     refine qsk 2 [0, 1, 4, 5, 6, 16, 17] hs fun a hs => ?_
     refine wp_block ?_
     refine Vk.unroll0 40 ?_
     refine Vk.unroll fun KL473 hKL473 => ?_
     refine qsk 1 [0, 1, 4, 5, 6, 16, 17, 18] hs fun a hs => ?_
     refine qck hs ?_
     refine Vk.seq fun K476 hK476 => ?_
     refine wp_block ?_
     refine qsk 2 [0, 1, 4, 5, 6, 7, 16, 17] hs fun a hs => ?_
     refine qsr fun K478 hK478 => ?_
     refine qpu 8 hs fun a hs => ?_
     refine qld 3 (ci v_330.1) hs rfl fun a hs => ?_
     refine qpu 2 hs fun a hs => ?_
     refine qst 1 0 (ci v_330.1) hs rfl fun a w hs => ?_
     refine qpk 0 [0, 1, 4, 5, 6, 7, 16, 17] hs fun a hs => hK478 _ _ ?_
     clear hK478
     refine qse 2 [(0, pp b_248), (1, .func (.func 95) #[pp b_248] #[]), (4, pp b_463), (5, pp b_465), (6, vi 3), (7, vi 0), (16, vi 3), (17, vi 0), (31, vi 3), (32, vi 0)] hs fun a hs => ?_
     refine wp_block ?_
     refine Vk.unroll0 40 ?_
     refine Vk.unroll fun KL480 hKL480 => ?_
     refine qsk 1 [0, 1, 4, 5, 6, 7, 16, 17, 31, 32, 33] hs fun a hs => ?_
     refine qck hs ?_
     refine Vk.seq fun K483 hK483 => ?_
     refine wp_block ?_
     refine qsk 2 [0, 1, 4, 5, 6, 7, 8, 16, 17, 31, 32] hs fun a hs => ?_
     refine qsk 3 [0, 1, 4, 5, 6, 7, 8, 16, 17, 31, 32, 37] hs fun a hs => ?_
     refine qcf hs ?_
     refine wp_skip ?_
     refine hK483 _ _ ?_
     clear hK483
     refine Vk.region ?_
     refine qpk 2 [0, 1, 4, 5, 6, 7, 16, 17, 31, 32] hs fun a hs => hKL480 _ _ ?_
     clear hKL480
     refine Vk.unroll fun KL486 hKL486 => ?_
     refine qsk 1 [0, 1, 4, 5, 6, 7, 16, 17, 31, 32, 33] hs fun a hs => ?_
     refine qck hs ?_
     refine Vk.seq fun K489 hK489 => ?_
     refine wp_block ?_
     refine qse 2 [(0, pp b_248), (1, .func (.func 95) #[pp b_248] #[]), (4, pp b_463), (5, pp b_465), (6, vi 3), (7, vi 0), (8, vi 1), (16, vi 3), (17, vi 0), (31, vi 3), (32, vi 1)] hs fun a hs => ?_
     refine qsk 3 [0, 1, 4, 5, 6, 7, 8, 16, 17, 31, 32, 37] hs fun a hs => ?_
     refine qct hs ?_
     obtain ⟨C_492, hC_492⟩ := qC hs.own.drop
     refine qdr 17 κ C_492 hs fun w hs hqC_492 => ?_
     have hcl := qO hC_492 hs.own.drop
     refine qdp (fuel := 6) [0, 1, 2, 3, 5, 6, 7, 8, 10, 11, 12, 15] hs hcl hqC_492 fun a hs => ?_
     refine qdl 4 2 (cp b_x0) hs hcl hqC_492 hC_492 rfl fun a hs => ?_
     refine qdl 9 0 (ci v_330.1) hs hcl hqC_492 hC_492 rfl fun a hs => ?_
     refine Vk.dOnly (i := 13) (by kernel_rfl) (Vk.call (some 51) 95 #[pp b_248, vi 0, vi 1] hs (by kernel_rfl) (by kernel_rfl) (by kernel_rfl) ?_)
     refine Vk.enterI [(0, pp b_248), (1, vi 0), (2, vi 1)] Try.func95 rfl Try.ntmps95 (by kernel_rfl) (Nat.le_of_ble_eq_true (by kernel_rfl)) hs.own fun KR493 hKR493 hKP493 a hs => ?_
     refine qsk 1 [0, 1, 2] hs fun a hs => ?_
     refine Vk.seq fun K495 hK495 => ?_
     refine qsk 3 [0, 1, 2, 9] hs fun a hs => ?_
     refine qct hs ?_
     refine qsr fun K497 hK497 => ?_
     refine qpu 3 hs fun a hs => ?_
     refine Vk.step (Vk.call (some 13) 151 #[pp b_248, vi 0, vi 1] hs (by kernel_rfl) (by kernel_rfl) (by kernel_rfl) ?_)
     refine Vk.enterI [(0, pp b_248), (1, vi 0), (2, vi 1)] Try.func151 rfl Try.ntmps151 (by kernel_rfl) (Nat.le_of_ble_eq_true (by kernel_rfl)) hs.own fun KR498 hKR498 hKP498 a hs => ?_
     refine qsk 1 [0, 1, 2] hs fun a hs => ?_
     refine qsr fun K500 hK500 => ?_
     refine qpu 3 hs fun a hs => ?_
     refine qld 3 (C.map (some b_247)) hs rfl fun a hs => ?_
     refine qpu 7 hs fun a hs => ?_
     refine Vk.step (Vk.value (some 18) (vi v_269.1) hs (by kernel_rfl) (op := (.lookup 186 (.tmp 10) (.tmp 17) false)) (by kernel_rfl) (fun o ho => run_lookup (b := b_247) (key := .agg (vals [ci 0, ci 1])) 4 rfl ho (by kernel_rfl) (by kernel_rfl) (by kernel_rfl) _ hs.own) fun a hs => ?_)
     refine qpe 1 [(6, vi v_269.1)] hs fun a hs => hK500 _ _ ?_
     clear hK500
     refine wp_ret ?_
     refine hKP498 _ _ ?_
     refine hKR498 _ _ ?_
     refine Vk.ret1 (P := Try.prog) (fn := Try.f151) (vi v_269.1) hs rfl (by kernel_rfl) ⟨_, _, _, rfl, hs.own, fun a hs => ?_⟩
     refine qpe 1 [(6, vi v_269.1)] hs fun a hs => hK497 _ _ ?_
     clear hK497
     refine wp_ret ?_
     refine hKP493 _ _ ?_
     refine hKR493 _ _ ?_
     refine Vk.ret1 (P := Try.prog) (fn := Try.f95) (vi v_269.1) hs rfl (by kernel_rfl) ⟨_, _, _, rfl, hs.own, fun a hs => ?_⟩
     replace hcl := qO hC_492 hs.own.drop
     refine ⟨fun _ => hcl, ?_⟩
     replace hs := hs.toEx (Twire_Machine.parts b_x0 v_452.2) g_467 0 rfl
     obtain ⟨v_503, h_502, hm⟩ := bind_t hm
     refine qdc 14 (wire_Machine_Two.ok _ _ _ _ _ _ _ h_502 _ _ _ b_x0 hs.own) hs fun w a hs => ?_
     replace hcl := qO hC_492 hs.own.drop
     refine ⟨fun _ => hcl, ?_⟩
     refine qdp (fuel := 1) [16] hs hcl hqC_492 fun a hs => ?_
     refine Vk.dOnly (i := 17) (by kernel_rfl) (Vk.store1 (b := b_465) (ty := 3) (x := (.tmp 54)) (y := (.tmp 52)) (off := 0) (ci v_503.1) 1 hs (by kernel_rfl) (by kernel_rfl) (by kernel_rfl) (by kernel_rfl) (by kernel_rfl) (by kernel_rfl) rfl (Nat.le_of_ble_eq_true (by kernel_rfl)) fun a w hs => ?_)
     refine ⟨fun h => absurd h (by decide), ?_⟩
     replace hs := hs.pick [0, 1, 4, 5, 6, 7, 16, 17, 31, 32] (L' := [(0, pp b_248), (1, .func (.func 95) #[pp b_248] #[]), (4, pp b_463), (5, pp b_465), (6, vi 3), (7, vi 0), (16, vi 3), (17, vi 0), (31, vi 3), (32, vi 1)]) (by kernel_rfl)
     refine Vk.dDone (by kernel_rfl) ?_
     refine hK489 _ _ ?_
     clear hK489
     refine Vk.region ?_
     refine qpk 2 [0, 1, 4, 5, 6, 7, 16, 17, 31, 32] hs fun a hs => hKL486 _ _ ?_
     clear hKL486
     refine Vk.unroll fun KL504 hKL504 => ?_
     refine qsk 1 [0, 1, 4, 5, 6, 7, 16, 17, 31, 32, 33] hs fun a hs => ?_
     refine qck hs ?_
     refine Vk.seq fun K507 hK507 => ?_
     refine wp_block ?_
     refine qsk 2 [0, 1, 4, 5, 6, 7, 8, 16, 17, 31, 32] hs fun a hs => ?_
     refine qsk 3 [0, 1, 4, 5, 6, 7, 8, 16, 17, 31, 32, 37] hs fun a hs => ?_
     refine qct hs ?_
     obtain ⟨C_510, hC_510⟩ := qC hs.own.drop
     refine qdr 17 κ C_510 hs fun w hs hqC_510 => ?_
     have hcl := qO hC_510 hs.own.drop
     refine qdp (fuel := 6) [0, 1, 2, 3, 5, 6, 7, 8, 10, 11, 12, 15] hs hcl hqC_510 fun a hs => ?_
     refine qdl 4 2 (cp b_x0) hs hcl hqC_510 hC_510 rfl fun a hs => ?_
     refine qdl 9 0 (ci v_503.1) hs hcl hqC_510 hC_510 rfl fun a hs => ?_
     refine Vk.dOnly (i := 13) (by kernel_rfl) (Vk.call (some 51) 95 #[pp b_248, vi 0, vi 2] hs (by kernel_rfl) (by kernel_rfl) (by kernel_rfl) ?_)
     refine Vk.enterI [(0, pp b_248), (1, vi 0), (2, vi 2)] Try.func95 rfl Try.ntmps95 (by kernel_rfl) (Nat.le_of_ble_eq_true (by kernel_rfl)) hs.own fun KR511 hKR511 hKP511 a hs => ?_
     refine qsk 1 [0, 1, 2] hs fun a hs => ?_
     refine Vk.seq fun K513 hK513 => ?_
     refine qse 3 [(0, pp b_248), (1, vi 0), (2, vi 2), (9, .bool true)] hs fun a hs => ?_
     refine qct hs ?_
     refine qsr fun K515 hK515 => ?_
     refine qpu 3 hs fun a hs => ?_
     refine Vk.step (Vk.call (some 13) 151 #[pp b_248, vi 0, vi 2] hs (by kernel_rfl) (by kernel_rfl) (by kernel_rfl) ?_)
     refine Vk.enterI [(0, pp b_248), (1, vi 0), (2, vi 2)] Try.func151 rfl Try.ntmps151 (by kernel_rfl) (Nat.le_of_ble_eq_true (by kernel_rfl)) hs.own fun KR516 hKR516 hKP516 a hs => ?_
     refine qsk 1 [0, 1, 2] hs fun a hs => ?_
     refine qsr fun K518 hK518 => ?_
     refine qpu 3 hs fun a hs => ?_
     refine qld 3 (C.map (some b_247)) hs rfl fun a hs => ?_
     refine qpu 7 hs fun a hs => ?_
     refine Vk.step (Vk.value (some 18) (vi v_277.1) hs (by kernel_rfl) (op := (.lookup 186 (.tmp 10) (.tmp 17) false)) (by kernel_rfl) (fun o ho => run_lookup (b := b_247) (key := .agg (vals [ci 0, ci 2])) 4 rfl ho (by kernel_rfl) (by kernel_rfl) (by kernel_rfl) _ hs.own) fun a hs => ?_)
     refine qpe 1 [(6, vi v_277.1)] hs fun a hs => hK518 _ _ ?_
     clear hK518
     refine wp_ret ?_
     refine hKP516 _ _ ?_
     refine hKR516 _ _ ?_
     refine Vk.ret1 (P := Try.prog) (fn := Try.f151) (vi v_277.1) hs rfl (by kernel_rfl) ⟨_, _, _, rfl, hs.own, fun a hs => ?_⟩
     refine qpe 1 [(6, vi v_277.1)] hs fun a hs => hK515 _ _ ?_
     clear hK515
     refine wp_ret ?_
     refine hKP511 _ _ ?_
     refine hKR511 _ _ ?_
     refine Vk.ret1 (P := Try.prog) (fn := Try.f95) (vi v_277.1) hs rfl (by kernel_rfl) ⟨_, _, _, rfl, hs.own, fun a hs => ?_⟩
     replace hcl := qO hC_510 hs.own.drop
     refine ⟨fun _ => hcl, ?_⟩
     obtain ⟨v_521, h_520, hm⟩ := bind_t hm
     refine qdc 14 (wire_Machine_Two.ok _ _ _ _ _ _ _ h_520 _ _ _ b_x0 hs.own) hs fun w a hs => ?_
     replace hcl := qO hC_510 hs.own.drop
     refine ⟨fun _ => hcl, ?_⟩
     refine qdp (fuel := 1) [16] hs hcl hqC_510 fun a hs => ?_
     refine Vk.dOnly (i := 17) (by kernel_rfl) (Vk.store1 (b := b_465) (ty := 3) (x := (.tmp 54)) (y := (.tmp 52)) (off := 0) (ci v_521.1) 1 hs (by kernel_rfl) (by kernel_rfl) (by kernel_rfl) (by kernel_rfl) (by kernel_rfl) (by kernel_rfl) rfl (Nat.le_of_ble_eq_true (by kernel_rfl)) fun a w hs => ?_)
     refine ⟨fun h => absurd h (by decide), ?_⟩
     replace hs := hs.pick [0, 1, 4, 5, 6, 7, 16, 17, 31, 32] (L' := [(0, pp b_248), (1, .func (.func 95) #[pp b_248] #[]), (4, pp b_463), (5, pp b_465), (6, vi 3), (7, vi 0), (16, vi 3), (17, vi 0), (31, vi 3), (32, vi 2)]) (by kernel_rfl)
     refine Vk.dDone (by kernel_rfl) ?_
     refine hK507 _ _ ?_
     clear hK507
     refine Vk.region ?_
     refine qpk 2 [0, 1, 4, 5, 6, 7, 16, 17, 31, 32] hs fun a hs => hKL504 _ _ ?_
     clear hKL504
     refine Vk.unroll fun KL522 hKL522 => ?_
     refine qsk 1 [0, 1, 4, 5, 6, 7, 16, 17, 31, 32, 33] hs fun a hs => ?_
     refine Vk.seq fun K524 hK524 => ?_
     refine qcf hs ?_
     refine wp_exit ?_
     refine hK476 _ _ ?_
     clear hK476
     refine Vk.region ?_
     refine qpk 2 [0, 1, 4, 5, 6, 16, 17] hs fun a hs => hKL473 _ _ ?_
     clear hKL473
     refine Vk.unroll fun KL525 hKL525 => ?_
     refine qsk 1 [0, 1, 4, 5, 6, 16, 17, 18] hs fun a hs => ?_
     refine qck hs ?_
     refine Vk.seq fun K528 hK528 => ?_
     refine wp_block ?_
     refine qsk 2 [0, 1, 4, 5, 6, 7, 16, 17] hs fun a hs => ?_
     refine qsr fun K530 hK530 => ?_
     refine qpu 8 hs fun a hs => ?_
     refine qld 3 (ci v_391.1) hs rfl fun a hs => ?_
     refine qpu 2 hs fun a hs => ?_
     refine qst 1 1 (ci v_391.1) hs rfl fun a w hs => ?_
     refine qpe 0 [(0, pp b_248), (1, .func (.func 95) #[pp b_248] #[]), (4, pp b_463), (5, pp b_465), (6, vi 3), (7, vi 1), (16, vi 3), (17, vi 1)] hs fun a hs => hK530 _ _ ?_
     clear hK530
     refine qsk 2 [0, 1, 4, 5, 6, 7, 16, 17, 31, 32] hs fun a hs => ?_
     refine wp_block ?_
     refine Vk.unroll0 40 ?_
     refine Vk.unroll fun KL532 hKL532 => ?_
     refine qsk 1 [0, 1, 4, 5, 6, 7, 16, 17, 31, 32, 33] hs fun a hs => ?_
     refine qck hs ?_
     refine Vk.seq fun K535 hK535 => ?_
     refine wp_block ?_
     refine qsk 2 [0, 1, 4, 5, 6, 7, 8, 16, 17, 31, 32] hs fun a hs => ?_
     refine qsk 3 [0, 1, 4, 5, 6, 7, 8, 16, 17, 31, 32, 37] hs fun a hs => ?_
     refine qct hs ?_
     obtain ⟨C_538, hC_538⟩ := qC hs.own.drop
     refine qdr 17 κ C_538 hs fun w hs hqC_538 => ?_
     have hcl := qO hC_538 hs.own.drop
     refine qdp (fuel := 6) [0, 1, 2, 3, 5, 6, 7, 8, 10, 11, 12, 15] hs hcl hqC_538 fun a hs => ?_
     refine qdl 4 2 (cp b_x0) hs hcl hqC_538 hC_538 rfl fun a hs => ?_
     refine qdl 9 0 (ci v_391.1) hs hcl hqC_538 hC_538 rfl fun a hs => ?_
     refine Vk.dOnly (i := 13) (by kernel_rfl) (Vk.call (some 51) 95 #[pp b_248, vi 1, vi 0] hs (by kernel_rfl) (by kernel_rfl) (by kernel_rfl) ?_)
     refine Vk.enterI [(0, pp b_248), (1, vi 1), (2, vi 0)] Try.func95 rfl Try.ntmps95 (by kernel_rfl) (Nat.le_of_ble_eq_true (by kernel_rfl)) hs.own fun KR539 hKR539 hKP539 a hs => ?_
     refine qsk 1 [0, 1, 2] hs fun a hs => ?_
     refine Vk.seq fun K541 hK541 => ?_
     refine qse 3 [(0, pp b_248), (1, vi 1), (2, vi 0), (9, .bool false)] hs fun a hs => ?_
     refine qcf hs ?_
     refine wp_skip ?_
     refine hK541 _ _ ?_
     clear hK541
     refine Vk.seq fun K543 hK543 => ?_
     obtain ⟨C_544, hC_544⟩ := qC hs.own.drop
     refine qdr 33 κ C_544 hs fun w hs hqC_544 => ?_
     have hcl := qO hC_544 hs.own.drop
     refine qdp (fuel := 8) [0, 1, 2, 4, 5, 6, 7, 9, 10, 11, 12, 14, 15, 16, 17, 18, 19, 20, 23, 24, 25, 26, 27, 28, 29] hs hcl hqC_544 fun a hs => ?_
     refine qdl 3 2 (cp b_x0) hs hcl hqC_544 hC_544 rfl fun a hs => ?_
     refine qdl 8 2 (cp b_x0) hs hcl hqC_544 hC_544 rfl fun a hs => ?_
     refine qdl 21 2 (ci v_343.1) hs hcl hqC_544 hC_544 rfl fun a hs => ?_
     refine qdl 30 2 (ci v_378.1) hs hcl hqC_544 hC_544 rfl fun a hs => ?_
     refine Vk.dOnly (i := 13) (by kernel_rfl) (Vk.call (some 27) 151 #[pp b_248, vi 0, vi 1] hs (by kernel_rfl) (by kernel_rfl) (by kernel_rfl) ?_)
     refine Vk.enterI [(0, pp b_248), (1, vi 0), (2, vi 1)] Try.func151 rfl Try.ntmps151 (by kernel_rfl) (Nat.le_of_ble_eq_true (by kernel_rfl)) hs.own fun KR545 hKR545 hKP545 a hs => ?_
     refine qsk 1 [0, 1, 2] hs fun a hs => ?_
     refine qsr fun K547 hK547 => ?_
     refine qpu 3 hs fun a hs => ?_
     refine qld 3 (C.map (some b_247)) hs rfl fun a hs => ?_
     refine qpu 7 hs fun a hs => ?_
     refine Vk.step (Vk.value (some 18) (vi v_269.1) hs (by kernel_rfl) (op := (.lookup 186 (.tmp 10) (.tmp 17) false)) (by kernel_rfl) (fun o ho => run_lookup (b := b_247) (key := .agg (vals [ci 0, ci 1])) 4 rfl ho (by kernel_rfl) (by kernel_rfl) (by kernel_rfl) _ hs.own) fun a hs => ?_)
     refine qpe 1 [(6, vi v_269.1)] hs fun a hs => hK547 _ _ ?_
     clear hK547
     refine wp_ret ?_
     refine hKP545 _ _ ?_
     refine hKR545 _ _ ?_
     refine Vk.ret1 (P := Try.prog) (fn := Try.f151) (vi v_269.1) hs rfl (by kernel_rfl) ⟨_, _, _, rfl, hs.own, fun a hs => ?_⟩
     replace hcl := qO hC_544 hs.own.drop
     refine ⟨fun _ => hcl, ?_⟩
     obtain ⟨v_550, h_549, hm⟩ := bind_t hm
     refine qdc 22 (wire_Machine_Two.ok _ _ _ _ _ _ _ h_549 _ _ _ b_x0 hs.own) hs fun w a hs => ?_
     replace hcl := qO hC_544 hs.own.drop
     refine ⟨fun _ => hcl, ?_⟩
     obtain ⟨v_553, h_552, hm⟩ := bind_t hm
     refine qdc 31 (wire_Machine_Two.ok _ _ _ _ _ _ _ h_552 _ _ _ b_x0 hs.own) hs fun w a hs => ?_
     replace hcl := qO hC_544 hs.own.drop
     refine ⟨fun _ => hcl, ?_⟩
     refine qdp (fuel := 0) [32] hs hcl hqC_544 fun a hs => ?_
     replace hs := hs.pick [6] (L' := [(6, vi v_553.1)]) (by kernel_rfl)
     refine Vk.dDone (by kernel_rfl) ?_
     refine hK543 _ _ ?_
     clear hK543
     refine wp_ret ?_
     refine hKP539 _ _ ?_
     refine hKR539 _ _ ?_
     refine Vk.ret1 (P := Try.prog) (fn := Try.f95) (vi v_553.1) hs rfl (by kernel_rfl) ⟨_, _, _, rfl, hs.own, fun a hs => ?_⟩
     replace hcl := qO hC_538 hs.own.drop
     refine ⟨fun _ => hcl, ?_⟩
     obtain ⟨v_556, h_555, hm⟩ := bind_t hm
     refine qdc 14 (wire_Machine_Two.ok _ _ _ _ _ _ _ h_555 _ _ _ b_x0 hs.own) hs fun w a hs => ?_
     replace hcl := qO hC_538 hs.own.drop
     refine ⟨fun _ => hcl, ?_⟩
     refine qdp (fuel := 1) [16] hs hcl hqC_538 fun a hs => ?_
     refine Vk.dOnly (i := 17) (by kernel_rfl) (Vk.store1 (b := b_465) (ty := 3) (x := (.tmp 54)) (y := (.tmp 52)) (off := 1) (ci v_556.1) 1 hs (by kernel_rfl) (by kernel_rfl) (by kernel_rfl) (by kernel_rfl) (by kernel_rfl) (by kernel_rfl) rfl (Nat.le_of_ble_eq_true (by kernel_rfl)) fun a w hs => ?_)
     refine ⟨fun h => absurd h (by decide), ?_⟩
     replace hs := hs.pick [0, 1, 4, 5, 6, 7, 16, 17, 31, 32] (L' := [(0, pp b_248), (1, .func (.func 95) #[pp b_248] #[]), (4, pp b_463), (5, pp b_465), (6, vi 3), (7, vi 1), (16, vi 3), (17, vi 1), (31, vi 3), (32, vi 0)]) (by kernel_rfl)
     refine Vk.dDone (by kernel_rfl) ?_
     refine hK535 _ _ ?_
     clear hK535
     refine Vk.region ?_
     refine qpk 2 [0, 1, 4, 5, 6, 7, 16, 17, 31, 32] hs fun a hs => hKL532 _ _ ?_
     clear hKL532
     refine Vk.unroll fun KL557 hKL557 => ?_
     refine qsk 1 [0, 1, 4, 5, 6, 7, 16, 17, 31, 32, 33] hs fun a hs => ?_
     refine qck hs ?_
     refine Vk.seq fun K560 hK560 => ?_
     refine wp_block ?_
     refine qsk 2 [0, 1, 4, 5, 6, 7, 8, 16, 17, 31, 32] hs fun a hs => ?_
     refine qsk 3 [0, 1, 4, 5, 6, 7, 8, 16, 17, 31, 32, 37] hs fun a hs => ?_
     refine qcf hs ?_
     refine wp_skip ?_
     refine hK560 _ _ ?_
     clear hK560
     refine Vk.region ?_
     refine qpk 2 [0, 1, 4, 5, 6, 7, 16, 17, 31, 32] hs fun a hs => hKL557 _ _ ?_
     clear hKL557
     refine Vk.unroll fun KL563 hKL563 => ?_
     refine qse 1 [(0, pp b_248), (1, .func (.func 95) #[pp b_248] #[]), (4, pp b_463), (5, pp b_465), (6, vi 3), (7, vi 1), (16, vi 3), (17, vi 1), (31, vi 3), (32, vi 2), (33, .bool true)] hs fun a hs => ?_
     refine qck hs ?_
     refine Vk.seq fun K566 hK566 => ?_
     refine wp_block ?_
     refine qsk 2 [0, 1, 4, 5, 6, 7, 8, 16, 17, 31, 32] hs fun a hs => ?_
     refine qsk 3 [0, 1, 4, 5, 6, 7, 8, 16, 17, 31, 32, 37] hs fun a hs => ?_
     refine qct hs ?_
     obtain ⟨C_569, hC_569⟩ := qC hs.own.drop
     refine qdr 17 κ C_569 hs fun w hs hqC_569 => ?_
     have hcl := qO hC_569 hs.own.drop
     refine qdp (fuel := 6) [0, 1, 2, 3, 5, 6, 7, 8, 10, 11, 12, 15] hs hcl hqC_569 fun a hs => ?_
     refine qdl 4 2 (cp b_x0) hs hcl hqC_569 hC_569 rfl fun a hs => ?_
     refine qdl 9 0 (ci v_556.1) hs hcl hqC_569 hC_569 rfl fun a hs => ?_
     refine Vk.dOnly (i := 13) (by kernel_rfl) (Vk.call (some 51) 95 #[pp b_248, vi 1, vi 2] hs (by kernel_rfl) (by kernel_rfl) (by kernel_rfl) ?_)
     refine Vk.enterI [(0, pp b_248), (1, vi 1), (2, vi 2)] Try.func95 rfl Try.ntmps95 (by kernel_rfl) (Nat.le_of_ble_eq_true (by kernel_rfl)) hs.own fun KR570 hKR570 hKP570 a hs => ?_
     refine qsk 1 [0, 1, 2] hs fun a hs => ?_
     refine Vk.seq fun K572 hK572 => ?_
     refine qsk 3 [0, 1, 2, 9] hs fun a hs => ?_
     refine qct hs ?_
     refine qsr fun K574 hK574 => ?_
     refine qpu 3 hs fun a hs => ?_
     refine Vk.step (Vk.call (some 13) 151 #[pp b_248, vi 1, vi 2] hs (by kernel_rfl) (by kernel_rfl) (by kernel_rfl) ?_)
     refine Vk.enterI [(0, pp b_248), (1, vi 1), (2, vi 2)] Try.func151 rfl Try.ntmps151 (by kernel_rfl) (Nat.le_of_ble_eq_true (by kernel_rfl)) hs.own fun KR575 hKR575 hKP575 a hs => ?_
     refine qsk 1 [0, 1, 2] hs fun a hs => ?_
     refine qsr fun K577 hK577 => ?_
     refine qpu 3 hs fun a hs => ?_
     refine qld 3 (C.map (some b_247)) hs rfl fun a hs => ?_
     refine qpu 7 hs fun a hs => ?_
     refine Vk.step (Vk.value (some 18) (vi v_294.1) hs (by kernel_rfl) (op := (.lookup 186 (.tmp 10) (.tmp 17) false)) (by kernel_rfl) (fun o ho => run_lookup (b := b_247) (key := .agg (vals [ci 1, ci 2])) 4 rfl ho (by kernel_rfl) (by kernel_rfl) (by kernel_rfl) _ hs.own) fun a hs => ?_)
     refine qpe 1 [(6, vi v_294.1)] hs fun a hs => hK577 _ _ ?_
     clear hK577
     refine wp_ret ?_
     refine hKP575 _ _ ?_
     refine hKR575 _ _ ?_
     refine Vk.ret1 (P := Try.prog) (fn := Try.f151) (vi v_294.1) hs rfl (by kernel_rfl) ⟨_, _, _, rfl, hs.own, fun a hs => ?_⟩
     refine qpe 1 [(6, vi v_294.1)] hs fun a hs => hK574 _ _ ?_
     clear hK574
     refine wp_ret ?_
     refine hKP570 _ _ ?_
     refine hKR570 _ _ ?_
     refine Vk.ret1 (P := Try.prog) (fn := Try.f95) (vi v_294.1) hs rfl (by kernel_rfl) ⟨_, _, _, rfl, hs.own, fun a hs => ?_⟩
     replace hcl := qO hC_569 hs.own.drop
     refine ⟨fun _ => hcl, ?_⟩
     obtain ⟨v_580, h_579, hm⟩ := bind_t hm
     refine qdc 14 (wire_Machine_Two.ok _ _ _ _ _ _ _ h_579 _ _ _ b_x0 hs.own) hs fun w a hs => ?_
     replace hcl := qO hC_569 hs.own.drop
     refine ⟨fun _ => hcl, ?_⟩
     refine qdp (fuel := 1) [16] hs hcl hqC_569 fun a hs => ?_
     refine Vk.dOnly (i := 17) (by kernel_rfl) (Vk.store1 (b := b_465) (ty := 3) (x := (.tmp 54)) (y := (.tmp 52)) (off := 1) (ci v_580.1) 1 hs (by kernel_rfl) (by kernel_rfl) (by kernel_rfl) (by kernel_rfl) (by kernel_rfl) (by kernel_rfl) rfl (Nat.le_of_ble_eq_true (by kernel_rfl)) fun a w hs => ?_)
     refine ⟨fun h => absurd h (by decide), ?_⟩
     replace hs := hs.pick [0, 1, 4, 5, 6, 7, 16, 17, 31, 32] (L' := [(0, pp b_248), (1, .func (.func 95) #[pp b_248] #[]), (4, pp b_463), (5, pp b_465), (6, vi 3), (7, vi 1), (16, vi 3), (17, vi 1), (31, vi 3), (32, vi 2)]) (by kernel_rfl)
     refine Vk.dDone (by kernel_rfl) ?_
     refine hK566 _ _ ?_
     clear hK566
     refine Vk.region ?_
     refine qpk 2 [0, 1, 4, 5, 6, 7, 16, 17, 31, 32] hs fun a hs => hKL563 _ _ ?_
     clear hKL563
     refine Vk.unroll fun KL581 hKL581 => ?_
     refine qsk 1 [0, 1, 4, 5, 6, 7, 16, 17, 31, 32, 33] hs fun a hs => ?_
     refine Vk.seq fun K583 hK583 => ?_
     refine qcf hs ?_
     refine wp_exit ?_
     refine hK528 _ _ ?_
     clear hK528
     refine Vk.region ?_
     refine qpk 2 [0, 1, 4, 5, 6, 16, 17] hs fun a hs => hKL525 _ _ ?_
     clear hKL525
     refine Vk.unroll fun KL584 hKL584 => ?_
     refine qsk 1 [0, 1, 4, 5, 6, 16, 17, 18] hs fun a hs => ?_
     refine qck hs ?_
     refine Vk.seq fun K587 hK587 => ?_
     refine wp_block ?_
     refine qsk 2 [0, 1, 4, 5, 6, 7, 16, 17] hs fun a hs => ?_
     refine qsr fun K589 hK589 => ?_
     refine qpu 8 hs fun a hs => ?_
     refine qld 3 (ci v_452.1) hs rfl fun a hs => ?_
     refine qpu 2 hs fun a hs => ?_
     refine qst 1 2 (ci v_452.1) hs rfl fun a w hs => ?_
     refine qpe 0 [(0, pp b_248), (1, .func (.func 95) #[pp b_248] #[]), (4, pp b_463), (5, pp b_465), (6, vi 3), (7, vi 2), (16, vi 3), (17, vi 2)] hs fun a hs => hK589 _ _ ?_
     clear hK589
     refine qsk 2 [0, 1, 4, 5, 6, 7, 16, 17, 31, 32] hs fun a hs => ?_
     refine wp_block ?_
     refine Vk.unroll0 40 ?_
     refine Vk.unroll fun KL591 hKL591 => ?_
     refine qsk 1 [0, 1, 4, 5, 6, 7, 16, 17, 31, 32, 33] hs fun a hs => ?_
     refine qck hs ?_
     refine Vk.seq fun K594 hK594 => ?_
     refine wp_block ?_
     refine qsk 2 [0, 1, 4, 5, 6, 7, 8, 16, 17, 31, 32] hs fun a hs => ?_
     refine qsk 3 [0, 1, 4, 5, 6, 7, 8, 16, 17, 31, 32, 37] hs fun a hs => ?_
     refine qct hs ?_
     obtain ⟨C_597, hC_597⟩ := qC hs.own.drop
     refine qdr 17 κ C_597 hs fun w hs hqC_597 => ?_
     have hcl := qO hC_597 hs.own.drop
     refine qdp (fuel := 6) [0, 1, 2, 3, 5, 6, 7, 8, 10, 11, 12, 15] hs hcl hqC_597 fun a hs => ?_
     refine qdl 4 2 (cp b_x0) hs hcl hqC_597 hC_597 rfl fun a hs => ?_
     refine qdl 9 0 (ci v_452.1) hs hcl hqC_597 hC_597 rfl fun a hs => ?_
     refine Vk.dOnly (i := 13) (by kernel_rfl) (Vk.call (some 51) 95 #[pp b_248, vi 2, vi 0] hs (by kernel_rfl) (by kernel_rfl) (by kernel_rfl) ?_)
     refine Vk.enterI [(0, pp b_248), (1, vi 2), (2, vi 0)] Try.func95 rfl Try.ntmps95 (by kernel_rfl) (Nat.le_of_ble_eq_true (by kernel_rfl)) hs.own fun KR598 hKR598 hKP598 a hs => ?_
     refine qsk 1 [0, 1, 2] hs fun a hs => ?_
     refine Vk.seq fun K600 hK600 => ?_
     refine qse 3 [(0, pp b_248), (1, vi 2), (2, vi 0), (9, .bool false)] hs fun a hs => ?_
     refine qcf hs ?_
     refine wp_skip ?_
     refine hK600 _ _ ?_
     clear hK600
     refine Vk.seq fun K602 hK602 => ?_
     obtain ⟨C_603, hC_603⟩ := qC hs.own.drop
     refine qdr 33 κ C_603 hs fun w hs hqC_603 => ?_
     have hcl := qO hC_603 hs.own.drop
     refine qdp (fuel := 8) [0, 1, 2, 4, 5, 6, 7, 9, 10, 11, 12, 14, 15, 16, 17, 18, 19, 20, 23, 24, 25, 26, 27, 28, 29] hs hcl hqC_603 fun a hs => ?_
     refine qdl 3 2 (cp b_x0) hs hcl hqC_603 hC_603 rfl fun a hs => ?_
     refine qdl 8 2 (cp b_x0) hs hcl hqC_603 hC_603 rfl fun a hs => ?_
     refine qdl 21 2 (ci v_356.1) hs hcl hqC_603 hC_603 rfl fun a hs => ?_
     refine qdl 30 2 (ci v_426.1) hs hcl hqC_603 hC_603 rfl fun a hs => ?_
     refine Vk.dOnly (i := 13) (by kernel_rfl) (Vk.call (some 27) 151 #[pp b_248, vi 0, vi 2] hs (by kernel_rfl) (by kernel_rfl) (by kernel_rfl) ?_)
     refine Vk.enterI [(0, pp b_248), (1, vi 0), (2, vi 2)] Try.func151 rfl Try.ntmps151 (by kernel_rfl) (Nat.le_of_ble_eq_true (by kernel_rfl)) hs.own fun KR604 hKR604 hKP604 a hs => ?_
     refine qsk 1 [0, 1, 2] hs fun a hs => ?_
     refine qsr fun K606 hK606 => ?_
     refine qpu 3 hs fun a hs => ?_
     refine qld 3 (C.map (some b_247)) hs rfl fun a hs => ?_
     refine qpu 7 hs fun a hs => ?_
     refine Vk.step (Vk.value (some 18) (vi v_277.1) hs (by kernel_rfl) (op := (.lookup 186 (.tmp 10) (.tmp 17) false)) (by kernel_rfl) (fun o ho => run_lookup (b := b_247) (key := .agg (vals [ci 0, ci 2])) 4 rfl ho (by kernel_rfl) (by kernel_rfl) (by kernel_rfl) _ hs.own) fun a hs => ?_)
     refine qpe 1 [(6, vi v_277.1)] hs fun a hs => hK606 _ _ ?_
     clear hK606
     refine wp_ret ?_
     refine hKP604 _ _ ?_
     refine hKR604 _ _ ?_
     refine Vk.ret1 (P := Try.prog) (fn := Try.f151) (vi v_277.1) hs rfl (by kernel_rfl) ⟨_, _, _, rfl, hs.own, fun a hs => ?_⟩
     replace hcl := qO hC_603 hs.own.drop
     refine ⟨fun _ => hcl, ?_⟩
     obtain ⟨v_609, h_608, hm⟩ := bind_t hm
     refine qdc 22 (wire_Machine_Two.ok _ _ _ _ _ _ _ h_608 _ _ _ b_x0 hs.own) hs fun w a hs => ?_
     replace hcl := qO hC_603 hs.own.drop
     refine ⟨fun _ => hcl, ?_⟩
     obtain ⟨v_612, h_611, hm⟩ := bind_t hm
     refine qdc 31 (wire_Machine_Two.ok _ _ _ _ _ _ _ h_611 _ _ _ b_x0 hs.own) hs fun w a hs => ?_
     replace hcl := qO hC_603 hs.own.drop
     refine ⟨fun _ => hcl, ?_⟩
     refine qdp (fuel := 0) [32] hs hcl hqC_603 fun a hs => ?_
     replace hs := hs.pick [6] (L' := [(6, vi v_612.1)]) (by kernel_rfl)
     refine Vk.dDone (by kernel_rfl) ?_
     refine hK602 _ _ ?_
     clear hK602
     refine wp_ret ?_
     refine hKP598 _ _ ?_
     refine hKR598 _ _ ?_
     refine Vk.ret1 (P := Try.prog) (fn := Try.f95) (vi v_612.1) hs rfl (by kernel_rfl) ⟨_, _, _, rfl, hs.own, fun a hs => ?_⟩
     replace hcl := qO hC_597 hs.own.drop
     refine ⟨fun _ => hcl, ?_⟩
     obtain ⟨v_615, h_614, hm⟩ := bind_t hm
     refine qdc 14 (wire_Machine_Two.ok _ _ _ _ _ _ _ h_614 _ _ _ b_x0 hs.own) hs fun w a hs => ?_
     replace hcl := qO hC_597 hs.own.drop
     refine ⟨fun _ => hcl, ?_⟩
     refine qdp (fuel := 1) [16] hs hcl hqC_597 fun a hs => ?_
     refine Vk.dOnly (i := 17) (by kernel_rfl) (Vk.store1 (b := b_465) (ty := 3) (x := (.tmp 54)) (y := (.tmp 52)) (off := 2) (ci v_615.1) 1 hs (by kernel_rfl) (by kernel_rfl) (by kernel_rfl) (by kernel_rfl) (by kernel_rfl) (by kernel_rfl) rfl (Nat.le_of_ble_eq_true (by kernel_rfl)) fun a w hs => ?_)
     refine ⟨fun h => absurd h (by decide), ?_⟩
     replace hs := hs.pick [0, 1, 4, 5, 6, 7, 16, 17, 31, 32] (L' := [(0, pp b_248), (1, .func (.func 95) #[pp b_248] #[]), (4, pp b_463), (5, pp b_465), (6, vi 3), (7, vi 2), (16, vi 3), (17, vi 2), (31, vi 3), (32, vi 0)]) (by kernel_rfl)
     refine Vk.dDone (by kernel_rfl) ?_
     refine hK594 _ _ ?_
     clear hK594
     refine Vk.region ?_
     refine qpk 2 [0, 1, 4, 5, 6, 7, 16, 17, 31, 32] hs fun a hs => hKL591 _ _ ?_
     clear hKL591
     refine Vk.unroll fun KL616 hKL616 => ?_
     refine qsk 1 [0, 1, 4, 5, 6, 7, 16, 17, 31, 32, 33] hs fun a hs => ?_
     refine qck hs ?_
     refine Vk.seq fun K619 hK619 => ?_
     refine wp_block ?_
     refine qsk 2 [0, 1, 4, 5, 6, 7, 8, 16, 17, 31, 32] hs fun a hs => ?_
     refine qsk 3 [0, 1, 4, 5, 6, 7, 8, 16, 17, 31, 32, 37] hs fun a hs => ?_
     refine qct hs ?_
     obtain ⟨C_622, hC_622⟩ := qC hs.own.drop
     refine qdr 17 κ C_622 hs fun w hs hqC_622 => ?_
     have hcl := qO hC_622 hs.own.drop
     refine qdp (fuel := 6) [0, 1, 2, 3, 5, 6, 7, 8, 10, 11, 12, 15] hs hcl hqC_622 fun a hs => ?_
     refine qdl 4 2 (cp b_x0) hs hcl hqC_622 hC_622 rfl fun a hs => ?_
     refine qdl 9 0 (ci v_615.1) hs hcl hqC_622 hC_622 rfl fun a hs => ?_
     refine Vk.dOnly (i := 13) (by kernel_rfl) (Vk.call (some 51) 95 #[pp b_248, vi 2, vi 1] hs (by kernel_rfl) (by kernel_rfl) (by kernel_rfl) ?_)
     refine Vk.enterI [(0, pp b_248), (1, vi 2), (2, vi 1)] Try.func95 rfl Try.ntmps95 (by kernel_rfl) (Nat.le_of_ble_eq_true (by kernel_rfl)) hs.own fun KR623 hKR623 hKP623 a hs => ?_
     refine qsk 1 [0, 1, 2] hs fun a hs => ?_
     refine Vk.seq fun K625 hK625 => ?_
     refine qse 3 [(0, pp b_248), (1, vi 2), (2, vi 1), (9, .bool false)] hs fun a hs => ?_
     refine qcf hs ?_
     refine wp_skip ?_
     refine hK625 _ _ ?_
     clear hK625
     refine Vk.seq fun K627 hK627 => ?_
     obtain ⟨C_628, hC_628⟩ := qC hs.own.drop
     refine qdr 33 κ C_628 hs fun w hs hqC_628 => ?_
     have hcl := qO hC_628 hs.own.drop
     refine qdp (fuel := 8) [0, 1, 2, 4, 5, 6, 7, 9, 10, 11, 12, 14, 15, 16, 17, 18, 19, 20, 23, 24, 25, 26, 27, 28, 29] hs hcl hqC_628 fun a hs => ?_
     refine qdl 3 2 (cp b_x0) hs hcl hqC_628 hC_628 rfl fun a hs => ?_
     refine qdl 8 2 (cp b_x0) hs hcl hqC_628 hC_628 rfl fun a hs => ?_
     refine qdl 21 2 (ci v_404.1) hs hcl hqC_628 hC_628 rfl fun a hs => ?_
     refine qdl 30 2 (ci v_439.1) hs hcl hqC_628 hC_628 rfl fun a hs => ?_
     refine Vk.dOnly (i := 13) (by kernel_rfl) (Vk.call (some 27) 151 #[pp b_248, vi 1, vi 2] hs (by kernel_rfl) (by kernel_rfl) (by kernel_rfl) ?_)
     refine Vk.enterI [(0, pp b_248), (1, vi 1), (2, vi 2)] Try.func151 rfl Try.ntmps151 (by kernel_rfl) (Nat.le_of_ble_eq_true (by kernel_rfl)) hs.own fun KR629 hKR629 hKP629 a hs => ?_
     refine qsk 1 [0, 1, 2] hs fun a hs => ?_
     refine qsr fun K631 hK631 => ?_
     refine qpu 3 hs fun a hs => ?_
     refine qld 3 (C.map (some b_247)) hs rfl fun a hs => ?_
     refine qpu 7 hs fun a hs => ?_
     refine Vk.step (Vk.value (some 18) (vi v_294.1) hs (by kernel_rfl) (op := (.lookup 186 (.tmp 10) (.tmp 17) false)) (by kernel_rfl) (fun o ho => run_lookup (b := b_247) (key := .agg (vals [ci 1, ci 2])) 4 rfl ho (by kernel_rfl) (by kernel_rfl) (by kernel_rfl) _ hs.own) fun a hs => ?_)
     refine qpe 1 [(6, vi v_294.1)] hs fun a hs => hK631 _ _ ?_
     clear hK631
     refine wp_ret ?_
     refine hKP629 _ _ ?_
     refine hKR629 _ _ ?_
     refine Vk.ret1 (P := Try.prog) (fn := Try.f151) (vi v_294.1) hs rfl (by kernel_rfl) ⟨_, _, _, rfl, hs.own, fun a hs => ?_⟩
     replace hcl := qO hC_628 hs.own.drop
     refine ⟨fun _ => hcl, ?_⟩
     obtain ⟨v_634, h_633, hm⟩ := bind_t hm
     refine qdc 22 (wire_Machine_Two.ok _ _ _ _ _ _ _ h_633 _ _ _ b_x0 hs.own) hs fun w a hs => ?_
     replace hcl := qO hC_628 hs.own.drop
     refine ⟨fun _ => hcl, ?_⟩
     obtain ⟨v_637, h_636, hm⟩ := bind_t hm
     refine qdc 31 (wire_Machine_Two.ok _ _ _ _ _ _ _ h_636 _ _ _ b_x0 hs.own) hs fun w a hs => ?_
     replace hcl := qO hC_628 hs.own.drop
     refine ⟨fun _ => hcl, ?_⟩
     refine qdp (fuel := 0) [32] hs hcl hqC_628 fun a hs => ?_
     replace hs := hs.pick [6] (L' := [(6, vi v_637.1)]) (by kernel_rfl)
     refine Vk.dDone (by kernel_rfl) ?_
     refine hK627 _ _ ?_
     clear hK627
     refine wp_ret ?_
     refine hKP623 _ _ ?_
     refine hKR623 _ _ ?_
     refine Vk.ret1 (P := Try.prog) (fn := Try.f95) (vi v_637.1) hs rfl (by kernel_rfl) ⟨_, _, _, rfl, hs.own, fun a hs => ?_⟩
     replace hcl := qO hC_622 hs.own.drop
     refine ⟨fun _ => hcl, ?_⟩
     obtain ⟨v_640, h_639, hm⟩ := bind_t hm
     refine qdc 14 (wire_Machine_Two.ok _ _ _ _ _ _ _ h_639 _ _ _ b_x0 hs.own) hs fun w a hs => ?_
     replace hcl := qO hC_622 hs.own.drop
     refine ⟨fun _ => hcl, ?_⟩
     refine qdp (fuel := 1) [16] hs hcl hqC_622 fun a hs => ?_
     refine Vk.dOnly (i := 17) (by kernel_rfl) (Vk.store1 (b := b_465) (ty := 3) (x := (.tmp 54)) (y := (.tmp 52)) (off := 2) (ci v_640.1) 1 hs (by kernel_rfl) (by kernel_rfl) (by kernel_rfl) (by kernel_rfl) (by kernel_rfl) (by kernel_rfl) rfl (Nat.le_of_ble_eq_true (by kernel_rfl)) fun a w hs => ?_)
     refine ⟨fun h => absurd h (by decide), ?_⟩
     replace hs := hs.pick [0, 1, 4, 5, 6, 7, 16, 17, 31, 32] (L' := [(0, pp b_248), (1, .func (.func 95) #[pp b_248] #[]), (4, pp b_463), (5, pp b_465), (6, vi 3), (7, vi 2), (16, vi 3), (17, vi 2), (31, vi 3), (32, vi 1)]) (by kernel_rfl)
     refine Vk.dDone (by kernel_rfl) ?_
     refine hK619 _ _ ?_
     clear hK619
     refine Vk.region ?_
     refine qpk 2 [0, 1, 4, 5, 6, 7, 16, 17, 31, 32] hs fun a hs => hKL616 _ _ ?_
     clear hKL616
     refine Vk.unroll fun KL641 hKL641 => ?_
     refine qsk 1 [0, 1, 4, 5, 6, 7, 16, 17, 31, 32, 33] hs fun a hs => ?_
     refine qck hs ?_
     refine Vk.seq fun K644 hK644 => ?_
     refine wp_block ?_
     refine qsk 2 [0, 1, 4, 5, 6, 7, 8, 16, 17, 31, 32] hs fun a hs => ?_
     refine qsk 3 [0, 1, 4, 5, 6, 7, 8, 16, 17, 31, 32, 37] hs fun a hs => ?_
     refine qcf hs ?_
     refine wp_skip ?_
     refine hK644 _ _ ?_
     clear hK644
     refine Vk.region ?_
     refine qpk 2 [0, 1, 4, 5, 6, 7, 16, 17, 31, 32] hs fun a hs => hKL641 _ _ ?_
     clear hKL641
     refine Vk.unroll fun KL647 hKL647 => ?_
     refine qse 1 [(0, pp b_248), (1, .func (.func 95) #[pp b_248] #[]), (4, pp b_463), (5, pp b_465), (6, vi 3), (7, vi 2), (16, vi 3), (17, vi 2), (31, vi 3), (32, vi 3), (33, .bool false)] hs fun a hs => ?_
     refine Vk.seq fun K649 hK649 => ?_
     refine qcf hs ?_
     refine wp_exit ?_
     refine hK587 _ _ ?_
     clear hK587
     refine Vk.region ?_
     refine qpk 2 [0, 1, 4, 5, 6, 16, 17] hs fun a hs => hKL584 _ _ ?_
     clear hKL584
     refine Vk.unroll fun KL650 hKL650 => ?_
     refine qsk 1 [0, 1, 4, 5, 6, 16, 17, 18] hs fun a hs => ?_
     refine Vk.seq fun K652 hK652 => ?_
     refine qcf hs ?_
     refine wp_exit ?_
     refine hK471 _ _ ?_
     clear hK471
     refine qsr fun K653 hK653 => ?_
     refine qln 1 ([ci v_521.1, ci v_580.1, ci v_640.1]) hs rfl fun a hs => ?_
     refine qsa 2 [ci v_521.1, ci v_580.1, ci v_640.1] hs rfl fun a w hs => ?_
     refine qpe 0 [(4, pp b_463)] hs fun a hs => hK653 _ _ ?_
     clear hK653
     refine wp_ret ?_
     refine hKP461 _ _ ?_
     refine hKR461 _ _ ?_
     refine Vk.retC (P := Try.prog) (fn := Try.f92) [ci v_521.1, ci v_580.1, ci v_640.1] hs rfl (by kernel_rfl) (sz := 3) (by kernel_rfl) rfl (CellsAt.all 2 rfl) ⟨_, _, _, rfl, hs.own, fun a hs => ?_⟩
     refine qal 28 [ci 0, ci 0, ci 0] 8 hs fun b_654 w a hs => ?_
     refine qsa 0 [ci v_521.1, ci v_580.1, ci v_640.1] hs rfl fun a w hs => ?_
     refine qpk 0 [0, 6, 8] hs fun a hs => hK460 _ _ ?_
     clear hK460
     refine qsr fun K655 hK655 => ?_
     refine qpu 1 hs fun a hs => ?_
     obtain ⟨v_658, h_657, hm⟩ := bind_t hm
     refine qcl (wire_Machine_End.ok _ _ _ h_657 _ _ _ b_x0 hs.own.f1) hs fun w a hs => ?_
     refine qpe 0 [(6, pp b_4), (8, pp b_654)] hs fun a hs => hK655 _ _ ?_
     clear hK655
     refine qsr fun K659 hK659 => ?_
     refine qln 1 ([ci v_521.1, ci v_580.1, ci v_640.1]) hs rfl fun a hs => ?_
     refine qsa 8 [ci v_521.1, ci v_580.1, ci v_640.1] hs rfl fun a w hs => ?_
     refine qpe 0 [(6, pp b_4)] hs fun a hs => hK659 _ _ ?_
     clear hK659
     refine wp_ret ?_
     exact Vk.retC (P := Try.prog) (fn := Try.f21) (R := RR) [ci v_521.1, ci v_580.1, ci v_640.1] hs rfl (by kernel_rfl) (sz := 3) (by kernel_rfl) rfl (CellsAt.all 8 rfl) (by obtain rfl := Option.some.inj hm; subst hRR; exact ⟨rfl, (hs.own.too [0] 11)⟩)
    ·replace hm := bif_f hm hb
     cases hm
   ·replace hm := bif_f hm hb
    cases hm
  ·replace hm := bif_f hm hb
   cases hm


abbrev times_By.R (κ : Ctx) (S : List HP) (x0 : Twire_Machine) (x1 : Int) (x2 : Cells) (x3 : Cells) (b_x0 : Nat) (r : (Cells × Twire_Machine)) : Ending → World → Prop := fun e w' => e = .returned (.agg (vals r.1)) ∧ Own κ w' (Twire_Machine.own b_x0 r.2 :: S)
def times_By.m (k : Nat) (x0 : Twire_Machine) (x1 : Int) (x2 : Cells) (x3 : Cells) : Option (Cells × Twire_Machine) := (bif x1 == 2 then (if x2.length = 3 then (if x3.length = 3 then (times_Dom.m k x0 x2 x3).bind fun v_12 => (if v_12.1.length = 3 then some (v_12.1, v_12.2) else none) else none) else none) else (if x2.length = 3 then (if x3.length = 3 then (times_Isw.m k x0 x2 x3).bind fun v_19 => (if v_19.1.length = 3 then some (v_19.1, v_19.2) else none) else none) else none))

set_option maxRecDepth 100000 in
set_option maxHeartbeats 4000000 in
theorem times_By.ok (k : Nat) (x0 : Twire_Machine) (x1 : Int) (x2 : Cells) (x3 : Cells) (r : (Cells × Twire_Machine)) (hm : times_By.m k x0 x1 x2 x3 = some r) (κ : Ctx) (w : World) (S : List HP) (b_x0 : Nat) (ho : Own κ w (Twire_Machine.own b_x0 x0 :: S)) :
  Calls Try.prog 56 #[pp b_x0, vi x1, .agg (vals x2), .agg (vals x3)] w (times_By.R κ S x0 x1 x2 x3 b_x0 r) := by
 unfold times_By.m at hm
 generalize hRR : times_By.R κ S x0 x1 x2 x3 b_x0 r = RR
 refine qen [(0, pp b_x0), (1, vi x1), (2, .agg (vals x2)), (3, .agg (vals x3))] Try.func56 Try.ntmps56 ho fun a hs => ?_
 refine qsr fun K1 hK1 => ?_
 refine qbx 2 28 x2 6 hs fun b_2 w a hs => ?_
 refine qbx 3 28 x3 7 hs fun b_3 w a hs => ?_
 refine qal 28 [ci 0, ci 0, ci 0] 8 hs fun b_4 w a hs => ?_
 refine qpk 0 [0, 1, 6, 7, 8] hs fun a hs => hK1 _ _ ?_
 clear hK1
 refine Vk.seq fun K5 hK5 => ?_
 refine qsk 2 [0, 6, 7, 8, 10] hs fun a hs => ?_
 refine qcs (x1 == 2) hs (fun hb => ?_) fun hb => ?_
 ·replace hm := bif_t hm hb
  refine qsr fun K7 hK7 => ?_
  refine qpu 1 hs fun a hs => ?_
  obtain ⟨h_8, hm⟩ := ite_t hm
  refine Vk.step (Vk.value (some 12) (.agg (vals x2)) hs (by kernel_rfl) (op := (.load 28 (.tmp 6))) (by kernel_rfl) (fun o ho => run_loadN (cs := x2) ho (by kernel_rfl) (by kernel_rfl) h_8 (CellsAt.all 2 rfl) _ hs.own) fun a hs => ?_)
  obtain ⟨h_9, hm⟩ := ite_t hm
  refine Vk.step (Vk.value (some 13) (.agg (vals x3)) hs (by kernel_rfl) (op := (.load 28 (.tmp 7))) (by kernel_rfl) (fun o ho => run_loadN (cs := x3) ho (by kernel_rfl) (by kernel_rfl) h_9 (CellsAt.all 1 rfl) _ hs.own) fun a hs => ?_)
  obtain ⟨v_12, h_11, hm⟩ := bind_t hm
  refine qcl (times_Dom.ok _ _ _ _ _ h_11 _ _ _ b_x0 hs.own.f3) hs fun w a hs => ?_
  obtain ⟨h_13, hm⟩ := ite_t hm
  refine Vk.step (Vk.storeA (b := b_4) (ty := 28) (x := (.tmp 8)) (y := (.tmp 14)) (sz := 3) v_12.1 1 hs (by kernel_rfl) (by kernel_rfl) (by kernel_rfl) (by kernel_rfl) (by kernel_rfl) h_13 (by kernel_rfl) rfl (Eq.trans (b := 3) h_13 (Eq.symm rfl)) fun a w hs => ?_)
  refine qpe 0 [(8, pp b_4)] hs fun a hs => hK7 _ _ ?_
  clear hK7
  refine wp_ret ?_
  exact Vk.retC (P := Try.prog) (fn := Try.f56) (R := RR) v_12.1 hs rfl (by kernel_rfl) (sz := 3) (by kernel_rfl) h_13 (CellsAt.all 1 rfl) (by obtain rfl := Option.some.inj hm; subst hRR; exact ⟨rfl, (hs.own.too [0] 4)⟩)
 ·replace hm := bif_f hm hb
  refine wp_skip ?_
  refine hK5 _ _ ?_
  clear hK5
  refine qsr fun K14 hK14 => ?_
  refine qpu 1 hs fun a hs => ?_
  obtain ⟨h_15, hm⟩ := ite_t hm
  refine Vk.step (Vk.value (some 16) (.agg (vals x2)) hs (by kernel_rfl) (op := (.load 28 (.tmp 6))) (by kernel_rfl) (fun o ho => run_loadN (cs := x2) ho (by kernel_rfl) (by kernel_rfl) h_15 (CellsAt.all 2 rfl) _ hs.own) fun a hs => ?_)
  obtain ⟨h_16, hm⟩ := ite_t hm
  refine Vk.step (Vk.value (some 17) (.agg (vals x3)) hs (by kernel_rfl) (op := (.load 28 (.tmp 7))) (by kernel_rfl) (fun o ho => run_loadN (cs := x3) ho (by kernel_rfl) (by kernel_rfl) h_16 (CellsAt.all 1 rfl) _ hs.own) fun a hs => ?_)
  obtain ⟨v_19, h_18, hm⟩ := bind_t hm
  refine qcl (times_Isw.ok _ _ _ _ _ h_18 _ _ _ b_x0 hs.own.f3) hs fun w a hs => ?_
  obtain ⟨h_20, hm⟩ := ite_t hm
  refine Vk.step (Vk.storeA (b := b_4) (ty := 28) (x := (.tmp 8)) (y := (.tmp 18)) (sz := 3) v_19.1 1 hs (by kernel_rfl) (by kernel_rfl) (by kernel_rfl) (by kernel_rfl) (by kernel_rfl) h_20 (by kernel_rfl) rfl (Eq.trans (b := 3) h_20 (Eq.symm rfl)) fun a w hs => ?_)
  refine qpe 0 [(8, pp b_4)] hs fun a hs => hK14 _ _ ?_
  clear hK14
  refine wp_ret ?_
  exact Vk.retC (P := Try.prog) (fn := Try.f56) (R := RR) v_19.1 hs rfl (by kernel_rfl) (sz := 3) (by kernel_rfl) h_20 (CellsAt.all 1 rfl) (by obtain rfl := Option.some.inj hm; subst hRR; exact ⟨rfl, (hs.own.too [0] 4)⟩)


abbrev visorref19_M_Begin.R (κ : Ctx) (S : List HP) (x0 : Tvisorref19_M) (x1 : Int) (b_x0 : Nat) (r : Tvisorref19_M) : Ending → World → Prop := fun e w' => e = .returned (.tuple #[]) ∧ Own κ w' (Tvisorref19_M.own κ b_x0 r :: S)
def visorref19_M_Begin.m (k : Nat) (x0 : Tvisorref19_M) (x1 : Int) : Option Tvisorref19_M := (bif x0.e != 0 then some x0 else (bif ((x0.kind != 0) || (decide (x1 < 1))) || (decide (x1 > 3)) then some (⟨x0.n, x0.most, x0.words, x0.draws, x0.fromF, x0.skip, x0.kind, 1, x0.ops, x0.blocks, x0.val, x0.tape, x0.dry⟩ : Tvisorref19_M) else (visorref19_M_Len.m k (⟨x0.n, x0.most, x0.words, x0.draws, x0.fromF, x0.skip, x1, x0.e, x0.ops, x0.blocks, x0.val, x0.tape, x0.dry⟩ : Tvisorref19_M)).bind fun v_16 => some (⟨x0.n, x0.most, x0.words, x0.draws, v_16, x0.skip, x1, x0.e, x0.ops, x0.blocks, x0.val, x0.tape, x0.dry⟩ : Tvisorref19_M)))

set_option maxRecDepth 100000 in
set_option maxHeartbeats 4000000 in
theorem visorref19_M_Begin.ok (k : Nat) (x0 : Tvisorref19_M) (x1 : Int) (r : Tvisorref19_M) (hm : visorref19_M_Begin.m k x0 x1 = some r) (κ : Ctx) (w : World) (S : List HP) (b_x0 : Nat) (ho : Own κ w (Tvisorref19_M.own κ b_x0 x0 :: S)) :
  Calls Try.prog 122 #[pp b_x0, vi x1] w (visorref19_M_Begin.R κ S x0 x1 b_x0 r) := by
 unfold visorref19_M_Begin.m at hm
 generalize hRR : visorref19_M_Begin.R κ S x0 x1 b_x0 r = RR
 refine qen [(0, pp b_x0), (1, vi x1)] Try.func122 Try.ntmps122 ho fun a hs => ?_
 refine Vk.seq fun K1 hK1 => ?_
 refine qsr fun K2 hK2 => ?_
 refine qpu 3 hs fun a hs => ?_
 obtain ⟨g_3, hs⟩ := hs.unbag 0 rfl
 refine qld 0 (ci x0.e) hs rfl fun a hs => ?_
 refine qpe 1 [(0, pp b_x0), (1, vi x1), (8, .bool (x0.e != 0))] hs fun a hs => hK2 _ _ ?_
 clear hK2
 refine qcs (x0.e != 0) hs (fun hb => ?_) fun hb => ?_
 ·replace hm := bif_t hm hb
  refine wp_ret ?_
  replace hs := hs.bagG (l := Tvisorref19_M.parts κ b_x0 x0 g_3) (S' := S) hs.own
  replace hs := hs.toEx (Tvisorref19_M.parts κ b_x0 x0) g_3 0 rfl
  exact qr0 hs rfl hRR (by cases hm; exact ⟨rfl, hs.own⟩)
 ·replace hm := bif_f hm hb
  refine wp_skip ?_
  refine hK1 _ _ ?_
  clear hK1
  refine Vk.seq fun K8 hK8 => ?_
  refine qsr fun K9 hK9 => ?_
  refine qpu 3 hs fun a hs => ?_
  refine qld 0 (ci x0.kind) hs rfl fun a hs => ?_
  refine qpu 2 hs fun a hs => ?_
  suffices hj_10 : ∀ a, St 34 a w κ [(0, pp b_x0), (1, vi x1), (8, .bool (x0.e != 0)), (9, pp b_x0), (10, pp b_x0), (11, .pointer (some ⟨b_x0, 6, none⟩)), (12, vi x0.kind), (13, .bool (x0.kind != 0)), (14, .bool (x0.kind != 0)), (17, .bool ((x0.kind != 0) || (decide (x1 < 1))))] (pt b_x0 (blk (Tvisorref19_M.obj x0 g_3.1 g_3.2.1 g_3.2.2.1 g_3.2.2.2.1 g_3.2.2.2.2.1 g_3.2.2.2.2.2.1 g_3.2.2.2.2.2.2.1 g_3.2.2.2.2.2.2.2) 64) :: rowp g_3.1 g_3.2.1 93 6 Tapi_Op.cells x0.ops :: rowp g_3.2.2.1 g_3.2.2.2.1 175 3 Tapi_Span.cells x0.blocks :: rowp g_3.2.2.2.2.1 g_3.2.2.2.2.2.1 32 1 (eI .u64) x0.val :: rdp κ g_3.2.2.2.2.2.2.1 g_3.2.2.2.2.2.2.2 1 (eI .u64) x0.tape.l :: S) → wpFrom Try.prog _ _ 9 a w by
   rcases Bool.eq_false_or_eq_true (x0.kind != 0) with hb | hb
   ·replace hs := hs.known (t := 14) hb (by kernel_rfl)
    refine qpu 3 hs fun a hs => ?_
    have hq := hs.pick [0, 1, 8, 9, 10, 11, 12, 13, 14, 17] (L' := [(0, pp b_x0), (1, vi x1), (8, .bool (x0.e != 0)), (9, pp b_x0), (10, pp b_x0), (11, .pointer (some ⟨b_x0, 6, none⟩)), (12, vi x0.kind), (13, .bool (x0.kind != 0)), (14, .bool true), (17, .bool true)]) (by kernel_rfl)
    exact hj_10 _ (hq.conv (by first | (rw [hb] <;> rfl) | rfl))
   ·replace hs := hs.known (t := 14) hb (by kernel_rfl)
    refine qpu 3 hs fun a hs => ?_
    have hq := hs.pick [0, 1, 8, 9, 10, 11, 12, 13, 14, 17] (L' := [(0, pp b_x0), (1, vi x1), (8, .bool (x0.e != 0)), (9, pp b_x0), (10, pp b_x0), (11, .pointer (some ⟨b_x0, 6, none⟩)), (12, vi x0.kind), (13, .bool (x0.kind != 0)), (14, .bool false), (17, .bool (decide (x1 < 1)))]) (by kernel_rfl)
    exact hj_10 _ (hq.conv (by first | (rw [hb] <;> rfl) | rfl))
  intro a hs
  refine qpu 1 hs fun a hs => ?_
  suffices hj_11 : ∀ a, St 34 a w κ [(0, pp b_x0), (1, vi x1), (8, .bool (x0.e != 0)), (9, pp b_x0), (10, pp b_x0), (11, .pointer (some ⟨b_x0, 6, none⟩)), (12, vi x0.kind), (13, .bool (x0.kind != 0)), (14, .bool (x0.kind != 0)), (17, .bool ((x0.kind != 0) || (decide (x1 < 1)))), (18, .bool ((x0.kind != 0) || (decide (x1 < 1)))), (21, .bool (((x0.kind != 0) || (decide (x1 < 1))) || (decide (x1 > 3))))] (pt b_x0 (blk (Tvisorref19_M.obj x0 g_3.1 g_3.2.1 g_3.2.2.1 g_3.2.2.2.1 g_3.2.2.2.2.1 g_3.2.2.2.2.2.1 g_3.2.2.2.2.2.2.1 g_3.2.2.2.2.2.2.2) 64) :: rowp g_3.1 g_3.2.1 93 6 Tapi_Op.cells x0.ops :: rowp g_3.2.2.1 g_3.2.2.2.1 175 3 Tapi_Span.cells x0.blocks :: rowp g_3.2.2.2.2.1 g_3.2.2.2.2.2.1 32 1 (eI .u64) x0.val :: rdp κ g_3.2.2.2.2.2.2.1 g_3.2.2.2.2.2.2.2 1 (eI .u64) x0.tape.l :: S) → wpFrom Try.prog _ _ 13 a w by
   rcases Bool.eq_false_or_eq_true ((x0.kind != 0) || (decide (x1 < 1))) with hb | hb
   ·replace hs := hs.known (t := 18) hb (by kernel_rfl)
    refine qpu 3 hs fun a hs => ?_
    have hq := hs.pick [0, 1, 8, 9, 10, 11, 12, 13, 14, 17, 18, 21] (L' := [(0, pp b_x0), (1, vi x1), (8, .bool (x0.e != 0)), (9, pp b_x0), (10, pp b_x0), (11, .pointer (some ⟨b_x0, 6, none⟩)), (12, vi x0.kind), (13, .bool (x0.kind != 0)), (14, .bool (x0.kind != 0)), (17, .bool ((x0.kind != 0) || (decide (x1 < 1)))), (18, .bool true), (21, .bool true)]) (by kernel_rfl)
    exact hj_11 _ (hq.conv (by first | (rw [hb] <;> rfl) | rfl))
   ·replace hs := hs.known (t := 18) hb (by kernel_rfl)
    refine qpu 3 hs fun a hs => ?_
    have hq := hs.pick [0, 1, 8, 9, 10, 11, 12, 13, 14, 17, 18, 21] (L' := [(0, pp b_x0), (1, vi x1), (8, .bool (x0.e != 0)), (9, pp b_x0), (10, pp b_x0), (11, .pointer (some ⟨b_x0, 6, none⟩)), (12, vi x0.kind), (13, .bool (x0.kind != 0)), (14, .bool (x0.kind != 0)), (17, .bool ((x0.kind != 0) || (decide (x1 < 1)))), (18, .bool false), (21, .bool (decide (x1 > 3)))]) (by kernel_rfl)
    exact hj_11 _ (hq.conv (by first | (rw [hb] <;> rfl) | rfl))
  intro a hs
  refine qpk 0 [0, 1, 21] hs fun a hs => hK9 _ _ ?_
  clear hK9
  refine qcs (((x0.kind != 0) || (decide (x1 < 1))) || (decide (x1 > 3))) hs (fun hb => ?_) fun hb => ?_
  ·replace hm := bif_t hm hb
   refine qsr fun K12 hK12 => ?_
   refine qpu 3 hs fun a hs => ?_
   refine qst 0 7 (ci 1) hs rfl fun a w hs => ?_
   refine qpe 0 [] hs fun a hs => hK12 _ _ ?_
   clear hK12
   refine wp_ret ?_
   replace hs := hs.bagG (l := Tvisorref19_M.parts κ b_x0 (⟨x0.n, x0.most, x0.words, x0.draws, x0.fromF, x0.skip, x0.kind, 1, x0.ops, x0.blocks, x0.val, x0.tape, x0.dry⟩ : Tvisorref19_M) g_3) (S' := S) hs.own
   replace hs := hs.toEx (Tvisorref19_M.parts κ b_x0 (⟨x0.n, x0.most, x0.words, x0.draws, x0.fromF, x0.skip, x0.kind, 1, x0.ops, x0.blocks, x0.val, x0.tape, x0.dry⟩ : Tvisorref19_M)) g_3 0 rfl
   exact qr0 hs rfl hRR (by cases hm; exact ⟨rfl, hs.own⟩)
  ·replace hm := bif_f hm hb
   refine wp_skip ?_
   refine hK8 _ _ ?_
   clear hK8
   refine qsr fun K13 hK13 => ?_
   refine qpu 4 hs fun a hs => ?_
   refine qst 0 6 (ci x1) hs rfl fun a w hs => ?_
   refine qpe 0 [(0, pp b_x0)] hs fun a hs => hK13 _ _ ?_
   clear hK13
   refine Vk.region ?_
   refine qpu 2 hs fun a hs => ?_
   replace hs := hs.bagG (l := Tvisorref19_M.parts κ b_x0 (⟨x0.n, x0.most, x0.words, x0.draws, x0.fromF, x0.skip, x1, x0.e, x0.ops, x0.blocks, x0.val, x0.tape, x0.dry⟩ : Tvisorref19_M) g_3) (S' := S) hs.own
   obtain ⟨v_16, h_15, hm⟩ := bind_t hm
   refine qcl (visorref19_M_Len.ok _ _ _ h_15 _ _ _ b_x0 g_3 hs.own) hs fun w a hs => ?_
   replace hs := hs.unbagAt 0 rfl
   refine qpu 2 hs fun a hs => ?_
   refine qst 0 4 (ci v_16) hs rfl fun a w hs => ?_
   refine qpe 0 [] hs fun a hs => ?_
   replace hs := hs.bagG (l := Tvisorref19_M.parts κ b_x0 (⟨x0.n, x0.most, x0.words, x0.draws, v_16, x0.skip, x1, x0.e, x0.ops, x0.blocks, x0.val, x0.tape, x0.dry⟩ : Tvisorref19_M) g_3) (S' := S) hs.own
   replace hs := hs.toEx (Tvisorref19_M.parts κ b_x0 (⟨x0.n, x0.most, x0.words, x0.draws, v_16, x0.skip, x1, x0.e, x0.ops, x0.blocks, x0.val, x0.tape, x0.dry⟩ : Tvisorref19_M)) g_3 0 rfl
   exact qe0 hs rfl hRR (by cases hm; exact ⟨rfl, hs.own⟩)


abbrev visorref19_Op.R (κ : Ctx) (S : List HP) (x0 : Int) (x1 : Int) (x2 : Int) (x3 : Int) (x4 : Int) (r : Tapi_Op) : Ending → World → Prop := fun e w' => e = .returned (.agg (vals [ci r.kind, ci r.dom, ci r.a, ci r.b, ci r.d, cw r.c])) ∧ Own κ w' (S)
def visorref19_Op.m (k : Nat) (x0 : Int) (x1 : Int) (x2 : Int) (x3 : Int) (x4 : Int) : Option Tapi_Op := some (⟨x0, x1, x2, x3, (-1), x4⟩ : Tapi_Op)

set_option maxRecDepth 100000 in
set_option maxHeartbeats 4000000 in
theorem visorref19_Op.ok (k : Nat) (x0 : Int) (x1 : Int) (x2 : Int) (x3 : Int) (x4 : Int) (r : Tapi_Op) (hm : visorref19_Op.m k x0 x1 x2 x3 x4 = some r) (κ : Ctx) (w : World) (S : List HP) (ho : Own κ w (S)) :
  Calls Try.prog 123 #[vi x0, vi x1, vi x2, vi x3, vw x4] w (visorref19_Op.R κ S x0 x1 x2 x3 x4 r) := by
 unfold visorref19_Op.m at hm
 generalize hRR : visorref19_Op.R κ S x0 x1 x2 x3 x4 r = RR
 refine qen [(0, vi x0), (1, vi x1), (2, vi x2), (3, vi x3), (4, vw x4)] Try.func123 Try.ntmps123 ho fun a hs => ?_
 refine qsr fun K1 hK1 => ?_
 refine qal 93 [ci 0, ci 0, ci 0, ci 0, ci 0, cw 0] 10 hs fun b_2 w a hs => ?_
 refine qpk 0 [0, 1, 2, 3, 4, 10] hs fun a hs => hK1 _ _ ?_
 clear hK1
 refine qsr fun K3 hK3 => ?_
 refine qpu 6 hs fun a hs => ?_
 refine qsa 0 [ci x0, ci x1, ci x2, ci x3, ci (-1), cw x4] hs rfl fun a w hs => ?_
 refine qpe 0 [(10, pp b_2)] hs fun a hs => hK3 _ _ ?_
 clear hK3
 refine wp_ret ?_
 exact Vk.retC (P := Try.prog) (fn := Try.f123) (R := RR) [ci x0, ci x1, ci x2, ci x3, ci (-1), cw x4] hs rfl (by kernel_rfl) (sz := 6) (by kernel_rfl) rfl (CellsAt.all 0 rfl) (by obtain rfl := Option.some.inj hm; subst hRR; exact ⟨rfl, hs.own.drop⟩)


def visorref19_M_End.j1 (k : Nat) (p_26 : Tvisorref19_M) : Option (Tvisorref19_M) := some (⟨p_26.n, p_26.most, p_26.words, p_26.draws, p_26.fromF, p_26.skip, 0, p_26.e, p_26.ops, p_26.blocks, p_26.val, p_26.tape, p_26.dry⟩ : Tvisorref19_M)
abbrev visorref19_M_End.R (κ : Ctx) (S : List HP) (x0 : Tvisorref19_M) (b_x0 : Nat) (r : Tvisorref19_M) : Ending → World → Prop := fun e w' => e = .returned (.tuple #[]) ∧ Own κ w' (Tvisorref19_M.own κ b_x0 r :: S)
def visorref19_M_End.m (k : Nat) (x0 : Tvisorref19_M) : Option Tvisorref19_M := (bif x0.e != 0 then some x0 else (bif x0.kind == 0 then some (⟨x0.n, x0.most, x0.words, x0.draws, x0.fromF, x0.skip, x0.kind, 1, x0.ops, x0.blocks, x0.val, x0.tape, x0.dry⟩ : Tvisorref19_M) else (visorref19_M_Len.m k x0).bind fun v_16 => (bif decide (v_16 > x0.fromF) then (visorref19_M_Len.m k x0).bind fun v_20 => (if (x0.blocks.length + ([(⟨x0.kind, x0.fromF, v_20⟩ : Tapi_Span)] : List Tapi_Span).length) * 24 ≤ 140737488355328 then visorref19_M_End.j1 k (⟨x0.n, x0.most, x0.words, x0.draws, x0.fromF, x0.skip, x0.kind, x0.e, x0.ops, x0.blocks ++ ([(⟨x0.kind, x0.fromF, v_20⟩ : Tapi_Span)] : List Tapi_Span), x0.val, x0.tape, x0.dry⟩ : Tvisorref19_M) else none) else visorref19_M_End.j1 k x0)))

set_option maxRecDepth 100000 in
set_option maxHeartbeats 4000000 in
theorem visorref19_M_End.ok (k : Nat) (x0 : Tvisorref19_M) (r : Tvisorref19_M) (hm : visorref19_M_End.m k x0 = some r) (κ : Ctx) (w : World) (S : List HP) (b_x0 : Nat) (ho : Own κ w (Tvisorref19_M.own κ b_x0 x0 :: S)) :
  Calls Try.prog 124 #[pp b_x0] w (visorref19_M_End.R κ S x0 b_x0 r) := by
 unfold visorref19_M_End.m at hm
 generalize hRR : visorref19_M_End.R κ S x0 b_x0 r = RR
 refine qen [(0, pp b_x0)] Try.func124 Try.ntmps124 ho fun a hs => ?_
 refine Vk.seq fun K1 hK1 => ?_
 refine qsr fun K2 hK2 => ?_
 refine qpu 3 hs fun a hs => ?_
 obtain ⟨g_3, hs⟩ := hs.unbag 0 rfl
 refine qld 0 (ci x0.e) hs rfl fun a hs => ?_
 refine qpk 1 [0, 6] hs fun a hs => hK2 _ _ ?_
 clear hK2
 refine qcs (x0.e != 0) hs (fun hb => ?_) fun hb => ?_
 ·replace hm := bif_t hm hb
  refine wp_ret ?_
  replace hs := hs.bagG (l := Tvisorref19_M.parts κ b_x0 x0 g_3) (S' := S) hs.own
  replace hs := hs.toEx (Tvisorref19_M.parts κ b_x0 x0) g_3 0 rfl
  exact qr0 hs rfl hRR (by cases hm; exact ⟨rfl, hs.own⟩)
 ·replace hm := bif_f hm hb
  refine wp_skip ?_
  refine hK1 _ _ ?_
  clear hK1
  refine Vk.seq fun K8 hK8 => ?_
  refine qsr fun K9 hK9 => ?_
  refine qpu 3 hs fun a hs => ?_
  refine qld 0 (ci x0.kind) hs rfl fun a hs => ?_
  refine qpk 1 [0, 11] hs fun a hs => hK9 _ _ ?_
  clear hK9
  refine qcs (x0.kind == 0) hs (fun hb => ?_) fun hb => ?_
  ·replace hm := bif_t hm hb
   refine qsr fun K10 hK10 => ?_
   refine qpu 3 hs fun a hs => ?_
   refine qst 0 7 (ci 1) hs rfl fun a w hs => ?_
   refine qpe 0 [] hs fun a hs => hK10 _ _ ?_
   clear hK10
   refine wp_ret ?_
   replace hs := hs.bagG (l := Tvisorref19_M.parts κ b_x0 (⟨x0.n, x0.most, x0.words, x0.draws, x0.fromF, x0.skip, x0.kind, 1, x0.ops, x0.blocks, x0.val, x0.tape, x0.dry⟩ : Tvisorref19_M) g_3) (S' := S) hs.own
   replace hs := hs.toEx (Tvisorref19_M.parts κ b_x0 (⟨x0.n, x0.most, x0.words, x0.draws, x0.fromF, x0.skip, x0.kind, 1, x0.ops, x0.blocks, x0.val, x0.tape, x0.dry⟩ : Tvisorref19_M)) g_3 0 rfl
   exact qr0 hs rfl hRR (by cases hm; exact ⟨rfl, hs.own⟩)
  ·replace hm := bif_f hm hb
   refine wp_skip ?_
   refine hK8 _ _ ?_
   clear hK8
   refine Vk.seq fun K11 hK11 => ?_
   have hj11 : ∀ (p_26 : Tvisorref19_M), visorref19_M_End.j1 k p_26 = some r → ∀ (a : Act) (w : World), St 45 a w κ [(0, pp b_x0)] (Tvisorref19_M.own κ b_x0 p_26 :: S) → K11 a w := by
    intro p_26 hm a w hs
    unfold visorref19_M_End.j1 at hm
    refine hK11 _ _ ?_
    refine Vk.region ?_
    refine qpu 3 hs fun a hs => ?_
    obtain ⟨g_27, hs⟩ := hs.unbag 0 rfl
    refine qst 0 6 (ci 0) hs rfl fun a w hs => ?_
    refine qpe 0 [] hs fun a hs => ?_
    replace hs := hs.bagG (l := Tvisorref19_M.parts κ b_x0 (⟨p_26.n, p_26.most, p_26.words, p_26.draws, p_26.fromF, p_26.skip, 0, p_26.e, p_26.ops, p_26.blocks, p_26.val, p_26.tape, p_26.dry⟩ : Tvisorref19_M) g_27) (S' := S) hs.own
    replace hs := hs.toEx (Tvisorref19_M.parts κ b_x0 (⟨p_26.n, p_26.most, p_26.words, p_26.draws, p_26.fromF, p_26.skip, 0, p_26.e, p_26.ops, p_26.blocks, p_26.val, p_26.tape, p_26.dry⟩ : Tvisorref19_M)) g_27 0 rfl
    exact qe0 hs rfl hRR (by cases hm; exact ⟨rfl, hs.own⟩)
   refine Vk.seq fun K12 hK12 => ?_
   obtain ⟨C_13, hC_13⟩ := qC hs.own
   refine qdr 7 κ C_13 hs fun w hs hqC_13 => ?_
   have hcl := qO hC_13 hs.own
   refine qdp (fuel := 3) [0, 2, 3, 4] hs hcl hqC_13 fun a hs => ?_
   refine qdl 5 0 (ci x0.fromF) hs hcl hqC_13 hC_13 rfl fun a hs => ?_
   replace hs := hs.bagG (l := Tvisorref19_M.parts κ b_x0 x0 g_3) (S' := S) hs.own
   obtain ⟨v_16, h_15, hm⟩ := bind_t hm
   refine qdc 1 (visorref19_M_Len.ok _ _ _ h_15 _ _ _ b_x0 g_3 hs.own) hs fun w a hs => ?_
   replace hs := hs.unbagAt 0 rfl
   replace hcl := qO hC_13 hs.own
   refine ⟨fun _ => hcl, ?_⟩
   refine qdp (fuel := 0) [6] hs hcl hqC_13 fun a hs => ?_
   replace hs := hs.pick [0, 21] (L' := [(0, pp b_x0), (21, .bool (decide (v_16 > x0.fromF)))]) (by kernel_rfl)
   refine Vk.dDone (by kernel_rfl) ?_
   refine hK12 _ _ ?_
   clear hK12
   refine qcs (decide (v_16 > x0.fromF)) hs (fun hb => ?_) fun hb => ?_
   ·replace hm := bif_t hm hb
    obtain ⟨C_17, hC_17⟩ := qC hs.own.f2.drop
    refine qdr 18 κ C_17 hs fun w hs hqC_17 => ?_
    have hcl := qO hC_17 hs.own.f2.drop
    refine qdp (fuel := 10) [0, 1, 2, 3, 5, 6, 7, 9, 10, 11, 13] hs hcl hqC_17 fun a hs => ?_
    refine qdl 4 0 (C.slc g_3.2.2.1 x0.blocks.length g_3.2.2.2.1) hs hcl hqC_17 hC_17 rfl fun a hs => ?_
    refine qdl 8 0 (ci x0.kind) hs hcl hqC_17 hC_17 rfl fun a hs => ?_
    refine qdl 12 0 (ci x0.fromF) hs hcl hqC_17 hC_17 rfl fun a hs => ?_
    replace hs := hs.bagG (l := Tvisorref19_M.parts κ b_x0 x0 g_3) (S' := S) hs.own
    obtain ⟨v_20, h_19, hm⟩ := bind_t hm
    refine qdc 14 (visorref19_M_Len.ok _ _ _ h_19 _ _ _ b_x0 g_3 hs.own) hs fun w a hs => ?_
    replace hs := hs.unbagAt 0 rfl
    replace hcl := qO hC_17 hs.own.f2.drop
    refine ⟨fun _ => hcl, ?_⟩
    refine qdp (fuel := 5) [15] hs hcl hqC_17 fun a hs => ?_
    refine Vk.dOnly (i := 16) (by kernel_rfl) (Vk.buildOp (sz := 3) (by_ := 24) (t := 60) (e := 175) (parts := #[(0, (.tmp 37))]) (zs := vals [ci 0, ci 0, ci 0]) ([(⟨x0.kind, x0.fromF, v_20⟩ : Tapi_Span)] : List Tapi_Span) Tapi_Span.cells (some 38) hs (by kernel_rfl) (by kernel_rfl) (by kernel_rfl) (by kernel_rfl) (by decide) rfl (fun x _ => rfl) (Nat.le_of_ble_eq_true (by kernel_rfl)) (by kernel_rfl) fun A_21 w a hs => ?_)
    replace hcl := qO hC_17 hs.own.f3.drop.drop
    refine ⟨fun _ => hcl, ?_⟩
    obtain ⟨h_23, hm⟩ := ite_t hm
    refine Vk.dOnly (i := 17) (by kernel_rfl) (Vk.appendOp (x := (.tmp 26)) (y := (.tmp 38)) (e := 175) (t := 60) (by_ := 24) (sz := 3) (enc := Tapi_Span.cells) (A := g_3.2.2.1) (cap := g_3.2.2.2.1) (xs := x0.blocks) (ys := ([(⟨x0.kind, x0.fromF, v_20⟩ : Tapi_Span)] : List Tapi_Span)) (B := A_21) (c2 := 1) 3 (some 39) hs (by kernel_rfl) (by kernel_rfl) (by kernel_rfl) (by kernel_rfl) rfl (Sl.lift (fun w ho => (Own.to (S' := rowp A_21 1 175 3 Tapi_Span.cells ([(⟨x0.kind, x0.fromF, v_20⟩ : Tapi_Span)] : List Tapi_Span) :: S) ho [0] 6 (by kernel_rfl) (by kernel_rfl))) (Own.rowSl 0 (Own.to (S' := rowp A_21 1 175 3 Tapi_Span.cells ([(⟨x0.kind, x0.fromF, v_20⟩ : Tapi_Span)] : List Tapi_Span) :: S) hs.own [0] 6 (by kernel_rfl) (by kernel_rfl)) rfl)) (by kernel_rfl) (by kernel_rfl) (by decide) (by decide) h_23 fun A_24 c_25 w a hs => ?_)
    replace hcl := qO hC_17 hs.own.f3.drop.drop
    refine ⟨fun _ => hcl, ?_⟩
    refine Vk.dOnly (i := 18) (by kernel_rfl) (Vk.dPure1 [(40, pp b_x0)] hs (by kernel_rfl) fun a hs => ?_)
    refine ⟨fun h => absurd h (by decide), ?_⟩
    refine Vk.dOnly (i := 19) (by kernel_rfl) (Vk.dPure1 [(41, .pointer (some ⟨b_x0, 9, none⟩))] hs (by kernel_rfl) fun a hs => ?_)
    refine ⟨fun h => absurd h (by decide), ?_⟩
    refine Vk.dOnly (i := 20) (by kernel_rfl) (Vk.store1 (b := b_x0) (ty := 60) (x := (.tmp 41)) (y := (.tmp 39)) (off := 9) (C.slc A_24 ((x0.blocks ++ ([(⟨x0.kind, x0.fromF, v_20⟩ : Tapi_Span)] : List Tapi_Span)).length) c_25) 1 hs (by kernel_rfl) (by kernel_rfl) (by kernel_rfl) (by kernel_rfl) (by kernel_rfl) (by kernel_rfl) rfl (Nat.le_of_ble_eq_true (by kernel_rfl)) fun a w hs => ?_)
    refine ⟨fun h => absurd h (by decide), ?_⟩
    replace hs := hs.pick [0] (L' := [(0, pp b_x0)]) (by kernel_rfl)
    refine Vk.dDone (by kernel_rfl) ?_
    replace hs := hs.bagG (l := Tvisorref19_M.parts κ b_x0 (⟨x0.n, x0.most, x0.words, x0.draws, x0.fromF, x0.skip, x0.kind, x0.e, x0.ops, x0.blocks ++ ([(⟨x0.kind, x0.fromF, v_20⟩ : Tapi_Span)] : List Tapi_Span), x0.val, x0.tape, x0.dry⟩ : Tvisorref19_M) (g_3.1, g_3.2.1, A_24, c_25, g_3.2.2.2.2.1, g_3.2.2.2.2.2.1, g_3.2.2.2.2.2.2.1, g_3.2.2.2.2.2.2.2)) (S' := rowp A_21 1 175 3 Tapi_Span.cells ([(⟨x0.kind, x0.fromF, v_20⟩ : Tapi_Span)] : List Tapi_Span) :: S) hs.own.f5.f5.f5.f5.f5
    replace hs := hs.toEx (Tvisorref19_M.parts κ b_x0 (⟨x0.n, x0.most, x0.words, x0.draws, x0.fromF, x0.skip, x0.kind, x0.e, x0.ops, x0.blocks ++ ([(⟨x0.kind, x0.fromF, v_20⟩ : Tapi_Span)] : List Tapi_Span), x0.val, x0.tape, x0.dry⟩ : Tvisorref19_M)) (g_3.1, g_3.2.1, A_24, c_25, g_3.2.2.2.2.1, g_3.2.2.2.2.2.1, g_3.2.2.2.2.2.2.1, g_3.2.2.2.2.2.2.2) 0 rfl
    exact hj11 (⟨x0.n, x0.most, x0.words, x0.draws, x0.fromF, x0.skip, x0.kind, x0.e, x0.ops, x0.blocks ++ ([(⟨x0.kind, x0.fromF, v_20⟩ : Tapi_Span)] : List Tapi_Span), x0.val, x0.tape, x0.dry⟩ : Tvisorref19_M) hm _ _ (hs.go [0] [0] 2 (by kernel_rfl) (by kernel_rfl) (by kernel_rfl))
   ·replace hm := bif_f hm hb
    refine wp_skip ?_
    replace hs := hs.bagG (l := Tvisorref19_M.parts κ b_x0 x0 g_3) (S' := S) hs.own
    replace hs := hs.toEx (Tvisorref19_M.parts κ b_x0 x0) g_3 0 rfl
    exact hj11 x0 hm _ _ (hs.go [0] [0] 1 (by kernel_rfl) (by kernel_rfl) (by kernel_rfl))


def visorref22_By.j2 (k : Nat) (rec149 : Tvisorref19_M → Cells → Int → Option (Tvisorref19_M × Cells)) (q_152 : Int) (p_225 : Tvisorref19_M) (p_226 : Cells) : Option (Tvisorref19_M × Cells) := rec149 p_225 p_226 (IntKind.i64.wrap (q_152 + 1))
def visorref22_By.j1 (k : Nat) (rec149 : Tvisorref19_M → Cells → Int → Option (Tvisorref19_M × Cells)) (q_132 : Int) (q_151 : Cells) (q_152 : Int) (p_212 : Tvisorref19_M) (p_213 : Int) : Option (Tvisorref19_M × Cells) := (if 0 ≤ q_132 ∧ q_132 < 3 then (getI .i64 q_151 (0 + q_132.toNat * 1)).bind fun v_216 => (visorref19_Op.m k 5 q_132 v_216 p_213 0).bind fun v_219 => (visorref19_M_Do.m k p_212 v_219 0).bind fun v_222 => (if 0 ≤ q_132 ∧ q_132 < 3 then (if 0 + q_132.toNat * 1 < q_151.length then visorref22_By.j2 k (rec149) q_152 v_222.2 (q_151.set (0 + q_132.toNat * 1) (ci v_222.1)) else none) else none) else none)
def visorref22_By.l6 (x1 : Int) (p_70 : Cells) (p_123 : Cells) (q_132 : Int) : Nat → Tvisorref19_M → Cells → Int → Option (Tvisorref19_M × Cells)
 | 0, _, _, _ => none
 | k + 1, q_150, q_151, q_152 => (bif decide (q_152 < q_150.n) then (bif q_152 == q_132 then visorref22_By.j2 k (visorref22_By.l6 x1 p_70 p_123 q_132 k) q_152 q_150 q_151 else (if 0 ≤ q_132 ∧ q_132 < 3 then (if 0 ≤ q_152 ∧ q_152 < 3 then (getI .i64 p_70 (0 + q_132.toNat * 3 + q_152.toNat * 1)).bind fun v_167 => (bif x1 == 2 then (if 0 ≤ q_132 ∧ q_132 < 3 then (if 0 ≤ q_152 ∧ q_152 < 3 then (getI .i64 p_123 (0 + q_132.toNat * 3 + q_152.toNat * 1)).bind fun v_174 => (if 0 ≤ q_132 ∧ q_132 < 3 then (if 0 ≤ q_152 ∧ q_152 < 3 then (getI .i64 p_70 (0 + q_132.toNat * 3 + q_152.toNat * 1)).bind fun v_178 => (visorref19_Op.m k 5 q_132 v_174 v_178 0).bind fun v_181 => (visorref19_M_Do.m k q_150 v_181 0).bind fun v_184 => visorref22_By.j1 k (visorref22_By.l6 x1 p_70 p_123 q_132 k) q_132 q_151 q_152 v_184.2 v_184.1 else none) else none) else none) else none) else (bif decide (q_152 < q_132) then (if 0 ≤ q_152 ∧ q_152 < 3 then (if 0 ≤ q_132 ∧ q_132 < 3 then (getI .i64 p_70 (0 + q_152.toNat * 3 + q_132.toNat * 1)).bind fun v_191 => (if 0 ≤ q_152 ∧ q_152 < 3 then (if 0 ≤ q_132 ∧ q_132 < 3 then (getI .i64 p_123 (0 + q_152.toNat * 3 + q_132.toNat * 1)).bind fun v_195 => (visorref19_Op.m k 5 q_132 v_191 v_195 0).bind fun v_198 => (visorref19_M_Do.m k q_150 v_198 0).bind fun v_201 => (if 0 ≤ q_132 ∧ q_132 < 3 then (if 0 ≤ q_152 ∧ q_152 < 3 then (getI .i64 p_123 (0 + q_132.toNat * 3 + q_152.toNat * 1)).bind fun v_205 => (visorref19_Op.m k 5 q_132 v_201.1 v_205 0).bind fun v_208 => (visorref19_M_Do.m k v_201.2 v_208 0).bind fun v_211 => visorref22_By.j1 k (visorref22_By.l6 x1 p_70 p_123 q_132 k) q_132 q_151 q_152 v_211.2 v_211.1 else none) else none) else none) else none) else none) else none) else visorref22_By.j1 k (visorref22_By.l6 x1 p_70 p_123 q_132 k) q_132 q_151 q_152 q_150 v_167)) else none) else none)) else some (q_150, q_151))
def visorref22_By.l5 (x1 : Int) (p_70 : Cells) (p_123 : Cells) : Nat → Tvisorref19_M → Cells → Int → Option (Tvisorref19_M × Cells)
 | 0, _, _, _ => none
 | k + 1, q_130, q_131, q_132 => (bif decide (q_132 < q_130.n) then (if 0 ≤ q_132 ∧ q_132 < 3 then (if 0 ≤ q_132 ∧ q_132 < 3 then (getI .i64 p_123 (0 + q_132.toNat * 3 + q_132.toNat * 1)).bind fun v_145 => (if 0 ≤ q_132 ∧ q_132 < 3 then (if 0 + q_132.toNat * 1 < q_131.length then (visorref22_By.l6 x1 p_70 p_123 q_132 k q_130 (q_131.set (0 + q_132.toNat * 1) (ci v_145)) 0).bind fun x => match x with | (p_227, p_228) => visorref22_By.l5 x1 p_70 p_123 k p_227 p_228 (IntKind.i64.wrap (q_132 + 1)) else none) else none) else none) else none) else some (q_130, q_131))
def visorref22_By.l4 (x2 : Cells) (x3 : Cells) (q_79 : Int) : Nat → Tvisorref19_M → Cells → Int → Option (Tvisorref19_M × Cells)
 | 0, _, _, _ => none
 | k + 1, q_90, q_91, q_92 => (bif decide (q_92 < q_90.n) then (if 0 ≤ q_79 ∧ q_79 < 3 then (getI .i64 x2 (0 + q_79.toNat * 1)).bind fun v_104 => (if 0 ≤ q_92 ∧ q_92 < 3 then (getI .i64 x3 (0 + q_92.toNat * 1)).bind fun v_107 => (if 0 ≤ q_79 ∧ q_79 < 3 then (visorref19_Op.m k 7 q_79 v_104 v_107 0).bind fun v_111 => (visorref19_M_Do.m k q_90 v_111 0).bind fun v_114 => (if 0 ≤ q_92 ∧ q_92 < 3 then (if 0 + q_79.toNat * 3 + q_92.toNat * 1 < q_91.length then visorref22_By.l4 x2 x3 q_79 k v_114.2 (q_91.set (0 + q_79.toNat * 3 + q_92.toNat * 1) (ci v_114.1)) (IntKind.i64.wrap (q_92 + 1)) else none) else none) else none) else none) else none) else some (q_90, q_91))
def visorref22_By.l3 (x2 : Cells) (x3 : Cells) : Nat → Tvisorref19_M → Cells → Int → Option (Tvisorref19_M × Cells)
 | 0, _, _, _ => none
 | k + 1, q_77, q_78, q_79 => (bif decide (q_79 < q_77.n) then (visorref22_By.l4 x2 x3 q_79 k q_77 q_78 0).bind fun x => match x with | (p_117, p_118) => visorref22_By.l3 x2 x3 k p_117 p_118 (IntKind.i64.wrap (q_79 + 1)) else some (q_77, q_78))
def visorref22_By.l2 (q_23 : Int) : Nat → Tvisorref19_M → Cells → Int → Option (Tvisorref19_M × Cells)
 | 0, _, _, _ => none
 | k + 1, q_34, q_35, q_36 => (bif decide (q_36 < q_34.n) then (if 0 ≤ q_23 ∧ q_23 < 3 then (visorref19_Op.m k 1 (-1) (-1) (-1) 0).bind fun v_50 => (visorref19_M_Do.m k q_34 v_50 0).bind fun v_53 => (if 0 ≤ q_36 ∧ q_36 < 3 then (if 0 + q_23.toNat * 3 + q_36.toNat * 1 < q_35.length then (if 0 ≤ q_23 ∧ q_23 < 3 then (if 0 ≤ q_36 ∧ q_36 < 3 then (getI .i64 (q_35.set (0 + q_23.toNat * 3 + q_36.toNat * 1) (ci v_53.1)) (0 + q_23.toNat * 3 + q_36.toNat * 1)).bind fun v_60 => (if 0 ≤ q_36 ∧ q_36 < 3 then (if 0 ≤ q_23 ∧ q_23 < 3 then (if 0 + q_36.toNat * 3 + q_23.toNat * 1 < (q_35.set (0 + q_23.toNat * 3 + q_36.toNat * 1) (ci v_53.1)).length then visorref22_By.l2 q_23 k v_53.2 ((q_35.set (0 + q_23.toNat * 3 + q_36.toNat * 1) (ci v_53.1)).set (0 + q_36.toNat * 3 + q_23.toNat * 1) (ci v_60)) (IntKind.i64.wrap (q_36 + 1)) else none) else none) else none) else none) else none) else none) else none) else none) else some (q_34, q_35))
def visorref22_By.l1 : Nat → Tvisorref19_M → Cells → Int → Option (Tvisorref19_M × Cells)
 | 0, _, _, _ => none
 | k + 1, q_21, q_22, q_23 => (bif decide (q_23 < q_21.n) then (visorref22_By.l2 q_23 k q_21 q_22 (IntKind.i64.wrap (q_23 + 1))).bind fun x => match x with | (p_64, p_65) => visorref22_By.l1 k p_64 p_65 (IntKind.i64.wrap (q_23 + 1)) else some (q_21, q_22))
abbrev visorref22_By.R (κ : Ctx) (S : List HP) (x0 : Tvisorref19_M) (x1 : Int) (x2 : Cells) (x3 : Cells) (b_x0 : Nat) (r : (Cells × Tvisorref19_M)) : Ending → World → Prop := fun e w' => e = .returned (.agg (vals r.1)) ∧ Own κ w' (Tvisorref19_M.own κ b_x0 r.2 :: S)
def visorref22_By.m (k : Nat) (x0 : Tvisorref19_M) (x1 : Int) (x2 : Cells) (x3 : Cells) : Option (Cells × Tvisorref19_M) := (visorref20_None.m k).bind fun v_8 => (if v_8.length = 3 then (visorref19_M_Begin.m k x0 3).bind fun v_17 => (visorref22_By.l1 k v_17 [ci 0, ci 0, ci 0, ci 0, ci 0, ci 0, ci 0, ci 0, ci 0] 0).bind fun x => match x with | (p_69, p_70) => (visorref22_By.l3 x2 x3 k p_69 [ci 0, ci 0, ci 0, ci 0, ci 0, ci 0, ci 0, ci 0, ci 0] 0).bind fun x => match x with | (p_122, p_123) => (visorref22_By.l5 x1 p_70 p_123 k p_122 v_8 0).bind fun x => match x with | (p_232, p_233) => (visorref19_M_End.m k p_232).bind fun v_240 => (if p_233.length = 3 then some (p_233, v_240) else none) else none)

set_option maxRecDepth 100000 in
set_option maxHeartbeats 4000000 in
theorem visorref22_By.ok (k : Nat) (x0 : Tvisorref19_M) (x1 : Int) (x2 : Cells) (x3 : Cells) (r : (Cells × Tvisorref19_M)) (hm : visorref22_By.m k x0 x1 x2 x3 = some r) (κ : Ctx) (w : World) (S : List HP) (b_x0 : Nat) (ho : Own κ w (Tvisorref19_M.own κ b_x0 x0 :: S)) :
  Calls Try.prog 57 #[pp b_x0, vi x1, .agg (vals x2), .agg (vals x3)] w (visorref22_By.R κ S x0 x1 x2 x3 b_x0 r) := by
 unfold visorref22_By.m at hm
 generalize hRR : visorref22_By.R κ S x0 x1 x2 x3 b_x0 r = RR
 refine qen [(0, pp b_x0), (1, vi x1), (2, .agg (vals x2)), (3, .agg (vals x3))] Try.func57 Try.ntmps57 ho fun a hs => ?_
 refine qsr fun K1 hK1 => ?_
 refine qbx 2 28 x2 6 hs fun b_2 w a hs => ?_
 refine qbx 3 28 x3 7 hs fun b_3 w a hs => ?_
 refine qal 28 [ci 0, ci 0, ci 0] 8 hs fun b_4 w a hs => ?_
 refine qpk 0 [0, 1, 6, 7, 8] hs fun a hs => hK1 _ _ ?_
 clear hK1
 refine qsr fun K5 hK5 => ?_
 obtain ⟨v_8, h_7, hm⟩ := bind_t hm
 refine qcl (visorref20_None.ok _ _ h_7 _ _ (pt b_4 (blk [ci 0, ci 0, ci 0] 28) :: pt b_3 (blk x3 28) :: pt b_2 (blk x2 28) :: Tvisorref19_M.own κ b_x0 x0 :: S) hs.own) hs fun w a hs => ?_
 refine qal 28 [ci 0, ci 0, ci 0] 9 hs fun b_9 w a hs => ?_
 obtain ⟨h_10, hm⟩ := ite_t hm
 refine Vk.step (Vk.storeA (b := b_9) (ty := 28) (x := (.tmp 9)) (y := (.tmp 19)) (sz := 3) v_8 0 hs (by kernel_rfl) (by kernel_rfl) (by kernel_rfl) (by kernel_rfl) (by kernel_rfl) h_10 (by kernel_rfl) rfl (Eq.trans (b := 3) h_10 (Eq.symm rfl)) fun a w hs => ?_)
 refine qpk 0 [0, 1, 6, 7, 8, 9] hs fun a hs => hK5 _ _ ?_
 clear hK5
 refine qsr fun K11 hK11 => ?_
 refine qpu 2 hs fun a hs => ?_
 refine qal 166 [ci 0, ci 0, ci 0, ci 0, ci 0, ci 0, ci 0, ci 0, ci 0] 10 hs fun b_12 w a hs => ?_
 refine qal 166 [ci 0, ci 0, ci 0, ci 0, ci 0, ci 0, ci 0, ci 0, ci 0] 11 hs fun b_13 w a hs => ?_
 refine qsa 1 [ci 0, ci 0, ci 0, ci 0, ci 0, ci 0, ci 0, ci 0, ci 0] hs rfl fun a w hs => ?_
 refine qsa 0 [ci 0, ci 0, ci 0, ci 0, ci 0, ci 0, ci 0, ci 0, ci 0] hs rfl fun a w hs => ?_
 refine qpk 0 [0, 1, 6, 7, 8, 9, 10, 11] hs fun a hs => hK11 _ _ ?_
 clear hK11
 refine qsr fun K14 hK14 => ?_
 refine qpu 1 hs fun a hs => ?_
 obtain ⟨v_17, h_16, hm⟩ := bind_t hm
 refine qcl (visorref19_M_Begin.ok _ _ _ _ h_16 _ _ _ b_x0 hs.own.f6) hs fun w a hs => ?_
 refine qpk 0 [0, 1, 6, 7, 8, 9, 10, 11] hs fun a hs => hK14 _ _ ?_
 clear hK14
 refine Vk.seq fun K18 hK18 => ?_
 refine qsk 1 [0, 1, 6, 7, 8, 9, 10, 11, 12] hs fun a hs => ?_
 refine wp_block ?_
 obtain ⟨r20, hl20, hm⟩ := bind_t hm
 have hx20 : ∀ (p_69 : Tvisorref19_M) (p_70 : Cells), r20 = (p_69, p_70) → ∀ (a : Act) (w : World), St 180 a w κ [(0, pp b_x0), (1, vi x1), (6, pp b_2), (7, pp b_3), (8, pp b_4), (9, pp b_9), (10, pp b_12), (11, pp b_13)] (Tvisorref19_M.own κ b_x0 p_69 :: pt b_2 (blk x2 28) :: pt b_3 (blk x3 28) :: pt b_4 (blk [ci 0, ci 0, ci 0] 28) :: pt b_9 (blk v_8 28) :: pt b_12 (blk p_70 166) :: pt b_13 (blk [ci 0, ci 0, ci 0, ci 0, ci 0, ci 0, ci 0, ci 0, ci 0] 166) :: S) → K18 a w := by
  intro p_69 p_70 he a w hs
  subst r20
  refine hK18 _ _ ?_
  clear hK18
  refine Vk.seq fun K74 hK74 => ?_
  refine qse 1 [(0, pp b_x0), (1, vi x1), (6, pp b_2), (7, pp b_3), (8, pp b_4), (9, pp b_9), (10, pp b_12), (11, pp b_13), (14, vi 0)] hs fun a hs => ?_
  refine wp_block ?_
  obtain ⟨r76, hl76, hm⟩ := bind_t hm
  have hx76 : ∀ (p_122 : Tvisorref19_M) (p_123 : Cells), r76 = (p_122, p_123) → ∀ (a : Act) (w : World), St 180 a w κ [(0, pp b_x0), (1, vi x1), (8, pp b_4), (9, pp b_9), (10, pp b_12), (11, pp b_13)] (Tvisorref19_M.own κ b_x0 p_122 :: pt b_4 (blk [ci 0, ci 0, ci 0] 28) :: pt b_9 (blk v_8 28) :: pt b_12 (blk p_70 166) :: pt b_13 (blk p_123 166) :: S) → K74 a w := by
   intro p_122 p_123 he a w hs
   subst r76
   refine hK74 _ _ ?_
   clear hK74
   refine Vk.seq fun K127 hK127 => ?_
   refine qsk 1 [0, 1, 8, 9, 10, 11, 16] hs fun a hs => ?_
   refine wp_block ?_
   obtain ⟨r129, hl129, hm⟩ := bind_t hm
   have hx129 : ∀ (p_232 : Tvisorref19_M) (p_233 : Cells), r129 = (p_232, p_233) → ∀ (a : Act) (w : World), St 180 a w κ [(0, pp b_x0), (8, pp b_4), (9, pp b_9)] (Tvisorref19_M.own κ b_x0 p_232 :: pt b_4 (blk [ci 0, ci 0, ci 0] 28) :: pt b_9 (blk p_233 28) :: S) → K127 a w := by
    intro p_232 p_233 he a w hs
    subst r129
    refine hK127 _ _ ?_
    clear hK127
    refine qsr fun K237 hK237 => ?_
    refine qpu 1 hs fun a hs => ?_
    obtain ⟨v_240, h_239, hm⟩ := bind_t hm
    refine qcl (visorref19_M_End.ok _ _ _ h_239 _ _ _ b_x0 hs.own) hs fun w a hs => ?_
    refine qpe 0 [(8, pp b_4), (9, pp b_9)] hs fun a hs => hK237 _ _ ?_
    clear hK237
    refine qsr fun K241 hK241 => ?_
    obtain ⟨h_242, hm⟩ := ite_t hm
    refine Vk.step (Vk.value (some 179) (.agg (vals p_233)) hs (by kernel_rfl) (op := (.load 28 (.tmp 9))) (by kernel_rfl) (fun o ho => run_loadN (cs := p_233) ho (by kernel_rfl) (by kernel_rfl) h_242 (CellsAt.all 2 rfl) _ hs.own) fun a hs => ?_)
    refine Vk.step (Vk.storeA (b := b_4) (ty := 28) (x := (.tmp 8)) (y := (.tmp 179)) (sz := 3) p_233 1 hs (by kernel_rfl) (by kernel_rfl) (by kernel_rfl) (by kernel_rfl) (by kernel_rfl) h_242 (by kernel_rfl) rfl (Eq.trans (b := 3) h_242 (Eq.symm rfl)) fun a w hs => ?_)
    refine qpe 0 [(8, pp b_4)] hs fun a hs => hK241 _ _ ?_
    clear hK241
    refine wp_ret ?_
    exact Vk.retC (P := Try.prog) (fn := Try.f57) (R := RR) p_233 hs rfl (by kernel_rfl) (sz := 3) (by kernel_rfl) h_242 (CellsAt.all 1 rfl) (by obtain rfl := Option.some.inj hm; subst hRR; exact ⟨rfl, hs.own.f2.drop.f1.drop⟩)
   refine Vk.loopBy (fun k (s : Tvisorref19_M × Cells × Int) a w => visorref22_By.l5 x1 p_70 p_123 k s.1 s.2.1 s.2.2 = some r129 ∧ St 180 a w κ [(0, pp b_x0), (1, vi x1), (8, pp b_4), (9, pp b_9), (10, pp b_12), (11, pp b_13), (16, vi s.2.2)] (Tvisorref19_M.own κ b_x0 s.1 :: pt b_4 (blk [ci 0, ci 0, ci 0] 28) :: pt b_9 (blk s.2.1 28) :: pt b_12 (blk p_70 166) :: pt b_13 (blk p_123 166) :: S)) k (p_122, v_8, 0) ⟨hl129, hs.go [0, 1, 8, 9, 10, 11, 16] [0, 1, 2, 3, 4] 5 (by kernel_rfl) (by kernel_rfl) (by kernel_rfl)⟩ (fun s a w h => by obtain ⟨h1, _⟩ := h; simp [visorref22_By.l5] at h1) (fun k KL129 ih s a w h => ?_)
   obtain ⟨q_130, q_131, q_132⟩ := s
   obtain ⟨hm, hs⟩ := h
   try dsimp only at hm hs
   rw [visorref22_By.l5] at hm
   refine Vk.seq fun K133 hK133 => ?_
   refine qsr fun K134 hK134 => ?_
   refine qpu 4 hs fun a hs => ?_
   obtain ⟨g_135, hs⟩ := hs.unbag 0 rfl
   refine qld 0 (ci q_130.n) hs rfl fun a hs => ?_
   refine qpk 1 [0, 1, 8, 9, 10, 11, 16, 95] hs fun a hs => hK134 _ _ ?_
   clear hK134
   refine qcs (decide (q_132 < q_130.n)) hs (fun hb => ?_) fun hb => ?_
   ·replace hm := bif_t hm hb
    refine wp_skip ?_
    refine hK133 _ _ ?_
    clear hK133
    refine Vk.seq fun K140 hK140 => ?_
    refine wp_block ?_
    refine qsr fun K141 hK141 => ?_
    refine qpu 3 hs fun a hs => ?_
    obtain ⟨h_142, hm⟩ := ite_t hm
    refine Vk.step (Vk.value (some 101) (.pointer (some ⟨b_13, 0 + q_132.toNat * 3, none⟩)) hs (by kernel_rfl) (op := (.indexAddr 166 (.tmp 11) (.tmp 99))) (by kernel_rfl) (fun o ho => run_idxArr (k := .i64) ho (by kernel_rfl) (by kernel_rfl) (by kernel_rfl) h_142 _) fun a hs => ?_)
    obtain ⟨h_143, hm⟩ := ite_t hm
    refine Vk.step (Vk.value (some 102) (.pointer (some ⟨b_13, 0 + q_132.toNat * 3 + q_132.toNat * 1, none⟩)) hs (by kernel_rfl) (op := (.indexAddr 26 (.tmp 101) (.tmp 100))) (by kernel_rfl) (fun o ho => run_idxArr (k := .i64) ho (by kernel_rfl) (by kernel_rfl) (by kernel_rfl) h_143 _) fun a hs => ?_)
    obtain ⟨v_145, h_144, hm⟩ := bind_t hm
    refine Vk.step (Vk.value (some 103) (vi v_145) hs (by kernel_rfl) (op := (.load 3 (.tmp 102))) (by kernel_rfl) (fun o ho => run_load1 (c := ci v_145) ho (by kernel_rfl) (by kernel_rfl) (Cell.own 8 rfl (getI_some h_144)) _ hs.own) fun a hs => ?_)
    refine qpu 1 hs fun a hs => ?_
    obtain ⟨h_146, hm⟩ := ite_t hm
    refine Vk.step (Vk.value (some 105) (.pointer (some ⟨b_9, 0 + q_132.toNat * 1, none⟩)) hs (by kernel_rfl) (op := (.indexAddr 26 (.tmp 104) (.tmp 98))) (by kernel_rfl) (fun o ho => run_idxArr (k := .i64) ho (by kernel_rfl) (by kernel_rfl) (by kernel_rfl) h_146 _) fun a hs => ?_)
    obtain ⟨h_147, hm⟩ := ite_t hm
    refine Vk.step (Vk.store1 (b := b_9) (ty := 3) (x := (.tmp 105)) (y := (.tmp 103)) (off := 0 + q_132.toNat * 1) (ci v_145) 6 hs (by kernel_rfl) (by kernel_rfl) (by kernel_rfl) (by kernel_rfl) (by kernel_rfl) (by kernel_rfl) rfl h_147 fun a w hs => ?_)
    refine qpk 0 [0, 1, 8, 9, 10, 11, 16] hs fun a hs => hK141 _ _ ?_
    clear hK141
    refine qsk 1 [0, 1, 8, 9, 10, 11, 16, 17] hs fun a hs => ?_
    refine wp_block ?_
    replace hs := hs.bagG (l := Tvisorref19_M.parts κ b_x0 q_130 g_135) (S' := pt b_4 (blk [ci 0, ci 0, ci 0] 28) :: pt b_9 (blk (q_131.set (0 + q_132.toNat * 1) (ci v_145)) 28) :: pt b_12 (blk p_70 166) :: pt b_13 (blk p_123 166) :: S) hs.own
    replace hs := hs.toEx (Tvisorref19_M.parts κ b_x0 q_130) g_135 0 rfl
    obtain ⟨r149, hl149, hm⟩ := bind_t hm
    have hx149 : ∀ (p_227 : Tvisorref19_M) (p_228 : Cells), r149 = (p_227, p_228) → ∀ (a : Act) (w : World), St 180 a w κ [(0, pp b_x0), (1, vi x1), (8, pp b_4), (9, pp b_9), (10, pp b_12), (11, pp b_13), (16, vi q_132)] (Tvisorref19_M.own κ b_x0 p_227 :: pt b_4 (blk [ci 0, ci 0, ci 0] 28) :: pt b_9 (blk p_228 28) :: pt b_12 (blk p_70 166) :: pt b_13 (blk p_123 166) :: S) → K140 a w := by
     intro p_227 p_228 he a w hs
     subst r149
     refine hK140 _ _ ?_
     clear hK140
     refine Vk.region ?_
     refine qpe 3 [(0, pp b_x0), (1, vi x1), (8, pp b_4), (9, pp b_9), (10, pp b_12), (11, pp b_13), (16, vi (IntKind.i64.wrap (q_132 + 1)))] hs fun a hs => ?_
     refine ih (p_227, p_228, (IntKind.i64.wrap (q_132 + 1))) _ _ ⟨hm, hs.go [0, 1, 8, 9, 10, 11, 16] [0, 1, 2, 3, 4] 5 (by kernel_rfl) (by kernel_rfl) (by kernel_rfl)⟩
    refine Vk.loopBy (fun k (s : Tvisorref19_M × Cells × Int) a w => visorref22_By.l6 x1 p_70 p_123 q_132 k s.1 s.2.1 s.2.2 = some r149 ∧ St 180 a w κ [(0, pp b_x0), (1, vi x1), (8, pp b_4), (9, pp b_9), (10, pp b_12), (11, pp b_13), (16, vi q_132), (17, vi s.2.2)] (Tvisorref19_M.own κ b_x0 s.1 :: pt b_4 (blk [ci 0, ci 0, ci 0] 28) :: pt b_9 (blk s.2.1 28) :: pt b_12 (blk p_70 166) :: pt b_13 (blk p_123 166) :: S)) k (q_130, (q_131.set (0 + q_132.toNat * 1) (ci v_145)), 0) ⟨hl149, hs.go [0, 1, 8, 9, 10, 11, 16, 17] [0, 1, 2, 3, 4] 5 (by kernel_rfl) (by kernel_rfl) (by kernel_rfl)⟩ (fun s a w h => by obtain ⟨h1, _⟩ := h; simp [visorref22_By.l6] at h1) (fun k KL149 ih s a w h => ?_)
    obtain ⟨q_150, q_151, q_152⟩ := s
    obtain ⟨hm, hs⟩ := h
    try dsimp only at hm hs
    rw [visorref22_By.l6] at hm
    refine Vk.seq fun K153 hK153 => ?_
    refine qsr fun K154 hK154 => ?_
    refine qpu 4 hs fun a hs => ?_
    obtain ⟨g_155, hs⟩ := hs.unbag 0 rfl
    refine qld 0 (ci q_150.n) hs rfl fun a hs => ?_
    refine qpk 1 [0, 1, 8, 9, 10, 11, 16, 17, 111] hs fun a hs => hK154 _ _ ?_
    clear hK154
    refine qcs (decide (q_152 < q_150.n)) hs (fun hb => ?_) fun hb => ?_
    ·replace hm := bif_t hm hb
     refine wp_skip ?_
     refine hK153 _ _ ?_
     clear hK153
     refine Vk.seq fun K160 hK160 => ?_
     have hj160 : ∀ (p_225 : Tvisorref19_M) (p_226 : Cells), visorref22_By.j2 k (visorref22_By.l6 x1 p_70 p_123 q_132 k) q_152 p_225 p_226 = some r149 → ∀ (a : Act) (w : World), St 180 a w κ [(0, pp b_x0), (1, vi x1), (8, pp b_4), (9, pp b_9), (10, pp b_12), (11, pp b_13), (16, vi q_132), (17, vi q_152)] (Tvisorref19_M.own κ b_x0 p_225 :: pt b_4 (blk [ci 0, ci 0, ci 0] 28) :: pt b_9 (blk p_226 28) :: pt b_12 (blk p_70 166) :: pt b_13 (blk p_123 166) :: S) → K160 a w := by
      intro p_225 p_226 hm a w hs
      unfold visorref22_By.j2 at hm
      refine hK160 _ _ ?_
      refine Vk.region ?_
      refine qpk 3 [0, 1, 8, 9, 10, 11, 16, 17] hs fun a hs => ?_
      refine ih (p_225, p_226, (IntKind.i64.wrap (q_152 + 1))) _ _ ⟨hm, hs.go [0, 1, 8, 9, 10, 11, 16, 17] [0, 1, 2, 3, 4] 5 (by kernel_rfl) (by kernel_rfl) (by kernel_rfl)⟩
     refine wp_block ?_
     refine Vk.seq fun K161 hK161 => ?_
     refine qse 3 [(0, pp b_x0), (1, vi x1), (8, pp b_4), (9, pp b_9), (10, pp b_12), (11, pp b_13), (16, vi q_132), (17, vi q_152), (116, .bool (q_152 == q_132))] hs fun a hs => ?_
     refine qcs (q_152 == q_132) hs (fun hb => ?_) fun hb => ?_
     ·replace hm := bif_t hm hb
      refine wp_exit ?_
      replace hs := hs.bagG (l := Tvisorref19_M.parts κ b_x0 q_150 g_155) (S' := pt b_4 (blk [ci 0, ci 0, ci 0] 28) :: pt b_9 (blk q_151 28) :: pt b_12 (blk p_70 166) :: pt b_13 (blk p_123 166) :: S) hs.own
      replace hs := hs.toEx (Tvisorref19_M.parts κ b_x0 q_150) g_155 0 rfl
      exact hj160 q_150 q_151 hm _ _ (hs.go [0, 1, 8, 9, 10, 11, 16, 17] [0, 1, 2, 3, 4] 5 (by kernel_rfl) (by kernel_rfl) (by kernel_rfl))
     ·replace hm := bif_f hm hb
      refine wp_skip ?_
      refine hK161 _ _ ?_
      clear hK161
      refine qsr fun K163 hK163 => ?_
      refine qpu 2 hs fun a hs => ?_
      obtain ⟨h_164, hm⟩ := ite_t hm
      refine Vk.step (Vk.value (some 119) (.pointer (some ⟨b_12, 0 + q_132.toNat * 3, none⟩)) hs (by kernel_rfl) (op := (.indexAddr 166 (.tmp 10) (.tmp 117))) (by kernel_rfl) (fun o ho => run_idxArr (k := .i64) ho (by kernel_rfl) (by kernel_rfl) (by kernel_rfl) h_164 _) fun a hs => ?_)
      obtain ⟨h_165, hm⟩ := ite_t hm
      refine Vk.step (Vk.value (some 120) (.pointer (some ⟨b_12, 0 + q_132.toNat * 3 + q_152.toNat * 1, none⟩)) hs (by kernel_rfl) (op := (.indexAddr 26 (.tmp 119) (.tmp 118))) (by kernel_rfl) (fun o ho => run_idxArr (k := .i64) ho (by kernel_rfl) (by kernel_rfl) (by kernel_rfl) h_165 _) fun a hs => ?_)
      obtain ⟨v_167, h_166, hm⟩ := bind_t hm
      refine Vk.step (Vk.value (some 121) (vi v_167) hs (by kernel_rfl) (op := (.load 3 (.tmp 120))) (by kernel_rfl) (fun o ho => run_load1 (c := ci v_167) ho (by kernel_rfl) (by kernel_rfl) (Cell.own 7 rfl (getI_some h_166)) _ hs.own) fun a hs => ?_)
      refine qpk 1 [0, 1, 8, 9, 10, 11, 16, 17, 18] hs fun a hs => hK163 _ _ ?_
      clear hK163
      refine Vk.seq fun K168 hK168 => ?_
      have hj168 : ∀ (p_212 : Tvisorref19_M) (p_213 : Int), visorref22_By.j1 k (visorref22_By.l6 x1 p_70 p_123 q_132 k) q_132 q_151 q_152 p_212 p_213 = some r149 → ∀ (a : Act) (w : World), St 180 a w κ [(0, pp b_x0), (1, vi x1), (8, pp b_4), (9, pp b_9), (10, pp b_12), (11, pp b_13), (16, vi q_132), (17, vi q_152), (18, vi p_213)] (Tvisorref19_M.own κ b_x0 p_212 :: pt b_4 (blk [ci 0, ci 0, ci 0] 28) :: pt b_9 (blk q_151 28) :: pt b_12 (blk p_70 166) :: pt b_13 (blk p_123 166) :: S) → K168 a w := by
       intro p_212 p_213 hm a w hs
       unfold visorref22_By.j1 at hm
       refine hK168 _ _ ?_
       refine Vk.region ?_
       refine qpu 5 hs fun a hs => ?_
       obtain ⟨h_214, hm⟩ := ite_t hm
       refine Vk.step (Vk.value (some 170) (.pointer (some ⟨b_9, 0 + q_132.toNat * 1, none⟩)) hs (by kernel_rfl) (op := (.indexAddr 26 (.tmp 169) (.tmp 168))) (by kernel_rfl) (fun o ho => run_idxArr (k := .i64) ho (by kernel_rfl) (by kernel_rfl) (by kernel_rfl) h_214 _) fun a hs => ?_)
       obtain ⟨v_216, h_215, hm⟩ := bind_t hm
       refine Vk.step (Vk.value (some 171) (vi v_216) hs (by kernel_rfl) (op := (.load 3 (.tmp 170))) (by kernel_rfl) (fun o ho => run_load1 (c := ci v_216) ho (by kernel_rfl) (by kernel_rfl) (Cell.own 2 rfl (getI_some h_215)) _ hs.own) fun a hs => ?_)
       refine qpu 1 hs fun a hs => ?_
       obtain ⟨v_219, h_218, hm⟩ := bind_t hm
       refine qcl (visorref19_Op.ok _ _ _ _ _ _ _ h_218 _ _ (Tvisorref19_M.own κ b_x0 p_212 :: pt b_4 (blk [ci 0, ci 0, ci 0] 28) :: pt b_9 (blk q_151 28) :: pt b_12 (blk p_70 166) :: pt b_13 (blk p_123 166) :: S) hs.own) hs fun w a hs => ?_
       obtain ⟨v_222, h_221, hm⟩ := bind_t hm
       refine qcl (visorref19_M_Do.ok _ _ _ _ _ h_221 _ _ _ b_x0 hs.own) hs fun w a hs => ?_
       refine qpu 1 hs fun a hs => ?_
       obtain ⟨h_223, hm⟩ := ite_t hm
       refine Vk.step (Vk.value (some 176) (.pointer (some ⟨b_9, 0 + q_132.toNat * 1, none⟩)) hs (by kernel_rfl) (op := (.indexAddr 26 (.tmp 175) (.tmp 165))) (by kernel_rfl) (fun o ho => run_idxArr (k := .i64) ho (by kernel_rfl) (by kernel_rfl) (by kernel_rfl) h_223 _) fun a hs => ?_)
       obtain ⟨h_224, hm⟩ := ite_t hm
       refine Vk.step (Vk.store1 (b := b_9) (ty := 3) (x := (.tmp 176)) (y := (.tmp 174)) (off := 0 + q_132.toNat * 1) (ci v_222.1) 2 hs (by kernel_rfl) (by kernel_rfl) (by kernel_rfl) (by kernel_rfl) (by kernel_rfl) (by kernel_rfl) rfl h_224 fun a w hs => ?_)
       refine qpe 0 [(0, pp b_x0), (1, vi x1), (8, pp b_4), (9, pp b_9), (10, pp b_12), (11, pp b_13), (16, vi q_132), (17, vi q_152)] hs fun a hs => ?_
       exact hj160 v_222.2 (q_151.set (0 + q_132.toNat * 1) (ci v_222.1)) hm _ _ (hs.go [0, 1, 8, 9, 10, 11, 16, 17] [0, 1, 2, 3, 4] 5 (by kernel_rfl) (by kernel_rfl) (by kernel_rfl))
      refine qse 2 [(0, pp b_x0), (1, vi x1), (8, pp b_4), (9, pp b_9), (10, pp b_12), (11, pp b_13), (16, vi q_132), (17, vi q_152), (18, vi v_167), (123, .bool (x1 == 2))] hs fun a hs => ?_
      refine qcs (x1 == 2) hs (fun hb => ?_) fun hb => ?_
      ·replace hm := bif_t hm hb
       obtain ⟨C_170, hC_170⟩ := qC hs.own
       refine qdr 13 κ C_170 hs fun w hs hqC_170 => ?_
       have hcl := qO hC_170 hs.own
       refine qdp (fuel := 9) [0, 1, 2, 3, 7, 8] hs hcl hqC_170 fun a hs => ?_
       obtain ⟨h_171, hm⟩ := ite_t hm
       refine Vk.dTakeT (i := 4) (some 128) (.pointer (some ⟨b_13, 0 + q_132.toNat * 3, none⟩)) hs (by kernel_rfl) hqC_170 hcl (by kernel_rfl) (by kernel_rfl) (op := (.indexAddr 166 (.tmp 11) (.tmp 126))) (by kernel_rfl) (by kernel_rfl) (fun w hw o ho => by rw [hC_170] at hw; exact run_idxArr (k := .i64) ho (by kernel_rfl) (by kernel_rfl) (by kernel_rfl) h_171 _) fun a hs => ?_
       obtain ⟨h_172, hm⟩ := ite_t hm
       refine Vk.dTakeT (i := 5) (some 129) (.pointer (some ⟨b_13, 0 + q_132.toNat * 3 + q_152.toNat * 1, none⟩)) hs (by kernel_rfl) hqC_170 hcl (by kernel_rfl) (by kernel_rfl) (op := (.indexAddr 26 (.tmp 128) (.tmp 127))) (by kernel_rfl) (by kernel_rfl) (fun w hw o ho => by rw [hC_170] at hw; exact run_idxArr (k := .i64) ho (by kernel_rfl) (by kernel_rfl) (by kernel_rfl) h_172 _) fun a hs => ?_
       obtain ⟨v_174, h_173, hm⟩ := bind_t hm
       refine Vk.dTakeT (i := 6) (some 130) (vi v_174) hs (by kernel_rfl) hqC_170 hcl (by kernel_rfl) (by kernel_rfl) (op := (.load 3 (.tmp 129))) (by kernel_rfl) (by kernel_rfl) (fun w hw o ho => by rw [hC_170] at hw; exact run_load1 (c := ci v_174) ho (by kernel_rfl) (by kernel_rfl) (Cell.own 8 rfl (getI_some h_173)) _ hw) fun a hs => ?_
       obtain ⟨h_175, hm⟩ := ite_t hm
       refine Vk.dTakeT (i := 9) (some 133) (.pointer (some ⟨b_12, 0 + q_132.toNat * 3, none⟩)) hs (by kernel_rfl) hqC_170 hcl (by kernel_rfl) (by kernel_rfl) (op := (.indexAddr 166 (.tmp 10) (.tmp 131))) (by kernel_rfl) (by kernel_rfl) (fun w hw o ho => by rw [hC_170] at hw; exact run_idxArr (k := .i64) ho (by kernel_rfl) (by kernel_rfl) (by kernel_rfl) h_175 _) fun a hs => ?_
       obtain ⟨h_176, hm⟩ := ite_t hm
       refine Vk.dTakeT (i := 10) (some 134) (.pointer (some ⟨b_12, 0 + q_132.toNat * 3 + q_152.toNat * 1, none⟩)) hs (by kernel_rfl) hqC_170 hcl (by kernel_rfl) (by kernel_rfl) (op := (.indexAddr 26 (.tmp 133) (.tmp 132))) (by kernel_rfl) (by kernel_rfl) (fun w hw o ho => by rw [hC_170] at hw; exact run_idxArr (k := .i64) ho (by kernel_rfl) (by kernel_rfl) (by kernel_rfl) h_176 _) fun a hs => ?_
       obtain ⟨v_178, h_177, hm⟩ := bind_t hm
       refine Vk.dTakeT (i := 11) (some 135) (vi v_178) hs (by kernel_rfl) hqC_170 hcl (by kernel_rfl) (by kernel_rfl) (op := (.load 3 (.tmp 134))) (by kernel_rfl) (by kernel_rfl) (fun w hw o ho => by rw [hC_170] at hw; exact run_load1 (c := ci v_178) ho (by kernel_rfl) (by kernel_rfl) (Cell.own 7 rfl (getI_some h_177)) _ hw) fun a hs => ?_
       obtain ⟨v_181, h_180, hm⟩ := bind_t hm
       refine qdc 12 (visorref19_Op.ok _ _ _ _ _ _ _ h_180 _ _ (pt b_x0 (blk (Tvisorref19_M.obj q_150 g_155.1 g_155.2.1 g_155.2.2.1 g_155.2.2.2.1 g_155.2.2.2.2.1 g_155.2.2.2.2.2.1 g_155.2.2.2.2.2.2.1 g_155.2.2.2.2.2.2.2) 64) :: rowp g_155.1 g_155.2.1 93 6 Tapi_Op.cells q_150.ops :: rowp g_155.2.2.1 g_155.2.2.2.1 175 3 Tapi_Span.cells q_150.blocks :: rowp g_155.2.2.2.2.1 g_155.2.2.2.2.2.1 32 1 (eI .u64) q_150.val :: rdp κ g_155.2.2.2.2.2.2.1 g_155.2.2.2.2.2.2.2 1 (eI .u64) q_150.tape.l :: pt b_4 (blk [ci 0, ci 0, ci 0] 28) :: pt b_9 (blk q_151 28) :: pt b_12 (blk p_70 166) :: pt b_13 (blk p_123 166) :: S) hs.own) hs fun w a hs => ?_
       replace hcl := qO hC_170 hs.own
       refine ⟨fun _ => hcl, ?_⟩
       replace hs := hs.bagG (l := Tvisorref19_M.parts κ b_x0 q_150 g_155) (S' := pt b_4 (blk [ci 0, ci 0, ci 0] 28) :: pt b_9 (blk q_151 28) :: pt b_12 (blk p_70 166) :: pt b_13 (blk p_123 166) :: S) hs.own
       replace hs := hs.toEx (Tvisorref19_M.parts κ b_x0 q_150) g_155 0 rfl
       obtain ⟨v_184, h_183, hm⟩ := bind_t hm
       refine qdc 13 (visorref19_M_Do.ok _ _ _ _ _ h_183 _ _ _ b_x0 hs.own) hs fun w a hs => ?_
       refine ⟨fun h => absurd h (by decide), ?_⟩
       refine Vk.dOnly (i := 14) (by kernel_rfl) (Vk.dPure1 [(18, vi v_184.1)] hs (by kernel_rfl) fun a hs => ?_)
       refine ⟨fun h => absurd h (by decide), ?_⟩
       replace hs := hs.pick [0, 1, 8, 9, 10, 11, 16, 17, 18] (L' := [(0, pp b_x0), (1, vi x1), (8, pp b_4), (9, pp b_9), (10, pp b_12), (11, pp b_13), (16, vi q_132), (17, vi q_152), (18, vi v_184.1)]) (by kernel_rfl)
       refine Vk.dDone (by kernel_rfl) ?_
       exact hj168 v_184.2 v_184.1 hm _ _ (hs.go [0, 1, 8, 9, 10, 11, 16, 17, 18] [0, 1, 2, 3, 4] 5 (by kernel_rfl) (by kernel_rfl) (by kernel_rfl))
      ·replace hm := bif_f hm hb
       refine qsk 3 [0, 1, 8, 9, 10, 11, 16, 17, 18, 140] hs fun a hs => ?_
       refine qcs (decide (q_152 < q_132)) hs (fun hb => ?_) fun hb => ?_
       ·replace hm := bif_t hm hb
        refine Vk.seq fun K186 hK186 => ?_
        obtain ⟨C_187, hC_187⟩ := qC hs.own
        refine qdr 13 κ C_187 hs fun w hs hqC_187 => ?_
        have hcl := qO hC_187 hs.own
        refine qdp (fuel := 9) [0, 1, 2, 3, 7, 8] hs hcl hqC_187 fun a hs => ?_
        obtain ⟨h_188, hm⟩ := ite_t hm
        refine Vk.dTakeT (i := 4) (some 145) (.pointer (some ⟨b_12, 0 + q_152.toNat * 3, none⟩)) hs (by kernel_rfl) hqC_187 hcl (by kernel_rfl) (by kernel_rfl) (op := (.indexAddr 166 (.tmp 10) (.tmp 143))) (by kernel_rfl) (by kernel_rfl) (fun w hw o ho => by rw [hC_187] at hw; exact run_idxArr (k := .i64) ho (by kernel_rfl) (by kernel_rfl) (by kernel_rfl) h_188 _) fun a hs => ?_
        obtain ⟨h_189, hm⟩ := ite_t hm
        refine Vk.dTakeT (i := 5) (some 146) (.pointer (some ⟨b_12, 0 + q_152.toNat * 3 + q_132.toNat * 1, none⟩)) hs (by kernel_rfl) hqC_187 hcl (by kernel_rfl) (by kernel_rfl) (op := (.indexAddr 26 (.tmp 145) (.tmp 144))) (by kernel_rfl) (by kernel_rfl) (fun w hw o ho => by rw [hC_187] at hw; exact run_idxArr (k := .i64) ho (by kernel_rfl) (by kernel_rfl) (by kernel_rfl) h_189 _) fun a hs => ?_
        obtain ⟨v_191, h_190, hm⟩ := bind_t hm
        refine Vk.dTakeT (i := 6) (some 147) (vi v_191) hs (by kernel_rfl) hqC_187 hcl (by kernel_rfl) (by kernel_rfl) (op := (.load 3 (.tmp 146))) (by kernel_rfl) (by kernel_rfl) (fun w hw o ho => by rw [hC_187] at hw; exact run_load1 (c := ci v_191) ho (by kernel_rfl) (by kernel_rfl) (Cell.own 7 rfl (getI_some h_190)) _ hw) fun a hs => ?_
        obtain ⟨h_192, hm⟩ := ite_t hm
        refine Vk.dTakeT (i := 9) (some 150) (.pointer (some ⟨b_13, 0 + q_152.toNat * 3, none⟩)) hs (by kernel_rfl) hqC_187 hcl (by kernel_rfl) (by kernel_rfl) (op := (.indexAddr 166 (.tmp 11) (.tmp 148))) (by kernel_rfl) (by kernel_rfl) (fun w hw o ho => by rw [hC_187] at hw; exact run_idxArr (k := .i64) ho (by kernel_rfl) (by kernel_rfl) (by kernel_rfl) h_192 _) fun a hs => ?_
        obtain ⟨h_193, hm⟩ := ite_t hm
        refine Vk.dTakeT (i := 10) (some 151) (.pointer (some ⟨b_13, 0 + q_152.toNat * 3 + q_132.toNat * 1, none⟩)) hs (by kernel_rfl) hqC_187 hcl (by kernel_rfl) (by kernel_rfl) (op := (.indexAddr 26 (.tmp 150) (.tmp 149))) (by kernel_rfl) (by kernel_rfl) (fun w hw o ho => by rw [hC_187] at hw; exact run_idxArr (k := .i64) ho (by kernel_rfl) (by kernel_rfl) (by kernel_rfl) h_193 _) fun a hs => ?_
        obtain ⟨v_195, h_194, hm⟩ := bind_t hm
        refine Vk.dTakeT (i := 11) (some 152) (vi v_195) hs (by kernel_rfl) hqC_187 hcl (by kernel_rfl) (by kernel_rfl) (op := (.load 3 (.tmp 151))) (by kernel_rfl) (by kernel_rfl) (fun w hw o ho => by rw [hC_187] at hw; exact run_load1 (c := ci v_195) ho (by kernel_rfl) (by kernel_rfl) (Cell.own 8 rfl (getI_some h_194)) _ hw) fun a hs => ?_
        obtain ⟨v_198, h_197, hm⟩ := bind_t hm
        refine qdc 12 (visorref19_Op.ok _ _ _ _ _ _ _ h_197 _ _ (pt b_x0 (blk (Tvisorref19_M.obj q_150 g_155.1 g_155.2.1 g_155.2.2.1 g_155.2.2.2.1 g_155.2.2.2.2.1 g_155.2.2.2.2.2.1 g_155.2.2.2.2.2.2.1 g_155.2.2.2.2.2.2.2) 64) :: rowp g_155.1 g_155.2.1 93 6 Tapi_Op.cells q_150.ops :: rowp g_155.2.2.1 g_155.2.2.2.1 175 3 Tapi_Span.cells q_150.blocks :: rowp g_155.2.2.2.2.1 g_155.2.2.2.2.2.1 32 1 (eI .u64) q_150.val :: rdp κ g_155.2.2.2.2.2.2.1 g_155.2.2.2.2.2.2.2 1 (eI .u64) q_150.tape.l :: pt b_4 (blk [ci 0, ci 0, ci 0] 28) :: pt b_9 (blk q_151 28) :: pt b_12 (blk p_70 166) :: pt b_13 (blk p_123 166) :: S) hs.own) hs fun w a hs => ?_
        replace hcl := qO hC_187 hs.own
        refine ⟨fun _ => hcl, ?_⟩
        replace hs := hs.bagG (l := Tvisorref19_M.parts κ b_x0 q_150 g_155) (S' := pt b_4 (blk [ci 0, ci 0, ci 0] 28) :: pt b_9 (blk q_151 28) :: pt b_12 (blk p_70 166) :: pt b_13 (blk p_123 166) :: S) hs.own
        replace hs := hs.toEx (Tvisorref19_M.parts κ b_x0 q_150) g_155 0 rfl
        obtain ⟨v_201, h_200, hm⟩ := bind_t hm
        refine qdc 13 (visorref19_M_Do.ok _ _ _ _ _ h_200 _ _ _ b_x0 hs.own) hs fun w a hs => ?_
        refine ⟨fun h => absurd h (by decide), ?_⟩
        refine Vk.dOnly (i := 14) (by kernel_rfl) (Vk.dPure1 [(18, vi v_201.1)] hs (by kernel_rfl) fun a hs => ?_)
        refine ⟨fun h => absurd h (by decide), ?_⟩
        replace hs := hs.pick [0, 1, 8, 9, 10, 11, 16, 17, 18] (L' := [(0, pp b_x0), (1, vi x1), (8, pp b_4), (9, pp b_9), (10, pp b_12), (11, pp b_13), (16, vi q_132), (17, vi q_152), (18, vi v_201.1)]) (by kernel_rfl)
        refine Vk.dDone (by kernel_rfl) ?_
        refine hK186 _ _ ?_
        clear hK186
        refine Vk.region ?_
        refine qpu 5 hs fun a hs => ?_
        obtain ⟨h_202, hm⟩ := ite_t hm
        refine Vk.step (Vk.value (some 160) (.pointer (some ⟨b_13, 0 + q_132.toNat * 3, none⟩)) hs (by kernel_rfl) (op := (.indexAddr 166 (.tmp 11) (.tmp 158))) (by kernel_rfl) (fun o ho => run_idxArr (k := .i64) ho (by kernel_rfl) (by kernel_rfl) (by kernel_rfl) h_202 _) fun a hs => ?_)
        obtain ⟨h_203, hm⟩ := ite_t hm
        refine Vk.step (Vk.value (some 161) (.pointer (some ⟨b_13, 0 + q_132.toNat * 3 + q_152.toNat * 1, none⟩)) hs (by kernel_rfl) (op := (.indexAddr 26 (.tmp 160) (.tmp 159))) (by kernel_rfl) (fun o ho => run_idxArr (k := .i64) ho (by kernel_rfl) (by kernel_rfl) (by kernel_rfl) h_203 _) fun a hs => ?_)
        obtain ⟨v_205, h_204, hm⟩ := bind_t hm
        refine Vk.step (Vk.value (some 162) (vi v_205) hs (by kernel_rfl) (op := (.load 3 (.tmp 161))) (by kernel_rfl) (fun o ho => run_load1 (c := ci v_205) ho (by kernel_rfl) (by kernel_rfl) (Cell.own 4 rfl (getI_some h_204)) _ hs.own) fun a hs => ?_)
        obtain ⟨v_208, h_207, hm⟩ := bind_t hm
        refine qcl (visorref19_Op.ok _ _ _ _ _ _ _ h_207 _ _ (Tvisorref19_M.own κ b_x0 v_201.2 :: pt b_4 (blk [ci 0, ci 0, ci 0] 28) :: pt b_9 (blk q_151 28) :: pt b_12 (blk p_70 166) :: pt b_13 (blk p_123 166) :: S) hs.own) hs fun w a hs => ?_
        obtain ⟨v_211, h_210, hm⟩ := bind_t hm
        refine qcl (visorref19_M_Do.ok _ _ _ _ _ h_210 _ _ _ b_x0 hs.own) hs fun w a hs => ?_
        refine qpe 1 [(0, pp b_x0), (1, vi x1), (8, pp b_4), (9, pp b_9), (10, pp b_12), (11, pp b_13), (16, vi q_132), (17, vi q_152), (18, vi v_211.1)] hs fun a hs => ?_
        exact hj168 v_211.2 v_211.1 hm _ _ (hs.go [0, 1, 8, 9, 10, 11, 16, 17, 18] [0, 1, 2, 3, 4] 5 (by kernel_rfl) (by kernel_rfl) (by kernel_rfl))
       ·replace hm := bif_f hm hb
        refine wp_skip ?_
        replace hs := hs.bagG (l := Tvisorref19_M.parts κ b_x0 q_150 g_155) (S' := pt b_4 (blk [ci 0, ci 0, ci 0] 28) :: pt b_9 (blk q_151 28) :: pt b_12 (blk p_70 166) :: pt b_13 (blk p_123 166) :: S) hs.own
        replace hs := hs.toEx (Tvisorref19_M.parts κ b_x0 q_150) g_155 0 rfl
        exact hj168 q_150 v_167 hm _ _ (hs.go [0, 1, 8, 9, 10, 11, 16, 17, 18] [0, 1, 2, 3, 4] 5 (by kernel_rfl) (by kernel_rfl) (by kernel_rfl))
    ·replace hm := bif_f hm hb
     refine wp_exit ?_
     replace hs := hs.bagG (l := Tvisorref19_M.parts κ b_x0 q_150 g_155) (S' := pt b_4 (blk [ci 0, ci 0, ci 0] 28) :: pt b_9 (blk q_151 28) :: pt b_12 (blk p_70 166) :: pt b_13 (blk p_123 166) :: S) hs.own
     replace hs := hs.toEx (Tvisorref19_M.parts κ b_x0 q_150) g_155 0 rfl
     exact hx149 q_150 q_151 (Option.some.inj hm).symm _ _ (hs.go [0, 1, 8, 9, 10, 11, 16] [0, 1, 2, 3, 4] 5 (by kernel_rfl) (by kernel_rfl) (by kernel_rfl))
   ·replace hm := bif_f hm hb
    refine wp_exit ?_
    replace hs := hs.bagG (l := Tvisorref19_M.parts κ b_x0 q_130 g_135) (S' := pt b_4 (blk [ci 0, ci 0, ci 0] 28) :: pt b_9 (blk q_131 28) :: pt b_12 (blk p_70 166) :: pt b_13 (blk p_123 166) :: S) hs.own
    replace hs := hs.toEx (Tvisorref19_M.parts κ b_x0 q_130) g_135 0 rfl
    exact hx129 q_130 q_131 (Option.some.inj hm).symm _ _ (hs.go [0, 8, 9] [0, 1, 2] 5 (by kernel_rfl) (by kernel_rfl) (by kernel_rfl))
  refine Vk.loopBy (fun k (s : Tvisorref19_M × Cells × Int) a w => visorref22_By.l3 x2 x3 k s.1 s.2.1 s.2.2 = some r76 ∧ St 180 a w κ [(0, pp b_x0), (1, vi x1), (6, pp b_2), (7, pp b_3), (8, pp b_4), (9, pp b_9), (10, pp b_12), (11, pp b_13), (14, vi s.2.2)] (Tvisorref19_M.own κ b_x0 s.1 :: pt b_2 (blk x2 28) :: pt b_3 (blk x3 28) :: pt b_4 (blk [ci 0, ci 0, ci 0] 28) :: pt b_9 (blk v_8 28) :: pt b_12 (blk p_70 166) :: pt b_13 (blk s.2.1 166) :: S)) k (p_69, [ci 0, ci 0, ci 0, ci 0, ci 0, ci 0, ci 0, ci 0, ci 0], 0) ⟨hl76, hs.go [0, 1, 6, 7, 8, 9, 10, 11, 14] [0, 1, 2, 3, 4, 5, 6] 7 (by kernel_rfl) (by kernel_rfl) (by kernel_rfl)⟩ (fun s a w h => by obtain ⟨h1, _⟩ := h; simp [visorref22_By.l3] at h1) (fun k KL76 ih s a w h => ?_)
  obtain ⟨q_77, q_78, q_79⟩ := s
  obtain ⟨hm, hs⟩ := h
  try dsimp only at hm hs
  rw [visorref22_By.l3] at hm
  refine Vk.seq fun K80 hK80 => ?_
  refine qsr fun K81 hK81 => ?_
  refine qpu 4 hs fun a hs => ?_
  obtain ⟨g_82, hs⟩ := hs.unbag 0 rfl
  refine qld 0 (ci q_77.n) hs rfl fun a hs => ?_
  refine qpk 1 [0, 1, 6, 7, 8, 9, 10, 11, 14, 63] hs fun a hs => hK81 _ _ ?_
  clear hK81
  refine qcs (decide (q_79 < q_77.n)) hs (fun hb => ?_) fun hb => ?_
  ·replace hm := bif_t hm hb
   refine wp_skip ?_
   refine hK80 _ _ ?_
   clear hK80
   refine Vk.seq fun K87 hK87 => ?_
   refine wp_block ?_
   refine qsk 1 [0, 1, 6, 7, 8, 9, 10, 11, 14, 15] hs fun a hs => ?_
   refine wp_block ?_
   replace hs := hs.bagG (l := Tvisorref19_M.parts κ b_x0 q_77 g_82) (S' := pt b_2 (blk x2 28) :: pt b_3 (blk x3 28) :: pt b_4 (blk [ci 0, ci 0, ci 0] 28) :: pt b_9 (blk v_8 28) :: pt b_12 (blk p_70 166) :: pt b_13 (blk q_78 166) :: S) hs.own
   replace hs := hs.toEx (Tvisorref19_M.parts κ b_x0 q_77) g_82 0 rfl
   obtain ⟨r89, hl89, hm⟩ := bind_t hm
   have hx89 : ∀ (p_117 : Tvisorref19_M) (p_118 : Cells), r89 = (p_117, p_118) → ∀ (a : Act) (w : World), St 180 a w κ [(0, pp b_x0), (1, vi x1), (6, pp b_2), (7, pp b_3), (8, pp b_4), (9, pp b_9), (10, pp b_12), (11, pp b_13), (14, vi q_79)] (Tvisorref19_M.own κ b_x0 p_117 :: pt b_2 (blk x2 28) :: pt b_3 (blk x3 28) :: pt b_4 (blk [ci 0, ci 0, ci 0] 28) :: pt b_9 (blk v_8 28) :: pt b_12 (blk p_70 166) :: pt b_13 (blk p_118 166) :: S) → K87 a w := by
    intro p_117 p_118 he a w hs
    subst r89
    refine hK87 _ _ ?_
    clear hK87
    refine Vk.region ?_
    refine qpe 3 [(0, pp b_x0), (1, vi x1), (6, pp b_2), (7, pp b_3), (8, pp b_4), (9, pp b_9), (10, pp b_12), (11, pp b_13), (14, vi (IntKind.i64.wrap (q_79 + 1)))] hs fun a hs => ?_
    refine ih (p_117, p_118, (IntKind.i64.wrap (q_79 + 1))) _ _ ⟨hm, hs.go [0, 1, 6, 7, 8, 9, 10, 11, 14] [0, 1, 2, 3, 4, 5, 6] 7 (by kernel_rfl) (by kernel_rfl) (by kernel_rfl)⟩
   refine Vk.loopBy (fun k (s : Tvisorref19_M × Cells × Int) a w => visorref22_By.l4 x2 x3 q_79 k s.1 s.2.1 s.2.2 = some r89 ∧ St 180 a w κ [(0, pp b_x0), (1, vi x1), (6, pp b_2), (7, pp b_3), (8, pp b_4), (9, pp b_9), (10, pp b_12), (11, pp b_13), (14, vi q_79), (15, vi s.2.2)] (Tvisorref19_M.own κ b_x0 s.1 :: pt b_2 (blk x2 28) :: pt b_3 (blk x3 28) :: pt b_4 (blk [ci 0, ci 0, ci 0] 28) :: pt b_9 (blk v_8 28) :: pt b_12 (blk p_70 166) :: pt b_13 (blk s.2.1 166) :: S)) k (q_77, q_78, 0) ⟨hl89, hs.go [0, 1, 6, 7, 8, 9, 10, 11, 14, 15] [0, 1, 2, 3, 4, 5, 6] 7 (by kernel_rfl) (by kernel_rfl) (by kernel_rfl)⟩ (fun s a w h => by obtain ⟨h1, _⟩ := h; simp [visorref22_By.l4] at h1) (fun k KL89 ih s a w h => ?_)
   obtain ⟨q_90, q_91, q_92⟩ := s
   obtain ⟨hm, hs⟩ := h
   try dsimp only at hm hs
   rw [visorref22_By.l4] at hm
   refine Vk.seq fun K93 hK93 => ?_
   refine qsr fun K94 hK94 => ?_
   refine qpu 4 hs fun a hs => ?_
   obtain ⟨g_95, hs⟩ := hs.unbag 0 rfl
   refine qld 0 (ci q_90.n) hs rfl fun a hs => ?_
   refine qpk 1 [0, 1, 6, 7, 8, 9, 10, 11, 14, 15, 71] hs fun a hs => hK94 _ _ ?_
   clear hK94
   refine qcs (decide (q_92 < q_90.n)) hs (fun hb => ?_) fun hb => ?_
   ·replace hm := bif_t hm hb
    refine wp_skip ?_
    refine hK93 _ _ ?_
    clear hK93
    refine Vk.seq fun K100 hK100 => ?_
    refine wp_block ?_
    obtain ⟨C_101, hC_101⟩ : ∃ X0 : List HP, X0 = (pt b_2 (blk x2 28) :: pt b_3 (blk x3 28) :: pt b_4 (blk [ci 0, ci 0, ci 0] 28) :: pt b_9 (blk v_8 28) :: pt b_12 (blk p_70 166) :: pt b_13 (blk q_91 166) :: S) := ⟨_, rfl⟩
    refine qdr 16 κ C_101 hs fun w hs hqC_101 => ?_
    have hcl : Own κ w C_101 := by rw [hC_101]; exact (hs.own.too [5, 6, 7, 8, 9, 10] 11)
    refine qdp (fuel := 9) [0, 1, 2, 3, 4, 5, 8, 9] hs hcl hqC_101 fun a hs => ?_
    obtain ⟨h_102, hm⟩ := ite_t hm
    refine Vk.dTakeT (i := 6) (some 80) (.pointer (some ⟨b_2, 0 + q_79.toNat * 1, none⟩)) hs (by kernel_rfl) hqC_101 hcl (by kernel_rfl) (by kernel_rfl) (op := (.indexAddr 26 (.tmp 79) (.tmp 78))) (by kernel_rfl) (by kernel_rfl) (fun w hw o ho => by rw [hC_101] at hw; exact run_idxArr (k := .i64) ho (by kernel_rfl) (by kernel_rfl) (by kernel_rfl) h_102 _) fun a hs => ?_
    obtain ⟨v_104, h_103, hm⟩ := bind_t hm
    refine Vk.dTakeT (i := 7) (some 81) (vi v_104) hs (by kernel_rfl) hqC_101 hcl (by kernel_rfl) (by kernel_rfl) (op := (.load 3 (.tmp 80))) (by kernel_rfl) (by kernel_rfl) (fun w hw o ho => by rw [hC_101] at hw; exact run_load1 (c := ci v_104) ho (by kernel_rfl) (by kernel_rfl) (Cell.own 0 rfl (getI_some h_103)) _ hw) fun a hs => ?_
    obtain ⟨h_105, hm⟩ := ite_t hm
    refine Vk.dTakeT (i := 10) (some 84) (.pointer (some ⟨b_3, 0 + q_92.toNat * 1, none⟩)) hs (by kernel_rfl) hqC_101 hcl (by kernel_rfl) (by kernel_rfl) (op := (.indexAddr 26 (.tmp 83) (.tmp 82))) (by kernel_rfl) (by kernel_rfl) (fun w hw o ho => by rw [hC_101] at hw; exact run_idxArr (k := .i64) ho (by kernel_rfl) (by kernel_rfl) (by kernel_rfl) h_105 _) fun a hs => ?_
    obtain ⟨v_107, h_106, hm⟩ := bind_t hm
    refine Vk.dTakeT (i := 11) (some 85) (vi v_107) hs (by kernel_rfl) hqC_101 hcl (by kernel_rfl) (by kernel_rfl) (op := (.load 3 (.tmp 84))) (by kernel_rfl) (by kernel_rfl) (fun w hw o ho => by rw [hC_101] at hw; exact run_load1 (c := ci v_107) ho (by kernel_rfl) (by kernel_rfl) (Cell.own 1 rfl (getI_some h_106)) _ hw) fun a hs => ?_
    obtain ⟨h_108, hm⟩ := ite_t hm
    refine Vk.dTakeT (i := 14) (some 88) (.pointer (some ⟨b_13, 0 + q_79.toNat * 3, none⟩)) hs (by kernel_rfl) hqC_101 hcl (by kernel_rfl) (by kernel_rfl) (op := (.indexAddr 166 (.tmp 11) (.tmp 74))) (by kernel_rfl) (by kernel_rfl) (fun w hw o ho => by rw [hC_101] at hw; exact run_idxArr (k := .i64) ho (by kernel_rfl) (by kernel_rfl) (by kernel_rfl) h_108 _) fun a hs => ?_
    obtain ⟨v_111, h_110, hm⟩ := bind_t hm
    refine qdc 12 (visorref19_Op.ok _ _ _ _ _ _ _ h_110 _ _ (pt b_x0 (blk (Tvisorref19_M.obj q_90 g_95.1 g_95.2.1 g_95.2.2.1 g_95.2.2.2.1 g_95.2.2.2.2.1 g_95.2.2.2.2.2.1 g_95.2.2.2.2.2.2.1 g_95.2.2.2.2.2.2.2) 64) :: rowp g_95.1 g_95.2.1 93 6 Tapi_Op.cells q_90.ops :: rowp g_95.2.2.1 g_95.2.2.2.1 175 3 Tapi_Span.cells q_90.blocks :: rowp g_95.2.2.2.2.1 g_95.2.2.2.2.2.1 32 1 (eI .u64) q_90.val :: rdp κ g_95.2.2.2.2.2.2.1 g_95.2.2.2.2.2.2.2 1 (eI .u64) q_90.tape.l :: pt b_2 (blk x2 28) :: pt b_3 (blk x3 28) :: pt b_4 (blk [ci 0, ci 0, ci 0] 28) :: pt b_9 (blk v_8 28) :: pt b_12 (blk p_70 166) :: pt b_13 (blk q_91 166) :: S) hs.own) hs fun w a hs => ?_
    replace hcl : Own κ w C_101 := by rw [hC_101]; exact (hs.own.too [5, 6, 7, 8, 9, 10] 11)
    refine ⟨fun _ => hcl, ?_⟩
    replace hs := hs.bagG (l := Tvisorref19_M.parts κ b_x0 q_90 g_95) (S' := pt b_2 (blk x2 28) :: pt b_3 (blk x3 28) :: pt b_4 (blk [ci 0, ci 0, ci 0] 28) :: pt b_9 (blk v_8 28) :: pt b_12 (blk p_70 166) :: pt b_13 (blk q_91 166) :: S) hs.own
    replace hs := hs.toEx (Tvisorref19_M.parts κ b_x0 q_90) g_95 0 rfl
    obtain ⟨v_114, h_113, hm⟩ := bind_t hm
    refine qdc 13 (visorref19_M_Do.ok _ _ _ _ _ h_113 _ _ _ b_x0 hs.own) hs fun w a hs => ?_
    replace hcl := qO hC_101 hs.own.drop
    refine ⟨fun _ => hcl, ?_⟩
    obtain ⟨h_115, hm⟩ := ite_t hm
    refine Vk.dTakeT (i := 15) (some 89) (.pointer (some ⟨b_13, 0 + q_79.toNat * 3 + q_92.toNat * 1, none⟩)) hs (by kernel_rfl) hqC_101 hcl (by kernel_rfl) (by kernel_rfl) (op := (.indexAddr 26 (.tmp 88) (.tmp 75))) (by kernel_rfl) (by kernel_rfl) (fun w hw o ho => by rw [hC_101] at hw; exact run_idxArr (k := .i64) ho (by kernel_rfl) (by kernel_rfl) (by kernel_rfl) h_115 _) fun a hs => ?_
    obtain ⟨h_116, hm⟩ := ite_t hm
    refine Vk.dOnly (i := 16) (by kernel_rfl) (Vk.store1 (b := b_13) (ty := 3) (x := (.tmp 89)) (y := (.tmp 87)) (off := 0 + q_79.toNat * 3 + q_92.toNat * 1) (ci v_114.1) 6 hs (by kernel_rfl) (by kernel_rfl) (by kernel_rfl) (by kernel_rfl) (by kernel_rfl) (by kernel_rfl) rfl h_116 fun a w hs => ?_)
    refine ⟨fun h => absurd h (by decide), ?_⟩
    replace hs := hs.pick [0, 1, 6, 7, 8, 9, 10, 11, 14, 15] (L' := [(0, pp b_x0), (1, vi x1), (6, pp b_2), (7, pp b_3), (8, pp b_4), (9, pp b_9), (10, pp b_12), (11, pp b_13), (14, vi q_79), (15, vi q_92)]) (by kernel_rfl)
    refine Vk.dDone (by kernel_rfl) ?_
    refine hK100 _ _ ?_
    clear hK100
    refine Vk.region ?_
    refine qpe 3 [(0, pp b_x0), (1, vi x1), (6, pp b_2), (7, pp b_3), (8, pp b_4), (9, pp b_9), (10, pp b_12), (11, pp b_13), (14, vi q_79), (15, vi (IntKind.i64.wrap (q_92 + 1)))] hs fun a hs => ?_
    refine ih (v_114.2, (q_91.set (0 + q_79.toNat * 3 + q_92.toNat * 1) (ci v_114.1)), (IntKind.i64.wrap (q_92 + 1))) _ _ ⟨hm, hs.go [0, 1, 6, 7, 8, 9, 10, 11, 14, 15] [0, 1, 2, 3, 4, 5, 6] 7 (by kernel_rfl) (by kernel_rfl) (by kernel_rfl)⟩
   ·replace hm := bif_f hm hb
    refine wp_exit ?_
    replace hs := hs.bagG (l := Tvisorref19_M.parts κ b_x0 q_90 g_95) (S' := pt b_2 (blk x2 28) :: pt b_3 (blk x3 28) :: pt b_4 (blk [ci 0, ci 0, ci 0] 28) :: pt b_9 (blk v_8 28) :: pt b_12 (blk p_70 166) :: pt b_13 (blk q_91 166) :: S) hs.own
    replace hs := hs.toEx (Tvisorref19_M.parts κ b_x0 q_90) g_95 0 rfl
    exact hx89 q_90 q_91 (Option.some.inj hm).symm _ _ (hs.go [0, 1, 6, 7, 8, 9, 10, 11, 14] [0, 1, 2, 3, 4, 5, 6] 7 (by kernel_rfl) (by kernel_rfl) (by kernel_rfl))
  ·replace hm := bif_f hm hb
   refine wp_exit ?_
   replace hs := hs.bagG (l := Tvisorref19_M.parts κ b_x0 q_77 g_82) (S' := pt b_2 (blk x2 28) :: pt b_3 (blk x3 28) :: pt b_4 (blk [ci 0, ci 0, ci 0] 28) :: pt b_9 (blk v_8 28) :: pt b_12 (blk p_70 166) :: pt b_13 (blk q_78 166) :: S) hs.own
   replace hs := hs.toEx (Tvisorref19_M.parts κ b_x0 q_77) g_82 0 rfl
   exact hx76 q_77 q_78 (Option.some.inj hm).symm _ _ (hs.go [0, 1, 8, 9, 10, 11] [0, 3, 4, 5, 6] 7 (by kernel_rfl) (by kernel_rfl) (by kernel_rfl))
 refine Vk.loopBy (fun k (s : Tvisorref19_M × Cells × Int) a w => visorref22_By.l1 k s.1 s.2.1 s.2.2 = some r20 ∧ St 180 a w κ [(0, pp b_x0), (1, vi x1), (6, pp b_2), (7, pp b_3), (8, pp b_4), (9, pp b_9), (10, pp b_12), (11, pp b_13), (12, vi s.2.2)] (Tvisorref19_M.own κ b_x0 s.1 :: pt b_2 (blk x2 28) :: pt b_3 (blk x3 28) :: pt b_4 (blk [ci 0, ci 0, ci 0] 28) :: pt b_9 (blk v_8 28) :: pt b_12 (blk s.2.1 166) :: pt b_13 (blk [ci 0, ci 0, ci 0, ci 0, ci 0, ci 0, ci 0, ci 0, ci 0] 166) :: S)) k (v_17, [ci 0, ci 0, ci 0, ci 0, ci 0, ci 0, ci 0, ci 0, ci 0], 0) ⟨hl20, hs.go [0, 1, 6, 7, 8, 9, 10, 11, 12] [0, 6, 5, 4, 3, 2, 1] 7 (by kernel_rfl) (by kernel_rfl) (by kernel_rfl)⟩ (fun s a w h => by obtain ⟨h1, _⟩ := h; simp [visorref22_By.l1] at h1) (fun k KL20 ih s a w h => ?_)
 obtain ⟨q_21, q_22, q_23⟩ := s
 obtain ⟨hm, hs⟩ := h
 try dsimp only at hm hs
 rw [visorref22_By.l1] at hm
 refine Vk.seq fun K24 hK24 => ?_
 refine qsr fun K25 hK25 => ?_
 refine qpu 4 hs fun a hs => ?_
 obtain ⟨g_26, hs⟩ := hs.unbag 0 rfl
 refine qld 0 (ci q_21.n) hs rfl fun a hs => ?_
 refine qpk 1 [0, 1, 6, 7, 8, 9, 10, 11, 12, 29] hs fun a hs => hK25 _ _ ?_
 clear hK25
 refine qcs (decide (q_23 < q_21.n)) hs (fun hb => ?_) fun hb => ?_
 ·replace hm := bif_t hm hb
  refine wp_skip ?_
  refine hK24 _ _ ?_
  clear hK24
  refine Vk.seq fun K31 hK31 => ?_
  refine wp_block ?_
  refine qsk 3 [0, 1, 6, 7, 8, 9, 10, 11, 12, 13] hs fun a hs => ?_
  refine wp_block ?_
  replace hs := hs.bagG (l := Tvisorref19_M.parts κ b_x0 q_21 g_26) (S' := pt b_2 (blk x2 28) :: pt b_3 (blk x3 28) :: pt b_4 (blk [ci 0, ci 0, ci 0] 28) :: pt b_9 (blk v_8 28) :: pt b_12 (blk q_22 166) :: pt b_13 (blk [ci 0, ci 0, ci 0, ci 0, ci 0, ci 0, ci 0, ci 0, ci 0] 166) :: S) hs.own
  replace hs := hs.toEx (Tvisorref19_M.parts κ b_x0 q_21) g_26 0 rfl
  obtain ⟨r33, hl33, hm⟩ := bind_t hm
  have hx33 : ∀ (p_64 : Tvisorref19_M) (p_65 : Cells), r33 = (p_64, p_65) → ∀ (a : Act) (w : World), St 180 a w κ [(0, pp b_x0), (1, vi x1), (6, pp b_2), (7, pp b_3), (8, pp b_4), (9, pp b_9), (10, pp b_12), (11, pp b_13), (12, vi q_23)] (Tvisorref19_M.own κ b_x0 p_64 :: pt b_2 (blk x2 28) :: pt b_3 (blk x3 28) :: pt b_4 (blk [ci 0, ci 0, ci 0] 28) :: pt b_9 (blk v_8 28) :: pt b_12 (blk p_65 166) :: pt b_13 (blk [ci 0, ci 0, ci 0, ci 0, ci 0, ci 0, ci 0, ci 0, ci 0] 166) :: S) → K31 a w := by
   intro p_64 p_65 he a w hs
   subst r33
   refine hK31 _ _ ?_
   clear hK31
   refine Vk.region ?_
   refine qpe 3 [(0, pp b_x0), (1, vi x1), (6, pp b_2), (7, pp b_3), (8, pp b_4), (9, pp b_9), (10, pp b_12), (11, pp b_13), (12, vi (IntKind.i64.wrap (q_23 + 1)))] hs fun a hs => ?_
   refine ih (p_64, p_65, (IntKind.i64.wrap (q_23 + 1))) _ _ ⟨hm, hs.go [0, 1, 6, 7, 8, 9, 10, 11, 12] [0, 1, 2, 3, 4, 5, 6] 7 (by kernel_rfl) (by kernel_rfl) (by kernel_rfl)⟩
  refine Vk.loopBy (fun k (s : Tvisorref19_M × Cells × Int) a w => visorref22_By.l2 q_23 k s.1 s.2.1 s.2.2 = some r33 ∧ St 180 a w κ [(0, pp b_x0), (1, vi x1), (6, pp b_2), (7, pp b_3), (8, pp b_4), (9, pp b_9), (10, pp b_12), (11, pp b_13), (12, vi q_23), (13, vi s.2.2)] (Tvisorref19_M.own κ b_x0 s.1 :: pt b_2 (blk x2 28) :: pt b_3 (blk x3 28) :: pt b_4 (blk [ci 0, ci 0, ci 0] 28) :: pt b_9 (blk v_8 28) :: pt b_12 (blk s.2.1 166) :: pt b_13 (blk [ci 0, ci 0, ci 0, ci 0, ci 0, ci 0, ci 0, ci 0, ci 0] 166) :: S)) k (q_21, q_22, (IntKind.i64.wrap (q_23 + 1))) ⟨hl33, hs.go [0, 1, 6, 7, 8, 9, 10, 11, 12, 13] [0, 1, 2, 3, 4, 5, 6] 7 (by kernel_rfl) (by kernel_rfl) (by kernel_rfl)⟩ (fun s a w h => by obtain ⟨h1, _⟩ := h; simp [visorref22_By.l2] at h1) (fun k KL33 ih s a w h => ?_)
  obtain ⟨q_34, q_35, q_36⟩ := s
  obtain ⟨hm, hs⟩ := h
  try dsimp only at hm hs
  rw [visorref22_By.l2] at hm
  refine Vk.seq fun K37 hK37 => ?_
  refine qsr fun K38 hK38 => ?_
  refine qpu 4 hs fun a hs => ?_
  obtain ⟨g_39, hs⟩ := hs.unbag 0 rfl
  refine qld 0 (ci q_34.n) hs rfl fun a hs => ?_
  refine qpk 1 [0, 1, 6, 7, 8, 9, 10, 11, 12, 13, 39] hs fun a hs => hK38 _ _ ?_
  clear hK38
  refine qcs (decide (q_36 < q_34.n)) hs (fun hb => ?_) fun hb => ?_
  ·replace hm := bif_t hm hb
   refine wp_skip ?_
   refine hK37 _ _ ?_
   clear hK37
   refine Vk.seq fun K44 hK44 => ?_
   refine wp_block ?_
   refine Vk.seq fun K45 hK45 => ?_
   obtain ⟨C_46, hC_46⟩ : ∃ X0 : List HP, X0 = (pt b_2 (blk x2 28) :: pt b_3 (blk x3 28) :: pt b_4 (blk [ci 0, ci 0, ci 0] 28) :: pt b_9 (blk v_8 28) :: pt b_12 (blk q_35 166) :: pt b_13 (blk [ci 0, ci 0, ci 0, ci 0, ci 0, ci 0, ci 0, ci 0, ci 0] 166) :: S) := ⟨_, rfl⟩
   refine qdr 7 κ C_46 hs fun w hs hqC_46 => ?_
   have hcl : Own κ w C_46 := by rw [hC_46]; exact (hs.own.too [5, 6, 7, 8, 9, 10] 11)
   refine qdp (fuel := 5) [0, 1, 2] hs hcl hqC_46 fun a hs => ?_
   obtain ⟨h_47, hm⟩ := ite_t hm
   refine Vk.dTakeT (i := 5) (some 47) (.pointer (some ⟨b_12, 0 + q_23.toNat * 3, none⟩)) hs (by kernel_rfl) hqC_46 hcl (by kernel_rfl) (by kernel_rfl) (op := (.indexAddr 166 (.tmp 10) (.tmp 42))) (by kernel_rfl) (by kernel_rfl) (fun w hw o ho => by rw [hC_46] at hw; exact run_idxArr (k := .i64) ho (by kernel_rfl) (by kernel_rfl) (by kernel_rfl) h_47 _) fun a hs => ?_
   obtain ⟨v_50, h_49, hm⟩ := bind_t hm
   refine qdc 3 (visorref19_Op.ok _ _ _ _ _ _ _ h_49 _ _ (pt b_x0 (blk (Tvisorref19_M.obj q_34 g_39.1 g_39.2.1 g_39.2.2.1 g_39.2.2.2.1 g_39.2.2.2.2.1 g_39.2.2.2.2.2.1 g_39.2.2.2.2.2.2.1 g_39.2.2.2.2.2.2.2) 64) :: rowp g_39.1 g_39.2.1 93 6 Tapi_Op.cells q_34.ops :: rowp g_39.2.2.1 g_39.2.2.2.1 175 3 Tapi_Span.cells q_34.blocks :: rowp g_39.2.2.2.2.1 g_39.2.2.2.2.2.1 32 1 (eI .u64) q_34.val :: rdp κ g_39.2.2.2.2.2.2.1 g_39.2.2.2.2.2.2.2 1 (eI .u64) q_34.tape.l :: pt b_2 (blk x2 28) :: pt b_3 (blk x3 28) :: pt b_4 (blk [ci 0, ci 0, ci 0] 28) :: pt b_9 (blk v_8 28) :: pt b_12 (blk q_35 166) :: pt b_13 (blk [ci 0, ci 0, ci 0, ci 0, ci 0, ci 0, ci 0, ci 0, ci 0] 166) :: S) hs.own) hs fun w a hs => ?_
   replace hcl : Own κ w C_46 := by rw [hC_46]; exact (hs.own.too [5, 6, 7, 8, 9, 10] 11)
   refine ⟨fun _ => hcl, ?_⟩
   replace hs := hs.bagG (l := Tvisorref19_M.parts κ b_x0 q_34 g_39) (S' := pt b_2 (blk x2 28) :: pt b_3 (blk x3 28) :: pt b_4 (blk [ci 0, ci 0, ci 0] 28) :: pt b_9 (blk v_8 28) :: pt b_12 (blk q_35 166) :: pt b_13 (blk [ci 0, ci 0, ci 0, ci 0, ci 0, ci 0, ci 0, ci 0, ci 0] 166) :: S) hs.own
   replace hs := hs.toEx (Tvisorref19_M.parts κ b_x0 q_34) g_39 0 rfl
   obtain ⟨v_53, h_52, hm⟩ := bind_t hm
   refine qdc 4 (visorref19_M_Do.ok _ _ _ _ _ h_52 _ _ _ b_x0 hs.own) hs fun w a hs => ?_
   replace hcl := qO hC_46 hs.own.drop
   refine ⟨fun _ => hcl, ?_⟩
   obtain ⟨h_54, hm⟩ := ite_t hm
   refine Vk.dTakeT (i := 6) (some 48) (.pointer (some ⟨b_12, 0 + q_23.toNat * 3 + q_36.toNat * 1, none⟩)) hs (by kernel_rfl) hqC_46 hcl (by kernel_rfl) (by kernel_rfl) (op := (.indexAddr 26 (.tmp 47) (.tmp 43))) (by kernel_rfl) (by kernel_rfl) (fun w hw o ho => by rw [hC_46] at hw; exact run_idxArr (k := .i64) ho (by kernel_rfl) (by kernel_rfl) (by kernel_rfl) h_54 _) fun a hs => ?_
   obtain ⟨h_55, hm⟩ := ite_t hm
   refine Vk.dOnly (i := 7) (by kernel_rfl) (Vk.store1 (b := b_12) (ty := 3) (x := (.tmp 48)) (y := (.tmp 46)) (off := 0 + q_23.toNat * 3 + q_36.toNat * 1) (ci v_53.1) 5 hs (by kernel_rfl) (by kernel_rfl) (by kernel_rfl) (by kernel_rfl) (by kernel_rfl) (by kernel_rfl) rfl h_55 fun a w hs => ?_)
   refine ⟨fun h => absurd h (by decide), ?_⟩
   replace hs := hs.pick [0, 1, 6, 7, 8, 9, 10, 11, 12, 13] (L' := [(0, pp b_x0), (1, vi x1), (6, pp b_2), (7, pp b_3), (8, pp b_4), (9, pp b_9), (10, pp b_12), (11, pp b_13), (12, vi q_23), (13, vi q_36)]) (by kernel_rfl)
   refine Vk.dDone (by kernel_rfl) ?_
   refine hK45 _ _ ?_
   clear hK45
   obtain ⟨C_56, hC_56⟩ := qC hs.own
   refine qdr 9 κ C_56 hs fun w hs hqC_56 => ?_
   have hcl := qO hC_56 hs.own
   refine qdp (fuel := 6) [0, 1, 2, 3] hs hcl hqC_56 fun a hs => ?_
   obtain ⟨h_57, hm⟩ := ite_t hm
   refine Vk.dTakeT (i := 4) (some 53) (.pointer (some ⟨b_12, 0 + q_23.toNat * 3, none⟩)) hs (by kernel_rfl) hqC_56 hcl (by kernel_rfl) (by kernel_rfl) (op := (.indexAddr 166 (.tmp 10) (.tmp 51))) (by kernel_rfl) (by kernel_rfl) (fun w hw o ho => by rw [hC_56] at hw; exact run_idxArr (k := .i64) ho (by kernel_rfl) (by kernel_rfl) (by kernel_rfl) h_57 _) fun a hs => ?_
   obtain ⟨h_58, hm⟩ := ite_t hm
   refine Vk.dTakeT (i := 5) (some 54) (.pointer (some ⟨b_12, 0 + q_23.toNat * 3 + q_36.toNat * 1, none⟩)) hs (by kernel_rfl) hqC_56 hcl (by kernel_rfl) (by kernel_rfl) (op := (.indexAddr 26 (.tmp 53) (.tmp 52))) (by kernel_rfl) (by kernel_rfl) (fun w hw o ho => by rw [hC_56] at hw; exact run_idxArr (k := .i64) ho (by kernel_rfl) (by kernel_rfl) (by kernel_rfl) h_58 _) fun a hs => ?_
   obtain ⟨v_60, h_59, hm⟩ := bind_t hm
   refine Vk.dTakeT (i := 6) (some 55) (vi v_60) hs (by kernel_rfl) hqC_56 hcl (by kernel_rfl) (by kernel_rfl) (op := (.load 3 (.tmp 54))) (by kernel_rfl) (by kernel_rfl) (fun w hw o ho => by rw [hC_56] at hw; exact run_load1 (c := ci v_60) ho (by kernel_rfl) (by kernel_rfl) (Cell.own 5 rfl (getI_some h_59)) _ hw) fun a hs => ?_
   obtain ⟨h_61, hm⟩ := ite_t hm
   refine Vk.dTakeT (i := 7) (some 56) (.pointer (some ⟨b_12, 0 + q_36.toNat * 3, none⟩)) hs (by kernel_rfl) hqC_56 hcl (by kernel_rfl) (by kernel_rfl) (op := (.indexAddr 166 (.tmp 10) (.tmp 49))) (by kernel_rfl) (by kernel_rfl) (fun w hw o ho => by rw [hC_56] at hw; exact run_idxArr (k := .i64) ho (by kernel_rfl) (by kernel_rfl) (by kernel_rfl) h_61 _) fun a hs => ?_
   obtain ⟨h_62, hm⟩ := ite_t hm
   refine Vk.dTakeT (i := 8) (some 57) (.pointer (some ⟨b_12, 0 + q_36.toNat * 3 + q_23.toNat * 1, none⟩)) hs (by kernel_rfl) hqC_56 hcl (by kernel_rfl) (by kernel_rfl) (op := (.indexAddr 26 (.tmp 56) (.tmp 50))) (by kernel_rfl) (by kernel_rfl) (fun w hw o ho => by rw [hC_56] at hw; exact run_idxArr (k := .i64) ho (by kernel_rfl) (by kernel_rfl) (by kernel_rfl) h_62 _) fun a hs => ?_
   obtain ⟨h_63, hm⟩ := ite_t hm
   refine Vk.dOnly (i := 9) (by kernel_rfl) (Vk.store1 (b := b_12) (ty := 3) (x := (.tmp 57)) (y := (.tmp 55)) (off := 0 + q_36.toNat * 3 + q_23.toNat * 1) (ci v_60) 5 hs (by kernel_rfl) (by kernel_rfl) (by kernel_rfl) (by kernel_rfl) (by kernel_rfl) (by kernel_rfl) rfl h_63 fun a w hs => ?_)
   refine ⟨fun h => absurd h (by decide), ?_⟩
   replace hs := hs.pick [0, 1, 6, 7, 8, 9, 10, 11, 12, 13] (L' := [(0, pp b_x0), (1, vi x1), (6, pp b_2), (7, pp b_3), (8, pp b_4), (9, pp b_9), (10, pp b_12), (11, pp b_13), (12, vi q_23), (13, vi q_36)]) (by kernel_rfl)
   refine Vk.dDone (by kernel_rfl) ?_
   refine hK44 _ _ ?_
   clear hK44
   refine Vk.region ?_
   refine qpk 3 [0, 1, 6, 7, 8, 9, 10, 11, 12, 13] hs fun a hs => ?_
   refine ih (v_53.2, ((q_35.set (0 + q_23.toNat * 3 + q_36.toNat * 1) (ci v_53.1)).set (0 + q_36.toNat * 3 + q_23.toNat * 1) (ci v_60)), (IntKind.i64.wrap (q_36 + 1))) _ _ ⟨hm, hs.go [0, 1, 6, 7, 8, 9, 10, 11, 12, 13] [0, 1, 2, 3, 4, 5, 6] 7 (by kernel_rfl) (by kernel_rfl) (by kernel_rfl)⟩
  ·replace hm := bif_f hm hb
   refine wp_exit ?_
   replace hs := hs.bagG (l := Tvisorref19_M.parts κ b_x0 q_34 g_39) (S' := pt b_2 (blk x2 28) :: pt b_3 (blk x3 28) :: pt b_4 (blk [ci 0, ci 0, ci 0] 28) :: pt b_9 (blk v_8 28) :: pt b_12 (blk q_35 166) :: pt b_13 (blk [ci 0, ci 0, ci 0, ci 0, ci 0, ci 0, ci 0, ci 0, ci 0] 166) :: S) hs.own
   replace hs := hs.toEx (Tvisorref19_M.parts κ b_x0 q_34) g_39 0 rfl
   exact hx33 q_34 q_35 (Option.some.inj hm).symm _ _ (hs.go [0, 1, 6, 7, 8, 9, 10, 11, 12] [0, 1, 2, 3, 4, 5, 6] 7 (by kernel_rfl) (by kernel_rfl) (by kernel_rfl))
 ·replace hm := bif_f hm hb
  refine wp_exit ?_
  replace hs := hs.bagG (l := Tvisorref19_M.parts κ b_x0 q_21 g_26) (S' := pt b_2 (blk x2 28) :: pt b_3 (blk x3 28) :: pt b_4 (blk [ci 0, ci 0, ci 0] 28) :: pt b_9 (blk v_8 28) :: pt b_12 (blk q_22 166) :: pt b_13 (blk [ci 0, ci 0, ci 0, ci 0, ci 0, ci 0, ci 0, ci 0, ci 0] 166) :: S) hs.own
  replace hs := hs.toEx (Tvisorref19_M.parts κ b_x0 q_21) g_26 0 rfl
  exact hx20 q_21 q_22 (Option.some.inj hm).symm _ _ (hs.go [0, 1, 6, 7, 8, 9, 10, 11] [0, 1, 2, 3, 4, 5, 6] 7 (by kernel_rfl) (by kernel_rfl) (by kernel_rfl))


abbrev wire_Machine_Values.R (κ : Ctx) (S : List HP) (x0 : Twire_Machine) (b_x0 : Nat) (g_x0 : Nat × Option Addr × Nat × Option Addr × Nat × Option Addr × Nat) (r : List Int) : Ending → World → Prop := fun e w' => ∃ (A_r0 : Option Addr), ∃ (c_r0 : Nat), e = .returned (.slice A_r0 r.length c_r0) ∧ Own κ w' (rowp A_r0 c_r0 32 1 (eI .u64) r :: bagL (Twire_Machine.parts b_x0 x0 g_x0) :: S)
def wire_Machine_Values.m (k : Nat) (x0 : Twire_Machine) : Option (List Int) := (slices_Clone_uint64_uint64.m k x0.values).bind fun v_10 => some v_10

set_option maxRecDepth 100000 in
set_option maxHeartbeats 4000000 in
theorem wire_Machine_Values.ok (k : Nat) (x0 : Twire_Machine) (r : List Int) (hm : wire_Machine_Values.m k x0 = some r) (κ : Ctx) (w : World) (S : List HP) (b_x0 : Nat) (g_x0 : Nat × Option Addr × Nat × Option Addr × Nat × Option Addr × Nat) (ho : Own κ w (bagL (Twire_Machine.parts b_x0 x0 g_x0) :: S)) :
  Calls Try.prog 22 #[pp b_x0] w (wire_Machine_Values.R κ S x0 b_x0 g_x0 r) := by
 unfold wire_Machine_Values.m at hm
 generalize hRR : wire_Machine_Values.R κ S x0 b_x0 g_x0 r = RR
 refine qen [(0, pp b_x0)] Try.func22 Try.ntmps22 ho fun a hs => ?_
 refine qse 1 [(0, pp b_x0)] hs fun a hs => ?_
 refine Vk.seq fun K2 hK2 => ?_
 refine qsk 2 [0, 4] hs fun a hs => ?_
 refine qcf hs ?_
 refine wp_skip ?_
 refine hK2 _ _ ?_
 clear hK2
 refine qsr fun K4 hK4 => ?_
 refine qpu 3 hs fun a hs => ?_
 replace hs := hs.unbagAt 0 rfl
 refine qld 0 (C.slc g_x0.2.2.2.1 x0.values.length g_x0.2.2.2.2.1) hs rfl fun a hs => ?_
 obtain ⟨v_10, h_9, hm⟩ := bind_t hm
 refine Vk.step (Vk.call (some 9) 96 #[.slice g_x0.2.2.2.1 x0.values.length g_x0.2.2.2.2.1] hs (by kernel_rfl) (by kernel_rfl) (by kernel_rfl) ?_)
 refine (slices_Clone_uint64_uint64.ok k x0.values v_10 h_9 κ w (pt b_x0 (blk (Twire_Machine.obj x0 g_x0.1 g_x0.2.1 g_x0.2.2.1 g_x0.2.2.2.1 g_x0.2.2.2.2.1 g_x0.2.2.2.2.2.1 g_x0.2.2.2.2.2.2) 139) :: opto x0.dry (Ttape_Tape.own g_x0.1 x0.tape) :: rowp g_x0.2.1 g_x0.2.2.1 93 6 Tapi_Op.cells x0.ops :: rowp g_x0.2.2.2.1 g_x0.2.2.2.2.1 32 1 (eI .u64) x0.values :: rowp g_x0.2.2.2.2.2.1 g_x0.2.2.2.2.2.2 175 3 Tapi_Span.cells x0.blocks :: S) g_x0.2.2.2.1 g_x0.2.2.2.2.1 (Sl.lift (fun w ho => (Own.to (S' := rowp g_x0.2.2.2.1 g_x0.2.2.2.2.1 32 1 (eI .u64) x0.values :: S) ho [3] 5 (by kernel_rfl) (by kernel_rfl))) (Own.rowSl 0 (Own.to (S' := rowp g_x0.2.2.2.1 g_x0.2.2.2.2.1 32 1 (eI .u64) x0.values :: S) hs.own [3] 5 (by kernel_rfl) (by kernel_rfl)) rfl)) hs.own).mono ?_
 rintro _ w ⟨Ar8x0_11, cr8x0_12, rfl, how⟩
 refine ⟨_, _, _, rfl, how, fun a hs => ?_⟩
 refine qpk 1 [2] hs fun a hs => hK4 _ _ ?_
 clear hK4
 refine wp_ret ?_
 replace hs := hs.bagG (l := Twire_Machine.parts b_x0 x0 g_x0) (S' := rowp Ar8x0_11 cr8x0_12 32 1 (eI .u64) v_10 :: S) hs.own.f5.f5.f5.f5.f5
 exact qr1 (.slice Ar8x0_11 v_10.length cr8x0_12) hs rfl hRR (by cases hm; exact ⟨Ar8x0_11, cr8x0_12, rfl, hs.own.f1⟩)


abbrev wire_Machine_Err.R (κ : Ctx) (S : List HP) (x0 : Twire_Machine) (b_x0 : Nat) (g_x0 : Nat × Option Addr × Nat × Option Addr × Nat × Option Addr × Nat) (r : Int) : Ending → World → Prop := fun e w' => e = .returned (vi r) ∧ Own κ w' (bagL (Twire_Machine.parts b_x0 x0 g_x0) :: S)
def wire_Machine_Err.m (k : Nat) (x0 : Twire_Machine) : Option Int := some x0.bad

set_option maxRecDepth 100000 in
set_option maxHeartbeats 4000000 in
theorem wire_Machine_Err.ok (k : Nat) (x0 : Twire_Machine) (r : Int) (hm : wire_Machine_Err.m k x0 = some r) (κ : Ctx) (w : World) (S : List HP) (b_x0 : Nat) (g_x0 : Nat × Option Addr × Nat × Option Addr × Nat × Option Addr × Nat) (ho : Own κ w (bagL (Twire_Machine.parts b_x0 x0 g_x0) :: S)) :
  Calls Try.prog 23 #[pp b_x0] w (wire_Machine_Err.R κ S x0 b_x0 g_x0 r) := by
 unfold wire_Machine_Err.m at hm
 generalize hRR : wire_Machine_Err.R κ S x0 b_x0 g_x0 r = RR
 refine qen [(0, pp b_x0)] Try.func23 Try.ntmps23 ho fun a hs => ?_
 refine qse 1 [(0, pp b_x0)] hs fun a hs => ?_
 refine Vk.seq fun K2 hK2 => ?_
 refine qsk 2 [0, 4] hs fun a hs => ?_
 refine qcf hs ?_
 refine wp_skip ?_
 refine hK2 _ _ ?_
 clear hK2
 refine qsr fun K4 hK4 => ?_
 refine qpu 3 hs fun a hs => ?_
 replace hs := hs.unbagAt 0 rfl
 refine qld 0 (ci x0.bad) hs rfl fun a hs => ?_
 refine qpe 1 [(2, vi x0.bad)] hs fun a hs => hK4 _ _ ?_
 clear hK4
 refine wp_ret ?_
 replace hs := hs.bagG (l := Twire_Machine.parts b_x0 x0 g_x0) (S' := S) hs.own
 exact qr1 (vi x0.bad) hs rfl hRR (by cases hm; exact ⟨rfl, hs.own⟩)


abbrev slices_Clone_api_Op_api_Op.R (κ : Ctx) (S : List HP) (x0 : List Tapi_Op) (A_x0 : Option Addr) (c_x0 : Nat) (r : List Tapi_Op) : Ending → World → Prop := fun e w' => ∃ (A_r0 : Option Addr), ∃ (c_r0 : Nat), e = .returned (.slice A_r0 r.length c_r0) ∧ Own κ w' (rowp A_r0 c_r0 93 6 Tapi_Op.cells r :: S)
def slices_Clone_api_Op_api_Op.m (k : Nat) (x0 : List Tapi_Op) : Option (List Tapi_Op) := (if (([] : List Tapi_Op).length + x0.length) * 48 ≤ 140737488355328 then some (([] : List Tapi_Op) ++ x0) else none)

set_option maxRecDepth 100000 in
set_option maxHeartbeats 4000000 in
theorem slices_Clone_api_Op_api_Op.ok (k : Nat) (x0 : List Tapi_Op) (r : List Tapi_Op) (hm : slices_Clone_api_Op_api_Op.m k x0 = some r) (κ : Ctx) (w : World) (S : List HP) (A_x0 : Option Addr) (c_x0 : Nat) (hx_x0 : Sl κ S A_x0 c_x0 6 Tapi_Op.cells x0) (ho : Own κ w (S)) :
  Calls Try.prog 138 #[.slice A_x0 x0.length c_x0] w (slices_Clone_api_Op_api_Op.R κ S x0 A_x0 c_x0 r) := by
 unfold slices_Clone_api_Op_api_Op.m at hm
 rcases A_x0 with _ | p_x0
 ·obtain rfl : c_x0 = 0 := hx_x0.none rfl
  obtain rfl : x0 = [] := List.length_eq_zero_iff.1 (Nat.le_zero.1 hx_x0.le)
  replace hm : some ([] : List Tapi_Op) = some r := by simpa using hm
  refine Vk.enter [(0, .slice none 0 0)] Try.func138 rfl Try.ntmps138 (by kernel_rfl) (Nat.le_of_ble_eq_true (by kernel_rfl)) ho fun a hs => ?_
  refine Vk.seq fun K1 hK1 => ?_
  refine Vk.region ?_
  refine Vk.pures 1 [(2, .slice none 0 0)] hs (by kernel_rfl) fun a hs => ?_
  replace hs := hs.pick [0] (L' := [(0, .slice none 0 0)]) (by kernel_rfl)
  refine Vk.done (by kernel_rfl) ?_
  refine hK1 _ _ ?_
  clear hK1
  refine Vk.seq fun K2 hK2 => ?_
  refine Vk.seq fun K3 hK3 => ?_
  refine Vk.region ?_
  refine Vk.pures 2 [(4, .bool true), (3, .slice none 0 0)] hs (by kernel_rfl) fun a hs => ?_
  replace hs := hs.pick [0, 4] (L' := [(0, .slice none 0 0), (4, .bool true)]) (by kernel_rfl)
  refine Vk.done (by kernel_rfl) ?_
  refine hK3 _ _ ?_
  clear hK3
  refine Vk.condT hs (by kernel_rfl) (by kernel_rfl) ?_
  refine Vk.seq fun K4 hK4 => ?_
  refine Vk.region ?_
  refine Vk.pures 1 [(2, .slice none 0 0)] hs (by kernel_rfl) fun a hs => ?_
  replace hs := hs.pick [2] (L' := [(2, .slice none 0 0)]) (by kernel_rfl)
  refine Vk.done (by kernel_rfl) ?_
  refine hK4 _ _ ?_
  clear hK4
  refine wp_ret ?_
  replace hs := hs.addRow none 93 6 Tapi_Op.cells
  exact Vk.ret1 (P := Try.prog) (fn := Try.f138) (R := slices_Clone_api_Op_api_Op.R κ S [] none 0 r) (.slice none (([] : List Tapi_Op).length) 0) hs rfl (by kernel_rfl) (by obtain rfl := Option.some.inj hm; exact ⟨none, 0, rfl, hs.own⟩)
 ·skip
  refine Vk.enter [(0, .slice (some p_x0) x0.length c_x0)] Try.func138 rfl Try.ntmps138 (by kernel_rfl) (Nat.le_of_ble_eq_true (by kernel_rfl)) ho fun a hs => ?_
  refine Vk.seq fun K1 hK1 => ?_
  refine Vk.region ?_
  refine Vk.pures 1 [(2, .slice none 0 0)] hs (by kernel_rfl) fun a hs => ?_
  replace hs := hs.pick [0] (L' := [(0, .slice (some p_x0) x0.length c_x0)]) (by kernel_rfl)
  refine Vk.done (by kernel_rfl) ?_
  refine hK1 _ _ ?_
  clear hK1
  refine Vk.seq fun K2 hK2 => ?_
  refine Vk.seq fun K3 hK3 => ?_
  refine Vk.region ?_
  refine Vk.pures 2 [(4, .bool false), (3, .slice (some p_x0) x0.length c_x0)] hs (by kernel_rfl) fun a hs => ?_
  replace hs := hs.pick [0, 4] (L' := [(0, .slice (some p_x0) x0.length c_x0), (4, .bool false)]) (by kernel_rfl)
  refine Vk.done (by kernel_rfl) ?_
  refine hK3 _ _ ?_
  clear hK3
  refine Vk.condF hs (by kernel_rfl) (by kernel_rfl) ?_
  refine wp_skip ?_
  refine hK2 _ _ ?_
  clear hK2
  refine Vk.seq fun K4 hK4 => ?_
  refine Vk.region ?_
  refine Vk.step (Vk.buildOp (sz := 6) (by_ := 48) (t := 59) (e := 93) (parts := #[]) (zs := vals [C.int .i64 0, C.int .i64 0, C.int .i64 0, C.int .i64 0, C.int .i64 0, C.int .u64 0]) ([] : List Tapi_Op) Tapi_Op.cells (some 5) hs (by kernel_rfl) (by kernel_rfl) (by kernel_rfl) (by kernel_rfl) (by decide) rfl (fun x _ => rfl) (Nat.le_of_ble_eq_true (by kernel_rfl)) (by kernel_rfl) fun A_5 w a hs => ?_)
  refine Vk.pures 1 [(6, .slice (some p_x0) x0.length c_x0)] hs (by kernel_rfl) fun a hs => ?_
  obtain ⟨h_7, hm⟩ := ite_t hm
  refine Vk.step (Vk.appendOp (x := (.tmp 5)) (y := (.tmp 6)) (e := 93) (t := 59) (by_ := 48) (sz := 6) (enc := Tapi_Op.cells) (A := A_5) (cap := 0) (xs := ([] : List Tapi_Op)) (ys := x0) (B := (some p_x0)) (c2 := c_x0) 0 (some 7) hs (by kernel_rfl) (by kernel_rfl) (by kernel_rfl) (by kernel_rfl) rfl hx_x0.less (by kernel_rfl) (by kernel_rfl) (by decide) (by decide) h_7 fun A_8 c_9 w a hs => ?_)
  refine Vk.pures 1 [(2, .slice A_8 ((([] : List Tapi_Op) ++ x0).length) c_9)] hs (by kernel_rfl) fun a hs => ?_
  replace hs := hs.pick [2] (L' := [(2, .slice A_8 ((([] : List Tapi_Op) ++ x0).length) c_9)]) (by kernel_rfl)
  refine Vk.done (by kernel_rfl) ?_
  refine hK4 _ _ ?_
  clear hK4
  refine wp_ret ?_
  exact Vk.ret1 (P := Try.prog) (fn := Try.f138) (R := slices_Clone_api_Op_api_Op.R κ S x0 (some p_x0) c_x0 r) (.slice A_8 ((([] : List Tapi_Op) ++ x0).length) c_9) hs rfl (by kernel_rfl) (by obtain rfl := Option.some.inj hm; exact ⟨A_8, c_9, rfl, hs.own⟩)


abbrev slices_Clone_api_Span_api_Span.R (κ : Ctx) (S : List HP) (x0 : List Tapi_Span) (A_x0 : Option Addr) (c_x0 : Nat) (r : List Tapi_Span) : Ending → World → Prop := fun e w' => ∃ (A_r0 : Option Addr), ∃ (c_r0 : Nat), e = .returned (.slice A_r0 r.length c_r0) ∧ Own κ w' (rowp A_r0 c_r0 175 3 Tapi_Span.cells r :: S)
def slices_Clone_api_Span_api_Span.m (k : Nat) (x0 : List Tapi_Span) : Option (List Tapi_Span) := (if (([] : List Tapi_Span).length + x0.length) * 24 ≤ 140737488355328 then some (([] : List Tapi_Span) ++ x0) else none)

set_option maxRecDepth 100000 in
set_option maxHeartbeats 4000000 in
theorem slices_Clone_api_Span_api_Span.ok (k : Nat) (x0 : List Tapi_Span) (r : List Tapi_Span) (hm : slices_Clone_api_Span_api_Span.m k x0 = some r) (κ : Ctx) (w : World) (S : List HP) (A_x0 : Option Addr) (c_x0 : Nat) (hx_x0 : Sl κ S A_x0 c_x0 3 Tapi_Span.cells x0) (ho : Own κ w (S)) :
  Calls Try.prog 139 #[.slice A_x0 x0.length c_x0] w (slices_Clone_api_Span_api_Span.R κ S x0 A_x0 c_x0 r) := by
 unfold slices_Clone_api_Span_api_Span.m at hm
 rcases A_x0 with _ | p_x0
 ·obtain rfl : c_x0 = 0 := hx_x0.none rfl
  obtain rfl : x0 = [] := List.length_eq_zero_iff.1 (Nat.le_zero.1 hx_x0.le)
  replace hm : some ([] : List Tapi_Span) = some r := by simpa using hm
  refine Vk.enter [(0, .slice none 0 0)] Try.func139 rfl Try.ntmps139 (by kernel_rfl) (Nat.le_of_ble_eq_true (by kernel_rfl)) ho fun a hs => ?_
  refine Vk.seq fun K1 hK1 => ?_
  refine Vk.region ?_
  refine Vk.pures 1 [(2, .slice none 0 0)] hs (by kernel_rfl) fun a hs => ?_
  replace hs := hs.pick [0] (L' := [(0, .slice none 0 0)]) (by kernel_rfl)
  refine Vk.done (by kernel_rfl) ?_
  refine hK1 _ _ ?_
  clear hK1
  refine Vk.seq fun K2 hK2 => ?_
  refine Vk.seq fun K3 hK3 => ?_
  refine Vk.region ?_
  refine Vk.pures 2 [(4, .bool true), (3, .slice none 0 0)] hs (by kernel_rfl) fun a hs => ?_
  replace hs := hs.pick [0, 4] (L' := [(0, .slice none 0 0), (4, .bool true)]) (by kernel_rfl)
  refine Vk.done (by kernel_rfl) ?_
  refine hK3 _ _ ?_
  clear hK3
  refine Vk.condT hs (by kernel_rfl) (by kernel_rfl) ?_
  refine Vk.seq fun K4 hK4 => ?_
  refine Vk.region ?_
  refine Vk.pures 1 [(2, .slice none 0 0)] hs (by kernel_rfl) fun a hs => ?_
  replace hs := hs.pick [2] (L' := [(2, .slice none 0 0)]) (by kernel_rfl)
  refine Vk.done (by kernel_rfl) ?_
  refine hK4 _ _ ?_
  clear hK4
  refine wp_ret ?_
  replace hs := hs.addRow none 175 3 Tapi_Span.cells
  exact Vk.ret1 (P := Try.prog) (fn := Try.f139) (R := slices_Clone_api_Span_api_Span.R κ S [] none 0 r) (.slice none (([] : List Tapi_Span).length) 0) hs rfl (by kernel_rfl) (by obtain rfl := Option.some.inj hm; exact ⟨none, 0, rfl, hs.own⟩)
 ·skip
  refine Vk.enter [(0, .slice (some p_x0) x0.length c_x0)] Try.func139 rfl Try.ntmps139 (by kernel_rfl) (Nat.le_of_ble_eq_true (by kernel_rfl)) ho fun a hs => ?_
  refine Vk.seq fun K1 hK1 => ?_
  refine Vk.region ?_
  refine Vk.pures 1 [(2, .slice none 0 0)] hs (by kernel_rfl) fun a hs => ?_
  replace hs := hs.pick [0] (L' := [(0, .slice (some p_x0) x0.length c_x0)]) (by kernel_rfl)
  refine Vk.done (by kernel_rfl) ?_
  refine hK1 _ _ ?_
  clear hK1
  refine Vk.seq fun K2 hK2 => ?_
  refine Vk.seq fun K3 hK3 => ?_
  refine Vk.region ?_
  refine Vk.pures 2 [(4, .bool false), (3, .slice (some p_x0) x0.length c_x0)] hs (by kernel_rfl) fun a hs => ?_
  replace hs := hs.pick [0, 4] (L' := [(0, .slice (some p_x0) x0.length c_x0), (4, .bool false)]) (by kernel_rfl)
  refine Vk.done (by kernel_rfl) ?_
  refine hK3 _ _ ?_
  clear hK3
  refine Vk.condF hs (by kernel_rfl) (by kernel_rfl) ?_
  refine wp_skip ?_
  refine hK2 _ _ ?_
  clear hK2
  refine Vk.seq fun K4 hK4 => ?_
  refine Vk.region ?_
  refine Vk.step (Vk.buildOp (sz := 3) (by_ := 24) (t := 60) (e := 175) (parts := #[]) (zs := vals [C.int .i64 0, C.int .i64 0, C.int .i64 0]) ([] : List Tapi_Span) Tapi_Span.cells (some 5) hs (by kernel_rfl) (by kernel_rfl) (by kernel_rfl) (by kernel_rfl) (by decide) rfl (fun x _ => rfl) (Nat.le_of_ble_eq_true (by kernel_rfl)) (by kernel_rfl) fun A_5 w a hs => ?_)
  refine Vk.pures 1 [(6, .slice (some p_x0) x0.length c_x0)] hs (by kernel_rfl) fun a hs => ?_
  obtain ⟨h_7, hm⟩ := ite_t hm
  refine Vk.step (Vk.appendOp (x := (.tmp 5)) (y := (.tmp 6)) (e := 175) (t := 60) (by_ := 24) (sz := 3) (enc := Tapi_Span.cells) (A := A_5) (cap := 0) (xs := ([] : List Tapi_Span)) (ys := x0) (B := (some p_x0)) (c2 := c_x0) 0 (some 7) hs (by kernel_rfl) (by kernel_rfl) (by kernel_rfl) (by kernel_rfl) rfl hx_x0.less (by kernel_rfl) (by kernel_rfl) (by decide) (by decide) h_7 fun A_8 c_9 w a hs => ?_)
  refine Vk.pures 1 [(2, .slice A_8 ((([] : List Tapi_Span) ++ x0).length) c_9)] hs (by kernel_rfl) fun a hs => ?_
  replace hs := hs.pick [2] (L' := [(2, .slice A_8 ((([] : List Tapi_Span) ++ x0).length) c_9)]) (by kernel_rfl)
  refine Vk.done (by kernel_rfl) ?_
  refine hK4 _ _ ?_
  clear hK4
  refine wp_ret ?_
  exact Vk.ret1 (P := Try.prog) (fn := Try.f139) (R := slices_Clone_api_Span_api_Span.R κ S x0 (some p_x0) c_x0 r) (.slice A_8 ((([] : List Tapi_Span) ++ x0).length) c_9) hs rfl (by kernel_rfl) (by obtain rfl := Option.some.inj hm; exact ⟨A_8, c_9, rfl, hs.own⟩)

structure Tapi_Trace where
 n : Int
 ops : List Tapi_Op
 blocks : List Tapi_Span
 deriving Inhabited
def Tapi_Trace.obj (x : Tapi_Trace) (Aops : Option Addr) (cops : Nat) (Ablocks : Option Addr) (cblocks : Nat) : Cells := [C.int .i64 x.n, C.slc Aops x.ops.length cops, C.slc Ablocks x.blocks.length cblocks]

abbrev wire_Machine_Trace.R (κ : Ctx) (S : List HP) (x0 : Twire_Machine) (b_x0 : Nat) (g_x0 : Nat × Option Addr × Nat × Option Addr × Nat × Option Addr × Nat) (r : Tapi_Trace) : Ending → World → Prop := fun e w' => ∃ (A_r0ops : Option Addr), ∃ (c_r0ops : Nat), ∃ (A_r0blocks : Option Addr), ∃ (c_r0blocks : Nat), e = .returned (.agg (vals [ci r.n, C.slc A_r0ops r.ops.length c_r0ops, C.slc A_r0blocks r.blocks.length c_r0blocks])) ∧ Own κ w' (rowp A_r0ops c_r0ops 93 6 Tapi_Op.cells r.ops :: rowp A_r0blocks c_r0blocks 175 3 Tapi_Span.cells r.blocks :: bagL (Twire_Machine.parts b_x0 x0 g_x0) :: S)
def wire_Machine_Trace.m (k : Nat) (x0 : Twire_Machine) : Option Tapi_Trace := (slices_Clone_api_Op_api_Op.m k x0.ops).bind fun v_12 => (slices_Clone_api_Span_api_Span.m k x0.blocks).bind fun v_17 => some (⟨x0.n, v_12, v_17⟩ : Tapi_Trace)

set_option maxRecDepth 100000 in
set_option maxHeartbeats 4000000 in
theorem wire_Machine_Trace.ok (k : Nat) (x0 : Twire_Machine) (r : Tapi_Trace) (hm : wire_Machine_Trace.m k x0 = some r) (κ : Ctx) (w : World) (S : List HP) (b_x0 : Nat) (g_x0 : Nat × Option Addr × Nat × Option Addr × Nat × Option Addr × Nat) (ho : Own κ w (bagL (Twire_Machine.parts b_x0 x0 g_x0) :: S)) :
  Calls Try.prog 62 #[pp b_x0] w (wire_Machine_Trace.R κ S x0 b_x0 g_x0 r) := by
 unfold wire_Machine_Trace.m at hm
 generalize hRR : wire_Machine_Trace.R κ S x0 b_x0 g_x0 r = RR
 refine qen [(0, pp b_x0)] Try.func62 Try.ntmps62 ho fun a hs => ?_
 refine qsr fun K1 hK1 => ?_
 refine qal 102 [ci 0, C.slc none 0 0, C.slc none 0 0] 2 hs fun b_2 w a hs => ?_
 refine qpe 0 [(0, pp b_x0), (2, pp b_2)] hs fun a hs => hK1 _ _ ?_
 clear hK1
 refine Vk.seq fun K3 hK3 => ?_
 refine qsk 2 [0, 2, 4] hs fun a hs => ?_
 refine qcf hs ?_
 refine wp_skip ?_
 refine hK3 _ _ ?_
 clear hK3
 refine Vk.seq fun K5 hK5 => ?_
 replace hs := hs.unbagAt 1 rfl
 obtain ⟨C_9, hC_9⟩ := qC hs.own
 refine qdr 15 κ C_9 hs fun w hs hqC_9 => ?_
 have hcl := qO hC_9 hs.own
 refine qdp (fuel := 7) [0, 1, 2, 4, 5, 6, 9, 10, 11] hs hcl hqC_9 fun a hs => ?_
 refine qdl 3 0 (ci x0.n) hs hcl hqC_9 hC_9 rfl fun a hs => ?_
 refine qdl 7 0 (C.slc g_x0.2.1 x0.ops.length g_x0.2.2.1) hs hcl hqC_9 hC_9 rfl fun a hs => ?_
 refine qdl 12 0 (C.slc g_x0.2.2.2.2.2.1 x0.blocks.length g_x0.2.2.2.2.2.2) hs hcl hqC_9 hC_9 rfl fun a hs => ?_
 obtain ⟨v_12, h_11, hm⟩ := bind_t hm
 refine Vk.dOnly (i := 8) (by kernel_rfl) (Vk.call (some 14) 138 #[.slice g_x0.2.1 x0.ops.length g_x0.2.2.1] hs (by kernel_rfl) (by kernel_rfl) (by kernel_rfl) ?_)
 refine (slices_Clone_api_Op_api_Op.ok k x0.ops v_12 h_11 κ w (pt b_x0 (blk (Twire_Machine.obj x0 g_x0.1 g_x0.2.1 g_x0.2.2.1 g_x0.2.2.2.1 g_x0.2.2.2.2.1 g_x0.2.2.2.2.2.1 g_x0.2.2.2.2.2.2) 139) :: opto x0.dry (Ttape_Tape.own g_x0.1 x0.tape) :: rowp g_x0.2.1 g_x0.2.2.1 93 6 Tapi_Op.cells x0.ops :: rowp g_x0.2.2.2.1 g_x0.2.2.2.2.1 32 1 (eI .u64) x0.values :: rowp g_x0.2.2.2.2.2.1 g_x0.2.2.2.2.2.2 175 3 Tapi_Span.cells x0.blocks :: pt b_2 (blk [ci 0, C.slc none 0 0, C.slc none 0 0] 102) :: S) g_x0.2.1 g_x0.2.2.1 (Sl.lift (fun w ho => (Own.to (S' := rowp g_x0.2.1 g_x0.2.2.1 93 6 Tapi_Op.cells x0.ops :: S) ho [2] 6 (by kernel_rfl) (by kernel_rfl))) (Own.rowSl 0 (Own.to (S' := rowp g_x0.2.1 g_x0.2.2.1 93 6 Tapi_Op.cells x0.ops :: S) hs.own [2] 6 (by kernel_rfl) (by kernel_rfl)) rfl)) hs.own).mono ?_
 rintro _ w ⟨Ar10x0_13, cr10x0_14, rfl, how⟩
 refine ⟨_, _, _, rfl, how, fun a hs => ?_⟩
 replace hcl := qO hC_9 hs.own.drop
 refine ⟨fun _ => hcl, ?_⟩
 obtain ⟨v_17, h_16, hm⟩ := bind_t hm
 refine Vk.dOnly (i := 13) (by kernel_rfl) (Vk.call (some 19) 139 #[.slice g_x0.2.2.2.2.2.1 x0.blocks.length g_x0.2.2.2.2.2.2] hs (by kernel_rfl) (by kernel_rfl) (by kernel_rfl) ?_)
 refine (slices_Clone_api_Span_api_Span.ok k x0.blocks v_17 h_16 κ w (rowp Ar10x0_13 cr10x0_14 93 6 Tapi_Op.cells v_12 :: pt b_x0 (blk (Twire_Machine.obj x0 g_x0.1 g_x0.2.1 g_x0.2.2.1 g_x0.2.2.2.1 g_x0.2.2.2.2.1 g_x0.2.2.2.2.2.1 g_x0.2.2.2.2.2.2) 139) :: opto x0.dry (Ttape_Tape.own g_x0.1 x0.tape) :: rowp g_x0.2.1 g_x0.2.2.1 93 6 Tapi_Op.cells x0.ops :: rowp g_x0.2.2.2.1 g_x0.2.2.2.2.1 32 1 (eI .u64) x0.values :: rowp g_x0.2.2.2.2.2.1 g_x0.2.2.2.2.2.2 175 3 Tapi_Span.cells x0.blocks :: pt b_2 (blk [ci 0, C.slc none 0 0, C.slc none 0 0] 102) :: S) g_x0.2.2.2.2.2.1 g_x0.2.2.2.2.2.2 (Sl.lift (fun w ho => (Own.to (S' := rowp g_x0.2.2.2.2.2.1 g_x0.2.2.2.2.2.2 175 3 Tapi_Span.cells x0.blocks :: S) ho [5] 7 (by kernel_rfl) (by kernel_rfl))) (Own.rowSl 0 (Own.to (S' := rowp g_x0.2.2.2.2.2.1 g_x0.2.2.2.2.2.2 175 3 Tapi_Span.cells x0.blocks :: S) hs.own [5] 7 (by kernel_rfl) (by kernel_rfl)) rfl)) hs.own).mono ?_
 rintro _ w ⟨Ar15x0_18, cr15x0_19, rfl, how⟩
 refine ⟨_, _, _, rfl, how, fun a hs => ?_⟩
 replace hcl := qO hC_9 hs.own.f1.drop.drop
 refine ⟨fun _ => hcl, ?_⟩
 refine qdp (fuel := 1) [14] hs hcl hqC_9 fun a hs => ?_
 refine Vk.dOnly (i := 15) (by kernel_rfl) (Vk.storeA (b := b_2) (ty := 102) (x := (.tmp 2)) (y := (.tmp 20)) (sz := 3) [ci x0.n, C.slc Ar10x0_13 v_12.length cr10x0_14, C.slc Ar15x0_18 v_17.length cr15x0_19] 7 hs (by kernel_rfl) (by kernel_rfl) (by kernel_rfl) (by kernel_rfl) (by kernel_rfl) rfl (by kernel_rfl) rfl (Eq.trans (b := 3) rfl (Eq.symm rfl)) fun a w hs => ?_)
 refine ⟨fun h => absurd h (by decide), ?_⟩
 replace hs := hs.pick [2] (L' := [(2, pp b_2)]) (by kernel_rfl)
 refine Vk.dDone (by kernel_rfl) ?_
 refine hK5 _ _ ?_
 clear hK5
 refine wp_ret ?_
 replace hs := hs.bagG (l := Twire_Machine.parts b_x0 x0 g_x0) (S' := rowp Ar15x0_18 cr15x0_19 175 3 Tapi_Span.cells v_17 :: rowp Ar10x0_13 cr10x0_14 93 6 Tapi_Op.cells v_12 :: pt b_2 (blk [ci x0.n, C.slc Ar10x0_13 v_12.length cr10x0_14, C.slc Ar15x0_18 v_17.length cr15x0_19] 102) :: S) hs.own.f6.f6.f6.f6.f6
 exact Vk.retC (P := Try.prog) (fn := Try.f62) (R := RR) [ci x0.n, C.slc Ar10x0_13 v_12.length cr10x0_14, C.slc Ar15x0_18 v_17.length cr15x0_19] hs rfl (by kernel_rfl) (sz := 3) (by kernel_rfl) rfl (CellsAt.all 3 rfl) (by obtain rfl := Option.some.inj hm; subst hRR; exact ⟨Ar10x0_13, cr10x0_14, Ar15x0_18, cr15x0_19, rfl, hs.own.f3.drop.f1.f2⟩)


def visorref18_Same.j2 (k : Nat) (rec36 : Int → Option (Sum (Bool) (Unit))) (q_37 : Int) (p_62 : Tapi_Op) (p_66 : Tapi_Op) : Option (Sum (Bool) (Unit)) := (bif !(((p_66.kind == p_62.kind) && ((p_66.dom == p_62.dom) && ((p_66.a == p_62.a) && ((p_66.b == p_62.b) && ((p_66.d == p_62.d) && ((p_66.c == p_62.c) && true))))))) then some (.inl false) else rec36 (IntKind.i64.wrap (q_37 + 1)))
def visorref18_Same.j1 (k : Nat) (rec36 : Int → Option (Sum (Bool) (Unit))) (q_37 : Int) (p_60 : Tapi_Op) (p_62 : Tapi_Op) : Option (Sum (Bool) (Unit)) := (bif (p_60.kind == 4) && (p_62.kind == 4) then visorref18_Same.j2 k (rec36) q_37 p_62 (⟨p_60.kind, p_60.dom, p_60.a, p_60.b, p_60.d, p_62.c⟩ : Tapi_Op) else visorref18_Same.j2 k (rec36) q_37 p_62 p_60)
def visorref18_Same.l2 (x0 : Tapi_Trace) (x1 : Tapi_Trace) : Nat → Int → Option (Sum (Bool) (Unit))
 | 0, _ => none
 | k + 1, q_37 => (bif decide (q_37 < ((x0.ops.length : Nat) : Int)) then (if 0 ≤ q_37 then (x0.ops[q_37.toNat]?).bind fun e_46 => (if 0 ≤ q_37 then (x1.ops[q_37.toNat]?).bind fun e_53 => visorref18_Same.j1 k (visorref18_Same.l2 x0 x1 k) q_37 e_46 e_53 else none) else none) else some (.inr ()))
def visorref18_Same.l1 (x0 : Tapi_Trace) (x1 : Tapi_Trace) : Nat → Int → Option (Sum (Bool) (Unit))
 | 0, _ => none
 | k + 1, q_12 => (bif decide (q_12 < ((x0.blocks.length : Nat) : Int)) then (if 0 ≤ q_12 then (x0.blocks[q_12.toNat]?).bind fun e_21 => (if 0 ≤ q_12 then (x1.blocks[q_12.toNat]?).bind fun e_28 => (bif !(((e_21.kind == e_28.kind) && ((e_21.fromF == e_28.fromF) && ((e_21.to == e_28.to) && true)))) then some (.inl false) else visorref18_Same.l1 x0 x1 k (IntKind.i64.wrap (q_12 + 1))) else none) else none) else some (.inr ()))
abbrev visorref18_Same.R (κ : Ctx) (S : List HP) (x0 : Tapi_Trace) (x1 : Tapi_Trace) (A_x0ops : Option Addr) (c_x0ops : Nat) (A_x0blocks : Option Addr) (c_x0blocks : Nat) (A_x1ops : Option Addr) (c_x1ops : Nat) (A_x1blocks : Option Addr) (c_x1blocks : Nat) (r : Bool) : Ending → World → Prop := fun e w' => e = .returned (.bool r) ∧ Own κ w' (S)
def visorref18_Same.m (k : Nat) (x0 : Tapi_Trace) (x1 : Tapi_Trace) : Option Bool := (bif ((x0.n != x1.n) || (((x0.ops.length : Nat) : Int) != ((x1.ops.length : Nat) : Int))) || (((x0.blocks.length : Nat) : Int) != ((x1.blocks.length : Nat) : Int)) then some false else (visorref18_Same.l1 x0 x1 k 0).bind fun x => match x with | .inl v => some v | .inr () => (visorref18_Same.l2 x0 x1 k 0).bind fun x => match x with | .inl v => some v | .inr () => some true)

set_option maxRecDepth 100000 in
set_option maxHeartbeats 4000000 in
theorem visorref18_Same.ok (k : Nat) (x0 : Tapi_Trace) (x1 : Tapi_Trace) (r : Bool) (hm : visorref18_Same.m k x0 x1 = some r) (κ : Ctx) (w : World) (S : List HP) (A_x0ops : Option Addr) (c_x0ops : Nat) (hx_x0ops : Sl κ S A_x0ops c_x0ops 6 Tapi_Op.cells x0.ops) (A_x0blocks : Option Addr) (c_x0blocks : Nat) (hx_x0blocks : Sl κ S A_x0blocks c_x0blocks 3 Tapi_Span.cells x0.blocks) (A_x1ops : Option Addr) (c_x1ops : Nat) (hx_x1ops : Sl κ S A_x1ops c_x1ops 6 Tapi_Op.cells x1.ops) (A_x1blocks : Option Addr) (c_x1blocks : Nat) (hx_x1blocks : Sl κ S A_x1blocks c_x1blocks 3 Tapi_Span.cells x1.blocks) (ho : Own κ w (S)) :
  Calls Try.prog 109 #[.agg (vals [ci x0.n, C.slc A_x0ops x0.ops.length c_x0ops, C.slc A_x0blocks x0.blocks.length c_x0blocks]), .agg (vals [ci x1.n, C.slc A_x1ops x1.ops.length c_x1ops, C.slc A_x1blocks x1.blocks.length c_x1blocks])] w (visorref18_Same.R κ S x0 x1 A_x0ops c_x0ops A_x0blocks c_x0blocks A_x1ops c_x1ops A_x1blocks c_x1blocks r) := by
 unfold visorref18_Same.m at hm
 generalize hRR : visorref18_Same.R κ S x0 x1 A_x0ops c_x0ops A_x0blocks c_x0blocks A_x1ops c_x1ops A_x1blocks c_x1blocks r = RR
 refine qen [(0, .agg (vals [ci x0.n, C.slc A_x0ops x0.ops.length c_x0ops, C.slc A_x0blocks x0.blocks.length c_x0blocks])), (1, .agg (vals [ci x1.n, C.slc A_x1ops x1.ops.length c_x1ops, C.slc A_x1blocks x1.blocks.length c_x1blocks]))] Try.func109 Try.ntmps109 ho fun a hs => ?_
 refine qsr fun K1 hK1 => ?_
 refine qbx 0 102 [ci x0.n, C.slc A_x0ops x0.ops.length c_x0ops, C.slc A_x0blocks x0.blocks.length c_x0blocks] 2 hs fun b_2 w a hs => ?_
 refine qbx 1 102 [ci x1.n, C.slc A_x1ops x1.ops.length c_x1ops, C.slc A_x1blocks x1.blocks.length c_x1blocks] 3 hs fun b_3 w a hs => ?_
 refine qpe 1 [(2, pp b_2), (3, pp b_3)] hs fun a hs => hK1 _ _ ?_
 clear hK1
 refine Vk.seq fun K4 hK4 => ?_
 refine qsr fun K5 hK5 => ?_
 refine qpu 1 hs fun a hs => ?_
 refine qld 1 (ci x0.n) hs rfl fun a hs => ?_
 refine qpu 1 hs fun a hs => ?_
 refine qld 0 (ci x1.n) hs rfl fun a hs => ?_
 refine qpu 2 hs fun a hs => ?_
 suffices hj_6 : ∀ a, St 81 a w κ [(2, pp b_2), (3, pp b_3), (9, pp b_2), (10, vi x0.n), (11, pp b_3), (12, vi x1.n), (13, .bool (x0.n != x1.n)), (14, .bool (x0.n != x1.n)), (22, .bool ((x0.n != x1.n) || (((x0.ops.length : Nat) : Int) != ((x1.ops.length : Nat) : Int))))] (pt b_3 (blk (Tapi_Trace.obj x1 A_x1ops c_x1ops A_x1blocks c_x1blocks) 102) :: pt b_2 (blk (Tapi_Trace.obj x0 A_x0ops c_x0ops A_x0blocks c_x0blocks) 102) :: S) → wpFrom Try.prog _ _ 14 a w by
  rcases Bool.eq_false_or_eq_true (x0.n != x1.n) with hb | hb
  ·replace hs := hs.known (t := 14) hb (by kernel_rfl)
   refine qpu 8 hs fun a hs => ?_
   have hq := hs.pick [2, 3, 9, 10, 11, 12, 13, 14, 22] (L' := [(2, pp b_2), (3, pp b_3), (9, pp b_2), (10, vi x0.n), (11, pp b_3), (12, vi x1.n), (13, .bool (x0.n != x1.n)), (14, .bool true), (22, .bool true)]) (by kernel_rfl)
   exact hj_6 _ (hq.conv (by first | (rw [hb] <;> rfl) | rfl))
  ·replace hs := hs.known (t := 14) hb (by kernel_rfl)
   refine qpu 1 hs fun a hs => ?_
   refine qld 1 (C.slc A_x0ops x0.ops.length c_x0ops) hs rfl fun a hs => ?_
   refine qpu 2 hs fun a hs => ?_
   refine qld 0 (C.slc A_x1ops x1.ops.length c_x1ops) hs rfl fun a hs => ?_
   refine qpu 3 hs fun a hs => ?_
   have hq := hs.pick [2, 3, 9, 10, 11, 12, 13, 14, 22] (L' := [(2, pp b_2), (3, pp b_3), (9, pp b_2), (10, vi x0.n), (11, pp b_3), (12, vi x1.n), (13, .bool (x0.n != x1.n)), (14, .bool false), (22, .bool (((x0.ops.length : Nat) : Int) != ((x1.ops.length : Nat) : Int)))]) (by kernel_rfl)
   exact hj_6 _ (hq.conv (by first | (rw [hb] <;> rfl) | rfl))
 intro a hs
 refine qpu 1 hs fun a hs => ?_
 suffices hj_7 : ∀ a, St 81 a w κ [(2, pp b_2), (3, pp b_3), (9, pp b_2), (10, vi x0.n), (11, pp b_3), (12, vi x1.n), (13, .bool (x0.n != x1.n)), (14, .bool (x0.n != x1.n)), (22, .bool ((x0.n != x1.n) || (((x0.ops.length : Nat) : Int) != ((x1.ops.length : Nat) : Int)))), (23, .bool ((x0.n != x1.n) || (((x0.ops.length : Nat) : Int) != ((x1.ops.length : Nat) : Int)))), (31, .bool (((x0.n != x1.n) || (((x0.ops.length : Nat) : Int) != ((x1.ops.length : Nat) : Int))) || (((x0.blocks.length : Nat) : Int) != ((x1.blocks.length : Nat) : Int))))] (pt b_3 (blk (Tapi_Trace.obj x1 A_x1ops c_x1ops A_x1blocks c_x1blocks) 102) :: pt b_2 (blk (Tapi_Trace.obj x0 A_x0ops c_x0ops A_x0blocks c_x0blocks) 102) :: S) → wpFrom Try.prog _ _ 23 a w by
  rcases Bool.eq_false_or_eq_true ((x0.n != x1.n) || (((x0.ops.length : Nat) : Int) != ((x1.ops.length : Nat) : Int))) with hb | hb
  ·replace hs := hs.known (t := 23) hb (by kernel_rfl)
   refine qpu 8 hs fun a hs => ?_
   have hq := hs.pick [2, 3, 9, 10, 11, 12, 13, 14, 22, 23, 31] (L' := [(2, pp b_2), (3, pp b_3), (9, pp b_2), (10, vi x0.n), (11, pp b_3), (12, vi x1.n), (13, .bool (x0.n != x1.n)), (14, .bool (x0.n != x1.n)), (22, .bool ((x0.n != x1.n) || (((x0.ops.length : Nat) : Int) != ((x1.ops.length : Nat) : Int)))), (23, .bool true), (31, .bool true)]) (by kernel_rfl)
   exact hj_7 _ (hq.conv (by first | (rw [hb] <;> rfl) | rfl))
  ·replace hs := hs.known (t := 23) hb (by kernel_rfl)
   refine qpu 1 hs fun a hs => ?_
   refine qld 1 (C.slc A_x0blocks x0.blocks.length c_x0blocks) hs rfl fun a hs => ?_
   refine qpu 2 hs fun a hs => ?_
   refine qld 0 (C.slc A_x1blocks x1.blocks.length c_x1blocks) hs rfl fun a hs => ?_
   refine qpu 3 hs fun a hs => ?_
   have hq := hs.pick [2, 3, 9, 10, 11, 12, 13, 14, 22, 23, 31] (L' := [(2, pp b_2), (3, pp b_3), (9, pp b_2), (10, vi x0.n), (11, pp b_3), (12, vi x1.n), (13, .bool (x0.n != x1.n)), (14, .bool (x0.n != x1.n)), (22, .bool ((x0.n != x1.n) || (((x0.ops.length : Nat) : Int) != ((x1.ops.length : Nat) : Int)))), (23, .bool false), (31, .bool (((x0.blocks.length : Nat) : Int) != ((x1.blocks.length : Nat) : Int)))]) (by kernel_rfl)
   exact hj_7 _ (hq.conv (by first | (rw [hb] <;> rfl) | rfl))
 intro a hs
 refine qpk 0 [2, 3, 31] hs fun a hs => hK5 _ _ ?_
 clear hK5
 refine qcs (((x0.n != x1.n) || (((x0.ops.length : Nat) : Int) != ((x1.ops.length : Nat) : Int))) || (((x0.blocks.length : Nat) : Int) != ((x1.blocks.length : Nat) : Int))) hs (fun hb => ?_) fun hb => ?_
 ·replace hm := bif_t hm hb
  refine qse 1 [(4, .bool false)] hs fun a hs => ?_
  refine wp_ret ?_
  exact qr1 (.bool false) hs rfl hRR (by cases hm; exact ⟨rfl, hs.own.f1.drop.drop⟩)
 ·replace hm := bif_f hm hb
  refine wp_skip ?_
  refine hK4 _ _ ?_
  clear hK4
  refine Vk.seq fun K9 hK9 => ?_
  refine qsk 1 [2, 3, 5] hs fun a hs => ?_
  refine wp_block ?_
  obtain ⟨r11, hl11, hm⟩ := bind_t hm
  have hx11 : r11 = Sum.inr () → ∀ (a : Act) (w : World), St 81 a w κ [(2, pp b_2), (3, pp b_3)] (pt b_2 (blk (Tapi_Trace.obj x0 A_x0ops c_x0ops A_x0blocks c_x0blocks) 102) :: pt b_3 (blk (Tapi_Trace.obj x1 A_x1ops c_x1ops A_x1blocks c_x1blocks) 102) :: S) → K9 a w := by
   intro he a w hs
   subst r11
   refine hK9 _ _ ?_
   clear hK9
   refine Vk.seq fun K34 hK34 => ?_
   refine qsk 1 [2, 3, 6] hs fun a hs => ?_
   refine wp_block ?_
   obtain ⟨r36, hl36, hm⟩ := bind_t hm
   have hx36 : r36 = Sum.inr () → ∀ (a : Act) (w : World), St 81 a w κ [] (S) → K34 a w := by
    intro he a w hs
    subst r36
    refine hK34 _ _ ?_
    clear hK34
    refine qse 1 [(4, .bool true)] hs fun a hs => ?_
    refine wp_ret ?_
    exact qr1 (.bool true) hs rfl hRR (by cases hm; exact ⟨rfl, hs.own⟩)
   have hret36 : ∀ v, r36 = Sum.inl v → v = r := by intro v he; subst r36; exact Option.some.inj hm
   refine Vk.loopBy (fun k (s : Int) a w => visorref18_Same.l2 x0 x1 k s = some r36 ∧ St 81 a w κ [(2, pp b_2), (3, pp b_3), (6, vi s)] (pt b_2 (blk (Tapi_Trace.obj x0 A_x0ops c_x0ops A_x0blocks c_x0blocks) 102) :: pt b_3 (blk (Tapi_Trace.obj x1 A_x1ops c_x1ops A_x1blocks c_x1blocks) 102) :: S)) k 0 ⟨hl36, hs.go [2, 3, 6] [0, 1] 2 (by kernel_rfl) (by kernel_rfl) (by kernel_rfl)⟩ (fun s a w h => by obtain ⟨h1, _⟩ := h; simp [visorref18_Same.l2] at h1) (fun k KL36 ih q_37 a w h => ?_)
   obtain ⟨hm, hs⟩ := h
   try dsimp only at hm hs
   rw [visorref18_Same.l2] at hm
   refine Vk.seq fun K38 hK38 => ?_
   refine qsr fun K39 hK39 => ?_
   refine qpu 2 hs fun a hs => ?_
   refine qld 0 (C.slc A_x0ops x0.ops.length c_x0ops) hs rfl fun a hs => ?_
   refine qpk 2 [2, 3, 6, 54] hs fun a hs => hK39 _ _ ?_
   clear hK39
   refine qcs (decide (q_37 < ((x0.ops.length : Nat) : Int))) hs (fun hb => ?_) fun hb => ?_
   ·replace hm := bif_t hm hb
    refine wp_skip ?_
    refine hK38 _ _ ?_
    clear hK38
    refine Vk.seq fun K40 hK40 => ?_
    refine wp_block ?_
    refine Vk.seq fun K41 hK41 => ?_
    have hj41 : ∀ (p_60 : Tapi_Op) (p_62 : Tapi_Op), visorref18_Same.j1 k (visorref18_Same.l2 x0 x1 k) q_37 p_60 p_62 = some r36 → ∀ (b_59 : Nat) (b_61 : Nat) (a : Act) (w : World), St 81 a w κ [(2, pp b_2), (3, pp b_3), (6, vi q_37), (7, pp b_59), (8, pp b_61)] (pt b_2 (blk (Tapi_Trace.obj x0 A_x0ops c_x0ops A_x0blocks c_x0blocks) 102) :: pt b_3 (blk (Tapi_Trace.obj x1 A_x1ops c_x1ops A_x1blocks c_x1blocks) 102) :: pt b_59 (blk (Tapi_Op.cells p_60) 93) :: pt b_61 (blk (Tapi_Op.cells p_62) 93) :: S) → K41 a w := by
     intro p_60 p_62 hm b_59 b_61 a w hs
     unfold visorref18_Same.j1 at hm
     refine hK41 _ _ ?_
     refine Vk.seq fun K63 hK63 => ?_
     have hj63 : ∀ (p_66 : Tapi_Op), visorref18_Same.j2 k (visorref18_Same.l2 x0 x1 k) q_37 p_62 p_66 = some r36 → ∀ (a : Act) (w : World), St 81 a w κ [(2, pp b_2), (3, pp b_3), (6, vi q_37), (7, pp b_59), (8, pp b_61)] (pt b_2 (blk (Tapi_Trace.obj x0 A_x0ops c_x0ops A_x0blocks c_x0blocks) 102) :: pt b_3 (blk (Tapi_Trace.obj x1 A_x1ops c_x1ops A_x1blocks c_x1blocks) 102) :: pt b_59 (blk (Tapi_Op.cells p_66) 93) :: pt b_61 (blk (Tapi_Op.cells p_62) 93) :: S) → K63 a w := by
      intro p_66 hm a w hs
      unfold visorref18_Same.j2 at hm
      refine hK63 _ _ ?_
      refine qsr fun K67 hK67 => ?_
      refine qln 2 ([ci p_66.kind, ci p_66.dom, ci p_66.a, ci p_66.b, ci p_66.d, cw p_66.c]) hs rfl fun a hs => ?_
      refine qln 3 ([ci p_62.kind, ci p_62.dom, ci p_62.a, ci p_62.b, ci p_62.d, cw p_62.c]) hs rfl fun a hs => ?_
      refine Vk.step (Vk.value (some 80) (.bool (!(((p_66.kind == p_62.kind) && ((p_66.dom == p_62.dom) && ((p_66.a == p_62.a) && ((p_66.b == p_62.b) && ((p_66.d == p_62.d) && ((p_66.c == p_62.c) && true))))))))) hs (by kernel_rfl) (op := (.binOp .neq 93 (.tmp 78) (.tmp 79) 93)) (by kernel_rfl) (fun o ho => run_neqV (ks := ([LK.int .i64] ++ [LK.int .i64] ++ [LK.int .i64] ++ [LK.int .i64] ++ [LK.int .i64] ++ [LK.int .u64])) (cs := [ci p_66.kind, ci p_66.dom, ci p_66.a, ci p_66.b, ci p_66.d, cw p_66.c]) (us := [ci p_62.kind, ci p_62.dom, ci p_62.a, ci p_62.b, ci p_62.d, cw p_62.c]) ho (by kernel_rfl) (by kernel_rfl) (by kernel_rfl) rfl rfl _) fun a hs => ?_)
      refine qpk 0 [2, 3, 6, 80] hs fun a hs => hK67 _ _ ?_
      clear hK67
      refine qcs (!(((p_66.kind == p_62.kind) && ((p_66.dom == p_62.dom) && ((p_66.a == p_62.a) && ((p_66.b == p_62.b) && ((p_66.d == p_62.d) && ((p_66.c == p_62.c) && true)))))))) hs (fun hb => ?_) fun hb => ?_
      ·replace hm := bif_t hm hb
       refine qse 1 [(4, .bool false)] hs fun a hs => ?_
       refine wp_ret ?_
       exact Vk.ret1 (P := Try.prog) (fn := Try.f109) (R := RR) (.bool false) hs rfl (by kernel_rfl) (by obtain rfl := hret36 _ ((Option.some.inj hm).symm); subst hRR; exact ⟨rfl, (hs.own.too [] 4)⟩)
      ·replace hm := bif_f hm hb
       refine wp_skip ?_
       refine hK40 _ _ ?_
       clear hK40
       refine Vk.region ?_
       refine qpe 3 [(2, pp b_2), (3, pp b_3), (6, vi (IntKind.i64.wrap (q_37 + 1)))] hs fun a hs => ?_
       refine ih (IntKind.i64.wrap (q_37 + 1)) _ _ ⟨hm, hs.go [2, 3, 6] [0, 1] 4 (by kernel_rfl) (by kernel_rfl) (by kernel_rfl)⟩
     refine qsr fun K64 hK64 => ?_
     refine qpu 1 hs fun a hs => ?_
     refine qld 2 (ci p_60.kind) hs rfl fun a hs => ?_
     refine qpu 2 hs fun a hs => ?_
     suffices hj_65 : ∀ a, St 81 a w κ [(2, pp b_2), (3, pp b_3), (6, vi q_37), (7, pp b_59), (8, pp b_61), (67, pp b_59), (68, vi p_60.kind), (69, .bool (p_60.kind == 4)), (70, .bool (p_60.kind == 4)), (74, .bool ((p_60.kind == 4) && (p_62.kind == 4)))] (pt b_2 (blk (Tapi_Trace.obj x0 A_x0ops c_x0ops A_x0blocks c_x0blocks) 102) :: pt b_3 (blk (Tapi_Trace.obj x1 A_x1ops c_x1ops A_x1blocks c_x1blocks) 102) :: pt b_59 (blk (Tapi_Op.cells p_60) 93) :: pt b_61 (blk (Tapi_Op.cells p_62) 93) :: S) → wpFrom Try.prog _ _ 8 a w by
      rcases Bool.eq_false_or_eq_true (p_60.kind == 4) with hb | hb
      ·replace hs := hs.known (t := 70) hb (by kernel_rfl)
       refine qpu 1 hs fun a hs => ?_
       refine qld 3 (ci p_62.kind) hs rfl fun a hs => ?_
       refine qpu 2 hs fun a hs => ?_
       have hq := hs.pick [2, 3, 6, 7, 8, 67, 68, 69, 70, 74] (L' := [(2, pp b_2), (3, pp b_3), (6, vi q_37), (7, pp b_59), (8, pp b_61), (67, pp b_59), (68, vi p_60.kind), (69, .bool (p_60.kind == 4)), (70, .bool true), (74, .bool (p_62.kind == 4))]) (by kernel_rfl)
       exact hj_65 _ (hq.conv (by first | (rw [hb] <;> rfl) | rfl))
      ·replace hs := hs.known (t := 70) hb (by kernel_rfl)
       refine qpu 4 hs fun a hs => ?_
       have hq := hs.pick [2, 3, 6, 7, 8, 67, 68, 69, 70, 74] (L' := [(2, pp b_2), (3, pp b_3), (6, vi q_37), (7, pp b_59), (8, pp b_61), (67, pp b_59), (68, vi p_60.kind), (69, .bool (p_60.kind == 4)), (70, .bool false), (74, .bool false)]) (by kernel_rfl)
       exact hj_65 _ (hq.conv (by first | (rw [hb] <;> rfl) | rfl))
     intro a hs
     refine qpk 0 [2, 3, 6, 7, 8, 74] hs fun a hs => hK64 _ _ ?_
     clear hK64
     refine qcs ((p_60.kind == 4) && (p_62.kind == 4)) hs (fun hb => ?_) fun hb => ?_
     ·replace hm := bif_t hm hb
      refine Vk.region ?_
      refine qpu 1 hs fun a hs => ?_
      refine qld 3 (cw p_62.c) hs rfl fun a hs => ?_
      refine qpu 1 hs fun a hs => ?_
      refine qst 2 5 (cw p_62.c) hs rfl fun a w hs => ?_
      refine qpe 0 [(2, pp b_2), (3, pp b_3), (6, vi q_37), (7, pp b_59), (8, pp b_61)] hs fun a hs => ?_
      exact hj63 (⟨p_60.kind, p_60.dom, p_60.a, p_60.b, p_60.d, p_62.c⟩ : Tapi_Op) hm _ _ (hs.go [2, 3, 6, 7, 8] [0, 1, 2, 3] 4 (by kernel_rfl) (by kernel_rfl) (by kernel_rfl))
     ·replace hm := bif_f hm hb
      refine wp_skip ?_
      exact hj63 p_60 hm _ _ (hs.go [2, 3, 6, 7, 8] [0, 1, 2, 3] 4 (by kernel_rfl) (by kernel_rfl) (by kernel_rfl))
    obtain ⟨C_42, hC_42⟩ := qC hs.own
    refine qdr 13 κ C_42 hs fun w hs hqC_42 => ?_
    have hcl := qO hC_42 hs.own
    refine qdp (fuel := 10) [0, 2, 5, 7] hs hcl hqC_42 fun a hs => ?_
    refine qdl 1 0 (C.slc A_x0ops x0.ops.length c_x0ops) hs hcl hqC_42 hC_42 rfl fun a hs => ?_
    obtain ⟨h_43, hm⟩ := ite_t hm
    obtain ⟨e_46, h_44, hm⟩ := bind_t hm
    obtain ⟨b_47, o_48, hA_49, h_45⟩ := Sl.elem hx_x0ops h_44
    refine Vk.dTakeT (i := 3) (some 60) (.pointer (some ⟨b_47, o_48 + q_37.toNat * 6, none⟩)) hs (by kernel_rfl) hqC_42 hcl (by kernel_rfl) (by kernel_rfl) (op := (.indexAddr 59 (.tmp 58) (.tmp 59))) (by kernel_rfl) (by kernel_rfl) (fun w hw o ho => by rw [hC_42] at hw; exact run_idxSlc (k := .i64) ho (cap := c_x0ops) (len := x0.ops.length) ((congrArg (fun A => Value.slice A (x0.ops.length) (c_x0ops)) hA_49) ▸ (by kernel_rfl)) (by kernel_rfl) (by kernel_rfl) (idx_ok h_43 h_44) _) fun a hs => ?_
    refine Vk.dTakeT (i := 4) (some 61) (.agg (vals [ci e_46.kind, ci e_46.dom, ci e_46.a, ci e_46.b, ci e_46.d, cw e_46.c])) hs (by kernel_rfl) hqC_42 hcl (by kernel_rfl) (by kernel_rfl) (op := (.load 93 (.tmp 60))) (by kernel_rfl) (by kernel_rfl) (fun w hw o ho => by rw [hC_42] at hw; exact run_loadN (cs := [ci e_46.kind, ci e_46.dom, ci e_46.a, ci e_46.b, ci e_46.d, cw e_46.c]) ho (by kernel_rfl) (by kernel_rfl) rfl h_45 _ hw.drop.drop) fun a hs => ?_
    refine qdl 6 1 (C.slc A_x1ops x1.ops.length c_x1ops) hs hcl hqC_42 hC_42 rfl fun a hs => ?_
    obtain ⟨h_50, hm⟩ := ite_t hm
    obtain ⟨e_53, h_51, hm⟩ := bind_t hm
    obtain ⟨b_54, o_55, hA_56, h_52⟩ := Sl.elem hx_x1ops h_51
    refine Vk.dTakeT (i := 8) (some 65) (.pointer (some ⟨b_54, o_55 + q_37.toNat * 6, none⟩)) hs (by kernel_rfl) hqC_42 hcl (by kernel_rfl) (by kernel_rfl) (op := (.indexAddr 59 (.tmp 63) (.tmp 64))) (by kernel_rfl) (by kernel_rfl) (fun w hw o ho => by rw [hC_42] at hw; exact run_idxSlc (k := .i64) ho (cap := c_x1ops) (len := x1.ops.length) ((congrArg (fun A => Value.slice A (x1.ops.length) (c_x1ops)) hA_56) ▸ (by kernel_rfl)) (by kernel_rfl) (by kernel_rfl) (idx_ok h_50 h_51) _) fun a hs => ?_
    refine Vk.dTakeT (i := 9) (some 66) (.agg (vals [ci e_53.kind, ci e_53.dom, ci e_53.a, ci e_53.b, ci e_53.d, cw e_53.c])) hs (by kernel_rfl) hqC_42 hcl (by kernel_rfl) (by kernel_rfl) (op := (.load 93 (.tmp 65))) (by kernel_rfl) (by kernel_rfl) (fun w hw o ho => by rw [hC_42] at hw; exact run_loadN (cs := [ci e_53.kind, ci e_53.dom, ci e_53.a, ci e_53.b, ci e_53.d, cw e_53.c]) ho (by kernel_rfl) (by kernel_rfl) rfl h_52 _ hw.drop.drop) fun a hs => ?_
    refine Vk.dMany2 (i0 := 10) (i1 := 11) (by kernel_rfl) ?_ ?_
    ·refine Vk.alloc 7 93 [ci 0, ci 0, ci 0, ci 0, ci 0, cw 0] hs (by kernel_rfl) (by kernel_rfl) (by kernel_rfl) fun b_57 w a hs => ?_
     replace hcl := qO hC_42 hs.own.drop
     refine ⟨fun _ => hcl, ?_⟩
     refine Vk.dOnly (i := 11) (by kernel_rfl) (Vk.alloc 8 93 [ci 0, ci 0, ci 0, ci 0, ci 0, cw 0] hs (by kernel_rfl) (by kernel_rfl) (by kernel_rfl) fun b_58 w a hs => ?_)
     replace hcl := qO hC_42 hs.own.f1.drop.drop
     refine ⟨fun _ => hcl, ?_⟩
     refine Vk.dOnly (i := 12) (by kernel_rfl) (Vk.storeA (b := b_57) (ty := 93) (x := (.tmp 7)) (y := (.tmp 61)) (sz := 6) [ci e_46.kind, ci e_46.dom, ci e_46.a, ci e_46.b, ci e_46.d, cw e_46.c] 1 hs (by kernel_rfl) (by kernel_rfl) (by kernel_rfl) (by kernel_rfl) (by kernel_rfl) rfl (by kernel_rfl) rfl (Eq.trans (b := 6) rfl (Eq.symm rfl)) fun a w hs => ?_)
     replace hcl := qO hC_42 hs.own.f1.drop.drop
     refine ⟨fun _ => hcl, ?_⟩
     refine Vk.dOnly (i := 13) (by kernel_rfl) (Vk.storeA (b := b_58) (ty := 93) (x := (.tmp 8)) (y := (.tmp 66)) (sz := 6) [ci e_53.kind, ci e_53.dom, ci e_53.a, ci e_53.b, ci e_53.d, cw e_53.c] 0 hs (by kernel_rfl) (by kernel_rfl) (by kernel_rfl) (by kernel_rfl) (by kernel_rfl) rfl (by kernel_rfl) rfl (Eq.trans (b := 6) rfl (Eq.symm rfl)) fun a w hs => ?_)
     refine ⟨fun h => absurd h (by decide), ?_⟩
     replace hs := hs.pick [2, 3, 6, 7, 8] (L' := [(2, pp b_2), (3, pp b_3), (6, vi q_37), (7, pp b_57), (8, pp b_58)]) (by kernel_rfl)
     refine Vk.dDone (by kernel_rfl) ?_
     exact hj41 e_46 e_53 hm b_57 b_58 _ _ (hs.go [2, 3, 6, 7, 8] [2, 3, 1, 0] 4 (by kernel_rfl) (by kernel_rfl) (by kernel_rfl))
    ·refine Vk.alloc 8 93 [ci 0, ci 0, ci 0, ci 0, ci 0, cw 0] hs (by kernel_rfl) (by kernel_rfl) (by kernel_rfl) fun b_57 w a hs => ?_
     replace hcl := qO hC_42 hs.own.drop
     refine ⟨fun _ => hcl, ?_⟩
     refine Vk.dOnly (i := 10) (by kernel_rfl) (Vk.alloc 7 93 [ci 0, ci 0, ci 0, ci 0, ci 0, cw 0] hs (by kernel_rfl) (by kernel_rfl) (by kernel_rfl) fun b_58 w a hs => ?_)
     replace hcl := qO hC_42 hs.own.f1.drop.drop
     refine ⟨fun _ => hcl, ?_⟩
     refine Vk.dOnly (i := 12) (by kernel_rfl) (Vk.storeA (b := b_58) (ty := 93) (x := (.tmp 7)) (y := (.tmp 61)) (sz := 6) [ci e_46.kind, ci e_46.dom, ci e_46.a, ci e_46.b, ci e_46.d, cw e_46.c] 0 hs (by kernel_rfl) (by kernel_rfl) (by kernel_rfl) (by kernel_rfl) (by kernel_rfl) rfl (by kernel_rfl) rfl (Eq.trans (b := 6) rfl (Eq.symm rfl)) fun a w hs => ?_)
     replace hcl := qO hC_42 hs.own.f1.drop.drop
     refine ⟨fun _ => hcl, ?_⟩
     refine Vk.dOnly (i := 13) (by kernel_rfl) (Vk.storeA (b := b_57) (ty := 93) (x := (.tmp 8)) (y := (.tmp 66)) (sz := 6) [ci e_53.kind, ci e_53.dom, ci e_53.a, ci e_53.b, ci e_53.d, cw e_53.c] 1 hs (by kernel_rfl) (by kernel_rfl) (by kernel_rfl) (by kernel_rfl) (by kernel_rfl) rfl (by kernel_rfl) rfl (Eq.trans (b := 6) rfl (Eq.symm rfl)) fun a w hs => ?_)
     refine ⟨fun h => absurd h (by decide), ?_⟩
     replace hs := hs.pick [2, 3, 6, 7, 8] (L' := [(2, pp b_2), (3, pp b_3), (6, vi q_37), (7, pp b_58), (8, pp b_57)]) (by kernel_rfl)
     refine Vk.dDone (by kernel_rfl) ?_
     exact hj41 e_46 e_53 hm b_58 b_57 _ _ (hs.go [2, 3, 6, 7, 8] [2, 3, 0, 1] 4 (by kernel_rfl) (by kernel_rfl) (by kernel_rfl))
   ·replace hm := bif_f hm hb
    refine wp_exit ?_
    exact hx36 (Option.some.inj hm).symm _ _ (hs.go [] [] 2 (by kernel_rfl) (by kernel_rfl) (by kernel_rfl))
  have hret11 : ∀ v, r11 = Sum.inl v → v = r := by intro v he; subst r11; exact Option.some.inj hm
  refine Vk.loopBy (fun k (s : Int) a w => visorref18_Same.l1 x0 x1 k s = some r11 ∧ St 81 a w κ [(2, pp b_2), (3, pp b_3), (5, vi s)] (pt b_2 (blk (Tapi_Trace.obj x0 A_x0ops c_x0ops A_x0blocks c_x0blocks) 102) :: pt b_3 (blk (Tapi_Trace.obj x1 A_x1ops c_x1ops A_x1blocks c_x1blocks) 102) :: S)) k 0 ⟨hl11, hs.go [2, 3, 5] [1, 0] 2 (by kernel_rfl) (by kernel_rfl) (by kernel_rfl)⟩ (fun s a w h => by obtain ⟨h1, _⟩ := h; simp [visorref18_Same.l1] at h1) (fun k KL11 ih q_12 a w h => ?_)
  obtain ⟨hm, hs⟩ := h
  try dsimp only at hm hs
  rw [visorref18_Same.l1] at hm
  refine Vk.seq fun K13 hK13 => ?_
  refine qsr fun K14 hK14 => ?_
  refine qpu 2 hs fun a hs => ?_
  refine qld 0 (C.slc A_x0blocks x0.blocks.length c_x0blocks) hs rfl fun a hs => ?_
  refine qpk 2 [2, 3, 5, 36] hs fun a hs => hK14 _ _ ?_
  clear hK14
  refine qcs (decide (q_12 < ((x0.blocks.length : Nat) : Int))) hs (fun hb => ?_) fun hb => ?_
  ·replace hm := bif_t hm hb
   refine wp_skip ?_
   refine hK13 _ _ ?_
   clear hK13
   refine Vk.seq fun K15 hK15 => ?_
   refine wp_block ?_
   refine Vk.seq fun K16 hK16 => ?_
   obtain ⟨C_17, hC_17⟩ := qC hs.own
   refine qdr 11 κ C_17 hs fun w hs hqC_17 => ?_
   have hcl := qO hC_17 hs.own
   refine qdp (fuel := 7) [0, 2, 5, 7] hs hcl hqC_17 fun a hs => ?_
   refine qdl 1 0 (C.slc A_x0blocks x0.blocks.length c_x0blocks) hs hcl hqC_17 hC_17 rfl fun a hs => ?_
   obtain ⟨h_18, hm⟩ := ite_t hm
   obtain ⟨e_21, h_19, hm⟩ := bind_t hm
   obtain ⟨b_22, o_23, hA_24, h_20⟩ := Sl.elem hx_x0blocks h_19
   refine Vk.dTakeT (i := 3) (some 42) (.pointer (some ⟨b_22, o_23 + q_12.toNat * 3, none⟩)) hs (by kernel_rfl) hqC_17 hcl (by kernel_rfl) (by kernel_rfl) (op := (.indexAddr 60 (.tmp 40) (.tmp 41))) (by kernel_rfl) (by kernel_rfl) (fun w hw o ho => by rw [hC_17] at hw; exact run_idxSlc (k := .i64) ho (cap := c_x0blocks) (len := x0.blocks.length) ((congrArg (fun A => Value.slice A (x0.blocks.length) (c_x0blocks)) hA_24) ▸ (by kernel_rfl)) (by kernel_rfl) (by kernel_rfl) (idx_ok h_18 h_19) _) fun a hs => ?_
   refine Vk.dTakeT (i := 4) (some 43) (.agg (vals [ci e_21.kind, ci e_21.fromF, ci e_21.to])) hs (by kernel_rfl) hqC_17 hcl (by kernel_rfl) (by kernel_rfl) (op := (.load 175 (.tmp 42))) (by kernel_rfl) (by kernel_rfl) (fun w hw o ho => by rw [hC_17] at hw; exact run_loadN (cs := [ci e_21.kind, ci e_21.fromF, ci e_21.to]) ho (by kernel_rfl) (by kernel_rfl) rfl h_20 _ hw.drop.drop) fun a hs => ?_
   refine qdl 6 1 (C.slc A_x1blocks x1.blocks.length c_x1blocks) hs hcl hqC_17 hC_17 rfl fun a hs => ?_
   obtain ⟨h_25, hm⟩ := ite_t hm
   obtain ⟨e_28, h_26, hm⟩ := bind_t hm
   obtain ⟨b_29, o_30, hA_31, h_27⟩ := Sl.elem hx_x1blocks h_26
   refine Vk.dTakeT (i := 8) (some 47) (.pointer (some ⟨b_29, o_30 + q_12.toNat * 3, none⟩)) hs (by kernel_rfl) hqC_17 hcl (by kernel_rfl) (by kernel_rfl) (op := (.indexAddr 60 (.tmp 45) (.tmp 46))) (by kernel_rfl) (by kernel_rfl) (fun w hw o ho => by rw [hC_17] at hw; exact run_idxSlc (k := .i64) ho (cap := c_x1blocks) (len := x1.blocks.length) ((congrArg (fun A => Value.slice A (x1.blocks.length) (c_x1blocks)) hA_31) ▸ (by kernel_rfl)) (by kernel_rfl) (by kernel_rfl) (idx_ok h_25 h_26) _) fun a hs => ?_
   refine Vk.dTakeT (i := 9) (some 48) (.agg (vals [ci e_28.kind, ci e_28.fromF, ci e_28.to])) hs (by kernel_rfl) hqC_17 hcl (by kernel_rfl) (by kernel_rfl) (op := (.load 175 (.tmp 47))) (by kernel_rfl) (by kernel_rfl) (fun w hw o ho => by rw [hC_17] at hw; exact run_loadN (cs := [ci e_28.kind, ci e_28.fromF, ci e_28.to]) ho (by kernel_rfl) (by kernel_rfl) rfl h_27 _ hw.drop.drop) fun a hs => ?_
   refine Vk.dTakeT (i := 10) (some 49) (.bool (!(((e_21.kind == e_28.kind) && ((e_21.fromF == e_28.fromF) && ((e_21.to == e_28.to) && true)))))) hs (by kernel_rfl) hqC_17 hcl (by kernel_rfl) (by kernel_rfl) (op := (.binOp .neq 175 (.tmp 43) (.tmp 48) 175)) (by kernel_rfl) (by kernel_rfl) (fun w hw o ho => by rw [hC_17] at hw; exact run_neqV (ks := ([LK.int .i64] ++ [LK.int .i64] ++ [LK.int .i64])) (cs := [ci e_21.kind, ci e_21.fromF, ci e_21.to]) (us := [ci e_28.kind, ci e_28.fromF, ci e_28.to]) ho (by kernel_rfl) (by kernel_rfl) (by kernel_rfl) rfl rfl _) fun a hs => ?_
   replace hs := hs.pick [2, 3, 5, 49] (L' := [(2, pp b_2), (3, pp b_3), (5, vi q_12), (49, .bool (!(((e_21.kind == e_28.kind) && ((e_21.fromF == e_28.fromF) && ((e_21.to == e_28.to) && true))))))]) (by kernel_rfl)
   refine Vk.dDone (by kernel_rfl) ?_
   refine hK16 _ _ ?_
   clear hK16
   refine qcs (!(((e_21.kind == e_28.kind) && ((e_21.fromF == e_28.fromF) && ((e_21.to == e_28.to) && true))))) hs (fun hb => ?_) fun hb => ?_
   ·replace hm := bif_t hm hb
    refine qse 1 [(4, .bool false)] hs fun a hs => ?_
    refine wp_ret ?_
    exact Vk.ret1 (P := Try.prog) (fn := Try.f109) (R := RR) (.bool false) hs rfl (by kernel_rfl) (by obtain rfl := hret11 _ ((Option.some.inj hm).symm); subst hRR; exact ⟨rfl, hs.own.f1.drop.drop⟩)
   ·replace hm := bif_f hm hb
    refine wp_skip ?_
    refine hK15 _ _ ?_
    clear hK15
    refine Vk.region ?_
    refine qpk 3 [2, 3, 5] hs fun a hs => ?_
    refine ih (IntKind.i64.wrap (q_12 + 1)) _ _ ⟨hm, hs.go [2, 3, 5] [0, 1] 2 (by kernel_rfl) (by kernel_rfl) (by kernel_rfl)⟩
  ·replace hm := bif_f hm hb
   refine wp_exit ?_
   exact hx11 (Option.some.inj hm).symm _ _ (hs.go [2, 3] [0, 1] 2 (by kernel_rfl) (by kernel_rfl) (by kernel_rfl))

end Go.Proofs.Ytflgefjocjpjaaa
