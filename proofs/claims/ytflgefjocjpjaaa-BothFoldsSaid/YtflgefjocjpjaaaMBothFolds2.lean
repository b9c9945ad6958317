/- Of each Go function that BothFolds comes to: a model in plain Lean, and that the program's call does what the model says; no condition. -/
import Derived.Test.YtflgefjocjpjaaaProg
import Derived.Test.YtflgefjocjpjaaaVdbmlalpp
import Derived.Test.YtflgefjocjpjaaaMBothFolds1
namespace Go.Proofs.Ytflgefjocjpjaaa
open Go Go.Vk
set_option linter.unusedVariables false


abbrev times_Isw.R (κ : Ctx) (S : List HP) (x0 : Twire_Machine) (x1 : Cells) (x2 : Cells) (b_x0 : Nat) (r : (Cells × Twire_Machine)) : Ending → World → Prop := fun e w' => e = .returned (.agg (vals r.1)) ∧ Own κ w' (Twire_Machine.own b_x0 r.2 :: S)
def times_Isw.m (k : Nat) (x0 : Twire_Machine) (x1 : Cells) (x2 : Cells) : Option (Cells × Twire_Machine) := (wire_Machine_N.m k x0).bind fun v_10 => (bif v_10 == 2 then (wire_Machine_Begin.m k x0 3).bind fun v_14 => (if x1.length = 3 then (if x2.length = 3 then (wire_Machine_N.m k v_14).bind fun v_29 => (bif v_29 == 2 then (wire_Machine_Rand.m k v_14 (-1)).bind fun v_45 => (getI .i64 x1 (0)).bind fun v_76 => (getI .i64 x2 (0)).bind fun v_78 => (wire_Machine_Two.m k v_45.2 7 0 v_76 v_78).bind fun v_81 => (getI .i64 x1 (0)).bind fun v_89 => (getI .i64 x2 (1)).bind fun v_91 => (wire_Machine_Two.m k v_81.2 7 0 v_89 v_91).bind fun v_94 => (getI .i64 x1 (1)).bind fun v_111 => (getI .i64 x2 (0)).bind fun v_113 => (wire_Machine_Two.m k v_94.2 7 1 v_111 v_113).bind fun v_116 => (getI .i64 x1 (1)).bind fun v_124 => (getI .i64 x2 (1)).bind fun v_126 => (wire_Machine_Two.m k v_116.2 7 1 v_124 v_126).bind fun v_129 => (wire_Machine_N.m k v_129.2).bind fun v_147 => (bif v_147 == 2 then (wire_Machine_Two.m k v_129.2 5 0 v_81.1 v_45.1).bind fun v_180 => (wire_Machine_Two.m k v_180.2 5 1 v_45.1 v_94.1).bind fun v_209 => (wire_Machine_Two.m k v_209.2 5 1 v_209.1 v_116.1).bind fun v_212 => (wire_Machine_Two.m k v_212.2 5 1 v_129.1 v_212.1).bind fun v_215 => (wire_Machine_End.m k v_215.2).bind fun v_233 => some ([ci v_180.1, ci v_215.1, ci (-1)], v_233) else none) else none) else none) else none) else (bif v_10 == 3 then (wire_Machine_Begin.m k x0 3).bind fun v_238 => (if x1.length = 3 then (if x2.length = 3 then (wire_Machine_N.m k v_238).bind fun v_253 => (bif v_253 == 3 then (wire_Machine_Rand.m k v_238 (-1)).bind fun v_269 => (wire_Machine_Rand.m k v_269.2 (-1)).bind fun v_277 => (wire_Machine_Rand.m k v_277.2 (-1)).bind fun v_294 => (getI .i64 x1 (0)).bind fun v_325 => (getI .i64 x2 (0)).bind fun v_327 => (wire_Machine_Two.m k v_294.2 7 0 v_325 v_327).bind fun v_330 => (getI .i64 x1 (0)).bind fun v_338 => (getI .i64 x2 (1)).bind fun v_340 => (wire_Machine_Two.m k v_330.2 7 0 v_338 v_340).bind fun v_343 => (getI .i64 x1 (0)).bind fun v_351 => (getI .i64 x2 (2)).bind fun v_353 => (wire_Machine_Two.m k v_343.2 7 0 v_351 v_353).bind fun v_356 => (getI .i64 x1 (1)).bind fun v_373 => (getI .i64 x2 (0)).bind fun v_375 => (wire_Machine_Two.m k v_356.2 7 1 v_373 v_375).bind fun v_378 => (getI .i64 x1 (1)).bind fun v_386 => (getI .i64 x2 (1)).bind fun v_388 => (wire_Machine_Two.m k v_378.2 7 1 v_386 v_388).bind fun v_391 => (getI .i64 x1 (1)).bind fun v_399 => (getI .i64 x2 (2)).bind fun v_401 => (wire_Machine_Two.m k v_391.2 7 1 v_399 v_401).bind fun v_404 => (getI .i64 x1 (2)).bind fun v_421 => (getI .i64 x2 (0)).bind fun v_423 => (wire_Machine_Two.m k v_404.2 7 2 v_421 v_423).bind fun v_426 => (getI .i64 x1 (2)).bind fun v_434 => (getI .i64 x2 (1)).bind fun v_436 => (wire_Machine_Two.m k v_426.2 7 2 v_434 v_436).bind fun v_439 => (getI .i64 x1 (2)).bind fun v_447 => (getI .i64 x2 (2)).bind fun v_449 => (wire_Machine_Two.m k v_439.2 7 2 v_447 v_449).bind fun v_452 => (wire_Machine_N.m k v_452.2).bind fun v_470 => (bif v_470 == 3 then (wire_Machine_Two.m k v_452.2 5 0 v_330.1 v_269.1).bind fun v_503 => (wire_Machine_Two.m k v_503.2 5 0 v_503.1 v_277.1).bind fun v_521 => (wire_Machine_Two.m k v_521.2 5 1 v_269.1 v_343.1).bind fun v_550 => (wire_Machine_Two.m k v_550.2 5 1 v_550.1 v_378.1).bind fun v_553 => (wire_Machine_Two.m k v_553.2 5 1 v_391.1 v_553.1).bind fun v_556 => (wire_Machine_Two.m k v_556.2 5 1 v_556.1 v_294.1).bind fun v_580 => (wire_Machine_Two.m k v_580.2 5 2 v_277.1 v_356.1).bind fun v_609 => (wire_Machine_Two.m k v_609.2 5 2 v_609.1 v_426.1).bind fun v_612 => (wire_Machine_Two.m k v_612.2 5 2 v_452.1 v_612.1).bind fun v_615 => (wire_Machine_Two.m k v_615.2 5 2 v_294.1 v_404.1).bind fun v_634 => (wire_Machine_Two.m k v_634.2 5 2 v_634.1 v_439.1).bind fun v_637 => (wire_Machine_Two.m k v_637.2 5 2 v_615.1 v_637.1).bind fun v_640 => (wire_Machine_End.m k v_640.2).bind fun v_658 => some ([ci v_521.1, ci v_580.1, ci v_640.1], v_658) else none) else none) else none) else none) else none))

set_option maxRecDepth 100000 in
set_option maxHeartbeats 4000000 in
theorem times_Isw.ok (k : Nat) (x0 : Twire_Machine) (x1 : Cells) (x2 : Cells) (r : (Cells × Twire_Machine)) (hm : times_Isw.m k x0 x1 x2 = some r) (κ : Ctx) (w : World) (S : List HP) (b_x0 : Nat) (ho : Own κ w (Twire_Machine.own b_x0 x0 :: S)) :
  Calls Try.prog 21 #[pp b_x0, .agg (vals x1), .agg (vals x2)] w (times_Isw.R κ S x0 x1 x2 b_x0 r) := by
 unfold times_Isw.m at hm
 generalize hRR : times_Isw.R κ S x0 x1 x2 b_x0 r = RR
 refine qen [(0, pp b_x0), (1, .agg (vals x1)), (2, .agg (vals x2))] Try.func21 Try.ntmps21 ho fun a hs => ?_
 refine qsr fun K1 hK1 => ?_
 refine qbx 1 28 x1 4 hs fun b_2 w a hs => ?_
 refine qbx 2 28 x2 5 hs fun b_3 w a hs => ?_
 refine qal 28 [ci 0, ci 0, ci 0] 6 hs fun b_4 w a hs => ?_
 refine qpe 0 [(0, pp b_x0), (4, pp b_2), (5, pp b_3), (6, pp b_4)] hs fun a hs => hK1 _ _ ?_
 clear hK1
 refine Vk.seq fun K5 hK5 => ?_
 refine qsr fun K6 hK6 => ?_
 refine qpu 1 hs fun a hs => ?_
 obtain ⟨g_7, hs⟩ := hs.unex 3 rfl
 obtain ⟨v_10, h_9, hm⟩ := bind_t hm
 refine qcl (wire_Machine_N.ok _ _ _ h_9 _ _ _ b_x0 g_7 hs.own.f3) hs fun w a hs => ?_
 rcases Bool.eq_false_or_eq_true (v_10 == 2) with hb | hb
 ·replace hm := bif_t hm hb
  obtain rfl := Vk.of_beq hb
  refine qpk 1 [0, 4, 5, 6, 11] hs fun a hs => hK6 _ _ ?_
  refine qcf hs ?_
  refine wp_skip ?_
  refine hK5 _ _ ?_
  refine qsr fun K11 hK11 => ?_
  refine qpu 1 hs fun a hs => ?_
  replace hs := hs.toEx (Twire_Machine.parts b_x0 x0) g_7 0 rfl
  obtain ⟨v_14, h_13, hm⟩ := bind_t hm
  refine qcl (wire_Machine_Begin.ok _ _ _ _ h_13 _ _ _ b_x0 hs.own) hs fun w a hs => ?_
  refine qpk 0 [0, 4, 5, 6] hs fun a hs => hK11 _ _ ?_
  clear hK11
  refine qsr fun K15 hK15 => ?_
  refine qpu 1 hs fun a hs => ?_
  obtain ⟨h_16, hm⟩ := ite_t hm
  refine qlw 3 hs rfl h_16 fun a hs => ?_
  obtain ⟨h_17, hm⟩ := ite_t hm
  refine qlw 2 hs rfl h_17 fun a hs => ?_
  refine Vk.step (Vk.call (some 19) 91 #[pp b_x0, .agg (vals x1), .agg (vals x2)] hs (by kernel_rfl) (by kernel_rfl) (by kernel_rfl) ?_)
  refine Vk.enterI [(0, pp b_x0), (1, .agg (vals x1)), (2, .agg (vals x2))] Try.func91 rfl Try.ntmps91 (by kernel_rfl) (Nat.le_of_ble_eq_true (by kernel_rfl)) hs.own fun KR18 hKR18 hKP18 a hs => ?_
  refine qsr fun K19 hK19 => ?_
  refine qbx 1 28 x1 4 hs fun b_20 w a hs => ?_
  refine qbx 2 28 x2 5 hs fun b_21 w a hs => ?_
  refine qpk 1 [0, 4, 5] hs fun a hs => hK19 _ _ ?_
  clear hK19
  refine qsr fun K22 hK22 => ?_
  refine qpu 1 hs fun a hs => ?_
  refine Vk.step (Vk.mapOp 14 186 hs (by kernel_rfl) (by kernel_rfl) fun b_23 w a hs => ?_)
  refine qpu 1 hs fun a hs => ?_
  refine qbx 15 188 [cp b_x0, C.map (some b_23), ci 0, ci 0, ci 0, ci 0, ci 0, ci 0, ci 0, ci 0, ci 0] 16 hs fun b_24 w a hs => ?_
  refine qpe 1 [(0, pp b_x0), (4, pp b_20), (5, pp b_21), (7, pp b_24)] hs fun a hs => hK22 _ _ ?_
  clear hK22
  refine qsr fun K25 hK25 => ?_
  refine qpu 1 hs fun a hs => ?_
  obtain ⟨g_26, hs⟩ := hs.unex 4 rfl
  obtain ⟨v_29, h_28, hm⟩ := bind_t hm
  refine qcl (wire_Machine_N.ok _ _ _ h_28 _ _ _ b_x0 g_26 hs.own.f4) hs fun w a hs => ?_
  rcases Bool.eq_false_or_eq_true (v_29 == 2) with hb | hb
  ·replace hm := bif_t hm hb
   obtain rfl := Vk.of_beq hb
   refine qpk 1 [0, 4, 5, 7, 8] hs fun a hs => hK25 _ _ ?_
   clear hK25
   refine Vk.seq fun K30 hK30 => ?_
   refine qsk 2 [0, 4, 5, 7, 8, 19, 20] hs fun a hs => ?_
   refine wp_block ?_
   refine Vk.unroll0 40 ?_
   refine Vk.unroll fun KL32 hKL32 => ?_
   refine qsk 1 [0, 4, 5, 7, 8, 19, 20, 21] hs fun a hs => ?_
   refine qck hs ?_
   refine Vk.seq fun K35 hK35 => ?_
   refine wp_block ?_
   refine qsk 2 [0, 4, 5, 7, 8, 9, 19, 20] hs fun a hs => ?_
   refine qsk 3 [0, 4, 5, 7, 8, 9, 10, 19, 20] hs fun a hs => ?_
   refine wp_block ?_
   refine Vk.unroll0 40 ?_
   refine Vk.unroll fun KL38 hKL38 => ?_
   refine Vk.seq fun K39 hK39 => ?_
   refine qse 3 [(0, pp b_x0), (4, pp b_20), (5, pp b_21), (7, pp b_24), (8, vi 2), (9, vi 0), (10, vi 1), (19, vi 2), (20, vi 0), (27, .bool true)] hs fun a hs => ?_
   refine qct hs ?_
   refine wp_skip ?_
   refine hK39 _ _ ?_
   clear hK39
   refine Vk.seq fun K41 hK41 => ?_
   refine wp_block ?_
   obtain ⟨C_42, hC_42⟩ := qC hs.own.drop
   refine qdr 9 κ C_42 hs fun w hs hqC_42 => ?_
   have hcl := qO hC_42 hs.own.drop
   refine qdp (fuel := 3) [0, 1, 2, 4, 5, 6, 7] hs hcl hqC_42 fun a hs => ?_
   refine qdl 3 0 (C.map (some b_23)) hs hcl hqC_42 hC_42 rfl fun a hs => ?_
   replace hs := hs.toEx (Twire_Machine.parts b_x0 v_14) g_26 0 rfl
   obtain ⟨v_45, h_44, hm⟩ := bind_t hm
   refine qdc 8 (wire_Machine_Rand.ok _ _ _ _ h_44 _ _ _ b_x0 hs.own) hs fun w a hs => ?_
   replace hcl := qO hC_42 hs.own.drop
   refine ⟨fun _ => hcl, ?_⟩
   refine Vk.dOnly (i := 9) (by kernel_rfl) (Vk.updateOp (t := 186) (xm := (.tmp 33)) (xk := (.tmp 36)) (xv := (.tmp 38)) (b := b_23) (es' := #[⟨.agg (vals [ci 0, ci 1]), vi v_45.1, 0⟩]) (clock' := 1) (.agg (vals [ci 0, ci 1])) (vi v_45.1) 2 hs (by kernel_rfl) (by kernel_rfl) (by kernel_rfl) (by kernel_rfl) (by kernel_rfl) rfl (by kernel_rfl) fun a w hs => ?_)
   refine ⟨fun h => absurd h (by decide), ?_⟩
   replace hs := hs.pick [0, 4, 5, 7, 8, 9, 10, 19, 20] (L' := [(0, pp b_x0), (4, pp b_20), (5, pp b_21), (7, pp b_24), (8, vi 2), (9, vi 0), (10, vi 1), (19, vi 2), (20, vi 0)]) (by kernel_rfl)
   refine Vk.dDone (by kernel_rfl) ?_
   refine hK41 _ _ ?_
   clear hK41
   refine Vk.region ?_
   refine qpk 3 [0, 4, 5, 7, 8, 9, 10, 19, 20] hs fun a hs => hKL38 _ _ ?_
   clear hKL38
   refine Vk.unroll fun KL46 hKL46 => ?_
   refine Vk.seq fun K47 hK47 => ?_
   refine qsk 3 [0, 4, 5, 7, 8, 9, 10, 19, 20, 27] hs fun a hs => ?_
   refine qcf hs ?_
   refine wp_exit ?_
   refine hK35 _ _ ?_
   clear hK35
   refine Vk.region ?_
   refine qpk 2 [0, 4, 5, 7, 8, 19, 20] hs fun a hs => hKL32 _ _ ?_
   clear hKL32
   refine Vk.unroll fun KL49 hKL49 => ?_
   refine qsk 1 [0, 4, 5, 7, 8, 19, 20, 21] hs fun a hs => ?_
   refine qck hs ?_
   refine Vk.seq fun K52 hK52 => ?_
   refine wp_block ?_
   refine qsk 2 [0, 4, 5, 7, 8, 9, 19, 20] hs fun a hs => ?_
   refine qse 3 [(0, pp b_x0), (4, pp b_20), (5, pp b_21), (7, pp b_24), (8, vi 2), (9, vi 1), (10, vi 2), (19, vi 2), (20, vi 1)] hs fun a hs => ?_
   refine wp_block ?_
   refine Vk.unroll0 40 ?_
   refine Vk.unroll fun KL55 hKL55 => ?_
   refine Vk.seq fun K56 hK56 => ?_
   refine qsk 3 [0, 4, 5, 7, 8, 9, 10, 19, 20, 27] hs fun a hs => ?_
   refine qcf hs ?_
   refine wp_exit ?_
   refine hK52 _ _ ?_
   clear hK52
   refine Vk.region ?_
   refine qpk 2 [0, 4, 5, 7, 8, 19, 20] hs fun a hs => hKL49 _ _ ?_
   clear hKL49
   refine Vk.unroll fun KL58 hKL58 => ?_
   refine qsk 1 [0, 4, 5, 7, 8, 19, 20, 21] hs fun a hs => ?_
   refine Vk.seq fun K60 hK60 => ?_
   refine qcf hs ?_
   refine wp_exit ?_
   refine hK30 _ _ ?_
   clear hK30
   refine Vk.seq fun K61 hK61 => ?_
   refine qsk 2 [0, 4, 5, 7, 8, 40, 41] hs fun a hs => ?_
   refine wp_block ?_
   refine Vk.unroll0 40 ?_
   refine Vk.unroll fun KL63 hKL63 => ?_
   refine qsk 1 [0, 4, 5, 7, 8, 40, 41, 42] hs fun a hs => ?_
   refine qck hs ?_
   refine Vk.seq fun K66 hK66 => ?_
   refine wp_block ?_
   refine qse 2 [(0, pp b_x0), (4, pp b_20), (5, pp b_21), (7, pp b_24), (8, vi 2), (11, vi 0), (40, vi 2), (41, vi 0)] hs fun a hs => ?_
   refine qsk 2 [0, 4, 5, 7, 8, 11, 40, 41, 44, 45] hs fun a hs => ?_
   refine wp_block ?_
   refine Vk.unroll0 40 ?_
   refine Vk.unroll fun KL69 hKL69 => ?_
   refine qsk 1 [0, 4, 5, 7, 8, 11, 40, 41, 44, 45, 46] hs fun a hs => ?_
   refine qck hs ?_
   refine Vk.seq fun K72 hK72 => ?_
   refine wp_block ?_
   refine qsk 2 [0, 4, 5, 7, 8, 11, 12, 40, 41, 44, 45] hs fun a hs => ?_
   obtain ⟨C_74, hC_74⟩ := qC hs.own.drop
   refine qdr 18 κ C_74 hs fun w hs hqC_74 => ?_
   have hcl := qO hC_74 hs.own.drop
   refine qdp (fuel := 5) [0, 1, 2, 3, 4, 5, 6, 7, 9, 10, 11, 14, 15, 16] hs hcl hqC_74 fun a hs => ?_
   obtain ⟨v_76, h_75, hm⟩ := bind_t hm
   refine qdi 8 3 hs hcl hqC_74 hC_74 rfl h_75 fun a hs => ?_
   obtain ⟨v_78, h_77, hm⟩ := bind_t hm
   refine qdi 12 2 hs hcl hqC_74 hC_74 rfl h_77 fun a hs => ?_
   obtain ⟨v_81, h_80, hm⟩ := bind_t hm
   refine qdc 13 (wire_Machine_Two.ok _ _ _ _ _ _ _ h_80 _ _ _ b_x0 hs.own) hs fun w a hs => ?_
   replace hcl := qO hC_74 hs.own.drop
   refine ⟨fun _ => hcl, ?_⟩
   refine qdp (fuel := 1) [17] hs hcl hqC_74 fun a hs => ?_
   refine qsd 18 1 2 (ci v_81.1) hs rfl fun a w hs => ?_
   refine ⟨fun h => absurd h (by decide), ?_⟩
   replace hs := hs.pick [0, 4, 5, 7, 8, 11, 40, 41, 44, 45] (L' := [(0, pp b_x0), (4, pp b_20), (5, pp b_21), (7, pp b_24), (8, vi 2), (11, vi 0), (40, vi 2), (41, vi 0), (44, vi 2), (45, vi 0)]) (by kernel_rfl)
   refine Vk.dDone (by kernel_rfl) ?_
   refine hK72 _ _ ?_
   clear hK72
   refine Vk.region ?_
   refine qpk 2 [0, 4, 5, 7, 8, 11, 40, 41, 44, 45] hs fun a hs => hKL69 _ _ ?_
   clear hKL69
   refine Vk.unroll fun KL82 hKL82 => ?_
   refine qsk 1 [0, 4, 5, 7, 8, 11, 40, 41, 44, 45, 46] hs fun a hs => ?_
   refine qck hs ?_
   refine Vk.seq fun K85 hK85 => ?_
   refine wp_block ?_
   refine qse 2 [(0, pp b_x0), (4, pp b_20), (5, pp b_21), (7, pp b_24), (8, vi 2), (11, vi 0), (12, vi 1), (40, vi 2), (41, vi 0), (44, vi 2), (45, vi 1)] hs fun a hs => ?_
   obtain ⟨C_87, hC_87⟩ := qC hs.own.drop
   refine qdr 18 κ C_87 hs fun w hs hqC_87 => ?_
   have hcl := qO hC_87 hs.own.drop
   refine qdp (fuel := 5) [0, 1, 2, 3, 4, 5, 6, 7, 9, 10, 11, 14, 15, 16] hs hcl hqC_87 fun a hs => ?_
   obtain ⟨v_89, h_88, hm⟩ := bind_t hm
   refine qdi 8 3 hs hcl hqC_87 hC_87 rfl h_88 fun a hs => ?_
   obtain ⟨v_91, h_90, hm⟩ := bind_t hm
   refine qdi 12 2 hs hcl hqC_87 hC_87 rfl h_90 fun a hs => ?_
   obtain ⟨v_94, h_93, hm⟩ := bind_t hm
   refine qdc 13 (wire_Machine_Two.ok _ _ _ _ _ _ _ h_93 _ _ _ b_x0 hs.own) hs fun w a hs => ?_
   replace hcl := qO hC_87 hs.own.drop
   refine ⟨fun _ => hcl, ?_⟩
   refine qdp (fuel := 1) [17] hs hcl hqC_87 fun a hs => ?_
   refine qsd 18 1 3 (ci v_94.1) hs rfl fun a w hs => ?_
   refine ⟨fun h => absurd h (by decide), ?_⟩
   replace hs := hs.pick [0, 4, 5, 7, 8, 11, 40, 41, 44, 45] (L' := [(0, pp b_x0), (4, pp b_20), (5, pp b_21), (7, pp b_24), (8, vi 2), (11, vi 0), (40, vi 2), (41, vi 0), (44, vi 2), (45, vi 1)]) (by kernel_rfl)
   refine Vk.dDone (by kernel_rfl) ?_
   refine hK85 _ _ ?_
   clear hK85
   refine Vk.region ?_
   refine qpk 2 [0, 4, 5, 7, 8, 11, 40, 41, 44, 45] hs fun a hs => hKL82 _ _ ?_
   clear hKL82
   refine Vk.unroll fun KL95 hKL95 => ?_
   refine qsk 1 [0, 4, 5, 7, 8, 11, 40, 41, 44, 45, 46] hs fun a hs => ?_
   refine Vk.seq fun K97 hK97 => ?_
   refine qcf hs ?_
   refine wp_exit ?_
   refine hK66 _ _ ?_
   clear hK66
   refine Vk.region ?_
   refine qpk 2 [0, 4, 5, 7, 8, 40, 41] hs fun a hs => hKL63 _ _ ?_
   clear hKL63
   refine Vk.unroll fun KL98 hKL98 => ?_
   refine qsk 1 [0, 4, 5, 7, 8, 40, 41, 42] hs fun a hs => ?_
   refine qck hs ?_
   refine Vk.seq fun K101 hK101 => ?_
   refine wp_block ?_
   refine qsk 2 [0, 4, 5, 7, 8, 11, 40, 41] hs fun a hs => ?_
   refine qse 2 [(0, pp b_x0), (4, pp b_20), (5, pp b_21), (7, pp b_24), (8, vi 2), (11, vi 1), (40, vi 2), (41, vi 1), (44, vi 2), (45, vi 0)] hs fun a hs => ?_
   refine wp_block ?_
   refine Vk.unroll0 40 ?_
   refine Vk.unroll fun KL104 hKL104 => ?_
   refine qsk 1 [0, 4, 5, 7, 8, 11, 40, 41, 44, 45, 46] hs fun a hs => ?_
   refine qck hs ?_
   refine Vk.seq fun K107 hK107 => ?_
   refine wp_block ?_
   refine qsk 2 [0, 4, 5, 7, 8, 11, 12, 40, 41, 44, 45] hs fun a hs => ?_
   obtain ⟨C_109, hC_109⟩ := qC hs.own.drop
   refine qdr 18 κ C_109 hs fun w hs hqC_109 => ?_
   have hcl := qO hC_109 hs.own.drop
   refine qdp (fuel := 5) [0, 1, 2, 3, 4, 5, 6, 7, 9, 10, 11, 14, 15, 16] hs hcl hqC_109 fun a hs => ?_
   obtain ⟨v_111, h_110, hm⟩ := bind_t hm
   refine qdi 8 3 hs hcl hqC_109 hC_109 rfl h_110 fun a hs => ?_
   obtain ⟨v_113, h_112, hm⟩ := bind_t hm
   refine qdi 12 2 hs hcl hqC_109 hC_109 rfl h_112 fun a hs => ?_
   obtain ⟨v_116, h_115, hm⟩ := bind_t hm
   refine qdc 13 (wire_Machine_Two.ok _ _ _ _ _ _ _ h_115 _ _ _ b_x0 hs.own) hs fun w a hs => ?_
   replace hcl := qO hC_109 hs.own.drop
   refine ⟨fun _ => hcl, ?_⟩
   refine qdp (fuel := 1) [17] hs hcl hqC_109 fun a hs => ?_
   refine qsd 18 1 5 (ci v_116.1) hs rfl fun a w hs => ?_
   refine ⟨fun h => absurd h (by decide), ?_⟩
   replace hs := hs.pick [0, 4, 5, 7, 8, 11, 40, 41, 44, 45] (L' := [(0, pp b_x0), (4, pp b_20), (5, pp b_21), (7, pp b_24), (8, vi 2), (11, vi 1), (40, vi 2), (41, vi 1), (44, vi 2), (45, vi 0)]) (by kernel_rfl)
   refine Vk.dDone (by kernel_rfl) ?_
   refine hK107 _ _ ?_
   clear hK107
   refine Vk.region ?_
   refine qpk 2 [0, 4, 5, 7, 8, 11, 40, 41, 44, 45] hs fun a hs => hKL104 _ _ ?_
   clear hKL104
   refine Vk.unroll fun KL117 hKL117 => ?_
   refine qsk 1 [0, 4, 5, 7, 8, 11, 40, 41, 44, 45, 46] hs fun a hs => ?_
   refine qck hs ?_
   refine Vk.seq fun K120 hK120 => ?_
   refine wp_block ?_
   refine qsk 2 [0, 4, 5, 7, 8, 11, 12, 40, 41, 44, 45] hs fun a hs => ?_
   obtain ⟨C_122, hC_122⟩ := qC hs.own.drop
   refine qdr 18 κ C_122 hs fun w hs hqC_122 => ?_
   have hcl := qO hC_122 hs.own.drop
   refine qdp (fuel := 5) [0, 1, 2, 3, 4, 5, 6, 7, 9, 10, 11, 14, 15, 16] hs hcl hqC_122 fun a hs => ?_
   obtain ⟨v_124, h_123, hm⟩ := bind_t hm
   refine qdi 8 3 hs hcl hqC_122 hC_122 rfl h_123 fun a hs => ?_
   obtain ⟨v_126, h_125, hm⟩ := bind_t hm
   refine qdi 12 2 hs hcl hqC_122 hC_122 rfl h_125 fun a hs => ?_
   obtain ⟨v_129, h_128, hm⟩ := bind_t hm
   refine qdc 13 (wire_Machine_Two.ok _ _ _ _ _ _ _ h_128 _ _ _ b_x0 hs.own) hs fun w a hs => ?_
   replace hcl := qO hC_122 hs.own.drop
   refine ⟨fun _ => hcl, ?_⟩
   refine qdp (fuel := 1) [17] hs hcl hqC_122 fun a hs => ?_
   refine qsd 18 1 6 (ci v_129.1) hs rfl fun a w hs => ?_
   refine ⟨fun h => absurd h (by decide), ?_⟩
   replace hs := hs.pick [0, 4, 5, 7, 8, 11, 40, 41, 44, 45] (L' := [(0, pp b_x0), (4, pp b_20), (5, pp b_21), (7, pp b_24), (8, vi 2), (11, vi 1), (40, vi 2), (41, vi 1), (44, vi 2), (45, vi 1)]) (by kernel_rfl)
   refine Vk.dDone (by kernel_rfl) ?_
   refine hK120 _ _ ?_
   clear hK120
   refine Vk.region ?_
   refine qpe 2 [(0, pp b_x0), (4, pp b_20), (5, pp b_21), (7, pp b_24), (8, vi 2), (11, vi 1), (40, vi 2), (41, vi 1), (44, vi 2), (45, vi 2)] hs fun a hs => hKL117 _ _ ?_
   clear hKL117
   refine Vk.unroll fun KL130 hKL130 => ?_
   refine qsk 1 [0, 4, 5, 7, 8, 11, 40, 41, 44, 45, 46] hs fun a hs => ?_
   refine Vk.seq fun K132 hK132 => ?_
   refine qcf hs ?_
   refine wp_exit ?_
   refine hK101 _ _ ?_
   clear hK101
   refine Vk.region ?_
   refine qpk 2 [0, 4, 5, 7, 8, 40, 41] hs fun a hs => hKL98 _ _ ?_
   clear hKL98
   refine Vk.unroll fun KL133 hKL133 => ?_
   refine qsk 1 [0, 4, 5, 7, 8, 40, 41, 42] hs fun a hs => ?_
   refine Vk.seq fun K135 hK135 => ?_
   refine qcf hs ?_
   refine wp_exit ?_
   refine hK61 _ _ ?_
   clear hK61
   refine qse 2 [(6, pp b_24)] hs fun a hs => ?_
   refine wp_ret ?_
   refine hKP18 _ _ ?_
   refine hKR18 _ _ ?_
   refine Vk.ret1 (P := Try.prog) (fn := Try.f91) (pp b_24) hs rfl (by kernel_rfl) ⟨_, _, _, rfl, hs.own, fun a hs => ?_⟩
   refine qpk 1 [0, 6, 7] hs fun a hs => hK15 _ _ ?_
   clear hK15
   refine qsr fun K137 hK137 => ?_
   refine qpu 3 hs fun a hs => ?_
   refine Vk.step (Vk.call (some 23) 92 #[pp b_24, .func (.func 95) #[pp b_24] #[]] hs (by kernel_rfl) (by kernel_rfl) (by kernel_rfl) ?_)
   refine Vk.enterI [(0, pp b_24), (1, .func (.func 95) #[pp b_24] #[])] Try.func92 rfl Try.ntmps92 (by kernel_rfl) (Nat.le_of_ble_eq_true (by kernel_rfl)) hs.own fun KR138 hKR138 hKP138 a hs => ?_
   refine qsr fun K139 hK139 => ?_
   refine qal 28 [ci 0, ci 0, ci 0] 4 hs fun b_140 w a hs => ?_
   refine qpk 0 [0, 1, 4] hs fun a hs => hK139 _ _ ?_
   clear hK139
   refine qsr fun K141 hK141 => ?_
   refine qpu 2 hs fun a hs => ?_
   refine qal 28 [ci 0, ci 0, ci 0] 5 hs fun b_142 w a hs => ?_
   refine qsa 0 [ci (-1), ci (-1), ci (-1)] hs rfl fun a w hs => ?_
   refine qpe 0 [(0, pp b_24), (1, .func (.func 95) #[pp b_24] #[]), (4, pp b_140), (5, pp b_142)] hs fun a hs => hK141 _ _ ?_
   clear hK141
   refine qsr fun K143 hK143 => ?_
   refine qpu 3 hs fun a hs => ?_
   refine qld 3 (cp b_x0) hs rfl fun a hs => ?_
   obtain ⟨g_144, hs⟩ := hs.unex 2 rfl
   obtain ⟨v_147, h_146, hm⟩ := bind_t hm
   refine qcl (wire_Machine_N.ok _ _ _ h_146 _ _ _ b_x0 g_144 hs.own.f2) hs fun w a hs => ?_
   rcases Bool.eq_false_or_eq_true (v_147 == 2) with hb | hb
   ·replace hm := bif_t hm hb
    obtain rfl := Vk.of_beq hb
    refine qpk 1 [0, 1, 4, 5, 6] hs fun a hs => hK143 _ _ ?_
    clear hK143
    refine Vk.seq fun K148 hK148 => ?_
    refine qsk 2 [0, 1, 4, 5, 6, 16, 17] hs fun a hs => ?_
    refine wp_block ?_
    refine Vk.unroll0 40 ?_
    refine Vk.unroll fun KL150 hKL150 => ?_
    refine qsk 1 [0, 1, 4, 5, 6, 16, 17, 18] hs fun a hs => ?_
    refine qck hs ?_
    refine Vk.seq fun K153 hK153 => ?_
    refine wp_block ?_
    refine qsk 2 [0, 1, 4, 5, 6, 7, 16, 17] hs fun a hs => ?_
    refine qsr fun K155 hK155 => ?_
    refine qpu 8 hs fun a hs => ?_
    refine qld 3 (ci v_81.1) hs rfl fun a hs => ?_
    refine qpu 2 hs fun a hs => ?_
    refine qst 1 0 (ci v_81.1) hs rfl fun a w hs => ?_
    refine qpk 0 [0, 1, 4, 5, 6, 7, 16, 17] hs fun a hs => hK155 _ _ ?_
    clear hK155
    refine qse 2 [(0, pp b_24), (1, .func (.func 95) #[pp b_24] #[]), (4, pp b_140), (5, pp b_142), (6, vi 2), (7, vi 0), (16, vi 2), (17, vi 0), (31, vi 2), (32, vi 0)] hs fun a hs => ?_
    refine wp_block ?_
    refine Vk.unroll0 40 ?_
    refine Vk.unroll fun KL157 hKL157 => ?_
    refine qsk 1 [0, 1, 4, 5, 6, 7, 16, 17, 31, 32, 33] hs fun a hs => ?_
    refine qck hs ?_
    refine Vk.seq fun K160 hK160 => ?_
    refine wp_block ?_
    refine qsk 2 [0, 1, 4, 5, 6, 7, 8, 16, 17, 31, 32] hs fun a hs => ?_
    refine qsk 3 [0, 1, 4, 5, 6, 7, 8, 16, 17, 31, 32, 37] hs fun a hs => ?_
    refine qcf hs ?_
    refine wp_skip ?_
    refine hK160 _ _ ?_
    clear hK160
    refine Vk.region ?_
    refine qpk 2 [0, 1, 4, 5, 6, 7, 16, 17, 31, 32] hs fun a hs => hKL157 _ _ ?_
    clear hKL157
    refine Vk.unroll fun KL163 hKL163 => ?_
    refine qsk 1 [0, 1, 4, 5, 6, 7, 16, 17, 31, 32, 33] hs fun a hs => ?_
    refine qck hs ?_
    refine Vk.seq fun K166 hK166 => ?_
    refine wp_block ?_
    refine qse 2 [(0, pp b_24), (1, .func (.func 95) #[pp b_24] #[]), (4, pp b_140), (5, pp b_142), (6, vi 2), (7, vi 0), (8, vi 1), (16, vi 2), (17, vi 0), (31, vi 2), (32, vi 1)] hs fun a hs => ?_
    refine qsk 3 [0, 1, 4, 5, 6, 7, 8, 16, 17, 31, 32, 37] hs fun a hs => ?_
    refine qct hs ?_
    obtain ⟨C_169, hC_169⟩ := qC hs.own.drop
    refine qdr 17 κ C_169 hs fun w hs hqC_169 => ?_
    have hcl := qO hC_169 hs.own.drop
    refine qdp (fuel := 6) [0, 1, 2, 3, 5, 6, 7, 8, 10, 11, 12, 15] hs hcl hqC_169 fun a hs => ?_
    refine qdl 4 2 (cp b_x0) hs hcl hqC_169 hC_169 rfl fun a hs => ?_
    refine qdl 9 0 (ci v_81.1) hs hcl hqC_169 hC_169 rfl fun a hs => ?_
    refine Vk.dOnly (i := 13) (by kernel_rfl) (Vk.call (some 51) 95 #[pp b_24, vi 0, vi 1] hs (by kernel_rfl) (by kernel_rfl) (by kernel_rfl) ?_)
    refine Vk.enterI [(0, pp b_24), (1, vi 0), (2, vi 1)] Try.func95 rfl Try.ntmps95 (by kernel_rfl) (Nat.le_of_ble_eq_true (by kernel_rfl)) hs.own fun KR170 hKR170 hKP170 a hs => ?_
    refine qsk 1 [0, 1, 2] hs fun a hs => ?_
    refine Vk.seq fun K172 hK172 => ?_
    refine qsk 3 [0, 1, 2, 9] hs fun a hs => ?_
    refine qct hs ?_
    refine qsr fun K174 hK174 => ?_
    refine qpu 3 hs fun a hs => ?_
    refine Vk.step (Vk.call (some 13) 151 #[pp b_24, vi 0, vi 1] hs (by kernel_rfl) (by kernel_rfl) (by kernel_rfl) ?_)
    refine Vk.enterI [(0, pp b_24), (1, vi 0), (2, vi 1)] Try.func151 rfl Try.ntmps151 (by kernel_rfl) (Nat.le_of_ble_eq_true (by kernel_rfl)) hs.own fun KR175 hKR175 hKP175 a hs => ?_
    refine qsk 1 [0, 1, 2] hs fun a hs => ?_
    refine qsr fun K177 hK177 => ?_
    refine qpu 3 hs fun a hs => ?_
    refine qld 3 (C.map (some b_23)) hs rfl fun a hs => ?_
    refine qpu 7 hs fun a hs => ?_
    refine qva (vi v_45.1) (op := (.lookup 186 (.tmp 10) (.tmp 17) false)) hs (fun o ho => run_lookup (b := b_23) (key := .agg (vals [ci 0, ci 1])) 4 rfl ho (by kernel_rfl) (by kernel_rfl) (by kernel_rfl) _ hs.own) fun a hs => ?_
    refine qpe 1 [(6, vi v_45.1)] hs fun a hs => hK177 _ _ ?_
    clear hK177
    refine wp_ret ?_
    refine hKP175 _ _ ?_
    refine hKR175 _ _ ?_
    refine Vk.ret1 (P := Try.prog) (fn := Try.f151) (vi v_45.1) hs rfl (by kernel_rfl) ⟨_, _, _, rfl, hs.own, fun a hs => ?_⟩
    refine qpe 1 [(6, vi v_45.1)] hs fun a hs => hK174 _ _ ?_
    clear hK174
    refine wp_ret ?_
    refine hKP170 _ _ ?_
    refine hKR170 _ _ ?_
    refine Vk.ret1 (P := Try.prog) (fn := Try.f95) (vi v_45.1) hs rfl (by kernel_rfl) ⟨_, _, _, rfl, hs.own, fun a hs => ?_⟩
    replace hcl := qO hC_169 hs.own.drop
    refine ⟨fun _ => hcl, ?_⟩
    replace hs := hs.toEx (Twire_Machine.parts b_x0 v_129.2) g_144 0 rfl
    obtain ⟨v_180, h_179, hm⟩ := bind_t hm
    refine qdc 14 (wire_Machine_Two.ok _ _ _ _ _ _ _ h_179 _ _ _ b_x0 hs.own) hs fun w a hs => ?_
    replace hcl := qO hC_169 hs.own.drop
    refine ⟨fun _ => hcl, ?_⟩
    refine qdp (fuel := 1) [16] hs hcl hqC_169 fun a hs => ?_
    refine qsd 17 1 0 (ci v_180.1) hs rfl fun a w hs => ?_
    refine ⟨fun h => absurd h (by decide), ?_⟩
    replace hs := hs.pick [0, 1, 4, 5, 6, 7, 16, 17, 31, 32] (L' := [(0, pp b_24), (1, .func (.func 95) #[pp b_24] #[]), (4, pp b_140), (5, pp b_142), (6, vi 2), (7, vi 0), (16, vi 2), (17, vi 0), (31, vi 2), (32, vi 1)]) (by kernel_rfl)
    refine Vk.dDone (by kernel_rfl) ?_
    refine hK166 _ _ ?_
    clear hK166
    refine Vk.region ?_
    refine qpk 2 [0, 1, 4, 5, 6, 7, 16, 17, 31, 32] hs fun a hs => hKL163 _ _ ?_
    clear hKL163
    refine Vk.unroll fun KL181 hKL181 => ?_
    refine qsk 1 [0, 1, 4, 5, 6, 7, 16, 17, 31, 32, 33] hs fun a hs => ?_
    refine Vk.seq fun K183 hK183 => ?_
    refine qcf hs ?_
    refine wp_exit ?_
    refine hK153 _ _ ?_
    clear hK153
    refine Vk.region ?_
    refine qpk 2 [0, 1, 4, 5, 6, 16, 17] hs fun a hs => hKL150 _ _ ?_
    clear hKL150
    refine Vk.unroll fun KL184 hKL184 => ?_
    refine qsk 1 [0, 1, 4, 5, 6, 16, 17, 18] hs fun a hs => ?_
    refine qck hs ?_
    refine Vk.seq fun K187 hK187 => ?_
    refine wp_block ?_
    refine qsk 2 [0, 1, 4, 5, 6, 7, 16, 17] hs fun a hs => ?_
    refine qsr fun K189 hK189 => ?_
    refine qpu 8 hs fun a hs => ?_
    refine qld 3 (ci v_129.1) hs rfl fun a hs => ?_
    refine qpu 2 hs fun a hs => ?_
    refine qst 1 1 (ci v_129.1) hs rfl fun a w hs => ?_
    refine qpe 0 [(0, pp b_24), (1, .func (.func 95) #[pp b_24] #[]), (4, pp b_140), (5, pp b_142), (6, vi 2), (7, vi 1), (16, vi 2), (17, vi 1)] hs fun a hs => hK189 _ _ ?_
    clear hK189
    refine qsk 2 [0, 1, 4, 5, 6, 7, 16, 17, 31, 32] hs fun a hs => ?_
    refine wp_block ?_
    refine Vk.unroll0 40 ?_
    refine Vk.unroll fun KL191 hKL191 => ?_
    refine qsk 1 [0, 1, 4, 5, 6, 7, 16, 17, 31, 32, 33] hs fun a hs => ?_
    refine qck hs ?_
    refine Vk.seq fun K194 hK194 => ?_
    refine wp_block ?_
    refine qsk 2 [0, 1, 4, 5, 6, 7, 8, 16, 17, 31, 32] hs fun a hs => ?_
    refine qsk 3 [0, 1, 4, 5, 6, 7, 8, 16, 17, 31, 32, 37] hs fun a hs => ?_
    refine qct hs ?_
    obtain ⟨C_197, hC_197⟩ := qC hs.own.drop
    refine qdr 17 κ C_197 hs fun w hs hqC_197 => ?_
    have hcl := qO hC_197 hs.own.drop
    refine qdp (fuel := 6) [0, 1, 2, 3, 5, 6, 7, 8, 10, 11, 12, 15] hs hcl hqC_197 fun a hs => ?_
    refine qdl 4 2 (cp b_x0) hs hcl hqC_197 hC_197 rfl fun a hs => ?_
    refine qdl 9 0 (ci v_129.1) hs hcl hqC_197 hC_197 rfl fun a hs => ?_
    refine Vk.dOnly (i := 13) (by kernel_rfl) (Vk.call (some 51) 95 #[pp b_24, vi 1, vi 0] hs (by kernel_rfl) (by kernel_rfl) (by kernel_rfl) ?_)
    refine Vk.enterI [(0, pp b_24), (1, vi 1), (2, vi 0)] Try.func95 rfl Try.ntmps95 (by kernel_rfl) (Nat.le_of_ble_eq_true (by kernel_rfl)) hs.own fun KR198 hKR198 hKP198 a hs => ?_
    refine qsk 1 [0, 1, 2] hs fun a hs => ?_
    refine Vk.seq fun K200 hK200 => ?_
    refine qse 3 [(0, pp b_24), (1, vi 1), (2, vi 0), (9, .bool false)] hs fun a hs => ?_
    refine qcf hs ?_
    refine wp_skip ?_
    refine hK200 _ _ ?_
    clear hK200
    refine Vk.seq fun K202 hK202 => ?_
    obtain ⟨C_203, hC_203⟩ := qC hs.own.drop
    refine qdr 33 κ C_203 hs fun w hs hqC_203 => ?_
    have hcl := qO hC_203 hs.own.drop
    refine qdp (fuel := 8) [0, 1, 2, 4, 5, 6, 7, 9, 10, 11, 12, 14, 15, 16, 17, 18, 19, 20, 23, 24, 25, 26, 27, 28, 29] hs hcl hqC_203 fun a hs => ?_
    refine qdl 3 2 (cp b_x0) hs hcl hqC_203 hC_203 rfl fun a hs => ?_
    refine qdl 8 2 (cp b_x0) hs hcl hqC_203 hC_203 rfl fun a hs => ?_
    refine qdl 21 2 (ci v_94.1) hs hcl hqC_203 hC_203 rfl fun a hs => ?_
    refine qdl 30 2 (ci v_116.1) hs hcl hqC_203 hC_203 rfl fun a hs => ?_
    refine Vk.dOnly (i := 13) (by kernel_rfl) (Vk.call (some 27) 151 #[pp b_24, vi 0, vi 1] hs (by kernel_rfl) (by kernel_rfl) (by kernel_rfl) ?_)
    refine Vk.enterI [(0, pp b_24), (1, vi 0), (2, vi 1)] Try.func151 rfl Try.ntmps151 (by kernel_rfl) (Nat.le_of_ble_eq_true (by kernel_rfl)) hs.own fun KR204 hKR204 hKP204 a hs => ?_
    refine qsk 1 [0, 1, 2] hs fun a hs => ?_
    refine qsr fun K206 hK206 => ?_
    refine qpu 3 hs fun a hs => ?_
    refine qld 3 (C.map (some b_23)) hs rfl fun a hs => ?_
    refine qpu 7 hs fun a hs => ?_
    refine qva (vi v_45.1) (op := (.lookup 186 (.tmp 10) (.tmp 17) false)) hs (fun o ho => run_lookup (b := b_23) (key := .agg (vals [ci 0, ci 1])) 4 rfl ho (by kernel_rfl) (by kernel_rfl) (by kernel_rfl) _ hs.own) fun a hs => ?_
    refine qpe 1 [(6, vi v_45.1)] hs fun a hs => hK206 _ _ ?_
    clear hK206
    refine wp_ret ?_
    refine hKP204 _ _ ?_
    refine hKR204 _ _ ?_
    refine Vk.ret1 (P := Try.prog) (fn := Try.f151) (vi v_45.1) hs rfl (by kernel_rfl) ⟨_, _, _, rfl, hs.own, fun a hs => ?_⟩
    replace hcl := qO hC_203 hs.own.drop
    refine ⟨fun _ => hcl, ?_⟩
    obtain ⟨v_209, h_208, hm⟩ := bind_t hm
    refine qdc 22 (wire_Machine_Two.ok _ _ _ _ _ _ _ h_208 _ _ _ b_x0 hs.own) hs fun w a hs => ?_
    replace hcl := qO hC_203 hs.own.drop
    refine ⟨fun _ => hcl, ?_⟩
    obtain ⟨v_212, h_211, hm⟩ := bind_t hm
    refine qdc 31 (wire_Machine_Two.ok _ _ _ _ _ _ _ h_211 _ _ _ b_x0 hs.own) hs fun w a hs => ?_
    replace hcl := qO hC_203 hs.own.drop
    refine ⟨fun _ => hcl, ?_⟩
    refine qdp (fuel := 0) [32] hs hcl hqC_203 fun a hs => ?_
    replace hs := hs.pick [6] (L' := [(6, vi v_212.1)]) (by kernel_rfl)
    refine Vk.dDone (by kernel_rfl) ?_
    refine hK202 _ _ ?_
    clear hK202
    refine wp_ret ?_
    refine hKP198 _ _ ?_
    refine hKR198 _ _ ?_
    refine Vk.ret1 (P := Try.prog) (fn := Try.f95) (vi v_212.1) hs rfl (by kernel_rfl) ⟨_, _, _, rfl, hs.own, fun a hs => ?_⟩
    replace hcl := qO hC_197 hs.own.drop
    refine ⟨fun _ => hcl, ?_⟩
    obtain ⟨v_215, h_214, hm⟩ := bind_t hm
    refine qdc 14 (wire_Machine_Two.ok _ _ _ _ _ _ _ h_214 _ _ _ b_x0 hs.own) hs fun w a hs => ?_
    replace hcl := qO hC_197 hs.own.drop
    refine ⟨fun _ => hcl, ?_⟩
    refine qdp (fuel := 1) [16] hs hcl hqC_197 fun a hs => ?_
    refine qsd 17 1 1 (ci v_215.1) hs rfl fun a w hs => ?_
    refine ⟨fun h => absurd h (by decide), ?_⟩
    replace hs := hs.pick [0, 1, 4, 5, 6, 7, 16, 17, 31, 32] (L' := [(0, pp b_24), (1, .func (.func 95) #[pp b_24] #[]), (4, pp b_140), (5, pp b_142), (6, vi 2), (7, vi 1), (16, vi 2), (17, vi 1), (31, vi 2), (32, vi 0)]) (by kernel_rfl)
    refine Vk.dDone (by kernel_rfl) ?_
    refine hK194 _ _ ?_
    clear hK194
    refine Vk.region ?_
    refine qpk 2 [0, 1, 4, 5, 6, 7, 16, 17, 31, 32] hs fun a hs => hKL191 _ _ ?_
    clear hKL191
    refine Vk.unroll fun KL216 hKL216 => ?_
    refine qsk 1 [0, 1, 4, 5, 6, 7, 16, 17, 31, 32, 33] hs fun a hs => ?_
    refine qck hs ?_
    refine Vk.seq fun K219 hK219 => ?_
    refine wp_block ?_
    refine qsk 2 [0, 1, 4, 5, 6, 7, 8, 16, 17, 31, 32] hs fun a hs => ?_
    refine qsk 3 [0, 1, 4, 5, 6, 7, 8, 16, 17, 31, 32, 37] hs fun a hs => ?_
    refine qcf hs ?_
    refine wp_skip ?_
    refine hK219 _ _ ?_
    clear hK219
    refine Vk.region ?_
    refine qpk 2 [0, 1, 4, 5, 6, 7, 16, 17, 31, 32] hs fun a hs => hKL216 _ _ ?_
    clear hKL216
    refine Vk.unroll fun KL222 hKL222 => ?_
    refine qse 1 [(0, pp b_24), (1, .func (.func 95) #[pp b_24] #[]), (4, pp b_140), (5, pp b_142), (6, vi 2), (7, vi 1), (16, vi 2), (17, vi 1), (31, vi 2), (32, vi 2), (33, .bool false)] hs fun a hs => ?_
    refine Vk.seq fun K224 hK224 => ?_
    refine qcf hs ?_
    refine wp_exit ?_
    refine hK187 _ _ ?_
    clear hK187
    refine Vk.region ?_
    refine qpk 2 [0, 1, 4, 5, 6, 16, 17] hs fun a hs => hKL184 _ _ ?_
    clear hKL184
    refine Vk.unroll fun KL225 hKL225 => ?_
    refine qsk 1 [0, 1, 4, 5, 6, 16, 17, 18] hs fun a hs => ?_
    refine Vk.seq fun K227 hK227 => ?_
    refine qcf hs ?_
    refine wp_exit ?_
    refine hK148 _ _ ?_
    clear hK148
    refine qsr fun K228 hK228 => ?_
    refine qln 1 ([ci v_180.1, ci v_215.1, ci (-1)]) hs rfl fun a hs => ?_
    refine qsa 2 [ci v_180.1, ci v_215.1, ci (-1)] hs rfl fun a w hs => ?_
    refine qpe 0 [(4, pp b_140)] hs fun a hs => hK228 _ _ ?_
    clear hK228
    refine wp_ret ?_
    refine hKP138 _ _ ?_
    refine hKR138 _ _ ?_
    refine Vk.retC (P := Try.prog) (fn := Try.f92) [ci v_180.1, ci v_215.1, ci (-1)] hs rfl (by kernel_rfl) (sz := 3) (by kernel_rfl) rfl (CellsAt.all 2 rfl) ⟨_, _, _, rfl, hs.own, fun a hs => ?_⟩
    refine qal 28 [ci 0, ci 0, ci 0] 8 hs fun b_229 w a hs => ?_
    refine qsa 0 [ci v_180.1, ci v_215.1, ci (-1)] hs rfl fun a w hs => ?_
    refine qpk 0 [0, 6, 8] hs fun a hs => hK137 _ _ ?_
    clear hK137
    refine qsr fun K230 hK230 => ?_
    refine qpu 1 hs fun a hs => ?_
    obtain ⟨v_233, h_232, hm⟩ := bind_t hm
    refine qcl (wire_Machine_End.ok _ _ _ h_232 _ _ _ b_x0 hs.own.f1) hs fun w a hs => ?_
    refine qpe 0 [(6, pp b_4), (8, pp b_229)] hs fun a hs => hK230 _ _ ?_
    clear hK230
    refine qsr fun K234 hK234 => ?_
    refine qln 1 ([ci v_180.1, ci v_215.1, ci (-1)]) hs rfl fun a hs => ?_
    refine qsa 8 [ci v_180.1, ci v_215.1, ci (-1)] hs rfl fun a w hs => ?_
    refine qpe 0 [(6, pp b_4)] hs fun a hs => hK234 _ _ ?_
    clear hK234
    refine wp_ret ?_
    exact Vk.retC [ci v_180.1, ci v_215.1, ci (-1)] hs rfl (by kernel_rfl) (sz := 3) (by kernel_rfl) rfl (CellsAt.all 8 rfl) (hRR ▸ by cases hm; exact ⟨rfl, (hs.own.too [0] 11)⟩)
   ·replace hm := bif_f hm hb
    cases hm
  ·replace hm := bif_f hm hb
   cases hm
 ·replace hm := bif_f hm hb
  rcases Bool.eq_false_or_eq_true (v_10 == 3) with hb | hb
  ·replace hm := bif_t hm hb
   obtain rfl := Vk.of_beq hb
   refine qpk 1 [0, 4, 5, 6, 11] hs fun a hs => hK6 _ _ ?_
   refine qcf hs ?_
   refine wp_skip ?_
   refine hK5 _ _ ?_
   refine qsr fun K235 hK235 => ?_
   refine qpu 1 hs fun a hs => ?_
   replace hs := hs.toEx (Twire_Machine.parts b_x0 x0) g_7 0 rfl
   obtain ⟨v_238, h_237, hm⟩ := bind_t hm
   refine qcl (wire_Machine_Begin.ok _ _ _ _ h_237 _ _ _ b_x0 hs.own) hs fun w a hs => ?_
   refine qpk 0 [0, 4, 5, 6] hs fun a hs => hK235 _ _ ?_
   clear hK235
   refine qsr fun K239 hK239 => ?_
   refine qpu 1 hs fun a hs => ?_
   obtain ⟨h_240, hm⟩ := ite_t hm
   refine qlw 3 hs rfl h_240 fun a hs => ?_
   obtain ⟨h_241, hm⟩ := ite_t hm
   refine qlw 2 hs rfl h_241 fun a hs => ?_
   refine Vk.step (Vk.call (some 19) 91 #[pp b_x0, .agg (vals x1), .agg (vals x2)] hs (by kernel_rfl) (by kernel_rfl) (by kernel_rfl) ?_)
   refine Vk.enterI [(0, pp b_x0), (1, .agg (vals x1)), (2, .agg (vals x2))] Try.func91 rfl Try.ntmps91 (by kernel_rfl) (Nat.le_of_ble_eq_true (by kernel_rfl)) hs.own fun KR242 hKR242 hKP242 a hs => ?_
   refine qsr fun K243 hK243 => ?_
   refine qbx 1 28 x1 4 hs fun b_244 w a hs => ?_
   refine qbx 2 28 x2 5 hs fun b_245 w a hs => ?_
   refine qpk 1 [0, 4, 5] hs fun a hs => hK243 _ _ ?_
   clear hK243
   refine qsr fun K246 hK246 => ?_
   refine qpu 1 hs fun a hs => ?_
   refine Vk.step (Vk.mapOp 14 186 hs (by kernel_rfl) (by kernel_rfl) fun b_247 w a hs => ?_)
   refine qpu 1 hs fun a hs => ?_
   refine qbx 15 188 [cp b_x0, C.map (some b_247), ci 0, ci 0, ci 0, ci 0, ci 0, ci 0, ci 0, ci 0, ci 0] 16 hs fun b_248 w a hs => ?_
   refine qpe 1 [(0, pp b_x0), (4, pp b_244), (5, pp b_245), (7, pp b_248)] hs fun a hs => hK246 _ _ ?_
   clear hK246
   refine qsr fun K249 hK249 => ?_
   refine qpu 1 hs fun a hs => ?_
   obtain ⟨g_250, hs⟩ := hs.unex 4 rfl
   obtain ⟨v_253, h_252, hm⟩ := bind_t hm
   refine qcl (wire_Machine_N.ok _ _ _ h_252 _ _ _ b_x0 g_250 hs.own.f4) hs fun w a hs => ?_
   rcases Bool.eq_false_or_eq_true (v_253 == 3) with hb | hb
   ·replace hm := bif_t hm hb
    obtain rfl := Vk.of_beq hb
    refine qpk 1 [0, 4, 5, 7, 8] hs fun a hs => hK249 _ _ ?_
    clear hK249
    refine Vk.seq fun K254 hK254 => ?_
    refine qsk 2 [0, 4, 5, 7, 8, 19, 20] hs fun a hs => ?_
    refine wp_block ?_
    refine Vk.unroll0 40 ?_
    refine Vk.unroll fun KL256 hKL256 => ?_
    refine qsk 1 [0, 4, 5, 7, 8, 19, 20, 21] hs fun a hs => ?_
    refine qck hs ?_
    refine Vk.seq fun K259 hK259 => ?_
    refine wp_block ?_
    refine qsk 2 [0, 4, 5, 7, 8, 9, 19, 20] hs fun a hs => ?_
    refine qsk 3 [0, 4, 5, 7, 8, 9, 10, 19, 20] hs fun a hs => ?_
    refine wp_block ?_
    refine Vk.unroll0 40 ?_
    refine Vk.unroll fun KL262 hKL262 => ?_
    refine Vk.seq fun K263 hK263 => ?_
    refine qse 3 [(0, pp b_x0), (4, pp b_244), (5, pp b_245), (7, pp b_248), (8, vi 3), (9, vi 0), (10, vi 1), (19, vi 3), (20, vi 0), (27, .bool true)] hs fun a hs => ?_
    refine qct hs ?_
    refine wp_skip ?_
    refine hK263 _ _ ?_
    clear hK263
    refine Vk.seq fun K265 hK265 => ?_
    refine wp_block ?_
    obtain ⟨C_266, hC_266⟩ := qC hs.own.drop
    refine qdr 9 κ C_266 hs fun w hs hqC_266 => ?_
    have hcl := qO hC_266 hs.own.drop
    refine qdp (fuel := 3) [0, 1, 2, 4, 5, 6, 7] hs hcl hqC_266 fun a hs => ?_
    refine qdl 3 0 (C.map (some b_247)) hs hcl hqC_266 hC_266 rfl fun a hs => ?_
    replace hs := hs.toEx (Twire_Machine.parts b_x0 v_238) g_250 0 rfl
    obtain ⟨v_269, h_268, hm⟩ := bind_t hm
    refine qdc 8 (wire_Machine_Rand.ok _ _ _ _ h_268 _ _ _ b_x0 hs.own) hs fun w a hs => ?_
    replace hcl := qO hC_266 hs.own.drop
    refine ⟨fun _ => hcl, ?_⟩
    refine Vk.dOnly (i := 9) (by kernel_rfl) (Vk.updateOp (t := 186) (xm := (.tmp 33)) (xk := (.tmp 36)) (xv := (.tmp 38)) (b := b_247) (es' := #[⟨.agg (vals [ci 0, ci 1]), vi v_269.1, 0⟩]) (clock' := 1) (.agg (vals [ci 0, ci 1])) (vi v_269.1) 2 hs (by kernel_rfl) (by kernel_rfl) (by kernel_rfl) (by kernel_rfl) (by kernel_rfl) rfl (by kernel_rfl) fun a w hs => ?_)
    refine ⟨fun h => absurd h (by decide), ?_⟩
    replace hs := hs.pick [0, 4, 5, 7, 8, 9, 10, 19, 20] (L' := [(0, pp b_x0), (4, pp b_244), (5, pp b_245), (7, pp b_248), (8, vi 3), (9, vi 0), (10, vi 1), (19, vi 3), (20, vi 0)]) (by kernel_rfl)
    refine Vk.dDone (by kernel_rfl) ?_
    refine hK265 _ _ ?_
    clear hK265
    refine Vk.region ?_
    refine qpk 3 [0, 4, 5, 7, 8, 9, 10, 19, 20] hs fun a hs => hKL262 _ _ ?_
    clear hKL262
    refine Vk.unroll fun KL270 hKL270 => ?_
    refine Vk.seq fun K271 hK271 => ?_
    refine qsk 3 [0, 4, 5, 7, 8, 9, 10, 19, 20, 27] hs fun a hs => ?_
    refine qct hs ?_
    refine wp_skip ?_
    refine hK271 _ _ ?_
    clear hK271
    refine Vk.seq fun K273 hK273 => ?_
    refine wp_block ?_
    obtain ⟨C_274, hC_274⟩ := qC hs.own.drop
    refine qdr 9 κ C_274 hs fun w hs hqC_274 => ?_
    have hcl := qO hC_274 hs.own.drop
    refine qdp (fuel := 3) [0, 1, 2, 4, 5, 6, 7] hs hcl hqC_274 fun a hs => ?_
    refine qdl 3 0 (C.map (some b_247)) hs hcl hqC_274 hC_274 rfl fun a hs => ?_
    obtain ⟨v_277, h_276, hm⟩ := bind_t hm
    refine qdc 8 (wire_Machine_Rand.ok _ _ _ _ h_276 _ _ _ b_x0 hs.own) hs fun w a hs => ?_
    replace hcl := qO hC_274 hs.own.drop
    refine ⟨fun _ => hcl, ?_⟩
    refine Vk.dOnly (i := 9) (by kernel_rfl) (Vk.updateOp (t := 186) (xm := (.tmp 33)) (xk := (.tmp 36)) (xv := (.tmp 38)) (b := b_247) (es' := #[⟨.agg (vals [ci 0, ci 1]), vi v_269.1, 0⟩, ⟨.agg (vals [ci 0, ci 2]), vi v_277.1, 1⟩]) (clock' := 2) (.agg (vals [ci 0, ci 2])) (vi v_277.1) 2 hs (by kernel_rfl) (by kernel_rfl) (by kernel_rfl) (by kernel_rfl) (by kernel_rfl) rfl (by kernel_rfl) fun a w hs => ?_)
    refine ⟨fun h => absurd h (by decide), ?_⟩
    replace hs := hs.pick [0, 4, 5, 7, 8, 9, 10, 19, 20] (L' := [(0, pp b_x0), (4, pp b_244), (5, pp b_245), (7, pp b_248), (8, vi 3), (9, vi 0), (10, vi 2), (19, vi 3), (20, vi 0)]) (by kernel_rfl)
    refine Vk.dDone (by kernel_rfl) ?_
    refine hK273 _ _ ?_
    clear hK273
    refine Vk.region ?_
    refine qpk 3 [0, 4, 5, 7, 8, 9, 10, 19, 20] hs fun a hs => hKL270 _ _ ?_
    clear hKL270
    refine Vk.unroll fun KL278 hKL278 => ?_
    refine Vk.seq fun K279 hK279 => ?_
    refine qsk 3 [0, 4, 5, 7, 8, 9, 10, 19, 20, 27] hs fun a hs => ?_
    refine qcf hs ?_
    refine wp_exit ?_
    refine hK259 _ _ ?_
    clear hK259
    refine Vk.region ?_
    refine qpk 2 [0, 4, 5, 7, 8, 19, 20] hs fun a hs => hKL256 _ _ ?_
    clear hKL256
    refine Vk.unroll fun KL281 hKL281 => ?_
    refine qse 1 [(0, pp b_x0), (4, pp b_244), (5, pp b_245), (7, pp b_248), (8, vi 3), (19, vi 3), (20, vi 1), (21, .bool true)] hs fun a hs => ?_
    refine qck hs ?_
    refine Vk.seq fun K284 hK284 => ?_
    refine wp_block ?_
    refine qsk 2 [0, 4, 5, 7, 8, 9, 19, 20] hs fun a hs => ?_
    refine qsk 3 [0, 4, 5, 7, 8, 9, 10, 19, 20] hs fun a hs => ?_
    refine wp_block ?_
    refine Vk.unroll0 40 ?_
    refine Vk.unroll fun KL287 hKL287 => ?_
    refine Vk.seq fun K288 hK288 => ?_
    refine qsk 3 [0, 4, 5, 7, 8, 9, 10, 19, 20, 27] hs fun a hs => ?_
    refine qct hs ?_
    refine wp_skip ?_
    refine hK288 _ _ ?_
    clear hK288
    refine Vk.seq fun K290 hK290 => ?_
    refine wp_block ?_
    obtain ⟨C_291, hC_291⟩ := qC hs.own.drop
    refine qdr 9 κ C_291 hs fun w hs hqC_291 => ?_
    have hcl := qO hC_291 hs.own.drop
    refine qdp (fuel := 3) [0, 1, 2, 4, 5, 6, 7] hs hcl hqC_291 fun a hs => ?_
    refine qdl 3 0 (C.map (some b_247)) hs hcl hqC_291 hC_291 rfl fun a hs => ?_
    obtain ⟨v_294, h_293, hm⟩ := bind_t hm
    refine qdc 8 (wire_Machine_Rand.ok _ _ _ _ h_293 _ _ _ b_x0 hs.own) hs fun w a hs => ?_
    replace hcl := qO hC_291 hs.own.drop
    refine ⟨fun _ => hcl, ?_⟩
    refine Vk.dOnly (i := 9) (by kernel_rfl) (Vk.updateOp (t := 186) (xm := (.tmp 33)) (xk := (.tmp 36)) (xv := (.tmp 38)) (b := b_247) (es' := #[⟨.agg (vals [ci 0, ci 1]), vi v_269.1, 0⟩, ⟨.agg (vals [ci 0, ci 2]), vi v_277.1, 1⟩, ⟨.agg (vals [ci 1, ci 2]), vi v_294.1, 2⟩]) (clock' := 3) (.agg (vals [ci 1, ci 2])) (vi v_294.1) 2 hs (by kernel_rfl) (by kernel_rfl) (by kernel_rfl) (by kernel_rfl) (by kernel_rfl) rfl (by kernel_rfl) fun a w hs => ?_)
    refine ⟨fun h => absurd h (by decide), ?_⟩
    replace hs := hs.pick [0, 4, 5, 7, 8, 9, 10, 19, 20] (L' := [(0, pp b_x0), (4, pp b_244), (5, pp b_245), (7, pp b_248), (8, vi 3), (9, vi 1), (10, vi 2), (19, vi 3), (20, vi 1)]) (by kernel_rfl)
    refine Vk.dDone (by kernel_rfl) ?_
    refine hK290 _ _ ?_
    clear hK290
    refine Vk.region ?_
    refine qpk 3 [0, 4, 5, 7, 8, 9, 10, 19, 20] hs fun a hs => hKL287 _ _ ?_
    clear hKL287
    refine Vk.unroll fun KL295 hKL295 => ?_
    refine Vk.seq fun K296 hK296 => ?_
    refine qsk 3 [0, 4, 5, 7, 8, 9, 10, 19, 20, 27] hs fun a hs => ?_
    refine qcf hs ?_
    refine wp_exit ?_
    refine hK284 _ _ ?_
    clear hK284
    refine Vk.region ?_
    refine qpe 2 [(0, pp b_x0), (4, pp b_244), (5, pp b_245), (7, pp b_248), (8, vi 3), (19, vi 3), (20, vi 2)] hs fun a hs => hKL281 _ _ ?_
    clear hKL281
    refine Vk.unroll fun KL298 hKL298 => ?_
    refine qsk 1 [0, 4, 5, 7, 8, 19, 20, 21] hs fun a hs => ?_
    refine qck hs ?_
    refine Vk.seq fun K301 hK301 => ?_
    refine wp_block ?_
    refine qsk 2 [0, 4, 5, 7, 8, 9, 19, 20] hs fun a hs => ?_
    refine qsk 3 [0, 4, 5, 7, 8, 9, 10, 19, 20] hs fun a hs => ?_
    refine wp_block ?_
    refine Vk.unroll0 40 ?_
    refine Vk.unroll fun KL304 hKL304 => ?_
    refine Vk.seq fun K305 hK305 => ?_
    refine qsk 3 [0, 4, 5, 7, 8, 9, 10, 19, 20, 27] hs fun a hs => ?_
    refine qcf hs ?_
    refine wp_exit ?_
    refine hK301 _ _ ?_
    clear hK301
    refine Vk.region ?_
    refine qpk 2 [0, 4, 5, 7, 8, 19, 20] hs fun a hs => hKL298 _ _ ?_
    clear hKL298
    refine Vk.unroll fun KL307 hKL307 => ?_
    refine qse 1 [(0, pp b_x0), (4, pp b_244), (5, pp b_245), (7, pp b_248), (8, vi 3), (19, vi 3), (20, vi 3), (21, .bool false)] hs fun a hs => ?_
    refine Vk.seq fun K309 hK309 => ?_
    refine qcf hs ?_
    refine wp_exit ?_
    refine hK254 _ _ ?_
    clear hK254
    refine Vk.seq fun K310 hK310 => ?_
    refine qsk 2 [0, 4, 5, 7, 8, 40, 41] hs fun a hs => ?_
    refine wp_block ?_
    refine Vk.unroll0 40 ?_
    refine Vk.unroll fun KL312 hKL312 => ?_
    refine qsk 1 [0, 4, 5, 7, 8, 40, 41, 42] hs fun a hs => ?_
    refine qck hs ?_
    refine Vk.seq fun K315 hK315 => ?_
    refine wp_block ?_
    refine qsk 2 [0, 4, 5, 7, 8, 11, 40, 41] hs fun a hs => ?_
    refine qsk 2 [0, 4, 5, 7, 8, 11, 40, 41, 44, 45] hs fun a hs => ?_
    refine wp_block ?_
    refine Vk.unroll0 40 ?_
    refine Vk.unroll fun KL318 hKL318 => ?_
    refine qsk 1 [0, 4, 5, 7, 8, 11, 40, 41, 44, 45, 46] hs fun a hs => ?_
    refine qck hs ?_
    refine Vk.seq fun K321 hK321 => ?_
    refine wp_block ?_
    refine qse 2 [(0, pp b_x0), (4, pp b_244), (5, pp b_245), (7, pp b_248), (8, vi 3), (11, vi 0), (12, vi 0), (40, vi 3), (41, vi 0), (44, vi 3), (45, vi 0)] hs fun a hs => ?_
    obtain ⟨C_323, hC_323⟩ := qC hs.own.drop
    refine qdr 18 κ C_323 hs fun w hs hqC_323 => ?_
    have hcl := qO hC_323 hs.own.drop
    refine qdp (fuel := 5) [0, 1, 2, 3, 4, 5, 6, 7, 9, 10, 11, 14, 15, 16] hs hcl hqC_323 fun a hs => ?_
    obtain ⟨v_325, h_324, hm⟩ := bind_t hm
    refine qdi 8 3 hs hcl hqC_323 hC_323 rfl h_324 fun a hs => ?_
    obtain ⟨v_327, h_326, hm⟩ := bind_t hm
    refine qdi 12 2 hs hcl hqC_323 hC_323 rfl h_326 fun a hs => ?_
    obtain ⟨v_330, h_329, hm⟩ := bind_t hm
    refine qdc 13 (wire_Machine_Two.ok _ _ _ _ _ _ _ h_329 _ _ _ b_x0 hs.own) hs fun w a hs => ?_
    replace hcl := qO hC_323 hs.own.drop
    refine ⟨fun _ => hcl, ?_⟩
    refine qdp (fuel := 1) [17] hs hcl hqC_323 fun a hs => ?_
    refine qsd 18 1 2 (ci v_330.1) hs rfl fun a w hs => ?_
    refine ⟨fun h => absurd h (by decide), ?_⟩
    replace hs := hs.pick [0, 4, 5, 7, 8, 11, 40, 41, 44, 45] (L' := [(0, pp b_x0), (4, pp b_244), (5, pp b_245), (7, pp b_248), (8, vi 3), (11, vi 0), (40, vi 3), (41, vi 0), (44, vi 3), (45, vi 0)]) (by kernel_rfl)
    refine Vk.dDone (by kernel_rfl) ?_
    refine hK321 _ _ ?_
    clear hK321
    refine Vk.region ?_
    refine qpk 2 [0, 4, 5, 7, 8, 11, 40, 41, 44, 45] hs fun a hs => hKL318 _ _ ?_
    clear hKL318
    refine Vk.unroll fun KL331 hKL331 => ?_
    refine qsk 1 [0, 4, 5, 7, 8, 11, 40, 41, 44, 45, 46] hs fun a hs => ?_
    refine qck hs ?_
    refine Vk.seq fun K334 hK334 => ?_
    refine wp_block ?_
    refine qsk 2 [0, 4, 5, 7, 8, 11, 12, 40, 41, 44, 45] hs fun a hs => ?_
    obtain ⟨C_336, hC_336⟩ := qC hs.own.drop
    refine qdr 18 κ C_336 hs fun w hs hqC_336 => ?_
    have hcl := qO hC_336 hs.own.drop
    refine qdp (fuel := 5) [0, 1, 2, 3, 4, 5, 6, 7, 9, 10, 11, 14, 15, 16] hs hcl hqC_336 fun a hs => ?_
    obtain ⟨v_338, h_337, hm⟩ := bind_t hm
    refine qdi 8 3 hs hcl hqC_336 hC_336 rfl h_337 fun a hs => ?_
    obtain ⟨v_340, h_339, hm⟩ := bind_t hm
    refine qdi 12 2 hs hcl hqC_336 hC_336 rfl h_339 fun a hs => ?_
    obtain ⟨v_343, h_342, hm⟩ := bind_t hm
    refine qdc 13 (wire_Machine_Two.ok _ _ _ _ _ _ _ h_342 _ _ _ b_x0 hs.own) hs fun w a hs => ?_
    replace hcl := qO hC_336 hs.own.drop
    refine ⟨fun _ => hcl, ?_⟩
    refine qdp (fuel := 1) [17] hs hcl hqC_336 fun a hs => ?_
    refine qsd 18 1 3 (ci v_343.1) hs rfl fun a w hs => ?_
    refine ⟨fun h => absurd h (by decide), ?_⟩
    replace hs := hs.pick [0, 4, 5, 7, 8, 11, 40, 41, 44, 45] (L' := [(0, pp b_x0), (4, pp b_244), (5, pp b_245), (7, pp b_248), (8, vi 3), (11, vi 0), (40, vi 3), (41, vi 0), (44, vi 3), (45, vi 1)]) (by kernel_rfl)
    refine Vk.dDone (by kernel_rfl) ?_
    refine hK334 _ _ ?_
    clear hK334
    refine Vk.region ?_
    refine qpk 2 [0, 4, 5, 7, 8, 11, 40, 41, 44, 45] hs fun a hs => hKL331 _ _ ?_
    clear hKL331
    refine Vk.unroll fun KL344 hKL344 => ?_
    refine qsk 1 [0, 4, 5, 7, 8, 11, 40, 41, 44, 45, 46] hs fun a hs => ?_
    refine qck hs ?_
    refine Vk.seq fun K347 hK347 => ?_
    refine wp_block ?_
    refine qse 2 [(0, pp b_x0), (4, pp b_244), (5, pp b_245), (7, pp b_248), (8, vi 3), (11, vi 0), (12, vi 2), (40, vi 3), (41, vi 0), (44, vi 3), (45, vi 2)] hs fun a hs => ?_
    obtain ⟨C_349, hC_349⟩ := qC hs.own.drop
    refine qdr 18 κ C_349 hs fun w hs hqC_349 => ?_
    have hcl := qO hC_349 hs.own.drop
    refine qdp (fuel := 5) [0, 1, 2, 3, 4, 5, 6, 7, 9, 10, 11, 14, 15, 16] hs hcl hqC_349 fun a hs => ?_
    obtain ⟨v_351, h_350, hm⟩ := bind_t hm
    refine qdi 8 3 hs hcl hqC_349 hC_349 rfl h_350 fun a hs => ?_
    obtain ⟨v_353, h_352, hm⟩ := bind_t hm
    refine qdi 12 2 hs hcl hqC_349 hC_349 rfl h_352 fun a hs => ?_
    obtain ⟨v_356, h_355, hm⟩ := bind_t hm
    refine qdc 13 (wire_Machine_Two.ok _ _ _ _ _ _ _ h_355 _ _ _ b_x0 hs.own) hs fun w a hs => ?_
    replace hcl := qO hC_349 hs.own.drop
    refine ⟨fun _ => hcl, ?_⟩
    refine qdp (fuel := 1) [17] hs hcl hqC_349 fun a hs => ?_
    refine qsd 18 1 4 (ci v_356.1) hs rfl fun a w hs => ?_
    refine ⟨fun h => absurd h (by decide), ?_⟩
    replace hs := hs.pick [0, 4, 5, 7, 8, 11, 40, 41, 44, 45] (L' := [(0, pp b_x0), (4, pp b_244), (5, pp b_245), (7, pp b_248), (8, vi 3), (11, vi 0), (40, vi 3), (41, vi 0), (44, vi 3), (45, vi 2)]) (by kernel_rfl)
    refine Vk.dDone (by kernel_rfl) ?_
    refine hK347 _ _ ?_
    clear hK347
    refine Vk.region ?_
    refine qpk 2 [0, 4, 5, 7, 8, 11, 40, 41, 44, 45] hs fun a hs => hKL344 _ _ ?_
    clear hKL344
    refine Vk.unroll fun KL357 hKL357 => ?_
    refine qsk 1 [0, 4, 5, 7, 8, 11, 40, 41, 44, 45, 46] hs fun a hs => ?_
    refine Vk.seq fun K359 hK359 => ?_
    refine qcf hs ?_
    refine wp_exit ?_
    refine hK315 _ _ ?_
    clear hK315
    refine Vk.region ?_
    refine qpk 2 [0, 4, 5, 7, 8, 40, 41] hs fun a hs => hKL312 _ _ ?_
    clear hKL312
    refine Vk.unroll fun KL360 hKL360 => ?_
    refine qsk 1 [0, 4, 5, 7, 8, 40, 41, 42] hs fun a hs => ?_
    refine qck hs ?_
    refine Vk.seq fun K363 hK363 => ?_
    refine wp_block ?_
    refine qsk 2 [0, 4, 5, 7, 8, 11, 40, 41] hs fun a hs => ?_
    refine qse 2 [(0, pp b_x0), (4, pp b_244), (5, pp b_245), (7, pp b_248), (8, vi 3), (11, vi 1), (40, vi 3), (41, vi 1), (44, vi 3), (45, vi 0)] hs fun a hs => ?_
    refine wp_block ?_
    refine Vk.unroll0 40 ?_
    refine Vk.unroll fun KL366 hKL366 => ?_
    refine qsk 1 [0, 4, 5, 7, 8, 11, 40, 41, 44, 45, 46] hs fun a hs => ?_
    refine qck hs ?_
    refine Vk.seq fun K369 hK369 => ?_
    refine wp_block ?_
    refine qsk 2 [0, 4, 5, 7, 8, 11, 12, 40, 41, 44, 45] hs fun a hs => ?_
    obtain ⟨C_371, hC_371⟩ := qC hs.own.drop
    refine qdr 18 κ C_371 hs fun w hs hqC_371 => ?_
    have hcl := qO hC_371 hs.own.drop
    refine qdp (fuel := 5) [0, 1, 2, 3, 4, 5, 6, 7, 9, 10, 11, 14, 15, 16] hs hcl hqC_371 fun a hs => ?_
    obtain ⟨v_373, h_372, hm⟩ := bind_t hm
    refine qdi 8 3 hs hcl hqC_371 hC_371 rfl h_372 fun a hs => ?_
    obtain ⟨v_375, h_374, hm⟩ := bind_t hm
    refine qdi 12 2 hs hcl hqC_371 hC_371 rfl h_374 fun a hs => ?_
    obtain ⟨v_378, h_377, hm⟩ := bind_t hm
    refine qdc 13 (wire_Machine_Two.ok _ _ _ _ _ _ _ h_377 _ _ _ b_x0 hs.own) hs fun w a hs => ?_
    replace hcl := qO hC_371 hs.own.drop
    refine ⟨fun _ => hcl, ?_⟩
    refine qdp (fuel := 1) [17] hs hcl hqC_371 fun a hs => ?_
    refine qsd 18 1 5 (ci v_378.1) hs rfl fun a w hs => ?_
    refine ⟨fun h => absurd h (by decide), ?_⟩
    replace hs := hs.pick [0, 4, 5, 7, 8, 11, 40, 41, 44, 45] (L' := [(0, pp b_x0), (4, pp b_244), (5, pp b_245), (7, pp b_248), (8, vi 3), (11, vi 1), (40, vi 3), (41, vi 1), (44, vi 3), (45, vi 0)]) (by kernel_rfl)
    refine Vk.dDone (by kernel_rfl) ?_
    refine hK369 _ _ ?_
    clear hK369
    refine Vk.region ?_
    refine qpk 2 [0, 4, 5, 7, 8, 11, 40, 41, 44, 45] hs fun a hs => hKL366 _ _ ?_
    clear hKL366
    refine Vk.unroll fun KL379 hKL379 => ?_
    refine qsk 1 [0, 4, 5, 7, 8, 11, 40, 41, 44, 45, 46] hs fun a hs => ?_
    refine qck hs ?_
    refine Vk.seq fun K382 hK382 => ?_
    refine wp_block ?_
    refine qsk 2 [0, 4, 5, 7, 8, 11, 12, 40, 41, 44, 45] hs fun a hs => ?_
    obtain ⟨C_384, hC_384⟩ := qC hs.own.drop
    refine qdr 18 κ C_384 hs fun w hs hqC_384 => ?_
    have hcl := qO hC_384 hs.own.drop
    refine qdp (fuel := 5) [0, 1, 2, 3, 4, 5, 6, 7, 9, 10, 11, 14, 15, 16] hs hcl hqC_384 fun a hs => ?_
    obtain ⟨v_386, h_385, hm⟩ := bind_t hm
    refine qdi 8 3 hs hcl hqC_384 hC_384 rfl h_385 fun a hs => ?_
    obtain ⟨v_388, h_387, hm⟩ := bind_t hm
    refine qdi 12 2 hs hcl hqC_384 hC_384 rfl h_387 fun a hs => ?_
    obtain ⟨v_391, h_390, hm⟩ := bind_t hm
    refine qdc 13 (wire_Machine_Two.ok _ _ _ _ _ _ _ h_390 _ _ _ b_x0 hs.own) hs fun w a hs => ?_
    replace hcl := qO hC_384 hs.own.drop
    refine ⟨fun _ => hcl, ?_⟩
    refine qdp (fuel := 1) [17] hs hcl hqC_384 fun a hs => ?_
    refine qsd 18 1 6 (ci v_391.1) hs rfl fun a w hs => ?_
    refine ⟨fun h => absurd h (by decide), ?_⟩
    replace hs := hs.pick [0, 4, 5, 7, 8, 11, 40, 41, 44, 45] (L' := [(0, pp b_x0), (4, pp b_244), (5, pp b_245), (7, pp b_248), (8, vi 3), (11, vi 1), (40, vi 3), (41, vi 1), (44, vi 3), (45, vi 1)]) (by kernel_rfl)
    refine Vk.dDone (by kernel_rfl) ?_
    refine hK382 _ _ ?_
    clear hK382
    refine Vk.region ?_
    refine qpe 2 [(0, pp b_x0), (4, pp b_244), (5, pp b_245), (7, pp b_248), (8, vi 3), (11, vi 1), (40, vi 3), (41, vi 1), (44, vi 3), (45, vi 2)] hs fun a hs => hKL379 _ _ ?_
    clear hKL379
    refine Vk.unroll fun KL392 hKL392 => ?_
    refine qsk 1 [0, 4, 5, 7, 8, 11, 40, 41, 44, 45, 46] hs fun a hs => ?_
    refine qck hs ?_
    refine Vk.seq fun K395 hK395 => ?_
    refine wp_block ?_
    refine qsk 2 [0, 4, 5, 7, 8, 11, 12, 40, 41, 44, 45] hs fun a hs => ?_
    obtain ⟨C_397, hC_397⟩ := qC hs.own.drop
    refine qdr 18 κ C_397 hs fun w hs hqC_397 => ?_
    have hcl := qO hC_397 hs.own.drop
    refine qdp (fuel := 5) [0, 1, 2, 3, 4, 5, 6, 7, 9, 10, 11, 14, 15, 16] hs hcl hqC_397 fun a hs => ?_
    obtain ⟨v_399, h_398, hm⟩ := bind_t hm
    refine qdi 8 3 hs hcl hqC_397 hC_397 rfl h_398 fun a hs => ?_
    obtain ⟨v_401, h_400, hm⟩ := bind_t hm
    refine qdi 12 2 hs hcl hqC_397 hC_397 rfl h_400 fun a hs => ?_
    obtain ⟨v_404, h_403, hm⟩ := bind_t hm
    refine qdc 13 (wire_Machine_Two.ok _ _ _ _ _ _ _ h_403 _ _ _ b_x0 hs.own) hs fun w a hs => ?_
    replace hcl := qO hC_397 hs.own.drop
    refine ⟨fun _ => hcl, ?_⟩
    refine qdp (fuel := 1) [17] hs hcl hqC_397 fun a hs => ?_
    refine qsd 18 1 7 (ci v_404.1) hs rfl fun a w hs => ?_
    refine ⟨fun h => absurd h (by decide), ?_⟩
    replace hs := hs.pick [0, 4, 5, 7, 8, 11, 40, 41, 44, 45] (L' := [(0, pp b_x0), (4, pp b_244), (5, pp b_245), (7, pp b_248), (8, vi 3), (11, vi 1), (40, vi 3), (41, vi 1), (44, vi 3), (45, vi 2)]) (by kernel_rfl)
    refine Vk.dDone (by kernel_rfl) ?_
    refine hK395 _ _ ?_
    clear hK395
    refine Vk.region ?_
    refine qpk 2 [0, 4, 5, 7, 8, 11, 40, 41, 44, 45] hs fun a hs => hKL392 _ _ ?_
    clear hKL392
    refine Vk.unroll fun KL405 hKL405 => ?_
    refine qsk 1 [0, 4, 5, 7, 8, 11, 40, 41, 44, 45, 46] hs fun a hs => ?_
    refine Vk.seq fun K407 hK407 => ?_
    refine qcf hs ?_
    refine wp_exit ?_
    refine hK363 _ _ ?_
    clear hK363
    refine Vk.region ?_
    refine qpk 2 [0, 4, 5, 7, 8, 40, 41] hs fun a hs => hKL360 _ _ ?_
    clear hKL360
    refine Vk.unroll fun KL408 hKL408 => ?_
    refine qse 1 [(0, pp b_x0), (4, pp b_244), (5, pp b_245), (7, pp b_248), (8, vi 3), (40, vi 3), (41, vi 2), (42, .bool true)] hs fun a hs => ?_
    refine qck hs ?_
    refine Vk.seq fun K411 hK411 => ?_
    refine wp_block ?_
    refine qsk 2 [0, 4, 5, 7, 8, 11, 40, 41] hs fun a hs => ?_
    refine qsk 2 [0, 4, 5, 7, 8, 11, 40, 41, 44, 45] hs fun a hs => ?_
    refine wp_block ?_
    refine Vk.unroll0 40 ?_
    refine Vk.unroll fun KL414 hKL414 => ?_
    refine qsk 1 [0, 4, 5, 7, 8, 11, 40, 41, 44, 45, 46] hs fun a hs => ?_
    refine qck hs ?_
    refine Vk.seq fun K417 hK417 => ?_
    refine wp_block ?_
    refine qsk 2 [0, 4, 5, 7, 8, 11, 12, 40, 41, 44, 45] hs fun a hs => ?_
    obtain ⟨C_419, hC_419⟩ := qC hs.own.drop
    refine qdr 18 κ C_419 hs fun w hs hqC_419 => ?_
    have hcl := qO hC_419 hs.own.drop
    refine qdp (fuel := 5) [0, 1, 2, 3, 4, 5, 6, 7, 9, 10, 11, 14, 15, 16] hs hcl hqC_419 fun a hs => ?_
    obtain ⟨v_421, h_420, hm⟩ := bind_t hm
    refine qdi 8 3 hs hcl hqC_419 hC_419 rfl h_420 fun a hs => ?_
    obtain ⟨v_423, h_422, hm⟩ := bind_t hm
    refine qdi 12 2 hs hcl hqC_419 hC_419 rfl h_422 fun a hs => ?_
    obtain ⟨v_426, h_425, hm⟩ := bind_t hm
    refine qdc 13 (wire_Machine_Two.ok _ _ _ _ _ _ _ h_425 _ _ _ b_x0 hs.own) hs fun w a hs => ?_
    replace hcl := qO hC_419 hs.own.drop
    refine ⟨fun _ => hcl, ?_⟩
    refine qdp (fuel := 1) [17] hs hcl hqC_419 fun a hs => ?_
    refine qsd 18 1 8 (ci v_426.1) hs rfl fun a w hs => ?_
    refine ⟨fun h => absurd h (by decide), ?_⟩
    replace hs := hs.pick [0, 4, 5, 7, 8, 11, 40, 41, 44, 45] (L' := [(0, pp b_x0), (4, pp b_244), (5, pp b_245), (7, pp b_248), (8, vi 3), (11, vi 2), (40, vi 3), (41, vi 2), (44, vi 3), (45, vi 0)]) (by kernel_rfl)
    refine Vk.dDone (by kernel_rfl) ?_
    refine hK417 _ _ ?_
    clear hK417
    refine Vk.region ?_
    refine qpk 2 [0, 4, 5, 7, 8, 11, 40, 41, 44, 45] hs fun a hs => hKL414 _ _ ?_
    clear hKL414
    refine Vk.unroll fun KL427 hKL427 => ?_
    refine qse 1 [(0, pp b_x0), (4, pp b_244), (5, pp b_245), (7, pp b_248), (8, vi 3), (11, vi 2), (40, vi 3), (41, vi 2), (44, vi 3), (45, vi 1), (46, .bool true)] hs fun a hs => ?_
    refine qck hs ?_
    refine Vk.seq fun K430 hK430 => ?_
    refine wp_block ?_
    refine qsk 2 [0, 4, 5, 7, 8, 11, 12, 40, 41, 44, 45] hs fun a hs => ?_
    obtain ⟨C_432, hC_432⟩ := qC hs.own.drop
    refine qdr 18 κ C_432 hs fun w hs hqC_432 => ?_
    have hcl := qO hC_432 hs.own.drop
    refine qdp (fuel := 5) [0, 1, 2, 3, 4, 5, 6, 7, 9, 10, 11, 14, 15, 16] hs hcl hqC_432 fun a hs => ?_
    obtain ⟨v_434, h_433, hm⟩ := bind_t hm
    refine qdi 8 3 hs hcl hqC_432 hC_432 rfl h_433 fun a hs => ?_
    obtain ⟨v_436, h_435, hm⟩ := bind_t hm
    refine qdi 12 2 hs hcl hqC_432 hC_432 rfl h_435 fun a hs => ?_
    obtain ⟨v_439, h_438, hm⟩ := bind_t hm
    refine qdc 13 (wire_Machine_Two.ok _ _ _ _ _ _ _ h_438 _ _ _ b_x0 hs.own) hs fun w a hs => ?_
    replace hcl := qO hC_432 hs.own.drop
    refine ⟨fun _ => hcl, ?_⟩
    refine qdp (fuel := 1) [17] hs hcl hqC_432 fun a hs => ?_
    refine qsd 18 1 9 (ci v_439.1) hs rfl fun a w hs => ?_
    refine ⟨fun h => absurd h (by decide), ?_⟩
    replace hs := hs.pick [0, 4, 5, 7, 8, 11, 40, 41, 44, 45] (L' := [(0, pp b_x0), (4, pp b_244), (5, pp b_245), (7, pp b_248), (8, vi 3), (11, vi 2), (40, vi 3), (41, vi 2), (44, vi 3), (45, vi 1)]) (by kernel_rfl)
    refine Vk.dDone (by kernel_rfl) ?_
    refine hK430 _ _ ?_
    clear hK430
    refine Vk.region ?_
    refine qpk 2 [0, 4, 5, 7, 8, 11, 40, 41, 44, 45] hs fun a hs => hKL427 _ _ ?_
    clear hKL427
    refine Vk.unroll fun KL440 hKL440 => ?_
    refine qsk 1 [0, 4, 5, 7, 8, 11, 40, 41, 44, 45, 46] hs fun a hs => ?_
    refine qck hs ?_
    refine Vk.seq fun K443 hK443 => ?_
    refine wp_block ?_
    refine qsk 2 [0, 4, 5, 7, 8, 11, 12, 40, 41, 44, 45] hs fun a hs => ?_
    obtain ⟨C_445, hC_445⟩ := qC hs.own.drop
    refine qdr 18 κ C_445 hs fun w hs hqC_445 => ?_
    have hcl := qO hC_445 hs.own.drop
    refine qdp (fuel := 5) [0, 1, 2, 3, 4, 5, 6, 7, 9, 10, 11, 14, 15, 16] hs hcl hqC_445 fun a hs => ?_
    obtain ⟨v_447, h_446, hm⟩ := bind_t hm
    refine qdi 8 3 hs hcl hqC_445 hC_445 rfl h_446 fun a hs => ?_
    obtain ⟨v_449, h_448, hm⟩ := bind_t hm
    refine qdi 12 2 hs hcl hqC_445 hC_445 rfl h_448 fun a hs => ?_
    obtain ⟨v_452, h_451, hm⟩ := bind_t hm
    refine qdc 13 (wire_Machine_Two.ok _ _ _ _ _ _ _ h_451 _ _ _ b_x0 hs.own) hs fun w a hs => ?_
    replace hcl := qO hC_445 hs.own.drop
    refine ⟨fun _ => hcl, ?_⟩
    refine qdp (fuel := 1) [17] hs hcl hqC_445 fun a hs => ?_
    refine qsd 18 1 10 (ci v_452.1) hs rfl fun a w hs => ?_
    refine ⟨fun h => absurd h (by decide), ?_⟩
    replace hs := hs.pick [0, 4, 5, 7, 8, 11, 40, 41, 44, 45] (L' := [(0, pp b_x0), (4, pp b_244), (5, pp b_245), (7, pp b_248), (8, vi 3), (11, vi 2), (40, vi 3), (41, vi 2), (44, vi 3), (45, vi 2)]) (by kernel_rfl)
    refine Vk.dDone (by kernel_rfl) ?_
    refine hK443 _ _ ?_
    clear hK443
    refine Vk.region ?_
    refine qpk 2 [0, 4, 5, 7, 8, 11, 40, 41, 44, 45] hs fun a hs => hKL440 _ _ ?_
    clear hKL440
    refine Vk.unroll fun KL453 hKL453 => ?_
    refine qse 1 [(0, pp b_x0), (4, pp b_244), (5, pp b_245), (7, pp b_248), (8, vi 3), (11, vi 2), (40, vi 3), (41, vi 2), (44, vi 3), (45, vi 3), (46, .bool false)] hs fun a hs => ?_
    refine Vk.seq fun K455 hK455 => ?_
    refine qcf hs ?_
    refine wp_exit ?_
    refine hK411 _ _ ?_
    clear hK411
    refine Vk.region ?_
    refine qpk 2 [0, 4, 5, 7, 8, 40, 41] hs fun a hs => hKL408 _ _ ?_
    clear hKL408
    refine Vk.unroll fun KL456 hKL456 => ?_
    refine qsk 1 [0, 4, 5, 7, 8, 40, 41, 42] hs fun a hs => ?_
    refine Vk.seq fun K458 hK458 => ?_
    refine qcf hs ?_
    refine wp_exit ?_
    refine hK310 _ _ ?_
    clear hK310
    refine qse 2 [(6, pp b_248)] hs fun a hs => ?_
    refine wp_ret ?_
    refine hKP242 _ _ ?_
    refine hKR242 _ _ ?_
    refine Vk.ret1 (P := Try.prog) (fn := Try.f91) (pp b_248) hs rfl (by kernel_rfl) ⟨_, _, _, rfl, hs.own, fun a hs => ?_⟩
    refine qpk 1 [0, 6, 7] hs fun a hs => hK239 _ _ ?_
    clear hK239
    refine qsr fun K460 hK460 => ?_
    refine qpu 3 hs fun a hs => ?_
    refine Vk.step (Vk.call (some 23) 92 #[pp b_248, .func (.func 95) #[pp b_248] #[]] hs (by kernel_rfl) (by kernel_rfl) (by kernel_rfl) ?_)
    refine Vk.enterI [(0, pp b_248), (1, .func (.func 95) #[pp b_248] #[])] Try.func92 rfl Try.ntmps92 (by kernel_rfl) (Nat.le_of_ble_eq_true (by kernel_rfl)) hs.own fun KR461 hKR461 hKP461 a hs => ?_
    refine qsr fun K462 hK462 => ?_
    refine qal 28 [ci 0, ci 0, ci 0] 4 hs fun b_463 w a hs => ?_
    refine qpk 0 [0, 1, 4] hs fun a hs => hK462 _ _ ?_
    clear hK462
    refine qsr fun K464 hK464 => ?_
    refine qpu 2 hs fun a hs => ?_
    refine qal 28 [ci 0, ci 0, ci 0] 5 hs fun b_465 w a hs => ?_
    refine qsa 0 [ci (-1), ci (-1), ci (-1)] hs rfl fun a w hs => ?_
    refine qpe 0 [(0, pp b_248), (1, .func (.func 95) #[pp b_248] #[]), (4, pp b_463), (5, pp b_465)] hs fun a hs => hK464 _ _ ?_
    clear hK464
    refine qsr fun K466 hK466 => ?_
    refine qpu 3 hs fun a hs => ?_
    refine qld 3 (cp b_x0) hs rfl fun a hs => ?_
    obtain ⟨g_467, hs⟩ := hs.unex 2 rfl
    obtain ⟨v_470, h_469, hm⟩ := bind_t hm
    refine qcl (wire_Machine_N.ok _ _ _ h_469 _ _ _ b_x0 g_467 hs.own.f2) hs fun w a hs => ?_
    rcases Bool.eq_false_or_eq_true (v_470 == 3) with hb | hb
    ·replace hm := bif_t hm hb
     obtain rfl := Vk.of_beq hb
     refine qpk 1 [0, 1, 4, 5, 6] hs fun a hs => hK466 _ _ ?_
     clear hK466
     refine Vk.seq fun K471 hK471 => ?_
     refine qsk 2 [0, 1, 4, 5, 6, 16, 17] hs fun a hs => ?_
     refine wp_block ?_
     refine Vk.unroll0 40 ?_
     refine Vk.unroll fun KL473 hKL473 => ?_
     refine qsk 1 [0, 1, 4, 5, 6, 16, 17, 18] hs fun a hs => ?_
     refine qck hs ?_
     refine Vk.seq fun K476 hK476 => ?_
     refine wp_block ?_
     refine qsk 2 [0, 1, 4, 5, 6, 7, 16, 17] hs fun a hs => ?_
     refine qsr fun K478 hK478 => ?_
     refine qpu 8 hs fun a hs => ?_
     refine qld 3 (ci v_330.1) hs rfl fun a hs => ?_
     refine qpu 2 hs fun a hs => ?_
     refine qst 1 0 (ci v_330.1) hs rfl fun a w hs => ?_
     refine qpk 0 [0, 1, 4, 5, 6, 7, 16, 17] hs fun a hs => hK478 _ _ ?_
     clear hK478
     refine qse 2 [(0, pp b_248), (1, .func (.func 95) #[pp b_248] #[]), (4, pp b_463), (5, pp b_465), (6, vi 3), (7, vi 0), (16, vi 3), (17, vi 0), (31, vi 3), (32, vi 0)] hs fun a hs => ?_
     refine wp_block ?_
     refine Vk.unroll0 40 ?_
     refine Vk.unroll fun KL480 hKL480 => ?_
     refine qsk 1 [0, 1, 4, 5, 6, 7, 16, 17, 31, 32, 33] hs fun a hs => ?_
     refine qck hs ?_
     refine Vk.seq fun K483 hK483 => ?_
     refine wp_block ?_
     refine qsk 2 [0, 1, 4, 5, 6, 7, 8, 16, 17, 31, 32] hs fun a hs => ?_
     refine qsk 3 [0, 1, 4, 5, 6, 7, 8, 16, 17, 31, 32, 37] hs fun a hs => ?_
     refine qcf hs ?_
     refine wp_skip ?_
     refine hK483 _ _ ?_
     clear hK483
     refine Vk.region ?_
     refine qpk 2 [0, 1, 4, 5, 6, 7, 16, 17, 31, 32] hs fun a hs => hKL480 _ _ ?_
     clear hKL480
     refine Vk.unroll fun KL486 hKL486 => ?_
     refine qsk 1 [0, 1, 4, 5, 6, 7, 16, 17, 31, 32, 33] hs fun a hs => ?_
     refine qck hs ?_
     refine Vk.seq fun K489 hK489 => ?_
     refine wp_block ?_
     refine qse 2 [(0, pp b_248), (1, .func (.func 95) #[pp b_248] #[]), (4, pp b_463), (5, pp b_465), (6, vi 3), (7, vi 0), (8, vi 1), (16, vi 3), (17, vi 0), (31, vi 3), (32, vi 1)] hs fun a hs => ?_
     refine qsk 3 [0, 1, 4, 5, 6, 7, 8, 16, 17, 31, 32, 37] hs fun a hs => ?_
     refine qct hs ?_
     obtain ⟨C_492, hC_492⟩ := qC hs.own.drop
     refine qdr 17 κ C_492 hs fun w hs hqC_492 => ?_
     have hcl := qO hC_492 hs.own.drop
     refine qdp (fuel := 6) [0, 1, 2, 3, 5, 6, 7, 8, 10, 11, 12, 15] hs hcl hqC_492 fun a hs => ?_
     refine qdl 4 2 (cp b_x0) hs hcl hqC_492 hC_492 rfl fun a hs => ?_
     refine qdl 9 0 (ci v_330.1) hs hcl hqC_492 hC_492 rfl fun a hs => ?_
     refine Vk.dOnly (i := 13) (by kernel_rfl) (Vk.call (some 51) 95 #[pp b_248, vi 0, vi 1] hs (by kernel_rfl) (by kernel_rfl) (by kernel_rfl) ?_)
     refine Vk.enterI [(0, pp b_248), (1, vi 0), (2, vi 1)] Try.func95 rfl Try.ntmps95 (by kernel_rfl) (Nat.le_of_ble_eq_true (by kernel_rfl)) hs.own fun KR493 hKR493 hKP493 a hs => ?_
     refine qsk 1 [0, 1, 2] hs fun a hs => ?_
     refine Vk.seq fun K495 hK495 => ?_
     refine qsk 3 [0, 1, 2, 9] hs fun a hs => ?_
     refine qct hs ?_
     refine qsr fun K497 hK497 => ?_
     refine qpu 3 hs fun a hs => ?_
     refine Vk.step (Vk.call (some 13) 151 #[pp b_248, vi 0, vi 1] hs (by kernel_rfl) (by kernel_rfl) (by kernel_rfl) ?_)
     refine Vk.enterI [(0, pp b_248), (1, vi 0), (2, vi 1)] Try.func151 rfl Try.ntmps151 (by kernel_rfl) (Nat.le_of_ble_eq_true (by kernel_rfl)) hs.own fun KR498 hKR498 hKP498 a hs => ?_
     refine qsk 1 [0, 1, 2] hs fun a hs => ?_
     refine qsr fun K500 hK500 => ?_
     refine qpu 3 hs fun a hs => ?_
     refine qld 3 (C.map (some b_247)) hs rfl fun a hs => ?_
     refine qpu 7 hs fun a hs => ?_
     refine qva (vi v_269.1) (op := (.lookup 186 (.tmp 10) (.tmp 17) false)) hs (fun o ho => run_lookup (b := b_247) (key := .agg (vals [ci 0, ci 1])) 4 rfl ho (by kernel_rfl) (by kernel_rfl) (by kernel_rfl) _ hs.own) fun a hs => ?_
     refine qpe 1 [(6, vi v_269.1)] hs fun a hs => hK500 _ _ ?_
     clear hK500
     refine wp_ret ?_
     refine hKP498 _ _ ?_
     refine hKR498 _ _ ?_
     refine Vk.ret1 (P := Try.prog) (fn := Try.f151) (vi v_269.1) hs rfl (by kernel_rfl) ⟨_, _, _, rfl, hs.own, fun a hs => ?_⟩
     refine qpe 1 [(6, vi v_269.1)] hs fun a hs => hK497 _ _ ?_
     clear hK497
     refine wp_ret ?_
     refine hKP493 _ _ ?_
     refine hKR493 _ _ ?_
     refine Vk.ret1 (P := Try.prog) (fn := Try.f95) (vi v_269.1) hs rfl (by kernel_rfl) ⟨_, _, _, rfl, hs.own, fun a hs => ?_⟩
     replace hcl := qO hC_492 hs.own.drop
     refine ⟨fun _ => hcl, ?_⟩
     replace hs := hs.toEx (Twire_Machine.parts b_x0 v_452.2) g_467 0 rfl
     obtain ⟨v_503, h_502, hm⟩ := bind_t hm
     refine qdc 14 (wire_Machine_Two.ok _ _ _ _ _ _ _ h_502 _ _ _ b_x0 hs.own) hs fun w a hs => ?_
     replace hcl := qO hC_492 hs.own.drop
     refine ⟨fun _ => hcl, ?_⟩
     refine qdp (fuel := 1) [16] hs hcl hqC_492 fun a hs => ?_
     refine qsd 17 1 0 (ci v_503.1) hs rfl fun a w hs => ?_
     refine ⟨fun h => absurd h (by decide), ?_⟩
     replace hs := hs.pick [0, 1, 4, 5, 6, 7, 16, 17, 31, 32] (L' := [(0, pp b_248), (1, .func (.func 95) #[pp b_248] #[]), (4, pp b_463), (5, pp b_465), (6, vi 3), (7, vi 0), (16, vi 3), (17, vi 0), (31, vi 3), (32, vi 1)]) (by kernel_rfl)
     refine Vk.dDone (by kernel_rfl) ?_
     refine hK489 _ _ ?_
     clear hK489
     refine Vk.region ?_
     refine qpk 2 [0, 1, 4, 5, 6, 7, 16, 17, 31, 32] hs fun a hs => hKL486 _ _ ?_
     clear hKL486
     refine Vk.unroll fun KL504 hKL504 => ?_
     refine qsk 1 [0, 1, 4, 5, 6, 7, 16, 17, 31, 32, 33] hs fun a hs => ?_
     refine qck hs ?_
     refine Vk.seq fun K507 hK507 => ?_
     refine wp_block ?_
     refine qsk 2 [0, 1, 4, 5, 6, 7, 8, 16, 17, 31, 32] hs fun a hs => ?_
     refine qsk 3 [0, 1, 4, 5, 6, 7, 8, 16, 17, 31, 32, 37] hs fun a hs => ?_
     refine qct hs ?_
     obtain ⟨C_510, hC_510⟩ := qC hs.own.drop
     refine qdr 17 κ C_510 hs fun w hs hqC_510 => ?_
     have hcl := qO hC_510 hs.own.drop
     refine qdp (fuel := 6) [0, 1, 2, 3, 5, 6, 7, 8, 10, 11, 12, 15] hs hcl hqC_510 fun a hs => ?_
     refine qdl 4 2 (cp b_x0) hs hcl hqC_510 hC_510 rfl fun a hs => ?_
     refine qdl 9 0 (ci v_503.1) hs hcl hqC_510 hC_510 rfl fun a hs => ?_
     refine Vk.dOnly (i := 13) (by kernel_rfl) (Vk.call (some 51) 95 #[pp b_248, vi 0, vi 2] hs (by kernel_rfl) (by kernel_rfl) (by kernel_rfl) ?_)
     refine Vk.enterI [(0, pp b_248), (1, vi 0), (2, vi 2)] Try.func95 rfl Try.ntmps95 (by kernel_rfl) (Nat.le_of_ble_eq_true (by kernel_rfl)) hs.own fun KR511 hKR511 hKP511 a hs => ?_
     refine qsk 1 [0, 1, 2] hs fun a hs => ?_
     refine Vk.seq fun K513 hK513 => ?_
     refine qse 3 [(0, pp b_248), (1, vi 0), (2, vi 2), (9, .bool true)] hs fun a hs => ?_
     refine qct hs ?_
     refine qsr fun K515 hK515 => ?_
     refine qpu 3 hs fun a hs => ?_
     refine Vk.step (Vk.call (some 13) 151 #[pp b_248, vi 0, vi 2] hs (by kernel_rfl) (by kernel_rfl) (by kernel_rfl) ?_)
     refine Vk.enterI [(0, pp b_248), (1, vi 0), (2, vi 2)] Try.func151 rfl Try.ntmps151 (by kernel_rfl) (Nat.le_of_ble_eq_true (by kernel_rfl)) hs.own fun KR516 hKR516 hKP516 a hs => ?_
     refine qsk 1 [0, 1, 2] hs fun a hs => ?_
     refine qsr fun K518 hK518 => ?_
     refine qpu 3 hs fun a hs => ?_
     refine qld 3 (C.map (some b_247)) hs rfl fun a hs => ?_
     refine qpu 7 hs fun a hs => ?_
     refine qva (vi v_277.1) (op := (.lookup 186 (.tmp 10) (.tmp 17) false)) hs (fun o ho => run_lookup (b := b_247) (key := .agg (vals [ci 0, ci 2])) 4 rfl ho (by kernel_rfl) (by kernel_rfl) (by kernel_rfl) _ hs.own) fun a hs => ?_
     refine qpe 1 [(6, vi v_277.1)] hs fun a hs => hK518 _ _ ?_
     clear hK518
     refine wp_ret ?_
     refine hKP516 _ _ ?_
     refine hKR516 _ _ ?_
     refine Vk.ret1 (P := Try.prog) (fn := Try.f151) (vi v_277.1) hs rfl (by kernel_rfl) ⟨_, _, _, rfl, hs.own, fun a hs => ?_⟩
     refine qpe 1 [(6, vi v_277.1)] hs fun a hs => hK515 _ _ ?_
     clear hK515
     refine wp_ret ?_
     refine hKP511 _ _ ?_
     refine hKR511 _ _ ?_
     refine Vk.ret1 (P := Try.prog) (fn := Try.f95) (vi v_277.1) hs rfl (by kernel_rfl) ⟨_, _, _, rfl, hs.own, fun a hs => ?_⟩
     replace hcl := qO hC_510 hs.own.drop
     refine ⟨fun _ => hcl, ?_⟩
     obtain ⟨v_521, h_520, hm⟩ := bind_t hm
     refine qdc 14 (wire_Machine_Two.ok _ _ _ _ _ _ _ h_520 _ _ _ b_x0 hs.own) hs fun w a hs => ?_
     replace hcl := qO hC_510 hs.own.drop
     refine ⟨fun _ => hcl, ?_⟩
     refine qdp (fuel := 1) [16] hs hcl hqC_510 fun a hs => ?_
     refine qsd 17 1 0 (ci v_521.1) hs rfl fun a w hs => ?_
     refine ⟨fun h => absurd h (by decide), ?_⟩
     replace hs := hs.pick [0, 1, 4, 5, 6, 7, 16, 17, 31, 32] (L' := [(0, pp b_248), (1, .func (.func 95) #[pp b_248] #[]), (4, pp b_463), (5, pp b_465), (6, vi 3), (7, vi 0), (16, vi 3), (17, vi 0), (31, vi 3), (32, vi 2)]) (by kernel_rfl)
     refine Vk.dDone (by kernel_rfl) ?_
     refine hK507 _ _ ?_
     clear hK507
     refine Vk.region ?_
     refine qpk 2 [0, 1, 4, 5, 6, 7, 16, 17, 31, 32] hs fun a hs => hKL504 _ _ ?_
     clear hKL504
     refine Vk.unroll fun KL522 hKL522 => ?_
     refine qsk 1 [0, 1, 4, 5, 6, 7, 16, 17, 31, 32, 33] hs fun a hs => ?_
     refine Vk.seq fun K524 hK524 => ?_
     refine qcf hs ?_
     refine wp_exit ?_
     refine hK476 _ _ ?_
     clear hK476
     refine Vk.region ?_
     refine qpk 2 [0, 1, 4, 5, 6, 16, 17] hs fun a hs => hKL473 _ _ ?_
     clear hKL473
     refine Vk.unroll fun KL525 hKL525 => ?_
     refine qsk 1 [0, 1, 4, 5, 6, 16, 17, 18] hs fun a hs => ?_
     refine qck hs ?_
     refine Vk.seq fun K528 hK528 => ?_
     refine wp_block ?_
     refine qsk 2 [0, 1, 4, 5, 6, 7, 16, 17] hs fun a hs => ?_
     refine qsr fun K530 hK530 => ?_
     refine qpu 8 hs fun a hs => ?_
     refine qld 3 (ci v_391.1) hs rfl fun a hs => ?_
     refine qpu 2 hs fun a hs => ?_
     refine qst 1 1 (ci v_391.1) hs rfl fun a w hs => ?_
     refine qpe 0 [(0, pp b_248), (1, .func (.func 95) #[pp b_248] #[]), (4, pp b_463), (5, pp b_465), (6, vi 3), (7, vi 1), (16, vi 3), (17, vi 1)] hs fun a hs => hK530 _ _ ?_
     clear hK530
     refine qsk 2 [0, 1, 4, 5, 6, 7, 16, 17, 31, 32] hs fun a hs => ?_
     refine wp_block ?_
     refine Vk.unroll0 40 ?_
     refine Vk.unroll fun KL532 hKL532 => ?_
     refine qsk 1 [0, 1, 4, 5, 6, 7, 16, 17, 31, 32, 33] hs fun a hs => ?_
     refine qck hs ?_
     refine Vk.seq fun K535 hK535 => ?_
     refine wp_block ?_
     refine qsk 2 [0, 1, 4, 5, 6, 7, 8, 16, 17, 31, 32] hs fun a hs => ?_
     refine qsk 3 [0, 1, 4, 5, 6, 7, 8, 16, 17, 31, 32, 37] hs fun a hs => ?_
     refine qct hs ?_
     obtain ⟨C_538, hC_538⟩ := qC hs.own.drop
     refine qdr 17 κ C_538 hs fun w hs hqC_538 => ?_
     have hcl := qO hC_538 hs.own.drop
     refine qdp (fuel := 6) [0, 1, 2, 3, 5, 6, 7, 8, 10, 11, 12, 15] hs hcl hqC_538 fun a hs => ?_
     refine qdl 4 2 (cp b_x0) hs hcl hqC_538 hC_538 rfl fun a hs => ?_
     refine qdl 9 0 (ci v_391.1) hs hcl hqC_538 hC_538 rfl fun a hs => ?_
     refine Vk.dOnly (i := 13) (by kernel_rfl) (Vk.call (some 51) 95 #[pp b_248, vi 1, vi 0] hs (by kernel_rfl) (by kernel_rfl) (by kernel_rfl) ?_)
     refine Vk.enterI [(0, pp b_248), (1, vi 1), (2, vi 0)] Try.func95 rfl Try.ntmps95 (by kernel_rfl) (Nat.le_of_ble_eq_true (by kernel_rfl)) hs.own fun KR539 hKR539 hKP539 a hs => ?_
     refine qsk 1 [0, 1, 2] hs fun a hs => ?_
     refine Vk.seq fun K541 hK541 => ?_
     refine qse 3 [(0, pp b_248), (1, vi 1), (2, vi 0), (9, .bool false)] hs fun a hs => ?_
     refine qcf hs ?_
     refine wp_skip ?_
     refine hK541 _ _ ?_
     clear hK541
     refine Vk.seq fun K543 hK543 => ?_
     obtain ⟨C_544, hC_544⟩ := qC hs.own.drop
     refine qdr 33 κ C_544 hs fun w hs hqC_544 => ?_
     have hcl := qO hC_544 hs.own.drop
     refine qdp (fuel := 8) [0, 1, 2, 4, 5, 6, 7, 9, 10, 11, 12, 14, 15, 16, 17, 18, 19, 20, 23, 24, 25, 26, 27, 28, 29] hs hcl hqC_544 fun a hs => ?_
     refine qdl 3 2 (cp b_x0) hs hcl hqC_544 hC_544 rfl fun a hs => ?_
     refine qdl 8 2 (cp b_x0) hs hcl hqC_544 hC_544 rfl fun a hs => ?_
     refine qdl 21 2 (ci v_343.1) hs hcl hqC_544 hC_544 rfl fun a hs => ?_
     refine qdl 30 2 (ci v_378.1) hs hcl hqC_544 hC_544 rfl fun a hs => ?_
     refine Vk.dOnly (i := 13) (by kernel_rfl) (Vk.call (some 27) 151 #[pp b_248, vi 0, vi 1] hs (by kernel_rfl) (by kernel_rfl) (by kernel_rfl) ?_)
     refine Vk.enterI [(0, pp b_248), (1, vi 0), (2, vi 1)] Try.func151 rfl Try.ntmps151 (by kernel_rfl) (Nat.le_of_ble_eq_true (by kernel_rfl)) hs.own fun KR545 hKR545 hKP545 a hs => ?_
     refine qsk 1 [0, 1, 2] hs fun a hs => ?_
     refine qsr fun K547 hK547 => ?_
     refine qpu 3 hs fun a hs => ?_
     refine qld 3 (C.map (some b_247)) hs rfl fun a hs => ?_
     refine qpu 7 hs fun a hs => ?_
     refine qva (vi v_269.1) (op := (.lookup 186 (.tmp 10) (.tmp 17) false)) hs (fun o ho => run_lookup (b := b_247) (key := .agg (vals [ci 0, ci 1])) 4 rfl ho (by kernel_rfl) (by kernel_rfl) (by kernel_rfl) _ hs.own) fun a hs => ?_
     refine qpe 1 [(6, vi v_269.1)] hs fun a hs => hK547 _ _ ?_
     clear hK547
     refine wp_ret ?_
     refine hKP545 _ _ ?_
     refine hKR545 _ _ ?_
     refine Vk.ret1 (P := Try.prog) (fn := Try.f151) (vi v_269.1) hs rfl (by kernel_rfl) ⟨_, _, _, rfl, hs.own, fun a hs => ?_⟩
     replace hcl := qO hC_544 hs.own.drop
     refine ⟨fun _ => hcl, ?_⟩
     obtain ⟨v_550, h_549, hm⟩ := bind_t hm
     refine qdc 22 (wire_Machine_Two.ok _ _ _ _ _ _ _ h_549 _ _ _ b_x0 hs.own) hs fun w a hs => ?_
     replace hcl := qO hC_544 hs.own.drop
     refine ⟨fun _ => hcl, ?_⟩
     obtain ⟨v_553, h_552, hm⟩ := bind_t hm
     refine qdc 31 (wire_Machine_Two.ok _ _ _ _ _ _ _ h_552 _ _ _ b_x0 hs.own) hs fun w a hs => ?_
     replace hcl := qO hC_544 hs.own.drop
     refine ⟨fun _ => hcl, ?_⟩
     refine qdp (fuel := 0) [32] hs hcl hqC_544 fun a hs => ?_
     replace hs := hs.pick [6] (L' := [(6, vi v_553.1)]) (by kernel_rfl)
     refine Vk.dDone (by kernel_rfl) ?_
     refine hK543 _ _ ?_
     clear hK543
     refine wp_ret ?_
     refine hKP539 _ _ ?_
     refine hKR539 _ _ ?_
     refine Vk.ret1 (P := Try.prog) (fn := Try.f95) (vi v_553.1) hs rfl (by kernel_rfl) ⟨_, _, _, rfl, hs.own, fun a hs => ?_⟩
     replace hcl := qO hC_538 hs.own.drop
     refine ⟨fun _ => hcl, ?_⟩
     obtain ⟨v_556, h_555, hm⟩ := bind_t hm
     refine qdc 14 (wire_Machine_Two.ok _ _ _ _ _ _ _ h_555 _ _ _ b_x0 hs.own) hs fun w a hs => ?_
     replace hcl := qO hC_538 hs.own.drop
     refine ⟨fun _ => hcl, ?_⟩
     refine qdp (fuel := 1) [16] hs hcl hqC_538 fun a hs => ?_
     refine qsd 17 1 1 (ci v_556.1) hs rfl fun a w hs => ?_
     refine ⟨fun h => absurd h (by decide), ?_⟩
     replace hs := hs.pick [0, 1, 4, 5, 6, 7, 16, 17, 31, 32] (L' := [(0, pp b_248), (1, .func (.func 95) #[pp b_248] #[]), (4, pp b_463), (5, pp b_465), (6, vi 3), (7, vi 1), (16, vi 3), (17, vi 1), (31, vi 3), (32, vi 0)]) (by kernel_rfl)
     refine Vk.dDone (by kernel_rfl) ?_
     refine hK535 _ _ ?_
     clear hK535
     refine Vk.region ?_
     refine qpk 2 [0, 1, 4, 5, 6, 7, 16, 17, 31, 32] hs fun a hs => hKL532 _ _ ?_
     clear hKL532
     refine Vk.unroll fun KL557 hKL557 => ?_
     refine qsk 1 [0, 1, 4, 5, 6, 7, 16, 17, 31, 32, 33] hs fun a hs => ?_
     refine qck hs ?_
     refine Vk.seq fun K560 hK560 => ?_
     refine wp_block ?_
     refine qsk 2 [0, 1, 4, 5, 6, 7, 8, 16, 17, 31, 32] hs fun a hs => ?_
     refine qsk 3 [0, 1, 4, 5, 6, 7, 8, 16, 17, 31, 32, 37] hs fun a hs => ?_
     refine qcf hs ?_
     refine wp_skip ?_
     refine hK560 _ _ ?_
     clear hK560
     refine Vk.region ?_
     refine qpk 2 [0, 1, 4, 5, 6, 7, 16, 17, 31, 32] hs fun a hs => hKL557 _ _ ?_
     clear hKL557
     refine Vk.unroll fun KL563 hKL563 => ?_
     refine qse 1 [(0, pp b_248), (1, .func (.func 95) #[pp b_248] #[]), (4, pp b_463), (5, pp b_465), (6, vi 3), (7, vi 1), (16, vi 3), (17, vi 1), (31, vi 3), (32, vi 2), (33, .bool true)] hs fun a hs => ?_
     refine qck hs ?_
     refine Vk.seq fun K566 hK566 => ?_
     refine wp_block ?_
     refine qsk 2 [0, 1, 4, 5, 6, 7, 8, 16, 17, 31, 32] hs fun a hs => ?_
     refine qsk 3 [0, 1, 4, 5, 6, 7, 8, 16, 17, 31, 32, 37] hs fun a hs => ?_
     refine qct hs ?_
     obtain ⟨C_569, hC_569⟩ := qC hs.own.drop
     refine qdr 17 κ C_569 hs fun w hs hqC_569 => ?_
     have hcl := qO hC_569 hs.own.drop
     refine qdp (fuel := 6) [0, 1, 2, 3, 5, 6, 7, 8, 10, 11, 12, 15] hs hcl hqC_569 fun a hs => ?_
     refine qdl 4 2 (cp b_x0) hs hcl hqC_569 hC_569 rfl fun a hs => ?_
     refine qdl 9 0 (ci v_556.1) hs hcl hqC_569 hC_569 rfl fun a hs => ?_
     refine Vk.dOnly (i := 13) (by kernel_rfl) (Vk.call (some 51) 95 #[pp b_248, vi 1, vi 2] hs (by kernel_rfl) (by kernel_rfl) (by kernel_rfl) ?_)
     refine Vk.enterI [(0, pp b_248), (1, vi 1), (2, vi 2)] Try.func95 rfl Try.ntmps95 (by kernel_rfl) (Nat.le_of_ble_eq_true (by kernel_rfl)) hs.own fun KR570 hKR570 hKP570 a hs => ?_
     refine qsk 1 [0, 1, 2] hs fun a hs => ?_
     refine Vk.seq fun K572 hK572 => ?_
     refine qsk 3 [0, 1, 2, 9] hs fun a hs => ?_
     refine qct hs ?_
     refine qsr fun K574 hK574 => ?_
     refine qpu 3 hs fun a hs => ?_
     refine Vk.step (Vk.call (some 13) 151 #[pp b_248, vi 1, vi 2] hs (by kernel_rfl) (by kernel_rfl) (by kernel_rfl) ?_)
     refine Vk.enterI [(0, pp b_248), (1, vi 1), (2, vi 2)] Try.func151 rfl Try.ntmps151 (by kernel_rfl) (Nat.le_of_ble_eq_true (by kernel_rfl)) hs.own fun KR575 hKR575 hKP575 a hs => ?_
     refine qsk 1 [0, 1, 2] hs fun a hs => ?_
     refine qsr fun K577 hK577 => ?_
     refine qpu 3 hs fun a hs => ?_
     refine qld 3 (C.map (some b_247)) hs rfl fun a hs => ?_
     refine qpu 7 hs fun a hs => ?_
     refine qva (vi v_294.1) (op := (.lookup 186 (.tmp 10) (.tmp 17) false)) hs (fun o ho => run_lookup (b := b_247) (key := .agg (vals [ci 1, ci 2])) 4 rfl ho (by kernel_rfl) (by kernel_rfl) (by kernel_rfl) _ hs.own) fun a hs => ?_
     refine qpe 1 [(6, vi v_294.1)] hs fun a hs => hK577 _ _ ?_
     clear hK577
     refine wp_ret ?_
     refine hKP575 _ _ ?_
     refine hKR575 _ _ ?_
     refine Vk.ret1 (P := Try.prog) (fn := Try.f151) (vi v_294.1) hs rfl (by kernel_rfl) ⟨_, _, _, rfl, hs.own, fun a hs => ?_⟩
     refine qpe 1 [(6, vi v_294.1)] hs fun a hs => hK574 _ _ ?_
     clear hK574
     refine wp_ret ?_
     refine hKP570 _ _ ?_
     refine hKR570 _ _ ?_
     refine Vk.ret1 (P := Try.prog) (fn := Try.f95) (vi v_294.1) hs rfl (by kernel_rfl) ⟨_, _, _, rfl, hs.own, fun a hs => ?_⟩
     replace hcl := qO hC_569 hs.own.drop
     refine ⟨fun _ => hcl, ?_⟩
     obtain ⟨v_580, h_579, hm⟩ := bind_t hm
     refine qdc 14 (wire_Machine_Two.ok _ _ _ _ _ _ _ h_579 _ _ _ b_x0 hs.own) hs fun w a hs => ?_
     replace hcl := qO hC_569 hs.own.drop
     refine ⟨fun _ => hcl, ?_⟩
     refine qdp (fuel := 1) [16] hs hcl hqC_569 fun a hs => ?_
     refine qsd 17 1 1 (ci v_580.1) hs rfl fun a w hs => ?_
     refine ⟨fun h => absurd h (by decide), ?_⟩
     replace hs := hs.pick [0, 1, 4, 5, 6, 7, 16, 17, 31, 32] (L' := [(0, pp b_248), (1, .func (.func 95) #[pp b_248] #[]), (4, pp b_463), (5, pp b_465), (6, vi 3), (7, vi 1), (16, vi 3), (17, vi 1), (31, vi 3), (32, vi 2)]) (by kernel_rfl)
     refine Vk.dDone (by kernel_rfl) ?_
     refine hK566 _ _ ?_
     clear hK566
     refine Vk.region ?_
     refine qpk 2 [0, 1, 4, 5, 6, 7, 16, 17, 31, 32] hs fun a hs => hKL563 _ _ ?_
     clear hKL563
     refine Vk.unroll fun KL581 hKL581 => ?_
     refine qsk 1 [0, 1, 4, 5, 6, 7, 16, 17, 31, 32, 33] hs fun a hs => ?_
     refine Vk.seq fun K583 hK583 => ?_
     refine qcf hs ?_
     refine wp_exit ?_
     refine hK528 _ _ ?_
     clear hK528
     refine Vk.region ?_
     refine qpk 2 [0, 1, 4, 5, 6, 16, 17] hs fun a hs => hKL525 _ _ ?_
     clear hKL525
     refine Vk.unroll fun KL584 hKL584 => ?_
     refine qsk 1 [0, 1, 4, 5, 6, 16, 17, 18] hs fun a hs => ?_
     refine qck hs ?_
     refine Vk.seq fun K587 hK587 => ?_
     refine wp_block ?_
     refine qsk 2 [0, 1, 4, 5, 6, 7, 16, 17] hs fun a hs => ?_
     refine qsr fun K589 hK589 => ?_
     refine qpu 8 hs fun a hs => ?_
     refine qld 3 (ci v_452.1) hs rfl fun a hs => ?_
     refine qpu 2 hs fun a hs => ?_
     refine qst 1 2 (ci v_452.1) hs rfl fun a w hs => ?_
     refine qpe 0 [(0, pp b_248), (1, .func (.func 95) #[pp b_248] #[]), (4, pp b_463), (5, pp b_465), (6, vi 3), (7, vi 2), (16, vi 3), (17, vi 2)] hs fun a hs => hK589 _ _ ?_
     clear hK589
     refine qsk 2 [0, 1, 4, 5, 6, 7, 16, 17, 31, 32] hs fun a hs => ?_
     refine wp_block ?_
     refine Vk.unroll0 40 ?_
     refine Vk.unroll fun KL591 hKL591 => ?_
     refine qsk 1 [0, 1, 4, 5, 6, 7, 16, 17, 31, 32, 33] hs fun a hs => ?_
     refine qck hs ?_
     refine Vk.seq fun K594 hK594 => ?_
     refine wp_block ?_
     refine qsk 2 [0, 1, 4, 5, 6, 7, 8, 16, 17, 31, 32] hs fun a hs => ?_
     refine qsk 3 [0, 1, 4, 5, 6, 7, 8, 16, 17, 31, 32, 37] hs fun a hs => ?_
     refine qct hs ?_
     obtain ⟨C_597, hC_597⟩ := qC hs.own.drop
     refine qdr 17 κ C_597 hs fun w hs hqC_597 => ?_
     have hcl := qO hC_597 hs.own.drop
     refine qdp (fuel := 6) [0, 1, 2, 3, 5, 6, 7, 8, 10, 11, 12, 15] hs hcl hqC_597 fun a hs => ?_
     refine qdl 4 2 (cp b_x0) hs hcl hqC_597 hC_597 rfl fun a hs => ?_
     refine qdl 9 0 (ci v_452.1) hs hcl hqC_597 hC_597 rfl fun a hs => ?_
     refine Vk.dOnly (i := 13) (by kernel_rfl) (Vk.call (some 51) 95 #[pp b_248, vi 2, vi 0] hs (by kernel_rfl) (by kernel_rfl) (by kernel_rfl) ?_)
     refine Vk.enterI [(0, pp b_248), (1, vi 2), (2, vi 0)] Try.func95 rfl Try.ntmps95 (by kernel_rfl) (Nat.le_of_ble_eq_true (by kernel_rfl)) hs.own fun KR598 hKR598 hKP598 a hs => ?_
     refine qsk 1 [0, 1, 2] hs fun a hs => ?_
     refine Vk.seq fun K600 hK600 => ?_
     refine qse 3 [(0, pp b_248), (1, vi 2), (2, vi 0), (9, .bool false)] hs fun a hs => ?_
     refine qcf hs ?_
     refine wp_skip ?_
     refine hK600 _ _ ?_
     clear hK600
     refine Vk.seq fun K602 hK602 => ?_
     obtain ⟨C_603, hC_603⟩ := qC hs.own.drop
     refine qdr 33 κ C_603 hs fun w hs hqC_603 => ?_
     have hcl := qO hC_603 hs.own.drop
     refine qdp (fuel := 8) [0, 1, 2, 4, 5, 6, 7, 9, 10, 11, 12, 14, 15, 16, 17, 18, 19, 20, 23, 24, 25, 26, 27, 28, 29] hs hcl hqC_603 fun a hs => ?_
     refine qdl 3 2 (cp b_x0) hs hcl hqC_603 hC_603 rfl fun a hs => ?_
     refine qdl 8 2 (cp b_x0) hs hcl hqC_603 hC_603 rfl fun a hs => ?_
     refine qdl 21 2 (ci v_356.1) hs hcl hqC_603 hC_603 rfl fun a hs => ?_
     refine qdl 30 2 (ci v_426.1) hs hcl hqC_603 hC_603 rfl fun a hs => ?_
     refine Vk.dOnly (i := 13) (by kernel_rfl) (Vk.call (some 27) 151 #[pp b_248, vi 0, vi 2] hs (by kernel_rfl) (by kernel_rfl) (by kernel_rfl) ?_)
     refine Vk.enterI [(0, pp b_248), (1, vi 0), (2, vi 2)] Try.func151 rfl Try.ntmps151 (by kernel_rfl) (Nat.le_of_ble_eq_true (by kernel_rfl)) hs.own fun KR604 hKR604 hKP604 a hs => ?_
     refine qsk 1 [0, 1, 2] hs fun a hs => ?_
     refine qsr fun K606 hK606 => ?_
     refine qpu 3 hs fun a hs => ?_
     refine qld 3 (C.map (some b_247)) hs rfl fun a hs => ?_
     refine qpu 7 hs fun a hs => ?_
     refine qva (vi v_277.1) (op := (.lookup 186 (.tmp 10) (.tmp 17) false)) hs (fun o ho => run_lookup (b := b_247) (key := .agg (vals [ci 0, ci 2])) 4 rfl ho (by kernel_rfl) (by kernel_rfl) (by kernel_rfl) _ hs.own) fun a hs => ?_
     refine qpe 1 [(6, vi v_277.1)] hs fun a hs => hK606 _ _ ?_
     clear hK606
     refine wp_ret ?_
     refine hKP604 _ _ ?_
     refine hKR604 _ _ ?_
     refine Vk.ret1 (P := Try.prog) (fn := Try.f151) (vi v_277.1) hs rfl (by kernel_rfl) ⟨_, _, _, rfl, hs.own, fun a hs => ?_⟩
     replace hcl := qO hC_603 hs.own.drop
     refine ⟨fun _ => hcl, ?_⟩
     obtain ⟨v_609, h_608, hm⟩ := bind_t hm
     refine qdc 22 (wire_Machine_Two.ok _ _ _ _ _ _ _ h_608 _ _ _ b_x0 hs.own) hs fun w a hs => ?_
     replace hcl := qO hC_603 hs.own.drop
     refine ⟨fun _ => hcl, ?_⟩
     obtain ⟨v_612, h_611, hm⟩ := bind_t hm
     refine qdc 31 (wire_Machine_Two.ok _ _ _ _ _ _ _ h_611 _ _ _ b_x0 hs.own) hs fun w a hs => ?_
     replace hcl := qO hC_603 hs.own.drop
     refine ⟨fun _ => hcl, ?_⟩
     refine qdp (fuel := 0) [32] hs hcl hqC_603 fun a hs => ?_
     replace hs := hs.pick [6] (L' := [(6, vi v_612.1)]) (by kernel_rfl)
     refine Vk.dDone (by kernel_rfl) ?_
     refine hK602 _ _ ?_
     clear hK602
     refine wp_ret ?_
     refine hKP598 _ _ ?_
     refine hKR598 _ _ ?_
     refine Vk.ret1 (P := Try.prog) (fn := Try.f95) (vi v_612.1) hs rfl (by kernel_rfl) ⟨_, _, _, rfl, hs.own, fun a hs => ?_⟩
     replace hcl := qO hC_597 hs.own.drop
     refine ⟨fun _ => hcl, ?_⟩
     obtain ⟨v_615, h_614, hm⟩ := bind_t hm
     refine qdc 14 (wire_Machine_Two.ok _ _ _ _ _ _ _ h_614 _ _ _ b_x0 hs.own) hs fun w a hs => ?_
     replace hcl := qO hC_597 hs.own.drop
     refine ⟨fun _ => hcl, ?_⟩
     refine qdp (fuel := 1) [16] hs hcl hqC_597 fun a hs => ?_
     refine qsd 17 1 2 (ci v_615.1) hs rfl fun a w hs => ?_
     refine ⟨fun h => absurd h (by decide), ?_⟩
     replace hs := hs.pick [0, 1, 4, 5, 6, 7, 16, 17, 31, 32] (L' := [(0, pp b_248), (1, .func (.func 95) #[pp b_248] #[]), (4, pp b_463), (5, pp b_465), (6, vi 3), (7, vi 2), (16, vi 3), (17, vi 2), (31, vi 3), (32, vi 0)]) (by kernel_rfl)
     refine Vk.dDone (by kernel_rfl) ?_
     refine hK594 _ _ ?_
     clear hK594
     refine Vk.region ?_
     refine qpk 2 [0, 1, 4, 5, 6, 7, 16, 17, 31, 32] hs fun a hs => hKL591 _ _ ?_
     clear hKL591
     refine Vk.unroll fun KL616 hKL616 => ?_
     refine qsk 1 [0, 1, 4, 5, 6, 7, 16, 17, 31, 32, 33] hs fun a hs => ?_
     refine qck hs ?_
     refine Vk.seq fun K619 hK619 => ?_
     refine wp_block ?_
     refine qsk 2 [0, 1, 4, 5, 6, 7, 8, 16, 17, 31, 32] hs fun a hs => ?_
     refine qsk 3 [0, 1, 4, 5, 6, 7, 8, 16, 17, 31, 32, 37] hs fun a hs => ?_
     refine qct hs ?_
     obtain ⟨C_622, hC_622⟩ := qC hs.own.drop
     refine qdr 17 κ C_622 hs fun w hs hqC_622 => ?_
     have hcl := qO hC_622 hs.own.drop
     refine qdp (fuel := 6) [0, 1, 2, 3, 5, 6, 7, 8, 10, 11, 12, 15] hs hcl hqC_622 fun a hs => ?_
     refine qdl 4 2 (cp b_x0) hs hcl hqC_622 hC_622 rfl fun a hs => ?_
     refine qdl 9 0 (ci v_615.1) hs hcl hqC_622 hC_622 rfl fun a hs => ?_
     refine Vk.dOnly (i := 13) (by kernel_rfl) (Vk.call (some 51) 95 #[pp b_248, vi 2, vi 1] hs (by kernel_rfl) (by kernel_rfl) (by kernel_rfl) ?_)
     refine Vk.enterI [(0, pp b_248), (1, vi 2), (2, vi 1)] Try.func95 rfl Try.ntmps95 (by kernel_rfl) (Nat.le_of_ble_eq_true (by kernel_rfl)) hs.own fun KR623 hKR623 hKP623 a hs => ?_
     refine qsk 1 [0, 1, 2] hs fun a hs => ?_
     refine Vk.seq fun K625 hK625 => ?_
     refine qse 3 [(0, pp b_248), (1, vi 2), (2, vi 1), (9, .bool false)] hs fun a hs => ?_
     refine qcf hs ?_
     refine wp_skip ?_
     refine hK625 _ _ ?_
     clear hK625
     refine Vk.seq fun K627 hK627 => ?_
     obtain ⟨C_628, hC_628⟩ := qC hs.own.drop
     refine qdr 33 κ C_628 hs fun w hs hqC_628 => ?_
     have hcl := qO hC_628 hs.own.drop
     refine qdp (fuel := 8) [0, 1, 2, 4, 5, 6, 7, 9, 10, 11, 12, 14, 15, 16, 17, 18, 19, 20, 23, 24, 25, 26, 27, 28, 29] hs hcl hqC_628 fun a hs => ?_
     refine qdl 3 2 (cp b_x0) hs hcl hqC_628 hC_628 rfl fun a hs => ?_
     refine qdl 8 2 (cp b_x0) hs hcl hqC_628 hC_628 rfl fun a hs => ?_
     refine qdl 21 2 (ci v_404.1) hs hcl hqC_628 hC_628 rfl fun a hs => ?_
     refine qdl 30 2 (ci v_439.1) hs hcl hqC_628 hC_628 rfl fun a hs => ?_
     refine Vk.dOnly (i := 13) (by kernel_rfl) (Vk.call (some 27) 151 #[pp b_248, vi 1, vi 2] hs (by kernel_rfl) (by kernel_rfl) (by kernel_rfl) ?_)
     refine Vk.enterI [(0, pp b_248), (1, vi 1), (2, vi 2)] Try.func151 rfl Try.ntmps151 (by kernel_rfl) (Nat.le_of_ble_eq_true (by kernel_rfl)) hs.own fun KR629 hKR629 hKP629 a hs => ?_
     refine qsk 1 [0, 1, 2] hs fun a hs => ?_
     refine qsr fun K631 hK631 => ?_
     refine qpu 3 hs fun a hs => ?_
     refine qld 3 (C.map (some b_247)) hs rfl fun a hs => ?_
     refine qpu 7 hs fun a hs => ?_
     refine qva (vi v_294.1) (op := (.lookup 186 (.tmp 10) (.tmp 17) false)) hs (fun o ho => run_lookup (b := b_247) (key := .agg (vals [ci 1, ci 2])) 4 rfl ho (by kernel_rfl) (by kernel_rfl) (by kernel_rfl) _ hs.own) fun a hs => ?_
     refine qpe 1 [(6, vi v_294.1)] hs fun a hs => hK631 _ _ ?_
     clear hK631
     refine wp_ret ?_
     refine hKP629 _ _ ?_
     refine hKR629 _ _ ?_
     refine Vk.ret1 (P := Try.prog) (fn := Try.f151) (vi v_294.1) hs rfl (by kernel_rfl) ⟨_, _, _, rfl, hs.own, fun a hs => ?_⟩
     replace hcl := qO hC_628 hs.own.drop
     refine ⟨fun _ => hcl, ?_⟩
     obtain ⟨v_634, h_633, hm⟩ := bind_t hm
     refine qdc 22 (wire_Machine_Two.ok _ _ _ _ _ _ _ h_633 _ _ _ b_x0 hs.own) hs fun w a hs => ?_
     replace hcl := qO hC_628 hs.own.drop
     refine ⟨fun _ => hcl, ?_⟩
     obtain ⟨v_637, h_636, hm⟩ := bind_t hm
     refine qdc 31 (wire_Machine_Two.ok _ _ _ _ _ _ _ h_636 _ _ _ b_x0 hs.own) hs fun w a hs => ?_
     replace hcl := qO hC_628 hs.own.drop
     refine ⟨fun _ => hcl, ?_⟩
     refine qdp (fuel := 0) [32] hs hcl hqC_628 fun a hs => ?_
     replace hs := hs.pick [6] (L' := [(6, vi v_637.1)]) (by kernel_rfl)
     refine Vk.dDone (by kernel_rfl) ?_
     refine hK627 _ _ ?_
     clear hK627
     refine wp_ret ?_
     refine hKP623 _ _ ?_
     refine hKR623 _ _ ?_
     refine Vk.ret1 (P := Try.prog) (fn := Try.f95) (vi v_637.1) hs rfl (by kernel_rfl) ⟨_, _, _, rfl, hs.own, fun a hs => ?_⟩
     replace hcl := qO hC_622 hs.own.drop
     refine ⟨fun _ => hcl, ?_⟩
     obtain ⟨v_640, h_639, hm⟩ := bind_t hm
     refine qdc 14 (wire_Machine_Two.ok _ _ _ _ _ _ _ h_639 _ _ _ b_x0 hs.own) hs fun w a hs => ?_
     replace hcl := qO hC_622 hs.own.drop
     refine ⟨fun _ => hcl, ?_⟩
     refine qdp (fuel := 1) [16] hs hcl hqC_622 fun a hs => ?_
     refine qsd 17 1 2 (ci v_640.1) hs rfl fun a w hs => ?_
     refine ⟨fun h => absurd h (by decide), ?_⟩
     replace hs := hs.pick [0, 1, 4, 5, 6, 7, 16, 17, 31, 32] (L' := [(0, pp b_248), (1, .func (.func 95) #[pp b_248] #[]), (4, pp b_463), (5, pp b_465), (6, vi 3), (7, vi 2), (16, vi 3), (17, vi 2), (31, vi 3), (32, vi 1)]) (by kernel_rfl)
     refine Vk.dDone (by kernel_rfl) ?_
     refine hK619 _ _ ?_
     clear hK619
     refine Vk.region ?_
     refine qpk 2 [0, 1, 4, 5, 6, 7, 16, 17, 31, 32] hs fun a hs => hKL616 _ _ ?_
     clear hKL616
     refine Vk.unroll fun KL641 hKL641 => ?_
     refine qsk 1 [0, 1, 4, 5, 6, 7, 16, 17, 31, 32, 33] hs fun a hs => ?_
     refine qck hs ?_
     refine Vk.seq fun K644 hK644 => ?_
     refine wp_block ?_
     refine qsk 2 [0, 1, 4, 5, 6, 7, 8, 16, 17, 31, 32] hs fun a hs => ?_
     refine qsk 3 [0, 1, 4, 5, 6, 7, 8, 16, 17, 31, 32, 37] hs fun a hs => ?_
     refine qcf hs ?_
     refine wp_skip ?_
     refine hK644 _ _ ?_
     clear hK644
     refine Vk.region ?_
     refine qpk 2 [0, 1, 4, 5, 6, 7, 16, 17, 31, 32] hs fun a hs => hKL641 _ _ ?_
     clear hKL641
     refine Vk.unroll fun KL647 hKL647 => ?_
     refine qse 1 [(0, pp b_248), (1, .func (.func 95) #[pp b_248] #[]), (4, pp b_463), (5, pp b_465), (6, vi 3), (7, vi 2), (16, vi 3), (17, vi 2), (31, vi 3), (32, vi 3), (33, .bool false)] hs fun a hs => ?_
     refine Vk.seq fun K649 hK649 => ?_
     refine qcf hs ?_
     refine wp_exit ?_
     refine hK587 _ _ ?_
     clear hK587
     refine Vk.region ?_
     refine qpk 2 [0, 1, 4, 5, 6, 16, 17] hs fun a hs => hKL584 _ _ ?_
     clear hKL584
     refine Vk.unroll fun KL650 hKL650 => ?_
     refine qsk 1 [0, 1, 4, 5, 6, 16, 17, 18] hs fun a hs => ?_
     refine Vk.seq fun K652 hK652 => ?_
     refine qcf hs ?_
     refine wp_exit ?_
     refine hK471 _ _ ?_
     clear hK471
     refine qsr fun K653 hK653 => ?_
     refine qln 1 ([ci v_521.1, ci v_580.1, ci v_640.1]) hs rfl fun a hs => ?_
     refine qsa 2 [ci v_521.1, ci v_580.1, ci v_640.1] hs rfl fun a w hs => ?_
     refine qpe 0 [(4, pp b_463)] hs fun a hs => hK653 _ _ ?_
     clear hK653
     refine wp_ret ?_
     refine hKP461 _ _ ?_
     refine hKR461 _ _ ?_
     refine Vk.retC (P := Try.prog) (fn := Try.f92) [ci v_521.1, ci v_580.1, ci v_640.1] hs rfl (by kernel_rfl) (sz := 3) (by kernel_rfl) rfl (CellsAt.all 2 rfl) ⟨_, _, _, rfl, hs.own, fun a hs => ?_⟩
     refine qal 28 [ci 0, ci 0, ci 0] 8 hs fun b_654 w a hs => ?_
     refine qsa 0 [ci v_521.1, ci v_580.1, ci v_640.1] hs rfl fun a w hs => ?_
     refine qpk 0 [0, 6, 8] hs fun a hs => hK460 _ _ ?_
     clear hK460
     refine qsr fun K655 hK655 => ?_
     refine qpu 1 hs fun a hs => ?_
     obtain ⟨v_658, h_657, hm⟩ := bind_t hm
     refine qcl (wire_Machine_End.ok _ _ _ h_657 _ _ _ b_x0 hs.own.f1) hs fun w a hs => ?_
     refine qpe 0 [(6, pp b_4), (8, pp b_654)] hs fun a hs => hK655 _ _ ?_
     clear hK655
     refine qsr fun K659 hK659 => ?_
     refine qln 1 ([ci v_521.1, ci v_580.1, ci v_640.1]) hs rfl fun a hs => ?_
     refine qsa 8 [ci v_521.1, ci v_580.1, ci v_640.1] hs rfl fun a w hs => ?_
     refine qpe 0 [(6, pp b_4)] hs fun a hs => hK659 _ _ ?_
     clear hK659
     refine wp_ret ?_
     exact Vk.retC [ci v_521.1, ci v_580.1, ci v_640.1] hs rfl (by kernel_rfl) (sz := 3) (by kernel_rfl) rfl (CellsAt.all 8 rfl) (hRR ▸ by cases hm; exact ⟨rfl, (hs.own.too [0] 11)⟩)
    ·replace hm := bif_f hm hb
     cases hm
   ·replace hm := bif_f hm hb
    cases hm
  ·replace hm := bif_f hm hb
   cases hm


abbrev times_By.R (κ : Ctx) (S : List HP) (x0 : Twire_Machine) (x1 : Int) (x2 : Cells) (x3 : Cells) (b_x0 : Nat) (r : (Cells × Twire_Machine)) : Ending → World → Prop := fun e w' => e = .returned (.agg (vals r.1)) ∧ Own κ w' (Twire_Machine.own b_x0 r.2 :: S)
def times_By.m (k : Nat) (x0 : Twire_Machine) (x1 : Int) (x2 : Cells) (x3 : Cells) : Option (Cells × Twire_Machine) := (bif x1 == 2 then (if x2.length = 3 then (if x3.length = 3 then (times_Dom.m k x0 x2 x3).bind fun v_12 => (if v_12.1.length = 3 then some (v_12.1, v_12.2) else none) else none) else none) else (if x2.length = 3 then (if x3.length = 3 then (times_Isw.m k x0 x2 x3).bind fun v_19 => (if v_19.1.length = 3 then some (v_19.1, v_19.2) else none) else none) else none))

set_option maxRecDepth 100000 in
set_option maxHeartbeats 4000000 in
theorem times_By.ok (k : Nat) (x0 : Twire_Machine) (x1 : Int) (x2 : Cells) (x3 : Cells) (r : (Cells × Twire_Machine)) (hm : times_By.m k x0 x1 x2 x3 = some r) (κ : Ctx) (w : World) (S : List HP) (b_x0 : Nat) (ho : Own κ w (Twire_Machine.own b_x0 x0 :: S)) :
  Calls Try.prog 56 #[pp b_x0, vi x1, .agg (vals x2), .agg (vals x3)] w (times_By.R κ S x0 x1 x2 x3 b_x0 r) := by
 unfold times_By.m at hm
 generalize hRR : times_By.R κ S x0 x1 x2 x3 b_x0 r = RR
 refine qen [(0, pp b_x0), (1, vi x1), (2, .agg (vals x2)), (3, .agg (vals x3))] Try.func56 Try.ntmps56 ho fun a hs => ?_
 refine qsr fun K1 hK1 => ?_
 refine qbx 2 28 x2 6 hs fun b_2 w a hs => ?_
 refine qbx 3 28 x3 7 hs fun b_3 w a hs => ?_
 refine qal 28 [ci 0, ci 0, ci 0] 8 hs fun b_4 w a hs => ?_
 refine qpk 0 [0, 1, 6, 7, 8] hs fun a hs => hK1 _ _ ?_
 clear hK1
 refine Vk.seq fun K5 hK5 => ?_
 refine qsk 2 [0, 6, 7, 8, 10] hs fun a hs => ?_
 refine qcs (x1 == 2) hs (fun hb => ?_) fun hb => ?_
 ·replace hm := bif_t hm hb
  refine qsr fun K7 hK7 => ?_
  refine qpu 1 hs fun a hs => ?_
  obtain ⟨h_8, hm⟩ := ite_t hm
  refine qlw 2 hs rfl h_8 fun a hs => ?_
  obtain ⟨h_9, hm⟩ := ite_t hm
  refine qlw 1 hs rfl h_9 fun a hs => ?_
  obtain ⟨v_12, h_11, hm⟩ := bind_t hm
  refine qcl (times_Dom.ok _ _ _ _ _ h_11 _ _ _ b_x0 hs.own.f3) hs fun w a hs => ?_
  obtain ⟨h_13, hm⟩ := ite_t hm
  refine qsb 1 v_12.1 hs rfl h_13 rfl fun a w hs => ?_
  refine qpe 0 [(8, pp b_4)] hs fun a hs => hK7 _ _ ?_
  clear hK7
  refine wp_ret ?_
  exact Vk.retC v_12.1 hs rfl (by kernel_rfl) (sz := 3) (by kernel_rfl) h_13 (CellsAt.all 1 rfl) (hRR ▸ by cases hm; exact ⟨rfl, (hs.own.too [0] 4)⟩)
 ·replace hm := bif_f hm hb
  refine wp_skip ?_
  refine hK5 _ _ ?_
  clear hK5
  refine qsr fun K14 hK14 => ?_
  refine qpu 1 hs fun a hs => ?_
  obtain ⟨h_15, hm⟩ := ite_t hm
  refine qlw 2 hs rfl h_15 fun a hs => ?_
  obtain ⟨h_16, hm⟩ := ite_t hm
  refine qlw 1 hs rfl h_16 fun a hs => ?_
  obtain ⟨v_19, h_18, hm⟩ := bind_t hm
  refine qcl (times_Isw.ok _ _ _ _ _ h_18 _ _ _ b_x0 hs.own.f3) hs fun w a hs => ?_
  obtain ⟨h_20, hm⟩ := ite_t hm
  refine qsb 1 v_19.1 hs rfl h_20 rfl fun a w hs => ?_
  refine qpe 0 [(8, pp b_4)] hs fun a hs => hK14 _ _ ?_
  clear hK14
  refine wp_ret ?_
  exact Vk.retC v_19.1 hs rfl (by kernel_rfl) (sz := 3) (by kernel_rfl) h_20 (CellsAt.all 1 rfl) (hRR ▸ by cases hm; exact ⟨rfl, (hs.own.too [0] 4)⟩)


abbrev both_And.R (κ : Ctx) (S : List HP) (x0 : Twire_Machine) (x1 : Int) (x2 : Cells) (x3 : Cells) (b_x0 : Nat) (r : (Cells × Twire_Machine)) : Ending → World → Prop := fun e w' => e = .returned (.agg (vals r.1)) ∧ Own κ w' (Twire_Machine.own b_x0 r.2 :: S)
def both_And.m (k : Nat) (x0 : Twire_Machine) (x1 : Int) (x2 : Cells) (x3 : Cells) : Option (Cells × Twire_Machine) := (if x3.length = 3 then (fresh_Full.m k x0 x3).bind fun v_9 => (if v_9.1.length = 3 then (if x2.length = 3 then (times_By.m k v_9.2 x1 x2 v_9.1).bind fun v_15 => (if v_15.1.length = 3 then some (v_15.1, v_15.2) else none) else none) else none) else none)

set_option maxRecDepth 100000 in
set_option maxHeartbeats 4000000 in
theorem both_And.ok (k : Nat) (x0 : Twire_Machine) (x1 : Int) (x2 : Cells) (x3 : Cells) (r : (Cells × Twire_Machine)) (hm : both_And.m k x0 x1 x2 x3 = some r) (κ : Ctx) (w : World) (S : List HP) (b_x0 : Nat) (ho : Own κ w (Twire_Machine.own b_x0 x0 :: S)) :
  Calls Try.prog 144 #[pp b_x0, vi x1, .agg (vals x2), .agg (vals x3)] w (both_And.R κ S x0 x1 x2 x3 b_x0 r) := by
 unfold both_And.m at hm
 generalize hRR : both_And.R κ S x0 x1 x2 x3 b_x0 r = RR
 refine qen [(0, pp b_x0), (1, vi x1), (2, .agg (vals x2)), (3, .agg (vals x3))] Try.func144 Try.ntmps144 ho fun a hs => ?_
 refine qsr fun K1 hK1 => ?_
 refine qbx 2 28 x2 6 hs fun b_2 w a hs => ?_
 refine qbx 3 28 x3 7 hs fun b_3 w a hs => ?_
 refine qal 28 [ci 0, ci 0, ci 0] 8 hs fun b_4 w a hs => ?_
 refine qpk 0 [0, 1, 6, 7, 8] hs fun a hs => hK1 _ _ ?_
 clear hK1
 refine qsr fun K5 hK5 => ?_
 refine qpu 1 hs fun a hs => ?_
 obtain ⟨h_6, hm⟩ := ite_t hm
 refine qlw 1 hs rfl h_6 fun a hs => ?_
 obtain ⟨v_9, h_8, hm⟩ := bind_t hm
 refine qcl (fresh_Full.ok _ _ _ _ h_8 _ _ _ b_x0 hs.own.f3) hs fun w a hs => ?_
 obtain ⟨h_10, hm⟩ := ite_t hm
 refine qsb 2 v_9.1 hs rfl h_10 h_6 fun a w hs => ?_
 refine qpk 0 [0, 1, 6, 7, 8] hs fun a hs => hK5 _ _ ?_
 clear hK5
 refine qsr fun K11 hK11 => ?_
 refine qpu 2 hs fun a hs => ?_
 obtain ⟨h_12, hm⟩ := ite_t hm
 refine qlw 3 hs rfl h_12 fun a hs => ?_
 refine qlw 2 hs rfl h_10 fun a hs => ?_
 obtain ⟨v_15, h_14, hm⟩ := bind_t hm
 refine qcl (times_By.ok _ _ _ _ _ _ h_14 _ _ _ b_x0 hs.own) hs fun w a hs => ?_
 obtain ⟨h_16, hm⟩ := ite_t hm
 refine qsb 1 v_15.1 hs rfl h_16 rfl fun a w hs => ?_
 refine qpe 0 [(8, pp b_4)] hs fun a hs => hK11 _ _ ?_
 clear hK11
 refine wp_ret ?_
 exact Vk.retC v_15.1 hs rfl (by kernel_rfl) (sz := 3) (by kernel_rfl) h_16 (CellsAt.all 1 rfl) (hRR ▸ by cases hm; exact ⟨rfl, (hs.own.too [0] 4)⟩)


abbrev both_Or.R (κ : Ctx) (S : List HP) (x0 : Twire_Machine) (x1 : Int) (x2 : Cells) (x3 : Cells) (b_x0 : Nat) (r : (Cells × Twire_Machine)) : Ending → World → Prop := fun e w' => e = .returned (.agg (vals r.1)) ∧ Own κ w' (Twire_Machine.own b_x0 r.2 :: S)
def both_Or.m (k : Nat) (x0 : Twire_Machine) (x1 : Int) (x2 : Cells) (x3 : Cells) : Option (Cells × Twire_Machine) := (if x2.length = 3 then (share_Not.m k x0 x2).bind fun v_9 => (if v_9.1.length = 3 then (if x3.length = 3 then (share_Not.m k v_9.2 x3).bind fun v_15 => (if v_15.1.length = 3 then (both_And.m k v_15.2 x1 v_9.1 v_15.1).bind fun v_20 => (share_Not.m k v_20.2 v_20.1).bind fun v_23 => (if v_23.1.length = 3 then some (v_23.1, v_23.2) else none) else none) else none) else none) else none)

set_option maxRecDepth 100000 in
set_option maxHeartbeats 4000000 in
theorem both_Or.ok (k : Nat) (x0 : Twire_Machine) (x1 : Int) (x2 : Cells) (x3 : Cells) (r : (Cells × Twire_Machine)) (hm : both_Or.m k x0 x1 x2 x3 = some r) (κ : Ctx) (w : World) (S : List HP) (b_x0 : Nat) (ho : Own κ w (Twire_Machine.own b_x0 x0 :: S)) :
  Calls Try.prog 141 #[pp b_x0, vi x1, .agg (vals x2), .agg (vals x3)] w (both_Or.R κ S x0 x1 x2 x3 b_x0 r) := by
 unfold both_Or.m at hm
 generalize hRR : both_Or.R κ S x0 x1 x2 x3 b_x0 r = RR
 refine qen [(0, pp b_x0), (1, vi x1), (2, .agg (vals x2)), (3, .agg (vals x3))] Try.func141 Try.ntmps141 ho fun a hs => ?_
 refine qsr fun K1 hK1 => ?_
 refine qbx 2 28 x2 6 hs fun b_2 w a hs => ?_
 refine qbx 3 28 x3 7 hs fun b_3 w a hs => ?_
 refine qal 28 [ci 0, ci 0, ci 0] 8 hs fun b_4 w a hs => ?_
 refine qpk 0 [0, 1, 6, 7, 8] hs fun a hs => hK1 _ _ ?_
 clear hK1
 refine qsr fun K5 hK5 => ?_
 refine qpu 1 hs fun a hs => ?_
 obtain ⟨h_6, hm⟩ := ite_t hm
 refine qlw 2 hs rfl h_6 fun a hs => ?_
 obtain ⟨v_9, h_8, hm⟩ := bind_t hm
 refine qcl (share_Not.ok _ _ _ _ h_8 _ _ _ b_x0 hs.own.f3) hs fun w a hs => ?_
 obtain ⟨h_10, hm⟩ := ite_t hm
 refine qsb 3 v_9.1 hs rfl h_10 h_6 fun a w hs => ?_
 refine qpk 0 [0, 1, 6, 7, 8] hs fun a hs => hK5 _ _ ?_
 clear hK5
 refine qsr fun K11 hK11 => ?_
 refine qpu 1 hs fun a hs => ?_
 obtain ⟨h_12, hm⟩ := ite_t hm
 refine qlw 2 hs rfl h_12 fun a hs => ?_
 obtain ⟨v_15, h_14, hm⟩ := bind_t hm
 refine qcl (share_Not.ok _ _ _ _ h_14 _ _ _ b_x0 hs.own) hs fun w a hs => ?_
 obtain ⟨h_16, hm⟩ := ite_t hm
 refine qsb 2 v_15.1 hs rfl h_16 h_12 fun a w hs => ?_
 refine qpk 0 [0, 1, 6, 7, 8] hs fun a hs => hK11 _ _ ?_
 clear hK11
 refine qsr fun K17 hK17 => ?_
 refine qpu 3 hs fun a hs => ?_
 refine qlw 3 hs rfl h_10 fun a hs => ?_
 refine qlw 2 hs rfl h_16 fun a hs => ?_
 obtain ⟨v_20, h_19, hm⟩ := bind_t hm
 refine qcl (both_And.ok _ _ _ _ _ _ h_19 _ _ _ b_x0 hs.own) hs fun w a hs => ?_
 obtain ⟨v_23, h_22, hm⟩ := bind_t hm
 refine qcl (share_Not.ok _ _ _ _ h_22 _ _ _ b_x0 hs.own) hs fun w a hs => ?_
 obtain ⟨h_24, hm⟩ := ite_t hm
 refine qsb 1 v_23.1 hs rfl h_24 rfl fun a w hs => ?_
 refine qpe 0 [(8, pp b_4)] hs fun a hs => hK17 _ _ ?_
 clear hK17
 refine wp_ret ?_
 exact Vk.retC v_23.1 hs rfl (by kernel_rfl) (sz := 3) (by kernel_rfl) h_24 (CellsAt.all 1 rfl) (hRR ▸ by cases hm; exact ⟨rfl, (hs.own.too [0] 4)⟩)


def both_Fold.l1 (x1 : Int) : Nat → Twire_Machine → Cells → Int → Option (Cells × Twire_Machine)
 | 0, _, _, _ => none
 | k + 1, q_13, q_14, q_15 => (bif decide (q_15 > 0) then (if q_14.length = 3 then (share_One.m k q_13 10 q_14 (IntKind.u64.wrap q_15)).bind fun v_23 => (both_Or.m k v_23.2 x1 q_14 v_23.1).bind fun v_26 => (if v_26.1.length = 3 then both_Fold.l1 x1 k v_26.2 v_26.1 (IntKind.i64.wrap (Int.tdiv q_15 2)) else none) else none) else some (q_14, q_13))
abbrev both_Fold.R (κ : Ctx) (S : List HP) (x0 : Twire_Machine) (x1 : Int) (x2 : Cells) (x3 : Int) (b_x0 : Nat) (r : (Cells × Twire_Machine)) : Ending → World → Prop := fun e w' => e = .returned (.agg (vals r.1)) ∧ Own κ w' (Twire_Machine.own b_x0 r.2 :: S)
def both_Fold.m (k : Nat) (x0 : Twire_Machine) (x1 : Int) (x2 : Cells) (x3 : Int) : Option (Cells × Twire_Machine) := (bif ((decide (x3 < 2)) || (decide (x3 > 64))) || ((band .i64 x3 (IntKind.i64.wrap (x3 - 1))) != 0) then (if x2.length = 3 then some (x2, x0) else none) else (both_Fold.l1 x1 k x0 x2 (IntKind.i64.wrap (Int.tdiv x3 2))).bind fun x => match x with | (p_28, p_29) => (if p_28.length = 3 then some (p_28, p_29) else none))

set_option maxRecDepth 100000 in
set_option maxHeartbeats 4000000 in
theorem both_Fold.ok (k : Nat) (x0 : Twire_Machine) (x1 : Int) (x2 : Cells) (x3 : Int) (r : (Cells × Twire_Machine)) (hm : both_Fold.m k x0 x1 x2 x3 = some r) (κ : Ctx) (w : World) (S : List HP) (b_x0 : Nat) (ho : Own κ w (Twire_Machine.own b_x0 x0 :: S)) :
  Calls Try.prog 75 #[pp b_x0, vi x1, .agg (vals x2), vi x3] w (both_Fold.R κ S x0 x1 x2 x3 b_x0 r) := by
 unfold both_Fold.m at hm
 generalize hRR : both_Fold.R κ S x0 x1 x2 x3 b_x0 r = RR
 refine qen [(0, pp b_x0), (1, vi x1), (2, .agg (vals x2)), (3, vi x3)] Try.func75 Try.ntmps75 ho fun a hs => ?_
 refine qsr fun K1 hK1 => ?_
 refine qbx 2 28 x2 6 hs fun b_2 w a hs => ?_
 refine qal 28 [ci 0, ci 0, ci 0] 8 hs fun b_3 w a hs => ?_
 refine qpk 0 [0, 1, 3, 6, 8] hs fun a hs => hK1 _ _ ?_
 clear hK1
 refine Vk.seq fun K4 hK4 => ?_
 refine qsr fun K5 hK5 => ?_
 refine qpu 3 hs fun a hs => ?_
 refine qsc 12 3 hs fun a hs => ?_
 refine qpu 1 hs fun a hs => ?_
 refine qsc 16 6 hs fun a hs => ?_
 refine qpk 0 [0, 1, 3, 6, 8, 22] hs fun a hs => hK5 _ _ ?_
 clear hK5
 refine qcs (((decide (x3 < 2)) || (decide (x3 > 64))) || ((band .i64 x3 (IntKind.i64.wrap (x3 - 1))) != 0)) hs (fun hb => ?_) fun hb => ?_
 ·replace hm := bif_t hm hb
  refine qsr fun K8 hK8 => ?_
  obtain ⟨h_9, hm⟩ := ite_t hm
  refine qlw 1 hs rfl h_9 fun a hs => ?_
  refine qsb 0 x2 hs rfl h_9 rfl fun a w hs => ?_
  refine qpe 0 [(8, pp b_3)] hs fun a hs => hK8 _ _ ?_
  clear hK8
  refine wp_ret ?_
  exact Vk.retC x2 hs rfl (by kernel_rfl) (sz := 3) (by kernel_rfl) h_9 (CellsAt.all 0 rfl) (hRR ▸ by cases hm; exact ⟨rfl, hs.own.f1.drop.drop⟩)
 ·replace hm := bif_f hm hb
  refine wp_skip ?_
  refine hK4 _ _ ?_
  clear hK4
  refine Vk.seq fun K10 hK10 => ?_
  refine qsk 3 [0, 1, 6, 8, 9] hs fun a hs => ?_
  refine wp_block ?_
  obtain ⟨r12, hl12, hm⟩ := bind_t hm
  have hx12 : ∀ (p_28 : Cells) (p_29 : Twire_Machine), r12 = (p_28, p_29) → ∀ (a : Act) (w : World), St 40 a w κ [(6, pp b_2), (8, pp b_3)] (pt b_2 (blk p_28 28) :: pt b_3 (blk [ci 0, ci 0, ci 0] 28) :: Twire_Machine.own b_x0 p_29 :: S) → K10 a w := by
   intro p_28 p_29 he a w hs
   subst r12
   refine hK10 _ _ ?_
   clear hK10
   refine qsr fun K33 hK33 => ?_
   obtain ⟨h_34, hm⟩ := ite_t hm
   refine qlw 0 hs rfl h_34 fun a hs => ?_
   refine qsb 1 p_28 hs rfl h_34 rfl fun a w hs => ?_
   refine qpe 0 [(8, pp b_3)] hs fun a hs => hK33 _ _ ?_
   clear hK33
   refine wp_ret ?_
   exact Vk.retC p_28 hs rfl (by kernel_rfl) (sz := 3) (by kernel_rfl) h_34 (CellsAt.all 1 rfl) (hRR ▸ by cases hm; exact ⟨rfl, hs.own.f1.drop.drop⟩)
  refine Vk.loopBy (fun k (s : Twire_Machine × Cells × Int) a w => both_Fold.l1 x1 k s.1 s.2.1 s.2.2 = some r12 ∧ St 40 a w κ [(0, pp b_x0), (1, vi x1), (6, pp b_2), (8, pp b_3), (9, vi s.2.2)] (Twire_Machine.own b_x0 s.1 :: pt b_2 (blk s.2.1 28) :: pt b_3 (blk [ci 0, ci 0, ci 0] 28) :: S)) k (x0, x2, (IntKind.i64.wrap (Int.tdiv x3 2))) ⟨hl12, hs.go [0, 1, 6, 8, 9] [2, 1, 0] 3 (by kernel_rfl) (by kernel_rfl) (by kernel_rfl)⟩ (fun s a w h => by obtain ⟨h1, _⟩ := h; simp [both_Fold.l1] at h1) (fun k KL12 ih s a w h => ?_)
  obtain ⟨q_13, q_14, q_15⟩ := s
  obtain ⟨hm, hs⟩ := h
  try dsimp only at hm hs
  rw [both_Fold.l1] at hm
  refine Vk.seq fun K16 hK16 => ?_
  refine qsk 2 [0, 1, 6, 8, 9, 27] hs fun a hs => ?_
  refine qcs (decide (q_15 > 0)) hs (fun hb => ?_) fun hb => ?_
  ·replace hm := bif_t hm hb
   refine wp_skip ?_
   refine hK16 _ _ ?_
   clear hK16
   refine Vk.seq fun K18 hK18 => ?_
   refine wp_block ?_
   obtain ⟨C_19, hC_19⟩ := qC hs.own.drop
   refine qdr 9 κ C_19 hs fun w hs hqC_19 => ?_
   have hcl := qO hC_19 hs.own.drop
   refine qdp (fuel := 5) [0, 1, 3, 5, 6] hs hcl hqC_19 fun a hs => ?_
   obtain ⟨h_20, hm⟩ := ite_t hm
   refine qdw 2 0 hs hcl hqC_19 hC_19 rfl h_20 fun a hs => ?_
   refine qdw 4 0 hs hcl hqC_19 hC_19 rfl h_20 fun a hs => ?_
   obtain ⟨v_23, h_22, hm⟩ := bind_t hm
   refine qdc 7 (share_One.ok _ _ _ _ _ _ h_22 _ _ _ b_x0 hs.own) hs fun w a hs => ?_
   replace hcl := qO hC_19 hs.own.drop
   refine ⟨fun _ => hcl, ?_⟩
   obtain ⟨v_26, h_25, hm⟩ := bind_t hm
   refine qdc 8 (both_Or.ok _ _ _ _ _ _ h_25 _ _ _ b_x0 hs.own) hs fun w a hs => ?_
   replace hcl := qO hC_19 hs.own.drop
   refine ⟨fun _ => hcl, ?_⟩
   obtain ⟨h_27, hm⟩ := ite_t hm
   refine qsA 9 1 v_26.1 hs rfl h_27 h_20 fun a w hs => ?_
   refine ⟨fun h => absurd h (by decide), ?_⟩
   replace hs := hs.pick [0, 1, 6, 8, 9] (L' := [(0, pp b_x0), (1, vi x1), (6, pp b_2), (8, pp b_3), (9, vi q_15)]) (by kernel_rfl)
   refine Vk.dDone (by kernel_rfl) ?_
   refine hK18 _ _ ?_
   clear hK18
   refine Vk.region ?_
   refine qpk 3 [0, 1, 6, 8, 9] hs fun a hs => ?_
   refine ih (v_26.2, v_26.1, (IntKind.i64.wrap (Int.tdiv q_15 2))) _ _ ⟨hm, hs.go [0, 1, 6, 8, 9] [0, 1, 2] 3 (by kernel_rfl) (by kernel_rfl) (by kernel_rfl)⟩
  ·replace hm := bif_f hm hb
   refine wp_exit ?_
   exact hx12 q_14 q_13 (Option.some.inj hm).symm _ _ (hs.go [6, 8] [1, 2, 0] 3 (by kernel_rfl) (by kernel_rfl) (by kernel_rfl))


abbrev wire_Machine_Values.R (κ : Ctx) (S : List HP) (x0 : Twire_Machine) (b_x0 : Nat) (g_x0 : Nat × Option Addr × Nat × Option Addr × Nat × Option Addr × Nat) (r : List Int) : Ending → World → Prop := fun e w' => ∃ (A_r0 : Option Addr), ∃ (c_r0 : Nat), e = .returned (.slice A_r0 r.length c_r0) ∧ Own κ w' (rowp A_r0 c_r0 32 1 (eI .u64) r :: bagL (Twire_Machine.parts b_x0 x0 g_x0) :: S)
def wire_Machine_Values.m (k : Nat) (x0 : Twire_Machine) : Option (List Int) := (slices_Clone_uint64_uint64.m k x0.values).bind fun v_10 => some v_10

set_option maxRecDepth 100000 in
set_option maxHeartbeats 4000000 in
theorem wire_Machine_Values.ok (k : Nat) (x0 : Twire_Machine) (r : List Int) (hm : wire_Machine_Values.m k x0 = some r) (κ : Ctx) (w : World) (S : List HP) (b_x0 : Nat) (g_x0 : Nat × Option Addr × Nat × Option Addr × Nat × Option Addr × Nat) (ho : Own κ w (bagL (Twire_Machine.parts b_x0 x0 g_x0) :: S)) :
  Calls Try.prog 22 #[pp b_x0] w (wire_Machine_Values.R κ S x0 b_x0 g_x0 r) := by
 unfold wire_Machine_Values.m at hm
 generalize hRR : wire_Machine_Values.R κ S x0 b_x0 g_x0 r = RR
 refine qen [(0, pp b_x0)] Try.func22 Try.ntmps22 ho fun a hs => ?_
 refine qse 1 [(0, pp b_x0)] hs fun a hs => ?_
 refine Vk.seq fun K2 hK2 => ?_
 refine qsk 2 [0, 4] hs fun a hs => ?_
 refine qcf hs ?_
 refine wp_skip ?_
 refine hK2 _ _ ?_
 clear hK2
 refine qsr fun K4 hK4 => ?_
 refine qpu 3 hs fun a hs => ?_
 replace hs := hs.unbagAt 0 rfl
 refine qld 0 (C.slc g_x0.2.2.2.1 x0.values.length g_x0.2.2.2.2.1) hs rfl fun a hs => ?_
 obtain ⟨v_10, h_9, hm⟩ := bind_t hm
 refine Vk.step (Vk.call (some 9) 96 #[.slice g_x0.2.2.2.1 x0.values.length g_x0.2.2.2.2.1] hs (by kernel_rfl) (by kernel_rfl) (by kernel_rfl) ?_)
 refine (slices_Clone_uint64_uint64.ok k x0.values v_10 h_9 κ w (pt b_x0 (blk (Twire_Machine.obj x0 g_x0.1 g_x0.2.1 g_x0.2.2.1 g_x0.2.2.2.1 g_x0.2.2.2.2.1 g_x0.2.2.2.2.2.1 g_x0.2.2.2.2.2.2) 139) :: opto x0.dry (Ttape_Tape.own g_x0.1 x0.tape) :: rowp g_x0.2.1 g_x0.2.2.1 93 6 Tapi_Op.cells x0.ops :: rowp g_x0.2.2.2.1 g_x0.2.2.2.2.1 32 1 (eI .u64) x0.values :: rowp g_x0.2.2.2.2.2.1 g_x0.2.2.2.2.2.2 175 3 Tapi_Span.cells x0.blocks :: S) g_x0.2.2.2.1 g_x0.2.2.2.2.1 (Sl.lift (fun w ho => (Own.to (S' := rowp g_x0.2.2.2.1 g_x0.2.2.2.2.1 32 1 (eI .u64) x0.values :: S) ho [3] 5 (by kernel_rfl) (by kernel_rfl))) (Own.rowSl 0 (Own.to (S' := rowp g_x0.2.2.2.1 g_x0.2.2.2.2.1 32 1 (eI .u64) x0.values :: S) hs.own [3] 5 (by kernel_rfl) (by kernel_rfl)) rfl)) hs.own).mono ?_
 rintro _ w ⟨Ar8x0_11, cr8x0_12, rfl, how⟩
 refine ⟨_, _, _, rfl, how, fun a hs => ?_⟩
 refine qpk 1 [2] hs fun a hs => hK4 _ _ ?_
 clear hK4
 refine wp_ret ?_
 replace hs := hs.bagG (l := Twire_Machine.parts b_x0 x0 g_x0) (S' := rowp Ar8x0_11 cr8x0_12 32 1 (eI .u64) v_10 :: S) hs.own.f5.f5.f5.f5.f5
 exact qr1 (.slice Ar8x0_11 v_10.length cr8x0_12) hs rfl hRR (by cases hm; exact ⟨Ar8x0_11, cr8x0_12, rfl, hs.own.f1⟩)


def share_Value.j1 (k : Nat) (rec7 : Int → Int → Option (Int)) (q_9 : Int) (p_26 : Int) : Option (Int) := rec7 p_26 (IntKind.i64.wrap (q_9 + 1))
def share_Value.l1 (x0 : List Int) (x1 : Cells) : Nat → Int → Int → Option (Int)
 | 0, _, _ => none
 | k + 1, q_8, q_9 => (bif decide (q_9 < 3) then (if 0 ≤ q_9 ∧ q_9 < 3 then (getI .i64 x1 q_9.toNat).bind fun v_16 => (bif (decide (v_16 ≥ 0)) && (decide (v_16 < ((x0.length : Nat) : Int))) then (if 0 ≤ v_16 then (x0[v_16.toNat]?).bind fun e_22 => share_Value.j1 k (share_Value.l1 x0 x1 k) q_9 (bxor .u64 q_8 e_22) else none) else share_Value.j1 k (share_Value.l1 x0 x1 k) q_9 q_8) else none) else some q_8)
abbrev share_Value.R (κ : Ctx) (S : List HP) (x0 : List Int) (x1 : Cells) (A_x0 : Option Addr) (c_x0 : Nat) (r : Int) : Ending → World → Prop := fun e w' => e = .returned (vw r) ∧ Own κ w' (S)
def share_Value.m (k : Nat) (x0 : List Int) (x1 : Cells) : Option Int := (if x1.length = 3 then (share_Value.l1 x0 x1 k 0 0).bind fun p_27 => some p_27 else none)

set_option maxRecDepth 100000 in
set_option maxHeartbeats 4000000 in
theorem share_Value.ok (k : Nat) (x0 : List Int) (x1 : Cells) (r : Int) (hm : share_Value.m k x0 x1 = some r) (κ : Ctx) (w : World) (S : List HP) (A_x0 : Option Addr) (c_x0 : Nat) (hx_x0 : Sl κ S A_x0 c_x0 1 (eI .u64) x0) (ho : Own κ w (S)) :
  Calls Try.prog 28 #[.slice A_x0 x0.length c_x0, .agg (vals x1)] w (share_Value.R κ S x0 x1 A_x0 c_x0 r) := by
 unfold share_Value.m at hm
 generalize hRR : share_Value.R κ S x0 x1 A_x0 c_x0 r = RR
 refine qen [(0, .slice A_x0 x0.length c_x0), (1, .agg (vals x1))] Try.func28 Try.ntmps28 ho fun a hs => ?_
 refine qsr fun K1 hK1 => ?_
 refine qbx 1 28 x1 3 hs fun b_2 w a hs => ?_
 refine qpk 1 [0, 3] hs fun a hs => hK1 _ _ ?_
 clear hK1
 refine qsk 1 [0, 3, 5] hs fun a hs => ?_
 refine Vk.seq fun K4 hK4 => ?_
 refine qsr fun K5 hK5 => ?_
 refine qpu 1 hs fun a hs => ?_
 obtain ⟨h_6, hm⟩ := ite_t hm
 refine qlw 0 hs rfl h_6 fun a hs => ?_
 refine qpk 1 [0, 5, 9, 10] hs fun a hs => hK5 _ _ ?_
 clear hK5
 refine wp_block ?_
 obtain ⟨r7, hl7, hm⟩ := bind_t hm
 have hx7 : ∀ (p_27 : Int), r7 = p_27 → ∀ (a : Act) (w : World), St 29 a w κ [(5, vw p_27)] (S) → K4 a w := by
  intro p_27 he a w hs
  subst r7
  refine hK4 _ _ ?_
  clear hK4
  refine qse 2 [(4, vw p_27)] hs fun a hs => ?_
  refine wp_ret ?_
  exact qr1 (vw p_27) hs rfl hRR (by cases hm; exact ⟨rfl, hs.own⟩)
 refine Vk.loopBy (fun k (s : Int × Int) a w => share_Value.l1 x0 x1 k s.1 s.2 = some r7 ∧ St 29 a w κ [(0, .slice A_x0 x0.length c_x0), (5, vw s.1), (9, .agg (vals x1)), (10, vi s.2)] (S)) k (0, 0) ⟨hl7, hs.go [0, 5, 9, 10] [] 1 (by kernel_rfl) (by kernel_rfl) (by kernel_rfl)⟩ (fun s a w h => by obtain ⟨h1, _⟩ := h; simp [share_Value.l1] at h1) (fun k KL7 ih s a w h => ?_)
 obtain ⟨q_8, q_9⟩ := s
 obtain ⟨hm, hs⟩ := h
 try dsimp only at hm hs
 rw [share_Value.l1] at hm
 refine qsk 1 [0, 5, 9, 10, 11] hs fun a hs => ?_
 refine Vk.seq fun K11 hK11 => ?_
 refine qcs (decide (q_9 < 3)) hs (fun hb => ?_) fun hb => ?_
 ·replace hm := bif_t hm hb
  refine wp_skip ?_
  refine hK11 _ _ ?_
  clear hK11
  refine Vk.seq fun K12 hK12 => ?_
  have hj12 : ∀ (p_26 : Int), share_Value.j1 k (share_Value.l1 x0 x1 k) q_9 p_26 = some r7 → ∀ (a : Act) (w : World), St 29 a w κ [(0, .slice A_x0 x0.length c_x0), (5, vw p_26), (9, .agg (vals x1)), (10, vi q_9)] (S) → K12 a w := by
   intro p_26 hm a w hs
   unfold share_Value.j1 at hm
   refine hK12 _ _ ?_
   refine Vk.region ?_
   refine qpk 2 [0, 5, 9, 10] hs fun a hs => ?_
   refine ih (p_26, (IntKind.i64.wrap (q_9 + 1))) _ _ ⟨hm, hs.go [0, 5, 9, 10] [] 0 (by kernel_rfl) (by kernel_rfl) (by kernel_rfl)⟩
  refine wp_block ?_
  refine qsr fun K13 hK13 => ?_
  obtain ⟨h_14, hm⟩ := ite_t hm
  obtain ⟨v_16, h_15, hm⟩ := bind_t hm
  refine qva (vi v_16) (op := (.index 26 (.tmp 9) (.tmp 10))) hs (fun o ho => run_idxVal (k := .i64) (cs := x1) (c := ci v_16) ho (by kernel_rfl) (by kernel_rfl) (len := 3) (et := 3) (by kernel_rfl) (by kernel_rfl) (by kernel_rfl) (by kernel_rfl) h_14 (getI_some h_15) _) fun a hs => ?_
  refine qpk 1 [0, 5, 7, 9, 10] hs fun a hs => hK13 _ _ ?_
  clear hK13
  refine qsr fun K17 hK17 => ?_
  refine qpu 3 hs fun a hs => ?_
  refine qsc 15 5 hs fun a hs => ?_
  refine qpk 0 [0, 5, 7, 9, 10, 20] hs fun a hs => hK17 _ _ ?_
  clear hK17
  refine qcs ((decide (v_16 ≥ 0)) && (decide (v_16 < ((x0.length : Nat) : Int)))) hs (fun hb => ?_) fun hb => ?_
  ·replace hm := bif_t hm hb
   refine Vk.region ?_
   refine qpu 3 hs fun a hs => ?_
   obtain ⟨h_19, hm⟩ := ite_t hm
   obtain ⟨e_22, h_20, hm⟩ := bind_t hm
   obtain ⟨b_23, o_24, hA_25, h_21⟩ := Sl.elem hx_x0 h_20
   refine qva (.pointer (some ⟨b_23, o_24 + v_16.toNat * 1, none⟩)) (op := (.indexAddr 25 (.tmp 22) (.tmp 23))) hs (fun o ho => run_idxSlc (k := .i64) ho (cap := c_x0) (len := x0.length) ((congrArg (fun A => Value.slice A (x0.length) (c_x0)) hA_25) ▸ (by kernel_rfl)) (by kernel_rfl) (by kernel_rfl) (idx_ok h_19 h_20) _) fun a hs => ?_
   refine qva (vw e_22) (op := (.load 32 (.tmp 24))) hs (fun o ho => run_load1 (c := cw e_22) ho (by kernel_rfl) (by kernel_rfl) (fun w ho => h_21 w ho 0 _ rfl) _ hs.own) fun a hs => ?_
   refine qpe 2 [(0, .slice A_x0 x0.length c_x0), (5, vw (bxor .u64 q_8 e_22)), (9, .agg (vals x1)), (10, vi q_9)] hs fun a hs => ?_
   exact hj12 (bxor .u64 q_8 e_22) hm _ _ (hs.go [0, 5, 9, 10] [] 0 (by kernel_rfl) (by kernel_rfl) (by kernel_rfl))
  ·replace hm := bif_f hm hb
   refine wp_skip ?_
   exact hj12 q_8 hm _ _ (hs.go [0, 5, 9, 10] [] 0 (by kernel_rfl) (by kernel_rfl) (by kernel_rfl))
 ·replace hm := bif_f hm hb
  refine wp_exit ?_
  exact hx7 q_8 (Option.some.inj hm).symm _ _ (hs.go [5] [] 0 (by kernel_rfl) (by kernel_rfl) (by kernel_rfl))


abbrev wire_Machine_Err.R (κ : Ctx) (S : List HP) (x0 : Twire_Machine) (b_x0 : Nat) (g_x0 : Nat × Option Addr × Nat × Option Addr × Nat × Option Addr × Nat) (r : Int) : Ending → World → Prop := fun e w' => e = .returned (vi r) ∧ Own κ w' (bagL (Twire_Machine.parts b_x0 x0 g_x0) :: S)
def wire_Machine_Err.m (k : Nat) (x0 : Twire_Machine) : Option Int := some x0.bad

set_option maxRecDepth 100000 in
set_option maxHeartbeats 4000000 in
theorem wire_Machine_Err.ok (k : Nat) (x0 : Twire_Machine) (r : Int) (hm : wire_Machine_Err.m k x0 = some r) (κ : Ctx) (w : World) (S : List HP) (b_x0 : Nat) (g_x0 : Nat × Option Addr × Nat × Option Addr × Nat × Option Addr × Nat) (ho : Own κ w (bagL (Twire_Machine.parts b_x0 x0 g_x0) :: S)) :
  Calls Try.prog 23 #[pp b_x0] w (wire_Machine_Err.R κ S x0 b_x0 g_x0 r) := by
 unfold wire_Machine_Err.m at hm
 generalize hRR : wire_Machine_Err.R κ S x0 b_x0 g_x0 r = RR
 refine qen [(0, pp b_x0)] Try.func23 Try.ntmps23 ho fun a hs => ?_
 refine qse 1 [(0, pp b_x0)] hs fun a hs => ?_
 refine Vk.seq fun K2 hK2 => ?_
 refine qsk 2 [0, 4] hs fun a hs => ?_
 refine qcf hs ?_
 refine wp_skip ?_
 refine hK2 _ _ ?_
 clear hK2
 refine qsr fun K4 hK4 => ?_
 refine qpu 3 hs fun a hs => ?_
 replace hs := hs.unbagAt 0 rfl
 refine qld 0 (ci x0.bad) hs rfl fun a hs => ?_
 refine qpe 1 [(2, vi x0.bad)] hs fun a hs => hK4 _ _ ?_
 clear hK4
 refine wp_ret ?_
 replace hs := hs.bagG (l := Twire_Machine.parts b_x0 x0 g_x0) (S' := S) hs.own
 exact qr1 (vi x0.bad) hs rfl hRR (by cases hm; exact ⟨rfl, hs.own⟩)


abbrev wire_Machine_Draws.R (κ : Ctx) (S : List HP) (x0 : Twire_Machine) (b_x0 : Nat) (g_x0 : Nat × Option Addr × Nat × Option Addr × Nat × Option Addr × Nat) (r : Int) : Ending → World → Prop := fun e w' => e = .returned (vi r) ∧ Own κ w' (bagL (Twire_Machine.parts b_x0 x0 g_x0) :: S)
def wire_Machine_Draws.m (k : Nat) (x0 : Twire_Machine) : Option Int := some x0.draws

set_option maxRecDepth 100000 in
set_option maxHeartbeats 4000000 in
theorem wire_Machine_Draws.ok (k : Nat) (x0 : Twire_Machine) (r : Int) (hm : wire_Machine_Draws.m k x0 = some r) (κ : Ctx) (w : World) (S : List HP) (b_x0 : Nat) (g_x0 : Nat × Option Addr × Nat × Option Addr × Nat × Option Addr × Nat) (ho : Own κ w (bagL (Twire_Machine.parts b_x0 x0 g_x0) :: S)) :
  Calls Try.prog 76 #[pp b_x0] w (wire_Machine_Draws.R κ S x0 b_x0 g_x0 r) := by
 unfold wire_Machine_Draws.m at hm
 generalize hRR : wire_Machine_Draws.R κ S x0 b_x0 g_x0 r = RR
 refine qen [(0, pp b_x0)] Try.func76 Try.ntmps76 ho fun a hs => ?_
 refine qse 1 [(0, pp b_x0)] hs fun a hs => ?_
 refine Vk.seq fun K2 hK2 => ?_
 refine qsk 2 [0, 4] hs fun a hs => ?_
 refine qcf hs ?_
 refine wp_skip ?_
 refine hK2 _ _ ?_
 clear hK2
 refine qsr fun K4 hK4 => ?_
 refine qpu 3 hs fun a hs => ?_
 replace hs := hs.unbagAt 0 rfl
 refine qld 0 (ci x0.draws) hs rfl fun a hs => ?_
 refine qpe 1 [(2, vi x0.draws)] hs fun a hs => hK4 _ _ ?_
 clear hK4
 refine wp_ret ?_
 replace hs := hs.bagG (l := Twire_Machine.parts b_x0 x0 g_x0) (S' := S) hs.own
 exact qr1 (vi x0.draws) hs rfl hRR (by cases hm; exact ⟨rfl, hs.own⟩)


abbrev visorref21_Draws.R (κ : Ctx) (S : List HP) (x0 : Int) (r : Int) : Ending → World → Prop := fun e w' => e = .returned (vi r) ∧ Own κ w' (S)
def visorref21_Draws.m (k : Nat) (x0 : Int) : Option Int := (bif x0 == 2 then some 1 else (bif x0 == 3 then some 3 else some 0))

set_option maxRecDepth 100000 in
set_option maxHeartbeats 4000000 in
theorem visorref21_Draws.ok (k : Nat) (x0 : Int) (r : Int) (hm : visorref21_Draws.m k x0 = some r) (κ : Ctx) (w : World) (S : List HP) (ho : Own κ w (S)) :
  Calls Try.prog 44 #[vi x0] w (visorref21_Draws.R κ S x0 r) := by
 unfold visorref21_Draws.m at hm
 generalize hRR : visorref21_Draws.R κ S x0 r = RR
 refine qen [(0, vi x0)] Try.func44 Try.ntmps44 ho fun a hs => ?_
 refine qse 1 [(0, vi x0)] hs fun a hs => ?_
 refine Vk.seq fun K2 hK2 => ?_
 refine qsk 2 [0, 4] hs fun a hs => ?_
 refine qcs (x0 == 2) hs (fun hb => ?_) fun hb => ?_
 ·replace hm := bif_t hm hb
  refine qse 1 [(2, vi 1)] hs fun a hs => ?_
  refine wp_ret ?_
  exact qr1 (vi 1) hs rfl hRR (by cases hm; exact ⟨rfl, hs.own⟩)
 ·replace hm := bif_f hm hb
  refine wp_skip ?_
  refine hK2 _ _ ?_
  clear hK2
  refine Vk.seq fun K5 hK5 => ?_
  refine qse 2 [(6, .bool (x0 == 3))] hs fun a hs => ?_
  refine qcs (x0 == 3) hs (fun hb => ?_) fun hb => ?_
  ·replace hm := bif_t hm hb
   refine qse 1 [(2, vi 3)] hs fun a hs => ?_
   refine wp_ret ?_
   exact qr1 (vi 3) hs rfl hRR (by cases hm; exact ⟨rfl, hs.own⟩)
  ·replace hm := bif_f hm hb
   refine wp_skip ?_
   refine hK5 _ _ ?_
   clear hK5
   refine qse 1 [(2, vi 0)] hs fun a hs => ?_
   refine wp_ret ?_
   exact qr1 (vi 0) hs rfl hRR (by cases hm; exact ⟨rfl, hs.own⟩)


abbrev visorref22_Draws.R (κ : Ctx) (S : List HP) (x0 : Int) (r : Int) : Ending → World → Prop := fun e w' => e = .returned (vi r) ∧ Own κ w' (S)
def visorref22_Draws.m (k : Nat) (x0 : Int) : Option Int := (bif x0 == 2 then some 1 else (bif x0 == 3 then some 3 else some 0))

set_option maxRecDepth 100000 in
set_option maxHeartbeats 4000000 in
theorem visorref22_Draws.ok (k : Nat) (x0 : Int) (r : Int) (hm : visorref22_Draws.m k x0 = some r) (κ : Ctx) (w : World) (S : List HP) (ho : Own κ w (S)) :
  Calls Try.prog 52 #[vi x0] w (visorref22_Draws.R κ S x0 r) := by
 unfold visorref22_Draws.m at hm
 generalize hRR : visorref22_Draws.R κ S x0 r = RR
 refine qen [(0, vi x0)] Try.func52 Try.ntmps52 ho fun a hs => ?_
 refine qse 1 [(0, vi x0)] hs fun a hs => ?_
 refine Vk.seq fun K2 hK2 => ?_
 refine qsk 2 [0, 4] hs fun a hs => ?_
 refine qcs (x0 == 2) hs (fun hb => ?_) fun hb => ?_
 ·replace hm := bif_t hm hb
  refine qse 1 [(2, vi 1)] hs fun a hs => ?_
  refine wp_ret ?_
  exact qr1 (vi 1) hs rfl hRR (by cases hm; exact ⟨rfl, hs.own⟩)
 ·replace hm := bif_f hm hb
  refine wp_skip ?_
  refine hK2 _ _ ?_
  clear hK2
  refine Vk.seq fun K5 hK5 => ?_
  refine qse 2 [(6, .bool (x0 == 3))] hs fun a hs => ?_
  refine qcs (x0 == 3) hs (fun hb => ?_) fun hb => ?_
  ·replace hm := bif_t hm hb
   refine qse 1 [(2, vi 3)] hs fun a hs => ?_
   refine wp_ret ?_
   exact qr1 (vi 3) hs rfl hRR (by cases hm; exact ⟨rfl, hs.own⟩)
  ·replace hm := bif_f hm hb
   refine wp_skip ?_
   refine hK5 _ _ ?_
   clear hK5
   refine qse 1 [(2, vi 0)] hs fun a hs => ?_
   refine wp_ret ?_
   exact qr1 (vi 0) hs rfl hRR (by cases hm; exact ⟨rfl, hs.own⟩)


abbrev visorref23_Draws.R (κ : Ctx) (S : List HP) (x0 : Int) (r : Int) : Ending → World → Prop := fun e w' => e = .returned (vi r) ∧ Own κ w' (S)
def visorref23_Draws.m (k : Nat) (x0 : Int) : Option Int := (visorref21_Draws.m k x0).bind fun v_5 => (visorref22_Draws.m k x0).bind fun v_8 => some (IntKind.i64.wrap (v_5 + v_8))

set_option maxRecDepth 100000 in
set_option maxHeartbeats 4000000 in
theorem visorref23_Draws.ok (k : Nat) (x0 : Int) (r : Int) (hm : visorref23_Draws.m k x0 = some r) (κ : Ctx) (w : World) (S : List HP) (ho : Own κ w (S)) :
  Calls Try.prog 77 #[vi x0] w (visorref23_Draws.R κ S x0 r) := by
 unfold visorref23_Draws.m at hm
 generalize hRR : visorref23_Draws.R κ S x0 r = RR
 refine qen [(0, vi x0)] Try.func77 Try.ntmps77 ho fun a hs => ?_
 refine qse 1 [(0, vi x0)] hs fun a hs => ?_
 refine qsr fun K2 hK2 => ?_
 refine qpu 1 hs fun a hs => ?_
 obtain ⟨v_5, h_4, hm⟩ := bind_t hm
 refine qcl (visorref21_Draws.ok _ _ _ h_4 _ _ (S) hs.own) hs fun w a hs => ?_
 refine qpu 1 hs fun a hs => ?_
 obtain ⟨v_8, h_7, hm⟩ := bind_t hm
 refine qcl (visorref22_Draws.ok _ _ _ h_7 _ _ (S) hs.own) hs fun w a hs => ?_
 refine qpk 2 [2] hs fun a hs => hK2 _ _ ?_
 clear hK2
 refine wp_ret ?_
 exact qr1 (vi (IntKind.i64.wrap (v_5 + v_8))) hs rfl hRR (by cases hm; exact ⟨rfl, hs.own⟩)


abbrev both_Less.R (κ : Ctx) (S : List HP) (x0 : Twire_Machine) (x1 : Int) (x2 : Cells) (x3 : Cells) (b_x0 : Nat) (r : (Cells × Twire_Machine)) : Ending → World → Prop := fun e w' => e = .returned (.agg (vals r.1)) ∧ Own κ w' (Twire_Machine.own b_x0 r.2 :: S)
def both_Less.m (k : Nat) (x0 : Twire_Machine) (x1 : Int) (x2 : Cells) (x3 : Cells) : Option (Cells × Twire_Machine) := (if x2.length = 3 then (if x3.length = 3 then (share_Not.m k x0 x2).bind fun v_11 => (both_And.m k v_11.2 x1 v_11.1 x3).bind fun v_14 => (if v_14.1.length = 3 then some (v_14.1, v_14.2) else none) else none) else none)

set_option maxRecDepth 100000 in
set_option maxHeartbeats 4000000 in
theorem both_Less.ok (k : Nat) (x0 : Twire_Machine) (x1 : Int) (x2 : Cells) (x3 : Cells) (r : (Cells × Twire_Machine)) (hm : both_Less.m k x0 x1 x2 x3 = some r) (κ : Ctx) (w : World) (S : List HP) (b_x0 : Nat) (ho : Own κ w (Twire_Machine.own b_x0 x0 :: S)) :
  Calls Try.prog 142 #[pp b_x0, vi x1, .agg (vals x2), .agg (vals x3)] w (both_Less.R κ S x0 x1 x2 x3 b_x0 r) := by
 unfold both_Less.m at hm
 generalize hRR : both_Less.R κ S x0 x1 x2 x3 b_x0 r = RR
 refine qen [(0, pp b_x0), (1, vi x1), (2, .agg (vals x2)), (3, .agg (vals x3))] Try.func142 Try.ntmps142 ho fun a hs => ?_
 refine qsr fun K1 hK1 => ?_
 refine qbx 2 28 x2 6 hs fun b_2 w a hs => ?_
 refine qbx 3 28 x3 7 hs fun b_3 w a hs => ?_
 refine qal 28 [ci 0, ci 0, ci 0] 8 hs fun b_4 w a hs => ?_
 refine qpk 0 [0, 1, 6, 7, 8] hs fun a hs => hK1 _ _ ?_
 clear hK1
 refine Vk.seq fun K5 hK5 => ?_
 obtain ⟨C_6, hC_6⟩ := qC hs.own.f3.drop
 refine qdr 7 κ C_6 hs fun w hs hqC_6 => ?_
 have hcl := qO hC_6 hs.own.f3.drop
 refine qdp (fuel := 5) [0, 1, 2] hs hcl hqC_6 fun a hs => ?_
 obtain ⟨h_7, hm⟩ := ite_t hm
 refine qdw 3 2 hs hcl hqC_6 hC_6 rfl h_7 fun a hs => ?_
 obtain ⟨h_8, hm⟩ := ite_t hm
 refine qdw 5 1 hs hcl hqC_6 hC_6 rfl h_8 fun a hs => ?_
 obtain ⟨v_11, h_10, hm⟩ := bind_t hm
 refine qdc 4 (share_Not.ok _ _ _ _ h_10 _ _ _ b_x0 hs.own.f3) hs fun w a hs => ?_
 replace hcl := qO hC_6 hs.own.drop
 refine ⟨fun _ => hcl, ?_⟩
 obtain ⟨v_14, h_13, hm⟩ := bind_t hm
 refine qdc 6 (both_And.ok _ _ _ _ _ _ h_13 _ _ _ b_x0 hs.own) hs fun w a hs => ?_
 replace hcl := qO hC_6 hs.own.drop
 refine ⟨fun _ => hcl, ?_⟩
 obtain ⟨h_15, hm⟩ := ite_t hm
 refine qsA 7 1 v_14.1 hs rfl h_15 rfl fun a w hs => ?_
 refine ⟨fun h => absurd h (by decide), ?_⟩
 replace hs := hs.pick [8] (L' := [(8, pp b_4)]) (by kernel_rfl)
 refine Vk.dDone (by kernel_rfl) ?_
 refine hK5 _ _ ?_
 clear hK5
 refine wp_ret ?_
 exact Vk.retC v_14.1 hs rfl (by kernel_rfl) (sz := 3) (by kernel_rfl) h_15 (CellsAt.all 1 rfl) (hRR ▸ by cases hm; exact ⟨rfl, (hs.own.too [0] 4)⟩)


def both_Any.l1 (x1 : Int) (x2 : List Cells) : Nat → Twire_Machine → Cells → Int → Option (Cells × Twire_Machine)
 | 0, _, _, _ => none
 | k + 1, q_29, q_30, q_31 => (bif decide (q_31 < (((cut x2 (1) (x2.length)).length : Nat) : Int)) then (if 0 ≤ q_31 then ((cut x2 (1) (x2.length))[q_31.toNat]?).bind fun e_39 => (if e_39.length = 3 then (if q_30.length = 3 then (both_Or.m k q_29 x1 q_30 e_39).bind fun v_48 => (if v_48.1.length = 3 then both_Any.l1 x1 x2 k v_48.2 v_48.1 (IntKind.i64.wrap (q_31 + 1)) else none) else none) else none) else none) else some (q_30, q_29))
abbrev both_Any.R (κ : Ctx) (S : List HP) (x0 : Twire_Machine) (x1 : Int) (x2 : List Cells) (b_x0 : Nat) (A_x2 : Option Addr) (c_x2 : Nat) (r : (Cells × Twire_Machine)) : Ending → World → Prop := fun e w' => e = .returned (.agg (vals r.1)) ∧ Own κ w' (Twire_Machine.own b_x0 r.2 :: S)
def both_Any.m (k : Nat) (x0 : Twire_Machine) (x1 : Int) (x2 : List Cells) : Option (Cells × Twire_Machine) := (bif ((x2.length : Nat) : Int) == 0 then (share_Public.m k x0 0).bind fun v_8 => (if v_8.1.length = 3 then some (v_8.1, v_8.2) else none) else (if 0 ≤ (0 : Int) then (x2[0]?).bind fun e_14 => (if e_14.length = 3 then (if ((0 : Int) ≤ 1) ∧ 1 ≤ x2.length ∧ x2.length ≤ x2.length then (both_Any.l1 x1 x2 k x0 e_14 0).bind fun x => match x with | (p_50, p_51) => (if p_50.length = 3 then some (p_50, p_51) else none) else none) else none) else none))

set_option maxRecDepth 100000 in
set_option maxHeartbeats 4000000 in
theorem both_Any.ok (k : Nat) (x0 : Twire_Machine) (x1 : Int) (x2 : List Cells) (r : (Cells × Twire_Machine)) (hm : both_Any.m k x0 x1 x2 = some r) (κ : Ctx) (w : World) (S : List HP) (b_x0 : Nat) (A_x2 : Option Addr) (c_x2 : Nat) (hx_x2 : Sl κ S A_x2 c_x2 3 eC x2) (ho : Own κ w (Twire_Machine.own b_x0 x0 :: S)) :
  Calls Try.prog 143 #[pp b_x0, vi x1, .slice A_x2 x2.length c_x2] w (both_Any.R κ S x0 x1 x2 b_x0 A_x2 c_x2 r) := by
 unfold both_Any.m at hm
 generalize hRR : both_Any.R κ S x0 x1 x2 b_x0 A_x2 c_x2 r = RR
 refine qen [(0, pp b_x0), (1, vi x1), (2, .slice A_x2 x2.length c_x2)] Try.func143 Try.ntmps143 ho fun a hs => ?_
 refine qsr fun K1 hK1 => ?_
 refine qal 28 [ci 0, ci 0, ci 0] 6 hs fun b_2 w a hs => ?_
 refine qpk 0 [0, 1, 2, 6] hs fun a hs => hK1 _ _ ?_
 clear hK1
 refine Vk.seq fun K3 hK3 => ?_
 refine qsk 3 [0, 1, 2, 6, 12] hs fun a hs => ?_
 refine qcs (((x2.length : Nat) : Int) == 0) hs (fun hb => ?_) fun hb => ?_
 ·replace hm := bif_t hm hb
  refine qsr fun K5 hK5 => ?_
  refine qpu 1 hs fun a hs => ?_
  obtain ⟨v_8, h_7, hm⟩ := bind_t hm
  refine qcl (share_Public.ok _ _ _ _ h_7 _ _ _ b_x0 hs.own.f1) hs fun w a hs => ?_
  obtain ⟨h_9, hm⟩ := ite_t hm
  refine qsb 1 v_8.1 hs rfl h_9 rfl fun a w hs => ?_
  refine qpe 0 [(6, pp b_2)] hs fun a hs => hK5 _ _ ?_
  clear hK5
  refine wp_ret ?_
  exact Vk.retC v_8.1 hs rfl (by kernel_rfl) (sz := 3) (by kernel_rfl) h_9 (CellsAt.all 1 rfl) (hRR ▸ by cases hm; exact ⟨rfl, hs.own.f1.drop⟩)
 ·replace hm := bif_f hm hb
  refine wp_skip ?_
  refine hK3 _ _ ?_
  clear hK3
  refine qsr fun K10 hK10 => ?_
  refine qpu 1 hs fun a hs => ?_
  obtain ⟨h_11, hm⟩ := ite_t hm
  obtain ⟨e_14, h_12, hm⟩ := bind_t hm
  obtain ⟨b_15, o_16, hA_17, h_13⟩ := Sl.elem hx_x2 h_12
  refine qva (.pointer (some ⟨b_15, o_16 + 0 * 3, none⟩)) (op := (.indexAddr 43 (.tmp 15) (.const (vi 0)))) hs (fun o ho => run_idxSlc (k := .i64) ho (cap := c_x2) (len := x2.length) ((congrArg (fun A => Value.slice A (x2.length) (c_x2)) hA_17) ▸ (by kernel_rfl)) (by kernel_rfl) (by kernel_rfl) (idx_ok h_11 h_12) _) fun a hs => ?_
  obtain ⟨h_18, hm⟩ := ite_t hm
  refine qva (.agg (vals e_14)) (op := (.load 28 (.tmp 16))) hs (fun o ho => run_loadN (cs := e_14) ho (by kernel_rfl) (by kernel_rfl) h_18 h_13 _ hs.own.drop.drop) fun a hs => ?_
  refine qal 28 [ci 0, ci 0, ci 0] 7 hs fun b_19 w a hs => ?_
  refine qsb 0 e_14 hs rfl h_18 rfl fun a w hs => ?_
  refine qpk 0 [0, 1, 2, 6, 7] hs fun a hs => hK10 _ _ ?_
  clear hK10
  refine Vk.seq fun K20 hK20 => ?_
  refine qsr fun K21 hK21 => ?_
  refine qpu 1 hs fun a hs => ?_
  obtain ⟨h_22, hm⟩ := ite_t hm
  obtain ⟨A_23, c_24, eA_25, ec_26, hx_27⟩ := Sl.sub hx_x2 h_22.2
  refine qva (.slice A_23 ((cut x2 (1) (x2.length)).length) c_24) (op := (.slice 43 (.tmp 18) (some (.const (vi 1))) none none)) hs (fun o ho => run_sub (sz := 3) (e := 28) h_22.2 eA_25 ec_26 (Sl.le hx_x2) ho (by kernel_rfl) (by kernel_rfl) (by kernel_rfl) ⟨.i64, 1, by kernel_rfl, h_22.1, rfl⟩ rfl _) fun a hs => ?_
  refine qpk 2 [0, 1, 6, 7, 19, 20, 21] hs fun a hs => hK21 _ _ ?_
  clear hK21
  refine wp_block ?_
  obtain ⟨r28, hl28, hm⟩ := bind_t hm
  have hx28 : ∀ (p_50 : Cells) (p_51 : Twire_Machine), r28 = (p_50, p_51) → ∀ (a : Act) (w : World), St 32 a w κ [(6, pp b_2), (7, pp b_19)] (pt b_2 (blk [ci 0, ci 0, ci 0] 28) :: pt b_19 (blk p_50 28) :: Twire_Machine.own b_x0 p_51 :: S) → K20 a w := by
   intro p_50 p_51 he a w hs
   subst r28
   refine hK20 _ _ ?_
   clear hK20
   refine qsr fun K55 hK55 => ?_
   obtain ⟨h_56, hm⟩ := ite_t hm
   refine qlw 1 hs rfl h_56 fun a hs => ?_
   refine qsb 0 p_50 hs rfl h_56 rfl fun a w hs => ?_
   refine qpe 0 [(6, pp b_2)] hs fun a hs => hK55 _ _ ?_
   clear hK55
   refine wp_ret ?_
   exact Vk.retC p_50 hs rfl (by kernel_rfl) (sz := 3) (by kernel_rfl) h_56 (CellsAt.all 0 rfl) (hRR ▸ by cases hm; exact ⟨rfl, hs.own.f1.drop.drop⟩)
  refine Vk.loopBy (fun k (s : Twire_Machine × Cells × Int) a w => both_Any.l1 x1 x2 k s.1 s.2.1 s.2.2 = some r28 ∧ St 32 a w κ [(0, pp b_x0), (1, vi x1), (6, pp b_2), (7, pp b_19), (19, .slice A_23 ((cut x2 (1) (x2.length)).length) c_24), (20, vi (((cut x2 (1) (x2.length)).length : Nat) : Int)), (21, vi s.2.2)] (Twire_Machine.own b_x0 s.1 :: pt b_2 (blk [ci 0, ci 0, ci 0] 28) :: pt b_19 (blk s.2.1 28) :: S)) k (x0, e_14, 0) ⟨hl28, hs.go [0, 1, 6, 7, 19, 20, 21] [2, 1, 0] 3 (by kernel_rfl) (by kernel_rfl) (by kernel_rfl)⟩ (fun s a w h => by obtain ⟨h1, _⟩ := h; simp [both_Any.l1] at h1) (fun k KL28 ih s a w h => ?_)
  obtain ⟨q_29, q_30, q_31⟩ := s
  obtain ⟨hm, hs⟩ := h
  try dsimp only at hm hs
  rw [both_Any.l1] at hm
  refine qsk 1 [0, 1, 6, 7, 19, 20, 21, 22] hs fun a hs => ?_
  refine Vk.seq fun K33 hK33 => ?_
  refine qcs (decide (q_31 < (((cut x2 (1) (x2.length)).length : Nat) : Int))) hs (fun hb => ?_) fun hb => ?_
  ·replace hm := bif_t hm hb
   refine wp_skip ?_
   refine hK33 _ _ ?_
   clear hK33
   refine Vk.seq fun K34 hK34 => ?_
   refine wp_block ?_
   refine qsr fun K35 hK35 => ?_
   obtain ⟨h_36, hm⟩ := ite_t hm
   obtain ⟨e_39, h_37, hm⟩ := bind_t hm
   obtain ⟨b_40, o_41, hA_42, h_38⟩ := Sl.elem hx_27 h_37
   refine qva (.pointer (some ⟨b_40, o_41 + q_31.toNat * 3, none⟩)) (op := (.indexAddr 43 (.tmp 19) (.tmp 21))) hs (fun o ho => run_idxSlc (k := .i64) ho (cap := c_24) (len := (cut x2 (1) (x2.length)).length) ((congrArg (fun A => Value.slice A ((cut x2 (1) (x2.length)).length) (c_24)) hA_42) ▸ (by kernel_rfl)) (by kernel_rfl) (by kernel_rfl) (idx_ok h_36 h_37) _) fun a hs => ?_
   obtain ⟨h_43, hm⟩ := ite_t hm
   refine qva (.agg (vals e_39)) (op := (.load 28 (.tmp 23))) hs (fun o ho => run_loadN (cs := e_39) ho (by kernel_rfl) (by kernel_rfl) h_43 h_38 _ hs.own.drop.drop.drop) fun a hs => ?_
   refine qal 28 [ci 0, ci 0, ci 0] 9 hs fun b_44 w a hs => ?_
   refine qsb 0 e_39 hs rfl h_43 rfl fun a w hs => ?_
   refine qpk 0 [0, 1, 6, 7, 9, 19, 20, 21] hs fun a hs => hK35 _ _ ?_
   clear hK35
   refine Vk.region ?_
   refine qpu 2 hs fun a hs => ?_
   obtain ⟨h_45, hm⟩ := ite_t hm
   refine qlw 3 hs rfl h_45 fun a hs => ?_
   refine qlw 0 hs rfl h_43 fun a hs => ?_
   obtain ⟨v_48, h_47, hm⟩ := bind_t hm
   refine qcl (both_Or.ok _ _ _ _ _ _ h_47 _ _ _ b_x0 hs.own.f1) hs fun w a hs => ?_
   obtain ⟨h_49, hm⟩ := ite_t hm
   refine qsb 3 v_48.1 hs rfl h_49 h_45 fun a w hs => ?_
   refine qpk 0 [0, 1, 6, 7, 19, 20, 21] hs fun a hs => hK34 _ _ ?_
   clear hK34
   refine Vk.region ?_
   refine qpk 2 [0, 1, 6, 7, 19, 20, 21] hs fun a hs => ?_
   refine ih (v_48.2, v_48.1, (IntKind.i64.wrap (q_31 + 1))) _ _ ⟨hm, hs.go [0, 1, 6, 7, 19, 20, 21] [0, 2, 3] 4 (by kernel_rfl) (by kernel_rfl) (by kernel_rfl)⟩
  ·replace hm := bif_f hm hb
   refine wp_exit ?_
   exact hx28 q_30 q_29 (Option.some.inj hm).symm _ _ (hs.go [6, 7] [1, 2, 0] 3 (by kernel_rfl) (by kernel_rfl) (by kernel_rfl))

structure Tvisorlaw20_Pair where
 m : Twire_Machine
 x : Tvisorref19_M
 l : List Cells
 v : List Int
 deriving Inhabited
def Tvisorlaw20_Pair.obj (x : Tvisorlaw20_Pair) (bm : Nat) (bx : Nat) (Al : Option Addr) (cl : Nat) (Av : Option Addr) (cv : Nat) : Cells := [C.ptr (some ⟨bm, 0, none⟩), C.ptr (some ⟨bx, 0, none⟩), C.slc Al x.l.length cl, C.slc Av x.v.length cv]

def visorlaw23_awake.j2 (k : Nat) (p_69 : Bool) : Option (Bool) := some p_69
def visorlaw23_awake.j1 (k : Nat) (p_42 : Twire_Machine) (p_44 : Cells) : Option (Bool) := (both_Any.m k p_42 1 []).bind fun v_48 => (if v_48.1.length = 3 then (wire_Machine_Values.m k v_48.2).bind fun v_55 => (if p_44.length = 3 then (share_Value.m k v_55 p_44).bind fun v_62 => (bif v_62 == 1 then (share_Value.m k v_55 v_48.1).bind fun v_65 => (bif v_65 == 0 then (wire_Machine_Err.m k v_48.2).bind fun v_68 => visorlaw23_awake.j2 k (v_68 == 0) else visorlaw23_awake.j2 k false) else visorlaw23_awake.j2 k false) else none) else none)
abbrev visorlaw23_awake.R (κ : Ctx) (S : List HP) (r : Bool) : Ending → World → Prop := fun e w' => e = .returned (.bool r) ∧ Own κ w' (S)
def visorlaw23_awake.m (k : Nat) : Option Bool := ((visorlaw20_Begins.m k 2 ([1, 2] : List Int) 99).bind fun v => match v with | (.inl v_8) => some false | (.inr v_15) => (bif !v_15.2.2.2.2 then some false else (share_Public.m k v_15.1 6).bind fun v_33 => (share_Public.m k v_33.2 3).bind fun v_36 => (both_Less.m k v_36.2 1 v_33.1 v_36.1).bind fun v_39 => (if v_39.1.length = 3 then visorlaw23_awake.j1 k v_39.2 v_39.1 else none)))

set_option maxRecDepth 100000 in
set_option maxHeartbeats 4000000 in
theorem visorlaw23_awake.ok (k : Nat) (r : Bool) (hm : visorlaw23_awake.m k = some r) (κ : Ctx) (w : World) (S : List HP) (ho : Own κ w (S)) :
  Calls Try.prog 78 #[] w (visorlaw23_awake.R κ S r) := by
 unfold visorlaw23_awake.m at hm
 generalize hRR : visorlaw23_awake.R κ S r = RR
 refine qen [] Try.func78 Try.ntmps78 ho fun a hs => ?_
 refine qse 1 [] hs fun a hs => ?_
 refine qsr fun K2 hK2 => ?_
 refine Vk.step (Vk.buildOp (sz := 1) (by_ := 8) (t := 25) (e := 32) (parts := #[(0, (.const (vw 1))), (1, (.const (vw 2)))]) (zs := vals [cw 0]) ([1, 2] : List Int) (eI .u64) (some 7) hs (by kernel_rfl) (by kernel_rfl) (by kernel_rfl) (by kernel_rfl) (by decide) rfl (fun x _ => rfl) (Nat.le_of_ble_eq_true (by kernel_rfl)) (by kernel_rfl) fun A_3 w a hs => ?_)
 replace hs := hs.toRd 0 rfl
 obtain ⟨v_7, h_6, hm⟩ := bind_t hm
 refine Vk.step (Vk.call (some 8) 18 #[vi 2, .slice A_3 (([1, 2] : List Int).length) 2, vi 99] hs (by kernel_rfl) (by kernel_rfl) (by kernel_rfl) ?_)
 refine (visorlaw20_Begins.ok k 2 ([1, 2] : List Int) 99 v_7 h_6 κ w (S) A_3 2 hs.own).mono ?_
 rintro _ w (⟨v_8, rfl, br5x0x_9, Ar5x0l_10, cr5x0l_11, Ar5x0v_12, cr5x0v_13, rfl, how⟩ | ⟨v_15, rfl, br5x0m_16, br5x0x_17, Ar5x0l_18, cr5x0l_19, Ar5x0v_20, cr5x0v_21, rfl, how⟩)
 ·dsimp only at hm
  refine ⟨_, _, _, rfl, how, fun a hs => ?_⟩
  refine qpu 3 hs fun a hs => ?_
  refine qal 45 [C.ptr none, C.ptr none, C.slc none 0 0, C.slc none 0 0] 1 hs fun b_14 w a hs => ?_
  refine qsa 0 [C.ptr none, cp br5x0x_9, C.slc Ar5x0l_10 v_8.2.1.length cr5x0l_11, C.slc Ar5x0v_12 v_8.2.2.length cr5x0v_13] hs rfl fun a w hs => ?_
  refine qpk 1 [1, 2] hs fun a hs => hK2 _ _ ?_
  refine Vk.seq fun K23 hK23 => ?_
  refine qsk 2 [1, 12] hs fun a hs => ?_
  refine qct hs ?_
  refine qse 1 [(0, .bool false)] hs fun a hs => ?_
  refine wp_ret ?_
  exact qr1 (.bool false) hs rfl hRR (by cases hm; exact ⟨rfl, (hs.own.too [] 4)⟩)
 ·dsimp only at hm
  refine ⟨_, _, _, rfl, how, fun a hs => ?_⟩
  refine qpu 3 hs fun a hs => ?_
  refine qal 45 [C.ptr none, C.ptr none, C.slc none 0 0, C.slc none 0 0] 1 hs fun b_22 w a hs => ?_
  refine qsa 0 [cp br5x0m_16, cp br5x0x_17, C.slc Ar5x0l_18 v_15.2.2.1.length cr5x0l_19, C.slc Ar5x0v_20 v_15.2.2.2.1.length cr5x0v_21] hs rfl fun a w hs => ?_
  refine qpk 1 [1, 2] hs fun a hs => hK2 _ _ ?_
  refine Vk.seq fun K26 hK26 => ?_
  refine qsk 2 [1, 12] hs fun a hs => ?_
  refine qcs (!v_15.2.2.2.2) hs (fun hb => ?_) fun hb => ?_
  ·replace hm := bif_t hm hb
   refine qse 1 [(0, .bool false)] hs fun a hs => ?_
   refine wp_ret ?_
   exact qr1 (.bool false) hs rfl hRR (by cases hm; exact ⟨rfl, (hs.own.too [] 5)⟩)
  ·replace hm := bif_f hm hb
   refine wp_skip ?_
   refine hK26 _ _ ?_
   clear hK26
   refine Vk.seq fun K29 hK29 => ?_
   have hj29 : ∀ (p_42 : Twire_Machine) (p_44 : Cells), visorlaw23_awake.j1 k p_42 p_44 = some r → ∀ (b_43 : Nat) (a : Act) (w : World), St 44 a w κ [(1, pp b_22), (3, pp b_43)] (pt b_22 (blk [cp br5x0m_16, cp br5x0x_17, C.slc Ar5x0l_18 v_15.2.2.1.length cr5x0l_19, C.slc Ar5x0v_20 v_15.2.2.2.1.length cr5x0v_21] 45) :: Twire_Machine.own br5x0m_16 p_42 :: Tvisorref19_M.own κ br5x0x_17 v_15.2.1 :: rowp Ar5x0l_18 cr5x0l_19 28 3 eC v_15.2.2.1 :: rowp Ar5x0v_20 cr5x0v_21 32 1 (eI .u64) v_15.2.2.2.1 :: pt b_43 (blk p_44 28) :: S) → K29 a w := by
    intro p_42 p_44 hm b_43 a w hs
    unfold visorlaw23_awake.j1 at hm
    refine hK29 _ _ ?_
    refine qsr fun K45 hK45 => ?_
    refine qpu 1 hs fun a hs => ?_
    refine qld 0 (cp br5x0m_16) hs rfl fun a hs => ?_
    obtain ⟨v_48, h_47, hm⟩ := bind_t hm
    refine qcl (both_Any.ok _ _ _ _ _ h_47 _ _ _ br5x0m_16 none 0 Sl.nil hs.own.f1) hs fun w a hs => ?_
    refine qal 28 [ci 0, ci 0, ci 0] 4 hs fun b_49 w a hs => ?_
    obtain ⟨h_50, hm⟩ := ite_t hm
    refine qsb 0 v_48.1 hs rfl h_50 rfl fun a w hs => ?_
    refine qpe 0 [(1, pp b_22), (3, pp b_43), (4, pp b_49)] hs fun a hs => hK45 _ _ ?_
    clear hK45
    refine qsr fun K51 hK51 => ?_
    refine qpu 1 hs fun a hs => ?_
    refine qld 2 (cp br5x0m_16) hs rfl fun a hs => ?_
    obtain ⟨g_52, hs⟩ := hs.unex 1 rfl
    obtain ⟨v_55, h_54, hm⟩ := bind_t hm
    refine Vk.step (Vk.call (some 27) 22 #[pp br5x0m_16] hs (by kernel_rfl) (by kernel_rfl) (by kernel_rfl) ?_)
    refine (wire_Machine_Values.ok k v_48.2 v_55 h_54 κ w (pt b_49 (blk v_48.1 28) :: pt b_22 (blk [cp br5x0m_16, cp br5x0x_17, C.slc Ar5x0l_18 v_15.2.2.1.length cr5x0l_19, C.slc Ar5x0v_20 v_15.2.2.2.1.length cr5x0v_21] 45) :: Tvisorref19_M.own κ br5x0x_17 v_15.2.1 :: rowp Ar5x0l_18 cr5x0l_19 28 3 eC v_15.2.2.1 :: rowp Ar5x0v_20 cr5x0v_21 32 1 (eI .u64) v_15.2.2.2.1 :: pt b_43 (blk p_44 28) :: S) br5x0m_16 g_52 hs.own.f1).mono ?_
    rintro _ w ⟨Ar53x0_56, cr53x0_57, rfl, how⟩
    refine ⟨_, _, _, rfl, how, fun a hs => ?_⟩
    refine qpk 1 [1, 3, 4, 5] hs fun a hs => hK51 _ _ ?_
    clear hK51
    refine Vk.seq fun K58 hK58 => ?_
    have hj58 : ∀ (p_69 : Bool), visorlaw23_awake.j2 k p_69 = some r → ∀ (a : Act) (w : World), St 44 a w κ [(0, .bool p_69)] (S) → K58 a w := by
     intro p_69 hm a w hs
     unfold visorlaw23_awake.j2 at hm
     refine hK58 _ _ ?_
     refine wp_ret ?_
     exact qr1 (.bool p_69) hs rfl hRR (by cases hm; exact ⟨rfl, hs.own⟩)
    refine Vk.region ?_
    refine qpu 1 hs fun a hs => ?_
    obtain ⟨h_59, hm⟩ := ite_t hm
    refine qlw 7 hs rfl h_59 fun a hs => ?_
    obtain ⟨v_62, h_61, hm⟩ := bind_t hm
    refine qcl (share_Value.ok _ _ _ _ h_61 _ _ (rowp Ar53x0_56 cr53x0_57 32 1 (eI .u64) v_55 :: bagL (Twire_Machine.parts br5x0m_16 v_48.2 g_52) :: pt b_49 (blk v_48.1 28) :: pt b_22 (blk [cp br5x0m_16, cp br5x0x_17, C.slc Ar5x0l_18 v_15.2.2.1.length cr5x0l_19, C.slc Ar5x0v_20 v_15.2.2.2.1.length cr5x0v_21] 45) :: Tvisorref19_M.own κ br5x0x_17 v_15.2.1 :: rowp Ar5x0l_18 cr5x0l_19 28 3 eC v_15.2.2.1 :: rowp Ar5x0v_20 cr5x0v_21 32 1 (eI .u64) v_15.2.2.2.1 :: pt b_43 (blk p_44 28) :: S) Ar53x0_56 cr53x0_57 (Sl.lift (fun w ho => (Own.to (S' := rowp Ar53x0_56 cr53x0_57 32 1 (eI .u64) v_55 :: S) ho [0] 8 (by kernel_rfl) (by kernel_rfl))) (Own.rowSl 0 (Own.to (S' := rowp Ar53x0_56 cr53x0_57 32 1 (eI .u64) v_55 :: S) hs.own [0] 8 (by kernel_rfl) (by kernel_rfl)) rfl)) hs.own) hs fun w a hs => ?_
    refine qpu 2 hs fun a hs => ?_
    rcases Bool.eq_false_or_eq_true (v_62 == 1) with hb | hb
    ·replace hm := bif_t hm hb
     replace hs := hs.known (t := 32) hb (by kernel_rfl)
     refine qpu 1 hs fun a hs => ?_
     refine qlw 2 hs rfl h_50 fun a hs => ?_
     obtain ⟨v_65, h_64, hm⟩ := bind_t hm
     refine qcl (share_Value.ok _ _ _ _ h_64 _ _ (rowp Ar53x0_56 cr53x0_57 32 1 (eI .u64) v_55 :: bagL (Twire_Machine.parts br5x0m_16 v_48.2 g_52) :: pt b_49 (blk v_48.1 28) :: pt b_22 (blk [cp br5x0m_16, cp br5x0x_17, C.slc Ar5x0l_18 v_15.2.2.1.length cr5x0l_19, C.slc Ar5x0v_20 v_15.2.2.2.1.length cr5x0v_21] 45) :: Tvisorref19_M.own κ br5x0x_17 v_15.2.1 :: rowp Ar5x0l_18 cr5x0l_19 28 3 eC v_15.2.2.1 :: rowp Ar5x0v_20 cr5x0v_21 32 1 (eI .u64) v_15.2.2.2.1 :: pt b_43 (blk p_44 28) :: S) Ar53x0_56 cr53x0_57 (Sl.lift (fun w ho => (Own.to (S' := rowp Ar53x0_56 cr53x0_57 32 1 (eI .u64) v_55 :: S) ho [0] 8 (by kernel_rfl) (by kernel_rfl))) (Own.rowSl 0 (Own.to (S' := rowp Ar53x0_56 cr53x0_57 32 1 (eI .u64) v_55 :: S) hs.own [0] 8 (by kernel_rfl) (by kernel_rfl)) rfl)) hs.own) hs fun w a hs => ?_
     refine qpu 3 hs fun a hs => ?_
     rcases Bool.eq_false_or_eq_true (v_65 == 0) with hb | hb
     ·replace hm := bif_t hm hb
      replace hs := hs.known (t := 38) hb (by kernel_rfl)
      refine qpu 1 hs fun a hs => ?_
      refine qld 3 (cp br5x0m_16) hs rfl fun a hs => ?_
      obtain ⟨v_68, h_67, hm⟩ := bind_t hm
      refine qcl (wire_Machine_Err.ok _ _ _ h_67 _ _ _ br5x0m_16 g_52 hs.own.f1) hs fun w a hs => ?_
      refine qpe 3 [(0, .bool (v_68 == 0))] hs fun a hs => ?_
      replace hs := hs.toEx (Twire_Machine.parts br5x0m_16 v_48.2) g_52 0 rfl
      exact hj58 (v_68 == 0) hm _ _ (hs.go [0] [] 8 (by kernel_rfl) (by kernel_rfl) (by kernel_rfl))
     ·replace hm := bif_f hm hb
      replace hs := hs.known (t := 38) hb (by kernel_rfl)
      refine qpe 6 [(0, .bool false)] hs fun a hs => ?_
      replace hs := hs.toEx (Twire_Machine.parts br5x0m_16 v_48.2) g_52 1 rfl
      exact hj58 false hm _ _ (hs.go [0] [] 8 (by kernel_rfl) (by kernel_rfl) (by kernel_rfl))
    ·replace hm := bif_f hm hb
     replace hs := hs.known (t := 32) hb (by kernel_rfl)
     refine qpe 12 [(0, .bool false)] hs fun a hs => ?_
     replace hs := hs.toEx (Twire_Machine.parts br5x0m_16 v_48.2) g_52 1 rfl
     exact hj58 false hm _ _ (hs.go [0] [] 8 (by kernel_rfl) (by kernel_rfl) (by kernel_rfl))
   obtain ⟨C_30, hC_30⟩ := qC hs.own.f1.drop
   refine qdr 10 κ C_30 hs fun w hs hqC_30 => ?_
   have hcl := qO hC_30 hs.own.f1.drop
   refine qdp (fuel := 8) [0, 2, 5] hs hcl hqC_30 fun a hs => ?_
   refine qdl 1 0 (cp br5x0m_16) hs hcl hqC_30 hC_30 rfl fun a hs => ?_
   refine qdl 3 0 (cp br5x0m_16) hs hcl hqC_30 hC_30 rfl fun a hs => ?_
   refine qdl 6 0 (cp br5x0m_16) hs hcl hqC_30 hC_30 rfl fun a hs => ?_
   refine Vk.dMany2 (i0 := 4) (i1 := 9) (by kernel_rfl) ?_ ?_
   ·obtain ⟨v_33, h_32, hm⟩ := bind_t hm
    refine qco (share_Public.ok _ _ _ _ h_32 _ _ _ br5x0m_16 hs.own.f1) hs fun w a hs => ?_
    replace hcl := qO hC_30 hs.own.drop
    refine ⟨fun _ => hcl, ?_⟩
    refine Vk.dMany2 (i0 := 7) (i1 := 9) (by kernel_rfl) ?_ ?_
    ·obtain ⟨v_36, h_35, hm⟩ := bind_t hm
     refine qco (share_Public.ok _ _ _ _ h_35 _ _ _ br5x0m_16 hs.own) hs fun w a hs => ?_
     replace hcl := qO hC_30 hs.own.drop
     refine ⟨fun _ => hcl, ?_⟩
     refine Vk.dMany2 (i0 := 8) (i1 := 9) (by kernel_rfl) ?_ ?_
     ·obtain ⟨v_39, h_38, hm⟩ := bind_t hm
      refine qco (both_Less.ok _ _ _ _ _ _ h_38 _ _ _ br5x0m_16 hs.own) hs fun w a hs => ?_
      replace hcl := qO hC_30 hs.own.drop
      refine ⟨fun _ => hcl, ?_⟩
      refine Vk.dOnly (i := 9) (by kernel_rfl) (Vk.alloc 3 28 [ci 0, ci 0, ci 0] hs (by kernel_rfl) (by kernel_rfl) (by kernel_rfl) fun b_40 w a hs => ?_)
      replace hcl := qO hC_30 hs.own.f1.drop.drop
      refine ⟨fun _ => hcl, ?_⟩
      obtain ⟨h_41, hm⟩ := ite_t hm
      refine qsA 10 0 v_39.1 hs rfl h_41 rfl fun a w hs => ?_
      refine ⟨fun h => absurd h (by decide), ?_⟩
      replace hs := hs.pick [1, 3] (L' := [(1, pp b_22), (3, pp b_40)]) (by kernel_rfl)
      refine Vk.dDone (by kernel_rfl) ?_
      exact hj29 v_39.2 v_39.1 hm b_40 _ _ (hs.go [1, 3] [2, 1, 3, 4, 5, 0] 6 (by kernel_rfl) (by kernel_rfl) (by kernel_rfl))
     ·refine Vk.alloc 3 28 [ci 0, ci 0, ci 0] hs (by kernel_rfl) (by kernel_rfl) (by kernel_rfl) fun b_37 w a hs => ?_
      replace hcl := qO hC_30 hs.own.f1.drop.drop
      refine ⟨fun _ => hcl, ?_⟩
      obtain ⟨v_40, h_39, hm⟩ := bind_t hm
      refine qdc 8 (both_Less.ok _ _ _ _ _ _ h_39 _ _ _ br5x0m_16 hs.own.f1) hs fun w a hs => ?_
      replace hcl := qO hC_30 hs.own.f1.drop.drop
      refine ⟨fun _ => hcl, ?_⟩
      obtain ⟨h_41, hm⟩ := ite_t hm
      refine qsA 10 1 v_40.1 hs rfl h_41 rfl fun a w hs => ?_
      refine ⟨fun h => absurd h (by decide), ?_⟩
      replace hs := hs.pick [1, 3] (L' := [(1, pp b_22), (3, pp b_37)]) (by kernel_rfl)
      refine Vk.dDone (by kernel_rfl) ?_
      exact hj29 v_40.2 v_40.1 hm b_37 _ _ (hs.go [1, 3] [2, 0, 3, 4, 5, 1] 6 (by kernel_rfl) (by kernel_rfl) (by kernel_rfl))
    ·refine Vk.alloc 3 28 [ci 0, ci 0, ci 0] hs (by kernel_rfl) (by kernel_rfl) (by kernel_rfl) fun b_34 w a hs => ?_
     replace hcl := qO hC_30 hs.own.f1.drop.drop
     refine ⟨fun _ => hcl, ?_⟩
     obtain ⟨v_37, h_36, hm⟩ := bind_t hm
     refine qdc 7 (share_Public.ok _ _ _ _ h_36 _ _ _ br5x0m_16 hs.own.f1) hs fun w a hs => ?_
     replace hcl := qO hC_30 hs.own.f1.drop.drop
     refine ⟨fun _ => hcl, ?_⟩
     obtain ⟨v_40, h_39, hm⟩ := bind_t hm
     refine qdc 8 (both_Less.ok _ _ _ _ _ _ h_39 _ _ _ br5x0m_16 hs.own) hs fun w a hs => ?_
     replace hcl := qO hC_30 hs.own.f1.drop.drop
     refine ⟨fun _ => hcl, ?_⟩
     obtain ⟨h_41, hm⟩ := ite_t hm
     refine qsA 10 1 v_40.1 hs rfl h_41 rfl fun a w hs => ?_
     refine ⟨fun h => absurd h (by decide), ?_⟩
     replace hs := hs.pick [1, 3] (L' := [(1, pp b_22), (3, pp b_34)]) (by kernel_rfl)
     refine Vk.dDone (by kernel_rfl) ?_
     exact hj29 v_40.2 v_40.1 hm b_34 _ _ (hs.go [1, 3] [2, 0, 3, 4, 5, 1] 6 (by kernel_rfl) (by kernel_rfl) (by kernel_rfl))
   ·refine Vk.alloc 3 28 [ci 0, ci 0, ci 0] hs (by kernel_rfl) (by kernel_rfl) (by kernel_rfl) fun b_31 w a hs => ?_
    replace hcl := qO hC_30 hs.own.f2.drop.drop
    refine ⟨fun _ => hcl, ?_⟩
    obtain ⟨v_34, h_33, hm⟩ := bind_t hm
    refine qdc 4 (share_Public.ok _ _ _ _ h_33 _ _ _ br5x0m_16 hs.own.f2) hs fun w a hs => ?_
    replace hcl := qO hC_30 hs.own.f1.drop.drop
    refine ⟨fun _ => hcl, ?_⟩
    obtain ⟨v_37, h_36, hm⟩ := bind_t hm
    refine qdc 7 (share_Public.ok _ _ _ _ h_36 _ _ _ br5x0m_16 hs.own) hs fun w a hs => ?_
    replace hcl := qO hC_30 hs.own.f1.drop.drop
    refine ⟨fun _ => hcl, ?_⟩
    obtain ⟨v_40, h_39, hm⟩ := bind_t hm
    refine qdc 8 (both_Less.ok _ _ _ _ _ _ h_39 _ _ _ br5x0m_16 hs.own) hs fun w a hs => ?_
    replace hcl := qO hC_30 hs.own.f1.drop.drop
    refine ⟨fun _ => hcl, ?_⟩
    obtain ⟨h_41, hm⟩ := ite_t hm
    refine qsA 10 1 v_40.1 hs rfl h_41 rfl fun a w hs => ?_
    refine ⟨fun h => absurd h (by decide), ?_⟩
    replace hs := hs.pick [1, 3] (L' := [(1, pp b_22), (3, pp b_31)]) (by kernel_rfl)
    refine Vk.dDone (by kernel_rfl) ?_
    exact hj29 v_40.2 v_40.1 hm b_31 _ _ (hs.go [1, 3] [2, 0, 3, 4, 5, 1] 6 (by kernel_rfl) (by kernel_rfl) (by kernel_rfl))


def visorlaw23_BothFolds.j4 (k : Nat) (p_94 : Bool) : Option (Bool) := some p_94
def visorlaw23_BothFolds.j3 (k : Nat) (x3 : Int) (p_6 : Int) (p_58 : Twire_Machine) (v_72 : Int) (p_78 : Bool) : Option (Bool) := (wire_Machine_Err.m k p_58).bind fun v_83 => (bif (v_83 == 0) && (((Int.tmod v_72 2) == 1) == p_78) then (wire_Machine_Draws.m k p_58).bind fun v_87 => (visorref23_Draws.m k p_6).bind fun v_90 => (bif v_87 == (IntKind.i64.wrap ((IntKind.i64.wrap (1 + (Int.tmod (IntKind.i64.wrap x3) 6))) * v_90)) then (visorlaw23_awake.m k).bind fun v_93 => visorlaw23_BothFolds.j4 k v_93 else visorlaw23_BothFolds.j4 k false) else visorlaw23_BothFolds.j4 k false)
def visorlaw23_BothFolds.j2 (k : Nat) (x2 : Int) (x3 : Int) (p_6 : Int) (p_17 : Int) (p_58 : Twire_Machine) (p_60 : Cells) : Option (Bool) := (if p_60.length = 3 then (wire_Machine_Values.m k p_58).bind fun v_67 => (share_Value.m k v_67 p_60).bind fun v_72 => (bif decide (p_17 < 64) then (if 0 ≤ IntKind.u64.wrap p_17 then (if shl .u64 1 (IntKind.u64.wrap p_17) ≠ 0 then visorlaw23_BothFolds.j3 k x3 p_6 p_58 v_72 ((Int.tmod x2 (shl .u64 1 (IntKind.u64.wrap p_17))) != 0) else none) else none) else visorlaw23_BothFolds.j3 k x3 p_6 p_58 v_72 (x2 != 0)) else none)
def visorlaw23_BothFolds.l1 (x3 : Int) : Nat → Int → Int → Option (Int)
 | 0, _, _ => none
 | k + 1, q_12, q_13 => (bif decide (q_13 < (IntKind.i64.wrap (1 + (Int.tmod (IntKind.i64.wrap x3) 6)))) then visorlaw23_BothFolds.l1 x3 k (IntKind.i64.wrap (2 * q_12)) (IntKind.i64.wrap (q_13 + 1)) else some q_12)
def visorlaw23_BothFolds.j1 (k : Nat) (x1 : Int) (x2 : Int) (x3 : Int) (x4 : Cells) (p_6 : Int) : Option (Bool) := (visorlaw23_BothFolds.l1 x3 k 1 0).bind fun p_17 => (wds .u64 40 x4).bind fun l_22 => ((visorlaw20_Begins.m k p_6 l_22 2000).bind fun v => match v with | (.inl v_27) => some false | (.inr v_34) => (bif !v_34.2.2.2.2 then some false else (share_Public.m k v_34.1 x2).bind fun v_52 => (both_Fold.m k v_52.2 x1 v_52.1 p_17).bind fun v_55 => (if v_55.1.length = 3 then visorlaw23_BothFolds.j2 k x2 x3 p_6 p_17 v_55.2 v_55.1 else none)))
abbrev visorlaw23_BothFolds.R (κ : Ctx) (S : List HP) (x0 : Bool) (x1 : Int) (x2 : Int) (x3 : Int) (x4 : Cells) (r : Bool) : Ending → World → Prop := fun e w' => e = .returned (.bool r) ∧ Own κ w' (S)
def visorlaw23_BothFolds.m (k : Nat) (x0 : Bool) (x1 : Int) (x2 : Int) (x3 : Int) (x4 : Cells) : Option Bool := (bif x0 then visorlaw23_BothFolds.j1 k x1 x2 x3 x4 3 else visorlaw23_BothFolds.j1 k x1 x2 x3 x4 2)

set_option maxRecDepth 100000 in
set_option maxHeartbeats 4000000 in
theorem visorlaw23_BothFolds.ok (k : Nat) (x0 : Bool) (x1 : Int) (x2 : Int) (x3 : Int) (x4 : Cells) (r : Bool) (hm : visorlaw23_BothFolds.m k x0 x1 x2 x3 x4 = some r) (κ : Ctx) (w : World) (S : List HP) (ho : Own κ w (S)) :
  Calls Try.prog 11 #[.bool x0, vi x1, vw x2, .int .u8 x3, .agg (vals x4)] w (visorlaw23_BothFolds.R κ S x0 x1 x2 x3 x4 r) := by
 unfold visorlaw23_BothFolds.m at hm
 generalize hRR : visorlaw23_BothFolds.R κ S x0 x1 x2 x3 x4 r = RR
 refine qen [(0, .bool x0), (1, vi x1), (2, vw x2), (3, .int .u8 x3), (4, .agg (vals x4))] Try.func11 Try.ntmps11 ho fun a hs => ?_
 refine qsr fun K1 hK1 => ?_
 refine qbx 4 118 x4 9 hs fun b_2 w a hs => ?_
 refine qpk 1 [0, 1, 2, 3, 9] hs fun a hs => hK1 _ _ ?_
 clear hK1
 refine qsk 1 [0, 1, 2, 3, 9, 11] hs fun a hs => ?_
 refine Vk.seq fun K4 hK4 => ?_
 have hj4 : ∀ (p_6 : Int), visorlaw23_BothFolds.j1 k x1 x2 x3 x4 p_6 = some r → ∀ (a : Act) (w : World), St 88 a w κ [(1, vi x1), (2, vw x2), (3, .int .u8 x3), (9, pp b_2), (11, vi p_6)] (pt b_2 (blk x4 118) :: S) → K4 a w := by
  intro p_6 hm a w hs
  unfold visorlaw23_BothFolds.j1 at hm
  refine hK4 _ _ ?_
  refine qsk 5 [1, 2, 9, 11, 12] hs fun a hs => ?_
  refine qsk 1 [1, 2, 9, 11, 12, 13] hs fun a hs => ?_
  refine Vk.seq fun K9 hK9 => ?_
  refine qsk 1 [1, 2, 9, 11, 12, 13, 14] hs fun a hs => ?_
  refine wp_block ?_
  obtain ⟨r11, hl11, hm⟩ := bind_t hm
  have hx11 : ∀ (p_17 : Int), r11 = p_17 → ∀ (a : Act) (w : World), St 88 a w κ [(1, vi x1), (2, vw x2), (9, pp b_2), (11, vi p_6), (12, vi (IntKind.i64.wrap (1 + (Int.tmod (IntKind.i64.wrap x3) 6)))), (13, vi p_17)] (pt b_2 (blk x4 118) :: S) → K9 a w := by
   intro p_17 he a w hs
   subst r11
   refine hK9 _ _ ?_
   clear hK9
   refine qsr fun K20 hK20 => ?_
   refine qpu 1 hs fun a hs => ?_
   obtain ⟨l_22, h_21, hm⟩ := bind_t hm
   refine Vk.step (sliceArr (N := 40) (e := 32) (ty := 118) (x := (.tmp 9)) 34 0 hs rfl h_21 (fun a hs => ?_) (by kernel_rfl) (by kernel_rfl))
   obtain ⟨v_26, h_25, hm⟩ := bind_t hm
   refine Vk.step (Vk.call (some 35) 18 #[vi p_6, .slice (some ⟨b_2, 0, none⟩) l_22.length 40, vi 2000] hs (by kernel_rfl) (by kernel_rfl) (by kernel_rfl) ?_)
   refine (visorlaw20_Begins.ok k p_6 l_22 2000 v_26 h_25 κ w (S) (some ⟨b_2, 0, none⟩) 40 hs.own).mono ?_
   rintro _ w (⟨v_27, rfl, br24x0x_28, Ar24x0l_29, cr24x0l_30, Ar24x0v_31, cr24x0v_32, rfl, how⟩ | ⟨v_34, rfl, br24x0m_35, br24x0x_36, Ar24x0l_37, cr24x0l_38, Ar24x0v_39, cr24x0v_40, rfl, how⟩)
   ·dsimp only at hm
    refine ⟨_, _, _, rfl, how, fun a hs => ?_⟩
    refine qpu 3 hs fun a hs => ?_
    refine qal 45 [C.ptr none, C.ptr none, C.slc none 0 0, C.slc none 0 0] 15 hs fun b_33 w a hs => ?_
    refine qsa 0 [C.ptr none, cp br24x0x_28, C.slc Ar24x0l_29 v_27.2.1.length cr24x0l_30, C.slc Ar24x0v_31 v_27.2.2.length cr24x0v_32] hs rfl fun a w hs => ?_
    refine qpe 1 [(1, vi x1), (2, vw x2), (11, vi p_6), (12, vi (IntKind.i64.wrap (1 + (Int.tmod (IntKind.i64.wrap x3) 6)))), (13, vi p_17), (15, pp b_33), (16, .bool false)] hs fun a hs => hK20 _ _ ?_
    refine Vk.seq fun K42 hK42 => ?_
    refine qsk 2 [1, 2, 11, 12, 13, 15, 39] hs fun a hs => ?_
    refine qct hs ?_
    refine qse 1 [(10, .bool false)] hs fun a hs => ?_
    refine wp_ret ?_
    exact qr1 (.bool false) hs rfl hRR (by cases hm; exact ⟨rfl, (hs.own.too [] 4)⟩)
   ·dsimp only at hm
    refine ⟨_, _, _, rfl, how, fun a hs => ?_⟩
    refine qpu 3 hs fun a hs => ?_
    refine qal 45 [C.ptr none, C.ptr none, C.slc none 0 0, C.slc none 0 0] 15 hs fun b_41 w a hs => ?_
    refine qsa 0 [cp br24x0m_35, cp br24x0x_36, C.slc Ar24x0l_37 v_34.2.2.1.length cr24x0l_38, C.slc Ar24x0v_39 v_34.2.2.2.1.length cr24x0v_40] hs rfl fun a w hs => ?_
    refine qpk 1 [1, 2, 11, 12, 13, 15, 16] hs fun a hs => hK20 _ _ ?_
    refine Vk.seq fun K45 hK45 => ?_
    refine qsk 2 [1, 2, 11, 12, 13, 15, 39] hs fun a hs => ?_
    refine qcs (!v_34.2.2.2.2) hs (fun hb => ?_) fun hb => ?_
    ·replace hm := bif_t hm hb
     refine qse 1 [(10, .bool false)] hs fun a hs => ?_
     refine wp_ret ?_
     exact qr1 (.bool false) hs rfl hRR (by cases hm; exact ⟨rfl, (hs.own.too [] 5)⟩)
    ·replace hm := bif_f hm hb
     refine wp_skip ?_
     refine hK45 _ _ ?_
     clear hK45
     refine Vk.seq fun K48 hK48 => ?_
     have hj48 : ∀ (p_58 : Twire_Machine) (p_60 : Cells), visorlaw23_BothFolds.j2 k x2 x3 p_6 p_17 p_58 p_60 = some r → ∀ (b_59 : Nat) (a : Act) (w : World), St 88 a w κ [(2, vw x2), (11, vi p_6), (12, vi (IntKind.i64.wrap (1 + (Int.tmod (IntKind.i64.wrap x3) 6)))), (13, vi p_17), (15, pp b_41), (17, pp b_59)] (pt b_41 (blk [cp br24x0m_35, cp br24x0x_36, C.slc Ar24x0l_37 v_34.2.2.1.length cr24x0l_38, C.slc Ar24x0v_39 v_34.2.2.2.1.length cr24x0v_40] 45) :: Twire_Machine.own br24x0m_35 p_58 :: Tvisorref19_M.own κ br24x0x_36 v_34.2.1 :: rowp Ar24x0l_37 cr24x0l_38 28 3 eC v_34.2.2.1 :: rowp Ar24x0v_39 cr24x0v_40 32 1 (eI .u64) v_34.2.2.2.1 :: pt b_59 (blk p_60 28) :: S) → K48 a w := by
      intro p_58 p_60 hm b_59 a w hs
      unfold visorlaw23_BothFolds.j2 at hm
      refine hK48 _ _ ?_
      refine Vk.seq fun K61 hK61 => ?_
      obtain ⟨C_62, hC_62⟩ := qC hs.own.f1.drop
      refine qdr 6 κ C_62 hs fun w hs hqC_62 => ?_
      have hcl := qO hC_62 hs.own.f1.drop
      refine qdp (fuel := 5) [0] hs hcl hqC_62 fun a hs => ?_
      refine qdl 1 0 (cp br24x0m_35) hs hcl hqC_62 hC_62 rfl fun a hs => ?_
      obtain ⟨h_63, hm⟩ := ite_t hm
      refine qdw 3 4 hs hcl hqC_62 hC_62 rfl h_63 fun a hs => ?_
      obtain ⟨g_64, hs⟩ := hs.unex 1 rfl
      obtain ⟨v_67, h_66, hm⟩ := bind_t hm
      refine Vk.dOnly (i := 2) (by kernel_rfl) (Vk.call (some 51) 22 #[pp br24x0m_35] hs (by kernel_rfl) (by kernel_rfl) (by kernel_rfl) ?_)
      refine (wire_Machine_Values.ok k p_58 v_67 h_66 κ w (pt b_41 (blk [cp br24x0m_35, cp br24x0x_36, C.slc Ar24x0l_37 v_34.2.2.1.length cr24x0l_38, C.slc Ar24x0v_39 v_34.2.2.2.1.length cr24x0v_40] 45) :: Tvisorref19_M.own κ br24x0x_36 v_34.2.1 :: rowp Ar24x0l_37 cr24x0l_38 28 3 eC v_34.2.2.1 :: rowp Ar24x0v_39 cr24x0v_40 32 1 (eI .u64) v_34.2.2.2.1 :: pt b_59 (blk p_60 28) :: S) br24x0m_35 g_64 hs.own.f1).mono ?_
      rintro _ w ⟨Ar65x0_68, cr65x0_69, rfl, how⟩
      refine ⟨_, _, _, rfl, how, fun a hs => ?_⟩
      replace hcl := qO hC_62 hs.own.f1.drop.drop
      refine ⟨fun _ => hcl, ?_⟩
      obtain ⟨v_72, h_71, hm⟩ := bind_t hm
      refine qdc 4 (share_Value.ok _ _ _ _ h_71 _ _ (rowp Ar65x0_68 cr65x0_69 32 1 (eI .u64) v_67 :: bagL (Twire_Machine.parts br24x0m_35 p_58 g_64) :: pt b_41 (blk [cp br24x0m_35, cp br24x0x_36, C.slc Ar24x0l_37 v_34.2.2.1.length cr24x0l_38, C.slc Ar24x0v_39 v_34.2.2.2.1.length cr24x0v_40] 45) :: Tvisorref19_M.own κ br24x0x_36 v_34.2.1 :: rowp Ar24x0l_37 cr24x0l_38 28 3 eC v_34.2.2.1 :: rowp Ar24x0v_39 cr24x0v_40 32 1 (eI .u64) v_34.2.2.2.1 :: pt b_59 (blk p_60 28) :: S) Ar65x0_68 cr65x0_69 (Sl.lift (fun w ho => (Own.to (S' := rowp Ar65x0_68 cr65x0_69 32 1 (eI .u64) v_67 :: S) ho [0] 7 (by kernel_rfl) (by kernel_rfl))) (Own.rowSl 0 (Own.to (S' := rowp Ar65x0_68 cr65x0_69 32 1 (eI .u64) v_67 :: S) hs.own [0] 7 (by kernel_rfl) (by kernel_rfl)) rfl)) hs.own) hs fun w a hs => ?_
      replace hcl := qO hC_62 hs.own.f1.drop.drop
      refine ⟨fun _ => hcl, ?_⟩
      refine qdp (fuel := 0) [5] hs hcl hqC_62 fun a hs => ?_
      replace hs := hs.pick [2, 11, 12, 13, 15, 18] (L' := [(2, vw x2), (11, vi p_6), (12, vi (IntKind.i64.wrap (1 + (Int.tmod (IntKind.i64.wrap x3) 6)))), (13, vi p_17), (15, pp b_41), (18, vw v_72)]) (by kernel_rfl)
      refine Vk.dDone (by kernel_rfl) ?_
      refine hK61 _ _ ?_
      clear hK61
      refine qse 3 [(2, vw x2), (11, vi p_6), (12, vi (IntKind.i64.wrap (1 + (Int.tmod (IntKind.i64.wrap x3) 6)))), (13, vi p_17), (15, pp b_41), (18, vw v_72), (19, .bool (x2 != 0))] hs fun a hs => ?_
      refine Vk.seq fun K74 hK74 => ?_
      have hj74 : ∀ (p_78 : Bool), visorlaw23_BothFolds.j3 k x3 p_6 p_58 v_72 p_78 = some r → ∀ (a : Act) (w : World), St 88 a w κ [(11, vi p_6), (12, vi (IntKind.i64.wrap (1 + (Int.tmod (IntKind.i64.wrap x3) 6)))), (15, pp b_41), (18, vw v_72), (19, .bool p_78)] (pt b_41 (blk [cp br24x0m_35, cp br24x0x_36, C.slc Ar24x0l_37 v_34.2.2.1.length cr24x0l_38, C.slc Ar24x0v_39 v_34.2.2.2.1.length cr24x0v_40] 45) :: Twire_Machine.own br24x0m_35 p_58 :: Tvisorref19_M.own κ br24x0x_36 v_34.2.1 :: rowp Ar24x0l_37 cr24x0l_38 28 3 eC v_34.2.2.1 :: rowp Ar24x0v_39 cr24x0v_40 32 1 (eI .u64) v_34.2.2.2.1 :: S) → K74 a w := by
       intro p_78 hm a w hs
       unfold visorlaw23_BothFolds.j3 at hm
       refine hK74 _ _ ?_
       refine Vk.seq fun K79 hK79 => ?_
       have hj79 : ∀ (p_94 : Bool), visorlaw23_BothFolds.j4 k p_94 = some r → ∀ (a : Act) (w : World), St 88 a w κ [(10, .bool p_94)] (S) → K79 a w := by
        intro p_94 hm a w hs
        unfold visorlaw23_BothFolds.j4 at hm
        refine hK79 _ _ ?_
        refine wp_ret ?_
        exact qr1 (.bool p_94) hs rfl hRR (by cases hm; exact ⟨rfl, hs.own⟩)
       refine Vk.region ?_
       refine qpu 1 hs fun a hs => ?_
       refine qld 0 (cp br24x0m_35) hs rfl fun a hs => ?_
       obtain ⟨g_80, hs⟩ := hs.unex 1 rfl
       obtain ⟨v_83, h_82, hm⟩ := bind_t hm
       refine qcl (wire_Machine_Err.ok _ _ _ h_82 _ _ _ br24x0m_35 g_80 hs.own.f1) hs fun w a hs => ?_
       refine qpu 2 hs fun a hs => ?_
       refine qsc 68 6 hs fun a hs => ?_
       refine qpu 1 hs fun a hs => ?_
       rcases Bool.eq_false_or_eq_true ((v_83 == 0) && (((Int.tmod v_72 2) == 1) == p_78)) with hb | hb
       ·replace hm := bif_t hm hb
        replace hs := hs.known (t := 75) hb (by kernel_rfl)
        refine qpu 1 hs fun a hs => ?_
        refine qld 1 (cp br24x0m_35) hs rfl fun a hs => ?_
        obtain ⟨v_87, h_86, hm⟩ := bind_t hm
        refine qcl (wire_Machine_Draws.ok _ _ _ h_86 _ _ _ br24x0m_35 g_80 hs.own) hs fun w a hs => ?_
        refine qpu 2 hs fun a hs => ?_
        obtain ⟨v_90, h_89, hm⟩ := bind_t hm
        refine qcl (visorref23_Draws.ok _ _ _ h_89 _ _ (bagL (Twire_Machine.parts br24x0m_35 p_58 g_80) :: pt b_41 (blk [cp br24x0m_35, cp br24x0x_36, C.slc Ar24x0l_37 v_34.2.2.1.length cr24x0l_38, C.slc Ar24x0v_39 v_34.2.2.2.1.length cr24x0v_40] 45) :: Tvisorref19_M.own κ br24x0x_36 v_34.2.1 :: rowp Ar24x0l_37 cr24x0l_38 28 3 eC v_34.2.2.1 :: rowp Ar24x0v_39 cr24x0v_40 32 1 (eI .u64) v_34.2.2.2.1 :: S) hs.own) hs fun w a hs => ?_
        refine qpu 4 hs fun a hs => ?_
        rcases Bool.eq_false_or_eq_true (v_87 == (IntKind.i64.wrap ((IntKind.i64.wrap (1 + (Int.tmod (IntKind.i64.wrap x3) 6))) * v_90))) with hb | hb
        ·replace hm := bif_t hm hb
         replace hs := hs.known (t := 85) hb (by kernel_rfl)
         obtain ⟨v_93, h_92, hm⟩ := bind_t hm
         refine qcl (visorlaw23_awake.ok _ _ h_92 _ _ (bagL (Twire_Machine.parts br24x0m_35 p_58 g_80) :: pt b_41 (blk [cp br24x0m_35, cp br24x0x_36, C.slc Ar24x0l_37 v_34.2.2.1.length cr24x0l_38, C.slc Ar24x0v_39 v_34.2.2.2.1.length cr24x0v_40] 45) :: Tvisorref19_M.own κ br24x0x_36 v_34.2.1 :: rowp Ar24x0l_37 cr24x0l_38 28 3 eC v_34.2.2.1 :: rowp Ar24x0v_39 cr24x0v_40 32 1 (eI .u64) v_34.2.2.2.1 :: S) hs.own) hs fun w a hs => ?_
         refine qpe 2 [(10, .bool v_93)] hs fun a hs => ?_
         replace hs := hs.toEx (Twire_Machine.parts br24x0m_35 p_58) g_80 0 rfl
         exact hj79 v_93 hm _ _ (hs.go [10] [] 5 (by kernel_rfl) (by kernel_rfl) (by kernel_rfl))
        ·replace hm := bif_f hm hb
         replace hs := hs.known (t := 85) hb (by kernel_rfl)
         refine qpe 3 [(10, .bool false)] hs fun a hs => ?_
         replace hs := hs.toEx (Twire_Machine.parts br24x0m_35 p_58) g_80 0 rfl
         exact hj79 false hm _ _ (hs.go [10] [] 5 (by kernel_rfl) (by kernel_rfl) (by kernel_rfl))
       ·replace hm := bif_f hm hb
        replace hs := hs.known (t := 75) hb (by kernel_rfl)
        refine qpe 13 [(10, .bool false)] hs fun a hs => ?_
        replace hs := hs.toEx (Twire_Machine.parts br24x0m_35 p_58) g_80 0 rfl
        exact hj79 false hm _ _ (hs.go [10] [] 5 (by kernel_rfl) (by kernel_rfl) (by kernel_rfl))
      refine qsk 2 [2, 11, 12, 13, 15, 18, 19, 57] hs fun a hs => ?_
      refine qcs (decide (p_17 < 64)) hs (fun hb => ?_) fun hb => ?_
      ·replace hm := bif_t hm hb
       refine Vk.region ?_
       refine qpu 3 hs fun a hs => ?_
       obtain ⟨h_76, hm⟩ := ite_t hm
       refine qva (vw (shl .u64 1 (IntKind.u64.wrap p_17))) (op := (.binOp .shl 32 (.const (vw 1)) (.tmp 60) 24)) hs (fun o ho => run_shl (k' := .u64) ho (by kernel_rfl) (by kernel_rfl) h_76 _) fun a hs => ?_
       obtain ⟨h_77, hm⟩ := ite_t hm
       refine qva (vw (Int.tmod x2 (shl .u64 1 (IntKind.u64.wrap p_17)))) (op := (.binOp .rem 32 (.tmp 58) (.tmp 61) 32)) hs (fun o ho => run_rem ho (by kernel_rfl) (by kernel_rfl) h_77 _) fun a hs => ?_
       refine qpe 2 [(11, vi p_6), (12, vi (IntKind.i64.wrap (1 + (Int.tmod (IntKind.i64.wrap x3) 6)))), (15, pp b_41), (18, vw v_72), (19, .bool ((Int.tmod x2 (shl .u64 1 (IntKind.u64.wrap p_17))) != 0))] hs fun a hs => ?_
       replace hs := hs.toEx (Twire_Machine.parts br24x0m_35 p_58) g_64 1 rfl
       exact hj74 ((Int.tmod x2 (shl .u64 1 (IntKind.u64.wrap p_17))) != 0) hm _ _ (hs.go [11, 12, 15, 18, 19] [2, 1, 3, 4, 5] 7 (by kernel_rfl) (by kernel_rfl) (by kernel_rfl))
      ·replace hm := bif_f hm hb
       refine wp_skip ?_
       replace hs := hs.toEx (Twire_Machine.parts br24x0m_35 p_58) g_64 1 rfl
       exact hj74 (x2 != 0) hm _ _ (hs.go [11, 12, 15, 18, 19] [2, 1, 3, 4, 5] 7 (by kernel_rfl) (by kernel_rfl) (by kernel_rfl))
     obtain ⟨C_49, hC_49⟩ := qC hs.own.f1.drop
     refine qdr 10 κ C_49 hs fun w hs hqC_49 => ?_
     have hcl := qO hC_49 hs.own.f1.drop
     refine qdp (fuel := 6) [0, 2, 3, 5, 7] hs hcl hqC_49 fun a hs => ?_
     refine qdl 1 0 (cp br24x0m_35) hs hcl hqC_49 hC_49 rfl fun a hs => ?_
     refine qdl 4 0 (cp br24x0m_35) hs hcl hqC_49 hC_49 rfl fun a hs => ?_
     refine Vk.dMany2 (i0 := 6) (i1 := 9) (by kernel_rfl) ?_ ?_
     ·obtain ⟨v_52, h_51, hm⟩ := bind_t hm
      refine qco (share_Public.ok _ _ _ _ h_51 _ _ _ br24x0m_35 hs.own.f1) hs fun w a hs => ?_
      replace hcl := qO hC_49 hs.own.drop
      refine ⟨fun _ => hcl, ?_⟩
      refine Vk.dMany2 (i0 := 8) (i1 := 9) (by kernel_rfl) ?_ ?_
      ·obtain ⟨v_55, h_54, hm⟩ := bind_t hm
       refine qco (both_Fold.ok _ _ _ _ _ _ h_54 _ _ _ br24x0m_35 hs.own) hs fun w a hs => ?_
       replace hcl := qO hC_49 hs.own.drop
       refine ⟨fun _ => hcl, ?_⟩
       refine Vk.dOnly (i := 9) (by kernel_rfl) (Vk.alloc 17 28 [ci 0, ci 0, ci 0] hs (by kernel_rfl) (by kernel_rfl) (by kernel_rfl) fun b_56 w a hs => ?_)
       replace hcl := qO hC_49 hs.own.f1.drop.drop
       refine ⟨fun _ => hcl, ?_⟩
       obtain ⟨h_57, hm⟩ := ite_t hm
       refine qsA 10 0 v_55.1 hs rfl h_57 rfl fun a w hs => ?_
       refine ⟨fun h => absurd h (by decide), ?_⟩
       replace hs := hs.pick [2, 11, 12, 13, 15, 17] (L' := [(2, vw x2), (11, vi p_6), (12, vi (IntKind.i64.wrap (1 + (Int.tmod (IntKind.i64.wrap x3) 6)))), (13, vi p_17), (15, pp b_41), (17, pp b_56)]) (by kernel_rfl)
       refine Vk.dDone (by kernel_rfl) ?_
       exact hj48 v_55.2 v_55.1 hm b_56 _ _ (hs.go [2, 11, 12, 13, 15, 17] [2, 1, 3, 4, 5, 0] 6 (by kernel_rfl) (by kernel_rfl) (by kernel_rfl))
      ·refine Vk.alloc 17 28 [ci 0, ci 0, ci 0] hs (by kernel_rfl) (by kernel_rfl) (by kernel_rfl) fun b_53 w a hs => ?_
       replace hcl := qO hC_49 hs.own.f1.drop.drop
       refine ⟨fun _ => hcl, ?_⟩
       obtain ⟨v_56, h_55, hm⟩ := bind_t hm
       refine qdc 8 (both_Fold.ok _ _ _ _ _ _ h_55 _ _ _ br24x0m_35 hs.own.f1) hs fun w a hs => ?_
       replace hcl := qO hC_49 hs.own.f1.drop.drop
       refine ⟨fun _ => hcl, ?_⟩
       obtain ⟨h_57, hm⟩ := ite_t hm
       refine qsA 10 1 v_56.1 hs rfl h_57 rfl fun a w hs => ?_
       refine ⟨fun h => absurd h (by decide), ?_⟩
       replace hs := hs.pick [2, 11, 12, 13, 15, 17] (L' := [(2, vw x2), (11, vi p_6), (12, vi (IntKind.i64.wrap (1 + (Int.tmod (IntKind.i64.wrap x3) 6)))), (13, vi p_17), (15, pp b_41), (17, pp b_53)]) (by kernel_rfl)
       refine Vk.dDone (by kernel_rfl) ?_
       exact hj48 v_56.2 v_56.1 hm b_53 _ _ (hs.go [2, 11, 12, 13, 15, 17] [2, 0, 3, 4, 5, 1] 6 (by kernel_rfl) (by kernel_rfl) (by kernel_rfl))
     ·refine Vk.alloc 17 28 [ci 0, ci 0, ci 0] hs (by kernel_rfl) (by kernel_rfl) (by kernel_rfl) fun b_50 w a hs => ?_
      replace hcl := qO hC_49 hs.own.f2.drop.drop
      refine ⟨fun _ => hcl, ?_⟩
      obtain ⟨v_53, h_52, hm⟩ := bind_t hm
      refine qdc 6 (share_Public.ok _ _ _ _ h_52 _ _ _ br24x0m_35 hs.own.f2) hs fun w a hs => ?_
      replace hcl := qO hC_49 hs.own.f1.drop.drop
      refine ⟨fun _ => hcl, ?_⟩
      obtain ⟨v_56, h_55, hm⟩ := bind_t hm
      refine qdc 8 (both_Fold.ok _ _ _ _ _ _ h_55 _ _ _ br24x0m_35 hs.own) hs fun w a hs => ?_
      replace hcl := qO hC_49 hs.own.f1.drop.drop
      refine ⟨fun _ => hcl, ?_⟩
      obtain ⟨h_57, hm⟩ := ite_t hm
      refine qsA 10 1 v_56.1 hs rfl h_57 rfl fun a w hs => ?_
      refine ⟨fun h => absurd h (by decide), ?_⟩
      replace hs := hs.pick [2, 11, 12, 13, 15, 17] (L' := [(2, vw x2), (11, vi p_6), (12, vi (IntKind.i64.wrap (1 + (Int.tmod (IntKind.i64.wrap x3) 6)))), (13, vi p_17), (15, pp b_41), (17, pp b_50)]) (by kernel_rfl)
      refine Vk.dDone (by kernel_rfl) ?_
      exact hj48 v_56.2 v_56.1 hm b_50 _ _ (hs.go [2, 11, 12, 13, 15, 17] [2, 0, 3, 4, 5, 1] 6 (by kernel_rfl) (by kernel_rfl) (by kernel_rfl))
  refine Vk.loopBy (fun k (s : Int × Int) a w => visorlaw23_BothFolds.l1 x3 k s.1 s.2 = some r11 ∧ St 88 a w κ [(1, vi x1), (2, vw x2), (9, pp b_2), (11, vi p_6), (12, vi (IntKind.i64.wrap (1 + (Int.tmod (IntKind.i64.wrap x3) 6)))), (13, vi s.1), (14, vi s.2)] (pt b_2 (blk x4 118) :: S)) k (1, 0) ⟨hl11, hs.go [1, 2, 9, 11, 12, 13, 14] [0] 1 (by kernel_rfl) (by kernel_rfl) (by kernel_rfl)⟩ (fun s a w h => by obtain ⟨h1, _⟩ := h; simp [visorlaw23_BothFolds.l1] at h1) (fun k KL11 ih s a w h => ?_)
  obtain ⟨q_12, q_13⟩ := s
  obtain ⟨hm, hs⟩ := h
  try dsimp only at hm hs
  rw [visorlaw23_BothFolds.l1] at hm
  refine Vk.seq fun K14 hK14 => ?_
  refine qsk 3 [1, 2, 9, 11, 12, 13, 14, 27] hs fun a hs => ?_
  refine qcs (decide (q_13 < (IntKind.i64.wrap (1 + (Int.tmod (IntKind.i64.wrap x3) 6))))) hs (fun hb => ?_) fun hb => ?_
  ·replace hm := bif_t hm hb
   refine wp_skip ?_
   refine hK14 _ _ ?_
   clear hK14
   refine Vk.seq fun K16 hK16 => ?_
   refine wp_block ?_
   refine Vk.region ?_
   refine qpk 3 [1, 2, 9, 11, 12, 13, 14] hs fun a hs => hK16 _ _ ?_
   clear hK16
   refine Vk.region ?_
   refine qpk 3 [1, 2, 9, 11, 12, 13, 14] hs fun a hs => ?_
   refine ih ((IntKind.i64.wrap (2 * q_12)), (IntKind.i64.wrap (q_13 + 1))) _ _ ⟨hm, hs.go [1, 2, 9, 11, 12, 13, 14] [0] 1 (by kernel_rfl) (by kernel_rfl) (by kernel_rfl)⟩
  ·replace hm := bif_f hm hb
   refine wp_exit ?_
   exact hx11 q_12 (Option.some.inj hm).symm _ _ (hs.go [1, 2, 9, 11, 12, 13] [0] 1 (by kernel_rfl) (by kernel_rfl) (by kernel_rfl))
 refine qsk 1 [1, 2, 3, 9, 11, 20] hs fun a hs => ?_
 refine qcs (x0) hs (fun hb => ?_) fun hb => ?_
 ·replace hm := bif_t hm hb
  refine Vk.region ?_
  refine qpe 1 [(1, vi x1), (2, vw x2), (3, .int .u8 x3), (9, pp b_2), (11, vi 3)] hs fun a hs => ?_
  exact hj4 3 hm _ _ (hs.go [1, 2, 3, 9, 11] [0] 1 (by kernel_rfl) (by kernel_rfl) (by kernel_rfl))
 ·replace hm := bif_f hm hb
  refine wp_skip ?_
  exact hj4 2 hm _ _ (hs.go [1, 2, 3, 9, 11] [0] 1 (by kernel_rfl) (by kernel_rfl) (by kernel_rfl))

end Go.Proofs.Ytflgefjocjpjaaa
