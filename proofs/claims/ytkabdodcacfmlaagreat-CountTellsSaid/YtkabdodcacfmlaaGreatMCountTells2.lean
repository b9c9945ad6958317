/- Of each Go function that CountTells comes to: a model in plain Lean, and that the program's call does what the model says; no condition. -/
import Derived.Test.YtkabdodcacfmlaaGreatProg
import Derived.Test.YtkabdodcacfmlaaGreatVoopcamee
import Derived.Test.YtkabdodcacfmlaaGreatMCountTells1
namespace Go.Proofs.YtkabdodcacfmlaaGreat
open Go Go.Vk
set_option linter.unusedVariables false


abbrev times_Isw.R (κ : Ctx) (S : List HP) (x0 : Twire_Machine) (x1 : Cells) (x2 : Cells) (b_x0 : Nat) (r : (Cells × Twire_Machine)) : Ending → World → Prop := fun e w' => e = .returned (.agg (vals r.1)) ∧ Ow κ w' (Twire_Machine.own b_x0 r.2 :: S)
def times_Isw.m (k : Nat) (x0 : Twire_Machine) (x1 : Cells) (x2 : Cells) : Option (Cells × Twire_Machine) := (wire_Machine_N.m k x0).bind fun v_10 => (bif v_10 == 2 then (wire_Machine_Begin.m k x0 3).bind fun v_14 => (if x1.length = 3 then (if x2.length = 3 then (wire_Machine_N.m k v_14).bind fun v_29 => (bif v_29 == 2 then (wire_Machine_Rand.m k v_14 (-1)).bind fun v_45 => (getI .i64 x1 (0)).bind fun v_76 => (getI .i64 x2 (0)).bind fun v_78 => (wire_Machine_Two.m k v_45.2 7 0 v_76 v_78).bind fun v_81 => (getI .i64 x1 (0)).bind fun v_89 => (getI .i64 x2 (1)).bind fun v_91 => (wire_Machine_Two.m k v_81.2 7 0 v_89 v_91).bind fun v_94 => (getI .i64 x1 (1)).bind fun v_111 => (getI .i64 x2 (0)).bind fun v_113 => (wire_Machine_Two.m k v_94.2 7 1 v_111 v_113).bind fun v_116 => (getI .i64 x1 (1)).bind fun v_124 => (getI .i64 x2 (1)).bind fun v_126 => (wire_Machine_Two.m k v_116.2 7 1 v_124 v_126).bind fun v_129 => (wire_Machine_N.m k v_129.2).bind fun v_147 => (bif v_147 == 2 then (wire_Machine_Two.m k v_129.2 5 0 v_81.1 v_45.1).bind fun v_180 => (wire_Machine_Two.m k v_180.2 5 1 v_45.1 v_94.1).bind fun v_209 => (wire_Machine_Two.m k v_209.2 5 1 v_209.1 v_116.1).bind fun v_212 => (wire_Machine_Two.m k v_212.2 5 1 v_129.1 v_212.1).bind fun v_215 => (wire_Machine_End.m k v_215.2).bind fun v_233 => some ([ci v_180.1, ci v_215.1, ci (-1)], v_233) else none) else none) else none) else none) else (bif v_10 == 3 then (wire_Machine_Begin.m k x0 3).bind fun v_238 => (if x1.length = 3 then (if x2.length = 3 then (wire_Machine_N.m k v_238).bind fun v_253 => (bif v_253 == 3 then (wire_Machine_Rand.m k v_238 (-1)).bind fun v_269 => (wire_Machine_Rand.m k v_269.2 (-1)).bind fun v_277 => (wire_Machine_Rand.m k v_277.2 (-1)).bind fun v_294 => (getI .i64 x1 (0)).bind fun v_325 => (getI .i64 x2 (0)).bind fun v_327 => (wire_Machine_Two.m k v_294.2 7 0 v_325 v_327).bind fun v_330 => (getI .i64 x1 (0)).bind fun v_338 => (getI .i64 x2 (1)).bind fun v_340 => (wire_Machine_Two.m k v_330.2 7 0 v_338 v_340).bind fun v_343 => (getI .i64 x1 (0)).bind fun v_351 => (getI .i64 x2 (2)).bind fun v_353 => (wire_Machine_Two.m k v_343.2 7 0 v_351 v_353).bind fun v_356 => (getI .i64 x1 (1)).bind fun v_373 => (getI .i64 x2 (0)).bind fun v_375 => (wire_Machine_Two.m k v_356.2 7 1 v_373 v_375).bind fun v_378 => (getI .i64 x1 (1)).bind fun v_386 => (getI .i64 x2 (1)).bind fun v_388 => (wire_Machine_Two.m k v_378.2 7 1 v_386 v_388).bind fun v_391 => (getI .i64 x1 (1)).bind fun v_399 => (getI .i64 x2 (2)).bind fun v_401 => (wire_Machine_Two.m k v_391.2 7 1 v_399 v_401).bind fun v_404 => (getI .i64 x1 (2)).bind fun v_421 => (getI .i64 x2 (0)).bind fun v_423 => (wire_Machine_Two.m k v_404.2 7 2 v_421 v_423).bind fun v_426 => (getI .i64 x1 (2)).bind fun v_434 => (getI .i64 x2 (1)).bind fun v_436 => (wire_Machine_Two.m k v_426.2 7 2 v_434 v_436).bind fun v_439 => (getI .i64 x1 (2)).bind fun v_447 => (getI .i64 x2 (2)).bind fun v_449 => (wire_Machine_Two.m k v_439.2 7 2 v_447 v_449).bind fun v_452 => (wire_Machine_N.m k v_452.2).bind fun v_470 => (bif v_470 == 3 then (wire_Machine_Two.m k v_452.2 5 0 v_330.1 v_269.1).bind fun v_503 => (wire_Machine_Two.m k v_503.2 5 0 v_503.1 v_277.1).bind fun v_521 => (wire_Machine_Two.m k v_521.2 5 1 v_269.1 v_343.1).bind fun v_550 => (wire_Machine_Two.m k v_550.2 5 1 v_550.1 v_378.1).bind fun v_553 => (wire_Machine_Two.m k v_553.2 5 1 v_391.1 v_553.1).bind fun v_556 => (wire_Machine_Two.m k v_556.2 5 1 v_556.1 v_294.1).bind fun v_580 => (wire_Machine_Two.m k v_580.2 5 2 v_277.1 v_356.1).bind fun v_609 => (wire_Machine_Two.m k v_609.2 5 2 v_609.1 v_426.1).bind fun v_612 => (wire_Machine_Two.m k v_612.2 5 2 v_452.1 v_612.1).bind fun v_615 => (wire_Machine_Two.m k v_615.2 5 2 v_294.1 v_404.1).bind fun v_634 => (wire_Machine_Two.m k v_634.2 5 2 v_634.1 v_439.1).bind fun v_637 => (wire_Machine_Two.m k v_637.2 5 2 v_615.1 v_637.1).bind fun v_640 => (wire_Machine_End.m k v_640.2).bind fun v_658 => some ([ci v_521.1, ci v_580.1, ci v_640.1], v_658) else none) else none) else none) else none) else none))

set_option maxRecDepth 100000 in
set_option maxHeartbeats 4000000 in
theorem times_Isw.ok (k : Nat) (x0 : Twire_Machine) (x1 : Cells) (x2 : Cells) (r : (Cells × Twire_Machine)) (hm : times_Isw.m k x0 x1 x2 = some r) (κ : Ctx) (w : World) (S : List HP) (b_x0 : Nat) (ho : Ow κ w (Twire_Machine.own b_x0 x0 :: S)) :
  Calls Tryz.prog 110 #[pp b_x0, .agg (vals x1), .agg (vals x2)] w (times_Isw.R κ S x0 x1 x2 b_x0 r) := by
 unfold times_Isw.m at hm
 generalize hRR : times_Isw.R κ S x0 x1 x2 b_x0 r = RR
 refine qen [(0, pp b_x0), (1, .agg (vals x1)), (2, .agg (vals x2))] Tryz.func110 Tryz.ntmps110 ho fun a hs => ?_
 refine qsr fun K1 hK1 => ?_
 refine qbx 1 75 x1 4 hs fun b_2 w a hs => ?_
 refine qbx 2 75 x2 5 hs fun b_3 w a hs => ?_
 refine qal 75 [ci 0, ci 0, ci 0] 6 hs fun b_4 w a hs => ?_
 refine qpe 0 [(0, pp b_x0), (4, pp b_2), (5, pp b_3), (6, pp b_4)] hs fun a hs => hK1 _ _ ?_
 clear hK1
 refine Vk.seq fun K5 hK5 => ?_
 refine qsr fun K6 hK6 => ?_
 refine qpu 1 hs fun a hs => ?_
 obtain ⟨g_7, hs⟩ := hs.unex 3 rfl
 obtain ⟨v_10, h_9, hm⟩ := bind_t hm
 refine qcl (wire_Machine_N.ok _ _ _ h_9 _ _ _ b_x0 g_7 hs.own.f3) hs fun w a hs => ?_
 rcases Bool.eq_false_or_eq_true (v_10 == 2) with hb | hb
 ·replace hm := bif_t hm hb
  obtain rfl := Vk.of_beq hb
  refine qpk 1 [0, 4, 5, 6, 11] hs fun a hs => hK6 _ _ ?_
  refine qcf hs ?_
  refine wp_skip ?_
  refine hK5 _ _ ?_
  refine qsr fun K11 hK11 => ?_
  refine qpu 1 hs fun a hs => ?_
  replace hs := hs.toEx (Twire_Machine.parts b_x0 x0) g_7 0 rfl
  obtain ⟨v_14, h_13, hm⟩ := bind_t hm
  refine qcl (wire_Machine_Begin.ok _ _ _ _ h_13 _ _ _ b_x0 hs.own) hs fun w a hs => ?_
  refine qpk 0 [0, 4, 5, 6] hs fun a hs => hK11 _ _ ?_
  clear hK11
  refine qsr fun K15 hK15 => ?_
  refine qpu 1 hs fun a hs => ?_
  obtain ⟨h_16, hm⟩ := ite_t hm
  refine qlw 3 hs rfl h_16 fun a hs => ?_
  obtain ⟨h_17, hm⟩ := ite_t hm
  refine qlw 2 hs rfl h_17 fun a hs => ?_
  refine Vk.step (Vk.call (some 19) 132 #[pp b_x0, .agg (vals x1), .agg (vals x2)] hs (by kernel_rfl) (by kernel_rfl) (by kernel_rfl) ?_)
  refine Vk.enterI [(0, pp b_x0), (1, .agg (vals x1)), (2, .agg (vals x2))] Tryz.func132 rfl Tryz.ntmps132 (by kernel_rfl) (Nat.le_of_ble_eq_true (by kernel_rfl)) hs.own fun KR18 hKR18 hKP18 a hs => ?_
  refine qsr fun K19 hK19 => ?_
  refine qbx 1 75 x1 4 hs fun b_20 w a hs => ?_
  refine qbx 2 75 x2 5 hs fun b_21 w a hs => ?_
  refine qpk 1 [0, 4, 5] hs fun a hs => hK19 _ _ ?_
  clear hK19
  refine qsr fun K22 hK22 => ?_
  refine qpu 1 hs fun a hs => ?_
  refine Vk.step (Vk.mapOp 14 197 hs (by kernel_rfl) (by kernel_rfl) fun b_23 w a hs => ?_)
  refine qpu 1 hs fun a hs => ?_
  refine qbx 15 200 [cp b_x0, C.map (some b_23), ci 0, ci 0, ci 0, ci 0, ci 0, ci 0, ci 0, ci 0, ci 0] 16 hs fun b_24 w a hs => ?_
  refine qpe 1 [(0, pp b_x0), (4, pp b_20), (5, pp b_21), (7, pp b_24)] hs fun a hs => hK22 _ _ ?_
  clear hK22
  refine qsr fun K25 hK25 => ?_
  refine qpu 1 hs fun a hs => ?_
  obtain ⟨g_26, hs⟩ := hs.unex 4 rfl
  obtain ⟨v_29, h_28, hm⟩ := bind_t hm
  refine qcl (wire_Machine_N.ok _ _ _ h_28 _ _ _ b_x0 g_26 hs.own.f4) hs fun w a hs => ?_
  rcases Bool.eq_false_or_eq_true (v_29 == 2) with hb | hb
  ·replace hm := bif_t hm hb
   obtain rfl := Vk.of_beq hb
   refine qpk 1 [0, 4, 5, 7, 8] hs fun a hs => hK25 _ _ ?_
   clear hK25
   refine Vk.seq fun K30 hK30 => ?_
   refine qsk 2 [0, 4, 5, 7, 8, 19, 20] hs fun a hs => ?_
   refine wp_block ?_
   refine Vk.unroll0 40 ?_
   refine Vk.unroll fun KL32 hKL32 => ?_
   refine qsk 1 [0, 4, 5, 7, 8, 19, 20, 21] hs fun a hs => ?_
   refine qck hs ?_
   refine Vk.seq fun K35 hK35 => ?_
   refine wp_block ?_
   refine qsk 2 [0, 4, 5, 7, 8, 9, 19, 20] hs fun a hs => ?_
   refine qsk 3 [0, 4, 5, 7, 8, 9, 10, 19, 20] hs fun a hs => ?_
   refine wp_block ?_
   refine Vk.unroll0 40 ?_
   refine Vk.unroll fun KL38 hKL38 => ?_
   refine Vk.seq fun K39 hK39 => ?_
   refine qse 3 [(0, pp b_x0), (4, pp b_20), (5, pp b_21), (7, pp b_24), (8, vi 2), (9, vi 0), (10, vi 1), (19, vi 2), (20, vi 0), (27, .bool true)] hs fun a hs => ?_
   refine qct hs ?_
   refine wp_skip ?_
   refine hK39 _ _ ?_
   clear hK39
   refine Vk.seq fun K41 hK41 => ?_
   refine wp_block ?_
   obtain ⟨C_42, hC_42⟩ := qC hs.own.drop
   refine qdr 9 κ C_42 hs fun w hs hqC_42 => ?_
   have hcl := qO hC_42 hs.own.drop
   refine qdp (fuel := 3) [0, 1, 2, 4, 5, 6, 7] hs hcl hqC_42 fun a hs => ?_
   refine qdl 3 0 (C.map (some b_23)) hs hcl hqC_42 hC_42 rfl fun a hs => ?_
   replace hs := hs.toEx (Twire_Machine.parts b_x0 v_14) g_26 0 rfl
   obtain ⟨v_45, h_44, hm⟩ := bind_t hm
   refine qdc 8 (wire_Machine_Rand.ok _ _ _ _ h_44 _ _ _ b_x0 hs.own) hs fun w a hs => ?_
   replace hcl := qO hC_42 hs.own.drop
   refine ⟨fun _ => hcl, ?_⟩
   refine Vk.dOnly (i := 9) (by kernel_rfl) (Vk.updateOp (t := 197) (xm := (.tmp 33)) (xk := (.tmp 36)) (xv := (.tmp 38)) (b := b_23) (es' := #[⟨.agg (vals [ci 0, ci 1]), vi v_45.1, 0⟩]) (clock' := 1) (.agg (vals [ci 0, ci 1])) (vi v_45.1) 2 hs (by kernel_rfl) (by kernel_rfl) (by kernel_rfl) (by kernel_rfl) (by kernel_rfl) rfl (by kernel_rfl) fun a w hs => ?_)
   refine ⟨fun h => absurd h (by decide), ?_⟩
   replace hs := hs.pick [0, 4, 5, 7, 8, 9, 10, 19, 20] (L' := [(0, pp b_x0), (4, pp b_20), (5, pp b_21), (7, pp b_24), (8, vi 2), (9, vi 0), (10, vi 1), (19, vi 2), (20, vi 0)]) (by kernel_rfl)
   refine Vk.dDone (by kernel_rfl) ?_
   refine hK41 _ _ ?_
   clear hK41
   refine Vk.region ?_
   refine qpk 3 [0, 4, 5, 7, 8, 9, 10, 19, 20] hs fun a hs => hKL38 _ _ ?_
   clear hKL38
   refine Vk.unroll fun KL46 hKL46 => ?_
   refine Vk.seq fun K47 hK47 => ?_
   refine qsk 3 [0, 4, 5, 7, 8, 9, 10, 19, 20, 27] hs fun a hs => ?_
   refine qcf hs ?_
   refine wp_exit ?_
   refine hK35 _ _ ?_
   clear hK35
   refine Vk.region ?_
   refine qpk 2 [0, 4, 5, 7, 8, 19, 20] hs fun a hs => hKL32 _ _ ?_
   clear hKL32
   refine Vk.unroll fun KL49 hKL49 => ?_
   refine qsk 1 [0, 4, 5, 7, 8, 19, 20, 21] hs fun a hs => ?_
   refine qck hs ?_
   refine Vk.seq fun K52 hK52 => ?_
   refine wp_block ?_
   refine qsk 2 [0, 4, 5, 7, 8, 9, 19, 20] hs fun a hs => ?_
   refine qse 3 [(0, pp b_x0), (4, pp b_20), (5, pp b_21), (7, pp b_24), (8, vi 2), (9, vi 1), (10, vi 2), (19, vi 2), (20, vi 1)] hs fun a hs => ?_
   refine wp_block ?_
   refine Vk.unroll0 40 ?_
   refine Vk.unroll fun KL55 hKL55 => ?_
   refine Vk.seq fun K56 hK56 => ?_
   refine qsk 3 [0, 4, 5, 7, 8, 9, 10, 19, 20, 27] hs fun a hs => ?_
   refine qcf hs ?_
   refine wp_exit ?_
   refine hK52 _ _ ?_
   clear hK52
   refine Vk.region ?_
   refine qpk 2 [0, 4, 5, 7, 8, 19, 20] hs fun a hs => hKL49 _ _ ?_
   clear hKL49
   refine Vk.unroll fun KL58 hKL58 => ?_
   refine qsk 1 [0, 4, 5, 7, 8, 19, 20, 21] hs fun a hs => ?_
   refine Vk.seq fun K60 hK60 => ?_
   refine qcf hs ?_
   refine wp_exit ?_
   refine hK30 _ _ ?_
   clear hK30
   refine Vk.seq fun K61 hK61 => ?_
   refine qsk 2 [0, 4, 5, 7, 8, 40, 41] hs fun a hs => ?_
   refine wp_block ?_
   refine Vk.unroll0 40 ?_
   refine Vk.unroll fun KL63 hKL63 => ?_
   refine qsk 1 [0, 4, 5, 7, 8, 40, 41, 42] hs fun a hs => ?_
   refine qck hs ?_
   refine Vk.seq fun K66 hK66 => ?_
   refine wp_block ?_
   refine qse 2 [(0, pp b_x0), (4, pp b_20), (5, pp b_21), (7, pp b_24), (8, vi 2), (11, vi 0), (40, vi 2), (41, vi 0)] hs fun a hs => ?_
   refine qsk 2 [0, 4, 5, 7, 8, 11, 40, 41, 44, 45] hs fun a hs => ?_
   refine wp_block ?_
   refine Vk.unroll0 40 ?_
   refine Vk.unroll fun KL69 hKL69 => ?_
   refine qsk 1 [0, 4, 5, 7, 8, 11, 40, 41, 44, 45, 46] hs fun a hs => ?_
   refine qck hs ?_
   refine Vk.seq fun K72 hK72 => ?_
   refine wp_block ?_
   refine qsk 2 [0, 4, 5, 7, 8, 11, 12, 40, 41, 44, 45] hs fun a hs => ?_
   obtain ⟨C_74, hC_74⟩ := qC hs.own.drop
   refine qdr 18 κ C_74 hs fun w hs hqC_74 => ?_
   have hcl := qO hC_74 hs.own.drop
   refine qdp (fuel := 5) [0, 1, 2, 3, 4, 5, 6, 7, 9, 10, 11, 14, 15, 16] hs hcl hqC_74 fun a hs => ?_
   obtain ⟨v_76, h_75, hm⟩ := bind_t hm
   refine qdi 8 3 hs hcl hqC_74 hC_74 rfl h_75 fun a hs => ?_
   obtain ⟨v_78, h_77, hm⟩ := bind_t hm
   refine qdi 12 2 hs hcl hqC_74 hC_74 rfl h_77 fun a hs => ?_
   obtain ⟨v_81, h_80, hm⟩ := bind_t hm
   refine qdc 13 (wire_Machine_Two.ok _ _ _ _ _ _ _ h_80 _ _ _ b_x0 hs.own) hs fun w a hs => ?_
   replace hcl := qO hC_74 hs.own.drop
   refine ⟨fun _ => hcl, ?_⟩
   refine qdp (fuel := 1) [17] hs hcl hqC_74 fun a hs => ?_
   refine qsd 18 1 2 (ci v_81.1) hs rfl fun a w hs => ?_
   refine ⟨fun h => absurd h (by decide), ?_⟩
   replace hs := hs.pick [0, 4, 5, 7, 8, 11, 40, 41, 44, 45] (L' := [(0, pp b_x0), (4, pp b_20), (5, pp b_21), (7, pp b_24), (8, vi 2), (11, vi 0), (40, vi 2), (41, vi 0), (44, vi 2), (45, vi 0)]) (by kernel_rfl)
   refine Vk.dDone (by kernel_rfl) ?_
   refine hK72 _ _ ?_
   clear hK72
   refine Vk.region ?_
   refine qpk 2 [0, 4, 5, 7, 8, 11, 40, 41, 44, 45] hs fun a hs => hKL69 _ _ ?_
   clear hKL69
   refine Vk.unroll fun KL82 hKL82 => ?_
   refine qsk 1 [0, 4, 5, 7, 8, 11, 40, 41, 44, 45, 46] hs fun a hs => ?_
   refine qck hs ?_
   refine Vk.seq fun K85 hK85 => ?_
   refine wp_block ?_
   refine qse 2 [(0, pp b_x0), (4, pp b_20), (5, pp b_21), (7, pp b_24), (8, vi 2), (11, vi 0), (12, vi 1), (40, vi 2), (41, vi 0), (44, vi 2), (45, vi 1)] hs fun a hs => ?_
   obtain ⟨C_87, hC_87⟩ := qC hs.own.drop
   refine qdr 18 κ C_87 hs fun w hs hqC_87 => ?_
   have hcl := qO hC_87 hs.own.drop
   refine qdp (fuel := 5) [0, 1, 2, 3, 4, 5, 6, 7, 9, 10, 11, 14, 15, 16] hs hcl hqC_87 fun a hs => ?_
   obtain ⟨v_89, h_88, hm⟩ := bind_t hm
   refine qdi 8 3 hs hcl hqC_87 hC_87 rfl h_88 fun a hs => ?_
   obtain ⟨v_91, h_90, hm⟩ := bind_t hm
   refine qdi 12 2 hs hcl hqC_87 hC_87 rfl h_90 fun a hs => ?_
   obtain ⟨v_94, h_93, hm⟩ := bind_t hm
   refine qdc 13 (wire_Machine_Two.ok _ _ _ _ _ _ _ h_93 _ _ _ b_x0 hs.own) hs fun w a hs => ?_
   replace hcl := qO hC_87 hs.own.drop
   refine ⟨fun _ => hcl, ?_⟩
   refine qdp (fuel := 1) [17] hs hcl hqC_87 fun a hs => ?_
   refine qsd 18 1 3 (ci v_94.1) hs rfl fun a w hs => ?_
   refine ⟨fun h => absurd h (by decide), ?_⟩
   replace hs := hs.pick [0, 4, 5, 7, 8, 11, 40, 41, 44, 45] (L' := [(0, pp b_x0), (4, pp b_20), (5, pp b_21), (7, pp b_24), (8, vi 2), (11, vi 0), (40, vi 2), (41, vi 0), (44, vi 2), (45, vi 1)]) (by kernel_rfl)
   refine Vk.dDone (by kernel_rfl) ?_
   refine hK85 _ _ ?_
   clear hK85
   refine Vk.region ?_
   refine qpk 2 [0, 4, 5, 7, 8, 11, 40, 41, 44, 45] hs fun a hs => hKL82 _ _ ?_
   clear hKL82
   refine Vk.unroll fun KL95 hKL95 => ?_
   refine qsk 1 [0, 4, 5, 7, 8, 11, 40, 41, 44, 45, 46] hs fun a hs => ?_
   refine Vk.seq fun K97 hK97 => ?_
   refine qcf hs ?_
   refine wp_exit ?_
   refine hK66 _ _ ?_
   clear hK66
   refine Vk.region ?_
   refine qpk 2 [0, 4, 5, 7, 8, 40, 41] hs fun a hs => hKL63 _ _ ?_
   clear hKL63
   refine Vk.unroll fun KL98 hKL98 => ?_
   refine qsk 1 [0, 4, 5, 7, 8, 40, 41, 42] hs fun a hs => ?_
   refine qck hs ?_
   refine Vk.seq fun K101 hK101 => ?_
   refine wp_block ?_
   refine qsk 2 [0, 4, 5, 7, 8, 11, 40, 41] hs fun a hs => ?_
   refine qse 2 [(0, pp b_x0), (4, pp b_20), (5, pp b_21), (7, pp b_24), (8, vi 2), (11, vi 1), (40, vi 2), (41, vi 1), (44, vi 2), (45, vi 0)] hs fun a hs => ?_
   refine wp_block ?_
   refine Vk.unroll0 40 ?_
   refine Vk.unroll fun KL104 hKL104 => ?_
   refine qsk 1 [0, 4, 5, 7, 8, 11, 40, 41, 44, 45, 46] hs fun a hs => ?_
   refine qck hs ?_
   refine Vk.seq fun K107 hK107 => ?_
   refine wp_block ?_
   refine qsk 2 [0, 4, 5, 7, 8, 11, 12, 40, 41, 44, 45] hs fun a hs => ?_
   obtain ⟨C_109, hC_109⟩ := qC hs.own.drop
   refine qdr 18 κ C_109 hs fun w hs hqC_109 => ?_
   have hcl := qO hC_109 hs.own.drop
   refine qdp (fuel := 5) [0, 1, 2, 3, 4, 5, 6, 7, 9, 10, 11, 14, 15, 16] hs hcl hqC_109 fun a hs => ?_
   obtain ⟨v_111, h_110, hm⟩ := bind_t hm
   refine qdi 8 3 hs hcl hqC_109 hC_109 rfl h_110 fun a hs => ?_
   obtain ⟨v_113, h_112, hm⟩ := bind_t hm
   refine qdi 12 2 hs hcl hqC_109 hC_109 rfl h_112 fun a hs => ?_
   obtain ⟨v_116, h_115, hm⟩ := bind_t hm
   refine qdc 13 (wire_Machine_Two.ok _ _ _ _ _ _ _ h_115 _ _ _ b_x0 hs.own) hs fun w a hs => ?_
   replace hcl := qO hC_109 hs.own.drop
   refine ⟨fun _ => hcl, ?_⟩
   refine qdp (fuel := 1) [17] hs hcl hqC_109 fun a hs => ?_
   refine qsd 18 1 5 (ci v_116.1) hs rfl fun a w hs => ?_
   refine ⟨fun h => absurd h (by decide), ?_⟩
   replace hs := hs.pick [0, 4, 5, 7, 8, 11, 40, 41, 44, 45] (L' := [(0, pp b_x0), (4, pp b_20), (5, pp b_21), (7, pp b_24), (8, vi 2), (11, vi 1), (40, vi 2), (41, vi 1), (44, vi 2), (45, vi 0)]) (by kernel_rfl)
   refine Vk.dDone (by kernel_rfl) ?_
   refine hK107 _ _ ?_
   clear hK107
   refine Vk.region ?_
   refine qpk 2 [0, 4, 5, 7, 8, 11, 40, 41, 44, 45] hs fun a hs => hKL104 _ _ ?_
   clear hKL104
   refine Vk.unroll fun KL117 hKL117 => ?_
   refine qsk 1 [0, 4, 5, 7, 8, 11, 40, 41, 44, 45, 46] hs fun a hs => ?_
   refine qck hs ?_
   refine Vk.seq fun K120 hK120 => ?_
   refine wp_block ?_
   refine qsk 2 [0, 4, 5, 7, 8, 11, 12, 40, 41, 44, 45] hs fun a hs => ?_
   obtain ⟨C_122, hC_122⟩ := qC hs.own.drop
   refine qdr 18 κ C_122 hs fun w hs hqC_122 => ?_
   have hcl := qO hC_122 hs.own.drop
   refine qdp (fuel := 5) [0, 1, 2, 3, 4, 5, 6, 7, 9, 10, 11, 14, 15, 16] hs hcl hqC_122 fun a hs => ?_
   obtain ⟨v_124, h_123, hm⟩ := bind_t hm
   refine qdi 8 3 hs hcl hqC_122 hC_122 rfl h_123 fun a hs => ?_
   obtain ⟨v_126, h_125, hm⟩ := bind_t hm
   refine qdi 12 2 hs hcl hqC_122 hC_122 rfl h_125 fun a hs => ?_
   obtain ⟨v_129, h_128, hm⟩ := bind_t hm
   refine qdc 13 (wire_Machine_Two.ok _ _ _ _ _ _ _ h_128 _ _ _ b_x0 hs.own) hs fun w a hs => ?_
   replace hcl := qO hC_122 hs.own.drop
   refine ⟨fun _ => hcl, ?_⟩
   refine qdp (fuel := 1) [17] hs hcl hqC_122 fun a hs => ?_
   refine qsd 18 1 6 (ci v_129.1) hs rfl fun a w hs => ?_
   refine ⟨fun h => absurd h (by decide), ?_⟩
   replace hs := hs.pick [0, 4, 5, 7, 8, 11, 40, 41, 44, 45] (L' := [(0, pp b_x0), (4, pp b_20), (5, pp b_21), (7, pp b_24), (8, vi 2), (11, vi 1), (40, vi 2), (41, vi 1), (44, vi 2), (45, vi 1)]) (by kernel_rfl)
   refine Vk.dDone (by kernel_rfl) ?_
   refine hK120 _ _ ?_
   clear hK120
   refine Vk.region ?_
   refine qpe 2 [(0, pp b_x0), (4, pp b_20), (5, pp b_21), (7, pp b_24), (8, vi 2), (11, vi 1), (40, vi 2), (41, vi 1), (44, vi 2), (45, vi 2)] hs fun a hs => hKL117 _ _ ?_
   clear hKL117
   refine Vk.unroll fun KL130 hKL130 => ?_
   refine qsk 1 [0, 4, 5, 7, 8, 11, 40, 41, 44, 45, 46] hs fun a hs => ?_
   refine Vk.seq fun K132 hK132 => ?_
   refine qcf hs ?_
   refine wp_exit ?_
   refine hK101 _ _ ?_
   clear hK101
   refine Vk.region ?_
   refine qpk 2 [0, 4, 5, 7, 8, 40, 41] hs fun a hs => hKL98 _ _ ?_
   clear hKL98
   refine Vk.unroll fun KL133 hKL133 => ?_
   refine qsk 1 [0, 4, 5, 7, 8, 40, 41, 42] hs fun a hs => ?_
   refine Vk.seq fun K135 hK135 => ?_
   refine qcf hs ?_
   refine wp_exit ?_
   refine hK61 _ _ ?_
   clear hK61
   refine qse 2 [(6, pp b_24)] hs fun a hs => ?_
   refine wp_ret ?_
   refine hKP18 _ _ ?_
   refine hKR18 _ _ ?_
   refine Vk.ret1 (P := Tryz.prog) (fn := Tryz.f132) (pp b_24) hs rfl (by kernel_rfl) ⟨_, _, _, rfl, hs.own, fun a hs => ?_⟩
   refine qpk 1 [0, 6, 7] hs fun a hs => hK15 _ _ ?_
   clear hK15
   refine qsr fun K137 hK137 => ?_
   refine qpu 3 hs fun a hs => ?_
   refine Vk.step (Vk.call (some 23) 133 #[pp b_24, .func (.func 135) #[pp b_24] #[]] hs (by kernel_rfl) (by kernel_rfl) (by kernel_rfl) ?_)
   refine Vk.enterI [(0, pp b_24), (1, .func (.func 135) #[pp b_24] #[])] Tryz.func133 rfl Tryz.ntmps133 (by kernel_rfl) (Nat.le_of_ble_eq_true (by kernel_rfl)) hs.own fun KR138 hKR138 hKP138 a hs => ?_
   refine qsr fun K139 hK139 => ?_
   refine qal 75 [ci 0, ci 0, ci 0] 4 hs fun b_140 w a hs => ?_
   refine qpk 0 [0, 1, 4] hs fun a hs => hK139 _ _ ?_
   clear hK139
   refine qsr fun K141 hK141 => ?_
   refine qpu 2 hs fun a hs => ?_
   refine qal 75 [ci 0, ci 0, ci 0] 5 hs fun b_142 w a hs => ?_
   refine qsa 0 [ci (-1), ci (-1), ci (-1)] hs rfl fun a w hs => ?_
   refine qpe 0 [(0, pp b_24), (1, .func (.func 135) #[pp b_24] #[]), (4, pp b_140), (5, pp b_142)] hs fun a hs => hK141 _ _ ?_
   clear hK141
   refine qsr fun K143 hK143 => ?_
   refine qpu 3 hs fun a hs => ?_
   refine qld 3 (cp b_x0) hs rfl fun a hs => ?_
   obtain ⟨g_144, hs⟩ := hs.unex 2 rfl
   obtain ⟨v_147, h_146, hm⟩ := bind_t hm
   refine qcl (wire_Machine_N.ok _ _ _ h_146 _ _ _ b_x0 g_144 hs.own.f2) hs fun w a hs => ?_
   rcases Bool.eq_false_or_eq_true (v_147 == 2) with hb | hb
   ·replace hm := bif_t hm hb
    obtain rfl := Vk.of_beq hb
    refine qpk 1 [0, 1, 4, 5, 6] hs fun a hs => hK143 _ _ ?_
    clear hK143
    refine Vk.seq fun K148 hK148 => ?_
    refine qsk 2 [0, 1, 4, 5, 6, 16, 17] hs fun a hs => ?_
    refine wp_block ?_
    refine Vk.unroll0 40 ?_
    refine Vk.unroll fun KL150 hKL150 => ?_
    refine qsk 1 [0, 1, 4, 5, 6, 16, 17, 18] hs fun a hs => ?_
    refine qck hs ?_
    refine Vk.seq fun K153 hK153 => ?_
    refine wp_block ?_
    refine qsk 2 [0, 1, 4, 5, 6, 7, 16, 17] hs fun a hs => ?_
    refine qsr fun K155 hK155 => ?_
    refine qpu 8 hs fun a hs => ?_
    refine qld 3 (ci v_81.1) hs rfl fun a hs => ?_
    refine qpu 2 hs fun a hs => ?_
    refine qst 1 0 (ci v_81.1) hs rfl fun a w hs => ?_
    refine qpk 0 [0, 1, 4, 5, 6, 7, 16, 17] hs fun a hs => hK155 _ _ ?_
    clear hK155
    refine qse 2 [(0, pp b_24), (1, .func (.func 135) #[pp b_24] #[]), (4, pp b_140), (5, pp b_142), (6, vi 2), (7, vi 0), (16, vi 2), (17, vi 0), (31, vi 2), (32, vi 0)] hs fun a hs => ?_
    refine wp_block ?_
    refine Vk.unroll0 40 ?_
    refine Vk.unroll fun KL157 hKL157 => ?_
    refine qsk 1 [0, 1, 4, 5, 6, 7, 16, 17, 31, 32, 33] hs fun a hs => ?_
    refine qck hs ?_
    refine Vk.seq fun K160 hK160 => ?_
    refine wp_block ?_
    refine qsk 2 [0, 1, 4, 5, 6, 7, 8, 16, 17, 31, 32] hs fun a hs => ?_
    refine qsk 3 [0, 1, 4, 5, 6, 7, 8, 16, 17, 31, 32, 37] hs fun a hs => ?_
    refine qcf hs ?_
    refine wp_skip ?_
    refine hK160 _ _ ?_
    clear hK160
    refine Vk.region ?_
    refine qpk 2 [0, 1, 4, 5, 6, 7, 16, 17, 31, 32] hs fun a hs => hKL157 _ _ ?_
    clear hKL157
    refine Vk.unroll fun KL163 hKL163 => ?_
    refine qsk 1 [0, 1, 4, 5, 6, 7, 16, 17, 31, 32, 33] hs fun a hs => ?_
    refine qck hs ?_
    refine Vk.seq fun K166 hK166 => ?_
    refine wp_block ?_
    refine qse 2 [(0, pp b_24), (1, .func (.func 135) #[pp b_24] #[]), (4, pp b_140), (5, pp b_142), (6, vi 2), (7, vi 0), (8, vi 1), (16, vi 2), (17, vi 0), (31, vi 2), (32, vi 1)] hs fun a hs => ?_
    refine qsk 3 [0, 1, 4, 5, 6, 7, 8, 16, 17, 31, 32, 37] hs fun a hs => ?_
    refine qct hs ?_
    obtain ⟨C_169, hC_169⟩ := qC hs.own.drop
    refine qdr 17 κ C_169 hs fun w hs hqC_169 => ?_
    have hcl := qO hC_169 hs.own.drop
    refine qdp (fuel := 6) [0, 1, 2, 3, 5, 6, 7, 8, 10, 11, 12, 15] hs hcl hqC_169 fun a hs => ?_
    refine qdl 4 2 (cp b_x0) hs hcl hqC_169 hC_169 rfl fun a hs => ?_
    refine qdl 9 0 (ci v_81.1) hs hcl hqC_169 hC_169 rfl fun a hs => ?_
    refine Vk.dOnly (i := 13) (by kernel_rfl) (Vk.call (some 51) 135 #[pp b_24, vi 0, vi 1] hs (by kernel_rfl) (by kernel_rfl) (by kernel_rfl) ?_)
    refine Vk.enterI [(0, pp b_24), (1, vi 0), (2, vi 1)] Tryz.func135 rfl Tryz.ntmps135 (by kernel_rfl) (Nat.le_of_ble_eq_true (by kernel_rfl)) hs.own fun KR170 hKR170 hKP170 a hs => ?_
    refine qsk 1 [0, 1, 2] hs fun a hs => ?_
    refine Vk.seq fun K172 hK172 => ?_
    refine qsk 3 [0, 1, 2, 9] hs fun a hs => ?_
    refine qct hs ?_
    refine qsr fun K174 hK174 => ?_
    refine qpu 3 hs fun a hs => ?_
    refine Vk.step (Vk.call (some 13) 147 #[pp b_24, vi 0, vi 1] hs (by kernel_rfl) (by kernel_rfl) (by kernel_rfl) ?_)
    refine Vk.enterI [(0, pp b_24), (1, vi 0), (2, vi 1)] Tryz.func147 rfl Tryz.ntmps147 (by kernel_rfl) (Nat.le_of_ble_eq_true (by kernel_rfl)) hs.own fun KR175 hKR175 hKP175 a hs => ?_
    refine qsk 1 [0, 1, 2] hs fun a hs => ?_
    refine qsr fun K177 hK177 => ?_
    refine qpu 3 hs fun a hs => ?_
    refine qld 3 (C.map (some b_23)) hs rfl fun a hs => ?_
    refine qpu 7 hs fun a hs => ?_
    refine qva (vi v_45.1) (op := (.lookup 197 (.tmp 10) (.tmp 17) false)) hs (fun o ho => run_lookup (b := b_23) (key := .agg (vals [ci 0, ci 1])) 4 rfl ho (by kernel_rfl) (by kernel_rfl) (by kernel_rfl) _ hs.own) fun a hs => ?_
    refine qpe 1 [(6, vi v_45.1)] hs fun a hs => hK177 _ _ ?_
    clear hK177
    refine wp_ret ?_
    refine hKP175 _ _ ?_
    refine hKR175 _ _ ?_
    refine Vk.ret1 (P := Tryz.prog) (fn := Tryz.f147) (vi v_45.1) hs rfl (by kernel_rfl) ⟨_, _, _, rfl, hs.own, fun a hs => ?_⟩
    refine qpe 1 [(6, vi v_45.1)] hs fun a hs => hK174 _ _ ?_
    clear hK174
    refine wp_ret ?_
    refine hKP170 _ _ ?_
    refine hKR170 _ _ ?_
    refine Vk.ret1 (P := Tryz.prog) (fn := Tryz.f135) (vi v_45.1) hs rfl (by kernel_rfl) ⟨_, _, _, rfl, hs.own, fun a hs => ?_⟩
    replace hcl := qO hC_169 hs.own.drop
    refine ⟨fun _ => hcl, ?_⟩
    replace hs := hs.toEx (Twire_Machine.parts b_x0 v_129.2) g_144 0 rfl
    obtain ⟨v_180, h_179, hm⟩ := bind_t hm
    refine qdc 14 (wire_Machine_Two.ok _ _ _ _ _ _ _ h_179 _ _ _ b_x0 hs.own) hs fun w a hs => ?_
    replace hcl := qO hC_169 hs.own.drop
    refine ⟨fun _ => hcl, ?_⟩
    refine qdp (fuel := 1) [16] hs hcl hqC_169 fun a hs => ?_
    refine qsd 17 1 0 (ci v_180.1) hs rfl fun a w hs => ?_
    refine ⟨fun h => absurd h (by decide), ?_⟩
    replace hs := hs.pick [0, 1, 4, 5, 6, 7, 16, 17, 31, 32] (L' := [(0, pp b_24), (1, .func (.func 135) #[pp b_24] #[]), (4, pp b_140), (5, pp b_142), (6, vi 2), (7, vi 0), (16, vi 2), (17, vi 0), (31, vi 2), (32, vi 1)]) (by kernel_rfl)
    refine Vk.dDone (by kernel_rfl) ?_
    refine hK166 _ _ ?_
    clear hK166
    refine Vk.region ?_
    refine qpk 2 [0, 1, 4, 5, 6, 7, 16, 17, 31, 32] hs fun a hs => hKL163 _ _ ?_
    clear hKL163
    refine Vk.unroll fun KL181 hKL181 => ?_
    refine qsk 1 [0, 1, 4, 5, 6, 7, 16, 17, 31, 32, 33] hs fun a hs => ?_
    refine Vk.seq fun K183 hK183 => ?_
    refine qcf hs ?_
    refine wp_exit ?_
    refine hK153 _ _ ?_
    clear hK153
    refine Vk.region ?_
    refine qpk 2 [0, 1, 4, 5, 6, 16, 17] hs fun a hs => hKL150 _ _ ?_
    clear hKL150
    refine Vk.unroll fun KL184 hKL184 => ?_
    refine qsk 1 [0, 1, 4, 5, 6, 16, 17, 18] hs fun a hs => ?_
    refine qck hs ?_
    refine Vk.seq fun K187 hK187 => ?_
    refine wp_block ?_
    refine qsk 2 [0, 1, 4, 5, 6, 7, 16, 17] hs fun a hs => ?_
    refine qsr fun K189 hK189 => ?_
    refine qpu 8 hs fun a hs => ?_
    refine qld 3 (ci v_129.1) hs rfl fun a hs => ?_
    refine qpu 2 hs fun a hs => ?_
    refine qst 1 1 (ci v_129.1) hs rfl fun a w hs => ?_
    refine qpe 0 [(0, pp b_24), (1, .func (.func 135) #[pp b_24] #[]), (4, pp b_140), (5, pp b_142), (6, vi 2), (7, vi 1), (16, vi 2), (17, vi 1)] hs fun a hs => hK189 _ _ ?_
    clear hK189
    refine qsk 2 [0, 1, 4, 5, 6, 7, 16, 17, 31, 32] hs fun a hs => ?_
    refine wp_block ?_
    refine Vk.unroll0 40 ?_
    refine Vk.unroll fun KL191 hKL191 => ?_
    refine qsk 1 [0, 1, 4, 5, 6, 7, 16, 17, 31, 32, 33] hs fun a hs => ?_
    refine qck hs ?_
    refine Vk.seq fun K194 hK194 => ?_
    refine wp_block ?_
    refine qsk 2 [0, 1, 4, 5, 6, 7, 8, 16, 17, 31, 32] hs fun a hs => ?_
    refine qsk 3 [0, 1, 4, 5, 6, 7, 8, 16, 17, 31, 32, 37] hs fun a hs => ?_
    refine qct hs ?_
    obtain ⟨C_197, hC_197⟩ := qC hs.own.drop
    refine qdr 17 κ C_197 hs fun w hs hqC_197 => ?_
    have hcl := qO hC_197 hs.own.drop
    refine qdp (fuel := 6) [0, 1, 2, 3, 5, 6, 7, 8, 10, 11, 12, 15] hs hcl hqC_197 fun a hs => ?_
    refine qdl 4 2 (cp b_x0) hs hcl hqC_197 hC_197 rfl fun a hs => ?_
    refine qdl 9 0 (ci v_129.1) hs hcl hqC_197 hC_197 rfl fun a hs => ?_
    refine Vk.dOnly (i := 13) (by kernel_rfl) (Vk.call (some 51) 135 #[pp b_24, vi 1, vi 0] hs (by kernel_rfl) (by kernel_rfl) (by kernel_rfl) ?_)
    refine Vk.enterI [(0, pp b_24), (1, vi 1), (2, vi 0)] Tryz.func135 rfl Tryz.ntmps135 (by kernel_rfl) (Nat.le_of_ble_eq_true (by kernel_rfl)) hs.own fun KR198 hKR198 hKP198 a hs => ?_
    refine qsk 1 [0, 1, 2] hs fun a hs => ?_
    refine Vk.seq fun K200 hK200 => ?_
    refine qse 3 [(0, pp b_24), (1, vi 1), (2, vi 0), (9, .bool false)] hs fun a hs => ?_
    refine qcf hs ?_
    refine wp_skip ?_
    refine hK200 _ _ ?_
    clear hK200
    refine Vk.seq fun K202 hK202 => ?_
    obtain ⟨C_203, hC_203⟩ := qC hs.own.drop
    refine qdr 33 κ C_203 hs fun w hs hqC_203 => ?_
    have hcl := qO hC_203 hs.own.drop
    refine qdp (fuel := 8) [0, 1, 2, 4, 5, 6, 7, 9, 10, 11, 12, 14, 15, 16, 17, 18, 19, 20, 23, 24, 25, 26, 27, 28, 29] hs hcl hqC_203 fun a hs => ?_
    refine qdl 3 2 (cp b_x0) hs hcl hqC_203 hC_203 rfl fun a hs => ?_
    refine qdl 8 2 (cp b_x0) hs hcl hqC_203 hC_203 rfl fun a hs => ?_
    refine qdl 21 2 (ci v_94.1) hs hcl hqC_203 hC_203 rfl fun a hs => ?_
    refine qdl 30 2 (ci v_116.1) hs hcl hqC_203 hC_203 rfl fun a hs => ?_
    refine Vk.dOnly (i := 13) (by kernel_rfl) (Vk.call (some 27) 147 #[pp b_24, vi 0, vi 1] hs (by kernel_rfl) (by kernel_rfl) (by kernel_rfl) ?_)
    refine Vk.enterI [(0, pp b_24), (1, vi 0), (2, vi 1)] Tryz.func147 rfl Tryz.ntmps147 (by kernel_rfl) (Nat.le_of_ble_eq_true (by kernel_rfl)) hs.own fun KR204 hKR204 hKP204 a hs => ?_
    refine qsk 1 [0, 1, 2] hs fun a hs => ?_
    refine qsr fun K206 hK206 => ?_
    refine qpu 3 hs fun a hs => ?_
    refine qld 3 (C.map (some b_23)) hs rfl fun a hs => ?_
    refine qpu 7 hs fun a hs => ?_
    refine qva (vi v_45.1) (op := (.lookup 197 (.tmp 10) (.tmp 17) false)) hs (fun o ho => run_lookup (b := b_23) (key := .agg (vals [ci 0, ci 1])) 4 rfl ho (by kernel_rfl) (by kernel_rfl) (by kernel_rfl) _ hs.own) fun a hs => ?_
    refine qpe 1 [(6, vi v_45.1)] hs fun a hs => hK206 _ _ ?_
    clear hK206
    refine wp_ret ?_
    refine hKP204 _ _ ?_
    refine hKR204 _ _ ?_
    refine Vk.ret1 (P := Tryz.prog) (fn := Tryz.f147) (vi v_45.1) hs rfl (by kernel_rfl) ⟨_, _, _, rfl, hs.own, fun a hs => ?_⟩
    replace hcl := qO hC_203 hs.own.drop
    refine ⟨fun _ => hcl, ?_⟩
    obtain ⟨v_209, h_208, hm⟩ := bind_t hm
    refine qdc 22 (wire_Machine_Two.ok _ _ _ _ _ _ _ h_208 _ _ _ b_x0 hs.own) hs fun w a hs => ?_
    replace hcl := qO hC_203 hs.own.drop
    refine ⟨fun _ => hcl, ?_⟩
    obtain ⟨v_212, h_211, hm⟩ := bind_t hm
    refine qdc 31 (wire_Machine_Two.ok _ _ _ _ _ _ _ h_211 _ _ _ b_x0 hs.own) hs fun w a hs => ?_
    replace hcl := qO hC_203 hs.own.drop
    refine ⟨fun _ => hcl, ?_⟩
    refine qdp (fuel := 0) [32] hs hcl hqC_203 fun a hs => ?_
    replace hs := hs.pick [6] (L' := [(6, vi v_212.1)]) (by kernel_rfl)
    refine Vk.dDone (by kernel_rfl) ?_
    refine hK202 _ _ ?_
    clear hK202
    refine wp_ret ?_
    refine hKP198 _ _ ?_
    refine hKR198 _ _ ?_
    refine Vk.ret1 (P := Tryz.prog) (fn := Tryz.f135) (vi v_212.1) hs rfl (by kernel_rfl) ⟨_, _, _, rfl, hs.own, fun a hs => ?_⟩
    replace hcl := qO hC_197 hs.own.drop
    refine ⟨fun _ => hcl, ?_⟩
    obtain ⟨v_215, h_214, hm⟩ := bind_t hm
    refine qdc 14 (wire_Machine_Two.ok _ _ _ _ _ _ _ h_214 _ _ _ b_x0 hs.own) hs fun w a hs => ?_
    replace hcl := qO hC_197 hs.own.drop
    refine ⟨fun _ => hcl, ?_⟩
    refine qdp (fuel := 1) [16] hs hcl hqC_197 fun a hs => ?_
    refine qsd 17 1 1 (ci v_215.1) hs rfl fun a w hs => ?_
    refine ⟨fun h => absurd h (by decide), ?_⟩
    replace hs := hs.pick [0, 1, 4, 5, 6, 7, 16, 17, 31, 32] (L' := [(0, pp b_24), (1, .func (.func 135) #[pp b_24] #[]), (4, pp b_140), (5, pp b_142), (6, vi 2), (7, vi 1), (16, vi 2), (17, vi 1), (31, vi 2), (32, vi 0)]) (by kernel_rfl)
    refine Vk.dDone (by kernel_rfl) ?_
    refine hK194 _ _ ?_
    clear hK194
    refine Vk.region ?_
    refine qpk 2 [0, 1, 4, 5, 6, 7, 16, 17, 31, 32] hs fun a hs => hKL191 _ _ ?_
    clear hKL191
    refine Vk.unroll fun KL216 hKL216 => ?_
    refine qsk 1 [0, 1, 4, 5, 6, 7, 16, 17, 31, 32, 33] hs fun a hs => ?_
    refine qck hs ?_
    refine Vk.seq fun K219 hK219 => ?_
    refine wp_block ?_
    refine qsk 2 [0, 1, 4, 5, 6, 7, 8, 16, 17, 31, 32] hs fun a hs => ?_
    refine qsk 3 [0, 1, 4, 5, 6, 7, 8, 16, 17, 31, 32, 37] hs fun a hs => ?_
    refine qcf hs ?_
    refine wp_skip ?_
    refine hK219 _ _ ?_
    clear hK219
    refine Vk.region ?_
    refine qpk 2 [0, 1, 4, 5, 6, 7, 16, 17, 31, 32] hs fun a hs => hKL216 _ _ ?_
    clear hKL216
    refine Vk.unroll fun KL222 hKL222 => ?_
    refine qse 1 [(0, pp b_24), (1, .func (.func 135) #[pp b_24] #[]), (4, pp b_140), (5, pp b_142), (6, vi 2), (7, vi 1), (16, vi 2), (17, vi 1), (31, vi 2), (32, vi 2), (33, .bool false)] hs fun a hs => ?_
    refine Vk.seq fun K224 hK224 => ?_
    refine qcf hs ?_
    refine wp_exit ?_
    refine hK187 _ _ ?_
    clear hK187
    refine Vk.region ?_
    refine qpk 2 [0, 1, 4, 5, 6, 16, 17] hs fun a hs => hKL184 _ _ ?_
    clear hKL184
    refine Vk.unroll fun KL225 hKL225 => ?_
    refine qsk 1 [0, 1, 4, 5, 6, 16, 17, 18] hs fun a hs => ?_
    refine Vk.seq fun K227 hK227 => ?_
    refine qcf hs ?_
    refine wp_exit ?_
    refine hK148 _ _ ?_
    clear hK148
    refine qsr fun K228 hK228 => ?_
    refine qln 1 ([ci v_180.1, ci v_215.1, ci (-1)]) hs rfl fun a hs => ?_
    refine qsa 2 [ci v_180.1, ci v_215.1, ci (-1)] hs rfl fun a w hs => ?_
    refine qpe 0 [(4, pp b_140)] hs fun a hs => hK228 _ _ ?_
    clear hK228
    refine wp_ret ?_
    refine hKP138 _ _ ?_
    refine hKR138 _ _ ?_
    refine Vk.retC (P := Tryz.prog) (fn := Tryz.f133) [ci v_180.1, ci v_215.1, ci (-1)] hs rfl (by kernel_rfl) (sz := 3) (by kernel_rfl) rfl (CellsAt.all 2 rfl) ⟨_, _, _, rfl, hs.own, fun a hs => ?_⟩
    refine qal 75 [ci 0, ci 0, ci 0] 8 hs fun b_229 w a hs => ?_
    refine qsa 0 [ci v_180.1, ci v_215.1, ci (-1)] hs rfl fun a w hs => ?_
    refine qpk 0 [0, 6, 8] hs fun a hs => hK137 _ _ ?_
    clear hK137
    refine qsr fun K230 hK230 => ?_
    refine qpu 1 hs fun a hs => ?_
    obtain ⟨v_233, h_232, hm⟩ := bind_t hm
    refine qcl (wire_Machine_End.ok _ _ _ h_232 _ _ _ b_x0 hs.own.f1) hs fun w a hs => ?_
    refine qpe 0 [(6, pp b_4), (8, pp b_229)] hs fun a hs => hK230 _ _ ?_
    clear hK230
    refine qsr fun K234 hK234 => ?_
    refine qln 1 ([ci v_180.1, ci v_215.1, ci (-1)]) hs rfl fun a hs => ?_
    refine qsa 8 [ci v_180.1, ci v_215.1, ci (-1)] hs rfl fun a w hs => ?_
    refine qpe 0 [(6, pp b_4)] hs fun a hs => hK234 _ _ ?_
    clear hK234
    refine wp_ret ?_
    exact Vk.retC [ci v_180.1, ci v_215.1, ci (-1)] hs rfl (by kernel_rfl) (sz := 3) (by kernel_rfl) rfl (CellsAt.all 8 rfl) (hRR ▸ by cases hm; exact ⟨rfl, (hs.own.too [0] 11)⟩)
   ·replace hm := bif_f hm hb
    cases hm
  ·replace hm := bif_f hm hb
   cases hm
 ·replace hm := bif_f hm hb
  rcases Bool.eq_false_or_eq_true (v_10 == 3) with hb | hb
  ·replace hm := bif_t hm hb
   obtain rfl := Vk.of_beq hb
   refine qpk 1 [0, 4, 5, 6, 11] hs fun a hs => hK6 _ _ ?_
   refine qcf hs ?_
   refine wp_skip ?_
   refine hK5 _ _ ?_
   refine qsr fun K235 hK235 => ?_
   refine qpu 1 hs fun a hs => ?_
   replace hs := hs.toEx (Twire_Machine.parts b_x0 x0) g_7 0 rfl
   obtain ⟨v_238, h_237, hm⟩ := bind_t hm
   refine qcl (wire_Machine_Begin.ok _ _ _ _ h_237 _ _ _ b_x0 hs.own) hs fun w a hs => ?_
   refine qpk 0 [0, 4, 5, 6] hs fun a hs => hK235 _ _ ?_
   clear hK235
   refine qsr fun K239 hK239 => ?_
   refine qpu 1 hs fun a hs => ?_
   obtain ⟨h_240, hm⟩ := ite_t hm
   refine qlw 3 hs rfl h_240 fun a hs => ?_
   obtain ⟨h_241, hm⟩ := ite_t hm
   refine qlw 2 hs rfl h_241 fun a hs => ?_
   refine Vk.step (Vk.call (some 19) 132 #[pp b_x0, .agg (vals x1), .agg (vals x2)] hs (by kernel_rfl) (by kernel_rfl) (by kernel_rfl) ?_)
   refine Vk.enterI [(0, pp b_x0), (1, .agg (vals x1)), (2, .agg (vals x2))] Tryz.func132 rfl Tryz.ntmps132 (by kernel_rfl) (Nat.le_of_ble_eq_true (by kernel_rfl)) hs.own fun KR242 hKR242 hKP242 a hs => ?_
   refine qsr fun K243 hK243 => ?_
   refine qbx 1 75 x1 4 hs fun b_244 w a hs => ?_
   refine qbx 2 75 x2 5 hs fun b_245 w a hs => ?_
   refine qpk 1 [0, 4, 5] hs fun a hs => hK243 _ _ ?_
   clear hK243
   refine qsr fun K246 hK246 => ?_
   refine qpu 1 hs fun a hs => ?_
   refine Vk.step (Vk.mapOp 14 197 hs (by kernel_rfl) (by kernel_rfl) fun b_247 w a hs => ?_)
   refine qpu 1 hs fun a hs => ?_
   refine qbx 15 200 [cp b_x0, C.map (some b_247), ci 0, ci 0, ci 0, ci 0, ci 0, ci 0, ci 0, ci 0, ci 0] 16 hs fun b_248 w a hs => ?_
   refine qpe 1 [(0, pp b_x0), (4, pp b_244), (5, pp b_245), (7, pp b_248)] hs fun a hs => hK246 _ _ ?_
   clear hK246
   refine qsr fun K249 hK249 => ?_
   refine qpu 1 hs fun a hs => ?_
   obtain ⟨g_250, hs⟩ := hs.unex 4 rfl
   obtain ⟨v_253, h_252, hm⟩ := bind_t hm
   refine qcl (wire_Machine_N.ok _ _ _ h_252 _ _ _ b_x0 g_250 hs.own.f4) hs fun w a hs => ?_
   rcases Bool.eq_false_or_eq_true (v_253 == 3) with hb | hb
   ·replace hm := bif_t hm hb
    obtain rfl := Vk.of_beq hb
    refine qpk 1 [0, 4, 5, 7, 8] hs fun a hs => hK249 _ _ ?_
    clear hK249
    refine Vk.seq fun K254 hK254 => ?_
    refine qsk 2 [0, 4, 5, 7, 8, 19, 20] hs fun a hs => ?_
    refine wp_block ?_
    refine Vk.unroll0 40 ?_
    refine Vk.unroll fun KL256 hKL256 => ?_
    refine qsk 1 [0, 4, 5, 7, 8, 19, 20, 21] hs fun a hs => ?_
    refine qck hs ?_
    refine Vk.seq fun K259 hK259 => ?_
    refine wp_block ?_
    refine qsk 2 [0, 4, 5, 7, 8, 9, 19, 20] hs fun a hs => ?_
    refine qsk 3 [0, 4, 5, 7, 8, 9, 10, 19, 20] hs fun a hs => ?_
    refine wp_block ?_
    refine Vk.unroll0 40 ?_
    refine Vk.unroll fun KL262 hKL262 => ?_
    refine Vk.seq fun K263 hK263 => ?_
    refine qse 3 [(0, pp b_x0), (4, pp b_244), (5, pp b_245), (7, pp b_248), (8, vi 3), (9, vi 0), (10, vi 1), (19, vi 3), (20, vi 0), (27, .bool true)] hs fun a hs => ?_
    refine qct hs ?_
    refine wp_skip ?_
    refine hK263 _ _ ?_
    clear hK263
    refine Vk.seq fun K265 hK265 => ?_
    refine wp_block ?_
    obtain ⟨C_266, hC_266⟩ := qC hs.own.drop
    refine qdr 9 κ C_266 hs fun w hs hqC_266 => ?_
    have hcl := qO hC_266 hs.own.drop
    refine qdp (fuel := 3) [0, 1, 2, 4, 5, 6, 7] hs hcl hqC_266 fun a hs => ?_
    refine qdl 3 0 (C.map (some b_247)) hs hcl hqC_266 hC_266 rfl fun a hs => ?_
    replace hs := hs.toEx (Twire_Machine.parts b_x0 v_238) g_250 0 rfl
    obtain ⟨v_269, h_268, hm⟩ := bind_t hm
    refine qdc 8 (wire_Machine_Rand.ok _ _ _ _ h_268 _ _ _ b_x0 hs.own) hs fun w a hs => ?_
    replace hcl := qO hC_266 hs.own.drop
    refine ⟨fun _ => hcl, ?_⟩
    refine Vk.dOnly (i := 9) (by kernel_rfl) (Vk.updateOp (t := 197) (xm := (.tmp 33)) (xk := (.tmp 36)) (xv := (.tmp 38)) (b := b_247) (es' := #[⟨.agg (vals [ci 0, ci 1]), vi v_269.1, 0⟩]) (clock' := 1) (.agg (vals [ci 0, ci 1])) (vi v_269.1) 2 hs (by kernel_rfl) (by kernel_rfl) (by kernel_rfl) (by kernel_rfl) (by kernel_rfl) rfl (by kernel_rfl) fun a w hs => ?_)
    refine ⟨fun h => absurd h (by decide), ?_⟩
    replace hs := hs.pick [0, 4, 5, 7, 8, 9, 10, 19, 20] (L' := [(0, pp b_x0), (4, pp b_244), (5, pp b_245), (7, pp b_248), (8, vi 3), (9, vi 0), (10, vi 1), (19, vi 3), (20, vi 0)]) (by kernel_rfl)
    refine Vk.dDone (by kernel_rfl) ?_
    refine hK265 _ _ ?_
    clear hK265
    refine Vk.region ?_
    refine qpk 3 [0, 4, 5, 7, 8, 9, 10, 19, 20] hs fun a hs => hKL262 _ _ ?_
    clear hKL262
    refine Vk.unroll fun KL270 hKL270 => ?_
    refine Vk.seq fun K271 hK271 => ?_
    refine qsk 3 [0, 4, 5, 7, 8, 9, 10, 19, 20, 27] hs fun a hs => ?_
    refine qct hs ?_
    refine wp_skip ?_
    refine hK271 _ _ ?_
    clear hK271
    refine Vk.seq fun K273 hK273 => ?_
    refine wp_block ?_
    obtain ⟨C_274, hC_274⟩ := qC hs.own.drop
    refine qdr 9 κ C_274 hs fun w hs hqC_274 => ?_
    have hcl := qO hC_274 hs.own.drop
    refine qdp (fuel := 3) [0, 1, 2, 4, 5, 6, 7] hs hcl hqC_274 fun a hs => ?_
    refine qdl 3 0 (C.map (some b_247)) hs hcl hqC_274 hC_274 rfl fun a hs => ?_
    obtain ⟨v_277, h_276, hm⟩ := bind_t hm
    refine qdc 8 (wire_Machine_Rand.ok _ _ _ _ h_276 _ _ _ b_x0 hs.own) hs fun w a hs => ?_
    replace hcl := qO hC_274 hs.own.drop
    refine ⟨fun _ => hcl, ?_⟩
    refine Vk.dOnly (i := 9) (by kernel_rfl) (Vk.updateOp (t := 197) (xm := (.tmp 33)) (xk := (.tmp 36)) (xv := (.tmp 38)) (b := b_247) (es' := #[⟨.agg (vals [ci 0, ci 1]), vi v_269.1, 0⟩, ⟨.agg (vals [ci 0, ci 2]), vi v_277.1, 1⟩]) (clock' := 2) (.agg (vals [ci 0, ci 2])) (vi v_277.1) 2 hs (by kernel_rfl) (by kernel_rfl) (by kernel_rfl) (by kernel_rfl) (by kernel_rfl) rfl (by kernel_rfl) fun a w hs => ?_)
    refine ⟨fun h => absurd h (by decide), ?_⟩
    replace hs := hs.pick [0, 4, 5, 7, 8, 9, 10, 19, 20] (L' := [(0, pp b_x0), (4, pp b_244), (5, pp b_245), (7, pp b_248), (8, vi 3), (9, vi 0), (10, vi 2), (19, vi 3), (20, vi 0)]) (by kernel_rfl)
    refine Vk.dDone (by kernel_rfl) ?_
    refine hK273 _ _ ?_
    clear hK273
    refine Vk.region ?_
    refine qpk 3 [0, 4, 5, 7, 8, 9, 10, 19, 20] hs fun a hs => hKL270 _ _ ?_
    clear hKL270
    refine Vk.unroll fun KL278 hKL278 => ?_
    refine Vk.seq fun K279 hK279 => ?_
    refine qsk 3 [0, 4, 5, 7, 8, 9, 10, 19, 20, 27] hs fun a hs => ?_
    refine qcf hs ?_
    refine wp_exit ?_
    refine hK259 _ _ ?_
    clear hK259
    refine Vk.region ?_
    refine qpk 2 [0, 4, 5, 7, 8, 19, 20] hs fun a hs => hKL256 _ _ ?_
    clear hKL256
    refine Vk.unroll fun KL281 hKL281 => ?_
    refine qse 1 [(0, pp b_x0), (4, pp b_244), (5, pp b_245), (7, pp b_248), (8, vi 3), (19, vi 3), (20, vi 1), (21, .bool true)] hs fun a hs => ?_
    refine qck hs ?_
    refine Vk.seq fun K284 hK284 => ?_
    refine wp_block ?_
    refine qsk 2 [0, 4, 5, 7, 8, 9, 19, 20] hs fun a hs => ?_
    refine qsk 3 [0, 4, 5, 7, 8, 9, 10, 19, 20] hs fun a hs => ?_
    refine wp_block ?_
    refine Vk.unroll0 40 ?_
    refine Vk.unroll fun KL287 hKL287 => ?_
    refine Vk.seq fun K288 hK288 => ?_
    refine qsk 3 [0, 4, 5, 7, 8, 9, 10, 19, 20, 27] hs fun a hs => ?_
    refine qct hs ?_
    refine wp_skip ?_
    refine hK288 _ _ ?_
    clear hK288
    refine Vk.seq fun K290 hK290 => ?_
    refine wp_block ?_
    obtain ⟨C_291, hC_291⟩ := qC hs.own.drop
    refine qdr 9 κ C_291 hs fun w hs hqC_291 => ?_
    have hcl := qO hC_291 hs.own.drop
    refine qdp (fuel := 3) [0, 1, 2, 4, 5, 6, 7] hs hcl hqC_291 fun a hs => ?_
    refine qdl 3 0 (C.map (some b_247)) hs hcl hqC_291 hC_291 rfl fun a hs => ?_
    obtain ⟨v_294, h_293, hm⟩ := bind_t hm
    refine qdc 8 (wire_Machine_Rand.ok _ _ _ _ h_293 _ _ _ b_x0 hs.own) hs fun w a hs => ?_
    replace hcl := qO hC_291 hs.own.drop
    refine ⟨fun _ => hcl, ?_⟩
    refine Vk.dOnly (i := 9) (by kernel_rfl) (Vk.updateOp (t := 197) (xm := (.tmp 33)) (xk := (.tmp 36)) (xv := (.tmp 38)) (b := b_247) (es' := #[⟨.agg (vals [ci 0, ci 1]), vi v_269.1, 0⟩, ⟨.agg (vals [ci 0, ci 2]), vi v_277.1, 1⟩, ⟨.agg (vals [ci 1, ci 2]), vi v_294.1, 2⟩]) (clock' := 3) (.agg (vals [ci 1, ci 2])) (vi v_294.1) 2 hs (by kernel_rfl) (by kernel_rfl) (by kernel_rfl) (by kernel_rfl) (by kernel_rfl) rfl (by kernel_rfl) fun a w hs => ?_)
    refine ⟨fun h => absurd h (by decide), ?_⟩
    replace hs := hs.pick [0, 4, 5, 7, 8, 9, 10, 19, 20] (L' := [(0, pp b_x0), (4, pp b_244), (5, pp b_245), (7, pp b_248), (8, vi 3), (9, vi 1), (10, vi 2), (19, vi 3), (20, vi 1)]) (by kernel_rfl)
    refine Vk.dDone (by kernel_rfl) ?_
    refine hK290 _ _ ?_
    clear hK290
    refine Vk.region ?_
    refine qpk 3 [0, 4, 5, 7, 8, 9, 10, 19, 20] hs fun a hs => hKL287 _ _ ?_
    clear hKL287
    refine Vk.unroll fun KL295 hKL295 => ?_
    refine Vk.seq fun K296 hK296 => ?_
    refine qsk 3 [0, 4, 5, 7, 8, 9, 10, 19, 20, 27] hs fun a hs => ?_
    refine qcf hs ?_
    refine wp_exit ?_
    refine hK284 _ _ ?_
    clear hK284
    refine Vk.region ?_
    refine qpe 2 [(0, pp b_x0), (4, pp b_244), (5, pp b_245), (7, pp b_248), (8, vi 3), (19, vi 3), (20, vi 2)] hs fun a hs => hKL281 _ _ ?_
    clear hKL281
    refine Vk.unroll fun KL298 hKL298 => ?_
    refine qsk 1 [0, 4, 5, 7, 8, 19, 20, 21] hs fun a hs => ?_
    refine qck hs ?_
    refine Vk.seq fun K301 hK301 => ?_
    refine wp_block ?_
    refine qsk 2 [0, 4, 5, 7, 8, 9, 19, 20] hs fun a hs => ?_
    refine qsk 3 [0, 4, 5, 7, 8, 9, 10, 19, 20] hs fun a hs => ?_
    refine wp_block ?_
    refine Vk.unroll0 40 ?_
    refine Vk.unroll fun KL304 hKL304 => ?_
    refine Vk.seq fun K305 hK305 => ?_
    refine qsk 3 [0, 4, 5, 7, 8, 9, 10, 19, 20, 27] hs fun a hs => ?_
    refine qcf hs ?_
    refine wp_exit ?_
    refine hK301 _ _ ?_
    clear hK301
    refine Vk.region ?_
    refine qpk 2 [0, 4, 5, 7, 8, 19, 20] hs fun a hs => hKL298 _ _ ?_
    clear hKL298
    refine Vk.unroll fun KL307 hKL307 => ?_
    refine qse 1 [(0, pp b_x0), (4, pp b_244), (5, pp b_245), (7, pp b_248), (8, vi 3), (19, vi 3), (20, vi 3), (21, .bool false)] hs fun a hs => ?_
    refine Vk.seq fun K309 hK309 => ?_
    refine qcf hs ?_
    refine wp_exit ?_
    refine hK254 _ _ ?_
    clear hK254
    refine Vk.seq fun K310 hK310 => ?_
    refine qsk 2 [0, 4, 5, 7, 8, 40, 41] hs fun a hs => ?_
    refine wp_block ?_
    refine Vk.unroll0 40 ?_
    refine Vk.unroll fun KL312 hKL312 => ?_
    refine qsk 1 [0, 4, 5, 7, 8, 40, 41, 42] hs fun a hs => ?_
    refine qck hs ?_
    refine Vk.seq fun K315 hK315 => ?_
    refine wp_block ?_
    refine qsk 2 [0, 4, 5, 7, 8, 11, 40, 41] hs fun a hs => ?_
    refine qsk 2 [0, 4, 5, 7, 8, 11, 40, 41, 44, 45] hs fun a hs => ?_
    refine wp_block ?_
    refine Vk.unroll0 40 ?_
    refine Vk.unroll fun KL318 hKL318 => ?_
    refine qsk 1 [0, 4, 5, 7, 8, 11, 40, 41, 44, 45, 46] hs fun a hs => ?_
    refine qck hs ?_
    refine Vk.seq fun K321 hK321 => ?_
    refine wp_block ?_
    refine qse 2 [(0, pp b_x0), (4, pp b_244), (5, pp b_245), (7, pp b_248), (8, vi 3), (11, vi 0), (12, vi 0), (40, vi 3), (41, vi 0), (44, vi 3), (45, vi 0)] hs fun a hs => ?_
    obtain ⟨C_323, hC_323⟩ := qC hs.own.drop
    refine qdr 18 κ C_323 hs fun w hs hqC_323 => ?_
    have hcl := qO hC_323 hs.own.drop
    refine qdp (fuel := 5) [0, 1, 2, 3, 4, 5, 6, 7, 9, 10, 11, 14, 15, 16] hs hcl hqC_323 fun a hs => ?_
    obtain ⟨v_325, h_324, hm⟩ := bind_t hm
    refine qdi 8 3 hs hcl hqC_323 hC_323 rfl h_324 fun a hs => ?_
    obtain ⟨v_327, h_326, hm⟩ := bind_t hm
    refine qdi 12 2 hs hcl hqC_323 hC_323 rfl h_326 fun a hs => ?_
    obtain ⟨v_330, h_329, hm⟩ := bind_t hm
    refine qdc 13 (wire_Machine_Two.ok _ _ _ _ _ _ _ h_329 _ _ _ b_x0 hs.own) hs fun w a hs => ?_
    replace hcl := qO hC_323 hs.own.drop
    refine ⟨fun _ => hcl, ?_⟩
    refine qdp (fuel := 1) [17] hs hcl hqC_323 fun a hs => ?_
    refine qsd 18 1 2 (ci v_330.1) hs rfl fun a w hs => ?_
    refine ⟨fun h => absurd h (by decide), ?_⟩
    replace hs := hs.pick [0, 4, 5, 7, 8, 11, 40, 41, 44, 45] (L' := [(0, pp b_x0), (4, pp b_244), (5, pp b_245), (7, pp b_248), (8, vi 3), (11, vi 0), (40, vi 3), (41, vi 0), (44, vi 3), (45, vi 0)]) (by kernel_rfl)
    refine Vk.dDone (by kernel_rfl) ?_
    refine hK321 _ _ ?_
    clear hK321
    refine Vk.region ?_
    refine qpk 2 [0, 4, 5, 7, 8, 11, 40, 41, 44, 45] hs fun a hs => hKL318 _ _ ?_
    clear hKL318
    refine Vk.unroll fun KL331 hKL331 => ?_
    refine qsk 1 [0, 4, 5, 7, 8, 11, 40, 41, 44, 45, 46] hs fun a hs => ?_
    refine qck hs ?_
    refine Vk.seq fun K334 hK334 => ?_
    refine wp_block ?_
    refine qsk 2 [0, 4, 5, 7, 8, 11, 12, 40, 41, 44, 45] hs fun a hs => ?_
    obtain ⟨C_336, hC_336⟩ := qC hs.own.drop
    refine qdr 18 κ C_336 hs fun w hs hqC_336 => ?_
    have hcl := qO hC_336 hs.own.drop
    refine qdp (fuel := 5) [0, 1, 2, 3, 4, 5, 6, 7, 9, 10, 11, 14, 15, 16] hs hcl hqC_336 fun a hs => ?_
    obtain ⟨v_338, h_337, hm⟩ := bind_t hm
    refine qdi 8 3 hs hcl hqC_336 hC_336 rfl h_337 fun a hs => ?_
    obtain ⟨v_340, h_339, hm⟩ := bind_t hm
    refine qdi 12 2 hs hcl hqC_336 hC_336 rfl h_339 fun a hs => ?_
    obtain ⟨v_343, h_342, hm⟩ := bind_t hm
    refine qdc 13 (wire_Machine_Two.ok _ _ _ _ _ _ _ h_342 _ _ _ b_x0 hs.own) hs fun w a hs => ?_
    replace hcl := qO hC_336 hs.own.drop
    refine ⟨fun _ => hcl, ?_⟩
    refine qdp (fuel := 1) [17] hs hcl hqC_336 fun a hs => ?_
    refine qsd 18 1 3 (ci v_343.1) hs rfl fun a w hs => ?_
    refine ⟨fun h => absurd h (by decide), ?_⟩
    replace hs := hs.pick [0, 4, 5, 7, 8, 11, 40, 41, 44, 45] (L' := [(0, pp b_x0), (4, pp b_244), (5, pp b_245), (7, pp b_248), (8, vi 3), (11, vi 0), (40, vi 3), (41, vi 0), (44, vi 3), (45, vi 1)]) (by kernel_rfl)
    refine Vk.dDone (by kernel_rfl) ?_
    refine hK334 _ _ ?_
    clear hK334
    refine Vk.region ?_
    refine qpk 2 [0, 4, 5, 7, 8, 11, 40, 41, 44, 45] hs fun a hs => hKL331 _ _ ?_
    clear hKL331
    refine Vk.unroll fun KL344 hKL344 => ?_
    refine qsk 1 [0, 4, 5, 7, 8, 11, 40, 41, 44, 45, 46] hs fun a hs => ?_
    refine qck hs ?_
    refine Vk.seq fun K347 hK347 => ?_
    refine wp_block ?_
    refine qse 2 [(0, pp b_x0), (4, pp b_244), (5, pp b_245), (7, pp b_248), (8, vi 3), (11, vi 0), (12, vi 2), (40, vi 3), (41, vi 0), (44, vi 3), (45, vi 2)] hs fun a hs => ?_
    obtain ⟨C_349, hC_349⟩ := qC hs.own.drop
    refine qdr 18 κ C_349 hs fun w hs hqC_349 => ?_
    have hcl := qO hC_349 hs.own.drop
    refine qdp (fuel := 5) [0, 1, 2, 3, 4, 5, 6, 7, 9, 10, 11, 14, 15, 16] hs hcl hqC_349 fun a hs => ?_
    obtain ⟨v_351, h_350, hm⟩ := bind_t hm
    refine qdi 8 3 hs hcl hqC_349 hC_349 rfl h_350 fun a hs => ?_
    obtain ⟨v_353, h_352, hm⟩ := bind_t hm
    refine qdi 12 2 hs hcl hqC_349 hC_349 rfl h_352 fun a hs => ?_
    obtain ⟨v_356, h_355, hm⟩ := bind_t hm
    refine qdc 13 (wire_Machine_Two.ok _ _ _ _ _ _ _ h_355 _ _ _ b_x0 hs.own) hs fun w a hs => ?_
    replace hcl := qO hC_349 hs.own.drop
    refine ⟨fun _ => hcl, ?_⟩
    refine qdp (fuel := 1) [17] hs hcl hqC_349 fun a hs => ?_
    refine qsd 18 1 4 (ci v_356.1) hs rfl fun a w hs => ?_
    refine ⟨fun h => absurd h (by decide), ?_⟩
    replace hs := hs.pick [0, 4, 5, 7, 8, 11, 40, 41, 44, 45] (L' := [(0, pp b_x0), (4, pp b_244), (5, pp b_245), (7, pp b_248), (8, vi 3), (11, vi 0), (40, vi 3), (41, vi 0), (44, vi 3), (45, vi 2)]) (by kernel_rfl)
    refine Vk.dDone (by kernel_rfl) ?_
    refine hK347 _ _ ?_
    clear hK347
    refine Vk.region ?_
    refine qpk 2 [0, 4, 5, 7, 8, 11, 40, 41, 44, 45] hs fun a hs => hKL344 _ _ ?_
    clear hKL344
    refine Vk.unroll fun KL357 hKL357 => ?_
    refine qsk 1 [0, 4, 5, 7, 8, 11, 40, 41, 44, 45, 46] hs fun a hs => ?_
    refine Vk.seq fun K359 hK359 => ?_
    refine qcf hs ?_
    refine wp_exit ?_
    refine hK315 _ _ ?_
    clear hK315
    refine Vk.region ?_
    refine qpk 2 [0, 4, 5, 7, 8, 40, 41] hs fun a hs => hKL312 _ _ ?_
    clear hKL312
    refine Vk.unroll fun KL360 hKL360 => ?_
    refine qsk 1 [0, 4, 5, 7, 8, 40, 41, 42] hs fun a hs => ?_
    refine qck hs ?_
    refine Vk.seq fun K363 hK363 => ?_
    refine wp_block ?_
    refine qsk 2 [0, 4, 5, 7, 8, 11, 40, 41] hs fun a hs => ?_
    refine qse 2 [(0, pp b_x0), (4, pp b_244), (5, pp b_245), (7, pp b_248), (8, vi 3), (11, vi 1), (40, vi 3), (41, vi 1), (44, vi 3), (45, vi 0)] hs fun a hs => ?_
    refine wp_block ?_
    refine Vk.unroll0 40 ?_
    refine Vk.unroll fun KL366 hKL366 => ?_
    refine qsk 1 [0, 4, 5, 7, 8, 11, 40, 41, 44, 45, 46] hs fun a hs => ?_
    refine qck hs ?_
    refine Vk.seq fun K369 hK369 => ?_
    refine wp_block ?_
    refine qsk 2 [0, 4, 5, 7, 8, 11, 12, 40, 41, 44, 45] hs fun a hs => ?_
    obtain ⟨C_371, hC_371⟩ := qC hs.own.drop
    refine qdr 18 κ C_371 hs fun w hs hqC_371 => ?_
    have hcl := qO hC_371 hs.own.drop
    refine qdp (fuel := 5) [0, 1, 2, 3, 4, 5, 6, 7, 9, 10, 11, 14, 15, 16] hs hcl hqC_371 fun a hs => ?_
    obtain ⟨v_373, h_372, hm⟩ := bind_t hm
    refine qdi 8 3 hs hcl hqC_371 hC_371 rfl h_372 fun a hs => ?_
    obtain ⟨v_375, h_374, hm⟩ := bind_t hm
    refine qdi 12 2 hs hcl hqC_371 hC_371 rfl h_374 fun a hs => ?_
    obtain ⟨v_378, h_377, hm⟩ := bind_t hm
    refine qdc 13 (wire_Machine_Two.ok _ _ _ _ _ _ _ h_377 _ _ _ b_x0 hs.own) hs fun w a hs => ?_
    replace hcl := qO hC_371 hs.own.drop
    refine ⟨fun _ => hcl, ?_⟩
    refine qdp (fuel := 1) [17] hs hcl hqC_371 fun a hs => ?_
    refine qsd 18 1 5 (ci v_378.1) hs rfl fun a w hs => ?_
    refine ⟨fun h => absurd h (by decide), ?_⟩
    replace hs := hs.pick [0, 4, 5, 7, 8, 11, 40, 41, 44, 45] (L' := [(0, pp b_x0), (4, pp b_244), (5, pp b_245), (7, pp b_248), (8, vi 3), (11, vi 1), (40, vi 3), (41, vi 1), (44, vi 3), (45, vi 0)]) (by kernel_rfl)
    refine Vk.dDone (by kernel_rfl) ?_
    refine hK369 _ _ ?_
    clear hK369
    refine Vk.region ?_
    refine qpk 2 [0, 4, 5, 7, 8, 11, 40, 41, 44, 45] hs fun a hs => hKL366 _ _ ?_
    clear hKL366
    refine Vk.unroll fun KL379 hKL379 => ?_
    refine qsk 1 [0, 4, 5, 7, 8, 11, 40, 41, 44, 45, 46] hs fun a hs => ?_
    refine qck hs ?_
    refine Vk.seq fun K382 hK382 => ?_
    refine wp_block ?_
    refine qsk 2 [0, 4, 5, 7, 8, 11, 12, 40, 41, 44, 45] hs fun a hs => ?_
    obtain ⟨C_384, hC_384⟩ := qC hs.own.drop
    refine qdr 18 κ C_384 hs fun w hs hqC_384 => ?_
    have hcl := qO hC_384 hs.own.drop
    refine qdp (fuel := 5) [0, 1, 2, 3, 4, 5, 6, 7, 9, 10, 11, 14, 15, 16] hs hcl hqC_384 fun a hs => ?_
    obtain ⟨v_386, h_385, hm⟩ := bind_t hm
    refine qdi 8 3 hs hcl hqC_384 hC_384 rfl h_385 fun a hs => ?_
    obtain ⟨v_388, h_387, hm⟩ := bind_t hm
    refine qdi 12 2 hs hcl hqC_384 hC_384 rfl h_387 fun a hs => ?_
    obtain ⟨v_391, h_390, hm⟩ := bind_t hm
    refine qdc 13 (wire_Machine_Two.ok _ _ _ _ _ _ _ h_390 _ _ _ b_x0 hs.own) hs fun w a hs => ?_
    replace hcl := qO hC_384 hs.own.drop
    refine ⟨fun _ => hcl, ?_⟩
    refine qdp (fuel := 1) [17] hs hcl hqC_384 fun a hs => ?_
    refine qsd 18 1 6 (ci v_391.1) hs rfl fun a w hs => ?_
    refine ⟨fun h => absurd h (by decide), ?_⟩
    replace hs := hs.pick [0, 4, 5, 7, 8, 11, 40, 41, 44, 45] (L' := [(0, pp b_x0), (4, pp b_244), (5, pp b_245), (7, pp b_248), (8, vi 3), (11, vi 1), (40, vi 3), (41, vi 1), (44, vi 3), (45, vi 1)]) (by kernel_rfl)
    refine Vk.dDone (by kernel_rfl) ?_
    refine hK382 _ _ ?_
    clear hK382
    refine Vk.region ?_
    refine qpe 2 [(0, pp b_x0), (4, pp b_244), (5, pp b_245), (7, pp b_248), (8, vi 3), (11, vi 1), (40, vi 3), (41, vi 1), (44, vi 3), (45, vi 2)] hs fun a hs => hKL379 _ _ ?_
    clear hKL379
    refine Vk.unroll fun KL392 hKL392 => ?_
    refine qsk 1 [0, 4, 5, 7, 8, 11, 40, 41, 44, 45, 46] hs fun a hs => ?_
    refine qck hs ?_
    refine Vk.seq fun K395 hK395 => ?_
    refine wp_block ?_
    refine qsk 2 [0, 4, 5, 7, 8, 11, 12, 40, 41, 44, 45] hs fun a hs => ?_
    obtain ⟨C_397, hC_397⟩ := qC hs.own.drop
    refine qdr 18 κ C_397 hs fun w hs hqC_397 => ?_
    have hcl := qO hC_397 hs.own.drop
    refine qdp (fuel := 5) [0, 1, 2, 3, 4, 5, 6, 7, 9, 10, 11, 14, 15, 16] hs hcl hqC_397 fun a hs => ?_
    obtain ⟨v_399, h_398, hm⟩ := bind_t hm
    refine qdi 8 3 hs hcl hqC_397 hC_397 rfl h_398 fun a hs => ?_
    obtain ⟨v_401, h_400, hm⟩ := bind_t hm
    refine qdi 12 2 hs hcl hqC_397 hC_397 rfl h_400 fun a hs => ?_
    obtain ⟨v_404, h_403, hm⟩ := bind_t hm
    refine qdc 13 (wire_Machine_Two.ok _ _ _ _ _ _ _ h_403 _ _ _ b_x0 hs.own) hs fun w a hs => ?_
    replace hcl := qO hC_397 hs.own.drop
    refine ⟨fun _ => hcl, ?_⟩
    refine qdp (fuel := 1) [17] hs hcl hqC_397 fun a hs => ?_
    refine qsd 18 1 7 (ci v_404.1) hs rfl fun a w hs => ?_
    refine ⟨fun h => absurd h (by decide), ?_⟩
    replace hs := hs.pick [0, 4, 5, 7, 8, 11, 40, 41, 44, 45] (L' := [(0, pp b_x0), (4, pp b_244), (5, pp b_245), (7, pp b_248), (8, vi 3), (11, vi 1), (40, vi 3), (41, vi 1), (44, vi 3), (45, vi 2)]) (by kernel_rfl)
    refine Vk.dDone (by kernel_rfl) ?_
    refine hK395 _ _ ?_
    clear hK395
    refine Vk.region ?_
    refine qpk 2 [0, 4, 5, 7, 8, 11, 40, 41, 44, 45] hs fun a hs => hKL392 _ _ ?_
    clear hKL392
    refine Vk.unroll fun KL405 hKL405 => ?_
    refine qsk 1 [0, 4, 5, 7, 8, 11, 40, 41, 44, 45, 46] hs fun a hs => ?_
    refine Vk.seq fun K407 hK407 => ?_
    refine qcf hs ?_
    refine wp_exit ?_
    refine hK363 _ _ ?_
    clear hK363
    refine Vk.region ?_
    refine qpk 2 [0, 4, 5, 7, 8, 40, 41] hs fun a hs => hKL360 _ _ ?_
    clear hKL360
    refine Vk.unroll fun KL408 hKL408 => ?_
    refine qse 1 [(0, pp b_x0), (4, pp b_244), (5, pp b_245), (7, pp b_248), (8, vi 3), (40, vi 3), (41, vi 2), (42, .bool true)] hs fun a hs => ?_
    refine qck hs ?_
    refine Vk.seq fun K411 hK411 => ?_
    refine wp_block ?_
    refine qsk 2 [0, 4, 5, 7, 8, 11, 40, 41] hs fun a hs => ?_
    refine qsk 2 [0, 4, 5, 7, 8, 11, 40, 41, 44, 45] hs fun a hs => ?_
    refine wp_block ?_
    refine Vk.unroll0 40 ?_
    refine Vk.unroll fun KL414 hKL414 => ?_
    refine qsk 1 [0, 4, 5, 7, 8, 11, 40, 41, 44, 45, 46] hs fun a hs => ?_
    refine qck hs ?_
    refine Vk.seq fun K417 hK417 => ?_
    refine wp_block ?_
    refine qsk 2 [0, 4, 5, 7, 8, 11, 12, 40, 41, 44, 45] hs fun a hs => ?_
    obtain ⟨C_419, hC_419⟩ := qC hs.own.drop
    refine qdr 18 κ C_419 hs fun w hs hqC_419 => ?_
    have hcl := qO hC_419 hs.own.drop
    refine qdp (fuel := 5) [0, 1, 2, 3, 4, 5, 6, 7, 9, 10, 11, 14, 15, 16] hs hcl hqC_419 fun a hs => ?_
    obtain ⟨v_421, h_420, hm⟩ := bind_t hm
    refine qdi 8 3 hs hcl hqC_419 hC_419 rfl h_420 fun a hs => ?_
    obtain ⟨v_423, h_422, hm⟩ := bind_t hm
    refine qdi 12 2 hs hcl hqC_419 hC_419 rfl h_422 fun a hs => ?_
    obtain ⟨v_426, h_425, hm⟩ := bind_t hm
    refine qdc 13 (wire_Machine_Two.ok _ _ _ _ _ _ _ h_425 _ _ _ b_x0 hs.own) hs fun w a hs => ?_
    replace hcl := qO hC_419 hs.own.drop
    refine ⟨fun _ => hcl, ?_⟩
    refine qdp (fuel := 1) [17] hs hcl hqC_419 fun a hs => ?_
    refine qsd 18 1 8 (ci v_426.1) hs rfl fun a w hs => ?_
    refine ⟨fun h => absurd h (by decide), ?_⟩
    replace hs := hs.pick [0, 4, 5, 7, 8, 11, 40, 41, 44, 45] (L' := [(0, pp b_x0), (4, pp b_244), (5, pp b_245), (7, pp b_248), (8, vi 3), (11, vi 2), (40, vi 3), (41, vi 2), (44, vi 3), (45, vi 0)]) (by kernel_rfl)
    refine Vk.dDone (by kernel_rfl) ?_
    refine hK417 _ _ ?_
    clear hK417
    refine Vk.region ?_
    refine qpk 2 [0, 4, 5, 7, 8, 11, 40, 41, 44, 45] hs fun a hs => hKL414 _ _ ?_
    clear hKL414
    refine Vk.unroll fun KL427 hKL427 => ?_
    refine qse 1 [(0, pp b_x0), (4, pp b_244), (5, pp b_245), (7, pp b_248), (8, vi 3), (11, vi 2), (40, vi 3), (41, vi 2), (44, vi 3), (45, vi 1), (46, .bool true)] hs fun a hs => ?_
    refine qck hs ?_
    refine Vk.seq fun K430 hK430 => ?_
    refine wp_block ?_
    refine qsk 2 [0, 4, 5, 7, 8, 11, 12, 40, 41, 44, 45] hs fun a hs => ?_
    obtain ⟨C_432, hC_432⟩ := qC hs.own.drop
    refine qdr 18 κ C_432 hs fun w hs hqC_432 => ?_
    have hcl := qO hC_432 hs.own.drop
    refine qdp (fuel := 5) [0, 1, 2, 3, 4, 5, 6, 7, 9, 10, 11, 14, 15, 16] hs hcl hqC_432 fun a hs => ?_
    obtain ⟨v_434, h_433, hm⟩ := bind_t hm
    refine qdi 8 3 hs hcl hqC_432 hC_432 rfl h_433 fun a hs => ?_
    obtain ⟨v_436, h_435, hm⟩ := bind_t hm
    refine qdi 12 2 hs hcl hqC_432 hC_432 rfl h_435 fun a hs => ?_
    obtain ⟨v_439, h_438, hm⟩ := bind_t hm
    refine qdc 13 (wire_Machine_Two.ok _ _ _ _ _ _ _ h_438 _ _ _ b_x0 hs.own) hs fun w a hs => ?_
    replace hcl := qO hC_432 hs.own.drop
    refine ⟨fun _ => hcl, ?_⟩
    refine qdp (fuel := 1) [17] hs hcl hqC_432 fun a hs => ?_
    refine qsd 18 1 9 (ci v_439.1) hs rfl fun a w hs => ?_
    refine ⟨fun h => absurd h (by decide), ?_⟩
    replace hs := hs.pick [0, 4, 5, 7, 8, 11, 40, 41, 44, 45] (L' := [(0, pp b_x0), (4, pp b_244), (5, pp b_245), (7, pp b_248), (8, vi 3), (11, vi 2), (40, vi 3), (41, vi 2), (44, vi 3), (45, vi 1)]) (by kernel_rfl)
    refine Vk.dDone (by kernel_rfl) ?_
    refine hK430 _ _ ?_
    clear hK430
    refine Vk.region ?_
    refine qpk 2 [0, 4, 5, 7, 8, 11, 40, 41, 44, 45] hs fun a hs => hKL427 _ _ ?_
    clear hKL427
    refine Vk.unroll fun KL440 hKL440 => ?_
    refine qsk 1 [0, 4, 5, 7, 8, 11, 40, 41, 44, 45, 46] hs fun a hs => ?_
    refine qck hs ?_
    refine Vk.seq fun K443 hK443 => ?_
    refine wp_block ?_
    refine qsk 2 [0, 4, 5, 7, 8, 11, 12, 40, 41, 44, 45] hs fun a hs => ?_
    obtain ⟨C_445, hC_445⟩ := qC hs.own.drop
    refine qdr 18 κ C_445 hs fun w hs hqC_445 => ?_
    have hcl := qO hC_445 hs.own.drop
    refine qdp (fuel := 5) [0, 1, 2, 3, 4, 5, 6, 7, 9, 10, 11, 14, 15, 16] hs hcl hqC_445 fun a hs => ?_
    obtain ⟨v_447, h_446, hm⟩ := bind_t hm
    refine qdi 8 3 hs hcl hqC_445 hC_445 rfl h_446 fun a hs => ?_
    obtain ⟨v_449, h_448, hm⟩ := bind_t hm
    refine qdi 12 2 hs hcl hqC_445 hC_445 rfl h_448 fun a hs => ?_
    obtain ⟨v_452, h_451, hm⟩ := bind_t hm
    refine qdc 13 (wire_Machine_Two.ok _ _ _ _ _ _ _ h_451 _ _ _ b_x0 hs.own) hs fun w a hs => ?_
    replace hcl := qO hC_445 hs.own.drop
    refine ⟨fun _ => hcl, ?_⟩
    refine qdp (fuel := 1) [17] hs hcl hqC_445 fun a hs => ?_
    refine qsd 18 1 10 (ci v_452.1) hs rfl fun a w hs => ?_
    refine ⟨fun h => absurd h (by decide), ?_⟩
    replace hs := hs.pick [0, 4, 5, 7, 8, 11, 40, 41, 44, 45] (L' := [(0, pp b_x0), (4, pp b_244), (5, pp b_245), (7, pp b_248), (8, vi 3), (11, vi 2), (40, vi 3), (41, vi 2), (44, vi 3), (45, vi 2)]) (by kernel_rfl)
    refine Vk.dDone (by kernel_rfl) ?_
    refine hK443 _ _ ?_
    clear hK443
    refine Vk.region ?_
    refine qpk 2 [0, 4, 5, 7, 8, 11, 40, 41, 44, 45] hs fun a hs => hKL440 _ _ ?_
    clear hKL440
    refine Vk.unroll fun KL453 hKL453 => ?_
    refine qse 1 [(0, pp b_x0), (4, pp b_244), (5, pp b_245), (7, pp b_248), (8, vi 3), (11, vi 2), (40, vi 3), (41, vi 2), (44, vi 3), (45, vi 3), (46, .bool false)] hs fun a hs => ?_
    refine Vk.seq fun K455 hK455 => ?_
    refine qcf hs ?_
    refine wp_exit ?_
    refine hK411 _ _ ?_
    clear hK411
    refine Vk.region ?_
    refine qpk 2 [0, 4, 5, 7, 8, 40, 41] hs fun a hs => hKL408 _ _ ?_
    clear hKL408
    refine Vk.unroll fun KL456 hKL456 => ?_
    refine qsk 1 [0, 4, 5, 7, 8, 40, 41, 42] hs fun a hs => ?_
    refine Vk.seq fun K458 hK458 => ?_
    refine qcf hs ?_
    refine wp_exit ?_
    refine hK310 _ _ ?_
    clear hK310
    refine qse 2 [(6, pp b_248)] hs fun a hs => ?_
    refine wp_ret ?_
    refine hKP242 _ _ ?_
    refine hKR242 _ _ ?_
    refine Vk.ret1 (P := Tryz.prog) (fn := Tryz.f132) (pp b_248) hs rfl (by kernel_rfl) ⟨_, _, _, rfl, hs.own, fun a hs => ?_⟩
    refine qpk 1 [0, 6, 7] hs fun a hs => hK239 _ _ ?_
    clear hK239
    refine qsr fun K460 hK460 => ?_
    refine qpu 3 hs fun a hs => ?_
    refine Vk.step (Vk.call (some 23) 133 #[pp b_248, .func (.func 135) #[pp b_248] #[]] hs (by kernel_rfl) (by kernel_rfl) (by kernel_rfl) ?_)
    refine Vk.enterI [(0, pp b_248), (1, .func (.func 135) #[pp b_248] #[])] Tryz.func133 rfl Tryz.ntmps133 (by kernel_rfl) (Nat.le_of_ble_eq_true (by kernel_rfl)) hs.own fun KR461 hKR461 hKP461 a hs => ?_
    refine qsr fun K462 hK462 => ?_
    refine qal 75 [ci 0, ci 0, ci 0] 4 hs fun b_463 w a hs => ?_
    refine qpk 0 [0, 1, 4] hs fun a hs => hK462 _ _ ?_
    clear hK462
    refine qsr fun K464 hK464 => ?_
    refine qpu 2 hs fun a hs => ?_
    refine qal 75 [ci 0, ci 0, ci 0] 5 hs fun b_465 w a hs => ?_
    refine qsa 0 [ci (-1), ci (-1), ci (-1)] hs rfl fun a w hs => ?_
    refine qpe 0 [(0, pp b_248), (1, .func (.func 135) #[pp b_248] #[]), (4, pp b_463), (5, pp b_465)] hs fun a hs => hK464 _ _ ?_
    clear hK464
    refine qsr fun K466 hK466 => ?_
    refine qpu 3 hs fun a hs => ?_
    refine qld 3 (cp b_x0) hs rfl fun a hs => ?_
    obtain ⟨g_467, hs⟩ := hs.unex 2 rfl
    obtain ⟨v_470, h_469, hm⟩ := bind_t hm
    refine qcl (wire_Machine_N.ok _ _ _ h_469 _ _ _ b_x0 g_467 hs.own.f2) hs fun w a hs => ?_
    rcases Bool.eq_false_or_eq_true (v_470 == 3) with hb | hb
    ·replace hm := bif_t hm hb
     obtain rfl := Vk.of_beq hb
     refine qpk 1 [0, 1, 4, 5, 6] hs fun a hs => hK466 _ _ ?_
     clear hK466
     refine Vk.seq fun K471 hK471 => ?_
     refine qsk 2 [0, 1, 4, 5, 6, 16, 17] hs fun a hs => ?_
     refine wp_block ?_
     refine Vk.unroll0 40 ?_
     refine Vk.unroll fun KL473 hKL473 => ?_
     refine qsk 1 [0, 1, 4, 5, 6, 16, 17, 18] hs fun a hs => ?_
     refine qck hs ?_
     refine Vk.seq fun K476 hK476 => ?_
     refine wp_block ?_
     refine qsk 2 [0, 1, 4, 5, 6, 7, 16, 17] hs fun a hs => ?_
     refine qsr fun K478 hK478 => ?_
     refine qpu 8 hs fun a hs => ?_
     refine qld 3 (ci v_330.1) hs rfl fun a hs => ?_
     refine qpu 2 hs fun a hs => ?_
     refine qst 1 0 (ci v_330.1) hs rfl fun a w hs => ?_
     refine qpk 0 [0, 1, 4, 5, 6, 7, 16, 17] hs fun a hs => hK478 _ _ ?_
     clear hK478
     refine qse 2 [(0, pp b_248), (1, .func (.func 135) #[pp b_248] #[]), (4, pp b_463), (5, pp b_465), (6, vi 3), (7, vi 0), (16, vi 3), (17, vi 0), (31, vi 3), (32, vi 0)] hs fun a hs => ?_
     refine wp_block ?_
     refine Vk.unroll0 40 ?_
     refine Vk.unroll fun KL480 hKL480 => ?_
     refine qsk 1 [0, 1, 4, 5, 6, 7, 16, 17, 31, 32, 33] hs fun a hs => ?_
     refine qck hs ?_
     refine Vk.seq fun K483 hK483 => ?_
     refine wp_block ?_
     refine qsk 2 [0, 1, 4, 5, 6, 7, 8, 16, 17, 31, 32] hs fun a hs => ?_
     refine qsk 3 [0, 1, 4, 5, 6, 7, 8, 16, 17, 31, 32, 37] hs fun a hs => ?_
     refine qcf hs ?_
     refine wp_skip ?_
     refine hK483 _ _ ?_
     clear hK483
     refine Vk.region ?_
     refine qpk 2 [0, 1, 4, 5, 6, 7, 16, 17, 31, 32] hs fun a hs => hKL480 _ _ ?_
     clear hKL480
     refine Vk.unroll fun KL486 hKL486 => ?_
     refine qsk 1 [0, 1, 4, 5, 6, 7, 16, 17, 31, 32, 33] hs fun a hs => ?_
     refine qck hs ?_
     refine Vk.seq fun K489 hK489 => ?_
     refine wp_block ?_
     refine qse 2 [(0, pp b_248), (1, .func (.func 135) #[pp b_248] #[]), (4, pp b_463), (5, pp b_465), (6, vi 3), (7, vi 0), (8, vi 1), (16, vi 3), (17, vi 0), (31, vi 3), (32, vi 1)] hs fun a hs => ?_
     refine qsk 3 [0, 1, 4, 5, 6, 7, 8, 16, 17, 31, 32, 37] hs fun a hs => ?_
     refine qct hs ?_
     obtain ⟨C_492, hC_492⟩ := qC hs.own.drop
     refine qdr 17 κ C_492 hs fun w hs hqC_492 => ?_
     have hcl := qO hC_492 hs.own.drop
     refine qdp (fuel := 6) [0, 1, 2, 3, 5, 6, 7, 8, 10, 11, 12, 15] hs hcl hqC_492 fun a hs => ?_
     refine qdl 4 2 (cp b_x0) hs hcl hqC_492 hC_492 rfl fun a hs => ?_
     refine qdl 9 0 (ci v_330.1) hs hcl hqC_492 hC_492 rfl fun a hs => ?_
     refine Vk.dOnly (i := 13) (by kernel_rfl) (Vk.call (some 51) 135 #[pp b_248, vi 0, vi 1] hs (by kernel_rfl) (by kernel_rfl) (by kernel_rfl) ?_)
     refine Vk.enterI [(0, pp b_248), (1, vi 0), (2, vi 1)] Tryz.func135 rfl Tryz.ntmps135 (by kernel_rfl) (Nat.le_of_ble_eq_true (by kernel_rfl)) hs.own fun KR493 hKR493 hKP493 a hs => ?_
     refine qsk 1 [0, 1, 2] hs fun a hs => ?_
     refine Vk.seq fun K495 hK495 => ?_
     refine qsk 3 [0, 1, 2, 9] hs fun a hs => ?_
     refine qct hs ?_
     refine qsr fun K497 hK497 => ?_
     refine qpu 3 hs fun a hs => ?_
     refine Vk.step (Vk.call (some 13) 147 #[pp b_248, vi 0, vi 1] hs (by kernel_rfl) (by kernel_rfl) (by kernel_rfl) ?_)
     refine Vk.enterI [(0, pp b_248), (1, vi 0), (2, vi 1)] Tryz.func147 rfl Tryz.ntmps147 (by kernel_rfl) (Nat.le_of_ble_eq_true (by kernel_rfl)) hs.own fun KR498 hKR498 hKP498 a hs => ?_
     refine qsk 1 [0, 1, 2] hs fun a hs => ?_
     refine qsr fun K500 hK500 => ?_
     refine qpu 3 hs fun a hs => ?_
     refine qld 3 (C.map (some b_247)) hs rfl fun a hs => ?_
     refine qpu 7 hs fun a hs => ?_
     refine qva (vi v_269.1) (op := (.lookup 197 (.tmp 10) (.tmp 17) false)) hs (fun o ho => run_lookup (b := b_247) (key := .agg (vals [ci 0, ci 1])) 4 rfl ho (by kernel_rfl) (by kernel_rfl) (by kernel_rfl) _ hs.own) fun a hs => ?_
     refine qpe 1 [(6, vi v_269.1)] hs fun a hs => hK500 _ _ ?_
     clear hK500
     refine wp_ret ?_
     refine hKP498 _ _ ?_
     refine hKR498 _ _ ?_
     refine Vk.ret1 (P := Tryz.prog) (fn := Tryz.f147) (vi v_269.1) hs rfl (by kernel_rfl) ⟨_, _, _, rfl, hs.own, fun a hs => ?_⟩
     refine qpe 1 [(6, vi v_269.1)] hs fun a hs => hK497 _ _ ?_
     clear hK497
     refine wp_ret ?_
     refine hKP493 _ _ ?_
     refine hKR493 _ _ ?_
     refine Vk.ret1 (P := Tryz.prog) (fn := Tryz.f135) (vi v_269.1) hs rfl (by kernel_rfl) ⟨_, _, _, rfl, hs.own, fun a hs => ?_⟩
     replace hcl := qO hC_492 hs.own.drop
     refine ⟨fun _ => hcl, ?_⟩
     replace hs := hs.toEx (Twire_Machine.parts b_x0 v_452.2) g_467 0 rfl
     obtain ⟨v_503, h_502, hm⟩ := bind_t hm
     refine qdc 14 (wire_Machine_Two.ok _ _ _ _ _ _ _ h_502 _ _ _ b_x0 hs.own) hs fun w a hs => ?_
     replace hcl := qO hC_492 hs.own.drop
     refine ⟨fun _ => hcl, ?_⟩
     refine qdp (fuel := 1) [16] hs hcl hqC_492 fun a hs => ?_
     refine qsd 17 1 0 (ci v_503.1) hs rfl fun a w hs => ?_
     refine ⟨fun h => absurd h (by decide), ?_⟩
     replace hs := hs.pick [0, 1, 4, 5, 6, 7, 16, 17, 31, 32] (L' := [(0, pp b_248), (1, .func (.func 135) #[pp b_248] #[]), (4, pp b_463), (5, pp b_465), (6, vi 3), (7, vi 0), (16, vi 3), (17, vi 0), (31, vi 3), (32, vi 1)]) (by kernel_rfl)
     refine Vk.dDone (by kernel_rfl) ?_
     refine hK489 _ _ ?_
     clear hK489
     refine Vk.region ?_
     refine qpk 2 [0, 1, 4, 5, 6, 7, 16, 17, 31, 32] hs fun a hs => hKL486 _ _ ?_
     clear hKL486
     refine Vk.unroll fun KL504 hKL504 => ?_
     refine qsk 1 [0, 1, 4, 5, 6, 7, 16, 17, 31, 32, 33] hs fun a hs => ?_
     refine qck hs ?_
     refine Vk.seq fun K507 hK507 => ?_
     refine wp_block ?_
     refine qsk 2 [0, 1, 4, 5, 6, 7, 8, 16, 17, 31, 32] hs fun a hs => ?_
     refine qsk 3 [0, 1, 4, 5, 6, 7, 8, 16, 17, 31, 32, 37] hs fun a hs => ?_
     refine qct hs ?_
     obtain ⟨C_510, hC_510⟩ := qC hs.own.drop
     refine qdr 17 κ C_510 hs fun w hs hqC_510 => ?_
     have hcl := qO hC_510 hs.own.drop
     refine qdp (fuel := 6) [0, 1, 2, 3, 5, 6, 7, 8, 10, 11, 12, 15] hs hcl hqC_510 fun a hs => ?_
     refine qdl 4 2 (cp b_x0) hs hcl hqC_510 hC_510 rfl fun a hs => ?_
     refine qdl 9 0 (ci v_503.1) hs hcl hqC_510 hC_510 rfl fun a hs => ?_
     refine Vk.dOnly (i := 13) (by kernel_rfl) (Vk.call (some 51) 135 #[pp b_248, vi 0, vi 2] hs (by kernel_rfl) (by kernel_rfl) (by kernel_rfl) ?_)
     refine Vk.enterI [(0, pp b_248), (1, vi 0), (2, vi 2)] Tryz.func135 rfl Tryz.ntmps135 (by kernel_rfl) (Nat.le_of_ble_eq_true (by kernel_rfl)) hs.own fun KR511 hKR511 hKP511 a hs => ?_
     refine qsk 1 [0, 1, 2] hs fun a hs => ?_
     refine Vk.seq fun K513 hK513 => ?_
     refine qse 3 [(0, pp b_248), (1, vi 0), (2, vi 2), (9, .bool true)] hs fun a hs => ?_
     refine qct hs ?_
     refine qsr fun K515 hK515 => ?_
     refine qpu 3 hs fun a hs => ?_
     refine Vk.step (Vk.call (some 13) 147 #[pp b_248, vi 0, vi 2] hs (by kernel_rfl) (by kernel_rfl) (by kernel_rfl) ?_)
     refine Vk.enterI [(0, pp b_248), (1, vi 0), (2, vi 2)] Tryz.func147 rfl Tryz.ntmps147 (by kernel_rfl) (Nat.le_of_ble_eq_true (by kernel_rfl)) hs.own fun KR516 hKR516 hKP516 a hs => ?_
     refine qsk 1 [0, 1, 2] hs fun a hs => ?_
     refine qsr fun K518 hK518 => ?_
     refine qpu 3 hs fun a hs => ?_
     refine qld 3 (C.map (some b_247)) hs rfl fun a hs => ?_
     refine qpu 7 hs fun a hs => ?_
     refine qva (vi v_277.1) (op := (.lookup 197 (.tmp 10) (.tmp 17) false)) hs (fun o ho => run_lookup (b := b_247) (key := .agg (vals [ci 0, ci 2])) 4 rfl ho (by kernel_rfl) (by kernel_rfl) (by kernel_rfl) _ hs.own) fun a hs => ?_
     refine qpe 1 [(6, vi v_277.1)] hs fun a hs => hK518 _ _ ?_
     clear hK518
     refine wp_ret ?_
     refine hKP516 _ _ ?_
     refine hKR516 _ _ ?_
     refine Vk.ret1 (P := Tryz.prog) (fn := Tryz.f147) (vi v_277.1) hs rfl (by kernel_rfl) ⟨_, _, _, rfl, hs.own, fun a hs => ?_⟩
     refine qpe 1 [(6, vi v_277.1)] hs fun a hs => hK515 _ _ ?_
     clear hK515
     refine wp_ret ?_
     refine hKP511 _ _ ?_
     refine hKR511 _ _ ?_
     refine Vk.ret1 (P := Tryz.prog) (fn := Tryz.f135) (vi v_277.1) hs rfl (by kernel_rfl) ⟨_, _, _, rfl, hs.own, fun a hs => ?_⟩
     replace hcl := qO hC_510 hs.own.drop
     refine ⟨fun _ => hcl, ?_⟩
     obtain ⟨v_521, h_520, hm⟩ := bind_t hm
     refine qdc 14 (wire_Machine_Two.ok _ _ _ _ _ _ _ h_520 _ _ _ b_x0 hs.own) hs fun w a hs => ?_
     replace hcl := qO hC_510 hs.own.drop
     refine ⟨fun _ => hcl, ?_⟩
     refine qdp (fuel := 1) [16] hs hcl hqC_510 fun a hs => ?_
     refine qsd 17 1 0 (ci v_521.1) hs rfl fun a w hs => ?_
     refine ⟨fun h => absurd h (by decide), ?_⟩
     replace hs := hs.pick [0, 1, 4, 5, 6, 7, 16, 17, 31, 32] (L' := [(0, pp b_248), (1, .func (.func 135) #[pp b_248] #[]), (4, pp b_463), (5, pp b_465), (6, vi 3), (7, vi 0), (16, vi 3), (17, vi 0), (31, vi 3), (32, vi 2)]) (by kernel_rfl)
     refine Vk.dDone (by kernel_rfl) ?_
     refine hK507 _ _ ?_
     clear hK507
     refine Vk.region ?_
     refine qpk 2 [0, 1, 4, 5, 6, 7, 16, 17, 31, 32] hs fun a hs => hKL504 _ _ ?_
     clear hKL504
     refine Vk.unroll fun KL522 hKL522 => ?_
     refine qsk 1 [0, 1, 4, 5, 6, 7, 16, 17, 31, 32, 33] hs fun a hs => ?_
     refine Vk.seq fun K524 hK524 => ?_
     refine qcf hs ?_
     refine wp_exit ?_
     refine hK476 _ _ ?_
     clear hK476
     refine Vk.region ?_
     refine qpk 2 [0, 1, 4, 5, 6, 16, 17] hs fun a hs => hKL473 _ _ ?_
     clear hKL473
     refine Vk.unroll fun KL525 hKL525 => ?_
     refine qsk 1 [0, 1, 4, 5, 6, 16, 17, 18] hs fun a hs => ?_
     refine qck hs ?_
     refine Vk.seq fun K528 hK528 => ?_
     refine wp_block ?_
     refine qsk 2 [0, 1, 4, 5, 6, 7, 16, 17] hs fun a hs => ?_
     refine qsr fun K530 hK530 => ?_
     refine qpu 8 hs fun a hs => ?_
     refine qld 3 (ci v_391.1) hs rfl fun a hs => ?_
     refine qpu 2 hs fun a hs => ?_
     refine qst 1 1 (ci v_391.1) hs rfl fun a w hs => ?_
     refine qpe 0 [(0, pp b_248), (1, .func (.func 135) #[pp b_248] #[]), (4, pp b_463), (5, pp b_465), (6, vi 3), (7, vi 1), (16, vi 3), (17, vi 1)] hs fun a hs => hK530 _ _ ?_
     clear hK530
     refine qsk 2 [0, 1, 4, 5, 6, 7, 16, 17, 31, 32] hs fun a hs => ?_
     refine wp_block ?_
     refine Vk.unroll0 40 ?_
     refine Vk.unroll fun KL532 hKL532 => ?_
     refine qsk 1 [0, 1, 4, 5, 6, 7, 16, 17, 31, 32, 33] hs fun a hs => ?_
     refine qck hs ?_
     refine Vk.seq fun K535 hK535 => ?_
     refine wp_block ?_
     refine qsk 2 [0, 1, 4, 5, 6, 7, 8, 16, 17, 31, 32] hs fun a hs => ?_
     refine qsk 3 [0, 1, 4, 5, 6, 7, 8, 16, 17, 31, 32, 37] hs fun a hs => ?_
     refine qct hs ?_
     obtain ⟨C_538, hC_538⟩ := qC hs.own.drop
     refine qdr 17 κ C_538 hs fun w hs hqC_538 => ?_
     have hcl := qO hC_538 hs.own.drop
     refine qdp (fuel := 6) [0, 1, 2, 3, 5, 6, 7, 8, 10, 11, 12, 15] hs hcl hqC_538 fun a hs => ?_
     refine qdl 4 2 (cp b_x0) hs hcl hqC_538 hC_538 rfl fun a hs => ?_
     refine qdl 9 0 (ci v_391.1) hs hcl hqC_538 hC_538 rfl fun a hs => ?_
     refine Vk.dOnly (i := 13) (by kernel_rfl) (Vk.call (some 51) 135 #[pp b_248, vi 1, vi 0] hs (by kernel_rfl) (by kernel_rfl) (by kernel_rfl) ?_)
     refine Vk.enterI [(0, pp b_248), (1, vi 1), (2, vi 0)] Tryz.func135 rfl Tryz.ntmps135 (by kernel_rfl) (Nat.le_of_ble_eq_true (by kernel_rfl)) hs.own fun KR539 hKR539 hKP539 a hs => ?_
     refine qsk 1 [0, 1, 2] hs fun a hs => ?_
     refine Vk.seq fun K541 hK541 => ?_
     refine qse 3 [(0, pp b_248), (1, vi 1), (2, vi 0), (9, .bool false)] hs fun a hs => ?_
     refine qcf hs ?_
     refine wp_skip ?_
     refine hK541 _ _ ?_
     clear hK541
     refine Vk.seq fun K543 hK543 => ?_
     obtain ⟨C_544, hC_544⟩ := qC hs.own.drop
     refine qdr 33 κ C_544 hs fun w hs hqC_544 => ?_
     have hcl := qO hC_544 hs.own.drop
     refine qdp (fuel := 8) [0, 1, 2, 4, 5, 6, 7, 9, 10, 11, 12, 14, 15, 16, 17, 18, 19, 20, 23, 24, 25, 26, 27, 28, 29] hs hcl hqC_544 fun a hs => ?_
     refine qdl 3 2 (cp b_x0) hs hcl hqC_544 hC_544 rfl fun a hs => ?_
     refine qdl 8 2 (cp b_x0) hs hcl hqC_544 hC_544 rfl fun a hs => ?_
     refine qdl 21 2 (ci v_343.1) hs hcl hqC_544 hC_544 rfl fun a hs => ?_
     refine qdl 30 2 (ci v_378.1) hs hcl hqC_544 hC_544 rfl fun a hs => ?_
     refine Vk.dOnly (i := 13) (by kernel_rfl) (Vk.call (some 27) 147 #[pp b_248, vi 0, vi 1] hs (by kernel_rfl) (by kernel_rfl) (by kernel_rfl) ?_)
     refine Vk.enterI [(0, pp b_248), (1, vi 0), (2, vi 1)] Tryz.func147 rfl Tryz.ntmps147 (by kernel_rfl) (Nat.le_of_ble_eq_true (by kernel_rfl)) hs.own fun KR545 hKR545 hKP545 a hs => ?_
     refine qsk 1 [0, 1, 2] hs fun a hs => ?_
     refine qsr fun K547 hK547 => ?_
     refine qpu 3 hs fun a hs => ?_
     refine qld 3 (C.map (some b_247)) hs rfl fun a hs => ?_
     refine qpu 7 hs fun a hs => ?_
     refine qva (vi v_269.1) (op := (.lookup 197 (.tmp 10) (.tmp 17) false)) hs (fun o ho => run_lookup (b := b_247) (key := .agg (vals [ci 0, ci 1])) 4 rfl ho (by kernel_rfl) (by kernel_rfl) (by kernel_rfl) _ hs.own) fun a hs => ?_
     refine qpe 1 [(6, vi v_269.1)] hs fun a hs => hK547 _ _ ?_
     clear hK547
     refine wp_ret ?_
     refine hKP545 _ _ ?_
     refine hKR545 _ _ ?_
     refine Vk.ret1 (P := Tryz.prog) (fn := Tryz.f147) (vi v_269.1) hs rfl (by kernel_rfl) ⟨_, _, _, rfl, hs.own, fun a hs => ?_⟩
     replace hcl := qO hC_544 hs.own.drop
     refine ⟨fun _ => hcl, ?_⟩
     obtain ⟨v_550, h_549, hm⟩ := bind_t hm
     refine qdc 22 (wire_Machine_Two.ok _ _ _ _ _ _ _ h_549 _ _ _ b_x0 hs.own) hs fun w a hs => ?_
     replace hcl := qO hC_544 hs.own.drop
     refine ⟨fun _ => hcl, ?_⟩
     obtain ⟨v_553, h_552, hm⟩ := bind_t hm
     refine qdc 31 (wire_Machine_Two.ok _ _ _ _ _ _ _ h_552 _ _ _ b_x0 hs.own) hs fun w a hs => ?_
     replace hcl := qO hC_544 hs.own.drop
     refine ⟨fun _ => hcl, ?_⟩
     refine qdp (fuel := 0) [32] hs hcl hqC_544 fun a hs => ?_
     replace hs := hs.pick [6] (L' := [(6, vi v_553.1)]) (by kernel_rfl)
     refine Vk.dDone (by kernel_rfl) ?_
     refine hK543 _ _ ?_
     clear hK543
     refine wp_ret ?_
     refine hKP539 _ _ ?_
     refine hKR539 _ _ ?_
     refine Vk.ret1 (P := Tryz.prog) (fn := Tryz.f135) (vi v_553.1) hs rfl (by kernel_rfl) ⟨_, _, _, rfl, hs.own, fun a hs => ?_⟩
     replace hcl := qO hC_538 hs.own.drop
     refine ⟨fun _ => hcl, ?_⟩
     obtain ⟨v_556, h_555, hm⟩ := bind_t hm
     refine qdc 14 (wire_Machine_Two.ok _ _ _ _ _ _ _ h_555 _ _ _ b_x0 hs.own) hs fun w a hs => ?_
     replace hcl := qO hC_538 hs.own.drop
     refine ⟨fun _ => hcl, ?_⟩
     refine qdp (fuel := 1) [16] hs hcl hqC_538 fun a hs => ?_
     refine qsd 17 1 1 (ci v_556.1) hs rfl fun a w hs => ?_
     refine ⟨fun h => absurd h (by decide), ?_⟩
     replace hs := hs.pick [0, 1, 4, 5, 6, 7, 16, 17, 31, 32] (L' := [(0, pp b_248), (1, .func (.func 135) #[pp b_248] #[]), (4, pp b_463), (5, pp b_465), (6, vi 3), (7, vi 1), (16, vi 3), (17, vi 1), (31, vi 3), (32, vi 0)]) (by kernel_rfl)
     refine Vk.dDone (by kernel_rfl) ?_
     refine hK535 _ _ ?_
     clear hK535
     refine Vk.region ?_
     refine qpk 2 [0, 1, 4, 5, 6, 7, 16, 17, 31, 32] hs fun a hs => hKL532 _ _ ?_
     clear hKL532
     refine Vk.unroll fun KL557 hKL557 => ?_
     refine qsk 1 [0, 1, 4, 5, 6, 7, 16, 17, 31, 32, 33] hs fun a hs => ?_
     refine qck hs ?_
     refine Vk.seq fun K560 hK560 => ?_
     refine wp_block ?_
     refine qsk 2 [0, 1, 4, 5, 6, 7, 8, 16, 17, 31, 32] hs fun a hs => ?_
     refine qsk 3 [0, 1, 4, 5, 6, 7, 8, 16, 17, 31, 32, 37] hs fun a hs => ?_
     refine qcf hs ?_
     refine wp_skip ?_
     refine hK560 _ _ ?_
     clear hK560
     refine Vk.region ?_
     refine qpk 2 [0, 1, 4, 5, 6, 7, 16, 17, 31, 32] hs fun a hs => hKL557 _ _ ?_
     clear hKL557
     refine Vk.unroll fun KL563 hKL563 => ?_
     refine qse 1 [(0, pp b_248), (1, .func (.func 135) #[pp b_248] #[]), (4, pp b_463), (5, pp b_465), (6, vi 3), (7, vi 1), (16, vi 3), (17, vi 1), (31, vi 3), (32, vi 2), (33, .bool true)] hs fun a hs => ?_
     refine qck hs ?_
     refine Vk.seq fun K566 hK566 => ?_
     refine wp_block ?_
     refine qsk 2 [0, 1, 4, 5, 6, 7, 8, 16, 17, 31, 32] hs fun a hs => ?_
     refine qsk 3 [0, 1, 4, 5, 6, 7, 8, 16, 17, 31, 32, 37] hs fun a hs => ?_
     refine qct hs ?_
     obtain ⟨C_569, hC_569⟩ := qC hs.own.drop
     refine qdr 17 κ C_569 hs fun w hs hqC_569 => ?_
     have hcl := qO hC_569 hs.own.drop
     refine qdp (fuel := 6) [0, 1, 2, 3, 5, 6, 7, 8, 10, 11, 12, 15] hs hcl hqC_569 fun a hs => ?_
     refine qdl 4 2 (cp b_x0) hs hcl hqC_569 hC_569 rfl fun a hs => ?_
     refine qdl 9 0 (ci v_556.1) hs hcl hqC_569 hC_569 rfl fun a hs => ?_
     refine Vk.dOnly (i := 13) (by kernel_rfl) (Vk.call (some 51) 135 #[pp b_248, vi 1, vi 2] hs (by kernel_rfl) (by kernel_rfl) (by kernel_rfl) ?_)
     refine Vk.enterI [(0, pp b_248), (1, vi 1), (2, vi 2)] Tryz.func135 rfl Tryz.ntmps135 (by kernel_rfl) (Nat.le_of_ble_eq_true (by kernel_rfl)) hs.own fun KR570 hKR570 hKP570 a hs => ?_
     refine qsk 1 [0, 1, 2] hs fun a hs => ?_
     refine Vk.seq fun K572 hK572 => ?_
     refine qsk 3 [0, 1, 2, 9] hs fun a hs => ?_
     refine qct hs ?_
     refine qsr fun K574 hK574 => ?_
     refine qpu 3 hs fun a hs => ?_
     refine Vk.step (Vk.call (some 13) 147 #[pp b_248, vi 1, vi 2] hs (by kernel_rfl) (by kernel_rfl) (by kernel_rfl) ?_)
     refine Vk.enterI [(0, pp b_248), (1, vi 1), (2, vi 2)] Tryz.func147 rfl Tryz.ntmps147 (by kernel_rfl) (Nat.le_of_ble_eq_true (by kernel_rfl)) hs.own fun KR575 hKR575 hKP575 a hs => ?_
     refine qsk 1 [0, 1, 2] hs fun a hs => ?_
     refine qsr fun K577 hK577 => ?_
     refine qpu 3 hs fun a hs => ?_
     refine qld 3 (C.map (some b_247)) hs rfl fun a hs => ?_
     refine qpu 7 hs fun a hs => ?_
     refine qva (vi v_294.1) (op := (.lookup 197 (.tmp 10) (.tmp 17) false)) hs (fun o ho => run_lookup (b := b_247) (key := .agg (vals [ci 1, ci 2])) 4 rfl ho (by kernel_rfl) (by kernel_rfl) (by kernel_rfl) _ hs.own) fun a hs => ?_
     refine qpe 1 [(6, vi v_294.1)] hs fun a hs => hK577 _ _ ?_
     clear hK577
     refine wp_ret ?_
     refine hKP575 _ _ ?_
     refine hKR575 _ _ ?_
     refine Vk.ret1 (P := Tryz.prog) (fn := Tryz.f147) (vi v_294.1) hs rfl (by kernel_rfl) ⟨_, _, _, rfl, hs.own, fun a hs => ?_⟩
     refine qpe 1 [(6, vi v_294.1)] hs fun a hs => hK574 _ _ ?_
     clear hK574
     refine wp_ret ?_
     refine hKP570 _ _ ?_
     refine hKR570 _ _ ?_
     refine Vk.ret1 (P := Tryz.prog) (fn := Tryz.f135) (vi v_294.1) hs rfl (by kernel_rfl) ⟨_, _, _, rfl, hs.own, fun a hs => ?_⟩
     replace hcl := qO hC_569 hs.own.drop
     refine ⟨fun _ => hcl, ?_⟩
     obtain ⟨v_580, h_579, hm⟩ := bind_t hm
     refine qdc 14 (wire_Machine_Two.ok _ _ _ _ _ _ _ h_579 _ _ _ b_x0 hs.own) hs fun w a hs => ?_
     replace hcl := qO hC_569 hs.own.drop
     refine ⟨fun _ => hcl, ?_⟩
     refine qdp (fuel := 1) [16] hs hcl hqC_569 fun a hs => ?_
     refine qsd 17 1 1 (ci v_580.1) hs rfl fun a w hs => ?_
     refine ⟨fun h => absurd h (by decide), ?_⟩
     replace hs := hs.pick [0, 1, 4, 5, 6, 7, 16, 17, 31, 32] (L' := [(0, pp b_248), (1, .func (.func 135) #[pp b_248] #[]), (4, pp b_463), (5, pp b_465), (6, vi 3), (7, vi 1), (16, vi 3), (17, vi 1), (31, vi 3), (32, vi 2)]) (by kernel_rfl)
     refine Vk.dDone (by kernel_rfl) ?_
     refine hK566 _ _ ?_
     clear hK566
     refine Vk.region ?_
     refine qpk 2 [0, 1, 4, 5, 6, 7, 16, 17, 31, 32] hs fun a hs => hKL563 _ _ ?_
     clear hKL563
     refine Vk.unroll fun KL581 hKL581 => ?_
     refine qsk 1 [0, 1, 4, 5, 6, 7, 16, 17, 31, 32, 33] hs fun a hs => ?_
     refine Vk.seq fun K583 hK583 => ?_
     refine qcf hs ?_
     refine wp_exit ?_
     refine hK528 _ _ ?_
     clear hK528
     refine Vk.region ?_
     refine qpk 2 [0, 1, 4, 5, 6, 16, 17] hs fun a hs => hKL525 _ _ ?_
     clear hKL525
     refine Vk.unroll fun KL584 hKL584 => ?_
     refine qsk 1 [0, 1, 4, 5, 6, 16, 17, 18] hs fun a hs => ?_
     refine qck hs ?_
     refine Vk.seq fun K587 hK587 => ?_
     refine wp_block ?_
     refine qsk 2 [0, 1, 4, 5, 6, 7, 16, 17] hs fun a hs => ?_
     refine qsr fun K589 hK589 => ?_
     refine qpu 8 hs fun a hs => ?_
     refine qld 3 (ci v_452.1) hs rfl fun a hs => ?_
     refine qpu 2 hs fun a hs => ?_
     refine qst 1 2 (ci v_452.1) hs rfl fun a w hs => ?_
     refine qpe 0 [(0, pp b_248), (1, .func (.func 135) #[pp b_248] #[]), (4, pp b_463), (5, pp b_465), (6, vi 3), (7, vi 2), (16, vi 3), (17, vi 2)] hs fun a hs => hK589 _ _ ?_
     clear hK589
     refine qsk 2 [0, 1, 4, 5, 6, 7, 16, 17, 31, 32] hs fun a hs => ?_
     refine wp_block ?_
     refine Vk.unroll0 40 ?_
     refine Vk.unroll fun KL591 hKL591 => ?_
     refine qsk 1 [0, 1, 4, 5, 6, 7, 16, 17, 31, 32, 33] hs fun a hs => ?_
     refine qck hs ?_
     refine Vk.seq fun K594 hK594 => ?_
     refine wp_block ?_
     refine qsk 2 [0, 1, 4, 5, 6, 7, 8, 16, 17, 31, 32] hs fun a hs => ?_
     refine qsk 3 [0, 1, 4, 5, 6, 7, 8, 16, 17, 31, 32, 37] hs fun a hs => ?_
     refine qct hs ?_
     obtain ⟨C_597, hC_597⟩ := qC hs.own.drop
     refine qdr 17 κ C_597 hs fun w hs hqC_597 => ?_
     have hcl := qO hC_597 hs.own.drop
     refine qdp (fuel := 6) [0, 1, 2, 3, 5, 6, 7, 8, 10, 11, 12, 15] hs hcl hqC_597 fun a hs => ?_
     refine qdl 4 2 (cp b_x0) hs hcl hqC_597 hC_597 rfl fun a hs => ?_
     refine qdl 9 0 (ci v_452.1) hs hcl hqC_597 hC_597 rfl fun a hs => ?_
     refine Vk.dOnly (i := 13) (by kernel_rfl) (Vk.call (some 51) 135 #[pp b_248, vi 2, vi 0] hs (by kernel_rfl) (by kernel_rfl) (by kernel_rfl) ?_)
     refine Vk.enterI [(0, pp b_248), (1, vi 2), (2, vi 0)] Tryz.func135 rfl Tryz.ntmps135 (by kernel_rfl) (Nat.le_of_ble_eq_true (by kernel_rfl)) hs.own fun KR598 hKR598 hKP598 a hs => ?_
     refine qsk 1 [0, 1, 2] hs fun a hs => ?_
     refine Vk.seq fun K600 hK600 => ?_
     refine qse 3 [(0, pp b_248), (1, vi 2), (2, vi 0), (9, .bool false)] hs fun a hs => ?_
     refine qcf hs ?_
     refine wp_skip ?_
     refine hK600 _ _ ?_
     clear hK600
     refine Vk.seq fun K602 hK602 => ?_
     obtain ⟨C_603, hC_603⟩ := qC hs.own.drop
     refine qdr 33 κ C_603 hs fun w hs hqC_603 => ?_
     have hcl := qO hC_603 hs.own.drop
     refine qdp (fuel := 8) [0, 1, 2, 4, 5, 6, 7, 9, 10, 11, 12, 14, 15, 16, 17, 18, 19, 20, 23, 24, 25, 26, 27, 28, 29] hs hcl hqC_603 fun a hs => ?_
     refine qdl 3 2 (cp b_x0) hs hcl hqC_603 hC_603 rfl fun a hs => ?_
     refine qdl 8 2 (cp b_x0) hs hcl hqC_603 hC_603 rfl fun a hs => ?_
     refine qdl 21 2 (ci v_356.1) hs hcl hqC_603 hC_603 rfl fun a hs => ?_
     refine qdl 30 2 (ci v_426.1) hs hcl hqC_603 hC_603 rfl fun a hs => ?_
     refine Vk.dOnly (i := 13) (by kernel_rfl) (Vk.call (some 27) 147 #[pp b_248, vi 0, vi 2] hs (by kernel_rfl) (by kernel_rfl) (by kernel_rfl) ?_)
     refine Vk.enterI [(0, pp b_248), (1, vi 0), (2, vi 2)] Tryz.func147 rfl Tryz.ntmps147 (by kernel_rfl) (Nat.le_of_ble_eq_true (by kernel_rfl)) hs.own fun KR604 hKR604 hKP604 a hs => ?_
     refine qsk 1 [0, 1, 2] hs fun a hs => ?_
     refine qsr fun K606 hK606 => ?_
     refine qpu 3 hs fun a hs => ?_
     refine qld 3 (C.map (some b_247)) hs rfl fun a hs => ?_
     refine qpu 7 hs fun a hs => ?_
     refine qva (vi v_277.1) (op := (.lookup 197 (.tmp 10) (.tmp 17) false)) hs (fun o ho => run_lookup (b := b_247) (key := .agg (vals [ci 0, ci 2])) 4 rfl ho (by kernel_rfl) (by kernel_rfl) (by kernel_rfl) _ hs.own) fun a hs => ?_
     refine qpe 1 [(6, vi v_277.1)] hs fun a hs => hK606 _ _ ?_
     clear hK606
     refine wp_ret ?_
     refine hKP604 _ _ ?_
     refine hKR604 _ _ ?_
     refine Vk.ret1 (P := Tryz.prog) (fn := Tryz.f147) (vi v_277.1) hs rfl (by kernel_rfl) ⟨_, _, _, rfl, hs.own, fun a hs => ?_⟩
     replace hcl := qO hC_603 hs.own.drop
     refine ⟨fun _ => hcl, ?_⟩
     obtain ⟨v_609, h_608, hm⟩ := bind_t hm
     refine qdc 22 (wire_Machine_Two.ok _ _ _ _ _ _ _ h_608 _ _ _ b_x0 hs.own) hs fun w a hs => ?_
     replace hcl := qO hC_603 hs.own.drop
     refine ⟨fun _ => hcl, ?_⟩
     obtain ⟨v_612, h_611, hm⟩ := bind_t hm
     refine qdc 31 (wire_Machine_Two.ok _ _ _ _ _ _ _ h_611 _ _ _ b_x0 hs.own) hs fun w a hs => ?_
     replace hcl := qO hC_603 hs.own.drop
     refine ⟨fun _ => hcl, ?_⟩
     refine qdp (fuel := 0) [32] hs hcl hqC_603 fun a hs => ?_
     replace hs := hs.pick [6] (L' := [(6, vi v_612.1)]) (by kernel_rfl)
     refine Vk.dDone (by kernel_rfl) ?_
     refine hK602 _ _ ?_
     clear hK602
     refine wp_ret ?_
     refine hKP598 _ _ ?_
     refine hKR598 _ _ ?_
     refine Vk.ret1 (P := Tryz.prog) (fn := Tryz.f135) (vi v_612.1) hs rfl (by kernel_rfl) ⟨_, _, _, rfl, hs.own, fun a hs => ?_⟩
     replace hcl := qO hC_597 hs.own.drop
     refine ⟨fun _ => hcl, ?_⟩
     obtain ⟨v_615, h_614, hm⟩ := bind_t hm
     refine qdc 14 (wire_Machine_Two.ok _ _ _ _ _ _ _ h_614 _ _ _ b_x0 hs.own) hs fun w a hs => ?_
     replace hcl := qO hC_597 hs.own.drop
     refine ⟨fun _ => hcl, ?_⟩
     refine qdp (fuel := 1) [16] hs hcl hqC_597 fun a hs => ?_
     refine qsd 17 1 2 (ci v_615.1) hs rfl fun a w hs => ?_
     refine ⟨fun h => absurd h (by decide), ?_⟩
     replace hs := hs.pick [0, 1, 4, 5, 6, 7, 16, 17, 31, 32] (L' := [(0, pp b_248), (1, .func (.func 135) #[pp b_248] #[]), (4, pp b_463), (5, pp b_465), (6, vi 3), (7, vi 2), (16, vi 3), (17, vi 2), (31, vi 3), (32, vi 0)]) (by kernel_rfl)
     refine Vk.dDone (by kernel_rfl) ?_
     refine hK594 _ _ ?_
     clear hK594
     refine Vk.region ?_
     refine qpk 2 [0, 1, 4, 5, 6, 7, 16, 17, 31, 32] hs fun a hs => hKL591 _ _ ?_
     clear hKL591
     refine Vk.unroll fun KL616 hKL616 => ?_
     refine qsk 1 [0, 1, 4, 5, 6, 7, 16, 17, 31, 32, 33] hs fun a hs => ?_
     refine qck hs ?_
     refine Vk.seq fun K619 hK619 => ?_
     refine wp_block ?_
     refine qsk 2 [0, 1, 4, 5, 6, 7, 8, 16, 17, 31, 32] hs fun a hs => ?_
     refine qsk 3 [0, 1, 4, 5, 6, 7, 8, 16, 17, 31, 32, 37] hs fun a hs => ?_
     refine qct hs ?_
     obtain ⟨C_622, hC_622⟩ := qC hs.own.drop
     refine qdr 17 κ C_622 hs fun w hs hqC_622 => ?_
     have hcl := qO hC_622 hs.own.drop
     refine qdp (fuel := 6) [0, 1, 2, 3, 5, 6, 7, 8, 10, 11, 12, 15] hs hcl hqC_622 fun a hs => ?_
     refine qdl 4 2 (cp b_x0) hs hcl hqC_622 hC_622 rfl fun a hs => ?_
     refine qdl 9 0 (ci v_615.1) hs hcl hqC_622 hC_622 rfl fun a hs => ?_
     refine Vk.dOnly (i := 13) (by kernel_rfl) (Vk.call (some 51) 135 #[pp b_248, vi 2, vi 1] hs (by kernel_rfl) (by kernel_rfl) (by kernel_rfl) ?_)
     refine Vk.enterI [(0, pp b_248), (1, vi 2), (2, vi 1)] Tryz.func135 rfl Tryz.ntmps135 (by kernel_rfl) (Nat.le_of_ble_eq_true (by kernel_rfl)) hs.own fun KR623 hKR623 hKP623 a hs => ?_
     refine qsk 1 [0, 1, 2] hs fun a hs => ?_
     refine Vk.seq fun K625 hK625 => ?_
     refine qse 3 [(0, pp b_248), (1, vi 2), (2, vi 1), (9, .bool false)] hs fun a hs => ?_
     refine qcf hs ?_
     refine wp_skip ?_
     refine hK625 _ _ ?_
     clear hK625
     refine Vk.seq fun K627 hK627 => ?_
     obtain ⟨C_628, hC_628⟩ := qC hs.own.drop
     refine qdr 33 κ C_628 hs fun w hs hqC_628 => ?_
     have hcl := qO hC_628 hs.own.drop
     refine qdp (fuel := 8) [0, 1, 2, 4, 5, 6, 7, 9, 10, 11, 12, 14, 15, 16, 17, 18, 19, 20, 23, 24, 25, 26, 27, 28, 29] hs hcl hqC_628 fun a hs => ?_
     refine qdl 3 2 (cp b_x0) hs hcl hqC_628 hC_628 rfl fun a hs => ?_
     refine qdl 8 2 (cp b_x0) hs hcl hqC_628 hC_628 rfl fun a hs => ?_
     refine qdl 21 2 (ci v_404.1) hs hcl hqC_628 hC_628 rfl fun a hs => ?_
     refine qdl 30 2 (ci v_439.1) hs hcl hqC_628 hC_628 rfl fun a hs => ?_
     refine Vk.dOnly (i := 13) (by kernel_rfl) (Vk.call (some 27) 147 #[pp b_248, vi 1, vi 2] hs (by kernel_rfl) (by kernel_rfl) (by kernel_rfl) ?_)
     refine Vk.enterI [(0, pp b_248), (1, vi 1), (2, vi 2)] Tryz.func147 rfl Tryz.ntmps147 (by kernel_rfl) (Nat.le_of_ble_eq_true (by kernel_rfl)) hs.own fun KR629 hKR629 hKP629 a hs => ?_
     refine qsk 1 [0, 1, 2] hs fun a hs => ?_
     refine qsr fun K631 hK631 => ?_
     refine qpu 3 hs fun a hs => ?_
     refine qld 3 (C.map (some b_247)) hs rfl fun a hs => ?_
     refine qpu 7 hs fun a hs => ?_
     refine qva (vi v_294.1) (op := (.lookup 197 (.tmp 10) (.tmp 17) false)) hs (fun o ho => run_lookup (b := b_247) (key := .agg (vals [ci 1, ci 2])) 4 rfl ho (by kernel_rfl) (by kernel_rfl) (by kernel_rfl) _ hs.own) fun a hs => ?_
     refine qpe 1 [(6, vi v_294.1)] hs fun a hs => hK631 _ _ ?_
     clear hK631
     refine wp_ret ?_
     refine hKP629 _ _ ?_
     refine hKR629 _ _ ?_
     refine Vk.ret1 (P := Tryz.prog) (fn := Tryz.f147) (vi v_294.1) hs rfl (by kernel_rfl) ⟨_, _, _, rfl, hs.own, fun a hs => ?_⟩
     replace hcl := qO hC_628 hs.own.drop
     refine ⟨fun _ => hcl, ?_⟩
     obtain ⟨v_634, h_633, hm⟩ := bind_t hm
     refine qdc 22 (wire_Machine_Two.ok _ _ _ _ _ _ _ h_633 _ _ _ b_x0 hs.own) hs fun w a hs => ?_
     replace hcl := qO hC_628 hs.own.drop
     refine ⟨fun _ => hcl, ?_⟩
     obtain ⟨v_637, h_636, hm⟩ := bind_t hm
     refine qdc 31 (wire_Machine_Two.ok _ _ _ _ _ _ _ h_636 _ _ _ b_x0 hs.own) hs fun w a hs => ?_
     replace hcl := qO hC_628 hs.own.drop
     refine ⟨fun _ => hcl, ?_⟩
     refine qdp (fuel := 0) [32] hs hcl hqC_628 fun a hs => ?_
     replace hs := hs.pick [6] (L' := [(6, vi v_637.1)]) (by kernel_rfl)
     refine Vk.dDone (by kernel_rfl) ?_
     refine hK627 _ _ ?_
     clear hK627
     refine wp_ret ?_
     refine hKP623 _ _ ?_
     refine hKR623 _ _ ?_
     refine Vk.ret1 (P := Tryz.prog) (fn := Tryz.f135) (vi v_637.1) hs rfl (by kernel_rfl) ⟨_, _, _, rfl, hs.own, fun a hs => ?_⟩
     replace hcl := qO hC_622 hs.own.drop
     refine ⟨fun _ => hcl, ?_⟩
     obtain ⟨v_640, h_639, hm⟩ := bind_t hm
     refine qdc 14 (wire_Machine_Two.ok _ _ _ _ _ _ _ h_639 _ _ _ b_x0 hs.own) hs fun w a hs => ?_
     replace hcl := qO hC_622 hs.own.drop
     refine ⟨fun _ => hcl, ?_⟩
     refine qdp (fuel := 1) [16] hs hcl hqC_622 fun a hs => ?_
     refine qsd 17 1 2 (ci v_640.1) hs rfl fun a w hs => ?_
     refine ⟨fun h => absurd h (by decide), ?_⟩
     replace hs := hs.pick [0, 1, 4, 5, 6, 7, 16, 17, 31, 32] (L' := [(0, pp b_248), (1, .func (.func 135) #[pp b_248] #[]), (4, pp b_463), (5, pp b_465), (6, vi 3), (7, vi 2), (16, vi 3), (17, vi 2), (31, vi 3), (32, vi 1)]) (by kernel_rfl)
     refine Vk.dDone (by kernel_rfl) ?_
     refine hK619 _ _ ?_
     clear hK619
     refine Vk.region ?_
     refine qpk 2 [0, 1, 4, 5, 6, 7, 16, 17, 31, 32] hs fun a hs => hKL616 _ _ ?_
     clear hKL616
     refine Vk.unroll fun KL641 hKL641 => ?_
     refine qsk 1 [0, 1, 4, 5, 6, 7, 16, 17, 31, 32, 33] hs fun a hs => ?_
     refine qck hs ?_
     refine Vk.seq fun K644 hK644 => ?_
     refine wp_block ?_
     refine qsk 2 [0, 1, 4, 5, 6, 7, 8, 16, 17, 31, 32] hs fun a hs => ?_
     refine qsk 3 [0, 1, 4, 5, 6, 7, 8, 16, 17, 31, 32, 37] hs fun a hs => ?_
     refine qcf hs ?_
     refine wp_skip ?_
     refine hK644 _ _ ?_
     clear hK644
     refine Vk.region ?_
     refine qpk 2 [0, 1, 4, 5, 6, 7, 16, 17, 31, 32] hs fun a hs => hKL641 _ _ ?_
     clear hKL641
     refine Vk.unroll fun KL647 hKL647 => ?_
     refine qse 1 [(0, pp b_248), (1, .func (.func 135) #[pp b_248] #[]), (4, pp b_463), (5, pp b_465), (6, vi 3), (7, vi 2), (16, vi 3), (17, vi 2), (31, vi 3), (32, vi 3), (33, .bool false)] hs fun a hs => ?_
     refine Vk.seq fun K649 hK649 => ?_
     refine qcf hs ?_
     refine wp_exit ?_
     refine hK587 _ _ ?_
     clear hK587
     refine Vk.region ?_
     refine qpk 2 [0, 1, 4, 5, 6, 16, 17] hs fun a hs => hKL584 _ _ ?_
     clear hKL584
     refine Vk.unroll fun KL650 hKL650 => ?_
     refine qsk 1 [0, 1, 4, 5, 6, 16, 17, 18] hs fun a hs => ?_
     refine Vk.seq fun K652 hK652 => ?_
     refine qcf hs ?_
     refine wp_exit ?_
     refine hK471 _ _ ?_
     clear hK471
     refine qsr fun K653 hK653 => ?_
     refine qln 1 ([ci v_521.1, ci v_580.1, ci v_640.1]) hs rfl fun a hs => ?_
     refine qsa 2 [ci v_521.1, ci v_580.1, ci v_640.1] hs rfl fun a w hs => ?_
     refine qpe 0 [(4, pp b_463)] hs fun a hs => hK653 _ _ ?_
     clear hK653
     refine wp_ret ?_
     refine hKP461 _ _ ?_
     refine hKR461 _ _ ?_
     refine Vk.retC (P := Tryz.prog) (fn := Tryz.f133) [ci v_521.1, ci v_580.1, ci v_640.1] hs rfl (by kernel_rfl) (sz := 3) (by kernel_rfl) rfl (CellsAt.all 2 rfl) ⟨_, _, _, rfl, hs.own, fun a hs => ?_⟩
     refine qal 75 [ci 0, ci 0, ci 0] 8 hs fun b_654 w a hs => ?_
     refine qsa 0 [ci v_521.1, ci v_580.1, ci v_640.1] hs rfl fun a w hs => ?_
     refine qpk 0 [0, 6, 8] hs fun a hs => hK460 _ _ ?_
     clear hK460
     refine qsr fun K655 hK655 => ?_
     refine qpu 1 hs fun a hs => ?_
     obtain ⟨v_658, h_657, hm⟩ := bind_t hm
     refine qcl (wire_Machine_End.ok _ _ _ h_657 _ _ _ b_x0 hs.own.f1) hs fun w a hs => ?_
     refine qpe 0 [(6, pp b_4), (8, pp b_654)] hs fun a hs => hK655 _ _ ?_
     clear hK655
     refine qsr fun K659 hK659 => ?_
     refine qln 1 ([ci v_521.1, ci v_580.1, ci v_640.1]) hs rfl fun a hs => ?_
     refine qsa 8 [ci v_521.1, ci v_580.1, ci v_640.1] hs rfl fun a w hs => ?_
     refine qpe 0 [(6, pp b_4)] hs fun a hs => hK659 _ _ ?_
     clear hK659
     refine wp_ret ?_
     exact Vk.retC [ci v_521.1, ci v_580.1, ci v_640.1] hs rfl (by kernel_rfl) (sz := 3) (by kernel_rfl) rfl (CellsAt.all 8 rfl) (hRR ▸ by cases hm; exact ⟨rfl, (hs.own.too [0] 11)⟩)
    ·replace hm := bif_f hm hb
     cases hm
   ·replace hm := bif_f hm hb
    cases hm
  ·replace hm := bif_f hm hb
   cases hm


abbrev times_By.R (κ : Ctx) (S : List HP) (x0 : Twire_Machine) (x1 : Int) (x2 : Cells) (x3 : Cells) (b_x0 : Nat) (r : (Cells × Twire_Machine)) : Ending → World → Prop := fun e w' => e = .returned (.agg (vals r.1)) ∧ Ow κ w' (Twire_Machine.own b_x0 r.2 :: S)
def times_By.m (k : Nat) (x0 : Twire_Machine) (x1 : Int) (x2 : Cells) (x3 : Cells) : Option (Cells × Twire_Machine) := (bif x1 == 2 then (if x2.length = 3 then (if x3.length = 3 then (times_Dom.m k x0 x2 x3).bind fun v_12 => (if v_12.1.length = 3 then some (v_12.1, v_12.2) else none) else none) else none) else (if x2.length = 3 then (if x3.length = 3 then (times_Isw.m k x0 x2 x3).bind fun v_19 => (if v_19.1.length = 3 then some (v_19.1, v_19.2) else none) else none) else none))

set_option maxRecDepth 100000 in
set_option maxHeartbeats 4000000 in
theorem times_By.ok (k : Nat) (x0 : Twire_Machine) (x1 : Int) (x2 : Cells) (x3 : Cells) (r : (Cells × Twire_Machine)) (hm : times_By.m k x0 x1 x2 x3 = some r) (κ : Ctx) (w : World) (S : List HP) (b_x0 : Nat) (ho : Ow κ w (Twire_Machine.own b_x0 x0 :: S)) :
  Calls Tryz.prog 90 #[pp b_x0, vi x1, .agg (vals x2), .agg (vals x3)] w (times_By.R κ S x0 x1 x2 x3 b_x0 r) := by
 unfold times_By.m at hm
 generalize hRR : times_By.R κ S x0 x1 x2 x3 b_x0 r = RR
 refine qen [(0, pp b_x0), (1, vi x1), (2, .agg (vals x2)), (3, .agg (vals x3))] Tryz.func90 Tryz.ntmps90 ho fun a hs => ?_
 refine qsr fun K1 hK1 => ?_
 refine qbx 2 75 x2 6 hs fun b_2 w a hs => ?_
 refine qbx 3 75 x3 7 hs fun b_3 w a hs => ?_
 refine qal 75 [ci 0, ci 0, ci 0] 8 hs fun b_4 w a hs => ?_
 refine qpk 0 [0, 1, 6, 7, 8] hs fun a hs => hK1 _ _ ?_
 clear hK1
 refine Vk.seq fun K5 hK5 => ?_
 refine qsk 2 [0, 6, 7, 8, 10] hs fun a hs => ?_
 refine qcs (x1 == 2) hs (fun hb => ?_) fun hb => ?_
 ·replace hm := bif_t hm hb
  refine qsr fun K7 hK7 => ?_
  refine qpu 1 hs fun a hs => ?_
  obtain ⟨h_8, hm⟩ := ite_t hm
  refine qlw 2 hs rfl h_8 fun a hs => ?_
  obtain ⟨h_9, hm⟩ := ite_t hm
  refine qlw 1 hs rfl h_9 fun a hs => ?_
  obtain ⟨v_12, h_11, hm⟩ := bind_t hm
  refine qcl (times_Dom.ok _ _ _ _ _ h_11 _ _ _ b_x0 hs.own.f3) hs fun w a hs => ?_
  obtain ⟨h_13, hm⟩ := ite_t hm
  refine qsb 1 v_12.1 hs rfl h_13 rfl fun a w hs => ?_
  refine qpe 0 [(8, pp b_4)] hs fun a hs => hK7 _ _ ?_
  clear hK7
  refine wp_ret ?_
  exact Vk.retC v_12.1 hs rfl (by kernel_rfl) (sz := 3) (by kernel_rfl) h_13 (CellsAt.all 1 rfl) (hRR ▸ by cases hm; exact ⟨rfl, (hs.own.too [0] 4)⟩)
 ·replace hm := bif_f hm hb
  refine wp_skip ?_
  refine hK5 _ _ ?_
  clear hK5
  refine qsr fun K14 hK14 => ?_
  refine qpu 1 hs fun a hs => ?_
  obtain ⟨h_15, hm⟩ := ite_t hm
  refine qlw 2 hs rfl h_15 fun a hs => ?_
  obtain ⟨h_16, hm⟩ := ite_t hm
  refine qlw 1 hs rfl h_16 fun a hs => ?_
  obtain ⟨v_19, h_18, hm⟩ := bind_t hm
  refine qcl (times_Isw.ok _ _ _ _ _ h_18 _ _ _ b_x0 hs.own.f3) hs fun w a hs => ?_
  obtain ⟨h_20, hm⟩ := ite_t hm
  refine qsb 1 v_19.1 hs rfl h_20 rfl fun a w hs => ?_
  refine qpe 0 [(8, pp b_4)] hs fun a hs => hK14 _ _ ?_
  clear hK14
  refine wp_ret ?_
  exact Vk.retC v_19.1 hs rfl (by kernel_rfl) (sz := 3) (by kernel_rfl) h_20 (CellsAt.all 1 rfl) (hRR ▸ by cases hm; exact ⟨rfl, (hs.own.too [0] 4)⟩)


abbrev both_And.R (κ : Ctx) (S : List HP) (x0 : Twire_Machine) (x1 : Int) (x2 : Cells) (x3 : Cells) (b_x0 : Nat) (r : (Cells × Twire_Machine)) : Ending → World → Prop := fun e w' => e = .returned (.agg (vals r.1)) ∧ Ow κ w' (Twire_Machine.own b_x0 r.2 :: S)
def both_And.m (k : Nat) (x0 : Twire_Machine) (x1 : Int) (x2 : Cells) (x3 : Cells) : Option (Cells × Twire_Machine) := (if x3.length = 3 then (fresh_Full.m k x0 x3).bind fun v_9 => (if v_9.1.length = 3 then (if x2.length = 3 then (times_By.m k v_9.2 x1 x2 v_9.1).bind fun v_15 => (if v_15.1.length = 3 then some (v_15.1, v_15.2) else none) else none) else none) else none)

set_option maxRecDepth 100000 in
set_option maxHeartbeats 4000000 in
theorem both_And.ok (k : Nat) (x0 : Twire_Machine) (x1 : Int) (x2 : Cells) (x3 : Cells) (r : (Cells × Twire_Machine)) (hm : both_And.m k x0 x1 x2 x3 = some r) (κ : Ctx) (w : World) (S : List HP) (b_x0 : Nat) (ho : Ow κ w (Twire_Machine.own b_x0 x0 :: S)) :
  Calls Tryz.prog 51 #[pp b_x0, vi x1, .agg (vals x2), .agg (vals x3)] w (both_And.R κ S x0 x1 x2 x3 b_x0 r) := by
 unfold both_And.m at hm
 generalize hRR : both_And.R κ S x0 x1 x2 x3 b_x0 r = RR
 refine qen [(0, pp b_x0), (1, vi x1), (2, .agg (vals x2)), (3, .agg (vals x3))] Tryz.func51 Tryz.ntmps51 ho fun a hs => ?_
 refine qsr fun K1 hK1 => ?_
 refine qbx 2 75 x2 6 hs fun b_2 w a hs => ?_
 refine qbx 3 75 x3 7 hs fun b_3 w a hs => ?_
 refine qal 75 [ci 0, ci 0, ci 0] 8 hs fun b_4 w a hs => ?_
 refine qpk 0 [0, 1, 6, 7, 8] hs fun a hs => hK1 _ _ ?_
 clear hK1
 refine qsr fun K5 hK5 => ?_
 refine qpu 1 hs fun a hs => ?_
 obtain ⟨h_6, hm⟩ := ite_t hm
 refine qlw 1 hs rfl h_6 fun a hs => ?_
 obtain ⟨v_9, h_8, hm⟩ := bind_t hm
 refine qcl (fresh_Full.ok _ _ _ _ h_8 _ _ _ b_x0 hs.own.f3) hs fun w a hs => ?_
 obtain ⟨h_10, hm⟩ := ite_t hm
 refine qsb 2 v_9.1 hs rfl h_10 h_6 fun a w hs => ?_
 refine qpk 0 [0, 1, 6, 7, 8] hs fun a hs => hK5 _ _ ?_
 clear hK5
 refine qsr fun K11 hK11 => ?_
 refine qpu 2 hs fun a hs => ?_
 obtain ⟨h_12, hm⟩ := ite_t hm
 refine qlw 3 hs rfl h_12 fun a hs => ?_
 refine qlw 2 hs rfl h_10 fun a hs => ?_
 obtain ⟨v_15, h_14, hm⟩ := bind_t hm
 refine qcl (times_By.ok _ _ _ _ _ _ h_14 _ _ _ b_x0 hs.own) hs fun w a hs => ?_
 obtain ⟨h_16, hm⟩ := ite_t hm
 refine qsb 1 v_15.1 hs rfl h_16 rfl fun a w hs => ?_
 refine qpe 0 [(8, pp b_4)] hs fun a hs => hK11 _ _ ?_
 clear hK11
 refine wp_ret ?_
 exact Vk.retC v_15.1 hs rfl (by kernel_rfl) (sz := 3) (by kernel_rfl) h_16 (CellsAt.all 1 rfl) (hRR ▸ by cases hm; exact ⟨rfl, (hs.own.too [0] 4)⟩)


abbrev both_Or.R (κ : Ctx) (S : List HP) (x0 : Twire_Machine) (x1 : Int) (x2 : Cells) (x3 : Cells) (b_x0 : Nat) (r : (Cells × Twire_Machine)) : Ending → World → Prop := fun e w' => e = .returned (.agg (vals r.1)) ∧ Ow κ w' (Twire_Machine.own b_x0 r.2 :: S)
def both_Or.m (k : Nat) (x0 : Twire_Machine) (x1 : Int) (x2 : Cells) (x3 : Cells) : Option (Cells × Twire_Machine) := (if x2.length = 3 then (share_Not.m k x0 x2).bind fun v_9 => (if v_9.1.length = 3 then (if x3.length = 3 then (share_Not.m k v_9.2 x3).bind fun v_15 => (if v_15.1.length = 3 then (both_And.m k v_15.2 x1 v_9.1 v_15.1).bind fun v_20 => (share_Not.m k v_20.2 v_20.1).bind fun v_23 => (if v_23.1.length = 3 then some (v_23.1, v_23.2) else none) else none) else none) else none) else none)

set_option maxRecDepth 100000 in
set_option maxHeartbeats 4000000 in
theorem both_Or.ok (k : Nat) (x0 : Twire_Machine) (x1 : Int) (x2 : Cells) (x3 : Cells) (r : (Cells × Twire_Machine)) (hm : both_Or.m k x0 x1 x2 x3 = some r) (κ : Ctx) (w : World) (S : List HP) (b_x0 : Nat) (ho : Ow κ w (Twire_Machine.own b_x0 x0 :: S)) :
  Calls Tryz.prog 52 #[pp b_x0, vi x1, .agg (vals x2), .agg (vals x3)] w (both_Or.R κ S x0 x1 x2 x3 b_x0 r) := by
 unfold both_Or.m at hm
 generalize hRR : both_Or.R κ S x0 x1 x2 x3 b_x0 r = RR
 refine qen [(0, pp b_x0), (1, vi x1), (2, .agg (vals x2)), (3, .agg (vals x3))] Tryz.func52 Tryz.ntmps52 ho fun a hs => ?_
 refine qsr fun K1 hK1 => ?_
 refine qbx 2 75 x2 6 hs fun b_2 w a hs => ?_
 refine qbx 3 75 x3 7 hs fun b_3 w a hs => ?_
 refine qal 75 [ci 0, ci 0, ci 0] 8 hs fun b_4 w a hs => ?_
 refine qpk 0 [0, 1, 6, 7, 8] hs fun a hs => hK1 _ _ ?_
 clear hK1
 refine qsr fun K5 hK5 => ?_
 refine qpu 1 hs fun a hs => ?_
 obtain ⟨h_6, hm⟩ := ite_t hm
 refine qlw 2 hs rfl h_6 fun a hs => ?_
 obtain ⟨v_9, h_8, hm⟩ := bind_t hm
 refine qcl (share_Not.ok _ _ _ _ h_8 _ _ _ b_x0 hs.own.f3) hs fun w a hs => ?_
 obtain ⟨h_10, hm⟩ := ite_t hm
 refine qsb 3 v_9.1 hs rfl h_10 h_6 fun a w hs => ?_
 refine qpk 0 [0, 1, 6, 7, 8] hs fun a hs => hK5 _ _ ?_
 clear hK5
 refine qsr fun K11 hK11 => ?_
 refine qpu 1 hs fun a hs => ?_
 obtain ⟨h_12, hm⟩ := ite_t hm
 refine qlw 2 hs rfl h_12 fun a hs => ?_
 obtain ⟨v_15, h_14, hm⟩ := bind_t hm
 refine qcl (share_Not.ok _ _ _ _ h_14 _ _ _ b_x0 hs.own) hs fun w a hs => ?_
 obtain ⟨h_16, hm⟩ := ite_t hm
 refine qsb 2 v_15.1 hs rfl h_16 h_12 fun a w hs => ?_
 refine qpk 0 [0, 1, 6, 7, 8] hs fun a hs => hK11 _ _ ?_
 clear hK11
 refine qsr fun K17 hK17 => ?_
 refine qpu 3 hs fun a hs => ?_
 refine qlw 3 hs rfl h_10 fun a hs => ?_
 refine qlw 2 hs rfl h_16 fun a hs => ?_
 obtain ⟨v_20, h_19, hm⟩ := bind_t hm
 refine qcl (both_And.ok _ _ _ _ _ _ h_19 _ _ _ b_x0 hs.own) hs fun w a hs => ?_
 obtain ⟨v_23, h_22, hm⟩ := bind_t hm
 refine qcl (share_Not.ok _ _ _ _ h_22 _ _ _ b_x0 hs.own) hs fun w a hs => ?_
 obtain ⟨h_24, hm⟩ := ite_t hm
 refine qsb 1 v_23.1 hs rfl h_24 rfl fun a w hs => ?_
 refine qpe 0 [(8, pp b_4)] hs fun a hs => hK17 _ _ ?_
 clear hK17
 refine wp_ret ?_
 exact Vk.retC v_23.1 hs rfl (by kernel_rfl) (sz := 3) (by kernel_rfl) h_24 (CellsAt.all 1 rfl) (hRR ▸ by cases hm; exact ⟨rfl, (hs.own.too [0] 4)⟩)


abbrev both_Less.R (κ : Ctx) (S : List HP) (x0 : Twire_Machine) (x1 : Int) (x2 : Cells) (x3 : Cells) (b_x0 : Nat) (r : (Cells × Twire_Machine)) : Ending → World → Prop := fun e w' => e = .returned (.agg (vals r.1)) ∧ Ow κ w' (Twire_Machine.own b_x0 r.2 :: S)
def both_Less.m (k : Nat) (x0 : Twire_Machine) (x1 : Int) (x2 : Cells) (x3 : Cells) : Option (Cells × Twire_Machine) := (if x2.length = 3 then (if x3.length = 3 then (share_Not.m k x0 x2).bind fun v_11 => (both_And.m k v_11.2 x1 v_11.1 x3).bind fun v_14 => (if v_14.1.length = 3 then some (v_14.1, v_14.2) else none) else none) else none)

set_option maxRecDepth 100000 in
set_option maxHeartbeats 4000000 in
theorem both_Less.ok (k : Nat) (x0 : Twire_Machine) (x1 : Int) (x2 : Cells) (x3 : Cells) (r : (Cells × Twire_Machine)) (hm : both_Less.m k x0 x1 x2 x3 = some r) (κ : Ctx) (w : World) (S : List HP) (b_x0 : Nat) (ho : Ow κ w (Twire_Machine.own b_x0 x0 :: S)) :
  Calls Tryz.prog 53 #[pp b_x0, vi x1, .agg (vals x2), .agg (vals x3)] w (both_Less.R κ S x0 x1 x2 x3 b_x0 r) := by
 unfold both_Less.m at hm
 generalize hRR : both_Less.R κ S x0 x1 x2 x3 b_x0 r = RR
 refine qen [(0, pp b_x0), (1, vi x1), (2, .agg (vals x2)), (3, .agg (vals x3))] Tryz.func53 Tryz.ntmps53 ho fun a hs => ?_
 refine qsr fun K1 hK1 => ?_
 refine qbx 2 75 x2 6 hs fun b_2 w a hs => ?_
 refine qbx 3 75 x3 7 hs fun b_3 w a hs => ?_
 refine qal 75 [ci 0, ci 0, ci 0] 8 hs fun b_4 w a hs => ?_
 refine qpk 0 [0, 1, 6, 7, 8] hs fun a hs => hK1 _ _ ?_
 clear hK1
 refine Vk.seq fun K5 hK5 => ?_
 obtain ⟨C_6, hC_6⟩ := qC hs.own.f3.drop
 refine qdr 7 κ C_6 hs fun w hs hqC_6 => ?_
 have hcl := qO hC_6 hs.own.f3.drop
 refine qdp (fuel := 5) [0, 1, 2] hs hcl hqC_6 fun a hs => ?_
 obtain ⟨h_7, hm⟩ := ite_t hm
 refine qdw 3 2 hs hcl hqC_6 hC_6 rfl h_7 fun a hs => ?_
 obtain ⟨h_8, hm⟩ := ite_t hm
 refine qdw 5 1 hs hcl hqC_6 hC_6 rfl h_8 fun a hs => ?_
 obtain ⟨v_11, h_10, hm⟩ := bind_t hm
 refine qdc 4 (share_Not.ok _ _ _ _ h_10 _ _ _ b_x0 hs.own.f3) hs fun w a hs => ?_
 replace hcl := qO hC_6 hs.own.drop
 refine ⟨fun _ => hcl, ?_⟩
 obtain ⟨v_14, h_13, hm⟩ := bind_t hm
 refine qdc 6 (both_And.ok _ _ _ _ _ _ h_13 _ _ _ b_x0 hs.own) hs fun w a hs => ?_
 replace hcl := qO hC_6 hs.own.drop
 refine ⟨fun _ => hcl, ?_⟩
 obtain ⟨h_15, hm⟩ := ite_t hm
 refine qsA 7 1 v_14.1 hs rfl h_15 rfl fun a w hs => ?_
 refine ⟨fun h => absurd h (by decide), ?_⟩
 replace hs := hs.pick [8] (L' := [(8, pp b_4)]) (by kernel_rfl)
 refine Vk.dDone (by kernel_rfl) ?_
 refine hK5 _ _ ?_
 clear hK5
 refine wp_ret ?_
 exact Vk.retC v_14.1 hs rfl (by kernel_rfl) (sz := 3) (by kernel_rfl) h_15 (CellsAt.all 1 rfl) (hRR ▸ by cases hm; exact ⟨rfl, (hs.own.too [0] 4)⟩)


abbrev wire_Machine_Open.R (κ : Ctx) (S : List HP) (x0 : Twire_Machine) (x1 : Int) (x2 : Int) (x3 : Int) (b_x0 : Nat) (r : (Int × Twire_Machine)) : Ending → World → Prop := fun e w' => e = .returned (vw r.1) ∧ Ow κ w' (Twire_Machine.own b_x0 r.2 :: S)
def wire_Machine_Open.m (k : Nat) (x0 : Twire_Machine) (x1 : Int) (x2 : Int) (x3 : Int) : Option (Int × Twire_Machine) := (wire_Machine_Do.m k x0 (⟨12, (-1), x1, x2, x3, 0⟩ : Tapi_Op) 0).bind fun v_5 => (bif decide (v_5.1 < 0) then some (0, v_5.2) else (bif v_5.2.dry then some (18446744073709551615, v_5.2) else (if 0 ≤ v_5.1 then (v_5.2.values[v_5.1.toNat]?).bind fun e_19 => some (e_19, v_5.2) else none)))

set_option maxRecDepth 100000 in
set_option maxHeartbeats 4000000 in
theorem wire_Machine_Open.ok (k : Nat) (x0 : Twire_Machine) (x1 : Int) (x2 : Int) (x3 : Int) (r : (Int × Twire_Machine)) (hm : wire_Machine_Open.m k x0 x1 x2 x3 = some r) (κ : Ctx) (w : World) (S : List HP) (b_x0 : Nat) (ho : Ow κ w (Twire_Machine.own b_x0 x0 :: S)) :
  Calls Tryz.prog 91 #[pp b_x0, vi x1, vi x2, vi x3] w (wire_Machine_Open.R κ S x0 x1 x2 x3 b_x0 r) := by
 unfold wire_Machine_Open.m at hm
 generalize hRR : wire_Machine_Open.R κ S x0 x1 x2 x3 b_x0 r = RR
 refine qen [(0, pp b_x0), (1, vi x1), (2, vi x2), (3, vi x3)] Tryz.func91 Tryz.ntmps91 ho fun a hs => ?_
 refine qsk 1 [0, 1, 2, 3] hs fun a hs => ?_
 refine qsr fun K2 hK2 => ?_
 refine qpu 5 hs fun a hs => ?_
 obtain ⟨v_5, h_4, hm⟩ := bind_t hm
 refine qcl (wire_Machine_Do.ok _ _ _ _ _ h_4 _ _ _ b_x0 hs.own) hs fun w a hs => ?_
 refine qpk 1 [0, 9] hs fun a hs => hK2 _ _ ?_
 clear hK2
 refine Vk.seq fun K6 hK6 => ?_
 refine wp_block ?_
 refine qsk 3 [0, 9, 16] hs fun a hs => ?_
 refine qcs (decide (v_5.1 < 0)) hs (fun hb => ?_) fun hb => ?_
 ·replace hm := bif_t hm hb
  refine qse 1 [(8, vw 0)] hs fun a hs => ?_
  refine wp_ret ?_
  exact qr1 (vw 0) hs rfl hRR (by cases hm; exact ⟨rfl, hs.own⟩)
 ·replace hm := bif_f hm hb
  refine qsr fun K9 hK9 => ?_
  refine qpu 3 hs fun a hs => ?_
  obtain ⟨g_10, hs⟩ := hs.unbag 0 rfl
  refine qld 0 (C.bool v_5.2.dry) hs rfl fun a hs => ?_
  refine qpk 1 [0, 9, 19] hs fun a hs => hK9 _ _ ?_
  clear hK9
  refine qcs (v_5.2.dry) hs (fun hb => ?_) fun hb => ?_
  ·replace hm := bif_t hm hb
   refine qsk 1 [8] hs fun a hs => ?_
   refine wp_ret ?_
   replace hs := hs.bagG (l := Twire_Machine.parts b_x0 v_5.2 g_10) (S' := S) hs.own
   replace hs := hs.toEx (Twire_Machine.parts b_x0 v_5.2) g_10 0 rfl
   exact qr1 (vw 18446744073709551615) hs rfl hRR (by cases hm; exact ⟨rfl, hs.own⟩)
  ·replace hm := bif_f hm hb
   refine wp_skip ?_
   refine hK6 _ _ ?_
   clear hK6
   refine qsr fun K15 hK15 => ?_
   refine qpu 3 hs fun a hs => ?_
   refine qld 0 (C.slc g_10.2.2.2.1 v_5.2.values.length g_10.2.2.2.2.1) hs rfl fun a hs => ?_
   refine qpu 1 hs fun a hs => ?_
   obtain ⟨h_16, hm⟩ := ite_t hm
   obtain ⟨e_19, h_17, hm⟩ := bind_t hm
   obtain ⟨b_20, o_21, hA_22, h_18⟩ := Sl.elem (Ow.rowSl 0 (Ow.to (S' := rowp g_10.2.2.2.1 g_10.2.2.2.2.1 34 1 (eI .u64) v_5.2.values :: S) hs.own [3] 5 (by kernel_rfl) (by kernel_rfl)) rfl) h_17
   refine qva (.pointer (some ⟨b_20, o_21 + v_5.1.toNat * 1, none⟩)) (op := (.indexAddr 26 (.tmp 27) (.tmp 28))) hs (fun o ho => run_idxSlc (k := .i64) ho (cap := g_10.2.2.2.2.1) (len := v_5.2.values.length) ((congrArg (fun A => Value.slice A (v_5.2.values.length) (g_10.2.2.2.2.1)) hA_22) ▸ (by kernel_rfl)) (by kernel_rfl) (by kernel_rfl) (idx_ok h_16 h_17) _) fun a hs => ?_
   refine qva (vw e_19) (op := (.load 34 (.tmp 29))) hs (fun o ho => run_load1 (c := cw e_19) ho (by kernel_rfl) (by kernel_rfl) (fun w ho => h_18 w ho 0 _ rfl) _ (Ow.to (S' := rowp g_10.2.2.2.1 g_10.2.2.2.2.1 34 1 (eI .u64) v_5.2.values :: S) hs.own [3] 5 (by kernel_rfl) (by kernel_rfl))) fun a hs => ?_
   refine qpe 1 [(8, vw e_19)] hs fun a hs => hK15 _ _ ?_
   clear hK15
   refine wp_ret ?_
   replace hs := hs.bagG (l := Twire_Machine.parts b_x0 v_5.2 g_10) (S' := S) hs.own
   replace hs := hs.toEx (Twire_Machine.parts b_x0 v_5.2) g_10 0 rfl
   exact qr1 (vw e_19) hs rfl hRR (by cases hm; exact ⟨rfl, hs.own⟩)


abbrev guard_Open.R (κ : Ctx) (S : List HP) (x0 : Twire_Machine) (x1 : Cells) (b_x0 : Nat) (r : (Int × Twire_Machine)) : Ending → World → Prop := fun e w' => e = .returned (vw r.1) ∧ Ow κ w' (Twire_Machine.own b_x0 r.2 :: S)
def guard_Open.m (k : Nat) (x0 : Twire_Machine) (x1 : Cells) : Option (Int × Twire_Machine) := (if x1.length = 3 then (fresh_Full.m k x0 x1).bind fun v_7 => (if v_7.1.length = 3 then (getI .i64 v_7.1 (0)).bind fun v_12 => (getI .i64 v_7.1 (1)).bind fun v_14 => (getI .i64 v_7.1 (2)).bind fun v_16 => (wire_Machine_Open.m k v_7.2 v_12 v_14 v_16).bind fun v_19 => some (v_19.1, v_19.2) else none) else none)

set_option maxRecDepth 100000 in
set_option maxHeartbeats 4000000 in
theorem guard_Open.ok (k : Nat) (x0 : Twire_Machine) (x1 : Cells) (r : (Int × Twire_Machine)) (hm : guard_Open.m k x0 x1 = some r) (κ : Ctx) (w : World) (S : List HP) (b_x0 : Nat) (ho : Ow κ w (Twire_Machine.own b_x0 x0 :: S)) :
  Calls Tryz.prog 54 #[pp b_x0, .agg (vals x1)] w (guard_Open.R κ S x0 x1 b_x0 r) := by
 unfold guard_Open.m at hm
 generalize hRR : guard_Open.R κ S x0 x1 b_x0 r = RR
 refine qen [(0, pp b_x0), (1, .agg (vals x1))] Tryz.func54 Tryz.ntmps54 ho fun a hs => ?_
 refine qsr fun K1 hK1 => ?_
 refine qbx 1 75 x1 3 hs fun b_2 w a hs => ?_
 refine qpe 1 [(0, pp b_x0), (3, pp b_2)] hs fun a hs => hK1 _ _ ?_
 clear hK1
 refine qsr fun K3 hK3 => ?_
 refine qpu 1 hs fun a hs => ?_
 obtain ⟨h_4, hm⟩ := ite_t hm
 refine qlw 0 hs rfl h_4 fun a hs => ?_
 obtain ⟨v_7, h_6, hm⟩ := bind_t hm
 refine qcl (fresh_Full.ok _ _ _ _ h_6 _ _ _ b_x0 hs.own.f1) hs fun w a hs => ?_
 refine qal 75 [ci 0, ci 0, ci 0] 5 hs fun b_8 w a hs => ?_
 obtain ⟨h_9, hm⟩ := ite_t hm
 refine qsb 0 v_7.1 hs rfl h_9 rfl fun a w hs => ?_
 refine qpe 0 [(0, pp b_x0), (5, pp b_8)] hs fun a hs => hK3 _ _ ?_
 clear hK3
 refine qsr fun K10 hK10 => ?_
 refine qpu 3 hs fun a hs => ?_
 obtain ⟨v_12, h_11, hm⟩ := bind_t hm
 refine qli 0 hs rfl h_11 fun a hs => ?_
 refine qpu 2 hs fun a hs => ?_
 obtain ⟨v_14, h_13, hm⟩ := bind_t hm
 refine qli 0 hs rfl h_13 fun a hs => ?_
 refine qpu 2 hs fun a hs => ?_
 obtain ⟨v_16, h_15, hm⟩ := bind_t hm
 refine qli 0 hs rfl h_15 fun a hs => ?_
 obtain ⟨v_19, h_18, hm⟩ := bind_t hm
 refine qcl (wire_Machine_Open.ok _ _ _ _ _ _ h_18 _ _ _ b_x0 hs.own.f1) hs fun w a hs => ?_
 refine qpe 1 [(4, vw v_19.1)] hs fun a hs => hK10 _ _ ?_
 clear hK10
 refine wp_ret ?_
 exact qr1 (vw v_19.1) hs rfl hRR (by cases hm; exact ⟨rfl, hs.own.f2.drop.f1.drop⟩)


abbrev guard_masked.R (κ : Ctx) (S : List HP) (x0 : Twire_Machine) (x1 : Cells) (x2 : Int) (b_x0 : Nat) (r : (Int × Twire_Machine)) : Ending → World → Prop := fun e w' => e = .returned (vw r.1) ∧ Ow κ w' (Twire_Machine.own b_x0 r.2 :: S)
def guard_masked.m (k : Nat) (x0 : Twire_Machine) (x1 : Cells) (x2 : Int) : Option (Int × Twire_Machine) := (if x1.length = 3 then (share_One.m k x0 8 x1 x2).bind fun v_7 => (guard_Open.m k v_7.2 v_7.1).bind fun v_10 => some (v_10.1, v_10.2) else none)

set_option maxRecDepth 100000 in
set_option maxHeartbeats 4000000 in
theorem guard_masked.ok (k : Nat) (x0 : Twire_Machine) (x1 : Cells) (x2 : Int) (r : (Int × Twire_Machine)) (hm : guard_masked.m k x0 x1 x2 = some r) (κ : Ctx) (w : World) (S : List HP) (b_x0 : Nat) (ho : Ow κ w (Twire_Machine.own b_x0 x0 :: S)) :
  Calls Tryz.prog 93 #[pp b_x0, .agg (vals x1), vw x2] w (guard_masked.R κ S x0 x1 x2 b_x0 r) := by
 unfold guard_masked.m at hm
 generalize hRR : guard_masked.R κ S x0 x1 x2 b_x0 r = RR
 refine qen [(0, pp b_x0), (1, .agg (vals x1)), (2, vw x2)] Tryz.func93 Tryz.ntmps93 ho fun a hs => ?_
 refine qsr fun K1 hK1 => ?_
 refine qbx 1 75 x1 4 hs fun b_2 w a hs => ?_
 refine qpk 1 [0, 2, 4] hs fun a hs => hK1 _ _ ?_
 clear hK1
 refine qsr fun K3 hK3 => ?_
 refine qpu 2 hs fun a hs => ?_
 obtain ⟨h_4, hm⟩ := ite_t hm
 refine qlw 0 hs rfl h_4 fun a hs => ?_
 refine qpu 1 hs fun a hs => ?_
 obtain ⟨v_7, h_6, hm⟩ := bind_t hm
 refine qcl (share_One.ok _ _ _ _ _ _ h_6 _ _ _ b_x0 hs.own.f1) hs fun w a hs => ?_
 obtain ⟨v_10, h_9, hm⟩ := bind_t hm
 refine qcl (guard_Open.ok _ _ _ _ h_9 _ _ _ b_x0 hs.own) hs fun w a hs => ?_
 refine qpe 1 [(6, vw v_10.1)] hs fun a hs => hK3 _ _ ?_
 clear hK3
 refine wp_ret ?_
 exact qr1 (vw v_10.1) hs rfl hRR (by cases hm; exact ⟨rfl, hs.own.f1.drop⟩)


abbrev guard_Yes.R (κ : Ctx) (S : List HP) (x0 : Twire_Machine) (x1 : Cells) (b_x0 : Nat) (r : (Bool × Twire_Machine)) : Ending → World → Prop := fun e w' => e = .returned (.bool r.1) ∧ Ow κ w' (Twire_Machine.own b_x0 r.2 :: S)
def guard_Yes.m (k : Nat) (x0 : Twire_Machine) (x1 : Cells) : Option (Bool × Twire_Machine) := (if x1.length = 3 then (guard_masked.m k x0 x1 1).bind fun v_7 => some ((band .u64 v_7.1 1) == 1, v_7.2) else none)

set_option maxRecDepth 100000 in
set_option maxHeartbeats 4000000 in
theorem guard_Yes.ok (k : Nat) (x0 : Twire_Machine) (x1 : Cells) (r : (Bool × Twire_Machine)) (hm : guard_Yes.m k x0 x1 = some r) (κ : Ctx) (w : World) (S : List HP) (b_x0 : Nat) (ho : Ow κ w (Twire_Machine.own b_x0 x0 :: S)) :
  Calls Tryz.prog 56 #[pp b_x0, .agg (vals x1)] w (guard_Yes.R κ S x0 x1 b_x0 r) := by
 unfold guard_Yes.m at hm
 generalize hRR : guard_Yes.R κ S x0 x1 b_x0 r = RR
 refine qen [(0, pp b_x0), (1, .agg (vals x1))] Tryz.func56 Tryz.ntmps56 ho fun a hs => ?_
 refine qsr fun K1 hK1 => ?_
 refine qbx 1 75 x1 3 hs fun b_2 w a hs => ?_
 refine qpe 1 [(0, pp b_x0), (3, pp b_2)] hs fun a hs => hK1 _ _ ?_
 clear hK1
 refine qsr fun K3 hK3 => ?_
 refine qpu 1 hs fun a hs => ?_
 obtain ⟨h_4, hm⟩ := ite_t hm
 refine qlw 0 hs rfl h_4 fun a hs => ?_
 obtain ⟨v_7, h_6, hm⟩ := bind_t hm
 refine qcl (guard_masked.ok _ _ _ _ _ h_6 _ _ _ b_x0 hs.own.f1) hs fun w a hs => ?_
 refine qpk 3 [4] hs fun a hs => hK3 _ _ ?_
 clear hK3
 refine wp_ret ?_
 exact qr1 (.bool ((band .u64 v_7.1 1) == 1)) hs rfl hRR (by cases hm; exact ⟨rfl, hs.own.f1.drop⟩)


abbrev wire_Machine_Err.R (κ : Ctx) (S : List HP) (x0 : Twire_Machine) (b_x0 : Nat) (g_x0 : Nat × Option Addr × Nat × Option Addr × Nat × Option Addr × Nat) (r : Int) : Ending → World → Prop := fun e w' => e = .returned (vi r) ∧ Ow κ w' (bagL (Twire_Machine.parts b_x0 x0 g_x0) :: S)
def wire_Machine_Err.m (k : Nat) (x0 : Twire_Machine) : Option Int := some x0.bad

set_option maxRecDepth 100000 in
set_option maxHeartbeats 4000000 in
theorem wire_Machine_Err.ok (k : Nat) (x0 : Twire_Machine) (r : Int) (hm : wire_Machine_Err.m k x0 = some r) (κ : Ctx) (w : World) (S : List HP) (b_x0 : Nat) (g_x0 : Nat × Option Addr × Nat × Option Addr × Nat × Option Addr × Nat) (ho : Ow κ w (bagL (Twire_Machine.parts b_x0 x0 g_x0) :: S)) :
  Calls Tryz.prog 57 #[pp b_x0] w (wire_Machine_Err.R κ S x0 b_x0 g_x0 r) := by
 unfold wire_Machine_Err.m at hm
 generalize hRR : wire_Machine_Err.R κ S x0 b_x0 g_x0 r = RR
 refine qen [(0, pp b_x0)] Tryz.func57 Tryz.ntmps57 ho fun a hs => ?_
 refine qse 1 [(0, pp b_x0)] hs fun a hs => ?_
 refine Vk.seq fun K2 hK2 => ?_
 refine qsk 2 [0, 4] hs fun a hs => ?_
 refine qcf hs ?_
 refine wp_skip ?_
 refine hK2 _ _ ?_
 clear hK2
 refine qsr fun K4 hK4 => ?_
 refine qpu 3 hs fun a hs => ?_
 replace hs := hs.unbagAt 0 rfl
 refine qld 0 (ci x0.bad) hs rfl fun a hs => ?_
 refine qpe 1 [(2, vi x0.bad)] hs fun a hs => hK4 _ _ ?_
 clear hK4
 refine wp_ret ?_
 replace hs := hs.bagG (l := Twire_Machine.parts b_x0 x0 g_x0) (S' := S) hs.own
 exact qr1 (vi x0.bad) hs rfl hRR (by cases hm; exact ⟨rfl, hs.own⟩)

structure Tvisorlaw27_Act where
 kind : Int
 a : Int
 b : Int
 k : Int
 byF : Int
 c : Int
 deriving Inhabited
def Tvisorlaw27_Act.cells (x : Tvisorlaw27_Act) : Cells := [C.int .i64 x.kind, C.int .i64 x.a, C.int .i64 x.b, C.int .i64 x.k, C.int .i64 x.byF, C.int .u64 x.c]

def visorlaw27_Makes.j4 (k : Nat) (rec40 : Twire_Machine → (List Cells) → Int → Option (Twire_Machine × List Cells)) (q_44 : List Cells) (q_45 : Int) (p_156 : Twire_Machine) (p_157 : Cells) : Option (Twire_Machine × List Cells) := (if p_157.length = 3 then (if (q_44.length + ([p_157] : List Cells).length) * 24 ≤ 140737488355328 then rec40 p_156 (q_44 ++ ([p_157] : List Cells)) (IntKind.i64.wrap (q_45 + 1)) else none) else none)
def visorlaw27_Makes.j3 (k : Nat) (rec40 : Twire_Machine → (List Cells) → Int → Option (Twire_Machine × List Cells)) (q_41 : Twire_Machine) (q_44 : List Cells) (q_45 : Int) (p_61 : Tvisorlaw27_Act) (p_77 : Cells) (p_79 : Cells) : Option (Twire_Machine × List Cells) := (if p_77.length = 3 then (bif p_61.kind == 0 then (share_Encode.m k q_41 p_61.c).bind fun v_88 => (if v_88.1.length = 3 then visorlaw27_Makes.j4 k (rec40) q_44 q_45 v_88.2 v_88.1 else none) else (bif p_61.kind == 1 then (share_Public.m k q_41 p_61.c).bind fun v_93 => (if v_93.1.length = 3 then visorlaw27_Makes.j4 k (rec40) q_44 q_45 v_93.2 v_93.1 else none) else (bif p_61.kind == 2 then (share_Told.m k q_41 p_61.c).bind fun v_98 => (if v_98.1.length = 3 then visorlaw27_Makes.j4 k (rec40) q_44 q_45 v_98.2 v_98.1 else none) else (bif p_61.kind == 3 then (if p_79.length = 3 then (share_Xor.m k q_41 p_77 p_79).bind fun v_104 => (if v_104.1.length = 3 then visorlaw27_Makes.j4 k (rec40) q_44 q_45 v_104.2 v_104.1 else none) else none) else (bif p_61.kind == 4 then (share_Not.m k q_41 p_77).bind fun v_109 => (if v_109.1.length = 3 then visorlaw27_Makes.j4 k (rec40) q_44 q_45 v_109.2 v_109.1 else none) else (bif p_61.kind == 5 then (share_One.m k q_41 (IntKind.i64.wrap (8 + (IntKind.i64.wrap (Int.tmod (IntKind.u8.wrap p_61.k) 4)))) p_77 (Int.tmod p_61.c 64)).bind fun v_114 => (if v_114.1.length = 3 then visorlaw27_Makes.j4 k (rec40) q_44 q_45 v_114.2 v_114.1 else none) else (bif p_61.kind == 6 then (share_Add.m k q_41 p_77 p_61.c).bind fun v_119 => (if v_119.1.length = 3 then visorlaw27_Makes.j4 k (rec40) q_44 q_45 v_119.2 v_119.1 else none) else (bif p_61.kind == 7 then (share_AddTold.m k q_41 p_77 p_61.c).bind fun v_124 => (if v_124.1.length = 3 then visorlaw27_Makes.j4 k (rec40) q_44 q_45 v_124.2 v_124.1 else none) else (bif p_61.kind == 8 then (if p_79.length = 3 then (both_And.m k q_41 p_61.byF p_77 p_79).bind fun v_130 => (if v_130.1.length = 3 then visorlaw27_Makes.j4 k (rec40) q_44 q_45 v_130.2 v_130.1 else none) else none) else (bif p_61.kind == 9 then (if p_79.length = 3 then (both_Or.m k q_41 p_61.byF p_77 p_79).bind fun v_136 => (if v_136.1.length = 3 then visorlaw27_Makes.j4 k (rec40) q_44 q_45 v_136.2 v_136.1 else none) else none) else (bif p_61.kind == 10 then (if p_79.length = 3 then (both_Less.m k q_41 p_61.byF p_77 p_79).bind fun v_142 => (if v_142.1.length = 3 then visorlaw27_Makes.j4 k (rec40) q_44 q_45 v_142.2 v_142.1 else none) else none) else (bif p_61.kind == 11 then (guard_Open.m k q_41 p_77).bind fun v_147 => visorlaw27_Makes.j4 k (rec40) q_44 q_45 v_147.2 p_77 else (bif p_61.kind == 12 then (fresh_Full.m k q_41 p_77).bind fun v_151 => (if v_151.1.length = 3 then visorlaw27_Makes.j4 k (rec40) q_44 q_45 v_151.2 v_151.1 else none) else (guard_Yes.m k q_41 p_77).bind fun v_155 => visorlaw27_Makes.j4 k (rec40) q_44 q_45 v_155.2 p_77))))))))))))) else none)
def visorlaw27_Makes.j2 (k : Nat) (rec40 : Twire_Machine → (List Cells) → Int → Option (Twire_Machine × List Cells)) (v_24 : Twire_Machine × Tvisorref19_M × List Cells × List Int × Bool) (q_41 : Twire_Machine) (q_44 : List Cells) (q_45 : Int) (p_61 : Tvisorlaw27_Act) : Option (Twire_Machine × List Cells) := (visorlaw27_word.m k (⟨q_41, v_24.2.1, q_44, v_24.2.2.2.1⟩ : Tvisorlaw20_Pair) p_61.a).bind fun v_68 => (visorlaw27_word.m k (⟨q_41, v_24.2.1, q_44, v_24.2.2.2.1⟩ : Tvisorlaw20_Pair) p_61.b).bind fun v_71 => (if v_68.length = 3 then (if v_71.length = 3 then visorlaw27_Makes.j3 k (rec40) q_41 q_44 q_45 p_61 v_68 v_71 else none) else none)
def visorlaw27_Makes.l1 (x1 : List Tvisorlaw27_Act) (v_24 : Twire_Machine × Tvisorref19_M × List Cells × List Int × Bool) : Nat → Twire_Machine → (List Cells) → Int → Option (Twire_Machine × List Cells)
 | 0, _, _, _ => none
 | k + 1, q_41, q_44, q_45 => (bif (decide (q_45 < ((x1.length : Nat) : Int))) && (decide (q_45 < 40)) then (if 0 ≤ q_45 then (x1[q_45.toNat]?).bind fun e_54 => (bif ((q_44.length : Nat) : Int) == 0 then visorlaw27_Makes.j2 k (visorlaw27_Makes.l1 x1 v_24 k) v_24 q_41 q_44 q_45 (⟨0, e_54.a, e_54.b, e_54.k, e_54.byF, e_54.c⟩ : Tvisorlaw27_Act) else visorlaw27_Makes.j2 k (visorlaw27_Makes.l1 x1 v_24 k) v_24 q_41 q_44 q_45 e_54) else none) else some (q_41, q_44))
def visorlaw27_Makes.j1 (k : Nat) (x1 : List Tvisorlaw27_Act) (x2 : List Int) (p_12 : Int) : Option ((Sum (Tvisorref19_M × List Cells × List Int) (Sum (Twire_Machine × Tvisorref19_M × List Cells × List Int) (Twire_Machine × Tvisorref19_M × List Cells × List Int × Bool)))) := ((visorlaw20_Begins.m k p_12 x2 4000).bind fun v => match v with | (.inl v_17) => some (Sum.inl (v_17.1, v_17.2.1, v_17.2.2)) | (.inr v_24) => (bif !v_24.2.2.2.2 then some (Sum.inr (Sum.inl (v_24.1, v_24.2.1, v_24.2.2.1, v_24.2.2.2.1))) else (visorlaw27_Makes.l1 x1 v_24 k v_24.1 v_24.2.2.1 0).bind fun x => match x with | (p_164, p_167) => (wire_Machine_Err.m k p_164).bind fun v_178 => some (Sum.inr (Sum.inr (p_164, v_24.2.1, p_167, v_24.2.2.2.1, v_178 == 0)))))
abbrev visorlaw27_Makes.R (κ : Ctx) (S : List HP) (x0 : Bool) (x1 : List Tvisorlaw27_Act) (x2 : List Int) (A_x1 : Option Addr) (c_x1 : Nat) (A_x2 : Option Addr) (c_x2 : Nat) (r : (Sum (Tvisorref19_M × List Cells × List Int) (Sum (Twire_Machine × Tvisorref19_M × List Cells × List Int) (Twire_Machine × Tvisorref19_M × List Cells × List Int × Bool)))) : Ending → World → Prop := fun e w' => (∃ r', r = (Sum.inl r') ∧ ∃ (b_r0x : Nat), ∃ (A_r0l : Option Addr), ∃ (c_r0l : Nat), ∃ (A_r0v : Option Addr), ∃ (c_r0v : Nat), e = .returned (.tuple #[.agg (vals [C.ptr none, cp b_r0x, C.slc A_r0l r'.2.1.length c_r0l, C.slc A_r0v r'.2.2.length c_r0v]), .bool false]) ∧ Ow κ w' (Tvisorref19_M.own κ b_r0x r'.1 :: rowp A_r0l c_r0l 75 3 eC r'.2.1 :: rowp A_r0v c_r0v 34 1 (eI .u64) r'.2.2 :: S)) ∨ (∃ r', r = (Sum.inr (Sum.inl r')) ∧ ∃ (b_r0m : Nat), ∃ (b_r0x : Nat), ∃ (A_r0l : Option Addr), ∃ (c_r0l : Nat), ∃ (A_r0v : Option Addr), ∃ (c_r0v : Nat), e = .returned (.tuple #[.agg (vals [cp b_r0m, cp b_r0x, C.slc A_r0l r'.2.2.1.length c_r0l, C.slc A_r0v r'.2.2.2.length c_r0v]), .bool false]) ∧ Ow κ w' (Twire_Machine.own b_r0m r'.1 :: Tvisorref19_M.own κ b_r0x r'.2.1 :: rowp A_r0l c_r0l 75 3 eC r'.2.2.1 :: rowp A_r0v c_r0v 34 1 (eI .u64) r'.2.2.2 :: S)) ∨ (∃ r', r = (Sum.inr (Sum.inr r')) ∧ ∃ (b_r0m : Nat), ∃ (b_r0x : Nat), ∃ (A_r0l : Option Addr), ∃ (c_r0l : Nat), ∃ (A_r0v : Option Addr), ∃ (c_r0v : Nat), e = .returned (.tuple #[.agg (vals [cp b_r0m, cp b_r0x, C.slc A_r0l r'.2.2.1.length c_r0l, C.slc A_r0v r'.2.2.2.1.length c_r0v]), .bool r'.2.2.2.2]) ∧ Ow κ w' (Twire_Machine.own b_r0m r'.1 :: Tvisorref19_M.own κ b_r0x r'.2.1 :: rowp A_r0l c_r0l 75 3 eC r'.2.2.1 :: rowp A_r0v c_r0v 34 1 (eI .u64) r'.2.2.2.1 :: S))
def visorlaw27_Makes.m (k : Nat) (x0 : Bool) (x1 : List Tvisorlaw27_Act) (x2 : List Int) : Option (Sum (Tvisorref19_M × List Cells × List Int) (Sum (Twire_Machine × Tvisorref19_M × List Cells × List Int) (Twire_Machine × Tvisorref19_M × List Cells × List Int × Bool))) := (bif x0 then visorlaw27_Makes.j1 k x1 x2 3 else visorlaw27_Makes.j1 k x1 x2 2)

set_option maxRecDepth 100000 in
set_option maxHeartbeats 4000000 in
theorem visorlaw27_Makes.ok (k : Nat) (x0 : Bool) (x1 : List Tvisorlaw27_Act) (x2 : List Int) (r : (Sum (Tvisorref19_M × List Cells × List Int) (Sum (Twire_Machine × Tvisorref19_M × List Cells × List Int) (Twire_Machine × Tvisorref19_M × List Cells × List Int × Bool)))) (hm : visorlaw27_Makes.m k x0 x1 x2 = some r) (κ : Ctx) (w : World) (S : List HP) (A_x1 : Option Addr) (c_x1 : Nat) (hx_x1 : Sl κ S A_x1 c_x1 6 Tvisorlaw27_Act.cells x1) (A_x2 : Option Addr) (c_x2 : Nat) (ho : Ow κ w (rdp κ A_x2 c_x2 1 (eI .u64) x2 :: S)) :
  Calls Tryz.prog 23 #[.bool x0, .slice A_x1 x1.length c_x1, .slice A_x2 x2.length c_x2] w (visorlaw27_Makes.R κ S x0 x1 x2 A_x1 c_x1 A_x2 c_x2 r) := by
 unfold visorlaw27_Makes.m at hm
 generalize hRR : visorlaw27_Makes.R κ S x0 x1 x2 A_x1 c_x1 A_x2 c_x2 r = RR
 refine qen [(0, .bool x0), (1, .slice A_x1 x1.length c_x1), (2, .slice A_x2 x2.length c_x2)] Tryz.func23 Tryz.ntmps23 ho fun a hs => ?_
 refine qsr fun K1 hK1 => ?_
 refine qal 52 [C.ptr none, C.ptr none, C.slc none 0 0, C.slc none 0 0] 6 hs fun b_2 w a hs => ?_
 refine qpk 1 [0, 1, 2, 6] hs fun a hs => hK1 _ _ ?_
 clear hK1
 refine qsk 1 [0, 1, 2, 6, 8] hs fun a hs => ?_
 refine Vk.seq fun K4 hK4 => ?_
 have hj4 : ∀ (p_12 : Int), visorlaw27_Makes.j1 k x1 x2 p_12 = some r → ∀ (a : Act) (w : World), St 175 a w κ [(1, .slice A_x1 x1.length c_x1), (2, .slice A_x2 x2.length c_x2), (6, pp b_2), (8, vi p_12)] (rdp κ A_x2 c_x2 1 (eI .u64) x2 :: pt b_2 (blk ([C.ptr none, C.ptr none, C.slc none (([] : List Cells).length) 0, C.slc none (([] : List Int).length) 0]) 52) :: rowp none 0 75 3 eC ([] : List Cells) :: rowp none 0 34 1 (eI .u64) ([] : List Int) :: S) → K4 a w := by
  intro p_12 hm a w hs
  unfold visorlaw27_Makes.j1 at hm
  refine hK4 _ _ ?_
  refine qsr fun K13 hK13 => ?_
  refine qpu 2 hs fun a hs => ?_
  obtain ⟨v_16, h_15, hm⟩ := bind_t hm
  refine Vk.step (Vk.call (some 20) 41 #[vi p_12, .slice A_x2 x2.length c_x2, vi 4000] hs (by kernel_rfl) (by kernel_rfl) (by kernel_rfl) ?_)
  refine (visorlaw20_Begins.ok k p_12 x2 4000 v_16 h_15 κ w (pt b_2 (blk ([C.ptr none, C.ptr none, C.slc none (([] : List Cells).length) 0, C.slc none (([] : List Int).length) 0]) 52) :: rowp none 0 75 3 eC ([] : List Cells) :: rowp none 0 34 1 (eI .u64) ([] : List Int) :: S) A_x2 c_x2 hs.own).mono ?_
  rintro _ w (⟨v_17, rfl, br14x0x_18, Ar14x0l_19, cr14x0l_20, Ar14x0v_21, cr14x0v_22, rfl, how⟩ | ⟨v_24, rfl, br14x0m_25, br14x0x_26, Ar14x0l_27, cr14x0l_28, Ar14x0v_29, cr14x0v_30, rfl, how⟩)
  ·dsimp only at hm
   refine ⟨_, _, _, rfl, how, fun a hs => ?_⟩
   refine qpu 3 hs fun a hs => ?_
   refine qal 52 [C.ptr none, C.ptr none, C.slc none 0 0, C.slc none 0 0] 9 hs fun b_23 w a hs => ?_
   refine qsa 0 [C.ptr none, cp br14x0x_18, C.slc Ar14x0l_19 v_17.2.1.length cr14x0l_20, C.slc Ar14x0v_21 v_17.2.2.length cr14x0v_22] hs rfl fun a w hs => ?_
   refine qpk 1 [1, 6, 9, 10] hs fun a hs => hK13 _ _ ?_
   refine Vk.seq fun K32 hK32 => ?_
   refine qsk 2 [1, 6, 9, 24] hs fun a hs => ?_
   refine qct hs ?_
   refine qsr fun K34 hK34 => ?_
   refine qln 0 ([C.ptr none, cp br14x0x_18, C.slc Ar14x0l_19 v_17.2.1.length cr14x0l_20, C.slc Ar14x0v_21 v_17.2.2.length cr14x0v_22]) hs rfl fun a hs => ?_
   refine qsa 4 [C.ptr none, cp br14x0x_18, C.slc Ar14x0l_19 v_17.2.1.length cr14x0l_20, C.slc Ar14x0v_21 v_17.2.2.length cr14x0v_22] hs rfl fun a w hs => ?_
   refine qpk 1 [6, 7] hs fun a hs => hK34 _ _ ?_
   clear hK34
   refine wp_ret ?_
   exact Vk.retCT [C.ptr none, cp br14x0x_18, C.slc Ar14x0l_19 v_17.2.1.length cr14x0l_20, C.slc Ar14x0v_21 v_17.2.2.length cr14x0v_22] (.bool false) hs rfl (by kernel_rfl) (sz := 4) (by kernel_rfl) rfl (CellsAt.all 4 rfl) (by kernel_rfl) (hRR ▸ by cases hm; exact (Or.inl ⟨_, rfl, br14x0x_18, Ar14x0l_19, cr14x0l_20, Ar14x0v_21, cr14x0v_22, rfl, (hs.own.too [1, 2, 3] 7)⟩))
  ·dsimp only at hm
   refine ⟨_, _, _, rfl, how, fun a hs => ?_⟩
   refine qpu 3 hs fun a hs => ?_
   refine qal 52 [C.ptr none, C.ptr none, C.slc none 0 0, C.slc none 0 0] 9 hs fun b_31 w a hs => ?_
   refine qsa 0 [cp br14x0m_25, cp br14x0x_26, C.slc Ar14x0l_27 v_24.2.2.1.length cr14x0l_28, C.slc Ar14x0v_29 v_24.2.2.2.1.length cr14x0v_30] hs rfl fun a w hs => ?_
   refine qpe 1 [(1, .slice A_x1 x1.length c_x1), (6, pp b_2), (9, pp b_31), (10, .bool v_24.2.2.2.2)] hs fun a hs => hK13 _ _ ?_
   refine Vk.seq fun K35 hK35 => ?_
   refine qsk 2 [1, 6, 9, 24] hs fun a hs => ?_
   refine qcs (!v_24.2.2.2.2) hs (fun hb => ?_) fun hb => ?_
   ·replace hm := bif_t hm hb
    refine qsr fun K37 hK37 => ?_
    refine qln 0 ([cp br14x0m_25, cp br14x0x_26, C.slc Ar14x0l_27 v_24.2.2.1.length cr14x0l_28, C.slc Ar14x0v_29 v_24.2.2.2.1.length cr14x0v_30]) hs rfl fun a hs => ?_
    refine qsa 5 [cp br14x0m_25, cp br14x0x_26, C.slc Ar14x0l_27 v_24.2.2.1.length cr14x0l_28, C.slc Ar14x0v_29 v_24.2.2.2.1.length cr14x0v_30] hs rfl fun a w hs => ?_
    refine qpk 1 [6, 7] hs fun a hs => hK37 _ _ ?_
    clear hK37
    refine wp_ret ?_
    exact Vk.retCT [cp br14x0m_25, cp br14x0x_26, C.slc Ar14x0l_27 v_24.2.2.1.length cr14x0l_28, C.slc Ar14x0v_29 v_24.2.2.2.1.length cr14x0v_30] (.bool false) hs rfl (by kernel_rfl) (sz := 4) (by kernel_rfl) rfl (CellsAt.all 5 rfl) (by kernel_rfl) (hRR ▸ by cases hm; exact (Or.inr (Or.inl ⟨_, rfl, br14x0m_25, br14x0x_26, Ar14x0l_27, cr14x0l_28, Ar14x0v_29, cr14x0v_30, rfl, (hs.own.too [1, 2, 3, 4] 8)⟩)))
   ·replace hm := bif_f hm hb
    refine wp_skip ?_
    refine hK35 _ _ ?_
    clear hK35
    refine Vk.seq fun K38 hK38 => ?_
    refine qse 1 [(1, .slice A_x1 x1.length c_x1), (6, pp b_2), (9, pp b_31), (11, vi 0)] hs fun a hs => ?_
    refine wp_block ?_
    obtain ⟨r40, hl40, hm⟩ := bind_t hm
    have hx40 : ∀ (p_164 : Twire_Machine) (p_167 : List Cells), r40 = (p_164, p_167) → ∀ (A_165 : Option Addr) (c_166 : Nat) (a : Act) (w : World), St 175 a w κ [(6, pp b_2), (9, pp b_31)] (pt b_2 (blk ([C.ptr none, C.ptr none, C.slc none (([] : List Cells).length) 0, C.slc none (([] : List Int).length) 0]) 52) :: rowp none 0 75 3 eC ([] : List Cells) :: rowp none 0 34 1 (eI .u64) ([] : List Int) :: pt b_31 (blk [cp br14x0m_25, cp br14x0x_26, C.slc A_165 p_167.length c_166, C.slc Ar14x0v_29 v_24.2.2.2.1.length cr14x0v_30] 52) :: Twire_Machine.own br14x0m_25 p_164 :: Tvisorref19_M.own κ br14x0x_26 v_24.2.1 :: rowp A_165 c_166 75 3 eC p_167 :: rowp Ar14x0v_29 cr14x0v_30 34 1 (eI .u64) v_24.2.2.2.1 :: S) → K38 a w := by
     intro p_164 p_167 he A_165 c_166 a w hs
     subst r40
     refine hK38 _ _ ?_
     clear hK38
     refine Vk.seq fun K173 hK173 => ?_
     obtain ⟨C_174, hC_174⟩ := qC hs.own.f4.drop.drop
     refine qdr 7 κ C_174 hs fun w hs hqC_174 => ?_
     have hcl := qO hC_174 hs.own.f4.drop.drop
     refine qdp (fuel := 6) [1] hs hcl hqC_174 fun a hs => ?_
     refine qdn 0 2 ([cp br14x0m_25, cp br14x0x_26, C.slc A_165 p_167.length c_166, C.slc Ar14x0v_29 v_24.2.2.2.1.length cr14x0v_30]) hs hcl hqC_174 hC_174 rfl fun a hs => ?_
     refine qdl 2 2 (cp br14x0m_25) hs hcl hqC_174 hC_174 rfl fun a hs => ?_
     obtain ⟨g_175, hs⟩ := hs.unex 4 rfl
     obtain ⟨v_178, h_177, hm⟩ := bind_t hm
     refine qdc 3 (wire_Machine_Err.ok _ _ _ h_177 _ _ _ br14x0m_25 g_175 hs.own.f4) hs fun w a hs => ?_
     replace hcl := qO hC_174 hs.own.f1.drop.drop
     refine ⟨fun _ => hcl, ?_⟩
     refine qdp (fuel := 2) [4] hs hcl hqC_174 fun a hs => ?_
     refine qsA 5 1 [cp br14x0m_25, cp br14x0x_26, C.slc A_165 p_167.length c_166, C.slc Ar14x0v_29 v_24.2.2.2.1.length cr14x0v_30] hs rfl rfl rfl fun a w hs => ?_
     replace hcl := qO hC_174 hs.own.f1.drop.drop
     refine ⟨fun _ => hcl, ?_⟩
     refine qdp (fuel := 0) [6] hs hcl hqC_174 fun a hs => ?_
     replace hs := hs.pick [6, 7] (L' := [(6, pp b_2), (7, .bool (v_178 == 0))]) (by kernel_rfl)
     refine Vk.dDone (by kernel_rfl) ?_
     refine hK173 _ _ ?_
     clear hK173
     refine wp_ret ?_
     replace hs := hs.toEx (Twire_Machine.parts br14x0m_25 p_164) g_175 0 rfl
     exact Vk.retCT [cp br14x0m_25, cp br14x0x_26, C.slc A_165 p_167.length c_166, C.slc Ar14x0v_29 v_24.2.2.2.1.length cr14x0v_30] (.bool (v_178 == 0)) hs rfl (by kernel_rfl) (sz := 4) (by kernel_rfl) rfl (CellsAt.all 1 rfl) (by kernel_rfl) (hRR ▸ by cases hm; exact (Or.inr (Or.inr ⟨_, rfl, br14x0m_25, br14x0x_26, A_165, c_166, Ar14x0v_29, cr14x0v_30, rfl, (hs.own.too [0, 5, 6, 7] 8)⟩)))
    refine Vk.loopBy (fun k (s : Twire_Machine × List Cells × Int) a w => ∃ (A_42 : Option Addr), ∃ (c_43 : Nat), visorlaw27_Makes.l1 x1 v_24 k s.1 s.2.1 s.2.2 = some r40 ∧ St 175 a w κ [(1, .slice A_x1 x1.length c_x1), (6, pp b_2), (9, pp b_31), (11, vi s.2.2)] (pt b_2 (blk ([C.ptr none, C.ptr none, C.slc none (([] : List Cells).length) 0, C.slc none (([] : List Int).length) 0]) 52) :: rowp none 0 75 3 eC ([] : List Cells) :: rowp none 0 34 1 (eI .u64) ([] : List Int) :: pt b_31 (blk [cp br14x0m_25, cp br14x0x_26, C.slc A_42 s.2.1.length c_43, C.slc Ar14x0v_29 v_24.2.2.2.1.length cr14x0v_30] 52) :: Twire_Machine.own br14x0m_25 s.1 :: Tvisorref19_M.own κ br14x0x_26 v_24.2.1 :: rowp A_42 c_43 75 3 eC s.2.1 :: rowp Ar14x0v_29 cr14x0v_30 34 1 (eI .u64) v_24.2.2.2.1 :: S)) k (v_24.1, v_24.2.2.1, 0) ⟨Ar14x0l_27, cr14x0l_28, hl40, hs.go [1, 6, 9, 11] [5, 6, 7, 0, 1, 2, 3, 4] 8 (by kernel_rfl) (by kernel_rfl) (by kernel_rfl)⟩ (fun s a w h => by obtain ⟨_, _, h1, _⟩ := h; simp [visorlaw27_Makes.l1] at h1) (fun k KL40 ih s a w h => ?_)
    obtain ⟨q_41, q_44, q_45⟩ := s
    obtain ⟨A_42, c_43, hm, hs⟩ := h
    try dsimp only at hm hs
    rw [visorlaw27_Makes.l1] at hm
    refine Vk.seq fun K46 hK46 => ?_
    refine qsr fun K47 hK47 => ?_
    refine qpu 5 hs fun a hs => ?_
    refine qsc 30 3 hs fun a hs => ?_
    refine qpk 0 [1, 6, 9, 11, 33] hs fun a hs => hK47 _ _ ?_
    clear hK47
    refine qcs ((decide (q_45 < ((x1.length : Nat) : Int))) && (decide (q_45 < 40))) hs (fun hb => ?_) fun hb => ?_
    ·replace hm := bif_t hm hb
     refine wp_skip ?_
     refine hK46 _ _ ?_
     clear hK46
     refine Vk.seq fun K49 hK49 => ?_
     refine wp_block ?_
     refine qsr fun K50 hK50 => ?_
     refine qpu 2 hs fun a hs => ?_
     obtain ⟨h_51, hm⟩ := ite_t hm
     obtain ⟨e_54, h_52, hm⟩ := bind_t hm
     obtain ⟨b_55, o_56, hA_57, h_53⟩ := Sl.elem hx_x1 h_52
     refine qva (.pointer (some ⟨b_55, o_56 + q_45.toNat * 6, none⟩)) (op := (.indexAddr 47 (.tmp 36) (.tmp 37))) hs (fun o ho => run_idxSlc (k := .i64) ho (cap := c_x1) (len := x1.length) ((congrArg (fun A => Value.slice A (x1.length) (c_x1)) hA_57) ▸ (by kernel_rfl)) (by kernel_rfl) (by kernel_rfl) (idx_ok h_51 h_52) _) fun a hs => ?_
     refine qva (.agg (vals [ci e_54.kind, ci e_54.a, ci e_54.b, ci e_54.k, ci e_54.byF, cw e_54.c])) (op := (.load 66 (.tmp 38))) hs (fun o ho => run_loadN (cs := [ci e_54.kind, ci e_54.a, ci e_54.b, ci e_54.k, ci e_54.byF, cw e_54.c]) ho (by kernel_rfl) (by kernel_rfl) rfl h_53 _ hs.own.drop.drop.drop.drop.drop.drop.drop.drop) fun a hs => ?_
     refine qal 66 [ci 0, ci 0, ci 0, ci 0, ci 0, cw 0] 12 hs fun b_58 w a hs => ?_
     refine qsa 0 [ci e_54.kind, ci e_54.a, ci e_54.b, ci e_54.k, ci e_54.byF, cw e_54.c] hs rfl fun a w hs => ?_
     refine qpk 0 [1, 6, 9, 11, 12] hs fun a hs => hK50 _ _ ?_
     clear hK50
     refine Vk.seq fun K59 hK59 => ?_
     have hj59 : ∀ (p_61 : Tvisorlaw27_Act), visorlaw27_Makes.j2 k (visorlaw27_Makes.l1 x1 v_24 k) v_24 q_41 q_44 q_45 p_61 = some r40 → ∀ (a : Act) (w : World), St 175 a w κ [(1, .slice A_x1 x1.length c_x1), (6, pp b_2), (9, pp b_31), (11, vi q_45), (12, pp b_58)] (pt b_2 (blk ([C.ptr none, C.ptr none, C.slc none (([] : List Cells).length) 0, C.slc none (([] : List Int).length) 0]) 52) :: rowp none 0 75 3 eC ([] : List Cells) :: rowp none 0 34 1 (eI .u64) ([] : List Int) :: pt b_31 (blk [cp br14x0m_25, cp br14x0x_26, C.slc A_42 q_44.length c_43, C.slc Ar14x0v_29 v_24.2.2.2.1.length cr14x0v_30] 52) :: Twire_Machine.own br14x0m_25 q_41 :: Tvisorref19_M.own κ br14x0x_26 v_24.2.1 :: rowp A_42 c_43 75 3 eC q_44 :: rowp Ar14x0v_29 cr14x0v_30 34 1 (eI .u64) v_24.2.2.2.1 :: pt b_58 (blk (Tvisorlaw27_Act.cells p_61) 66) :: S) → K59 a w := by
      intro p_61 hm a w hs
      unfold visorlaw27_Makes.j2 at hm
      refine hK59 _ _ ?_
      refine Vk.seq fun K62 hK62 => ?_
      have hj62 : ∀ (p_77 : Cells) (p_79 : Cells), visorlaw27_Makes.j3 k (visorlaw27_Makes.l1 x1 v_24 k) q_41 q_44 q_45 p_61 p_77 p_79 = some r40 → ∀ (b_76 : Nat) (b_78 : Nat) (a : Act) (w : World), St 175 a w κ [(1, .slice A_x1 x1.length c_x1), (6, pp b_2), (9, pp b_31), (11, vi q_45), (12, pp b_58), (13, pp b_76), (14, pp b_78)] (pt b_2 (blk ([C.ptr none, C.ptr none, C.slc none (([] : List Cells).length) 0, C.slc none (([] : List Int).length) 0]) 52) :: rowp none 0 75 3 eC ([] : List Cells) :: rowp none 0 34 1 (eI .u64) ([] : List Int) :: pt b_31 (blk [cp br14x0m_25, cp br14x0x_26, C.slc A_42 q_44.length c_43, C.slc Ar14x0v_29 v_24.2.2.2.1.length cr14x0v_30] 52) :: Twire_Machine.own br14x0m_25 q_41 :: Tvisorref19_M.own κ br14x0x_26 v_24.2.1 :: rowp A_42 c_43 75 3 eC q_44 :: rowp Ar14x0v_29 cr14x0v_30 34 1 (eI .u64) v_24.2.2.2.1 :: pt b_58 (blk (Tvisorlaw27_Act.cells p_61) 66) :: pt b_76 (blk p_77 75) :: pt b_78 (blk p_79 75) :: S) → K62 a w := by
       intro p_77 p_79 hm b_76 b_78 a w hs
       unfold visorlaw27_Makes.j3 at hm
       refine hK62 _ _ ?_
       refine qsr fun K80 hK80 => ?_
       obtain ⟨h_81, hm⟩ := ite_t hm
       refine qlw 9 hs rfl h_81 fun a hs => ?_
       refine qal 75 [ci 0, ci 0, ci 0] 15 hs fun b_82 w a hs => ?_
       refine qsb 0 p_77 hs rfl h_81 rfl fun a w hs => ?_
       refine qpk 0 [1, 6, 9, 11, 12, 13, 14, 15] hs fun a hs => hK80 _ _ ?_
       clear hK80
       refine Vk.seq fun K83 hK83 => ?_
       have hj83 : ∀ (p_156 : Twire_Machine) (p_157 : Cells), visorlaw27_Makes.j4 k (visorlaw27_Makes.l1 x1 v_24 k) q_44 q_45 p_156 p_157 = some r40 → ∀ (a : Act) (w : World), St 175 a w κ [(1, .slice A_x1 x1.length c_x1), (6, pp b_2), (9, pp b_31), (11, vi q_45), (15, pp b_82)] (pt b_2 (blk ([C.ptr none, C.ptr none, C.slc none (([] : List Cells).length) 0, C.slc none (([] : List Int).length) 0]) 52) :: rowp none 0 75 3 eC ([] : List Cells) :: rowp none 0 34 1 (eI .u64) ([] : List Int) :: pt b_31 (blk [cp br14x0m_25, cp br14x0x_26, C.slc A_42 q_44.length c_43, C.slc Ar14x0v_29 v_24.2.2.2.1.length cr14x0v_30] 52) :: Twire_Machine.own br14x0m_25 p_156 :: Tvisorref19_M.own κ br14x0x_26 v_24.2.1 :: rowp A_42 c_43 75 3 eC q_44 :: rowp Ar14x0v_29 cr14x0v_30 34 1 (eI .u64) v_24.2.2.2.1 :: pt b_82 (blk p_157 75) :: S) → K83 a w := by
        intro p_156 p_157 hm a w hs
        unfold visorlaw27_Makes.j4 at hm
        refine hK83 _ _ ?_
        refine Vk.region ?_
        refine qpu 1 hs fun a hs => ?_
        refine qld 3 (C.slc A_42 q_44.length c_43) hs rfl fun a hs => ?_
        obtain ⟨h_158, hm⟩ := ite_t hm
        refine qlw 8 hs rfl h_158 fun a hs => ?_
        refine Vk.step (Vk.buildOp (sz := 3) (by_ := 24) (t := 50) (e := 75) (parts := #[(0, (.tmp 166))]) (zs := vals [ci 0, ci 0, ci 0]) ([p_157] : List Cells) eC (some 167) hs (by kernel_rfl) (by kernel_rfl) (by kernel_rfl) (by kernel_rfl) (by decide) rfl (fun x _ => by obtain rfl := List.mem_singleton.1 ‹_›; exact h_158) (Nat.le_of_ble_eq_true (by kernel_rfl)) (fill3 h_158 (by kernel_rfl)) fun A_159 w a hs => ?_)
        obtain ⟨h_161, hm⟩ := ite_t hm
        refine Vk.step (Vk.appendOp (x := (.tmp 165)) (y := (.tmp 167)) (e := 75) (t := 50) (by_ := 24) (sz := 3) (enc := eC) (A := A_42) (cap := c_43) (xs := q_44) (ys := ([p_157] : List Cells)) (B := A_159) (c2 := 1) 7 (some 168) hs (by kernel_rfl) (by kernel_rfl) (by kernel_rfl) (by kernel_rfl) rfl (Sl.lift (fun w ho => (Ow.to (S' := rowp A_159 1 75 3 eC ([p_157] : List Cells) :: S) ho [0] 10 (by kernel_rfl) (by kernel_rfl))) (Ow.rowSl 0 (Ow.to (S' := rowp A_159 1 75 3 eC ([p_157] : List Cells) :: S) hs.own [0] 10 (by kernel_rfl) (by kernel_rfl)) rfl)) (by kernel_rfl) (by kernel_rfl) (by decide) (by decide) h_161 fun A_162 c_163 w a hs => ?_)
        refine qpu 1 hs fun a hs => ?_
        refine qst 4 2 (C.slc A_162 ((q_44 ++ ([p_157] : List Cells)).length) c_163) hs rfl fun a w hs => ?_
        refine qpk 0 [1, 6, 9, 11] hs fun a hs => hK49 _ _ ?_
        clear hK49
        refine Vk.region ?_
        refine qpk 3 [1, 6, 9, 11] hs fun a hs => ?_
        refine ih (p_156, (q_44 ++ ([p_157] : List Cells)), (IntKind.i64.wrap (q_45 + 1))) _ _ ⟨A_162, c_163, hm, hs.go [1, 6, 9, 11] [1, 2, 3, 4, 5, 6, 7, 8] 10 (by kernel_rfl) (by kernel_rfl) (by kernel_rfl)⟩
       refine qsr fun K84 hK84 => ?_
       refine qpu 1 hs fun a hs => ?_
       refine qld 9 (ci p_61.kind) hs rfl fun a hs => ?_
       refine qpe 0 [(1, .slice A_x1 x1.length c_x1), (6, pp b_2), (9, pp b_31), (11, vi q_45), (12, pp b_58), (13, pp b_76), (14, pp b_78), (15, pp b_82), (55, vi p_61.kind)] hs fun a hs => hK84 _ _ ?_
       clear hK84
       refine wp_block ?_
       refine qsk 2 [1, 6, 9, 11, 12, 13, 14, 15, 55, 60] hs fun a hs => ?_
       refine qcs (p_61.kind == 0) hs (fun hb => ?_) fun hb => ?_
       ·replace hm := bif_t hm hb
        refine Vk.region ?_
        refine qpu 1 hs fun a hs => ?_
        refine qld 4 (cp br14x0m_25) hs rfl fun a hs => ?_
        refine qpu 1 hs fun a hs => ?_
        refine qld 9 (cw p_61.c) hs rfl fun a hs => ?_
        obtain ⟨v_88, h_87, hm⟩ := bind_t hm
        refine qcl (share_Encode.ok _ _ _ _ h_87 _ _ _ br14x0m_25 hs.own.f5) hs fun w a hs => ?_
        obtain ⟨h_89, hm⟩ := ite_t hm
        refine qsb 1 v_88.1 hs rfl h_89 h_81 fun a w hs => ?_
        refine qpe 0 [(1, .slice A_x1 x1.length c_x1), (6, pp b_2), (9, pp b_31), (11, vi q_45), (15, pp b_82)] hs fun a hs => ?_
        exact hj83 v_88.2 v_88.1 hm _ _ (hs.go [1, 6, 9, 11, 15] [2, 3, 4, 5, 0, 6, 7, 8, 1] 12 (by kernel_rfl) (by kernel_rfl) (by kernel_rfl))
       ·replace hm := bif_f hm hb
        refine qsk 2 [1, 6, 9, 11, 12, 13, 14, 15, 55, 67] hs fun a hs => ?_
        refine qcs (p_61.kind == 1) hs (fun hb => ?_) fun hb => ?_
        ·replace hm := bif_t hm hb
         refine Vk.region ?_
         refine qpu 1 hs fun a hs => ?_
         refine qld 4 (cp br14x0m_25) hs rfl fun a hs => ?_
         refine qpu 1 hs fun a hs => ?_
         refine qld 9 (cw p_61.c) hs rfl fun a hs => ?_
         obtain ⟨v_93, h_92, hm⟩ := bind_t hm
         refine qcl (share_Public.ok _ _ _ _ h_92 _ _ _ br14x0m_25 hs.own.f5) hs fun w a hs => ?_
         obtain ⟨h_94, hm⟩ := ite_t hm
         refine qsb 1 v_93.1 hs rfl h_94 h_81 fun a w hs => ?_
         refine qpe 0 [(1, .slice A_x1 x1.length c_x1), (6, pp b_2), (9, pp b_31), (11, vi q_45), (15, pp b_82)] hs fun a hs => ?_
         exact hj83 v_93.2 v_93.1 hm _ _ (hs.go [1, 6, 9, 11, 15] [2, 3, 4, 5, 0, 6, 7, 8, 1] 12 (by kernel_rfl) (by kernel_rfl) (by kernel_rfl))
        ·replace hm := bif_f hm hb
         refine qsk 2 [1, 6, 9, 11, 12, 13, 14, 15, 55, 74] hs fun a hs => ?_
         refine qcs (p_61.kind == 2) hs (fun hb => ?_) fun hb => ?_
         ·replace hm := bif_t hm hb
          refine Vk.region ?_
          refine qpu 1 hs fun a hs => ?_
          refine qld 4 (cp br14x0m_25) hs rfl fun a hs => ?_
          refine qpu 1 hs fun a hs => ?_
          refine qld 9 (cw p_61.c) hs rfl fun a hs => ?_
          obtain ⟨v_98, h_97, hm⟩ := bind_t hm
          refine qcl (share_Told.ok _ _ _ _ h_97 _ _ _ br14x0m_25 hs.own.f5) hs fun w a hs => ?_
          obtain ⟨h_99, hm⟩ := ite_t hm
          refine qsb 1 v_98.1 hs rfl h_99 h_81 fun a w hs => ?_
          refine qpe 0 [(1, .slice A_x1 x1.length c_x1), (6, pp b_2), (9, pp b_31), (11, vi q_45), (15, pp b_82)] hs fun a hs => ?_
          exact hj83 v_98.2 v_98.1 hm _ _ (hs.go [1, 6, 9, 11, 15] [2, 3, 4, 5, 0, 6, 7, 8, 1] 12 (by kernel_rfl) (by kernel_rfl) (by kernel_rfl))
         ·replace hm := bif_f hm hb
          refine qsk 2 [1, 6, 9, 11, 12, 13, 14, 15, 55, 81] hs fun a hs => ?_
          refine qcs (p_61.kind == 3) hs (fun hb => ?_) fun hb => ?_
          ·replace hm := bif_t hm hb
           refine Vk.region ?_
           refine qpu 1 hs fun a hs => ?_
           refine qld 4 (cp br14x0m_25) hs rfl fun a hs => ?_
           refine qlw 10 hs rfl h_81 fun a hs => ?_
           obtain ⟨h_101, hm⟩ := ite_t hm
           refine qlw 11 hs rfl h_101 fun a hs => ?_
           obtain ⟨v_104, h_103, hm⟩ := bind_t hm
           refine qcl (share_Xor.ok _ _ _ _ _ h_103 _ _ _ br14x0m_25 hs.own.f5) hs fun w a hs => ?_
           obtain ⟨h_105, hm⟩ := ite_t hm
           refine qsb 1 v_104.1 hs rfl h_105 h_81 fun a w hs => ?_
           refine qpe 0 [(1, .slice A_x1 x1.length c_x1), (6, pp b_2), (9, pp b_31), (11, vi q_45), (15, pp b_82)] hs fun a hs => ?_
           exact hj83 v_104.2 v_104.1 hm _ _ (hs.go [1, 6, 9, 11, 15] [2, 3, 4, 5, 0, 6, 7, 8, 1] 12 (by kernel_rfl) (by kernel_rfl) (by kernel_rfl))
          ·replace hm := bif_f hm hb
           refine qsk 2 [1, 6, 9, 11, 12, 13, 14, 15, 55, 88] hs fun a hs => ?_
           refine qcs (p_61.kind == 4) hs (fun hb => ?_) fun hb => ?_
           ·replace hm := bif_t hm hb
            refine Vk.region ?_
            refine qpu 1 hs fun a hs => ?_
            refine qld 4 (cp br14x0m_25) hs rfl fun a hs => ?_
            refine qlw 10 hs rfl h_81 fun a hs => ?_
            obtain ⟨v_109, h_108, hm⟩ := bind_t hm
            refine qcl (share_Not.ok _ _ _ _ h_108 _ _ _ br14x0m_25 hs.own.f5) hs fun w a hs => ?_
            obtain ⟨h_110, hm⟩ := ite_t hm
            refine qsb 1 v_109.1 hs rfl h_110 h_81 fun a w hs => ?_
            refine qpe 0 [(1, .slice A_x1 x1.length c_x1), (6, pp b_2), (9, pp b_31), (11, vi q_45), (15, pp b_82)] hs fun a hs => ?_
            exact hj83 v_109.2 v_109.1 hm _ _ (hs.go [1, 6, 9, 11, 15] [2, 3, 4, 5, 0, 6, 7, 8, 1] 12 (by kernel_rfl) (by kernel_rfl) (by kernel_rfl))
           ·replace hm := bif_f hm hb
            refine qsk 2 [1, 6, 9, 11, 12, 13, 14, 15, 55, 94] hs fun a hs => ?_
            refine qcs (p_61.kind == 5) hs (fun hb => ?_) fun hb => ?_
            ·replace hm := bif_t hm hb
             refine Vk.region ?_
             refine qpu 1 hs fun a hs => ?_
             refine qld 4 (cp br14x0m_25) hs rfl fun a hs => ?_
             refine qpu 1 hs fun a hs => ?_
             refine qld 9 (ci p_61.k) hs rfl fun a hs => ?_
             refine qpu 4 hs fun a hs => ?_
             refine qlw 10 hs rfl h_81 fun a hs => ?_
             refine qpu 1 hs fun a hs => ?_
             refine qld 9 (cw p_61.c) hs rfl fun a hs => ?_
             refine qpu 1 hs fun a hs => ?_
             obtain ⟨v_114, h_113, hm⟩ := bind_t hm
             refine qcl (share_One.ok _ _ _ _ _ _ h_113 _ _ _ br14x0m_25 hs.own.f5) hs fun w a hs => ?_
             obtain ⟨h_115, hm⟩ := ite_t hm
             refine qsb 1 v_114.1 hs rfl h_115 h_81 fun a w hs => ?_
             refine qpe 0 [(1, .slice A_x1 x1.length c_x1), (6, pp b_2), (9, pp b_31), (11, vi q_45), (15, pp b_82)] hs fun a hs => ?_
             exact hj83 v_114.2 v_114.1 hm _ _ (hs.go [1, 6, 9, 11, 15] [2, 3, 4, 5, 0, 6, 7, 8, 1] 12 (by kernel_rfl) (by kernel_rfl) (by kernel_rfl))
            ·replace hm := bif_f hm hb
             refine qsk 2 [1, 6, 9, 11, 12, 13, 14, 15, 55, 109] hs fun a hs => ?_
             refine qcs (p_61.kind == 6) hs (fun hb => ?_) fun hb => ?_
             ·replace hm := bif_t hm hb
              refine Vk.region ?_
              refine qpu 1 hs fun a hs => ?_
              refine qld 4 (cp br14x0m_25) hs rfl fun a hs => ?_
              refine qlw 10 hs rfl h_81 fun a hs => ?_
              refine qpu 1 hs fun a hs => ?_
              refine qld 9 (cw p_61.c) hs rfl fun a hs => ?_
              obtain ⟨v_119, h_118, hm⟩ := bind_t hm
              refine qcl (share_Add.ok _ _ _ _ _ h_118 _ _ _ br14x0m_25 hs.own.f5) hs fun w a hs => ?_
              obtain ⟨h_120, hm⟩ := ite_t hm
              refine qsb 1 v_119.1 hs rfl h_120 h_81 fun a w hs => ?_
              refine qpe 0 [(1, .slice A_x1 x1.length c_x1), (6, pp b_2), (9, pp b_31), (11, vi q_45), (15, pp b_82)] hs fun a hs => ?_
              exact hj83 v_119.2 v_119.1 hm _ _ (hs.go [1, 6, 9, 11, 15] [2, 3, 4, 5, 0, 6, 7, 8, 1] 12 (by kernel_rfl) (by kernel_rfl) (by kernel_rfl))
             ·replace hm := bif_f hm hb
              refine qsk 2 [1, 6, 9, 11, 12, 13, 14, 15, 55, 117] hs fun a hs => ?_
              refine qcs (p_61.kind == 7) hs (fun hb => ?_) fun hb => ?_
              ·replace hm := bif_t hm hb
               refine Vk.region ?_
               refine qpu 1 hs fun a hs => ?_
               refine qld 4 (cp br14x0m_25) hs rfl fun a hs => ?_
               refine qlw 10 hs rfl h_81 fun a hs => ?_
               refine qpu 1 hs fun a hs => ?_
               refine qld 9 (cw p_61.c) hs rfl fun a hs => ?_
               obtain ⟨v_124, h_123, hm⟩ := bind_t hm
               refine qcl (share_AddTold.ok _ _ _ _ _ h_123 _ _ _ br14x0m_25 hs.own.f5) hs fun w a hs => ?_
               obtain ⟨h_125, hm⟩ := ite_t hm
               refine qsb 1 v_124.1 hs rfl h_125 h_81 fun a w hs => ?_
               refine qpe 0 [(1, .slice A_x1 x1.length c_x1), (6, pp b_2), (9, pp b_31), (11, vi q_45), (15, pp b_82)] hs fun a hs => ?_
               exact hj83 v_124.2 v_124.1 hm _ _ (hs.go [1, 6, 9, 11, 15] [2, 3, 4, 5, 0, 6, 7, 8, 1] 12 (by kernel_rfl) (by kernel_rfl) (by kernel_rfl))
              ·replace hm := bif_f hm hb
               refine qsk 2 [1, 6, 9, 11, 12, 13, 14, 15, 55, 125] hs fun a hs => ?_
               refine qcs (p_61.kind == 8) hs (fun hb => ?_) fun hb => ?_
               ·replace hm := bif_t hm hb
                refine Vk.region ?_
                refine qpu 1 hs fun a hs => ?_
                refine qld 4 (cp br14x0m_25) hs rfl fun a hs => ?_
                refine qpu 1 hs fun a hs => ?_
                refine qld 9 (ci p_61.byF) hs rfl fun a hs => ?_
                refine qlw 10 hs rfl h_81 fun a hs => ?_
                obtain ⟨h_127, hm⟩ := ite_t hm
                refine qlw 11 hs rfl h_127 fun a hs => ?_
                obtain ⟨v_130, h_129, hm⟩ := bind_t hm
                refine qcl (both_And.ok _ _ _ _ _ _ h_129 _ _ _ br14x0m_25 hs.own.f5) hs fun w a hs => ?_
                obtain ⟨h_131, hm⟩ := ite_t hm
                refine qsb 1 v_130.1 hs rfl h_131 h_81 fun a w hs => ?_
                refine qpe 0 [(1, .slice A_x1 x1.length c_x1), (6, pp b_2), (9, pp b_31), (11, vi q_45), (15, pp b_82)] hs fun a hs => ?_
                exact hj83 v_130.2 v_130.1 hm _ _ (hs.go [1, 6, 9, 11, 15] [2, 3, 4, 5, 0, 6, 7, 8, 1] 12 (by kernel_rfl) (by kernel_rfl) (by kernel_rfl))
               ·replace hm := bif_f hm hb
                refine qsk 2 [1, 6, 9, 11, 12, 13, 14, 15, 55, 134] hs fun a hs => ?_
                refine qcs (p_61.kind == 9) hs (fun hb => ?_) fun hb => ?_
                ·replace hm := bif_t hm hb
                 refine Vk.region ?_
                 refine qpu 1 hs fun a hs => ?_
                 refine qld 4 (cp br14x0m_25) hs rfl fun a hs => ?_
                 refine qpu 1 hs fun a hs => ?_
                 refine qld 9 (ci p_61.byF) hs rfl fun a hs => ?_
                 refine qlw 10 hs rfl h_81 fun a hs => ?_
                 obtain ⟨h_133, hm⟩ := ite_t hm
                 refine qlw 11 hs rfl h_133 fun a hs => ?_
                 obtain ⟨v_136, h_135, hm⟩ := bind_t hm
                 refine qcl (both_Or.ok _ _ _ _ _ _ h_135 _ _ _ br14x0m_25 hs.own.f5) hs fun w a hs => ?_
                 obtain ⟨h_137, hm⟩ := ite_t hm
                 refine qsb 1 v_136.1 hs rfl h_137 h_81 fun a w hs => ?_
                 refine qpe 0 [(1, .slice A_x1 x1.length c_x1), (6, pp b_2), (9, pp b_31), (11, vi q_45), (15, pp b_82)] hs fun a hs => ?_
                 exact hj83 v_136.2 v_136.1 hm _ _ (hs.go [1, 6, 9, 11, 15] [2, 3, 4, 5, 0, 6, 7, 8, 1] 12 (by kernel_rfl) (by kernel_rfl) (by kernel_rfl))
                ·replace hm := bif_f hm hb
                 refine qsk 2 [1, 6, 9, 11, 12, 13, 14, 15, 55, 143] hs fun a hs => ?_
                 refine qcs (p_61.kind == 10) hs (fun hb => ?_) fun hb => ?_
                 ·replace hm := bif_t hm hb
                  refine Vk.region ?_
                  refine qpu 1 hs fun a hs => ?_
                  refine qld 4 (cp br14x0m_25) hs rfl fun a hs => ?_
                  refine qpu 1 hs fun a hs => ?_
                  refine qld 9 (ci p_61.byF) hs rfl fun a hs => ?_
                  refine qlw 10 hs rfl h_81 fun a hs => ?_
                  obtain ⟨h_139, hm⟩ := ite_t hm
                  refine qlw 11 hs rfl h_139 fun a hs => ?_
                  obtain ⟨v_142, h_141, hm⟩ := bind_t hm
                  refine qcl (both_Less.ok _ _ _ _ _ _ h_141 _ _ _ br14x0m_25 hs.own.f5) hs fun w a hs => ?_
                  obtain ⟨h_143, hm⟩ := ite_t hm
                  refine qsb 1 v_142.1 hs rfl h_143 h_81 fun a w hs => ?_
                  refine qpe 0 [(1, .slice A_x1 x1.length c_x1), (6, pp b_2), (9, pp b_31), (11, vi q_45), (15, pp b_82)] hs fun a hs => ?_
                  exact hj83 v_142.2 v_142.1 hm _ _ (hs.go [1, 6, 9, 11, 15] [2, 3, 4, 5, 0, 6, 7, 8, 1] 12 (by kernel_rfl) (by kernel_rfl) (by kernel_rfl))
                 ·replace hm := bif_f hm hb
                  refine qsk 2 [1, 6, 9, 11, 13, 15, 55, 152] hs fun a hs => ?_
                  refine qcs (p_61.kind == 11) hs (fun hb => ?_) fun hb => ?_
                  ·replace hm := bif_t hm hb
                   refine Vk.region ?_
                   refine qpu 1 hs fun a hs => ?_
                   refine qld 4 (cp br14x0m_25) hs rfl fun a hs => ?_
                   refine qlw 10 hs rfl h_81 fun a hs => ?_
                   obtain ⟨v_147, h_146, hm⟩ := bind_t hm
                   refine qcl (guard_Open.ok _ _ _ _ h_146 _ _ _ br14x0m_25 hs.own.f5) hs fun w a hs => ?_
                   refine qpe 0 [(1, .slice A_x1 x1.length c_x1), (6, pp b_2), (9, pp b_31), (11, vi q_45), (15, pp b_82)] hs fun a hs => ?_
                   exact hj83 v_147.2 p_77 hm _ _ (hs.go [1, 6, 9, 11, 15] [2, 3, 4, 5, 0, 6, 7, 8, 1] 12 (by kernel_rfl) (by kernel_rfl) (by kernel_rfl))
                  ·replace hm := bif_f hm hb
                   refine qsk 2 [1, 6, 9, 11, 13, 15, 158] hs fun a hs => ?_
                   refine qcs (p_61.kind == 12) hs (fun hb => ?_) fun hb => ?_
                   ·replace hm := bif_t hm hb
                    refine Vk.region ?_
                    refine qpu 1 hs fun a hs => ?_
                    refine qld 4 (cp br14x0m_25) hs rfl fun a hs => ?_
                    refine qlw 10 hs rfl h_81 fun a hs => ?_
                    obtain ⟨v_151, h_150, hm⟩ := bind_t hm
                    refine qcl (fresh_Full.ok _ _ _ _ h_150 _ _ _ br14x0m_25 hs.own.f5) hs fun w a hs => ?_
                    obtain ⟨h_152, hm⟩ := ite_t hm
                    refine qsb 1 v_151.1 hs rfl h_152 h_81 fun a w hs => ?_
                    refine qpe 0 [(1, .slice A_x1 x1.length c_x1), (6, pp b_2), (9, pp b_31), (11, vi q_45), (15, pp b_82)] hs fun a hs => ?_
                    exact hj83 v_151.2 v_151.1 hm _ _ (hs.go [1, 6, 9, 11, 15] [2, 3, 4, 5, 0, 6, 7, 8, 1] 12 (by kernel_rfl) (by kernel_rfl) (by kernel_rfl))
                   ·replace hm := bif_f hm hb
                    refine Vk.region ?_
                    refine qpu 1 hs fun a hs => ?_
                    refine qld 4 (cp br14x0m_25) hs rfl fun a hs => ?_
                    refine qlw 10 hs rfl h_81 fun a hs => ?_
                    obtain ⟨v_155, h_154, hm⟩ := bind_t hm
                    refine qcl (guard_Yes.ok _ _ _ _ h_154 _ _ _ br14x0m_25 hs.own.f5) hs fun w a hs => ?_
                    refine qpe 0 [(1, .slice A_x1 x1.length c_x1), (6, pp b_2), (9, pp b_31), (11, vi q_45), (15, pp b_82)] hs fun a hs => ?_
                    exact hj83 v_155.2 p_77 hm _ _ (hs.go [1, 6, 9, 11, 15] [2, 3, 4, 5, 0, 6, 7, 8, 1] 12 (by kernel_rfl) (by kernel_rfl) (by kernel_rfl))
      obtain ⟨C_63, hC_63⟩ := qC hs.own.f5.drop.f4.drop
      refine qdr 11 κ C_63 hs fun w hs hqC_63 => ?_
      have hcl := qO hC_63 hs.own.f5.drop.f4.drop
      refine qdp (fuel := 10) [1, 5] hs hcl hqC_63 fun a hs => ?_
      refine qdn 0 3 ([cp br14x0m_25, cp br14x0x_26, C.slc A_42 q_44.length c_43, C.slc Ar14x0v_29 v_24.2.2.2.1.length cr14x0v_30]) hs hcl hqC_63 hC_63 rfl fun a hs => ?_
      refine qdl 2 6 (ci p_61.a) hs hcl hqC_63 hC_63 rfl fun a hs => ?_
      refine qdn 4 3 ([cp br14x0m_25, cp br14x0x_26, C.slc A_42 q_44.length c_43, C.slc Ar14x0v_29 v_24.2.2.2.1.length cr14x0v_30]) hs hcl hqC_63 hC_63 rfl fun a hs => ?_
      refine qdl 6 6 (ci p_61.b) hs hcl hqC_63 hC_63 rfl fun a hs => ?_
      refine Vk.dMany3 (i0 := 3) (i1 := 8) (i2 := 9) (by kernel_rfl) ?_ ?_ ?_
      ·exact by
        obtain ⟨g_64, hs⟩ := hs.unex 4 rfl
        obtain ⟨g_65, hs⟩ := hs.unex 5 rfl
        obtain ⟨v_68, h_67, hm⟩ := bind_t hm
        refine qco (visorlaw27_word.ok _ _ _ _ h_67 _ _ _ br14x0m_25 g_64 br14x0x_26 g_65 A_42 c_43 (Sl.lift (fun w ho => (Ow.to (S' := rowp A_42 c_43 75 3 eC q_44 :: S) ho [4] 7 (by kernel_rfl) (by kernel_rfl))) (Ow.rowSl 0 (Ow.to (S' := rowp A_42 c_43 75 3 eC q_44 :: S) hs.own [6] 9 (by kernel_rfl) (by kernel_rfl)) rfl)) Ar14x0v_29 cr14x0v_30 (Sl.lift (fun w ho => (Ow.to (S' := rowp Ar14x0v_29 cr14x0v_30 34 1 (eI .u64) v_24.2.2.2.1 :: S) ho [5] 7 (by kernel_rfl) (by kernel_rfl))) (Ow.rowSl 0 (Ow.to (S' := rowp Ar14x0v_29 cr14x0v_30 34 1 (eI .u64) v_24.2.2.2.1 :: S) hs.own [7] 9 (by kernel_rfl) (by kernel_rfl)) rfl)) hs.own.f5.f5) hs fun w a hs => ?_
        replace hcl := qO hC_63 hs.own.f1.drop.drop
        refine ⟨fun _ => hcl, ?_⟩
        refine Vk.dMany3 (i0 := 7) (i1 := 8) (i2 := 9) (by kernel_rfl) ?_ ?_ ?_
        ·exact by
          obtain ⟨v_71, h_70, hm⟩ := bind_t hm
          refine qco (visorlaw27_word.ok _ _ _ _ h_70 _ _ _ br14x0m_25 g_64 br14x0x_26 g_65 A_42 c_43 (Sl.lift (fun w ho => (Ow.to (S' := rowp A_42 c_43 75 3 eC q_44 :: S) ho [4] 7 (by kernel_rfl) (by kernel_rfl))) (Ow.rowSl 0 (Ow.to (S' := rowp A_42 c_43 75 3 eC q_44 :: S) hs.own [6] 9 (by kernel_rfl) (by kernel_rfl)) rfl)) Ar14x0v_29 cr14x0v_30 (Sl.lift (fun w ho => (Ow.to (S' := rowp Ar14x0v_29 cr14x0v_30 34 1 (eI .u64) v_24.2.2.2.1 :: S) ho [5] 7 (by kernel_rfl) (by kernel_rfl))) (Ow.rowSl 0 (Ow.to (S' := rowp Ar14x0v_29 cr14x0v_30 34 1 (eI .u64) v_24.2.2.2.1 :: S) hs.own [7] 9 (by kernel_rfl) (by kernel_rfl)) rfl)) hs.own) hs fun w a hs => ?_
          replace hcl := qO hC_63 hs.own.f1.drop.drop
          refine ⟨fun _ => hcl, ?_⟩
          refine Vk.dMany2 (i0 := 8) (i1 := 9) (by kernel_rfl) ?_ ?_
          ·exact by
            refine Vk.alloc 13 75 [ci 0, ci 0, ci 0] hs (by kernel_rfl) (by kernel_rfl) (by kernel_rfl) fun b_72 w a hs => ?_
            replace hcl := qO hC_63 hs.own.f2.drop.f1.drop.drop
            refine ⟨fun _ => hcl, ?_⟩
            refine Vk.dOnly (i := 9) (by kernel_rfl) (Vk.alloc 14 75 [ci 0, ci 0, ci 0] hs (by kernel_rfl) (by kernel_rfl) (by kernel_rfl) fun b_73 w a hs => ?_)
            replace hcl : Ow κ w C_63 := by rw [hC_63]; exact (hs.own.too [4, 5, 6, 7, 8, 9, 10] 11)
            refine ⟨fun _ => hcl, ?_⟩
            obtain ⟨h_74, hm⟩ := ite_t hm
            refine qsA 10 1 v_68 hs rfl h_74 rfl fun a w hs => ?_
            replace hcl : Ow κ w C_63 := by rw [hC_63]; exact (hs.own.too [4, 5, 6, 7, 8, 9, 10] 11)
            refine ⟨fun _ => hcl, ?_⟩
            obtain ⟨h_75, hm⟩ := ite_t hm
            refine qsA 11 0 v_71 hs rfl h_75 rfl fun a w hs => ?_
            refine ⟨fun h => absurd h (by decide), ?_⟩
            replace hs := hs.pick [1, 6, 9, 11, 12, 13, 14] (L' := [(1, .slice A_x1 x1.length c_x1), (6, pp b_2), (9, pp b_31), (11, vi q_45), (12, pp b_58), (13, pp b_72), (14, pp b_73)]) (by kernel_rfl)
            refine Vk.dDone (by kernel_rfl) ?_
            replace hs := hs.toEx (Twire_Machine.parts br14x0m_25 q_41) g_64 2 rfl
            replace hs := hs.toEx (Tvisorref19_M.parts κ br14x0x_26 v_24.2.1) g_65 3 rfl
            exact hj62 v_68 v_71 hm b_72 b_73 _ _ (hs.go [1, 6, 9, 11, 12, 13, 14] [4, 5, 6, 7, 2, 3, 8, 9, 10, 1, 0] 11 (by kernel_rfl) (by kernel_rfl) (by kernel_rfl))
          ·exact by
            refine Vk.alloc 14 75 [ci 0, ci 0, ci 0] hs (by kernel_rfl) (by kernel_rfl) (by kernel_rfl) fun b_72 w a hs => ?_
            replace hcl := qO hC_63 hs.own.f2.drop.f1.drop.drop
            refine ⟨fun _ => hcl, ?_⟩
            refine Vk.dOnly (i := 8) (by kernel_rfl) (Vk.alloc 13 75 [ci 0, ci 0, ci 0] hs (by kernel_rfl) (by kernel_rfl) (by kernel_rfl) fun b_73 w a hs => ?_)
            replace hcl : Ow κ w C_63 := by rw [hC_63]; exact (hs.own.too [4, 5, 6, 7, 8, 9, 10] 11)
            refine ⟨fun _ => hcl, ?_⟩
            obtain ⟨h_74, hm⟩ := ite_t hm
            refine qsA 10 0 v_68 hs rfl h_74 rfl fun a w hs => ?_
            replace hcl : Ow κ w C_63 := by rw [hC_63]; exact (hs.own.too [4, 5, 6, 7, 8, 9, 10] 11)
            refine ⟨fun _ => hcl, ?_⟩
            obtain ⟨h_75, hm⟩ := ite_t hm
            refine qsA 11 1 v_71 hs rfl h_75 rfl fun a w hs => ?_
            refine ⟨fun h => absurd h (by decide), ?_⟩
            replace hs := hs.pick [1, 6, 9, 11, 12, 13, 14] (L' := [(1, .slice A_x1 x1.length c_x1), (6, pp b_2), (9, pp b_31), (11, vi q_45), (12, pp b_58), (13, pp b_73), (14, pp b_72)]) (by kernel_rfl)
            refine Vk.dDone (by kernel_rfl) ?_
            replace hs := hs.toEx (Twire_Machine.parts br14x0m_25 q_41) g_64 2 rfl
            replace hs := hs.toEx (Tvisorref19_M.parts κ br14x0x_26 v_24.2.1) g_65 3 rfl
            exact hj62 v_68 v_71 hm b_73 b_72 _ _ (hs.go [1, 6, 9, 11, 12, 13, 14] [4, 5, 6, 7, 2, 3, 8, 9, 10, 0, 1] 11 (by kernel_rfl) (by kernel_rfl) (by kernel_rfl))
        ·exact by
          refine Vk.alloc 13 75 [ci 0, ci 0, ci 0] hs (by kernel_rfl) (by kernel_rfl) (by kernel_rfl) fun b_69 w a hs => ?_
          replace hcl := qO hC_63 hs.own.f2.drop.f1.drop.drop
          refine ⟨fun _ => hcl, ?_⟩
          refine Vk.dMany2 (i0 := 7) (i1 := 9) (by kernel_rfl) ?_ ?_
          ·exact by
            obtain ⟨v_72, h_71, hm⟩ := bind_t hm
            refine qco (visorlaw27_word.ok _ _ _ _ h_71 _ _ _ br14x0m_25 g_64 br14x0x_26 g_65 A_42 c_43 (Sl.lift (fun w ho => (Ow.to (S' := rowp A_42 c_43 75 3 eC q_44 :: S) ho [5] 8 (by kernel_rfl) (by kernel_rfl))) (Ow.rowSl 0 (Ow.to (S' := rowp A_42 c_43 75 3 eC q_44 :: S) hs.own [7] 10 (by kernel_rfl) (by kernel_rfl)) rfl)) Ar14x0v_29 cr14x0v_30 (Sl.lift (fun w ho => (Ow.to (S' := rowp Ar14x0v_29 cr14x0v_30 34 1 (eI .u64) v_24.2.2.2.1 :: S) ho [6] 8 (by kernel_rfl) (by kernel_rfl))) (Ow.rowSl 0 (Ow.to (S' := rowp Ar14x0v_29 cr14x0v_30 34 1 (eI .u64) v_24.2.2.2.1 :: S) hs.own [8] 10 (by kernel_rfl) (by kernel_rfl)) rfl)) hs.own.f2.f2) hs fun w a hs => ?_
            replace hcl := qO hC_63 hs.own.f2.drop.f1.drop.drop
            refine ⟨fun _ => hcl, ?_⟩
            refine Vk.dOnly (i := 9) (by kernel_rfl) (Vk.alloc 14 75 [ci 0, ci 0, ci 0] hs (by kernel_rfl) (by kernel_rfl) (by kernel_rfl) fun b_73 w a hs => ?_)
            replace hcl : Ow κ w C_63 := by rw [hC_63]; exact (hs.own.too [4, 5, 6, 7, 8, 9, 10] 11)
            refine ⟨fun _ => hcl, ?_⟩
            obtain ⟨h_74, hm⟩ := ite_t hm
            refine qsA 10 3 v_68 hs rfl h_74 rfl fun a w hs => ?_
            replace hcl : Ow κ w C_63 := by rw [hC_63]; exact (hs.own.too [4, 5, 6, 7, 8, 9, 10] 11)
            refine ⟨fun _ => hcl, ?_⟩
            obtain ⟨h_75, hm⟩ := ite_t hm
            refine qsA 11 0 v_72 hs rfl h_75 rfl fun a w hs => ?_
            refine ⟨fun h => absurd h (by decide), ?_⟩
            replace hs := hs.pick [1, 6, 9, 11, 12, 13, 14] (L' := [(1, .slice A_x1 x1.length c_x1), (6, pp b_2), (9, pp b_31), (11, vi q_45), (12, pp b_58), (13, pp b_69), (14, pp b_73)]) (by kernel_rfl)
            refine Vk.dDone (by kernel_rfl) ?_
            replace hs := hs.toEx (Twire_Machine.parts br14x0m_25 q_41) g_64 1 rfl
            replace hs := hs.toEx (Tvisorref19_M.parts κ br14x0x_26 v_24.2.1) g_65 2 rfl
            exact hj62 v_68 v_72 hm b_69 b_73 _ _ (hs.go [1, 6, 9, 11, 12, 13, 14] [4, 5, 6, 7, 1, 2, 8, 9, 10, 3, 0] 11 (by kernel_rfl) (by kernel_rfl) (by kernel_rfl))
          ·exact by
            refine Vk.alloc 14 75 [ci 0, ci 0, ci 0] hs (by kernel_rfl) (by kernel_rfl) (by kernel_rfl) fun b_70 w a hs => ?_
            replace hcl : Ow κ w C_63 := by rw [hC_63]; exact (hs.own.too [4, 5, 6, 7, 8, 9, 10] 11)
            refine ⟨fun _ => hcl, ?_⟩
            obtain ⟨v_73, h_72, hm⟩ := bind_t hm
            refine qdc 7 (visorlaw27_word.ok _ _ _ _ h_72 _ _ _ br14x0m_25 g_64 br14x0x_26 g_65 A_42 c_43 (Sl.lift (fun w ho => (Ow.to (S' := rowp A_42 c_43 75 3 eC q_44 :: S) ho [6] 9 (by kernel_rfl) (by kernel_rfl))) (Ow.rowSl 0 (Ow.to (S' := rowp A_42 c_43 75 3 eC q_44 :: S) hs.own [8] 11 (by kernel_rfl) (by kernel_rfl)) rfl)) Ar14x0v_29 cr14x0v_30 (Sl.lift (fun w ho => (Ow.to (S' := rowp Ar14x0v_29 cr14x0v_30 34 1 (eI .u64) v_24.2.2.2.1 :: S) ho [7] 9 (by kernel_rfl) (by kernel_rfl))) (Ow.rowSl 0 (Ow.to (S' := rowp Ar14x0v_29 cr14x0v_30 34 1 (eI .u64) v_24.2.2.2.1 :: S) hs.own [9] 11 (by kernel_rfl) (by kernel_rfl)) rfl)) hs.own.f3.f3) hs fun w a hs => ?_
            replace hcl : Ow κ w C_63 := by rw [hC_63]; exact (hs.own.too [4, 5, 6, 7, 8, 9, 10] 11)
            refine ⟨fun _ => hcl, ?_⟩
            obtain ⟨h_74, hm⟩ := ite_t hm
            refine qsA 10 3 v_68 hs rfl h_74 rfl fun a w hs => ?_
            replace hcl : Ow κ w C_63 := by rw [hC_63]; exact (hs.own.too [4, 5, 6, 7, 8, 9, 10] 11)
            refine ⟨fun _ => hcl, ?_⟩
            obtain ⟨h_75, hm⟩ := ite_t hm
            refine qsA 11 2 v_73 hs rfl h_75 rfl fun a w hs => ?_
            refine ⟨fun h => absurd h (by decide), ?_⟩
            replace hs := hs.pick [1, 6, 9, 11, 12, 13, 14] (L' := [(1, .slice A_x1 x1.length c_x1), (6, pp b_2), (9, pp b_31), (11, vi q_45), (12, pp b_58), (13, pp b_69), (14, pp b_70)]) (by kernel_rfl)
            refine Vk.dDone (by kernel_rfl) ?_
            replace hs := hs.toEx (Twire_Machine.parts br14x0m_25 q_41) g_64 0 rfl
            replace hs := hs.toEx (Tvisorref19_M.parts κ br14x0x_26 v_24.2.1) g_65 1 rfl
            exact hj62 v_68 v_73 hm b_69 b_70 _ _ (hs.go [1, 6, 9, 11, 12, 13, 14] [4, 5, 6, 7, 0, 1, 8, 9, 10, 3, 2] 11 (by kernel_rfl) (by kernel_rfl) (by kernel_rfl))
        ·exact by
          refine Vk.alloc 14 75 [ci 0, ci 0, ci 0] hs (by kernel_rfl) (by kernel_rfl) (by kernel_rfl) fun b_69 w a hs => ?_
          replace hcl := qO hC_63 hs.own.f2.drop.f1.drop.drop
          refine ⟨fun _ => hcl, ?_⟩
          refine Vk.dMany2 (i0 := 7) (i1 := 8) (by kernel_rfl) ?_ ?_
          ·exact by
            obtain ⟨v_72, h_71, hm⟩ := bind_t hm
            refine qco (visorlaw27_word.ok _ _ _ _ h_71 _ _ _ br14x0m_25 g_64 br14x0x_26 g_65 A_42 c_43 (Sl.lift (fun w ho => (Ow.to (S' := rowp A_42 c_43 75 3 eC q_44 :: S) ho [5] 8 (by kernel_rfl) (by kernel_rfl))) (Ow.rowSl 0 (Ow.to (S' := rowp A_42 c_43 75 3 eC q_44 :: S) hs.own [7] 10 (by kernel_rfl) (by kernel_rfl)) rfl)) Ar14x0v_29 cr14x0v_30 (Sl.lift (fun w ho => (Ow.to (S' := rowp Ar14x0v_29 cr14x0v_30 34 1 (eI .u64) v_24.2.2.2.1 :: S) ho [6] 8 (by kernel_rfl) (by kernel_rfl))) (Ow.rowSl 0 (Ow.to (S' := rowp Ar14x0v_29 cr14x0v_30 34 1 (eI .u64) v_24.2.2.2.1 :: S) hs.own [8] 10 (by kernel_rfl) (by kernel_rfl)) rfl)) hs.own.f2.f2) hs fun w a hs => ?_
            replace hcl := qO hC_63 hs.own.f2.drop.f1.drop.drop
            refine ⟨fun _ => hcl, ?_⟩
            refine Vk.dOnly (i := 8) (by kernel_rfl) (Vk.alloc 13 75 [ci 0, ci 0, ci 0] hs (by kernel_rfl) (by kernel_rfl) (by kernel_rfl) fun b_73 w a hs => ?_)
            replace hcl : Ow κ w C_63 := by rw [hC_63]; exact (hs.own.too [4, 5, 6, 7, 8, 9, 10] 11)
            refine ⟨fun _ => hcl, ?_⟩
            obtain ⟨h_74, hm⟩ := ite_t hm
            refine qsA 10 0 v_68 hs rfl h_74 rfl fun a w hs => ?_
            replace hcl : Ow κ w C_63 := by rw [hC_63]; exact (hs.own.too [4, 5, 6, 7, 8, 9, 10] 11)
            refine ⟨fun _ => hcl, ?_⟩
            obtain ⟨h_75, hm⟩ := ite_t hm
            refine qsA 11 3 v_72 hs rfl h_75 rfl fun a w hs => ?_
            refine ⟨fun h => absurd h (by decide), ?_⟩
            replace hs := hs.pick [1, 6, 9, 11, 12, 13, 14] (L' := [(1, .slice A_x1 x1.length c_x1), (6, pp b_2), (9, pp b_31), (11, vi q_45), (12, pp b_58), (13, pp b_73), (14, pp b_69)]) (by kernel_rfl)
            refine Vk.dDone (by kernel_rfl) ?_
            replace hs := hs.toEx (Twire_Machine.parts br14x0m_25 q_41) g_64 1 rfl
            replace hs := hs.toEx (Tvisorref19_M.parts κ br14x0x_26 v_24.2.1) g_65 2 rfl
            exact hj62 v_68 v_72 hm b_73 b_69 _ _ (hs.go [1, 6, 9, 11, 12, 13, 14] [4, 5, 6, 7, 1, 2, 8, 9, 10, 0, 3] 11 (by kernel_rfl) (by kernel_rfl) (by kernel_rfl))
          ·exact by
            refine Vk.alloc 13 75 [ci 0, ci 0, ci 0] hs (by kernel_rfl) (by kernel_rfl) (by kernel_rfl) fun b_70 w a hs => ?_
            replace hcl : Ow κ w C_63 := by rw [hC_63]; exact (hs.own.too [4, 5, 6, 7, 8, 9, 10] 11)
            refine ⟨fun _ => hcl, ?_⟩
            obtain ⟨v_73, h_72, hm⟩ := bind_t hm
            refine qdc 7 (visorlaw27_word.ok _ _ _ _ h_72 _ _ _ br14x0m_25 g_64 br14x0x_26 g_65 A_42 c_43 (Sl.lift (fun w ho => (Ow.to (S' := rowp A_42 c_43 75 3 eC q_44 :: S) ho [6] 9 (by kernel_rfl) (by kernel_rfl))) (Ow.rowSl 0 (Ow.to (S' := rowp A_42 c_43 75 3 eC q_44 :: S) hs.own [8] 11 (by kernel_rfl) (by kernel_rfl)) rfl)) Ar14x0v_29 cr14x0v_30 (Sl.lift (fun w ho => (Ow.to (S' := rowp Ar14x0v_29 cr14x0v_30 34 1 (eI .u64) v_24.2.2.2.1 :: S) ho [7] 9 (by kernel_rfl) (by kernel_rfl))) (Ow.rowSl 0 (Ow.to (S' := rowp Ar14x0v_29 cr14x0v_30 34 1 (eI .u64) v_24.2.2.2.1 :: S) hs.own [9] 11 (by kernel_rfl) (by kernel_rfl)) rfl)) hs.own.f3.f3) hs fun w a hs => ?_
            replace hcl : Ow κ w C_63 := by rw [hC_63]; exact (hs.own.too [4, 5, 6, 7, 8, 9, 10] 11)
            refine ⟨fun _ => hcl, ?_⟩
            obtain ⟨h_74, hm⟩ := ite_t hm
            refine qsA 10 2 v_68 hs rfl h_74 rfl fun a w hs => ?_
            replace hcl : Ow κ w C_63 := by rw [hC_63]; exact (hs.own.too [4, 5, 6, 7, 8, 9, 10] 11)
            refine ⟨fun _ => hcl, ?_⟩
            obtain ⟨h_75, hm⟩ := ite_t hm
            refine qsA 11 3 v_73 hs rfl h_75 rfl fun a w hs => ?_
            refine ⟨fun h => absurd h (by decide), ?_⟩
            replace hs := hs.pick [1, 6, 9, 11, 12, 13, 14] (L' := [(1, .slice A_x1 x1.length c_x1), (6, pp b_2), (9, pp b_31), (11, vi q_45), (12, pp b_58), (13, pp b_70), (14, pp b_69)]) (by kernel_rfl)
            refine Vk.dDone (by kernel_rfl) ?_
            replace hs := hs.toEx (Twire_Machine.parts br14x0m_25 q_41) g_64 0 rfl
            replace hs := hs.toEx (Tvisorref19_M.parts κ br14x0x_26 v_24.2.1) g_65 1 rfl
            exact hj62 v_68 v_73 hm b_70 b_69 _ _ (hs.go [1, 6, 9, 11, 12, 13, 14] [4, 5, 6, 7, 0, 1, 8, 9, 10, 2, 3] 11 (by kernel_rfl) (by kernel_rfl) (by kernel_rfl))
      ·exact by
        refine Vk.alloc 13 75 [ci 0, ci 0, ci 0] hs (by kernel_rfl) (by kernel_rfl) (by kernel_rfl) fun b_64 w a hs => ?_
        replace hcl := qO hC_63 hs.own.f6.drop.f5.drop.drop
        refine ⟨fun _ => hcl, ?_⟩
        refine Vk.dMany2 (i0 := 3) (i1 := 9) (by kernel_rfl) ?_ ?_
        ·exact by
          obtain ⟨g_65, hs⟩ := hs.unex 5 rfl
          obtain ⟨g_66, hs⟩ := hs.unex 6 rfl
          obtain ⟨v_69, h_68, hm⟩ := bind_t hm
          refine qco (visorlaw27_word.ok _ _ _ _ h_68 _ _ _ br14x0m_25 g_65 br14x0x_26 g_66 A_42 c_43 (Sl.lift (fun w ho => (Ow.to (S' := rowp A_42 c_43 75 3 eC q_44 :: S) ho [5] 8 (by kernel_rfl) (by kernel_rfl))) (Ow.rowSl 0 (Ow.to (S' := rowp A_42 c_43 75 3 eC q_44 :: S) hs.own [7] 10 (by kernel_rfl) (by kernel_rfl)) rfl)) Ar14x0v_29 cr14x0v_30 (Sl.lift (fun w ho => (Ow.to (S' := rowp Ar14x0v_29 cr14x0v_30 34 1 (eI .u64) v_24.2.2.2.1 :: S) ho [6] 8 (by kernel_rfl) (by kernel_rfl))) (Ow.rowSl 0 (Ow.to (S' := rowp Ar14x0v_29 cr14x0v_30 34 1 (eI .u64) v_24.2.2.2.1 :: S) hs.own [8] 10 (by kernel_rfl) (by kernel_rfl)) rfl)) hs.own.f6.f6) hs fun w a hs => ?_
          replace hcl := qO hC_63 hs.own.f2.drop.f1.drop.drop
          refine ⟨fun _ => hcl, ?_⟩
          refine Vk.dMany2 (i0 := 7) (i1 := 9) (by kernel_rfl) ?_ ?_
          ·exact by
            obtain ⟨v_72, h_71, hm⟩ := bind_t hm
            refine qco (visorlaw27_word.ok _ _ _ _ h_71 _ _ _ br14x0m_25 g_65 br14x0x_26 g_66 A_42 c_43 (Sl.lift (fun w ho => (Ow.to (S' := rowp A_42 c_43 75 3 eC q_44 :: S) ho [5] 8 (by kernel_rfl) (by kernel_rfl))) (Ow.rowSl 0 (Ow.to (S' := rowp A_42 c_43 75 3 eC q_44 :: S) hs.own [7] 10 (by kernel_rfl) (by kernel_rfl)) rfl)) Ar14x0v_29 cr14x0v_30 (Sl.lift (fun w ho => (Ow.to (S' := rowp Ar14x0v_29 cr14x0v_30 34 1 (eI .u64) v_24.2.2.2.1 :: S) ho [6] 8 (by kernel_rfl) (by kernel_rfl))) (Ow.rowSl 0 (Ow.to (S' := rowp Ar14x0v_29 cr14x0v_30 34 1 (eI .u64) v_24.2.2.2.1 :: S) hs.own [8] 10 (by kernel_rfl) (by kernel_rfl)) rfl)) hs.own) hs fun w a hs => ?_
            replace hcl := qO hC_63 hs.own.f2.drop.f1.drop.drop
            refine ⟨fun _ => hcl, ?_⟩
            refine Vk.dOnly (i := 9) (by kernel_rfl) (Vk.alloc 14 75 [ci 0, ci 0, ci 0] hs (by kernel_rfl) (by kernel_rfl) (by kernel_rfl) fun b_73 w a hs => ?_)
            replace hcl : Ow κ w C_63 := by rw [hC_63]; exact (hs.own.too [4, 5, 6, 7, 8, 9, 10] 11)
            refine ⟨fun _ => hcl, ?_⟩
            obtain ⟨h_74, hm⟩ := ite_t hm
            refine qsA 10 3 v_69 hs rfl h_74 rfl fun a w hs => ?_
            replace hcl : Ow κ w C_63 := by rw [hC_63]; exact (hs.own.too [4, 5, 6, 7, 8, 9, 10] 11)
            refine ⟨fun _ => hcl, ?_⟩
            obtain ⟨h_75, hm⟩ := ite_t hm
            refine qsA 11 0 v_72 hs rfl h_75 rfl fun a w hs => ?_
            refine ⟨fun h => absurd h (by decide), ?_⟩
            replace hs := hs.pick [1, 6, 9, 11, 12, 13, 14] (L' := [(1, .slice A_x1 x1.length c_x1), (6, pp b_2), (9, pp b_31), (11, vi q_45), (12, pp b_58), (13, pp b_64), (14, pp b_73)]) (by kernel_rfl)
            refine Vk.dDone (by kernel_rfl) ?_
            replace hs := hs.toEx (Twire_Machine.parts br14x0m_25 q_41) g_65 1 rfl
            replace hs := hs.toEx (Tvisorref19_M.parts κ br14x0x_26 v_24.2.1) g_66 2 rfl
            exact hj62 v_69 v_72 hm b_64 b_73 _ _ (hs.go [1, 6, 9, 11, 12, 13, 14] [4, 5, 6, 7, 1, 2, 8, 9, 10, 3, 0] 11 (by kernel_rfl) (by kernel_rfl) (by kernel_rfl))
          ·exact by
            refine Vk.alloc 14 75 [ci 0, ci 0, ci 0] hs (by kernel_rfl) (by kernel_rfl) (by kernel_rfl) fun b_70 w a hs => ?_
            replace hcl : Ow κ w C_63 := by rw [hC_63]; exact (hs.own.too [4, 5, 6, 7, 8, 9, 10] 11)
            refine ⟨fun _ => hcl, ?_⟩
            obtain ⟨v_73, h_72, hm⟩ := bind_t hm
            refine qdc 7 (visorlaw27_word.ok _ _ _ _ h_72 _ _ _ br14x0m_25 g_65 br14x0x_26 g_66 A_42 c_43 (Sl.lift (fun w ho => (Ow.to (S' := rowp A_42 c_43 75 3 eC q_44 :: S) ho [6] 9 (by kernel_rfl) (by kernel_rfl))) (Ow.rowSl 0 (Ow.to (S' := rowp A_42 c_43 75 3 eC q_44 :: S) hs.own [8] 11 (by kernel_rfl) (by kernel_rfl)) rfl)) Ar14x0v_29 cr14x0v_30 (Sl.lift (fun w ho => (Ow.to (S' := rowp Ar14x0v_29 cr14x0v_30 34 1 (eI .u64) v_24.2.2.2.1 :: S) ho [7] 9 (by kernel_rfl) (by kernel_rfl))) (Ow.rowSl 0 (Ow.to (S' := rowp Ar14x0v_29 cr14x0v_30 34 1 (eI .u64) v_24.2.2.2.1 :: S) hs.own [9] 11 (by kernel_rfl) (by kernel_rfl)) rfl)) hs.own.f2.f2) hs fun w a hs => ?_
            replace hcl : Ow κ w C_63 := by rw [hC_63]; exact (hs.own.too [4, 5, 6, 7, 8, 9, 10] 11)
            refine ⟨fun _ => hcl, ?_⟩
            obtain ⟨h_74, hm⟩ := ite_t hm
            refine qsA 10 3 v_69 hs rfl h_74 rfl fun a w hs => ?_
            replace hcl : Ow κ w C_63 := by rw [hC_63]; exact (hs.own.too [4, 5, 6, 7, 8, 9, 10] 11)
            refine ⟨fun _ => hcl, ?_⟩
            obtain ⟨h_75, hm⟩ := ite_t hm
            refine qsA 11 2 v_73 hs rfl h_75 rfl fun a w hs => ?_
            refine ⟨fun h => absurd h (by decide), ?_⟩
            replace hs := hs.pick [1, 6, 9, 11, 12, 13, 14] (L' := [(1, .slice A_x1 x1.length c_x1), (6, pp b_2), (9, pp b_31), (11, vi q_45), (12, pp b_58), (13, pp b_64), (14, pp b_70)]) (by kernel_rfl)
            refine Vk.dDone (by kernel_rfl) ?_
            replace hs := hs.toEx (Twire_Machine.parts br14x0m_25 q_41) g_65 0 rfl
            replace hs := hs.toEx (Tvisorref19_M.parts κ br14x0x_26 v_24.2.1) g_66 1 rfl
            exact hj62 v_69 v_73 hm b_64 b_70 _ _ (hs.go [1, 6, 9, 11, 12, 13, 14] [4, 5, 6, 7, 0, 1, 8, 9, 10, 3, 2] 11 (by kernel_rfl) (by kernel_rfl) (by kernel_rfl))
        ·exact by
          refine Vk.alloc 14 75 [ci 0, ci 0, ci 0] hs (by kernel_rfl) (by kernel_rfl) (by kernel_rfl) fun b_65 w a hs => ?_
          replace hcl : Ow κ w C_63 := by rw [hC_63]; exact (hs.own.too [2, 3, 4, 5, 8, 9, 10] 11)
          refine ⟨fun _ => hcl, ?_⟩
          obtain ⟨g_66, hs⟩ := hs.unex 6 rfl
          obtain ⟨g_67, hs⟩ := hs.unex 7 rfl
          obtain ⟨v_70, h_69, hm⟩ := bind_t hm
          refine qdc 3 (visorlaw27_word.ok _ _ _ _ h_69 _ _ _ br14x0m_25 g_66 br14x0x_26 g_67 A_42 c_43 (Sl.lift (fun w ho => (Ow.to (S' := rowp A_42 c_43 75 3 eC q_44 :: S) ho [6] 9 (by kernel_rfl) (by kernel_rfl))) (Ow.rowSl 0 (Ow.to (S' := rowp A_42 c_43 75 3 eC q_44 :: S) hs.own [8] 11 (by kernel_rfl) (by kernel_rfl)) rfl)) Ar14x0v_29 cr14x0v_30 (Sl.lift (fun w ho => (Ow.to (S' := rowp Ar14x0v_29 cr14x0v_30 34 1 (eI .u64) v_24.2.2.2.1 :: S) ho [7] 9 (by kernel_rfl) (by kernel_rfl))) (Ow.rowSl 0 (Ow.to (S' := rowp Ar14x0v_29 cr14x0v_30 34 1 (eI .u64) v_24.2.2.2.1 :: S) hs.own [9] 11 (by kernel_rfl) (by kernel_rfl)) rfl)) hs.own.f7.f7) hs fun w a hs => ?_
          replace hcl : Ow κ w C_63 := by rw [hC_63]; exact (hs.own.too [4, 5, 6, 7, 8, 9, 10] 11)
          refine ⟨fun _ => hcl, ?_⟩
          obtain ⟨v_73, h_72, hm⟩ := bind_t hm
          refine qdc 7 (visorlaw27_word.ok _ _ _ _ h_72 _ _ _ br14x0m_25 g_66 br14x0x_26 g_67 A_42 c_43 (Sl.lift (fun w ho => (Ow.to (S' := rowp A_42 c_43 75 3 eC q_44 :: S) ho [6] 9 (by kernel_rfl) (by kernel_rfl))) (Ow.rowSl 0 (Ow.to (S' := rowp A_42 c_43 75 3 eC q_44 :: S) hs.own [8] 11 (by kernel_rfl) (by kernel_rfl)) rfl)) Ar14x0v_29 cr14x0v_30 (Sl.lift (fun w ho => (Ow.to (S' := rowp Ar14x0v_29 cr14x0v_30 34 1 (eI .u64) v_24.2.2.2.1 :: S) ho [7] 9 (by kernel_rfl) (by kernel_rfl))) (Ow.rowSl 0 (Ow.to (S' := rowp Ar14x0v_29 cr14x0v_30 34 1 (eI .u64) v_24.2.2.2.1 :: S) hs.own [9] 11 (by kernel_rfl) (by kernel_rfl)) rfl)) hs.own) hs fun w a hs => ?_
          replace hcl : Ow κ w C_63 := by rw [hC_63]; exact (hs.own.too [4, 5, 6, 7, 8, 9, 10] 11)
          refine ⟨fun _ => hcl, ?_⟩
          obtain ⟨h_74, hm⟩ := ite_t hm
          refine qsA 10 3 v_70 hs rfl h_74 rfl fun a w hs => ?_
          replace hcl : Ow κ w C_63 := by rw [hC_63]; exact (hs.own.too [4, 5, 6, 7, 8, 9, 10] 11)
          refine ⟨fun _ => hcl, ?_⟩
          obtain ⟨h_75, hm⟩ := ite_t hm
          refine qsA 11 2 v_73 hs rfl h_75 rfl fun a w hs => ?_
          refine ⟨fun h => absurd h (by decide), ?_⟩
          replace hs := hs.pick [1, 6, 9, 11, 12, 13, 14] (L' := [(1, .slice A_x1 x1.length c_x1), (6, pp b_2), (9, pp b_31), (11, vi q_45), (12, pp b_58), (13, pp b_64), (14, pp b_65)]) (by kernel_rfl)
          refine Vk.dDone (by kernel_rfl) ?_
          replace hs := hs.toEx (Twire_Machine.parts br14x0m_25 q_41) g_66 0 rfl
          replace hs := hs.toEx (Tvisorref19_M.parts κ br14x0x_26 v_24.2.1) g_67 1 rfl
          exact hj62 v_70 v_73 hm b_64 b_65 _ _ (hs.go [1, 6, 9, 11, 12, 13, 14] [4, 5, 6, 7, 0, 1, 8, 9, 10, 3, 2] 11 (by kernel_rfl) (by kernel_rfl) (by kernel_rfl))
      ·exact by
        refine Vk.alloc 14 75 [ci 0, ci 0, ci 0] hs (by kernel_rfl) (by kernel_rfl) (by kernel_rfl) fun b_64 w a hs => ?_
        replace hcl := qO hC_63 hs.own.f6.drop.f5.drop.drop
        refine ⟨fun _ => hcl, ?_⟩
        refine Vk.dMany2 (i0 := 3) (i1 := 8) (by kernel_rfl) ?_ ?_
        ·exact by
          obtain ⟨g_65, hs⟩ := hs.unex 5 rfl
          obtain ⟨g_66, hs⟩ := hs.unex 6 rfl
          obtain ⟨v_69, h_68, hm⟩ := bind_t hm
          refine qco (visorlaw27_word.ok _ _ _ _ h_68 _ _ _ br14x0m_25 g_65 br14x0x_26 g_66 A_42 c_43 (Sl.lift (fun w ho => (Ow.to (S' := rowp A_42 c_43 75 3 eC q_44 :: S) ho [5] 8 (by kernel_rfl) (by kernel_rfl))) (Ow.rowSl 0 (Ow.to (S' := rowp A_42 c_43 75 3 eC q_44 :: S) hs.own [7] 10 (by kernel_rfl) (by kernel_rfl)) rfl)) Ar14x0v_29 cr14x0v_30 (Sl.lift (fun w ho => (Ow.to (S' := rowp Ar14x0v_29 cr14x0v_30 34 1 (eI .u64) v_24.2.2.2.1 :: S) ho [6] 8 (by kernel_rfl) (by kernel_rfl))) (Ow.rowSl 0 (Ow.to (S' := rowp Ar14x0v_29 cr14x0v_30 34 1 (eI .u64) v_24.2.2.2.1 :: S) hs.own [8] 10 (by kernel_rfl) (by kernel_rfl)) rfl)) hs.own.f6.f6) hs fun w a hs => ?_
          replace hcl := qO hC_63 hs.own.f2.drop.f1.drop.drop
          refine ⟨fun _ => hcl, ?_⟩
          refine Vk.dMany2 (i0 := 7) (i1 := 8) (by kernel_rfl) ?_ ?_
          ·exact by
            obtain ⟨v_72, h_71, hm⟩ := bind_t hm
            refine qco (visorlaw27_word.ok _ _ _ _ h_71 _ _ _ br14x0m_25 g_65 br14x0x_26 g_66 A_42 c_43 (Sl.lift (fun w ho => (Ow.to (S' := rowp A_42 c_43 75 3 eC q_44 :: S) ho [5] 8 (by kernel_rfl) (by kernel_rfl))) (Ow.rowSl 0 (Ow.to (S' := rowp A_42 c_43 75 3 eC q_44 :: S) hs.own [7] 10 (by kernel_rfl) (by kernel_rfl)) rfl)) Ar14x0v_29 cr14x0v_30 (Sl.lift (fun w ho => (Ow.to (S' := rowp Ar14x0v_29 cr14x0v_30 34 1 (eI .u64) v_24.2.2.2.1 :: S) ho [6] 8 (by kernel_rfl) (by kernel_rfl))) (Ow.rowSl 0 (Ow.to (S' := rowp Ar14x0v_29 cr14x0v_30 34 1 (eI .u64) v_24.2.2.2.1 :: S) hs.own [8] 10 (by kernel_rfl) (by kernel_rfl)) rfl)) hs.own) hs fun w a hs => ?_
            replace hcl := qO hC_63 hs.own.f2.drop.f1.drop.drop
            refine ⟨fun _ => hcl, ?_⟩
            refine Vk.dOnly (i := 8) (by kernel_rfl) (Vk.alloc 13 75 [ci 0, ci 0, ci 0] hs (by kernel_rfl) (by kernel_rfl) (by kernel_rfl) fun b_73 w a hs => ?_)
            replace hcl : Ow κ w C_63 := by rw [hC_63]; exact (hs.own.too [4, 5, 6, 7, 8, 9, 10] 11)
            refine ⟨fun _ => hcl, ?_⟩
            obtain ⟨h_74, hm⟩ := ite_t hm
            refine qsA 10 0 v_69 hs rfl h_74 rfl fun a w hs => ?_
            replace hcl : Ow κ w C_63 := by rw [hC_63]; exact (hs.own.too [4, 5, 6, 7, 8, 9, 10] 11)
            refine ⟨fun _ => hcl, ?_⟩
            obtain ⟨h_75, hm⟩ := ite_t hm
            refine qsA 11 3 v_72 hs rfl h_75 rfl fun a w hs => ?_
            refine ⟨fun h => absurd h (by decide), ?_⟩
            replace hs := hs.pick [1, 6, 9, 11, 12, 13, 14] (L' := [(1, .slice A_x1 x1.length c_x1), (6, pp b_2), (9, pp b_31), (11, vi q_45), (12, pp b_58), (13, pp b_73), (14, pp b_64)]) (by kernel_rfl)
            refine Vk.dDone (by kernel_rfl) ?_
            replace hs := hs.toEx (Twire_Machine.parts br14x0m_25 q_41) g_65 1 rfl
            replace hs := hs.toEx (Tvisorref19_M.parts κ br14x0x_26 v_24.2.1) g_66 2 rfl
            exact hj62 v_69 v_72 hm b_73 b_64 _ _ (hs.go [1, 6, 9, 11, 12, 13, 14] [4, 5, 6, 7, 1, 2, 8, 9, 10, 0, 3] 11 (by kernel_rfl) (by kernel_rfl) (by kernel_rfl))
          ·exact by
            refine Vk.alloc 13 75 [ci 0, ci 0, ci 0] hs (by kernel_rfl) (by kernel_rfl) (by kernel_rfl) fun b_70 w a hs => ?_
            replace hcl : Ow κ w C_63 := by rw [hC_63]; exact (hs.own.too [4, 5, 6, 7, 8, 9, 10] 11)
            refine ⟨fun _ => hcl, ?_⟩
            obtain ⟨v_73, h_72, hm⟩ := bind_t hm
            refine qdc 7 (visorlaw27_word.ok _ _ _ _ h_72 _ _ _ br14x0m_25 g_65 br14x0x_26 g_66 A_42 c_43 (Sl.lift (fun w ho => (Ow.to (S' := rowp A_42 c_43 75 3 eC q_44 :: S) ho [6] 9 (by kernel_rfl) (by kernel_rfl))) (Ow.rowSl 0 (Ow.to (S' := rowp A_42 c_43 75 3 eC q_44 :: S) hs.own [8] 11 (by kernel_rfl) (by kernel_rfl)) rfl)) Ar14x0v_29 cr14x0v_30 (Sl.lift (fun w ho => (Ow.to (S' := rowp Ar14x0v_29 cr14x0v_30 34 1 (eI .u64) v_24.2.2.2.1 :: S) ho [7] 9 (by kernel_rfl) (by kernel_rfl))) (Ow.rowSl 0 (Ow.to (S' := rowp Ar14x0v_29 cr14x0v_30 34 1 (eI .u64) v_24.2.2.2.1 :: S) hs.own [9] 11 (by kernel_rfl) (by kernel_rfl)) rfl)) hs.own.f2.f2) hs fun w a hs => ?_
            replace hcl : Ow κ w C_63 := by rw [hC_63]; exact (hs.own.too [4, 5, 6, 7, 8, 9, 10] 11)
            refine ⟨fun _ => hcl, ?_⟩
            obtain ⟨h_74, hm⟩ := ite_t hm
            refine qsA 10 2 v_69 hs rfl h_74 rfl fun a w hs => ?_
            replace hcl : Ow κ w C_63 := by rw [hC_63]; exact (hs.own.too [4, 5, 6, 7, 8, 9, 10] 11)
            refine ⟨fun _ => hcl, ?_⟩
            obtain ⟨h_75, hm⟩ := ite_t hm
            refine qsA 11 3 v_73 hs rfl h_75 rfl fun a w hs => ?_
            refine ⟨fun h => absurd h (by decide), ?_⟩
            replace hs := hs.pick [1, 6, 9, 11, 12, 13, 14] (L' := [(1, .slice A_x1 x1.length c_x1), (6, pp b_2), (9, pp b_31), (11, vi q_45), (12, pp b_58), (13, pp b_70), (14, pp b_64)]) (by kernel_rfl)
            refine Vk.dDone (by kernel_rfl) ?_
            replace hs := hs.toEx (Twire_Machine.parts br14x0m_25 q_41) g_65 0 rfl
            replace hs := hs.toEx (Tvisorref19_M.parts κ br14x0x_26 v_24.2.1) g_66 1 rfl
            exact hj62 v_69 v_73 hm b_70 b_64 _ _ (hs.go [1, 6, 9, 11, 12, 13, 14] [4, 5, 6, 7, 0, 1, 8, 9, 10, 2, 3] 11 (by kernel_rfl) (by kernel_rfl) (by kernel_rfl))
        ·exact by
          refine Vk.alloc 13 75 [ci 0, ci 0, ci 0] hs (by kernel_rfl) (by kernel_rfl) (by kernel_rfl) fun b_65 w a hs => ?_
          replace hcl : Ow κ w C_63 := by rw [hC_63]; exact (hs.own.too [2, 3, 4, 5, 8, 9, 10] 11)
          refine ⟨fun _ => hcl, ?_⟩
          obtain ⟨g_66, hs⟩ := hs.unex 6 rfl
          obtain ⟨g_67, hs⟩ := hs.unex 7 rfl
          obtain ⟨v_70, h_69, hm⟩ := bind_t hm
          refine qdc 3 (visorlaw27_word.ok _ _ _ _ h_69 _ _ _ br14x0m_25 g_66 br14x0x_26 g_67 A_42 c_43 (Sl.lift (fun w ho => (Ow.to (S' := rowp A_42 c_43 75 3 eC q_44 :: S) ho [6] 9 (by kernel_rfl) (by kernel_rfl))) (Ow.rowSl 0 (Ow.to (S' := rowp A_42 c_43 75 3 eC q_44 :: S) hs.own [8] 11 (by kernel_rfl) (by kernel_rfl)) rfl)) Ar14x0v_29 cr14x0v_30 (Sl.lift (fun w ho => (Ow.to (S' := rowp Ar14x0v_29 cr14x0v_30 34 1 (eI .u64) v_24.2.2.2.1 :: S) ho [7] 9 (by kernel_rfl) (by kernel_rfl))) (Ow.rowSl 0 (Ow.to (S' := rowp Ar14x0v_29 cr14x0v_30 34 1 (eI .u64) v_24.2.2.2.1 :: S) hs.own [9] 11 (by kernel_rfl) (by kernel_rfl)) rfl)) hs.own.f7.f7) hs fun w a hs => ?_
          replace hcl : Ow κ w C_63 := by rw [hC_63]; exact (hs.own.too [4, 5, 6, 7, 8, 9, 10] 11)
          refine ⟨fun _ => hcl, ?_⟩
          obtain ⟨v_73, h_72, hm⟩ := bind_t hm
          refine qdc 7 (visorlaw27_word.ok _ _ _ _ h_72 _ _ _ br14x0m_25 g_66 br14x0x_26 g_67 A_42 c_43 (Sl.lift (fun w ho => (Ow.to (S' := rowp A_42 c_43 75 3 eC q_44 :: S) ho [6] 9 (by kernel_rfl) (by kernel_rfl))) (Ow.rowSl 0 (Ow.to (S' := rowp A_42 c_43 75 3 eC q_44 :: S) hs.own [8] 11 (by kernel_rfl) (by kernel_rfl)) rfl)) Ar14x0v_29 cr14x0v_30 (Sl.lift (fun w ho => (Ow.to (S' := rowp Ar14x0v_29 cr14x0v_30 34 1 (eI .u64) v_24.2.2.2.1 :: S) ho [7] 9 (by kernel_rfl) (by kernel_rfl))) (Ow.rowSl 0 (Ow.to (S' := rowp Ar14x0v_29 cr14x0v_30 34 1 (eI .u64) v_24.2.2.2.1 :: S) hs.own [9] 11 (by kernel_rfl) (by kernel_rfl)) rfl)) hs.own) hs fun w a hs => ?_
          replace hcl : Ow κ w C_63 := by rw [hC_63]; exact (hs.own.too [4, 5, 6, 7, 8, 9, 10] 11)
          refine ⟨fun _ => hcl, ?_⟩
          obtain ⟨h_74, hm⟩ := ite_t hm
          refine qsA 10 2 v_70 hs rfl h_74 rfl fun a w hs => ?_
          replace hcl : Ow κ w C_63 := by rw [hC_63]; exact (hs.own.too [4, 5, 6, 7, 8, 9, 10] 11)
          refine ⟨fun _ => hcl, ?_⟩
          obtain ⟨h_75, hm⟩ := ite_t hm
          refine qsA 11 3 v_73 hs rfl h_75 rfl fun a w hs => ?_
          refine ⟨fun h => absurd h (by decide), ?_⟩
          replace hs := hs.pick [1, 6, 9, 11, 12, 13, 14] (L' := [(1, .slice A_x1 x1.length c_x1), (6, pp b_2), (9, pp b_31), (11, vi q_45), (12, pp b_58), (13, pp b_65), (14, pp b_64)]) (by kernel_rfl)
          refine Vk.dDone (by kernel_rfl) ?_
          replace hs := hs.toEx (Twire_Machine.parts br14x0m_25 q_41) g_66 0 rfl
          replace hs := hs.toEx (Tvisorref19_M.parts κ br14x0x_26 v_24.2.1) g_67 1 rfl
          exact hj62 v_70 v_73 hm b_65 b_64 _ _ (hs.go [1, 6, 9, 11, 12, 13, 14] [4, 5, 6, 7, 0, 1, 8, 9, 10, 2, 3] 11 (by kernel_rfl) (by kernel_rfl) (by kernel_rfl))
     refine qsr fun K60 hK60 => ?_
     refine qpu 1 hs fun a hs => ?_
     refine qld 4 (C.slc A_42 q_44.length c_43) hs rfl fun a hs => ?_
     refine qpk 2 [1, 6, 9, 11, 12, 43] hs fun a hs => hK60 _ _ ?_
     clear hK60
     refine qcs (((q_44.length : Nat) : Int) == 0) hs (fun hb => ?_) fun hb => ?_
     ·replace hm := bif_t hm hb
      refine Vk.region ?_
      refine qpu 1 hs fun a hs => ?_
      refine qst 0 0 (ci 0) hs rfl fun a w hs => ?_
      refine qpe 0 [(1, .slice A_x1 x1.length c_x1), (6, pp b_2), (9, pp b_31), (11, vi q_45), (12, pp b_58)] hs fun a hs => ?_
      exact hj59 (⟨0, e_54.a, e_54.b, e_54.k, e_54.byF, e_54.c⟩ : Tvisorlaw27_Act) hm _ _ (hs.go [1, 6, 9, 11, 12] [1, 2, 3, 4, 5, 6, 7, 8, 0] 9 (by kernel_rfl) (by kernel_rfl) (by kernel_rfl))
     ·replace hm := bif_f hm hb
      refine wp_skip ?_
      exact hj59 e_54 hm _ _ (hs.go [1, 6, 9, 11, 12] [1, 2, 3, 4, 5, 6, 7, 8, 0] 9 (by kernel_rfl) (by kernel_rfl) (by kernel_rfl))
    ·replace hm := bif_f hm hb
     refine wp_exit ?_
     exact hx40 q_41 q_44 (Option.some.inj hm).symm A_42 c_43 _ _ (hs.go [6, 9] [0, 1, 2, 3, 4, 5, 6, 7] 8 (by kernel_rfl) (by kernel_rfl) (by kernel_rfl))
 refine qsk 1 [1, 2, 6, 8, 16] hs fun a hs => ?_
 refine qcs (x0) hs (fun hb => ?_) fun hb => ?_
 ·replace hm := bif_t hm hb
  refine Vk.region ?_
  refine qpe 1 [(1, .slice A_x1 x1.length c_x1), (2, .slice A_x2 x2.length c_x2), (6, pp b_2), (8, vi 3)] hs fun a hs => ?_
  replace hs := hs.addRow none 75 3 eC
  replace hs := hs.addRow none 34 1 (eI .u64)
  exact hj4 3 hm _ _ (hs.go [1, 2, 6, 8] [3, 2, 1, 0] 4 (by kernel_rfl) (by kernel_rfl) (by kernel_rfl))
 ·replace hm := bif_f hm hb
  refine wp_skip ?_
  replace hs := hs.addRow none 75 3 eC
  replace hs := hs.addRow none 34 1 (eI .u64)
  exact hj4 2 hm _ _ (hs.go [1, 2, 6, 8] [3, 2, 1, 0] 4 (by kernel_rfl) (by kernel_rfl) (by kernel_rfl))


abbrev slices_Clone_api_Op_api_Op.R (κ : Ctx) (S : List HP) (x0 : List Tapi_Op) (A_x0 : Option Addr) (c_x0 : Nat) (r : List Tapi_Op) : Ending → World → Prop := fun e w' => ∃ (A_r0 : Option Addr), ∃ (c_r0 : Nat), e = .returned (.slice A_r0 r.length c_r0) ∧ Ow κ w' (rowp A_r0 c_r0 80 6 Tapi_Op.cells r :: S)
def slices_Clone_api_Op_api_Op.m (k : Nat) (x0 : List Tapi_Op) : Option (List Tapi_Op) := (if (([] : List Tapi_Op).length + x0.length) * 48 ≤ 140737488355328 then some (([] : List Tapi_Op) ++ x0) else none)

set_option maxRecDepth 100000 in
set_option maxHeartbeats 4000000 in
theorem slices_Clone_api_Op_api_Op.ok (k : Nat) (x0 : List Tapi_Op) (r : List Tapi_Op) (hm : slices_Clone_api_Op_api_Op.m k x0 = some r) (κ : Ctx) (w : World) (S : List HP) (A_x0 : Option Addr) (c_x0 : Nat) (hx_x0 : Sl κ S A_x0 c_x0 6 Tapi_Op.cells x0) (ho : Ow κ w (S)) :
  Calls Tryz.prog 58 #[.slice A_x0 x0.length c_x0] w (slices_Clone_api_Op_api_Op.R κ S x0 A_x0 c_x0 r) := by
 unfold slices_Clone_api_Op_api_Op.m at hm
 rcases A_x0 with _ | p_x0
 ·obtain rfl : c_x0 = 0 := hx_x0.none rfl
  obtain rfl : x0 = [] := List.length_eq_zero_iff.1 (Nat.le_zero.1 hx_x0.le)
  replace hm : some ([] : List Tapi_Op) = some r := by simpa using hm
  refine Vk.enter [(0, .slice none 0 0)] Tryz.func58 rfl Tryz.ntmps58 (by kernel_rfl) (Nat.le_of_ble_eq_true (by kernel_rfl)) ho fun a hs => ?_
  refine Vk.seq fun K1 hK1 => ?_
  refine Vk.region ?_
  refine Vk.pures 1 [(2, .slice none 0 0)] hs (by kernel_rfl) fun a hs => ?_
  replace hs := hs.pick [0] (L' := [(0, .slice none 0 0)]) (by kernel_rfl)
  refine Vk.done (by kernel_rfl) ?_
  refine hK1 _ _ ?_
  clear hK1
  refine Vk.seq fun K2 hK2 => ?_
  refine Vk.seq fun K3 hK3 => ?_
  refine Vk.region ?_
  refine Vk.pures 2 [(4, .bool true), (3, .slice none 0 0)] hs (by kernel_rfl) fun a hs => ?_
  replace hs := hs.pick [0, 4] (L' := [(0, .slice none 0 0), (4, .bool true)]) (by kernel_rfl)
  refine Vk.done (by kernel_rfl) ?_
  refine hK3 _ _ ?_
  clear hK3
  refine Vk.condT hs (by kernel_rfl) (by kernel_rfl) ?_
  refine Vk.seq fun K4 hK4 => ?_
  refine Vk.region ?_
  refine Vk.pures 1 [(2, .slice none 0 0)] hs (by kernel_rfl) fun a hs => ?_
  replace hs := hs.pick [2] (L' := [(2, .slice none 0 0)]) (by kernel_rfl)
  refine Vk.done (by kernel_rfl) ?_
  refine hK4 _ _ ?_
  clear hK4
  refine wp_ret ?_
  replace hs := hs.addRow none 80 6 Tapi_Op.cells
  exact Vk.ret1 (P := Tryz.prog) (fn := Tryz.f58) (R := slices_Clone_api_Op_api_Op.R κ S [] none 0 r) (.slice none (([] : List Tapi_Op).length) 0) hs rfl (by kernel_rfl) (by obtain rfl := Option.some.inj hm; exact ⟨none, 0, rfl, hs.own⟩)
 ·skip
  refine Vk.enter [(0, .slice (some p_x0) x0.length c_x0)] Tryz.func58 rfl Tryz.ntmps58 (by kernel_rfl) (Nat.le_of_ble_eq_true (by kernel_rfl)) ho fun a hs => ?_
  refine Vk.seq fun K1 hK1 => ?_
  refine Vk.region ?_
  refine Vk.pures 1 [(2, .slice none 0 0)] hs (by kernel_rfl) fun a hs => ?_
  replace hs := hs.pick [0] (L' := [(0, .slice (some p_x0) x0.length c_x0)]) (by kernel_rfl)
  refine Vk.done (by kernel_rfl) ?_
  refine hK1 _ _ ?_
  clear hK1
  refine Vk.seq fun K2 hK2 => ?_
  refine Vk.seq fun K3 hK3 => ?_
  refine Vk.region ?_
  refine Vk.pures 2 [(4, .bool false), (3, .slice (some p_x0) x0.length c_x0)] hs (by kernel_rfl) fun a hs => ?_
  replace hs := hs.pick [0, 4] (L' := [(0, .slice (some p_x0) x0.length c_x0), (4, .bool false)]) (by kernel_rfl)
  refine Vk.done (by kernel_rfl) ?_
  refine hK3 _ _ ?_
  clear hK3
  refine Vk.condF hs (by kernel_rfl) (by kernel_rfl) ?_
  refine wp_skip ?_
  refine hK2 _ _ ?_
  clear hK2
  refine Vk.seq fun K4 hK4 => ?_
  refine Vk.region ?_
  refine Vk.step (Vk.buildOp (sz := 6) (by_ := 48) (t := 22) (e := 80) (parts := #[]) (zs := vals [C.int .i64 0, C.int .i64 0, C.int .i64 0, C.int .i64 0, C.int .i64 0, C.int .u64 0]) ([] : List Tapi_Op) Tapi_Op.cells (some 5) hs (by kernel_rfl) (by kernel_rfl) (by kernel_rfl) (by kernel_rfl) (by decide) rfl (fun x _ => rfl) (Nat.le_of_ble_eq_true (by kernel_rfl)) (by kernel_rfl) fun A_5 w a hs => ?_)
  refine Vk.pures 1 [(6, .slice (some p_x0) x0.length c_x0)] hs (by kernel_rfl) fun a hs => ?_
  obtain ⟨h_7, hm⟩ := ite_t hm
  refine Vk.step (Vk.appendOp (x := (.tmp 5)) (y := (.tmp 6)) (e := 80) (t := 22) (by_ := 48) (sz := 6) (enc := Tapi_Op.cells) (A := A_5) (cap := 0) (xs := ([] : List Tapi_Op)) (ys := x0) (B := (some p_x0)) (c2 := c_x0) 0 (some 7) hs (by kernel_rfl) (by kernel_rfl) (by kernel_rfl) (by kernel_rfl) rfl hx_x0.less (by kernel_rfl) (by kernel_rfl) (by decide) (by decide) h_7 fun A_8 c_9 w a hs => ?_)
  refine Vk.pures 1 [(2, .slice A_8 ((([] : List Tapi_Op) ++ x0).length) c_9)] hs (by kernel_rfl) fun a hs => ?_
  replace hs := hs.pick [2] (L' := [(2, .slice A_8 ((([] : List Tapi_Op) ++ x0).length) c_9)]) (by kernel_rfl)
  refine Vk.done (by kernel_rfl) ?_
  refine hK4 _ _ ?_
  clear hK4
  refine wp_ret ?_
  exact Vk.ret1 (P := Tryz.prog) (fn := Tryz.f58) (R := slices_Clone_api_Op_api_Op.R κ S x0 (some p_x0) c_x0 r) (.slice A_8 ((([] : List Tapi_Op) ++ x0).length) c_9) hs rfl (by kernel_rfl) (by obtain rfl := Option.some.inj hm; exact ⟨A_8, c_9, rfl, hs.own⟩)


abbrev slices_Clone_api_Span_api_Span.R (κ : Ctx) (S : List HP) (x0 : List Tapi_Span) (A_x0 : Option Addr) (c_x0 : Nat) (r : List Tapi_Span) : Ending → World → Prop := fun e w' => ∃ (A_r0 : Option Addr), ∃ (c_r0 : Nat), e = .returned (.slice A_r0 r.length c_r0) ∧ Ow κ w' (rowp A_r0 c_r0 106 3 Tapi_Span.cells r :: S)
def slices_Clone_api_Span_api_Span.m (k : Nat) (x0 : List Tapi_Span) : Option (List Tapi_Span) := (if (([] : List Tapi_Span).length + x0.length) * 24 ≤ 140737488355328 then some (([] : List Tapi_Span) ++ x0) else none)

set_option maxRecDepth 100000 in
set_option maxHeartbeats 4000000 in
theorem slices_Clone_api_Span_api_Span.ok (k : Nat) (x0 : List Tapi_Span) (r : List Tapi_Span) (hm : slices_Clone_api_Span_api_Span.m k x0 = some r) (κ : Ctx) (w : World) (S : List HP) (A_x0 : Option Addr) (c_x0 : Nat) (hx_x0 : Sl κ S A_x0 c_x0 3 Tapi_Span.cells x0) (ho : Ow κ w (S)) :
  Calls Tryz.prog 59 #[.slice A_x0 x0.length c_x0] w (slices_Clone_api_Span_api_Span.R κ S x0 A_x0 c_x0 r) := by
 unfold slices_Clone_api_Span_api_Span.m at hm
 rcases A_x0 with _ | p_x0
 ·obtain rfl : c_x0 = 0 := hx_x0.none rfl
  obtain rfl : x0 = [] := List.length_eq_zero_iff.1 (Nat.le_zero.1 hx_x0.le)
  replace hm : some ([] : List Tapi_Span) = some r := by simpa using hm
  refine Vk.enter [(0, .slice none 0 0)] Tryz.func59 rfl Tryz.ntmps59 (by kernel_rfl) (Nat.le_of_ble_eq_true (by kernel_rfl)) ho fun a hs => ?_
  refine Vk.seq fun K1 hK1 => ?_
  refine Vk.region ?_
  refine Vk.pures 1 [(2, .slice none 0 0)] hs (by kernel_rfl) fun a hs => ?_
  replace hs := hs.pick [0] (L' := [(0, .slice none 0 0)]) (by kernel_rfl)
  refine Vk.done (by kernel_rfl) ?_
  refine hK1 _ _ ?_
  clear hK1
  refine Vk.seq fun K2 hK2 => ?_
  refine Vk.seq fun K3 hK3 => ?_
  refine Vk.region ?_
  refine Vk.pures 2 [(4, .bool true), (3, .slice none 0 0)] hs (by kernel_rfl) fun a hs => ?_
  replace hs := hs.pick [0, 4] (L' := [(0, .slice none 0 0), (4, .bool true)]) (by kernel_rfl)
  refine Vk.done (by kernel_rfl) ?_
  refine hK3 _ _ ?_
  clear hK3
  refine Vk.condT hs (by kernel_rfl) (by kernel_rfl) ?_
  refine Vk.seq fun K4 hK4 => ?_
  refine Vk.region ?_
  refine Vk.pures 1 [(2, .slice none 0 0)] hs (by kernel_rfl) fun a hs => ?_
  replace hs := hs.pick [2] (L' := [(2, .slice none 0 0)]) (by kernel_rfl)
  refine Vk.done (by kernel_rfl) ?_
  refine hK4 _ _ ?_
  clear hK4
  refine wp_ret ?_
  replace hs := hs.addRow none 106 3 Tapi_Span.cells
  exact Vk.ret1 (P := Tryz.prog) (fn := Tryz.f59) (R := slices_Clone_api_Span_api_Span.R κ S [] none 0 r) (.slice none (([] : List Tapi_Span).length) 0) hs rfl (by kernel_rfl) (by obtain rfl := Option.some.inj hm; exact ⟨none, 0, rfl, hs.own⟩)
 ·skip
  refine Vk.enter [(0, .slice (some p_x0) x0.length c_x0)] Tryz.func59 rfl Tryz.ntmps59 (by kernel_rfl) (Nat.le_of_ble_eq_true (by kernel_rfl)) ho fun a hs => ?_
  refine Vk.seq fun K1 hK1 => ?_
  refine Vk.region ?_
  refine Vk.pures 1 [(2, .slice none 0 0)] hs (by kernel_rfl) fun a hs => ?_
  replace hs := hs.pick [0] (L' := [(0, .slice (some p_x0) x0.length c_x0)]) (by kernel_rfl)
  refine Vk.done (by kernel_rfl) ?_
  refine hK1 _ _ ?_
  clear hK1
  refine Vk.seq fun K2 hK2 => ?_
  refine Vk.seq fun K3 hK3 => ?_
  refine Vk.region ?_
  refine Vk.pures 2 [(4, .bool false), (3, .slice (some p_x0) x0.length c_x0)] hs (by kernel_rfl) fun a hs => ?_
  replace hs := hs.pick [0, 4] (L' := [(0, .slice (some p_x0) x0.length c_x0), (4, .bool false)]) (by kernel_rfl)
  refine Vk.done (by kernel_rfl) ?_
  refine hK3 _ _ ?_
  clear hK3
  refine Vk.condF hs (by kernel_rfl) (by kernel_rfl) ?_
  refine wp_skip ?_
  refine hK2 _ _ ?_
  clear hK2
  refine Vk.seq fun K4 hK4 => ?_
  refine Vk.region ?_
  refine Vk.step (Vk.buildOp (sz := 3) (by_ := 24) (t := 23) (e := 106) (parts := #[]) (zs := vals [C.int .i64 0, C.int .i64 0, C.int .i64 0]) ([] : List Tapi_Span) Tapi_Span.cells (some 5) hs (by kernel_rfl) (by kernel_rfl) (by kernel_rfl) (by kernel_rfl) (by decide) rfl (fun x _ => rfl) (Nat.le_of_ble_eq_true (by kernel_rfl)) (by kernel_rfl) fun A_5 w a hs => ?_)
  refine Vk.pures 1 [(6, .slice (some p_x0) x0.length c_x0)] hs (by kernel_rfl) fun a hs => ?_
  obtain ⟨h_7, hm⟩ := ite_t hm
  refine Vk.step (Vk.appendOp (x := (.tmp 5)) (y := (.tmp 6)) (e := 106) (t := 23) (by_ := 24) (sz := 3) (enc := Tapi_Span.cells) (A := A_5) (cap := 0) (xs := ([] : List Tapi_Span)) (ys := x0) (B := (some p_x0)) (c2 := c_x0) 0 (some 7) hs (by kernel_rfl) (by kernel_rfl) (by kernel_rfl) (by kernel_rfl) rfl hx_x0.less (by kernel_rfl) (by kernel_rfl) (by decide) (by decide) h_7 fun A_8 c_9 w a hs => ?_)
  refine Vk.pures 1 [(2, .slice A_8 ((([] : List Tapi_Span) ++ x0).length) c_9)] hs (by kernel_rfl) fun a hs => ?_
  replace hs := hs.pick [2] (L' := [(2, .slice A_8 ((([] : List Tapi_Span) ++ x0).length) c_9)]) (by kernel_rfl)
  refine Vk.done (by kernel_rfl) ?_
  refine hK4 _ _ ?_
  clear hK4
  refine wp_ret ?_
  exact Vk.ret1 (P := Tryz.prog) (fn := Tryz.f59) (R := slices_Clone_api_Span_api_Span.R κ S x0 (some p_x0) c_x0 r) (.slice A_8 ((([] : List Tapi_Span) ++ x0).length) c_9) hs rfl (by kernel_rfl) (by obtain rfl := Option.some.inj hm; exact ⟨A_8, c_9, rfl, hs.own⟩)

structure Tapi_Trace where
 n : Int
 ops : List Tapi_Op
 blocks : List Tapi_Span
 deriving Inhabited
def Tapi_Trace.obj (x : Tapi_Trace) (Aops : Option Addr) (cops : Nat) (Ablocks : Option Addr) (cblocks : Nat) : Cells := [C.int .i64 x.n, C.slc Aops x.ops.length cops, C.slc Ablocks x.blocks.length cblocks]

abbrev wire_Machine_Trace.R (κ : Ctx) (S : List HP) (x0 : Twire_Machine) (b_x0 : Nat) (g_x0 : Nat × Option Addr × Nat × Option Addr × Nat × Option Addr × Nat) (r : Tapi_Trace) : Ending → World → Prop := fun e w' => ∃ (A_r0ops : Option Addr), ∃ (c_r0ops : Nat), ∃ (A_r0blocks : Option Addr), ∃ (c_r0blocks : Nat), e = .returned (.agg (vals [ci r.n, C.slc A_r0ops r.ops.length c_r0ops, C.slc A_r0blocks r.blocks.length c_r0blocks])) ∧ Ow κ w' (rowp A_r0ops c_r0ops 80 6 Tapi_Op.cells r.ops :: rowp A_r0blocks c_r0blocks 106 3 Tapi_Span.cells r.blocks :: bagL (Twire_Machine.parts b_x0 x0 g_x0) :: S)
def wire_Machine_Trace.m (k : Nat) (x0 : Twire_Machine) : Option Tapi_Trace := (slices_Clone_api_Op_api_Op.m k x0.ops).bind fun v_12 => (slices_Clone_api_Span_api_Span.m k x0.blocks).bind fun v_17 => some (⟨x0.n, v_12, v_17⟩ : Tapi_Trace)

set_option maxRecDepth 100000 in
set_option maxHeartbeats 4000000 in
theorem wire_Machine_Trace.ok (k : Nat) (x0 : Twire_Machine) (r : Tapi_Trace) (hm : wire_Machine_Trace.m k x0 = some r) (κ : Ctx) (w : World) (S : List HP) (b_x0 : Nat) (g_x0 : Nat × Option Addr × Nat × Option Addr × Nat × Option Addr × Nat) (ho : Ow κ w (bagL (Twire_Machine.parts b_x0 x0 g_x0) :: S)) :
  Calls Tryz.prog 24 #[pp b_x0] w (wire_Machine_Trace.R κ S x0 b_x0 g_x0 r) := by
 unfold wire_Machine_Trace.m at hm
 generalize hRR : wire_Machine_Trace.R κ S x0 b_x0 g_x0 r = RR
 refine qen [(0, pp b_x0)] Tryz.func24 Tryz.ntmps24 ho fun a hs => ?_
 refine qsr fun K1 hK1 => ?_
 refine qal 25 [ci 0, C.slc none 0 0, C.slc none 0 0] 2 hs fun b_2 w a hs => ?_
 refine qpe 0 [(0, pp b_x0), (2, pp b_2)] hs fun a hs => hK1 _ _ ?_
 clear hK1
 refine Vk.seq fun K3 hK3 => ?_
 refine qsk 2 [0, 2, 4] hs fun a hs => ?_
 refine qcf hs ?_
 refine wp_skip ?_
 refine hK3 _ _ ?_
 clear hK3
 refine Vk.seq fun K5 hK5 => ?_
 replace hs := hs.unbagAt 1 rfl
 obtain ⟨C_9, hC_9⟩ := qC hs.own
 refine qdr 15 κ C_9 hs fun w hs hqC_9 => ?_
 have hcl := qO hC_9 hs.own
 refine qdp (fuel := 7) [0, 1, 2, 4, 5, 6, 9, 10, 11] hs hcl hqC_9 fun a hs => ?_
 refine qdl 3 0 (ci x0.n) hs hcl hqC_9 hC_9 rfl fun a hs => ?_
 refine qdl 7 0 (C.slc g_x0.2.1 x0.ops.length g_x0.2.2.1) hs hcl hqC_9 hC_9 rfl fun a hs => ?_
 refine qdl 12 0 (C.slc g_x0.2.2.2.2.2.1 x0.blocks.length g_x0.2.2.2.2.2.2) hs hcl hqC_9 hC_9 rfl fun a hs => ?_
 obtain ⟨v_12, h_11, hm⟩ := bind_t hm
 refine Vk.dOnly (i := 8) (by kernel_rfl) (Vk.call (some 14) 58 #[.slice g_x0.2.1 x0.ops.length g_x0.2.2.1] hs (by kernel_rfl) (by kernel_rfl) (by kernel_rfl) ?_)
 refine (slices_Clone_api_Op_api_Op.ok k x0.ops v_12 h_11 κ w (pt b_x0 (blk (Twire_Machine.obj x0 g_x0.1 g_x0.2.1 g_x0.2.2.1 g_x0.2.2.2.1 g_x0.2.2.2.2.1 g_x0.2.2.2.2.2.1 g_x0.2.2.2.2.2.2) 102) :: opto x0.dry (Ttape_Tape.own g_x0.1 x0.tape) :: rowp g_x0.2.1 g_x0.2.2.1 80 6 Tapi_Op.cells x0.ops :: rowp g_x0.2.2.2.1 g_x0.2.2.2.2.1 34 1 (eI .u64) x0.values :: rowp g_x0.2.2.2.2.2.1 g_x0.2.2.2.2.2.2 106 3 Tapi_Span.cells x0.blocks :: pt b_2 (blk [ci 0, C.slc none 0 0, C.slc none 0 0] 25) :: S) g_x0.2.1 g_x0.2.2.1 (Sl.lift (fun w ho => (Ow.to (S' := rowp g_x0.2.1 g_x0.2.2.1 80 6 Tapi_Op.cells x0.ops :: S) ho [2] 6 (by kernel_rfl) (by kernel_rfl))) (Ow.rowSl 0 (Ow.to (S' := rowp g_x0.2.1 g_x0.2.2.1 80 6 Tapi_Op.cells x0.ops :: S) hs.own [2] 6 (by kernel_rfl) (by kernel_rfl)) rfl)) hs.own).mono ?_
 rintro _ w ⟨Ar10x0_13, cr10x0_14, rfl, how⟩
 refine ⟨_, _, _, rfl, how, fun a hs => ?_⟩
 replace hcl := qO hC_9 hs.own.drop
 refine ⟨fun _ => hcl, ?_⟩
 obtain ⟨v_17, h_16, hm⟩ := bind_t hm
 refine Vk.dOnly (i := 13) (by kernel_rfl) (Vk.call (some 19) 59 #[.slice g_x0.2.2.2.2.2.1 x0.blocks.length g_x0.2.2.2.2.2.2] hs (by kernel_rfl) (by kernel_rfl) (by kernel_rfl) ?_)
 refine (slices_Clone_api_Span_api_Span.ok k x0.blocks v_17 h_16 κ w (rowp Ar10x0_13 cr10x0_14 80 6 Tapi_Op.cells v_12 :: pt b_x0 (blk (Twire_Machine.obj x0 g_x0.1 g_x0.2.1 g_x0.2.2.1 g_x0.2.2.2.1 g_x0.2.2.2.2.1 g_x0.2.2.2.2.2.1 g_x0.2.2.2.2.2.2) 102) :: opto x0.dry (Ttape_Tape.own g_x0.1 x0.tape) :: rowp g_x0.2.1 g_x0.2.2.1 80 6 Tapi_Op.cells x0.ops :: rowp g_x0.2.2.2.1 g_x0.2.2.2.2.1 34 1 (eI .u64) x0.values :: rowp g_x0.2.2.2.2.2.1 g_x0.2.2.2.2.2.2 106 3 Tapi_Span.cells x0.blocks :: pt b_2 (blk [ci 0, C.slc none 0 0, C.slc none 0 0] 25) :: S) g_x0.2.2.2.2.2.1 g_x0.2.2.2.2.2.2 (Sl.lift (fun w ho => (Ow.to (S' := rowp g_x0.2.2.2.2.2.1 g_x0.2.2.2.2.2.2 106 3 Tapi_Span.cells x0.blocks :: S) ho [5] 7 (by kernel_rfl) (by kernel_rfl))) (Ow.rowSl 0 (Ow.to (S' := rowp g_x0.2.2.2.2.2.1 g_x0.2.2.2.2.2.2 106 3 Tapi_Span.cells x0.blocks :: S) hs.own [5] 7 (by kernel_rfl) (by kernel_rfl)) rfl)) hs.own).mono ?_
 rintro _ w ⟨Ar15x0_18, cr15x0_19, rfl, how⟩
 refine ⟨_, _, _, rfl, how, fun a hs => ?_⟩
 replace hcl := qO hC_9 hs.own.f1.drop.drop
 refine ⟨fun _ => hcl, ?_⟩
 refine qdp (fuel := 1) [14] hs hcl hqC_9 fun a hs => ?_
 refine qsA 15 7 [ci x0.n, C.slc Ar10x0_13 v_12.length cr10x0_14, C.slc Ar15x0_18 v_17.length cr15x0_19] hs rfl rfl rfl fun a w hs => ?_
 refine ⟨fun h => absurd h (by decide), ?_⟩
 replace hs := hs.pick [2] (L' := [(2, pp b_2)]) (by kernel_rfl)
 refine Vk.dDone (by kernel_rfl) ?_
 refine hK5 _ _ ?_
 clear hK5
 refine wp_ret ?_
 replace hs := hs.bagG (l := Twire_Machine.parts b_x0 x0 g_x0) (S' := rowp Ar15x0_18 cr15x0_19 106 3 Tapi_Span.cells v_17 :: rowp Ar10x0_13 cr10x0_14 80 6 Tapi_Op.cells v_12 :: pt b_2 (blk [ci x0.n, C.slc Ar10x0_13 v_12.length cr10x0_14, C.slc Ar15x0_18 v_17.length cr15x0_19] 25) :: S) hs.own.f6.f6.f6.f6.f6
 exact Vk.retC [ci x0.n, C.slc Ar10x0_13 v_12.length cr10x0_14, C.slc Ar15x0_18 v_17.length cr15x0_19] hs rfl (by kernel_rfl) (sz := 3) (by kernel_rfl) rfl (CellsAt.all 3 rfl) (hRR ▸ by cases hm; exact ⟨Ar10x0_13, cr10x0_14, Ar15x0_18, cr15x0_19, rfl, hs.own.f3.drop.f1.f2⟩)


def trace_ordered.l1 (x0 : Tapi_Trace) : Nat → Int → Int → Option (Sum (Bool) (Unit))
 | 0, _, _ => none
 | k + 1, q_7, q_8 => (bif decide (q_8 < ((x0.blocks.length : Nat) : Int)) then (if 0 ≤ q_8 then (x0.blocks[q_8.toNat]?).bind fun e_16 => (bif ((((decide (e_16.kind < 1)) || (decide (e_16.kind > 3))) || (decide (e_16.fromF < q_7))) || (decide (e_16.fromF ≥ e_16.to))) || (decide (e_16.to > ((x0.ops.length : Nat) : Int))) then some (.inl false) else trace_ordered.l1 x0 k e_16.to (IntKind.i64.wrap (q_8 + 1))) else none) else some (.inr ()))
abbrev trace_ordered.R (κ : Ctx) (S : List HP) (x0 : Tapi_Trace) (A_x0ops : Option Addr) (c_x0ops : Nat) (A_x0blocks : Option Addr) (c_x0blocks : Nat) (r : Bool) : Ending → World → Prop := fun e w' => e = .returned (.bool r) ∧ Ow κ w' (S)
def trace_ordered.m (k : Nat) (x0 : Tapi_Trace) : Option Bool := (trace_ordered.l1 x0 k 0 0).bind fun x => match x with | .inl v => some v | .inr () => some true

set_option maxRecDepth 100000 in
set_option maxHeartbeats 4000000 in
theorem trace_ordered.ok (k : Nat) (x0 : Tapi_Trace) (r : Bool) (hm : trace_ordered.m k x0 = some r) (κ : Ctx) (w : World) (S : List HP) (A_x0ops : Option Addr) (c_x0ops : Nat) (hx_x0ops : Sl κ S A_x0ops c_x0ops 6 Tapi_Op.cells x0.ops) (A_x0blocks : Option Addr) (c_x0blocks : Nat) (hx_x0blocks : Sl κ S A_x0blocks c_x0blocks 3 Tapi_Span.cells x0.blocks) (ho : Ow κ w (S)) :
  Calls Tryz.prog 95 #[.agg (vals [ci x0.n, C.slc A_x0ops x0.ops.length c_x0ops, C.slc A_x0blocks x0.blocks.length c_x0blocks])] w (trace_ordered.R κ S x0 A_x0ops c_x0ops A_x0blocks c_x0blocks r) := by
 unfold trace_ordered.m at hm
 generalize hRR : trace_ordered.R κ S x0 A_x0ops c_x0ops A_x0blocks c_x0blocks r = RR
 refine qen [(0, .agg (vals [ci x0.n, C.slc A_x0ops x0.ops.length c_x0ops, C.slc A_x0blocks x0.blocks.length c_x0blocks]))] Tryz.func95 Tryz.ntmps95 ho fun a hs => ?_
 refine qsr fun K1 hK1 => ?_
 refine qbx 0 25 [ci x0.n, C.slc A_x0ops x0.ops.length c_x0ops, C.slc A_x0blocks x0.blocks.length c_x0blocks] 1 hs fun b_2 w a hs => ?_
 refine qpe 1 [(1, pp b_2)] hs fun a hs => hK1 _ _ ?_
 clear hK1
 refine qse 1 [(1, pp b_2), (3, vi 0)] hs fun a hs => ?_
 refine Vk.seq fun K4 hK4 => ?_
 refine qsr fun K5 hK5 => ?_
 refine qpu 1 hs fun a hs => ?_
 refine qld 0 (C.slc A_x0blocks x0.blocks.length c_x0blocks) hs rfl fun a hs => ?_
 refine qpk 2 [1, 3, 7, 8, 9] hs fun a hs => hK5 _ _ ?_
 clear hK5
 refine wp_block ?_
 obtain ⟨r6, hl6, hm⟩ := bind_t hm
 have hx6 : r6 = Sum.inr () → ∀ (a : Act) (w : World), St 45 a w κ [] (S) → K4 a w := by
  intro he a w hs
  subst r6
  refine hK4 _ _ ?_
  clear hK4
  refine qse 1 [(2, .bool true)] hs fun a hs => ?_
  refine wp_ret ?_
  exact qr1 (.bool true) hs rfl hRR (by cases hm; exact ⟨rfl, hs.own⟩)
 have hret6 : ∀ v, r6 = Sum.inl v → v = r := by intro v he; subst r6; exact Option.some.inj hm
 refine Vk.loopBy (fun k (s : Int × Int) a w => trace_ordered.l1 x0 k s.1 s.2 = some r6 ∧ St 45 a w κ [(1, pp b_2), (3, vi s.1), (7, .slice A_x0blocks x0.blocks.length c_x0blocks), (8, vi ((x0.blocks.length : Nat) : Int)), (9, vi s.2)] (pt b_2 (blk (Tapi_Trace.obj x0 A_x0ops c_x0ops A_x0blocks c_x0blocks) 25) :: S)) k (0, 0) ⟨hl6, hs.go [1, 3, 7, 8, 9] [0] 1 (by kernel_rfl) (by kernel_rfl) (by kernel_rfl)⟩ (fun s a w h => by obtain ⟨h1, _⟩ := h; simp [trace_ordered.l1] at h1) (fun k KL6 ih s a w h => ?_)
 obtain ⟨q_7, q_8⟩ := s
 obtain ⟨hm, hs⟩ := h
 try dsimp only at hm hs
 rw [trace_ordered.l1] at hm
 refine qsk 1 [1, 3, 7, 8, 9, 10] hs fun a hs => ?_
 refine Vk.seq fun K10 hK10 => ?_
 refine qcs (decide (q_8 < ((x0.blocks.length : Nat) : Int))) hs (fun hb => ?_) fun hb => ?_
 ·replace hm := bif_t hm hb
  refine wp_skip ?_
  refine hK10 _ _ ?_
  clear hK10
  refine Vk.seq fun K11 hK11 => ?_
  refine wp_block ?_
  refine qsr fun K12 hK12 => ?_
  obtain ⟨h_13, hm⟩ := ite_t hm
  obtain ⟨e_16, h_14, hm⟩ := bind_t hm
  obtain ⟨b_17, o_18, hA_19, h_15⟩ := Sl.elem hx_x0blocks h_14
  refine qva (.pointer (some ⟨b_17, o_18 + q_8.toNat * 3, none⟩)) (op := (.indexAddr 23 (.tmp 7) (.tmp 9))) hs (fun o ho => run_idxSlc (k := .i64) ho (cap := c_x0blocks) (len := x0.blocks.length) ((congrArg (fun A => Value.slice A (x0.blocks.length) (c_x0blocks)) hA_19) ▸ (by kernel_rfl)) (by kernel_rfl) (by kernel_rfl) (idx_ok h_13 h_14) _) fun a hs => ?_
  refine qva (.agg (vals [ci e_16.kind, ci e_16.fromF, ci e_16.to])) (op := (.load 106 (.tmp 11))) hs (fun o ho => run_loadN (cs := [ci e_16.kind, ci e_16.fromF, ci e_16.to]) ho (by kernel_rfl) (by kernel_rfl) rfl h_15 _ hs.own.drop) fun a hs => ?_
  refine qal 106 [ci 0, ci 0, ci 0] 5 hs fun b_20 w a hs => ?_
  refine qsa 0 [ci e_16.kind, ci e_16.fromF, ci e_16.to] hs rfl fun a w hs => ?_
  refine qpe 0 [(1, pp b_2), (3, vi q_7), (5, pp b_20), (7, .slice A_x0blocks x0.blocks.length c_x0blocks), (8, vi ((x0.blocks.length : Nat) : Int)), (9, vi q_8)] hs fun a hs => hK12 _ _ ?_
  clear hK12
  refine Vk.seq fun K21 hK21 => ?_
  refine qsr fun K22 hK22 => ?_
  refine qpu 1 hs fun a hs => ?_
  refine qld 0 (ci e_16.kind) hs rfl fun a hs => ?_
  refine qpu 2 hs fun a hs => ?_
  suffices hj_23 : ∀ a, St 45 a w κ [(1, pp b_2), (3, vi q_7), (5, pp b_20), (7, .slice A_x0blocks x0.blocks.length c_x0blocks), (8, vi ((x0.blocks.length : Nat) : Int)), (9, vi q_8), (13, pp b_20), (14, vi e_16.kind), (15, .bool (decide (e_16.kind < 1))), (16, .bool (decide (e_16.kind < 1))), (20, .bool ((decide (e_16.kind < 1)) || (decide (e_16.kind > 3))))] (pt b_20 (blk (Tapi_Span.cells e_16) 106) :: pt b_2 (blk (Tapi_Trace.obj x0 A_x0ops c_x0ops A_x0blocks c_x0blocks) 25) :: S) → wpFrom Tryz.prog _ _ 8 a w by
   rcases Bool.eq_false_or_eq_true (decide (e_16.kind < 1)) with hb | hb
   ·replace hs := hs.known (t := 16) hb (by kernel_rfl)
    refine qpu 4 hs fun a hs => ?_
    have hq := hs.pick [1, 3, 5, 7, 8, 9, 13, 14, 15, 16, 20] (L' := [(1, pp b_2), (3, vi q_7), (5, pp b_20), (7, .slice A_x0blocks x0.blocks.length c_x0blocks), (8, vi ((x0.blocks.length : Nat) : Int)), (9, vi q_8), (13, pp b_20), (14, vi e_16.kind), (15, .bool (decide (e_16.kind < 1))), (16, .bool true), (20, .bool true)]) (by kernel_rfl)
    exact hj_23 _ (hq.conv (by first | (rw [hb] <;> rfl) | rfl))
   ·replace hs := hs.known (t := 16) hb (by kernel_rfl)
    refine qpu 1 hs fun a hs => ?_
    refine qld 0 (ci e_16.kind) hs rfl fun a hs => ?_
    refine qpu 2 hs fun a hs => ?_
    have hq := hs.pick [1, 3, 5, 7, 8, 9, 13, 14, 15, 16, 20] (L' := [(1, pp b_2), (3, vi q_7), (5, pp b_20), (7, .slice A_x0blocks x0.blocks.length c_x0blocks), (8, vi ((x0.blocks.length : Nat) : Int)), (9, vi q_8), (13, pp b_20), (14, vi e_16.kind), (15, .bool (decide (e_16.kind < 1))), (16, .bool false), (20, .bool (decide (e_16.kind > 3)))]) (by kernel_rfl)
    exact hj_23 _ (hq.conv (by first | (rw [hb] <;> rfl) | rfl))
  intro a hs
  refine qpu 1 hs fun a hs => ?_
  suffices hj_24 : ∀ a, St 45 a w κ [(1, pp b_2), (3, vi q_7), (5, pp b_20), (7, .slice A_x0blocks x0.blocks.length c_x0blocks), (8, vi ((x0.blocks.length : Nat) : Int)), (9, vi q_8), (13, pp b_20), (14, vi e_16.kind), (15, .bool (decide (e_16.kind < 1))), (16, .bool (decide (e_16.kind < 1))), (20, .bool ((decide (e_16.kind < 1)) || (decide (e_16.kind > 3)))), (21, .bool ((decide (e_16.kind < 1)) || (decide (e_16.kind > 3)))), (26, .bool (((decide (e_16.kind < 1)) || (decide (e_16.kind > 3))) || (decide (e_16.fromF < q_7))))] (pt b_20 (blk (Tapi_Span.cells e_16) 106) :: pt b_2 (blk (Tapi_Trace.obj x0 A_x0ops c_x0ops A_x0blocks c_x0blocks) 25) :: S) → wpFrom Tryz.prog _ _ 14 a w by
   rcases Bool.eq_false_or_eq_true ((decide (e_16.kind < 1)) || (decide (e_16.kind > 3))) with hb | hb
   ·replace hs := hs.known (t := 21) hb (by kernel_rfl)
    refine qpu 5 hs fun a hs => ?_
    have hq := hs.pick [1, 3, 5, 7, 8, 9, 13, 14, 15, 16, 20, 21, 26] (L' := [(1, pp b_2), (3, vi q_7), (5, pp b_20), (7, .slice A_x0blocks x0.blocks.length c_x0blocks), (8, vi ((x0.blocks.length : Nat) : Int)), (9, vi q_8), (13, pp b_20), (14, vi e_16.kind), (15, .bool (decide (e_16.kind < 1))), (16, .bool (decide (e_16.kind < 1))), (20, .bool ((decide (e_16.kind < 1)) || (decide (e_16.kind > 3)))), (21, .bool true), (26, .bool true)]) (by kernel_rfl)
    exact hj_24 _ (hq.conv (by first | (rw [hb] <;> rfl) | rfl))
   ·replace hs := hs.known (t := 21) hb (by kernel_rfl)
    refine qpu 1 hs fun a hs => ?_
    refine qld 0 (ci e_16.fromF) hs rfl fun a hs => ?_
    refine qpu 3 hs fun a hs => ?_
    have hq := hs.pick [1, 3, 5, 7, 8, 9, 13, 14, 15, 16, 20, 21, 26] (L' := [(1, pp b_2), (3, vi q_7), (5, pp b_20), (7, .slice A_x0blocks x0.blocks.length c_x0blocks), (8, vi ((x0.blocks.length : Nat) : Int)), (9, vi q_8), (13, pp b_20), (14, vi e_16.kind), (15, .bool (decide (e_16.kind < 1))), (16, .bool (decide (e_16.kind < 1))), (20, .bool ((decide (e_16.kind < 1)) || (decide (e_16.kind > 3)))), (21, .bool false), (26, .bool (decide (e_16.fromF < q_7)))]) (by kernel_rfl)
    exact hj_24 _ (hq.conv (by first | (rw [hb] <;> rfl) | rfl))
  intro a hs
  refine qpu 1 hs fun a hs => ?_
  suffices hj_25 : ∀ a, St 45 a w κ [(1, pp b_2), (3, vi q_7), (5, pp b_20), (7, .slice A_x0blocks x0.blocks.length c_x0blocks), (8, vi ((x0.blocks.length : Nat) : Int)), (9, vi q_8), (13, pp b_20), (14, vi e_16.kind), (15, .bool (decide (e_16.kind < 1))), (16, .bool (decide (e_16.kind < 1))), (20, .bool ((decide (e_16.kind < 1)) || (decide (e_16.kind > 3)))), (21, .bool ((decide (e_16.kind < 1)) || (decide (e_16.kind > 3)))), (26, .bool (((decide (e_16.kind < 1)) || (decide (e_16.kind > 3))) || (decide (e_16.fromF < q_7)))), (27, .bool (((decide (e_16.kind < 1)) || (decide (e_16.kind > 3))) || (decide (e_16.fromF < q_7)))), (33, .bool ((((decide (e_16.kind < 1)) || (decide (e_16.kind > 3))) || (decide (e_16.fromF < q_7))) || (decide (e_16.fromF ≥ e_16.to))))] (pt b_20 (blk (Tapi_Span.cells e_16) 106) :: pt b_2 (blk (Tapi_Trace.obj x0 A_x0ops c_x0ops A_x0blocks c_x0blocks) 25) :: S) → wpFrom Tryz.prog _ _ 21 a w by
   rcases Bool.eq_false_or_eq_true (((decide (e_16.kind < 1)) || (decide (e_16.kind > 3))) || (decide (e_16.fromF < q_7))) with hb | hb
   ·replace hs := hs.known (t := 27) hb (by kernel_rfl)
    refine qpu 6 hs fun a hs => ?_
    have hq := hs.pick [1, 3, 5, 7, 8, 9, 13, 14, 15, 16, 20, 21, 26, 27, 33] (L' := [(1, pp b_2), (3, vi q_7), (5, pp b_20), (7, .slice A_x0blocks x0.blocks.length c_x0blocks), (8, vi ((x0.blocks.length : Nat) : Int)), (9, vi q_8), (13, pp b_20), (14, vi e_16.kind), (15, .bool (decide (e_16.kind < 1))), (16, .bool (decide (e_16.kind < 1))), (20, .bool ((decide (e_16.kind < 1)) || (decide (e_16.kind > 3)))), (21, .bool ((decide (e_16.kind < 1)) || (decide (e_16.kind > 3)))), (26, .bool (((decide (e_16.kind < 1)) || (decide (e_16.kind > 3))) || (decide (e_16.fromF < q_7)))), (27, .bool true), (33, .bool true)]) (by kernel_rfl)
    exact hj_25 _ (hq.conv (by first | (rw [hb] <;> rfl) | rfl))
   ·replace hs := hs.known (t := 27) hb (by kernel_rfl)
    refine qpu 1 hs fun a hs => ?_
    refine qld 0 (ci e_16.fromF) hs rfl fun a hs => ?_
    refine qpu 1 hs fun a hs => ?_
    refine qld 0 (ci e_16.to) hs rfl fun a hs => ?_
    refine qpu 2 hs fun a hs => ?_
    have hq := hs.pick [1, 3, 5, 7, 8, 9, 13, 14, 15, 16, 20, 21, 26, 27, 33] (L' := [(1, pp b_2), (3, vi q_7), (5, pp b_20), (7, .slice A_x0blocks x0.blocks.length c_x0blocks), (8, vi ((x0.blocks.length : Nat) : Int)), (9, vi q_8), (13, pp b_20), (14, vi e_16.kind), (15, .bool (decide (e_16.kind < 1))), (16, .bool (decide (e_16.kind < 1))), (20, .bool ((decide (e_16.kind < 1)) || (decide (e_16.kind > 3)))), (21, .bool ((decide (e_16.kind < 1)) || (decide (e_16.kind > 3)))), (26, .bool (((decide (e_16.kind < 1)) || (decide (e_16.kind > 3))) || (decide (e_16.fromF < q_7)))), (27, .bool false), (33, .bool (decide (e_16.fromF ≥ e_16.to)))]) (by kernel_rfl)
    exact hj_25 _ (hq.conv (by first | (rw [hb] <;> rfl) | rfl))
  intro a hs
  refine qpu 1 hs fun a hs => ?_
  suffices hj_26 : ∀ a, St 45 a w κ [(1, pp b_2), (3, vi q_7), (5, pp b_20), (7, .slice A_x0blocks x0.blocks.length c_x0blocks), (8, vi ((x0.blocks.length : Nat) : Int)), (9, vi q_8), (13, pp b_20), (14, vi e_16.kind), (15, .bool (decide (e_16.kind < 1))), (16, .bool (decide (e_16.kind < 1))), (20, .bool ((decide (e_16.kind < 1)) || (decide (e_16.kind > 3)))), (21, .bool ((decide (e_16.kind < 1)) || (decide (e_16.kind > 3)))), (26, .bool (((decide (e_16.kind < 1)) || (decide (e_16.kind > 3))) || (decide (e_16.fromF < q_7)))), (27, .bool (((decide (e_16.kind < 1)) || (decide (e_16.kind > 3))) || (decide (e_16.fromF < q_7)))), (33, .bool ((((decide (e_16.kind < 1)) || (decide (e_16.kind > 3))) || (decide (e_16.fromF < q_7))) || (decide (e_16.fromF ≥ e_16.to)))), (34, .bool ((((decide (e_16.kind < 1)) || (decide (e_16.kind > 3))) || (decide (e_16.fromF < q_7))) || (decide (e_16.fromF ≥ e_16.to)))), (41, .bool (((((decide (e_16.kind < 1)) || (decide (e_16.kind > 3))) || (decide (e_16.fromF < q_7))) || (decide (e_16.fromF ≥ e_16.to))) || (decide (e_16.to > ((x0.ops.length : Nat) : Int)))))] (pt b_20 (blk (Tapi_Span.cells e_16) 106) :: pt b_2 (blk (Tapi_Trace.obj x0 A_x0ops c_x0ops A_x0blocks c_x0blocks) 25) :: S) → wpFrom Tryz.prog _ _ 29 a w by
   rcases Bool.eq_false_or_eq_true ((((decide (e_16.kind < 1)) || (decide (e_16.kind > 3))) || (decide (e_16.fromF < q_7))) || (decide (e_16.fromF ≥ e_16.to))) with hb | hb
   ·replace hs := hs.known (t := 34) hb (by kernel_rfl)
    refine qpu 7 hs fun a hs => ?_
    have hq := hs.pick [1, 3, 5, 7, 8, 9, 13, 14, 15, 16, 20, 21, 26, 27, 33, 34, 41] (L' := [(1, pp b_2), (3, vi q_7), (5, pp b_20), (7, .slice A_x0blocks x0.blocks.length c_x0blocks), (8, vi ((x0.blocks.length : Nat) : Int)), (9, vi q_8), (13, pp b_20), (14, vi e_16.kind), (15, .bool (decide (e_16.kind < 1))), (16, .bool (decide (e_16.kind < 1))), (20, .bool ((decide (e_16.kind < 1)) || (decide (e_16.kind > 3)))), (21, .bool ((decide (e_16.kind < 1)) || (decide (e_16.kind > 3)))), (26, .bool (((decide (e_16.kind < 1)) || (decide (e_16.kind > 3))) || (decide (e_16.fromF < q_7)))), (27, .bool (((decide (e_16.kind < 1)) || (decide (e_16.kind > 3))) || (decide (e_16.fromF < q_7)))), (33, .bool ((((decide (e_16.kind < 1)) || (decide (e_16.kind > 3))) || (decide (e_16.fromF < q_7))) || (decide (e_16.fromF ≥ e_16.to)))), (34, .bool true), (41, .bool true)]) (by kernel_rfl)
    exact hj_26 _ (hq.conv (by first | (rw [hb] <;> rfl) | rfl))
   ·replace hs := hs.known (t := 34) hb (by kernel_rfl)
    refine qpu 1 hs fun a hs => ?_
    refine qld 0 (ci e_16.to) hs rfl fun a hs => ?_
    refine qpu 1 hs fun a hs => ?_
    refine qld 1 (C.slc A_x0ops x0.ops.length c_x0ops) hs rfl fun a hs => ?_
    refine qpu 3 hs fun a hs => ?_
    have hq := hs.pick [1, 3, 5, 7, 8, 9, 13, 14, 15, 16, 20, 21, 26, 27, 33, 34, 41] (L' := [(1, pp b_2), (3, vi q_7), (5, pp b_20), (7, .slice A_x0blocks x0.blocks.length c_x0blocks), (8, vi ((x0.blocks.length : Nat) : Int)), (9, vi q_8), (13, pp b_20), (14, vi e_16.kind), (15, .bool (decide (e_16.kind < 1))), (16, .bool (decide (e_16.kind < 1))), (20, .bool ((decide (e_16.kind < 1)) || (decide (e_16.kind > 3)))), (21, .bool ((decide (e_16.kind < 1)) || (decide (e_16.kind > 3)))), (26, .bool (((decide (e_16.kind < 1)) || (decide (e_16.kind > 3))) || (decide (e_16.fromF < q_7)))), (27, .bool (((decide (e_16.kind < 1)) || (decide (e_16.kind > 3))) || (decide (e_16.fromF < q_7)))), (33, .bool ((((decide (e_16.kind < 1)) || (decide (e_16.kind > 3))) || (decide (e_16.fromF < q_7))) || (decide (e_16.fromF ≥ e_16.to)))), (34, .bool false), (41, .bool (decide (e_16.to > ((x0.ops.length : Nat) : Int))))]) (by kernel_rfl)
    exact hj_26 _ (hq.conv (by first | (rw [hb] <;> rfl) | rfl))
  intro a hs
  refine qpk 0 [1, 5, 7, 8, 9, 41] hs fun a hs => hK22 _ _ ?_
  clear hK22
  refine qcs (((((decide (e_16.kind < 1)) || (decide (e_16.kind > 3))) || (decide (e_16.fromF < q_7))) || (decide (e_16.fromF ≥ e_16.to))) || (decide (e_16.to > ((x0.ops.length : Nat) : Int)))) hs (fun hb => ?_) fun hb => ?_
  ·replace hm := bif_t hm hb
   refine qse 1 [(2, .bool false)] hs fun a hs => ?_
   refine wp_ret ?_
   exact Vk.ret1 (P := Tryz.prog) (fn := Tryz.f95) (R := RR) (.bool false) hs rfl (by kernel_rfl) (by obtain rfl := hret6 _ ((Option.some.inj hm).symm); subst hRR; exact ⟨rfl, hs.own.f1.drop.drop⟩)
  ·replace hm := bif_f hm hb
   refine wp_skip ?_
   refine hK21 _ _ ?_
   clear hK21
   refine Vk.region ?_
   refine qpu 1 hs fun a hs => ?_
   refine qld 0 (ci e_16.to) hs rfl fun a hs => ?_
   refine qpk 1 [1, 3, 7, 8, 9] hs fun a hs => hK11 _ _ ?_
   clear hK11
   refine Vk.region ?_
   refine qpk 2 [1, 3, 7, 8, 9] hs fun a hs => ?_
   refine ih (e_16.to, (IntKind.i64.wrap (q_8 + 1))) _ _ ⟨hm, hs.go [1, 3, 7, 8, 9] [1] 2 (by kernel_rfl) (by kernel_rfl) (by kernel_rfl)⟩
 ·replace hm := bif_f hm hb
  refine wp_exit ?_
  exact hx6 (Option.some.inj hm).symm _ _ (hs.go [] [] 1 (by kernel_rfl) (by kernel_rfl) (by kernel_rfl))


def trace_Check.j2 (k : Nat) (rec15 : Int → Int → Option (Sum (Int) (Unit))) (q_17 : Int) (p_41 : Int) : Option (Sum (Int) (Unit)) := rec15 p_41 (IntKind.i64.wrap (q_17 + 1))
def trace_Check.l1 (x0 : Tapi_Trace) : Nat → Int → Int → Option (Sum (Int) (Unit))
 | 0, _, _ => none
 | k + 1, q_16, q_17 => (bif decide (q_17 < ((x0.ops.length : Nat) : Int)) then (if 0 ≤ q_17 then (x0.ops[q_17.toNat]?).bind fun e_25 => (op_Right.m k e_25 q_17 x0.n).bind fun v_34 => (bif !v_34 then some (.inl 4) else (bif e_25.kind != 2 then trace_Check.j2 k (trace_Check.l1 x0 k) q_17 q_16 else (bif e_25.c != q_16 then some (.inl 4) else trace_Check.j2 k (trace_Check.l1 x0 k) q_17 (IntKind.u64.wrap (q_16 + 1))))) else none) else some (.inr ()))
def trace_Check.j1 (k : Nat) (x0 : Tapi_Trace) (p_10 : Bool) : Option (Int) := (bif p_10 then some 4 else (trace_Check.l1 x0 k 0 0).bind fun x => match x with | .inl v => some v | .inr () => some 0)
abbrev trace_Check.R (κ : Ctx) (S : List HP) (x0 : Tapi_Trace) (A_x0ops : Option Addr) (c_x0ops : Nat) (A_x0blocks : Option Addr) (c_x0blocks : Nat) (r : Int) : Ending → World → Prop := fun e w' => e = .returned (vi r) ∧ Ow κ w' (S)
def trace_Check.m (k : Nat) (x0 : Tapi_Trace) : Option Int := (bif ((x0.n != 2) && (x0.n != 3)) || (decide (((x0.ops.length : Nat) : Int) > 1048576)) then trace_Check.j1 k x0 true else (trace_ordered.m k x0).bind fun v_9 => trace_Check.j1 k x0 (!v_9))

set_option maxRecDepth 100000 in
set_option maxHeartbeats 4000000 in
theorem trace_Check.ok (k : Nat) (x0 : Tapi_Trace) (r : Int) (hm : trace_Check.m k x0 = some r) (κ : Ctx) (w : World) (S : List HP) (A_x0ops : Option Addr) (c_x0ops : Nat) (hx_x0ops : Sl κ S A_x0ops c_x0ops 6 Tapi_Op.cells x0.ops) (A_x0blocks : Option Addr) (c_x0blocks : Nat) (hx_x0blocks : Sl κ S A_x0blocks c_x0blocks 3 Tapi_Span.cells x0.blocks) (ho : Ow κ w (S)) :
  Calls Tryz.prog 63 #[.agg (vals [ci x0.n, C.slc A_x0ops x0.ops.length c_x0ops, C.slc A_x0blocks x0.blocks.length c_x0blocks])] w (trace_Check.R κ S x0 A_x0ops c_x0ops A_x0blocks c_x0blocks r) := by
 unfold trace_Check.m at hm
 generalize hRR : trace_Check.R κ S x0 A_x0ops c_x0ops A_x0blocks c_x0blocks r = RR
 refine qen [(0, .agg (vals [ci x0.n, C.slc A_x0ops x0.ops.length c_x0ops, C.slc A_x0blocks x0.blocks.length c_x0blocks]))] Tryz.func63 Tryz.ntmps63 ho fun a hs => ?_
 refine qsr fun K1 hK1 => ?_
 refine qbx 0 25 [ci x0.n, C.slc A_x0ops x0.ops.length c_x0ops, C.slc A_x0blocks x0.blocks.length c_x0blocks] 1 hs fun b_2 w a hs => ?_
 refine qpe 1 [(1, pp b_2)] hs fun a hs => hK1 _ _ ?_
 clear hK1
 refine Vk.seq fun K3 hK3 => ?_
 refine Vk.seq fun K4 hK4 => ?_
 have hj4 : ∀ (p_10 : Bool), trace_Check.j1 k x0 p_10 = some r → ∀ (a : Act) (w : World), St 49 a w κ [(1, pp b_2), (24, .bool p_10)] (pt b_2 (blk (Tapi_Trace.obj x0 A_x0ops c_x0ops A_x0blocks c_x0blocks) 25) :: S) → K4 a w := by
  intro p_10 hm a w hs
  unfold trace_Check.j1 at hm
  refine hK4 _ _ ?_
  refine qcs (p_10) hs (fun hb => ?_) fun hb => ?_
  ·replace hm := bif_t hm hb
   refine qse 1 [(2, vi 4)] hs fun a hs => ?_
   refine wp_ret ?_
   exact qr1 (vi 4) hs rfl hRR (by cases hm; exact ⟨rfl, hs.own.drop⟩)
  ·replace hm := bif_f hm hb
   refine wp_skip ?_
   refine hK3 _ _ ?_
   clear hK3
   refine qse 1 [(1, pp b_2), (3, vw 0)] hs fun a hs => ?_
   refine Vk.seq fun K13 hK13 => ?_
   refine qsr fun K14 hK14 => ?_
   refine qpu 1 hs fun a hs => ?_
   refine qld 0 (C.slc A_x0ops x0.ops.length c_x0ops) hs rfl fun a hs => ?_
   refine qpk 2 [1, 3, 26, 27, 28] hs fun a hs => hK14 _ _ ?_
   clear hK14
   refine wp_block ?_
   obtain ⟨r15, hl15, hm⟩ := bind_t hm
   have hx15 : r15 = Sum.inr () → ∀ (a : Act) (w : World), St 49 a w κ [] (S) → K13 a w := by
    intro he a w hs
    subst r15
    refine hK13 _ _ ?_
    clear hK13
    refine qse 1 [(2, vi 0)] hs fun a hs => ?_
    refine wp_ret ?_
    exact qr1 (vi 0) hs rfl hRR (by cases hm; exact ⟨rfl, hs.own⟩)
   have hret15 : ∀ v, r15 = Sum.inl v → v = r := by intro v he; subst r15; exact Option.some.inj hm
   refine Vk.loopBy (fun k (s : Int × Int) a w => trace_Check.l1 x0 k s.1 s.2 = some r15 ∧ St 49 a w κ [(1, pp b_2), (3, vw s.1), (26, .slice A_x0ops x0.ops.length c_x0ops), (27, vi ((x0.ops.length : Nat) : Int)), (28, vi s.2)] (pt b_2 (blk (Tapi_Trace.obj x0 A_x0ops c_x0ops A_x0blocks c_x0blocks) 25) :: S)) k (0, 0) ⟨hl15, hs.go [1, 3, 26, 27, 28] [0] 1 (by kernel_rfl) (by kernel_rfl) (by kernel_rfl)⟩ (fun s a w h => by obtain ⟨h1, _⟩ := h; simp [trace_Check.l1] at h1) (fun k KL15 ih s a w h => ?_)
   obtain ⟨q_16, q_17⟩ := s
   obtain ⟨hm, hs⟩ := h
   try dsimp only at hm hs
   rw [trace_Check.l1] at hm
   refine qsk 1 [1, 3, 26, 27, 28, 29] hs fun a hs => ?_
   refine Vk.seq fun K19 hK19 => ?_
   refine qcs (decide (q_17 < ((x0.ops.length : Nat) : Int))) hs (fun hb => ?_) fun hb => ?_
   ·replace hm := bif_t hm hb
    refine wp_skip ?_
    refine hK19 _ _ ?_
    clear hK19
    refine Vk.seq fun K20 hK20 => ?_
    have hj20 : ∀ (p_41 : Int), trace_Check.j2 k (trace_Check.l1 x0 k) q_17 p_41 = some r15 → ∀ (a : Act) (w : World), St 49 a w κ [(1, pp b_2), (3, vw p_41), (26, .slice A_x0ops x0.ops.length c_x0ops), (27, vi ((x0.ops.length : Nat) : Int)), (28, vi q_17)] (pt b_2 (blk (Tapi_Trace.obj x0 A_x0ops c_x0ops A_x0blocks c_x0blocks) 25) :: S) → K20 a w := by
     intro p_41 hm a w hs
     unfold trace_Check.j2 at hm
     refine hK20 _ _ ?_
     refine Vk.region ?_
     refine qpk 2 [1, 3, 26, 27, 28] hs fun a hs => ?_
     refine ih (p_41, (IntKind.i64.wrap (q_17 + 1))) _ _ ⟨hm, hs.go [1, 3, 26, 27, 28] [0] 1 (by kernel_rfl) (by kernel_rfl) (by kernel_rfl)⟩
    refine wp_block ?_
    refine qsr fun K21 hK21 => ?_
    refine qpu 1 hs fun a hs => ?_
    obtain ⟨h_22, hm⟩ := ite_t hm
    obtain ⟨e_25, h_23, hm⟩ := bind_t hm
    obtain ⟨b_26, o_27, hA_28, h_24⟩ := Sl.elem hx_x0ops h_23
    refine qva (.pointer (some ⟨b_26, o_27 + q_17.toNat * 6, none⟩)) (op := (.indexAddr 22 (.tmp 26) (.tmp 28))) hs (fun o ho => run_idxSlc (k := .i64) ho (cap := c_x0ops) (len := x0.ops.length) ((congrArg (fun A => Value.slice A (x0.ops.length) (c_x0ops)) hA_28) ▸ (by kernel_rfl)) (by kernel_rfl) (by kernel_rfl) (idx_ok h_22 h_23) _) fun a hs => ?_
    refine qva (.agg (vals [ci e_25.kind, ci e_25.dom, ci e_25.a, ci e_25.b, ci e_25.d, cw e_25.c])) (op := (.load 80 (.tmp 31))) hs (fun o ho => run_loadN (cs := [ci e_25.kind, ci e_25.dom, ci e_25.a, ci e_25.b, ci e_25.d, cw e_25.c]) ho (by kernel_rfl) (by kernel_rfl) rfl h_24 _ hs.own.drop) fun a hs => ?_
    refine qal 80 [ci 0, ci 0, ci 0, ci 0, ci 0, cw 0] 5 hs fun b_29 w a hs => ?_
    refine qpu 1 hs fun a hs => ?_
    refine qsa 0 [ci e_25.kind, ci e_25.dom, ci e_25.a, ci e_25.b, ci e_25.d, cw e_25.c] hs rfl fun a w hs => ?_
    refine qpk 0 [1, 3, 4, 5, 26, 27, 28] hs fun a hs => hK21 _ _ ?_
    clear hK21
    refine Vk.seq fun K30 hK30 => ?_
    refine qsr fun K31 hK31 => ?_
    refine qln 0 ([ci e_25.kind, ci e_25.dom, ci e_25.a, ci e_25.b, ci e_25.d, cw e_25.c]) hs rfl fun a hs => ?_
    refine qpu 2 hs fun a hs => ?_
    refine qld 1 (ci x0.n) hs rfl fun a hs => ?_
    obtain ⟨v_34, h_33, hm⟩ := bind_t hm
    refine qcl (op_Right.ok _ _ _ _ _ h_33 _ _ (pt b_29 (blk (Tapi_Op.cells e_25) 80) :: pt b_2 (blk (Tapi_Trace.obj x0 A_x0ops c_x0ops A_x0blocks c_x0blocks) 25) :: S) hs.own) hs fun w a hs => ?_
    refine qpk 1 [1, 3, 5, 26, 27, 28, 38] hs fun a hs => hK31 _ _ ?_
    clear hK31
    refine qcs (!v_34) hs (fun hb => ?_) fun hb => ?_
    ·replace hm := bif_t hm hb
     refine qse 1 [(2, vi 4)] hs fun a hs => ?_
     refine wp_ret ?_
     exact Vk.ret1 (P := Tryz.prog) (fn := Tryz.f63) (R := RR) (vi 4) hs rfl (by kernel_rfl) (by obtain rfl := hret15 _ ((Option.some.inj hm).symm); subst hRR; exact ⟨rfl, hs.own.f1.drop.drop⟩)
    ·replace hm := bif_f hm hb
     refine wp_skip ?_
     refine hK30 _ _ ?_
     clear hK30
     refine Vk.seq fun K36 hK36 => ?_
     refine qsr fun K37 hK37 => ?_
     refine qpu 1 hs fun a hs => ?_
     refine qld 0 (ci e_25.kind) hs rfl fun a hs => ?_
     refine qpe 1 [(1, pp b_2), (3, vw q_16), (5, pp b_29), (26, .slice A_x0ops x0.ops.length c_x0ops), (27, vi ((x0.ops.length : Nat) : Int)), (28, vi q_17), (41, .bool (e_25.kind != 2))] hs fun a hs => hK37 _ _ ?_
     clear hK37
     refine qcs (e_25.kind != 2) hs (fun hb => ?_) fun hb => ?_
     ·replace hm := bif_t hm hb
      refine wp_exit ?_
      exact hj20 q_16 hm _ _ (hs.go [1, 3, 26, 27, 28] [1] 2 (by kernel_rfl) (by kernel_rfl) (by kernel_rfl))
     ·replace hm := bif_f hm hb
      refine wp_skip ?_
      refine hK36 _ _ ?_
      clear hK36
      refine Vk.seq fun K38 hK38 => ?_
      refine qsr fun K39 hK39 => ?_
      refine qpu 1 hs fun a hs => ?_
      refine qld 0 (cw e_25.c) hs rfl fun a hs => ?_
      refine qpk 2 [1, 3, 26, 27, 28, 45] hs fun a hs => hK39 _ _ ?_
      clear hK39
      refine qcs (e_25.c != q_16) hs (fun hb => ?_) fun hb => ?_
      ·replace hm := bif_t hm hb
       refine qse 1 [(2, vi 4)] hs fun a hs => ?_
       refine wp_ret ?_
       exact Vk.ret1 (P := Tryz.prog) (fn := Tryz.f63) (R := RR) (vi 4) hs rfl (by kernel_rfl) (by obtain rfl := hret15 _ ((Option.some.inj hm).symm); subst hRR; exact ⟨rfl, hs.own.f1.drop.drop⟩)
      ·replace hm := bif_f hm hb
       refine wp_skip ?_
       refine hK38 _ _ ?_
       clear hK38
       refine Vk.region ?_
       refine qpe 3 [(1, pp b_2), (3, vw (IntKind.u64.wrap (q_16 + 1))), (26, .slice A_x0ops x0.ops.length c_x0ops), (27, vi ((x0.ops.length : Nat) : Int)), (28, vi q_17)] hs fun a hs => ?_
       exact hj20 (IntKind.u64.wrap (q_16 + 1)) hm _ _ (hs.go [1, 3, 26, 27, 28] [1] 2 (by kernel_rfl) (by kernel_rfl) (by kernel_rfl))
   ·replace hm := bif_f hm hb
    refine wp_exit ?_
    exact hx15 (Option.some.inj hm).symm _ _ (hs.go [] [] 1 (by kernel_rfl) (by kernel_rfl) (by kernel_rfl))
 refine Vk.region ?_
 refine qpu 1 hs fun a hs => ?_
 refine qld 0 (ci x0.n) hs rfl fun a hs => ?_
 refine qpu 2 hs fun a hs => ?_
 suffices hj_5 : ∀ a, St 49 a w κ [(1, pp b_2), (6, pp b_2), (7, vi x0.n), (8, .bool (x0.n != 2)), (9, .bool (x0.n != 2)), (13, .bool ((x0.n != 2) && (x0.n != 3)))] (pt b_2 (blk (Tapi_Trace.obj x0 A_x0ops c_x0ops A_x0blocks c_x0blocks) 25) :: S) → wpFrom Tryz.prog _ _ 8 a w by
  rcases Bool.eq_false_or_eq_true (x0.n != 2) with hb | hb
  ·replace hs := hs.known (t := 9) hb (by kernel_rfl)
   refine qpu 1 hs fun a hs => ?_
   refine qld 0 (ci x0.n) hs rfl fun a hs => ?_
   refine qpu 2 hs fun a hs => ?_
   have hq := hs.pick [1, 6, 7, 8, 9, 13] (L' := [(1, pp b_2), (6, pp b_2), (7, vi x0.n), (8, .bool (x0.n != 2)), (9, .bool true), (13, .bool (x0.n != 3))]) (by kernel_rfl)
   exact hj_5 _ (hq.conv (by first | (rw [hb] <;> rfl) | rfl))
  ·replace hs := hs.known (t := 9) hb (by kernel_rfl)
   refine qpu 4 hs fun a hs => ?_
   have hq := hs.pick [1, 6, 7, 8, 9, 13] (L' := [(1, pp b_2), (6, pp b_2), (7, vi x0.n), (8, .bool (x0.n != 2)), (9, .bool false), (13, .bool false)]) (by kernel_rfl)
   exact hj_5 _ (hq.conv (by first | (rw [hb] <;> rfl) | rfl))
 intro a hs
 refine qpu 1 hs fun a hs => ?_
 suffices hj_6 : ∀ a, St 49 a w κ [(1, pp b_2), (6, pp b_2), (7, vi x0.n), (8, .bool (x0.n != 2)), (9, .bool (x0.n != 2)), (13, .bool ((x0.n != 2) && (x0.n != 3))), (14, .bool ((x0.n != 2) && (x0.n != 3))), (19, .bool (((x0.n != 2) && (x0.n != 3)) || (decide (((x0.ops.length : Nat) : Int) > 1048576))))] (pt b_2 (blk (Tapi_Trace.obj x0 A_x0ops c_x0ops A_x0blocks c_x0blocks) 25) :: S) → wpFrom Tryz.prog _ _ 14 a w by
  rcases Bool.eq_false_or_eq_true ((x0.n != 2) && (x0.n != 3)) with hb | hb
  ·replace hs := hs.known (t := 14) hb (by kernel_rfl)
   refine qpu 5 hs fun a hs => ?_
   have hq := hs.pick [1, 6, 7, 8, 9, 13, 14, 19] (L' := [(1, pp b_2), (6, pp b_2), (7, vi x0.n), (8, .bool (x0.n != 2)), (9, .bool (x0.n != 2)), (13, .bool ((x0.n != 2) && (x0.n != 3))), (14, .bool true), (19, .bool true)]) (by kernel_rfl)
   exact hj_6 _ (hq.conv (by first | (rw [hb] <;> rfl) | rfl))
  ·replace hs := hs.known (t := 14) hb (by kernel_rfl)
   refine qpu 1 hs fun a hs => ?_
   refine qld 0 (C.slc A_x0ops x0.ops.length c_x0ops) hs rfl fun a hs => ?_
   refine qpu 3 hs fun a hs => ?_
   have hq := hs.pick [1, 6, 7, 8, 9, 13, 14, 19] (L' := [(1, pp b_2), (6, pp b_2), (7, vi x0.n), (8, .bool (x0.n != 2)), (9, .bool (x0.n != 2)), (13, .bool ((x0.n != 2) && (x0.n != 3))), (14, .bool false), (19, .bool (decide (((x0.ops.length : Nat) : Int) > 1048576)))]) (by kernel_rfl)
   exact hj_6 _ (hq.conv (by first | (rw [hb] <;> rfl) | rfl))
 intro a hs
 refine qpu 1 hs fun a hs => ?_
 rcases Bool.eq_false_or_eq_true (((x0.n != 2) && (x0.n != 3)) || (decide (((x0.ops.length : Nat) : Int) > 1048576))) with hb | hb
 ·replace hm := bif_t hm hb
  replace hs := hs.known (t := 20) hb (by kernel_rfl)
  refine qpe 4 [(1, pp b_2), (24, .bool true)] hs fun a hs => ?_
  exact hj4 true hm _ _ (hs.go [1, 24] [0] 1 (by kernel_rfl) (by kernel_rfl) (by kernel_rfl))
 ·replace hm := bif_f hm hb
  replace hs := hs.known (t := 20) hb (by kernel_rfl)
  refine qln 0 ([ci x0.n, C.slc A_x0ops x0.ops.length c_x0ops, C.slc A_x0blocks x0.blocks.length c_x0blocks]) hs rfl fun a hs => ?_
  obtain ⟨v_9, h_8, hm⟩ := bind_t hm
  refine qcl (trace_ordered.ok _ _ _ h_8 _ _ (pt b_2 (blk (Tapi_Trace.obj x0 A_x0ops c_x0ops A_x0blocks c_x0blocks) 25) :: S) A_x0ops c_x0ops hx_x0ops.less A_x0blocks c_x0blocks hx_x0blocks.less hs.own) hs fun w a hs => ?_
  refine qpe 2 [(1, pp b_2), (24, .bool (!v_9))] hs fun a hs => ?_
  exact hj4 (!v_9) hm _ _ (hs.go [1, 24] [0] 1 (by kernel_rfl) (by kernel_rfl) (by kernel_rfl))

end Go.Proofs.YtkabdodcacfmlaaGreat
