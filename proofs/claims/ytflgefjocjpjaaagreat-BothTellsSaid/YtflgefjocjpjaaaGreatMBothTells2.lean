/- Of each Go function that BothTells comes to: a model in plain Lean, and that the program's call does what the model says; no condition. -/
import Derived.Test.YtflgefjocjpjaaaGreatProg
import Derived.Test.YtflgefjocjpjaaaGreatValmicggm
import Derived.Test.YtflgefjocjpjaaaGreatMBothTells1
namespace Go.Proofs.YtflgefjocjpjaaaGreat
open Go Go.Vk
set_option linter.unusedVariables false


abbrev times_Dom.R (κ : Ctx) (S : List HP) (x0 : Twire_Machine) (x1 : Cells) (x2 : Cells) (b_x0 : Nat) (r : (Cells × Twire_Machine)) : Ending → World → Prop := fun e w' => e = .returned (.agg (vals r.1)) ∧ Own κ w' (Twire_Machine.own b_x0 r.2 :: S)
def times_Dom.m (k : Nat) (x0 : Twire_Machine) (x1 : Cells) (x2 : Cells) : Option (Cells × Twire_Machine) := (wire_Machine_N.m k x0).bind fun v_10 => (bif v_10 == 2 then (wire_Machine_Begin.m k x0 3).bind fun v_14 => (if x1.length = 3 then (if x2.length = 3 then (wire_Machine_N.m k v_14).bind fun v_29 => (bif v_29 == 2 then (wire_Machine_Rand.m k v_14 (-1)).bind fun v_45 => (getI .i64 x1 (0)).bind fun v_76 => (getI .i64 x2 (0)).bind fun v_78 => (wire_Machine_Two.m k v_45.2 7 0 v_76 v_78).bind fun v_81 => (getI .i64 x1 (0)).bind fun v_89 => (getI .i64 x2 (1)).bind fun v_91 => (wire_Machine_Two.m k v_81.2 7 0 v_89 v_91).bind fun v_94 => (getI .i64 x1 (1)).bind fun v_111 => (getI .i64 x2 (0)).bind fun v_113 => (wire_Machine_Two.m k v_94.2 7 1 v_111 v_113).bind fun v_116 => (getI .i64 x1 (1)).bind fun v_124 => (getI .i64 x2 (1)).bind fun v_126 => (wire_Machine_Two.m k v_116.2 7 1 v_124 v_126).bind fun v_129 => (wire_Machine_N.m k v_129.2).bind fun v_147 => (bif v_147 == 2 then (wire_Machine_Two.m k v_129.2 5 0 v_94.1 v_45.1).bind fun v_179 => (wire_Machine_Two.m k v_179.2 5 0 v_81.1 v_179.1).bind fun v_182 => (wire_Machine_Two.m k v_182.2 5 1 v_116.1 v_45.1).bind fun v_209 => (wire_Machine_Two.m k v_209.2 5 1 v_129.1 v_209.1).bind fun v_212 => (wire_Machine_End.m k v_212.2).bind fun v_230 => some ([ci v_182.1, ci v_212.1, ci (-1)], v_230) else none) else none) else none) else none) else (bif v_10 == 3 then (wire_Machine_Begin.m k x0 3).bind fun v_235 => (if x1.length = 3 then (if x2.length = 3 then (wire_Machine_N.m k v_235).bind fun v_250 => (bif v_250 == 3 then (wire_Machine_Rand.m k v_235 (-1)).bind fun v_266 => (wire_Machine_Rand.m k v_266.2 (-1)).bind fun v_274 => (wire_Machine_Rand.m k v_274.2 (-1)).bind fun v_291 => (getI .i64 x1 (0)).bind fun v_322 => (getI .i64 x2 (0)).bind fun v_324 => (wire_Machine_Two.m k v_291.2 7 0 v_322 v_324).bind fun v_327 => (getI .i64 x1 (0)).bind fun v_335 => (getI .i64 x2 (1)).bind fun v_337 => (wire_Machine_Two.m k v_327.2 7 0 v_335 v_337).bind fun v_340 => (getI .i64 x1 (0)).bind fun v_348 => (getI .i64 x2 (2)).bind fun v_350 => (wire_Machine_Two.m k v_340.2 7 0 v_348 v_350).bind fun v_353 => (getI .i64 x1 (1)).bind fun v_370 => (getI .i64 x2 (0)).bind fun v_372 => (wire_Machine_Two.m k v_353.2 7 1 v_370 v_372).bind fun v_375 => (getI .i64 x1 (1)).bind fun v_383 => (getI .i64 x2 (1)).bind fun v_385 => (wire_Machine_Two.m k v_375.2 7 1 v_383 v_385).bind fun v_388 => (getI .i64 x1 (1)).bind fun v_396 => (getI .i64 x2 (2)).bind fun v_398 => (wire_Machine_Two.m k v_388.2 7 1 v_396 v_398).bind fun v_401 => (getI .i64 x1 (2)).bind fun v_418 => (getI .i64 x2 (0)).bind fun v_420 => (wire_Machine_Two.m k v_401.2 7 2 v_418 v_420).bind fun v_423 => (getI .i64 x1 (2)).bind fun v_431 => (getI .i64 x2 (1)).bind fun v_433 => (wire_Machine_Two.m k v_423.2 7 2 v_431 v_433).bind fun v_436 => (getI .i64 x1 (2)).bind fun v_444 => (getI .i64 x2 (2)).bind fun v_446 => (wire_Machine_Two.m k v_436.2 7 2 v_444 v_446).bind fun v_449 => (wire_Machine_N.m k v_449.2).bind fun v_467 => (bif v_467 == 3 then (wire_Machine_Two.m k v_449.2 5 0 v_340.1 v_266.1).bind fun v_499 => (wire_Machine_Two.m k v_499.2 5 0 v_327.1 v_499.1).bind fun v_502 => (wire_Machine_Two.m k v_502.2 5 0 v_353.1 v_274.1).bind fun v_519 => (wire_Machine_Two.m k v_519.2 5 0 v_502.1 v_519.1).bind fun v_522 => (wire_Machine_Two.m k v_522.2 5 1 v_375.1 v_266.1).bind fun v_549 => (wire_Machine_Two.m k v_549.2 5 1 v_388.1 v_549.1).bind fun v_552 => (wire_Machine_Two.m k v_552.2 5 1 v_401.1 v_291.1).bind fun v_575 => (wire_Machine_Two.m k v_575.2 5 1 v_552.1 v_575.1).bind fun v_578 => (wire_Machine_Two.m k v_578.2 5 2 v_423.1 v_274.1).bind fun v_605 => (wire_Machine_Two.m k v_605.2 5 2 v_449.1 v_605.1).bind fun v_608 => (wire_Machine_Two.m k v_608.2 5 2 v_436.1 v_291.1).bind fun v_625 => (wire_Machine_Two.m k v_625.2 5 2 v_608.1 v_625.1).bind fun v_628 => (wire_Machine_End.m k v_628.2).bind fun v_646 => some ([ci v_522.1, ci v_578.1, ci v_628.1], v_646) else none) else none) else none) else none) else none))

set_option maxRecDepth 100000 in
set_option maxHeartbeats 4000000 in
theorem times_Dom.ok (k : Nat) (x0 : Twire_Machine) (x1 : Cells) (x2 : Cells) (r : (Cells × Twire_Machine)) (hm : times_Dom.m k x0 x1 x2 = some r) (κ : Ctx) (w : World) (S : List HP) (b_x0 : Nat) (ho : Own κ w (Twire_Machine.own b_x0 x0 :: S)) :
  Calls Tryz.prog 115 #[pp b_x0, .agg (vals x1), .agg (vals x2)] w (times_Dom.R κ S x0 x1 x2 b_x0 r) := by
 unfold times_Dom.m at hm
 generalize hRR : times_Dom.R κ S x0 x1 x2 b_x0 r = RR
 refine qen [(0, pp b_x0), (1, .agg (vals x1)), (2, .agg (vals x2))] Tryz.func115 Tryz.ntmps115 ho fun a hs => ?_
 refine qsr fun K1 hK1 => ?_
 refine qbx 1 35 x1 4 hs fun b_2 w a hs => ?_
 refine qbx 2 35 x2 5 hs fun b_3 w a hs => ?_
 refine qal 35 [ci 0, ci 0, ci 0] 6 hs fun b_4 w a hs => ?_
 refine qpe 0 [(0, pp b_x0), (4, pp b_2), (5, pp b_3), (6, pp b_4)] hs fun a hs => hK1 _ _ ?_
 clear hK1
 refine Vk.seq fun K5 hK5 => ?_
 refine qsr fun K6 hK6 => ?_
 refine qpu 1 hs fun a hs => ?_
 obtain ⟨g_7, hs⟩ := hs.unex 3 rfl
 obtain ⟨v_10, h_9, hm⟩ := bind_t hm
 refine qcl (wire_Machine_N.ok _ _ _ h_9 _ _ _ b_x0 g_7 hs.own.f3) hs fun w a hs => ?_
 rcases Bool.eq_false_or_eq_true (v_10 == 2) with hb | hb
 ·replace hm := bif_t hm hb
  obtain rfl := Vk.of_beq hb
  refine qpk 1 [0, 4, 5, 6, 11] hs fun a hs => hK6 _ _ ?_
  refine qcf hs ?_
  refine wp_skip ?_
  refine hK5 _ _ ?_
  refine qsr fun K11 hK11 => ?_
  refine qpu 1 hs fun a hs => ?_
  replace hs := hs.toEx (Twire_Machine.parts b_x0 x0) g_7 0 rfl
  obtain ⟨v_14, h_13, hm⟩ := bind_t hm
  refine qcl (wire_Machine_Begin.ok _ _ _ _ h_13 _ _ _ b_x0 hs.own) hs fun w a hs => ?_
  refine qpk 0 [0, 4, 5, 6] hs fun a hs => hK11 _ _ ?_
  clear hK11
  refine qsr fun K15 hK15 => ?_
  refine qpu 1 hs fun a hs => ?_
  obtain ⟨h_16, hm⟩ := ite_t hm
  refine qlw 3 hs rfl h_16 fun a hs => ?_
  obtain ⟨h_17, hm⟩ := ite_t hm
  refine qlw 2 hs rfl h_17 fun a hs => ?_
  refine Vk.step (Vk.call (some 19) 130 #[pp b_x0, .agg (vals x1), .agg (vals x2)] hs (by kernel_rfl) (by kernel_rfl) (by kernel_rfl) ?_)
  refine Vk.enterI [(0, pp b_x0), (1, .agg (vals x1)), (2, .agg (vals x2))] Tryz.func130 rfl Tryz.ntmps130 (by kernel_rfl) (Nat.le_of_ble_eq_true (by kernel_rfl)) hs.own fun KR18 hKR18 hKP18 a hs => ?_
  refine qsr fun K19 hK19 => ?_
  refine qbx 1 35 x1 4 hs fun b_20 w a hs => ?_
  refine qbx 2 35 x2 5 hs fun b_21 w a hs => ?_
  refine qpk 1 [0, 4, 5] hs fun a hs => hK19 _ _ ?_
  clear hK19
  refine qsr fun K22 hK22 => ?_
  refine qpu 1 hs fun a hs => ?_
  refine Vk.step (Vk.mapOp 14 143 hs (by kernel_rfl) (by kernel_rfl) fun b_23 w a hs => ?_)
  refine qpu 1 hs fun a hs => ?_
  refine qbx 15 145 [cp b_x0, C.map (some b_23), ci 0, ci 0, ci 0, ci 0, ci 0, ci 0, ci 0, ci 0, ci 0] 16 hs fun b_24 w a hs => ?_
  refine qpe 1 [(0, pp b_x0), (4, pp b_20), (5, pp b_21), (7, pp b_24)] hs fun a hs => hK22 _ _ ?_
  clear hK22
  refine qsr fun K25 hK25 => ?_
  refine qpu 1 hs fun a hs => ?_
  obtain ⟨g_26, hs⟩ := hs.unex 4 rfl
  obtain ⟨v_29, h_28, hm⟩ := bind_t hm
  refine qcl (wire_Machine_N.ok _ _ _ h_28 _ _ _ b_x0 g_26 hs.own.f4) hs fun w a hs => ?_
  rcases Bool.eq_false_or_eq_true (v_29 == 2) with hb | hb
  ·replace hm := bif_t hm hb
   obtain rfl := Vk.of_beq hb
   refine qpk 1 [0, 4, 5, 7, 8] hs fun a hs => hK25 _ _ ?_
   clear hK25
   refine Vk.seq fun K30 hK30 => ?_
   refine qsk 2 [0, 4, 5, 7, 8, 19, 20] hs fun a hs => ?_
   refine wp_block ?_
   refine Vk.unroll0 40 ?_
   refine Vk.unroll fun KL32 hKL32 => ?_
   refine qsk 1 [0, 4, 5, 7, 8, 19, 20, 21] hs fun a hs => ?_
   refine qck hs ?_
   refine Vk.seq fun K35 hK35 => ?_
   refine wp_block ?_
   refine qsk 2 [0, 4, 5, 7, 8, 9, 19, 20] hs fun a hs => ?_
   refine qsk 3 [0, 4, 5, 7, 8, 9, 10, 19, 20] hs fun a hs => ?_
   refine wp_block ?_
   refine Vk.unroll0 40 ?_
   refine Vk.unroll fun KL38 hKL38 => ?_
   refine Vk.seq fun K39 hK39 => ?_
   refine qse 3 [(0, pp b_x0), (4, pp b_20), (5, pp b_21), (7, pp b_24), (8, vi 2), (9, vi 0), (10, vi 1), (19, vi 2), (20, vi 0), (27, .bool true)] hs fun a hs => ?_
   refine qct hs ?_
   refine wp_skip ?_
   refine hK39 _ _ ?_
   clear hK39
   refine Vk.seq fun K41 hK41 => ?_
   refine wp_block ?_
   obtain ⟨C_42, hC_42⟩ := qC hs.own.drop
   refine qdr 9 κ C_42 hs fun w hs hqC_42 => ?_
   have hcl := qO hC_42 hs.own.drop
   refine qdp (fuel := 3) [0, 1, 2, 4, 5, 6, 7] hs hcl hqC_42 fun a hs => ?_
   refine qdl 3 0 (C.map (some b_23)) hs hcl hqC_42 hC_42 rfl fun a hs => ?_
   replace hs := hs.toEx (Twire_Machine.parts b_x0 v_14) g_26 0 rfl
   obtain ⟨v_45, h_44, hm⟩ := bind_t hm
   refine qdc 8 (wire_Machine_Rand.ok _ _ _ _ h_44 _ _ _ b_x0 hs.own) hs fun w a hs => ?_
   replace hcl := qO hC_42 hs.own.drop
   refine ⟨fun _ => hcl, ?_⟩
   refine Vk.dOnly (i := 9) (by kernel_rfl) (Vk.updateOp (t := 143) (xm := (.tmp 33)) (xk := (.tmp 36)) (xv := (.tmp 38)) (b := b_23) (es' := #[⟨.agg (vals [ci 0, ci 1]), vi v_45.1, 0⟩]) (clock' := 1) (.agg (vals [ci 0, ci 1])) (vi v_45.1) 2 hs (by kernel_rfl) (by kernel_rfl) (by kernel_rfl) (by kernel_rfl) (by kernel_rfl) rfl (by kernel_rfl) fun a w hs => ?_)
   refine ⟨fun h => absurd h (by decide), ?_⟩
   replace hs := hs.pick [0, 4, 5, 7, 8, 9, 10, 19, 20] (L' := [(0, pp b_x0), (4, pp b_20), (5, pp b_21), (7, pp b_24), (8, vi 2), (9, vi 0), (10, vi 1), (19, vi 2), (20, vi 0)]) (by kernel_rfl)
   refine Vk.dDone (by kernel_rfl) ?_
   refine hK41 _ _ ?_
   clear hK41
   refine Vk.region ?_
   refine qpk 3 [0, 4, 5, 7, 8, 9, 10, 19, 20] hs fun a hs => hKL38 _ _ ?_
   clear hKL38
   refine Vk.unroll fun KL46 hKL46 => ?_
   refine Vk.seq fun K47 hK47 => ?_
   refine qsk 3 [0, 4, 5, 7, 8, 9, 10, 19, 20, 27] hs fun a hs => ?_
   refine qcf hs ?_
   refine wp_exit ?_
   refine hK35 _ _ ?_
   clear hK35
   refine Vk.region ?_
   refine qpk 2 [0, 4, 5, 7, 8, 19, 20] hs fun a hs => hKL32 _ _ ?_
   clear hKL32
   refine Vk.unroll fun KL49 hKL49 => ?_
   refine qsk 1 [0, 4, 5, 7, 8, 19, 20, 21] hs fun a hs => ?_
   refine qck hs ?_
   refine Vk.seq fun K52 hK52 => ?_
   refine wp_block ?_
   refine qsk 2 [0, 4, 5, 7, 8, 9, 19, 20] hs fun a hs => ?_
   refine qse 3 [(0, pp b_x0), (4, pp b_20), (5, pp b_21), (7, pp b_24), (8, vi 2), (9, vi 1), (10, vi 2), (19, vi 2), (20, vi 1)] hs fun a hs => ?_
   refine wp_block ?_
   refine Vk.unroll0 40 ?_
   refine Vk.unroll fun KL55 hKL55 => ?_
   refine Vk.seq fun K56 hK56 => ?_
   refine qsk 3 [0, 4, 5, 7, 8, 9, 10, 19, 20, 27] hs fun a hs => ?_
   refine qcf hs ?_
   refine wp_exit ?_
   refine hK52 _ _ ?_
   clear hK52
   refine Vk.region ?_
   refine qpk 2 [0, 4, 5, 7, 8, 19, 20] hs fun a hs => hKL49 _ _ ?_
   clear hKL49
   refine Vk.unroll fun KL58 hKL58 => ?_
   refine qsk 1 [0, 4, 5, 7, 8, 19, 20, 21] hs fun a hs => ?_
   refine Vk.seq fun K60 hK60 => ?_
   refine qcf hs ?_
   refine wp_exit ?_
   refine hK30 _ _ ?_
   clear hK30
   refine Vk.seq fun K61 hK61 => ?_
   refine qsk 2 [0, 4, 5, 7, 8, 40, 41] hs fun a hs => ?_
   refine wp_block ?_
   refine Vk.unroll0 40 ?_
   refine Vk.unroll fun KL63 hKL63 => ?_
   refine qsk 1 [0, 4, 5, 7, 8, 40, 41, 42] hs fun a hs => ?_
   refine qck hs ?_
   refine Vk.seq fun K66 hK66 => ?_
   refine wp_block ?_
   refine qse 2 [(0, pp b_x0), (4, pp b_20), (5, pp b_21), (7, pp b_24), (8, vi 2), (11, vi 0), (40, vi 2), (41, vi 0)] hs fun a hs => ?_
   refine qsk 2 [0, 4, 5, 7, 8, 11, 40, 41, 44, 45] hs fun a hs => ?_
   refine wp_block ?_
   refine Vk.unroll0 40 ?_
   refine Vk.unroll fun KL69 hKL69 => ?_
   refine qsk 1 [0, 4, 5, 7, 8, 11, 40, 41, 44, 45, 46] hs fun a hs => ?_
   refine qck hs ?_
   refine Vk.seq fun K72 hK72 => ?_
   refine wp_block ?_
   refine qsk 2 [0, 4, 5, 7, 8, 11, 12, 40, 41, 44, 45] hs fun a hs => ?_
   obtain ⟨C_74, hC_74⟩ := qC hs.own.drop
   refine qdr 18 κ C_74 hs fun w hs hqC_74 => ?_
   have hcl := qO hC_74 hs.own.drop
   refine qdp (fuel := 5) [0, 1, 2, 3, 4, 5, 6, 7, 9, 10, 11, 14, 15, 16] hs hcl hqC_74 fun a hs => ?_
   obtain ⟨v_76, h_75, hm⟩ := bind_t hm
   refine qdi 8 3 hs hcl hqC_74 hC_74 rfl h_75 fun a hs => ?_
   obtain ⟨v_78, h_77, hm⟩ := bind_t hm
   refine qdi 12 2 hs hcl hqC_74 hC_74 rfl h_77 fun a hs => ?_
   obtain ⟨v_81, h_80, hm⟩ := bind_t hm
   refine qdc 13 (wire_Machine_Two.ok _ _ _ _ _ _ _ h_80 _ _ _ b_x0 hs.own) hs fun w a hs => ?_
   replace hcl := qO hC_74 hs.own.drop
   refine ⟨fun _ => hcl, ?_⟩
   refine qdp (fuel := 1) [17] hs hcl hqC_74 fun a hs => ?_
   refine qsd 18 1 2 (ci v_81.1) hs rfl fun a w hs => ?_
   refine ⟨fun h => absurd h (by decide), ?_⟩
   replace hs := hs.pick [0, 4, 5, 7, 8, 11, 40, 41, 44, 45] (L' := [(0, pp b_x0), (4, pp b_20), (5, pp b_21), (7, pp b_24), (8, vi 2), (11, vi 0), (40, vi 2), (41, vi 0), (44, vi 2), (45, vi 0)]) (by kernel_rfl)
   refine Vk.dDone (by kernel_rfl) ?_
   refine hK72 _ _ ?_
   clear hK72
   refine Vk.region ?_
   refine qpk 2 [0, 4, 5, 7, 8, 11, 40, 41, 44, 45] hs fun a hs => hKL69 _ _ ?_
   clear hKL69
   refine Vk.unroll fun KL82 hKL82 => ?_
   refine qsk 1 [0, 4, 5, 7, 8, 11, 40, 41, 44, 45, 46] hs fun a hs => ?_
   refine qck hs ?_
   refine Vk.seq fun K85 hK85 => ?_
   refine wp_block ?_
   refine qse 2 [(0, pp b_x0), (4, pp b_20), (5, pp b_21), (7, pp b_24), (8, vi 2), (11, vi 0), (12, vi 1), (40, vi 2), (41, vi 0), (44, vi 2), (45, vi 1)] hs fun a hs => ?_
   obtain ⟨C_87, hC_87⟩ := qC hs.own.drop
   refine qdr 18 κ C_87 hs fun w hs hqC_87 => ?_
   have hcl := qO hC_87 hs.own.drop
   refine qdp (fuel := 5) [0, 1, 2, 3, 4, 5, 6, 7, 9, 10, 11, 14, 15, 16] hs hcl hqC_87 fun a hs => ?_
   obtain ⟨v_89, h_88, hm⟩ := bind_t hm
   refine qdi 8 3 hs hcl hqC_87 hC_87 rfl h_88 fun a hs => ?_
   obtain ⟨v_91, h_90, hm⟩ := bind_t hm
   refine qdi 12 2 hs hcl hqC_87 hC_87 rfl h_90 fun a hs => ?_
   obtain ⟨v_94, h_93, hm⟩ := bind_t hm
   refine qdc 13 (wire_Machine_Two.ok _ _ _ _ _ _ _ h_93 _ _ _ b_x0 hs.own) hs fun w a hs => ?_
   replace hcl := qO hC_87 hs.own.drop
   refine ⟨fun _ => hcl, ?_⟩
   refine qdp (fuel := 1) [17] hs hcl hqC_87 fun a hs => ?_
   refine qsd 18 1 3 (ci v_94.1) hs rfl fun a w hs => ?_
   refine ⟨fun h => absurd h (by decide), ?_⟩
   replace hs := hs.pick [0, 4, 5, 7, 8, 11, 40, 41, 44, 45] (L' := [(0, pp b_x0), (4, pp b_20), (5, pp b_21), (7, pp b_24), (8, vi 2), (11, vi 0), (40, vi 2), (41, vi 0), (44, vi 2), (45, vi 1)]) (by kernel_rfl)
   refine Vk.dDone (by kernel_rfl) ?_
   refine hK85 _ _ ?_
   clear hK85
   refine Vk.region ?_
   refine qpk 2 [0, 4, 5, 7, 8, 11, 40, 41, 44, 45] hs fun a hs => hKL82 _ _ ?_
   clear hKL82
   refine Vk.unroll fun KL95 hKL95 => ?_
   refine qsk 1 [0, 4, 5, 7, 8, 11, 40, 41, 44, 45, 46] hs fun a hs => ?_
   refine Vk.seq fun K97 hK97 => ?_
   refine qcf hs ?_
   refine wp_exit ?_
   refine hK66 _ _ ?_
   clear hK66
   refine Vk.region ?_
   refine qpk 2 [0, 4, 5, 7, 8, 40, 41] hs fun a hs => hKL63 _ _ ?_
   clear hKL63
   refine Vk.unroll fun KL98 hKL98 => ?_
   refine qsk 1 [0, 4, 5, 7, 8, 40, 41, 42] hs fun a hs => ?_
   refine qck hs ?_
   refine Vk.seq fun K101 hK101 => ?_
   refine wp_block ?_
   refine qsk 2 [0, 4, 5, 7, 8, 11, 40, 41] hs fun a hs => ?_
   refine qse 2 [(0, pp b_x0), (4, pp b_20), (5, pp b_21), (7, pp b_24), (8, vi 2), (11, vi 1), (40, vi 2), (41, vi 1), (44, vi 2), (45, vi 0)] hs fun a hs => ?_
   refine wp_block ?_
   refine Vk.unroll0 40 ?_
   refine Vk.unroll fun KL104 hKL104 => ?_
   refine qsk 1 [0, 4, 5, 7, 8, 11, 40, 41, 44, 45, 46] hs fun a hs => ?_
   refine qck hs ?_
   refine Vk.seq fun K107 hK107 => ?_
   refine wp_block ?_
   refine qsk 2 [0, 4, 5, 7, 8, 11, 12, 40, 41, 44, 45] hs fun a hs => ?_
   obtain ⟨C_109, hC_109⟩ := qC hs.own.drop
   refine qdr 18 κ C_109 hs fun w hs hqC_109 => ?_
   have hcl := qO hC_109 hs.own.drop
   refine qdp (fuel := 5) [0, 1, 2, 3, 4, 5, 6, 7, 9, 10, 11, 14, 15, 16] hs hcl hqC_109 fun a hs => ?_
   obtain ⟨v_111, h_110, hm⟩ := bind_t hm
   refine qdi 8 3 hs hcl hqC_109 hC_109 rfl h_110 fun a hs => ?_
   obtain ⟨v_113, h_112, hm⟩ := bind_t hm
   refine qdi 12 2 hs hcl hqC_109 hC_109 rfl h_112 fun a hs => ?_
   obtain ⟨v_116, h_115, hm⟩ := bind_t hm
   refine qdc 13 (wire_Machine_Two.ok _ _ _ _ _ _ _ h_115 _ _ _ b_x0 hs.own) hs fun w a hs => ?_
   replace hcl := qO hC_109 hs.own.drop
   refine ⟨fun _ => hcl, ?_⟩
   refine qdp (fuel := 1) [17] hs hcl hqC_109 fun a hs => ?_
   refine qsd 18 1 5 (ci v_116.1) hs rfl fun a w hs => ?_
   refine ⟨fun h => absurd h (by decide), ?_⟩
   replace hs := hs.pick [0, 4, 5, 7, 8, 11, 40, 41, 44, 45] (L' := [(0, pp b_x0), (4, pp b_20), (5, pp b_21), (7, pp b_24), (8, vi 2), (11, vi 1), (40, vi 2), (41, vi 1), (44, vi 2), (45, vi 0)]) (by kernel_rfl)
   refine Vk.dDone (by kernel_rfl) ?_
   refine hK107 _ _ ?_
   clear hK107
   refine Vk.region ?_
   refine qpk 2 [0, 4, 5, 7, 8, 11, 40, 41, 44, 45] hs fun a hs => hKL104 _ _ ?_
   clear hKL104
   refine Vk.unroll fun KL117 hKL117 => ?_
   refine qsk 1 [0, 4, 5, 7, 8, 11, 40, 41, 44, 45, 46] hs fun a hs => ?_
   refine qck hs ?_
   refine Vk.seq fun K120 hK120 => ?_
   refine wp_block ?_
   refine qsk 2 [0, 4, 5, 7, 8, 11, 12, 40, 41, 44, 45] hs fun a hs => ?_
   obtain ⟨C_122, hC_122⟩ := qC hs.own.drop
   refine qdr 18 κ C_122 hs fun w hs hqC_122 => ?_
   have hcl := qO hC_122 hs.own.drop
   refine qdp (fuel := 5) [0, 1, 2, 3, 4, 5, 6, 7, 9, 10, 11, 14, 15, 16] hs hcl hqC_122 fun a hs => ?_
   obtain ⟨v_124, h_123, hm⟩ := bind_t hm
   refine qdi 8 3 hs hcl hqC_122 hC_122 rfl h_123 fun a hs => ?_
   obtain ⟨v_126, h_125, hm⟩ := bind_t hm
   refine qdi 12 2 hs hcl hqC_122 hC_122 rfl h_125 fun a hs => ?_
   obtain ⟨v_129, h_128, hm⟩ := bind_t hm
   refine qdc 13 (wire_Machine_Two.ok _ _ _ _ _ _ _ h_128 _ _ _ b_x0 hs.own) hs fun w a hs => ?_
   replace hcl := qO hC_122 hs.own.drop
   refine ⟨fun _ => hcl, ?_⟩
   refine qdp (fuel := 1) [17] hs hcl hqC_122 fun a hs => ?_
   refine qsd 18 1 6 (ci v_129.1) hs rfl fun a w hs => ?_
   refine ⟨fun h => absurd h (by decide), ?_⟩
   replace hs := hs.pick [0, 4, 5, 7, 8, 11, 40, 41, 44, 45] (L' := [(0, pp b_x0), (4, pp b_20), (5, pp b_21), (7, pp b_24), (8, vi 2), (11, vi 1), (40, vi 2), (41, vi 1), (44, vi 2), (45, vi 1)]) (by kernel_rfl)
   refine Vk.dDone (by kernel_rfl) ?_
   refine hK120 _ _ ?_
   clear hK120
   refine Vk.region ?_
   refine qpe 2 [(0, pp b_x0), (4, pp b_20), (5, pp b_21), (7, pp b_24), (8, vi 2), (11, vi 1), (40, vi 2), (41, vi 1), (44, vi 2), (45, vi 2)] hs fun a hs => hKL117 _ _ ?_
   clear hKL117
   refine Vk.unroll fun KL130 hKL130 => ?_
   refine qsk 1 [0, 4, 5, 7, 8, 11, 40, 41, 44, 45, 46] hs fun a hs => ?_
   refine Vk.seq fun K132 hK132 => ?_
   refine qcf hs ?_
   refine wp_exit ?_
   refine hK101 _ _ ?_
   clear hK101
   refine Vk.region ?_
   refine qpk 2 [0, 4, 5, 7, 8, 40, 41] hs fun a hs => hKL98 _ _ ?_
   clear hKL98
   refine Vk.unroll fun KL133 hKL133 => ?_
   refine qsk 1 [0, 4, 5, 7, 8, 40, 41, 42] hs fun a hs => ?_
   refine Vk.seq fun K135 hK135 => ?_
   refine qcf hs ?_
   refine wp_exit ?_
   refine hK61 _ _ ?_
   clear hK61
   refine qse 2 [(6, pp b_24)] hs fun a hs => ?_
   refine wp_ret ?_
   refine hKP18 _ _ ?_
   refine hKR18 _ _ ?_
   refine Vk.ret1 (P := Tryz.prog) (fn := Tryz.f130) (pp b_24) hs rfl (by kernel_rfl) ⟨_, _, _, rfl, hs.own, fun a hs => ?_⟩
   refine qpk 1 [0, 6, 7] hs fun a hs => hK15 _ _ ?_
   clear hK15
   refine qsr fun K137 hK137 => ?_
   refine qpu 3 hs fun a hs => ?_
   refine Vk.step (Vk.call (some 23) 131 #[pp b_24, .func (.func 132) #[pp b_24] #[]] hs (by kernel_rfl) (by kernel_rfl) (by kernel_rfl) ?_)
   refine Vk.enterI [(0, pp b_24), (1, .func (.func 132) #[pp b_24] #[])] Tryz.func131 rfl Tryz.ntmps131 (by kernel_rfl) (Nat.le_of_ble_eq_true (by kernel_rfl)) hs.own fun KR138 hKR138 hKP138 a hs => ?_
   refine qsr fun K139 hK139 => ?_
   refine qal 35 [ci 0, ci 0, ci 0] 4 hs fun b_140 w a hs => ?_
   refine qpk 0 [0, 1, 4] hs fun a hs => hK139 _ _ ?_
   clear hK139
   refine qsr fun K141 hK141 => ?_
   refine qpu 2 hs fun a hs => ?_
   refine qal 35 [ci 0, ci 0, ci 0] 5 hs fun b_142 w a hs => ?_
   refine qsa 0 [ci (-1), ci (-1), ci (-1)] hs rfl fun a w hs => ?_
   refine qpe 0 [(0, pp b_24), (1, .func (.func 132) #[pp b_24] #[]), (4, pp b_140), (5, pp b_142)] hs fun a hs => hK141 _ _ ?_
   clear hK141
   refine qsr fun K143 hK143 => ?_
   refine qpu 3 hs fun a hs => ?_
   refine qld 3 (cp b_x0) hs rfl fun a hs => ?_
   obtain ⟨g_144, hs⟩ := hs.unex 2 rfl
   obtain ⟨v_147, h_146, hm⟩ := bind_t hm
   refine qcl (wire_Machine_N.ok _ _ _ h_146 _ _ _ b_x0 g_144 hs.own.f2) hs fun w a hs => ?_
   rcases Bool.eq_false_or_eq_true (v_147 == 2) with hb | hb
   ·replace hm := bif_t hm hb
    obtain rfl := Vk.of_beq hb
    refine qpk 1 [0, 1, 4, 5, 6] hs fun a hs => hK143 _ _ ?_
    clear hK143
    refine Vk.seq fun K148 hK148 => ?_
    refine qsk 2 [0, 1, 4, 5, 6, 16, 17] hs fun a hs => ?_
    refine wp_block ?_
    refine Vk.unroll0 40 ?_
    refine Vk.unroll fun KL150 hKL150 => ?_
    refine qsk 1 [0, 1, 4, 5, 6, 16, 17, 18] hs fun a hs => ?_
    refine qck hs ?_
    refine Vk.seq fun K153 hK153 => ?_
    refine wp_block ?_
    refine qsk 2 [0, 1, 4, 5, 6, 7, 16, 17] hs fun a hs => ?_
    refine qsr fun K155 hK155 => ?_
    refine qpu 8 hs fun a hs => ?_
    refine qld 3 (ci v_81.1) hs rfl fun a hs => ?_
    refine qpu 2 hs fun a hs => ?_
    refine qst 1 0 (ci v_81.1) hs rfl fun a w hs => ?_
    refine qpk 0 [0, 1, 4, 5, 6, 7, 16, 17] hs fun a hs => hK155 _ _ ?_
    clear hK155
    refine qse 2 [(0, pp b_24), (1, .func (.func 132) #[pp b_24] #[]), (4, pp b_140), (5, pp b_142), (6, vi 2), (7, vi 0), (16, vi 2), (17, vi 0), (31, vi 2), (32, vi 0)] hs fun a hs => ?_
    refine wp_block ?_
    refine Vk.unroll0 40 ?_
    refine Vk.unroll fun KL157 hKL157 => ?_
    refine qsk 1 [0, 1, 4, 5, 6, 7, 16, 17, 31, 32, 33] hs fun a hs => ?_
    refine qck hs ?_
    refine Vk.seq fun K160 hK160 => ?_
    refine wp_block ?_
    refine qsk 2 [0, 1, 4, 5, 6, 7, 8, 16, 17, 31, 32] hs fun a hs => ?_
    refine qsk 3 [0, 1, 4, 5, 6, 7, 8, 16, 17, 31, 32, 37] hs fun a hs => ?_
    refine qcf hs ?_
    refine wp_skip ?_
    refine hK160 _ _ ?_
    clear hK160
    refine Vk.region ?_
    refine qpk 2 [0, 1, 4, 5, 6, 7, 16, 17, 31, 32] hs fun a hs => hKL157 _ _ ?_
    clear hKL157
    refine Vk.unroll fun KL163 hKL163 => ?_
    refine qsk 1 [0, 1, 4, 5, 6, 7, 16, 17, 31, 32, 33] hs fun a hs => ?_
    refine qck hs ?_
    refine Vk.seq fun K166 hK166 => ?_
    refine wp_block ?_
    refine qse 2 [(0, pp b_24), (1, .func (.func 132) #[pp b_24] #[]), (4, pp b_140), (5, pp b_142), (6, vi 2), (7, vi 0), (8, vi 1), (16, vi 2), (17, vi 0), (31, vi 2), (32, vi 1)] hs fun a hs => ?_
    refine qsk 3 [0, 1, 4, 5, 6, 7, 8, 16, 17, 31, 32, 37] hs fun a hs => ?_
    refine qct hs ?_
    obtain ⟨C_169, hC_169⟩ := qC hs.own.drop
    refine qdr 17 κ C_169 hs fun w hs hqC_169 => ?_
    have hcl := qO hC_169 hs.own.drop
    refine qdp (fuel := 6) [0, 1, 2, 3, 5, 6, 7, 8, 10, 11, 12, 15] hs hcl hqC_169 fun a hs => ?_
    refine qdl 4 2 (cp b_x0) hs hcl hqC_169 hC_169 rfl fun a hs => ?_
    refine qdl 9 0 (ci v_81.1) hs hcl hqC_169 hC_169 rfl fun a hs => ?_
    refine Vk.dOnly (i := 13) (by kernel_rfl) (Vk.call (some 51) 132 #[pp b_24, vi 0, vi 1] hs (by kernel_rfl) (by kernel_rfl) (by kernel_rfl) ?_)
    refine Vk.enterI [(0, pp b_24), (1, vi 0), (2, vi 1)] Tryz.func132 rfl Tryz.ntmps132 (by kernel_rfl) (Nat.le_of_ble_eq_true (by kernel_rfl)) hs.own fun KR170 hKR170 hKP170 a hs => ?_
    refine qsk 1 [0, 1, 2] hs fun a hs => ?_
    refine Vk.seq fun K172 hK172 => ?_
    obtain ⟨C_173, hC_173⟩ := qC hs.own
    refine qdr 17 κ C_173 hs fun w hs hqC_173 => ?_
    have hcl := qO hC_173 hs.own
    refine qdp (fuel := 5) [0, 1, 2, 4, 5, 6, 7, 8, 9, 10, 11, 13, 14, 15] hs hcl hqC_173 fun a hs => ?_
    refine qdl 3 3 (cp b_x0) hs hcl hqC_173 hC_173 rfl fun a hs => ?_
    refine qdl 12 3 (ci v_94.1) hs hcl hqC_173 hC_173 rfl fun a hs => ?_
    refine Vk.dOnly (i := 16) (by kernel_rfl) (Vk.call (some 23) 139 #[pp b_24, vi 0, vi 1] hs (by kernel_rfl) (by kernel_rfl) (by kernel_rfl) ?_)
    refine Vk.enterI [(0, pp b_24), (1, vi 0), (2, vi 1)] Tryz.func139 rfl Tryz.ntmps139 (by kernel_rfl) (Nat.le_of_ble_eq_true (by kernel_rfl)) hs.own fun KR174 hKR174 hKP174 a hs => ?_
    refine qsk 1 [0, 1, 2] hs fun a hs => ?_
    refine qsr fun K176 hK176 => ?_
    refine qpu 3 hs fun a hs => ?_
    refine qld 3 (C.map (some b_23)) hs rfl fun a hs => ?_
    refine qpu 7 hs fun a hs => ?_
    refine qva (vi v_45.1) (op := (.lookup 143 (.tmp 10) (.tmp 17) false)) hs (fun o ho => run_lookup (b := b_23) (key := .agg (vals [ci 0, ci 1])) 4 rfl ho (by kernel_rfl) (by kernel_rfl) (by kernel_rfl) _ hs.own) fun a hs => ?_
    refine qpe 1 [(6, vi v_45.1)] hs fun a hs => hK176 _ _ ?_
    clear hK176
    refine wp_ret ?_
    refine hKP174 _ _ ?_
    refine hKR174 _ _ ?_
    refine Vk.ret1 (P := Tryz.prog) (fn := Tryz.f139) (vi v_45.1) hs rfl (by kernel_rfl) ⟨_, _, _, rfl, hs.own, fun a hs => ?_⟩
    replace hcl := qO hC_173 hs.own
    refine ⟨fun _ => hcl, ?_⟩
    replace hs := hs.toEx (Twire_Machine.parts b_x0 v_129.2) g_144 0 rfl
    obtain ⟨v_179, h_178, hm⟩ := bind_t hm
    refine qdc 17 (wire_Machine_Two.ok _ _ _ _ _ _ _ h_178 _ _ _ b_x0 hs.own) hs fun w a hs => ?_
    refine ⟨fun h => absurd h (by decide), ?_⟩
    refine Vk.dOnly (i := 18) (by kernel_rfl) (Vk.dPure1 [(6, vi v_179.1)] hs (by kernel_rfl) fun a hs => ?_)
    refine ⟨fun h => absurd h (by decide), ?_⟩
    replace hs := hs.pick [6] (L' := [(6, vi v_179.1)]) (by kernel_rfl)
    refine Vk.dDone (by kernel_rfl) ?_
    refine hK172 _ _ ?_
    clear hK172
    refine wp_ret ?_
    refine hKP170 _ _ ?_
    refine hKR170 _ _ ?_
    refine Vk.ret1 (P := Tryz.prog) (fn := Tryz.f132) (vi v_179.1) hs rfl (by kernel_rfl) ⟨_, _, _, rfl, hs.own, fun a hs => ?_⟩
    replace hcl := qO hC_169 hs.own.drop
    refine ⟨fun _ => hcl, ?_⟩
    obtain ⟨v_182, h_181, hm⟩ := bind_t hm
    refine qdc 14 (wire_Machine_Two.ok _ _ _ _ _ _ _ h_181 _ _ _ b_x0 hs.own) hs fun w a hs => ?_
    replace hcl := qO hC_169 hs.own.drop
    refine ⟨fun _ => hcl, ?_⟩
    refine qdp (fuel := 1) [16] hs hcl hqC_169 fun a hs => ?_
    refine qsd 17 1 0 (ci v_182.1) hs rfl fun a w hs => ?_
    refine ⟨fun h => absurd h (by decide), ?_⟩
    replace hs := hs.pick [0, 1, 4, 5, 6, 7, 16, 17, 31, 32] (L' := [(0, pp b_24), (1, .func (.func 132) #[pp b_24] #[]), (4, pp b_140), (5, pp b_142), (6, vi 2), (7, vi 0), (16, vi 2), (17, vi 0), (31, vi 2), (32, vi 1)]) (by kernel_rfl)
    refine Vk.dDone (by kernel_rfl) ?_
    refine hK166 _ _ ?_
    clear hK166
    refine Vk.region ?_
    refine qpk 2 [0, 1, 4, 5, 6, 7, 16, 17, 31, 32] hs fun a hs => hKL163 _ _ ?_
    clear hKL163
    refine Vk.unroll fun KL183 hKL183 => ?_
    refine qsk 1 [0, 1, 4, 5, 6, 7, 16, 17, 31, 32, 33] hs fun a hs => ?_
    refine Vk.seq fun K185 hK185 => ?_
    refine qcf hs ?_
    refine wp_exit ?_
    refine hK153 _ _ ?_
    clear hK153
    refine Vk.region ?_
    refine qpk 2 [0, 1, 4, 5, 6, 16, 17] hs fun a hs => hKL150 _ _ ?_
    clear hKL150
    refine Vk.unroll fun KL186 hKL186 => ?_
    refine qsk 1 [0, 1, 4, 5, 6, 16, 17, 18] hs fun a hs => ?_
    refine qck hs ?_
    refine Vk.seq fun K189 hK189 => ?_
    refine wp_block ?_
    refine qsk 2 [0, 1, 4, 5, 6, 7, 16, 17] hs fun a hs => ?_
    refine qsr fun K191 hK191 => ?_
    refine qpu 8 hs fun a hs => ?_
    refine qld 3 (ci v_129.1) hs rfl fun a hs => ?_
    refine qpu 2 hs fun a hs => ?_
    refine qst 1 1 (ci v_129.1) hs rfl fun a w hs => ?_
    refine qpe 0 [(0, pp b_24), (1, .func (.func 132) #[pp b_24] #[]), (4, pp b_140), (5, pp b_142), (6, vi 2), (7, vi 1), (16, vi 2), (17, vi 1)] hs fun a hs => hK191 _ _ ?_
    clear hK191
    refine qsk 2 [0, 1, 4, 5, 6, 7, 16, 17, 31, 32] hs fun a hs => ?_
    refine wp_block ?_
    refine Vk.unroll0 40 ?_
    refine Vk.unroll fun KL193 hKL193 => ?_
    refine qsk 1 [0, 1, 4, 5, 6, 7, 16, 17, 31, 32, 33] hs fun a hs => ?_
    refine qck hs ?_
    refine Vk.seq fun K196 hK196 => ?_
    refine wp_block ?_
    refine qsk 2 [0, 1, 4, 5, 6, 7, 8, 16, 17, 31, 32] hs fun a hs => ?_
    refine qsk 3 [0, 1, 4, 5, 6, 7, 8, 16, 17, 31, 32, 37] hs fun a hs => ?_
    refine qct hs ?_
    obtain ⟨C_199, hC_199⟩ := qC hs.own.drop
    refine qdr 17 κ C_199 hs fun w hs hqC_199 => ?_
    have hcl := qO hC_199 hs.own.drop
    refine qdp (fuel := 6) [0, 1, 2, 3, 5, 6, 7, 8, 10, 11, 12, 15] hs hcl hqC_199 fun a hs => ?_
    refine qdl 4 2 (cp b_x0) hs hcl hqC_199 hC_199 rfl fun a hs => ?_
    refine qdl 9 0 (ci v_129.1) hs hcl hqC_199 hC_199 rfl fun a hs => ?_
    refine Vk.dOnly (i := 13) (by kernel_rfl) (Vk.call (some 51) 132 #[pp b_24, vi 1, vi 0] hs (by kernel_rfl) (by kernel_rfl) (by kernel_rfl) ?_)
    refine Vk.enterI [(0, pp b_24), (1, vi 1), (2, vi 0)] Tryz.func132 rfl Tryz.ntmps132 (by kernel_rfl) (Nat.le_of_ble_eq_true (by kernel_rfl)) hs.own fun KR200 hKR200 hKP200 a hs => ?_
    refine qsk 1 [0, 1, 2] hs fun a hs => ?_
    refine Vk.seq fun K202 hK202 => ?_
    obtain ⟨C_203, hC_203⟩ := qC hs.own
    refine qdr 17 κ C_203 hs fun w hs hqC_203 => ?_
    have hcl := qO hC_203 hs.own
    refine qdp (fuel := 5) [0, 1, 2, 4, 5, 6, 7, 8, 9, 10, 11, 13, 14, 15] hs hcl hqC_203 fun a hs => ?_
    refine qdl 3 3 (cp b_x0) hs hcl hqC_203 hC_203 rfl fun a hs => ?_
    refine qdl 12 3 (ci v_116.1) hs hcl hqC_203 hC_203 rfl fun a hs => ?_
    refine Vk.dOnly (i := 16) (by kernel_rfl) (Vk.call (some 23) 139 #[pp b_24, vi 1, vi 0] hs (by kernel_rfl) (by kernel_rfl) (by kernel_rfl) ?_)
    refine Vk.enterI [(0, pp b_24), (1, vi 1), (2, vi 0)] Tryz.func139 rfl Tryz.ntmps139 (by kernel_rfl) (Nat.le_of_ble_eq_true (by kernel_rfl)) hs.own fun KR204 hKR204 hKP204 a hs => ?_
    refine qse 1 [(0, pp b_24), (1, vi 1), (2, vi 0)] hs fun a hs => ?_
    refine qsr fun K206 hK206 => ?_
    refine qpu 3 hs fun a hs => ?_
    refine qld 3 (C.map (some b_23)) hs rfl fun a hs => ?_
    refine qpu 7 hs fun a hs => ?_
    refine qva (vi v_45.1) (op := (.lookup 143 (.tmp 10) (.tmp 17) false)) hs (fun o ho => run_lookup (b := b_23) (key := .agg (vals [ci 0, ci 1])) 4 rfl ho (by kernel_rfl) (by kernel_rfl) (by kernel_rfl) _ hs.own) fun a hs => ?_
    refine qpe 1 [(6, vi v_45.1)] hs fun a hs => hK206 _ _ ?_
    clear hK206
    refine wp_ret ?_
    refine hKP204 _ _ ?_
    refine hKR204 _ _ ?_
    refine Vk.ret1 (P := Tryz.prog) (fn := Tryz.f139) (vi v_45.1) hs rfl (by kernel_rfl) ⟨_, _, _, rfl, hs.own, fun a hs => ?_⟩
    replace hcl := qO hC_203 hs.own
    refine ⟨fun _ => hcl, ?_⟩
    obtain ⟨v_209, h_208, hm⟩ := bind_t hm
    refine qdc 17 (wire_Machine_Two.ok _ _ _ _ _ _ _ h_208 _ _ _ b_x0 hs.own) hs fun w a hs => ?_
    refine ⟨fun h => absurd h (by decide), ?_⟩
    refine Vk.dOnly (i := 18) (by kernel_rfl) (Vk.dPure1 [(6, vi v_209.1)] hs (by kernel_rfl) fun a hs => ?_)
    refine ⟨fun h => absurd h (by decide), ?_⟩
    replace hs := hs.pick [6] (L' := [(6, vi v_209.1)]) (by kernel_rfl)
    refine Vk.dDone (by kernel_rfl) ?_
    refine hK202 _ _ ?_
    clear hK202
    refine wp_ret ?_
    refine hKP200 _ _ ?_
    refine hKR200 _ _ ?_
    refine Vk.ret1 (P := Tryz.prog) (fn := Tryz.f132) (vi v_209.1) hs rfl (by kernel_rfl) ⟨_, _, _, rfl, hs.own, fun a hs => ?_⟩
    replace hcl := qO hC_199 hs.own.drop
    refine ⟨fun _ => hcl, ?_⟩
    obtain ⟨v_212, h_211, hm⟩ := bind_t hm
    refine qdc 14 (wire_Machine_Two.ok _ _ _ _ _ _ _ h_211 _ _ _ b_x0 hs.own) hs fun w a hs => ?_
    replace hcl := qO hC_199 hs.own.drop
    refine ⟨fun _ => hcl, ?_⟩
    refine qdp (fuel := 1) [16] hs hcl hqC_199 fun a hs => ?_
    refine qsd 17 1 1 (ci v_212.1) hs rfl fun a w hs => ?_
    refine ⟨fun h => absurd h (by decide), ?_⟩
    replace hs := hs.pick [0, 1, 4, 5, 6, 7, 16, 17, 31, 32] (L' := [(0, pp b_24), (1, .func (.func 132) #[pp b_24] #[]), (4, pp b_140), (5, pp b_142), (6, vi 2), (7, vi 1), (16, vi 2), (17, vi 1), (31, vi 2), (32, vi 0)]) (by kernel_rfl)
    refine Vk.dDone (by kernel_rfl) ?_
    refine hK196 _ _ ?_
    clear hK196
    refine Vk.region ?_
    refine qpk 2 [0, 1, 4, 5, 6, 7, 16, 17, 31, 32] hs fun a hs => hKL193 _ _ ?_
    clear hKL193
    refine Vk.unroll fun KL213 hKL213 => ?_
    refine qsk 1 [0, 1, 4, 5, 6, 7, 16, 17, 31, 32, 33] hs fun a hs => ?_
    refine qck hs ?_
    refine Vk.seq fun K216 hK216 => ?_
    refine wp_block ?_
    refine qsk 2 [0, 1, 4, 5, 6, 7, 8, 16, 17, 31, 32] hs fun a hs => ?_
    refine qsk 3 [0, 1, 4, 5, 6, 7, 8, 16, 17, 31, 32, 37] hs fun a hs => ?_
    refine qcf hs ?_
    refine wp_skip ?_
    refine hK216 _ _ ?_
    clear hK216
    refine Vk.region ?_
    refine qpk 2 [0, 1, 4, 5, 6, 7, 16, 17, 31, 32] hs fun a hs => hKL213 _ _ ?_
    clear hKL213
    refine Vk.unroll fun KL219 hKL219 => ?_
    refine qse 1 [(0, pp b_24), (1, .func (.func 132) #[pp b_24] #[]), (4, pp b_140), (5, pp b_142), (6, vi 2), (7, vi 1), (16, vi 2), (17, vi 1), (31, vi 2), (32, vi 2), (33, .bool false)] hs fun a hs => ?_
    refine Vk.seq fun K221 hK221 => ?_
    refine qcf hs ?_
    refine wp_exit ?_
    refine hK189 _ _ ?_
    clear hK189
    refine Vk.region ?_
    refine qpk 2 [0, 1, 4, 5, 6, 16, 17] hs fun a hs => hKL186 _ _ ?_
    clear hKL186
    refine Vk.unroll fun KL222 hKL222 => ?_
    refine qsk 1 [0, 1, 4, 5, 6, 16, 17, 18] hs fun a hs => ?_
    refine Vk.seq fun K224 hK224 => ?_
    refine qcf hs ?_
    refine wp_exit ?_
    refine hK148 _ _ ?_
    clear hK148
    refine qsr fun K225 hK225 => ?_
    refine qln 1 ([ci v_182.1, ci v_212.1, ci (-1)]) hs rfl fun a hs => ?_
    refine qsa 2 [ci v_182.1, ci v_212.1, ci (-1)] hs rfl fun a w hs => ?_
    refine qpe 0 [(4, pp b_140)] hs fun a hs => hK225 _ _ ?_
    clear hK225
    refine wp_ret ?_
    refine hKP138 _ _ ?_
    refine hKR138 _ _ ?_
    refine Vk.retC (P := Tryz.prog) (fn := Tryz.f131) [ci v_182.1, ci v_212.1, ci (-1)] hs rfl (by kernel_rfl) (sz := 3) (by kernel_rfl) rfl (CellsAt.all 2 rfl) ⟨_, _, _, rfl, hs.own, fun a hs => ?_⟩
    refine qal 35 [ci 0, ci 0, ci 0] 8 hs fun b_226 w a hs => ?_
    refine qsa 0 [ci v_182.1, ci v_212.1, ci (-1)] hs rfl fun a w hs => ?_
    refine qpk 0 [0, 6, 8] hs fun a hs => hK137 _ _ ?_
    clear hK137
    refine qsr fun K227 hK227 => ?_
    refine qpu 1 hs fun a hs => ?_
    obtain ⟨v_230, h_229, hm⟩ := bind_t hm
    refine qcl (wire_Machine_End.ok _ _ _ h_229 _ _ _ b_x0 hs.own.f1) hs fun w a hs => ?_
    refine qpe 0 [(6, pp b_4), (8, pp b_226)] hs fun a hs => hK227 _ _ ?_
    clear hK227
    refine qsr fun K231 hK231 => ?_
    refine qln 1 ([ci v_182.1, ci v_212.1, ci (-1)]) hs rfl fun a hs => ?_
    refine qsa 8 [ci v_182.1, ci v_212.1, ci (-1)] hs rfl fun a w hs => ?_
    refine qpe 0 [(6, pp b_4)] hs fun a hs => hK231 _ _ ?_
    clear hK231
    refine wp_ret ?_
    exact Vk.retC [ci v_182.1, ci v_212.1, ci (-1)] hs rfl (by kernel_rfl) (sz := 3) (by kernel_rfl) rfl (CellsAt.all 8 rfl) (hRR ▸ by cases hm; exact ⟨rfl, (hs.own.too [0] 11)⟩)
   ·replace hm := bif_f hm hb
    cases hm
  ·replace hm := bif_f hm hb
   cases hm
 ·replace hm := bif_f hm hb
  rcases Bool.eq_false_or_eq_true (v_10 == 3) with hb | hb
  ·replace hm := bif_t hm hb
   obtain rfl := Vk.of_beq hb
   refine qpk 1 [0, 4, 5, 6, 11] hs fun a hs => hK6 _ _ ?_
   refine qcf hs ?_
   refine wp_skip ?_
   refine hK5 _ _ ?_
   refine qsr fun K232 hK232 => ?_
   refine qpu 1 hs fun a hs => ?_
   replace hs := hs.toEx (Twire_Machine.parts b_x0 x0) g_7 0 rfl
   obtain ⟨v_235, h_234, hm⟩ := bind_t hm
   refine qcl (wire_Machine_Begin.ok _ _ _ _ h_234 _ _ _ b_x0 hs.own) hs fun w a hs => ?_
   refine qpk 0 [0, 4, 5, 6] hs fun a hs => hK232 _ _ ?_
   clear hK232
   refine qsr fun K236 hK236 => ?_
   refine qpu 1 hs fun a hs => ?_
   obtain ⟨h_237, hm⟩ := ite_t hm
   refine qlw 3 hs rfl h_237 fun a hs => ?_
   obtain ⟨h_238, hm⟩ := ite_t hm
   refine qlw 2 hs rfl h_238 fun a hs => ?_
   refine Vk.step (Vk.call (some 19) 130 #[pp b_x0, .agg (vals x1), .agg (vals x2)] hs (by kernel_rfl) (by kernel_rfl) (by kernel_rfl) ?_)
   refine Vk.enterI [(0, pp b_x0), (1, .agg (vals x1)), (2, .agg (vals x2))] Tryz.func130 rfl Tryz.ntmps130 (by kernel_rfl) (Nat.le_of_ble_eq_true (by kernel_rfl)) hs.own fun KR239 hKR239 hKP239 a hs => ?_
   refine qsr fun K240 hK240 => ?_
   refine qbx 1 35 x1 4 hs fun b_241 w a hs => ?_
   refine qbx 2 35 x2 5 hs fun b_242 w a hs => ?_
   refine qpk 1 [0, 4, 5] hs fun a hs => hK240 _ _ ?_
   clear hK240
   refine qsr fun K243 hK243 => ?_
   refine qpu 1 hs fun a hs => ?_
   refine Vk.step (Vk.mapOp 14 143 hs (by kernel_rfl) (by kernel_rfl) fun b_244 w a hs => ?_)
   refine qpu 1 hs fun a hs => ?_
   refine qbx 15 145 [cp b_x0, C.map (some b_244), ci 0, ci 0, ci 0, ci 0, ci 0, ci 0, ci 0, ci 0, ci 0] 16 hs fun b_245 w a hs => ?_
   refine qpe 1 [(0, pp b_x0), (4, pp b_241), (5, pp b_242), (7, pp b_245)] hs fun a hs => hK243 _ _ ?_
   clear hK243
   refine qsr fun K246 hK246 => ?_
   refine qpu 1 hs fun a hs => ?_
   obtain ⟨g_247, hs⟩ := hs.unex 4 rfl
   obtain ⟨v_250, h_249, hm⟩ := bind_t hm
   refine qcl (wire_Machine_N.ok _ _ _ h_249 _ _ _ b_x0 g_247 hs.own.f4) hs fun w a hs => ?_
   rcases Bool.eq_false_or_eq_true (v_250 == 3) with hb | hb
   ·replace hm := bif_t hm hb
    obtain rfl := Vk.of_beq hb
    refine qpk 1 [0, 4, 5, 7, 8] hs fun a hs => hK246 _ _ ?_
    clear hK246
    refine Vk.seq fun K251 hK251 => ?_
    refine qsk 2 [0, 4, 5, 7, 8, 19, 20] hs fun a hs => ?_
    refine wp_block ?_
    refine Vk.unroll0 40 ?_
    refine Vk.unroll fun KL253 hKL253 => ?_
    refine qsk 1 [0, 4, 5, 7, 8, 19, 20, 21] hs fun a hs => ?_
    refine qck hs ?_
    refine Vk.seq fun K256 hK256 => ?_
    refine wp_block ?_
    refine qsk 2 [0, 4, 5, 7, 8, 9, 19, 20] hs fun a hs => ?_
    refine qsk 3 [0, 4, 5, 7, 8, 9, 10, 19, 20] hs fun a hs => ?_
    refine wp_block ?_
    refine Vk.unroll0 40 ?_
    refine Vk.unroll fun KL259 hKL259 => ?_
    refine Vk.seq fun K260 hK260 => ?_
    refine qse 3 [(0, pp b_x0), (4, pp b_241), (5, pp b_242), (7, pp b_245), (8, vi 3), (9, vi 0), (10, vi 1), (19, vi 3), (20, vi 0), (27, .bool true)] hs fun a hs => ?_
    refine qct hs ?_
    refine wp_skip ?_
    refine hK260 _ _ ?_
    clear hK260
    refine Vk.seq fun K262 hK262 => ?_
    refine wp_block ?_
    obtain ⟨C_263, hC_263⟩ := qC hs.own.drop
    refine qdr 9 κ C_263 hs fun w hs hqC_263 => ?_
    have hcl := qO hC_263 hs.own.drop
    refine qdp (fuel := 3) [0, 1, 2, 4, 5, 6, 7] hs hcl hqC_263 fun a hs => ?_
    refine qdl 3 0 (C.map (some b_244)) hs hcl hqC_263 hC_263 rfl fun a hs => ?_
    replace hs := hs.toEx (Twire_Machine.parts b_x0 v_235) g_247 0 rfl
    obtain ⟨v_266, h_265, hm⟩ := bind_t hm
    refine qdc 8 (wire_Machine_Rand.ok _ _ _ _ h_265 _ _ _ b_x0 hs.own) hs fun w a hs => ?_
    replace hcl := qO hC_263 hs.own.drop
    refine ⟨fun _ => hcl, ?_⟩
    refine Vk.dOnly (i := 9) (by kernel_rfl) (Vk.updateOp (t := 143) (xm := (.tmp 33)) (xk := (.tmp 36)) (xv := (.tmp 38)) (b := b_244) (es' := #[⟨.agg (vals [ci 0, ci 1]), vi v_266.1, 0⟩]) (clock' := 1) (.agg (vals [ci 0, ci 1])) (vi v_266.1) 2 hs (by kernel_rfl) (by kernel_rfl) (by kernel_rfl) (by kernel_rfl) (by kernel_rfl) rfl (by kernel_rfl) fun a w hs => ?_)
    refine ⟨fun h => absurd h (by decide), ?_⟩
    replace hs := hs.pick [0, 4, 5, 7, 8, 9, 10, 19, 20] (L' := [(0, pp b_x0), (4, pp b_241), (5, pp b_242), (7, pp b_245), (8, vi 3), (9, vi 0), (10, vi 1), (19, vi 3), (20, vi 0)]) (by kernel_rfl)
    refine Vk.dDone (by kernel_rfl) ?_
    refine hK262 _ _ ?_
    clear hK262
    refine Vk.region ?_
    refine qpk 3 [0, 4, 5, 7, 8, 9, 10, 19, 20] hs fun a hs => hKL259 _ _ ?_
    clear hKL259
    refine Vk.unroll fun KL267 hKL267 => ?_
    refine Vk.seq fun K268 hK268 => ?_
    refine qsk 3 [0, 4, 5, 7, 8, 9, 10, 19, 20, 27] hs fun a hs => ?_
    refine qct hs ?_
    refine wp_skip ?_
    refine hK268 _ _ ?_
    clear hK268
    refine Vk.seq fun K270 hK270 => ?_
    refine wp_block ?_
    obtain ⟨C_271, hC_271⟩ := qC hs.own.drop
    refine qdr 9 κ C_271 hs fun w hs hqC_271 => ?_
    have hcl := qO hC_271 hs.own.drop
    refine qdp (fuel := 3) [0, 1, 2, 4, 5, 6, 7] hs hcl hqC_271 fun a hs => ?_
    refine qdl 3 0 (C.map (some b_244)) hs hcl hqC_271 hC_271 rfl fun a hs => ?_
    obtain ⟨v_274, h_273, hm⟩ := bind_t hm
    refine qdc 8 (wire_Machine_Rand.ok _ _ _ _ h_273 _ _ _ b_x0 hs.own) hs fun w a hs => ?_
    replace hcl := qO hC_271 hs.own.drop
    refine ⟨fun _ => hcl, ?_⟩
    refine Vk.dOnly (i := 9) (by kernel_rfl) (Vk.updateOp (t := 143) (xm := (.tmp 33)) (xk := (.tmp 36)) (xv := (.tmp 38)) (b := b_244) (es' := #[⟨.agg (vals [ci 0, ci 1]), vi v_266.1, 0⟩, ⟨.agg (vals [ci 0, ci 2]), vi v_274.1, 1⟩]) (clock' := 2) (.agg (vals [ci 0, ci 2])) (vi v_274.1) 2 hs (by kernel_rfl) (by kernel_rfl) (by kernel_rfl) (by kernel_rfl) (by kernel_rfl) rfl (by kernel_rfl) fun a w hs => ?_)
    refine ⟨fun h => absurd h (by decide), ?_⟩
    replace hs := hs.pick [0, 4, 5, 7, 8, 9, 10, 19, 20] (L' := [(0, pp b_x0), (4, pp b_241), (5, pp b_242), (7, pp b_245), (8, vi 3), (9, vi 0), (10, vi 2), (19, vi 3), (20, vi 0)]) (by kernel_rfl)
    refine Vk.dDone (by kernel_rfl) ?_
    refine hK270 _ _ ?_
    clear hK270
    refine Vk.region ?_
    refine qpk 3 [0, 4, 5, 7, 8, 9, 10, 19, 20] hs fun a hs => hKL267 _ _ ?_
    clear hKL267
    refine Vk.unroll fun KL275 hKL275 => ?_
    refine Vk.seq fun K276 hK276 => ?_
    refine qsk 3 [0, 4, 5, 7, 8, 9, 10, 19, 20, 27] hs fun a hs => ?_
    refine qcf hs ?_
    refine wp_exit ?_
    refine hK256 _ _ ?_
    clear hK256
    refine Vk.region ?_
    refine qpk 2 [0, 4, 5, 7, 8, 19, 20] hs fun a hs => hKL253 _ _ ?_
    clear hKL253
    refine Vk.unroll fun KL278 hKL278 => ?_
    refine qse 1 [(0, pp b_x0), (4, pp b_241), (5, pp b_242), (7, pp b_245), (8, vi 3), (19, vi 3), (20, vi 1), (21, .bool true)] hs fun a hs => ?_
    refine qck hs ?_
    refine Vk.seq fun K281 hK281 => ?_
    refine wp_block ?_
    refine qsk 2 [0, 4, 5, 7, 8, 9, 19, 20] hs fun a hs => ?_
    refine qsk 3 [0, 4, 5, 7, 8, 9, 10, 19, 20] hs fun a hs => ?_
    refine wp_block ?_
    refine Vk.unroll0 40 ?_
    refine Vk.unroll fun KL284 hKL284 => ?_
    refine Vk.seq fun K285 hK285 => ?_
    refine qsk 3 [0, 4, 5, 7, 8, 9, 10, 19, 20, 27] hs fun a hs => ?_
    refine qct hs ?_
    refine wp_skip ?_
    refine hK285 _ _ ?_
    clear hK285
    refine Vk.seq fun K287 hK287 => ?_
    refine wp_block ?_
    obtain ⟨C_288, hC_288⟩ := qC hs.own.drop
    refine qdr 9 κ C_288 hs fun w hs hqC_288 => ?_
    have hcl := qO hC_288 hs.own.drop
    refine qdp (fuel := 3) [0, 1, 2, 4, 5, 6, 7] hs hcl hqC_288 fun a hs => ?_
    refine qdl 3 0 (C.map (some b_244)) hs hcl hqC_288 hC_288 rfl fun a hs => ?_
    obtain ⟨v_291, h_290, hm⟩ := bind_t hm
    refine qdc 8 (wire_Machine_Rand.ok _ _ _ _ h_290 _ _ _ b_x0 hs.own) hs fun w a hs => ?_
    replace hcl := qO hC_288 hs.own.drop
    refine ⟨fun _ => hcl, ?_⟩
    refine Vk.dOnly (i := 9) (by kernel_rfl) (Vk.updateOp (t := 143) (xm := (.tmp 33)) (xk := (.tmp 36)) (xv := (.tmp 38)) (b := b_244) (es' := #[⟨.agg (vals [ci 0, ci 1]), vi v_266.1, 0⟩, ⟨.agg (vals [ci 0, ci 2]), vi v_274.1, 1⟩, ⟨.agg (vals [ci 1, ci 2]), vi v_291.1, 2⟩]) (clock' := 3) (.agg (vals [ci 1, ci 2])) (vi v_291.1) 2 hs (by kernel_rfl) (by kernel_rfl) (by kernel_rfl) (by kernel_rfl) (by kernel_rfl) rfl (by kernel_rfl) fun a w hs => ?_)
    refine ⟨fun h => absurd h (by decide), ?_⟩
    replace hs := hs.pick [0, 4, 5, 7, 8, 9, 10, 19, 20] (L' := [(0, pp b_x0), (4, pp b_241), (5, pp b_242), (7, pp b_245), (8, vi 3), (9, vi 1), (10, vi 2), (19, vi 3), (20, vi 1)]) (by kernel_rfl)
    refine Vk.dDone (by kernel_rfl) ?_
    refine hK287 _ _ ?_
    clear hK287
    refine Vk.region ?_
    refine qpk 3 [0, 4, 5, 7, 8, 9, 10, 19, 20] hs fun a hs => hKL284 _ _ ?_
    clear hKL284
    refine Vk.unroll fun KL292 hKL292 => ?_
    refine Vk.seq fun K293 hK293 => ?_
    refine qsk 3 [0, 4, 5, 7, 8, 9, 10, 19, 20, 27] hs fun a hs => ?_
    refine qcf hs ?_
    refine wp_exit ?_
    refine hK281 _ _ ?_
    clear hK281
    refine Vk.region ?_
    refine qpe 2 [(0, pp b_x0), (4, pp b_241), (5, pp b_242), (7, pp b_245), (8, vi 3), (19, vi 3), (20, vi 2)] hs fun a hs => hKL278 _ _ ?_
    clear hKL278
    refine Vk.unroll fun KL295 hKL295 => ?_
    refine qsk 1 [0, 4, 5, 7, 8, 19, 20, 21] hs fun a hs => ?_
    refine qck hs ?_
    refine Vk.seq fun K298 hK298 => ?_
    refine wp_block ?_
    refine qsk 2 [0, 4, 5, 7, 8, 9, 19, 20] hs fun a hs => ?_
    refine qsk 3 [0, 4, 5, 7, 8, 9, 10, 19, 20] hs fun a hs => ?_
    refine wp_block ?_
    refine Vk.unroll0 40 ?_
    refine Vk.unroll fun KL301 hKL301 => ?_
    refine Vk.seq fun K302 hK302 => ?_
    refine qsk 3 [0, 4, 5, 7, 8, 9, 10, 19, 20, 27] hs fun a hs => ?_
    refine qcf hs ?_
    refine wp_exit ?_
    refine hK298 _ _ ?_
    clear hK298
    refine Vk.region ?_
    refine qpk 2 [0, 4, 5, 7, 8, 19, 20] hs fun a hs => hKL295 _ _ ?_
    clear hKL295
    refine Vk.unroll fun KL304 hKL304 => ?_
    refine qse 1 [(0, pp b_x0), (4, pp b_241), (5, pp b_242), (7, pp b_245), (8, vi 3), (19, vi 3), (20, vi 3), (21, .bool false)] hs fun a hs => ?_
    refine Vk.seq fun K306 hK306 => ?_
    refine qcf hs ?_
    refine wp_exit ?_
    refine hK251 _ _ ?_
    clear hK251
    refine Vk.seq fun K307 hK307 => ?_
    refine qsk 2 [0, 4, 5, 7, 8, 40, 41] hs fun a hs => ?_
    refine wp_block ?_
    refine Vk.unroll0 40 ?_
    refine Vk.unroll fun KL309 hKL309 => ?_
    refine qsk 1 [0, 4, 5, 7, 8, 40, 41, 42] hs fun a hs => ?_
    refine qck hs ?_
    refine Vk.seq fun K312 hK312 => ?_
    refine wp_block ?_
    refine qsk 2 [0, 4, 5, 7, 8, 11, 40, 41] hs fun a hs => ?_
    refine qsk 2 [0, 4, 5, 7, 8, 11, 40, 41, 44, 45] hs fun a hs => ?_
    refine wp_block ?_
    refine Vk.unroll0 40 ?_
    refine Vk.unroll fun KL315 hKL315 => ?_
    refine qsk 1 [0, 4, 5, 7, 8, 11, 40, 41, 44, 45, 46] hs fun a hs => ?_
    refine qck hs ?_
    refine Vk.seq fun K318 hK318 => ?_
    refine wp_block ?_
    refine qse 2 [(0, pp b_x0), (4, pp b_241), (5, pp b_242), (7, pp b_245), (8, vi 3), (11, vi 0), (12, vi 0), (40, vi 3), (41, vi 0), (44, vi 3), (45, vi 0)] hs fun a hs => ?_
    obtain ⟨C_320, hC_320⟩ := qC hs.own.drop
    refine qdr 18 κ C_320 hs fun w hs hqC_320 => ?_
    have hcl := qO hC_320 hs.own.drop
    refine qdp (fuel := 5) [0, 1, 2, 3, 4, 5, 6, 7, 9, 10, 11, 14, 15, 16] hs hcl hqC_320 fun a hs => ?_
    obtain ⟨v_322, h_321, hm⟩ := bind_t hm
    refine qdi 8 3 hs hcl hqC_320 hC_320 rfl h_321 fun a hs => ?_
    obtain ⟨v_324, h_323, hm⟩ := bind_t hm
    refine qdi 12 2 hs hcl hqC_320 hC_320 rfl h_323 fun a hs => ?_
    obtain ⟨v_327, h_326, hm⟩ := bind_t hm
    refine qdc 13 (wire_Machine_Two.ok _ _ _ _ _ _ _ h_326 _ _ _ b_x0 hs.own) hs fun w a hs => ?_
    replace hcl := qO hC_320 hs.own.drop
    refine ⟨fun _ => hcl, ?_⟩
    refine qdp (fuel := 1) [17] hs hcl hqC_320 fun a hs => ?_
    refine qsd 18 1 2 (ci v_327.1) hs rfl fun a w hs => ?_
    refine ⟨fun h => absurd h (by decide), ?_⟩
    replace hs := hs.pick [0, 4, 5, 7, 8, 11, 40, 41, 44, 45] (L' := [(0, pp b_x0), (4, pp b_241), (5, pp b_242), (7, pp b_245), (8, vi 3), (11, vi 0), (40, vi 3), (41, vi 0), (44, vi 3), (45, vi 0)]) (by kernel_rfl)
    refine Vk.dDone (by kernel_rfl) ?_
    refine hK318 _ _ ?_
    clear hK318
    refine Vk.region ?_
    refine qpk 2 [0, 4, 5, 7, 8, 11, 40, 41, 44, 45] hs fun a hs => hKL315 _ _ ?_
    clear hKL315
    refine Vk.unroll fun KL328 hKL328 => ?_
    refine qsk 1 [0, 4, 5, 7, 8, 11, 40, 41, 44, 45, 46] hs fun a hs => ?_
    refine qck hs ?_
    refine Vk.seq fun K331 hK331 => ?_
    refine wp_block ?_
    refine qsk 2 [0, 4, 5, 7, 8, 11, 12, 40, 41, 44, 45] hs fun a hs => ?_
    obtain ⟨C_333, hC_333⟩ := qC hs.own.drop
    refine qdr 18 κ C_333 hs fun w hs hqC_333 => ?_
    have hcl := qO hC_333 hs.own.drop
    refine qdp (fuel := 5) [0, 1, 2, 3, 4, 5, 6, 7, 9, 10, 11, 14, 15, 16] hs hcl hqC_333 fun a hs => ?_
    obtain ⟨v_335, h_334, hm⟩ := bind_t hm
    refine qdi 8 3 hs hcl hqC_333 hC_333 rfl h_334 fun a hs => ?_
    obtain ⟨v_337, h_336, hm⟩ := bind_t hm
    refine qdi 12 2 hs hcl hqC_333 hC_333 rfl h_336 fun a hs => ?_
    obtain ⟨v_340, h_339, hm⟩ := bind_t hm
    refine qdc 13 (wire_Machine_Two.ok _ _ _ _ _ _ _ h_339 _ _ _ b_x0 hs.own) hs fun w a hs => ?_
    replace hcl := qO hC_333 hs.own.drop
    refine ⟨fun _ => hcl, ?_⟩
    refine qdp (fuel := 1) [17] hs hcl hqC_333 fun a hs => ?_
    refine qsd 18 1 3 (ci v_340.1) hs rfl fun a w hs => ?_
    refine ⟨fun h => absurd h (by decide), ?_⟩
    replace hs := hs.pick [0, 4, 5, 7, 8, 11, 40, 41, 44, 45] (L' := [(0, pp b_x0), (4, pp b_241), (5, pp b_242), (7, pp b_245), (8, vi 3), (11, vi 0), (40, vi 3), (41, vi 0), (44, vi 3), (45, vi 1)]) (by kernel_rfl)
    refine Vk.dDone (by kernel_rfl) ?_
    refine hK331 _ _ ?_
    clear hK331
    refine Vk.region ?_
    refine qpk 2 [0, 4, 5, 7, 8, 11, 40, 41, 44, 45] hs fun a hs => hKL328 _ _ ?_
    clear hKL328
    refine Vk.unroll fun KL341 hKL341 => ?_
    refine qsk 1 [0, 4, 5, 7, 8, 11, 40, 41, 44, 45, 46] hs fun a hs => ?_
    refine qck hs ?_
    refine Vk.seq fun K344 hK344 => ?_
    refine wp_block ?_
    refine qse 2 [(0, pp b_x0), (4, pp b_241), (5, pp b_242), (7, pp b_245), (8, vi 3), (11, vi 0), (12, vi 2), (40, vi 3), (41, vi 0), (44, vi 3), (45, vi 2)] hs fun a hs => ?_
    obtain ⟨C_346, hC_346⟩ := qC hs.own.drop
    refine qdr 18 κ C_346 hs fun w hs hqC_346 => ?_
    have hcl := qO hC_346 hs.own.drop
    refine qdp (fuel := 5) [0, 1, 2, 3, 4, 5, 6, 7, 9, 10, 11, 14, 15, 16] hs hcl hqC_346 fun a hs => ?_
    obtain ⟨v_348, h_347, hm⟩ := bind_t hm
    refine qdi 8 3 hs hcl hqC_346 hC_346 rfl h_347 fun a hs => ?_
    obtain ⟨v_350, h_349, hm⟩ := bind_t hm
    refine qdi 12 2 hs hcl hqC_346 hC_346 rfl h_349 fun a hs => ?_
    obtain ⟨v_353, h_352, hm⟩ := bind_t hm
    refine qdc 13 (wire_Machine_Two.ok _ _ _ _ _ _ _ h_352 _ _ _ b_x0 hs.own) hs fun w a hs => ?_
    replace hcl := qO hC_346 hs.own.drop
    refine ⟨fun _ => hcl, ?_⟩
    refine qdp (fuel := 1) [17] hs hcl hqC_346 fun a hs => ?_
    refine qsd 18 1 4 (ci v_353.1) hs rfl fun a w hs => ?_
    refine ⟨fun h => absurd h (by decide), ?_⟩
    replace hs := hs.pick [0, 4, 5, 7, 8, 11, 40, 41, 44, 45] (L' := [(0, pp b_x0), (4, pp b_241), (5, pp b_242), (7, pp b_245), (8, vi 3), (11, vi 0), (40, vi 3), (41, vi 0), (44, vi 3), (45, vi 2)]) (by kernel_rfl)
    refine Vk.dDone (by kernel_rfl) ?_
    refine hK344 _ _ ?_
    clear hK344
    refine Vk.region ?_
    refine qpk 2 [0, 4, 5, 7, 8, 11, 40, 41, 44, 45] hs fun a hs => hKL341 _ _ ?_
    clear hKL341
    refine Vk.unroll fun KL354 hKL354 => ?_
    refine qsk 1 [0, 4, 5, 7, 8, 11, 40, 41, 44, 45, 46] hs fun a hs => ?_
    refine Vk.seq fun K356 hK356 => ?_
    refine qcf hs ?_
    refine wp_exit ?_
    refine hK312 _ _ ?_
    clear hK312
    refine Vk.region ?_
    refine qpk 2 [0, 4, 5, 7, 8, 40, 41] hs fun a hs => hKL309 _ _ ?_
    clear hKL309
    refine Vk.unroll fun KL357 hKL357 => ?_
    refine qsk 1 [0, 4, 5, 7, 8, 40, 41, 42] hs fun a hs => ?_
    refine qck hs ?_
    refine Vk.seq fun K360 hK360 => ?_
    refine wp_block ?_
    refine qsk 2 [0, 4, 5, 7, 8, 11, 40, 41] hs fun a hs => ?_
    refine qse 2 [(0, pp b_x0), (4, pp b_241), (5, pp b_242), (7, pp b_245), (8, vi 3), (11, vi 1), (40, vi 3), (41, vi 1), (44, vi 3), (45, vi 0)] hs fun a hs => ?_
    refine wp_block ?_
    refine Vk.unroll0 40 ?_
    refine Vk.unroll fun KL363 hKL363 => ?_
    refine qsk 1 [0, 4, 5, 7, 8, 11, 40, 41, 44, 45, 46] hs fun a hs => ?_
    refine qck hs ?_
    refine Vk.seq fun K366 hK366 => ?_
    refine wp_block ?_
    refine qsk 2 [0, 4, 5, 7, 8, 11, 12, 40, 41, 44, 45] hs fun a hs => ?_
    obtain ⟨C_368, hC_368⟩ := qC hs.own.drop
    refine qdr 18 κ C_368 hs fun w hs hqC_368 => ?_
    have hcl := qO hC_368 hs.own.drop
    refine qdp (fuel := 5) [0, 1, 2, 3, 4, 5, 6, 7, 9, 10, 11, 14, 15, 16] hs hcl hqC_368 fun a hs => ?_
    obtain ⟨v_370, h_369, hm⟩ := bind_t hm
    refine qdi 8 3 hs hcl hqC_368 hC_368 rfl h_369 fun a hs => ?_
    obtain ⟨v_372, h_371, hm⟩ := bind_t hm
    refine qdi 12 2 hs hcl hqC_368 hC_368 rfl h_371 fun a hs => ?_
    obtain ⟨v_375, h_374, hm⟩ := bind_t hm
    refine qdc 13 (wire_Machine_Two.ok _ _ _ _ _ _ _ h_374 _ _ _ b_x0 hs.own) hs fun w a hs => ?_
    replace hcl := qO hC_368 hs.own.drop
    refine ⟨fun _ => hcl, ?_⟩
    refine qdp (fuel := 1) [17] hs hcl hqC_368 fun a hs => ?_
    refine qsd 18 1 5 (ci v_375.1) hs rfl fun a w hs => ?_
    refine ⟨fun h => absurd h (by decide), ?_⟩
    replace hs := hs.pick [0, 4, 5, 7, 8, 11, 40, 41, 44, 45] (L' := [(0, pp b_x0), (4, pp b_241), (5, pp b_242), (7, pp b_245), (8, vi 3), (11, vi 1), (40, vi 3), (41, vi 1), (44, vi 3), (45, vi 0)]) (by kernel_rfl)
    refine Vk.dDone (by kernel_rfl) ?_
    refine hK366 _ _ ?_
    clear hK366
    refine Vk.region ?_
    refine qpk 2 [0, 4, 5, 7, 8, 11, 40, 41, 44, 45] hs fun a hs => hKL363 _ _ ?_
    clear hKL363
    refine Vk.unroll fun KL376 hKL376 => ?_
    refine qsk 1 [0, 4, 5, 7, 8, 11, 40, 41, 44, 45, 46] hs fun a hs => ?_
    refine qck hs ?_
    refine Vk.seq fun K379 hK379 => ?_
    refine wp_block ?_
    refine qsk 2 [0, 4, 5, 7, 8, 11, 12, 40, 41, 44, 45] hs fun a hs => ?_
    obtain ⟨C_381, hC_381⟩ := qC hs.own.drop
    refine qdr 18 κ C_381 hs fun w hs hqC_381 => ?_
    have hcl := qO hC_381 hs.own.drop
    refine qdp (fuel := 5) [0, 1, 2, 3, 4, 5, 6, 7, 9, 10, 11, 14, 15, 16] hs hcl hqC_381 fun a hs => ?_
    obtain ⟨v_383, h_382, hm⟩ := bind_t hm
    refine qdi 8 3 hs hcl hqC_381 hC_381 rfl h_382 fun a hs => ?_
    obtain ⟨v_385, h_384, hm⟩ := bind_t hm
    refine qdi 12 2 hs hcl hqC_381 hC_381 rfl h_384 fun a hs => ?_
    obtain ⟨v_388, h_387, hm⟩ := bind_t hm
    refine qdc 13 (wire_Machine_Two.ok _ _ _ _ _ _ _ h_387 _ _ _ b_x0 hs.own) hs fun w a hs => ?_
    replace hcl := qO hC_381 hs.own.drop
    refine ⟨fun _ => hcl, ?_⟩
    refine qdp (fuel := 1) [17] hs hcl hqC_381 fun a hs => ?_
    refine qsd 18 1 6 (ci v_388.1) hs rfl fun a w hs => ?_
    refine ⟨fun h => absurd h (by decide), ?_⟩
    replace hs := hs.pick [0, 4, 5, 7, 8, 11, 40, 41, 44, 45] (L' := [(0, pp b_x0), (4, pp b_241), (5, pp b_242), (7, pp b_245), (8, vi 3), (11, vi 1), (40, vi 3), (41, vi 1), (44, vi 3), (45, vi 1)]) (by kernel_rfl)
    refine Vk.dDone (by kernel_rfl) ?_
    refine hK379 _ _ ?_
    clear hK379
    refine Vk.region ?_
    refine qpe 2 [(0, pp b_x0), (4, pp b_241), (5, pp b_242), (7, pp b_245), (8, vi 3), (11, vi 1), (40, vi 3), (41, vi 1), (44, vi 3), (45, vi 2)] hs fun a hs => hKL376 _ _ ?_
    clear hKL376
    refine Vk.unroll fun KL389 hKL389 => ?_
    refine qsk 1 [0, 4, 5, 7, 8, 11, 40, 41, 44, 45, 46] hs fun a hs => ?_
    refine qck hs ?_
    refine Vk.seq fun K392 hK392 => ?_
    refine wp_block ?_
    refine qsk 2 [0, 4, 5, 7, 8, 11, 12, 40, 41, 44, 45] hs fun a hs => ?_
    obtain ⟨C_394, hC_394⟩ := qC hs.own.drop
    refine qdr 18 κ C_394 hs fun w hs hqC_394 => ?_
    have hcl := qO hC_394 hs.own.drop
    refine qdp (fuel := 5) [0, 1, 2, 3, 4, 5, 6, 7, 9, 10, 11, 14, 15, 16] hs hcl hqC_394 fun a hs => ?_
    obtain ⟨v_396, h_395, hm⟩ := bind_t hm
    refine qdi 8 3 hs hcl hqC_394 hC_394 rfl h_395 fun a hs => ?_
    obtain ⟨v_398, h_397, hm⟩ := bind_t hm
    refine qdi 12 2 hs hcl hqC_394 hC_394 rfl h_397 fun a hs => ?_
    obtain ⟨v_401, h_400, hm⟩ := bind_t hm
    refine qdc 13 (wire_Machine_Two.ok _ _ _ _ _ _ _ h_400 _ _ _ b_x0 hs.own) hs fun w a hs => ?_
    replace hcl := qO hC_394 hs.own.drop
    refine ⟨fun _ => hcl, ?_⟩
    refine qdp (fuel := 1) [17] hs hcl hqC_394 fun a hs => ?_
    refine qsd 18 1 7 (ci v_401.1) hs rfl fun a w hs => ?_
    refine ⟨fun h => absurd h (by decide), ?_⟩
    replace hs := hs.pick [0, 4, 5, 7, 8, 11, 40, 41, 44, 45] (L' := [(0, pp b_x0), (4, pp b_241), (5, pp b_242), (7, pp b_245), (8, vi 3), (11, vi 1), (40, vi 3), (41, vi 1), (44, vi 3), (45, vi 2)]) (by kernel_rfl)
    refine Vk.dDone (by kernel_rfl) ?_
    refine hK392 _ _ ?_
    clear hK392
    refine Vk.region ?_
    refine qpk 2 [0, 4, 5, 7, 8, 11, 40, 41, 44, 45] hs fun a hs => hKL389 _ _ ?_
    clear hKL389
    refine Vk.unroll fun KL402 hKL402 => ?_
    refine qsk 1 [0, 4, 5, 7, 8, 11, 40, 41, 44, 45, 46] hs fun a hs => ?_
    refine Vk.seq fun K404 hK404 => ?_
    refine qcf hs ?_
    refine wp_exit ?_
    refine hK360 _ _ ?_
    clear hK360
    refine Vk.region ?_
    refine qpk 2 [0, 4, 5, 7, 8, 40, 41] hs fun a hs => hKL357 _ _ ?_
    clear hKL357
    refine Vk.unroll fun KL405 hKL405 => ?_
    refine qse 1 [(0, pp b_x0), (4, pp b_241), (5, pp b_242), (7, pp b_245), (8, vi 3), (40, vi 3), (41, vi 2), (42, .bool true)] hs fun a hs => ?_
    refine qck hs ?_
    refine Vk.seq fun K408 hK408 => ?_
    refine wp_block ?_
    refine qsk 2 [0, 4, 5, 7, 8, 11, 40, 41] hs fun a hs => ?_
    refine qsk 2 [0, 4, 5, 7, 8, 11, 40, 41, 44, 45] hs fun a hs => ?_
    refine wp_block ?_
    refine Vk.unroll0 40 ?_
    refine Vk.unroll fun KL411 hKL411 => ?_
    refine qsk 1 [0, 4, 5, 7, 8, 11, 40, 41, 44, 45, 46] hs fun a hs => ?_
    refine qck hs ?_
    refine Vk.seq fun K414 hK414 => ?_
    refine wp_block ?_
    refine qsk 2 [0, 4, 5, 7, 8, 11, 12, 40, 41, 44, 45] hs fun a hs => ?_
    obtain ⟨C_416, hC_416⟩ := qC hs.own.drop
    refine qdr 18 κ C_416 hs fun w hs hqC_416 => ?_
    have hcl := qO hC_416 hs.own.drop
    refine qdp (fuel := 5) [0, 1, 2, 3, 4, 5, 6, 7, 9, 10, 11, 14, 15, 16] hs hcl hqC_416 fun a hs => ?_
    obtain ⟨v_418, h_417, hm⟩ := bind_t hm
    refine qdi 8 3 hs hcl hqC_416 hC_416 rfl h_417 fun a hs => ?_
    obtain ⟨v_420, h_419, hm⟩ := bind_t hm
    refine qdi 12 2 hs hcl hqC_416 hC_416 rfl h_419 fun a hs => ?_
    obtain ⟨v_423, h_422, hm⟩ := bind_t hm
    refine qdc 13 (wire_Machine_Two.ok _ _ _ _ _ _ _ h_422 _ _ _ b_x0 hs.own) hs fun w a hs => ?_
    replace hcl := qO hC_416 hs.own.drop
    refine ⟨fun _ => hcl, ?_⟩
    refine qdp (fuel := 1) [17] hs hcl hqC_416 fun a hs => ?_
    refine qsd 18 1 8 (ci v_423.1) hs rfl fun a w hs => ?_
    refine ⟨fun h => absurd h (by decide), ?_⟩
    replace hs := hs.pick [0, 4, 5, 7, 8, 11, 40, 41, 44, 45] (L' := [(0, pp b_x0), (4, pp b_241), (5, pp b_242), (7, pp b_245), (8, vi 3), (11, vi 2), (40, vi 3), (41, vi 2), (44, vi 3), (45, vi 0)]) (by kernel_rfl)
    refine Vk.dDone (by kernel_rfl) ?_
    refine hK414 _ _ ?_
    clear hK414
    refine Vk.region ?_
    refine qpk 2 [0, 4, 5, 7, 8, 11, 40, 41, 44, 45] hs fun a hs => hKL411 _ _ ?_
    clear hKL411
    refine Vk.unroll fun KL424 hKL424 => ?_
    refine qse 1 [(0, pp b_x0), (4, pp b_241), (5, pp b_242), (7, pp b_245), (8, vi 3), (11, vi 2), (40, vi 3), (41, vi 2), (44, vi 3), (45, vi 1), (46, .bool true)] hs fun a hs => ?_
    refine qck hs ?_
    refine Vk.seq fun K427 hK427 => ?_
    refine wp_block ?_
    refine qsk 2 [0, 4, 5, 7, 8, 11, 12, 40, 41, 44, 45] hs fun a hs => ?_
    obtain ⟨C_429, hC_429⟩ := qC hs.own.drop
    refine qdr 18 κ C_429 hs fun w hs hqC_429 => ?_
    have hcl := qO hC_429 hs.own.drop
    refine qdp (fuel := 5) [0, 1, 2, 3, 4, 5, 6, 7, 9, 10, 11, 14, 15, 16] hs hcl hqC_429 fun a hs => ?_
    obtain ⟨v_431, h_430, hm⟩ := bind_t hm
    refine qdi 8 3 hs hcl hqC_429 hC_429 rfl h_430 fun a hs => ?_
    obtain ⟨v_433, h_432, hm⟩ := bind_t hm
    refine qdi 12 2 hs hcl hqC_429 hC_429 rfl h_432 fun a hs => ?_
    obtain ⟨v_436, h_435, hm⟩ := bind_t hm
    refine qdc 13 (wire_Machine_Two.ok _ _ _ _ _ _ _ h_435 _ _ _ b_x0 hs.own) hs fun w a hs => ?_
    replace hcl := qO hC_429 hs.own.drop
    refine ⟨fun _ => hcl, ?_⟩
    refine qdp (fuel := 1) [17] hs hcl hqC_429 fun a hs => ?_
    refine qsd 18 1 9 (ci v_436.1) hs rfl fun a w hs => ?_
    refine ⟨fun h => absurd h (by decide), ?_⟩
    replace hs := hs.pick [0, 4, 5, 7, 8, 11, 40, 41, 44, 45] (L' := [(0, pp b_x0), (4, pp b_241), (5, pp b_242), (7, pp b_245), (8, vi 3), (11, vi 2), (40, vi 3), (41, vi 2), (44, vi 3), (45, vi 1)]) (by kernel_rfl)
    refine Vk.dDone (by kernel_rfl) ?_
    refine hK427 _ _ ?_
    clear hK427
    refine Vk.region ?_
    refine qpk 2 [0, 4, 5, 7, 8, 11, 40, 41, 44, 45] hs fun a hs => hKL424 _ _ ?_
    clear hKL424
    refine Vk.unroll fun KL437 hKL437 => ?_
    refine qsk 1 [0, 4, 5, 7, 8, 11, 40, 41, 44, 45, 46] hs fun a hs => ?_
    refine qck hs ?_
    refine Vk.seq fun K440 hK440 => ?_
    refine wp_block ?_
    refine qsk 2 [0, 4, 5, 7, 8, 11, 12, 40, 41, 44, 45] hs fun a hs => ?_
    obtain ⟨C_442, hC_442⟩ := qC hs.own.drop
    refine qdr 18 κ C_442 hs fun w hs hqC_442 => ?_
    have hcl := qO hC_442 hs.own.drop
    refine qdp (fuel := 5) [0, 1, 2, 3, 4, 5, 6, 7, 9, 10, 11, 14, 15, 16] hs hcl hqC_442 fun a hs => ?_
    obtain ⟨v_444, h_443, hm⟩ := bind_t hm
    refine qdi 8 3 hs hcl hqC_442 hC_442 rfl h_443 fun a hs => ?_
    obtain ⟨v_446, h_445, hm⟩ := bind_t hm
    refine qdi 12 2 hs hcl hqC_442 hC_442 rfl h_445 fun a hs => ?_
    obtain ⟨v_449, h_448, hm⟩ := bind_t hm
    refine qdc 13 (wire_Machine_Two.ok _ _ _ _ _ _ _ h_448 _ _ _ b_x0 hs.own) hs fun w a hs => ?_
    replace hcl := qO hC_442 hs.own.drop
    refine ⟨fun _ => hcl, ?_⟩
    refine qdp (fuel := 1) [17] hs hcl hqC_442 fun a hs => ?_
    refine qsd 18 1 10 (ci v_449.1) hs rfl fun a w hs => ?_
    refine ⟨fun h => absurd h (by decide), ?_⟩
    replace hs := hs.pick [0, 4, 5, 7, 8, 11, 40, 41, 44, 45] (L' := [(0, pp b_x0), (4, pp b_241), (5, pp b_242), (7, pp b_245), (8, vi 3), (11, vi 2), (40, vi 3), (41, vi 2), (44, vi 3), (45, vi 2)]) (by kernel_rfl)
    refine Vk.dDone (by kernel_rfl) ?_
    refine hK440 _ _ ?_
    clear hK440
    refine Vk.region ?_
    refine qpk 2 [0, 4, 5, 7, 8, 11, 40, 41, 44, 45] hs fun a hs => hKL437 _ _ ?_
    clear hKL437
    refine Vk.unroll fun KL450 hKL450 => ?_
    refine qse 1 [(0, pp b_x0), (4, pp b_241), (5, pp b_242), (7, pp b_245), (8, vi 3), (11, vi 2), (40, vi 3), (41, vi 2), (44, vi 3), (45, vi 3), (46, .bool false)] hs fun a hs => ?_
    refine Vk.seq fun K452 hK452 => ?_
    refine qcf hs ?_
    refine wp_exit ?_
    refine hK408 _ _ ?_
    clear hK408
    refine Vk.region ?_
    refine qpk 2 [0, 4, 5, 7, 8, 40, 41] hs fun a hs => hKL405 _ _ ?_
    clear hKL405
    refine Vk.unroll fun KL453 hKL453 => ?_
    refine qsk 1 [0, 4, 5, 7, 8, 40, 41, 42] hs fun a hs => ?_
    refine Vk.seq fun K455 hK455 => ?_
    refine qcf hs ?_
    refine wp_exit ?_
    refine hK307 _ _ ?_
    clear hK307
    refine qse 2 [(6, pp b_245)] hs fun a hs => ?_
    refine wp_ret ?_
    refine hKP239 _ _ ?_
    refine hKR239 _ _ ?_
    refine Vk.ret1 (P := Tryz.prog) (fn := Tryz.f130) (pp b_245) hs rfl (by kernel_rfl) ⟨_, _, _, rfl, hs.own, fun a hs => ?_⟩
    refine qpk 1 [0, 6, 7] hs fun a hs => hK236 _ _ ?_
    clear hK236
    refine qsr fun K457 hK457 => ?_
    refine qpu 3 hs fun a hs => ?_
    refine Vk.step (Vk.call (some 23) 131 #[pp b_245, .func (.func 132) #[pp b_245] #[]] hs (by kernel_rfl) (by kernel_rfl) (by kernel_rfl) ?_)
    refine Vk.enterI [(0, pp b_245), (1, .func (.func 132) #[pp b_245] #[])] Tryz.func131 rfl Tryz.ntmps131 (by kernel_rfl) (Nat.le_of_ble_eq_true (by kernel_rfl)) hs.own fun KR458 hKR458 hKP458 a hs => ?_
    refine qsr fun K459 hK459 => ?_
    refine qal 35 [ci 0, ci 0, ci 0] 4 hs fun b_460 w a hs => ?_
    refine qpk 0 [0, 1, 4] hs fun a hs => hK459 _ _ ?_
    clear hK459
    refine qsr fun K461 hK461 => ?_
    refine qpu 2 hs fun a hs => ?_
    refine qal 35 [ci 0, ci 0, ci 0] 5 hs fun b_462 w a hs => ?_
    refine qsa 0 [ci (-1), ci (-1), ci (-1)] hs rfl fun a w hs => ?_
    refine qpe 0 [(0, pp b_245), (1, .func (.func 132) #[pp b_245] #[]), (4, pp b_460), (5, pp b_462)] hs fun a hs => hK461 _ _ ?_
    clear hK461
    refine qsr fun K463 hK463 => ?_
    refine qpu 3 hs fun a hs => ?_
    refine qld 3 (cp b_x0) hs rfl fun a hs => ?_
    obtain ⟨g_464, hs⟩ := hs.unex 2 rfl
    obtain ⟨v_467, h_466, hm⟩ := bind_t hm
    refine qcl (wire_Machine_N.ok _ _ _ h_466 _ _ _ b_x0 g_464 hs.own.f2) hs fun w a hs => ?_
    rcases Bool.eq_false_or_eq_true (v_467 == 3) with hb | hb
    ·replace hm := bif_t hm hb
     obtain rfl := Vk.of_beq hb
     refine qpk 1 [0, 1, 4, 5, 6] hs fun a hs => hK463 _ _ ?_
     clear hK463
     refine Vk.seq fun K468 hK468 => ?_
     refine qsk 2 [0, 1, 4, 5, 6, 16, 17] hs fun a hs => ?_
     refine wp_block ?_
     refine Vk.unroll0 40 ?_
     refine Vk.unroll fun KL470 hKL470 => ?_
     refine qsk 1 [0, 1, 4, 5, 6, 16, 17, 18] hs fun a hs => ?_
     refine qck hs ?_
     refine Vk.seq fun K473 hK473 => ?_
     refine wp_block ?_
     refine qsk 2 [0, 1, 4, 5, 6, 7, 16, 17] hs fun a hs => ?_
     refine qsr fun K475 hK475 => ?_
     refine qpu 8 hs fun a hs => ?_
     refine qld 3 (ci v_327.1) hs rfl fun a hs => ?_
     refine qpu 2 hs fun a hs => ?_
     refine qst 1 0 (ci v_327.1) hs rfl fun a w hs => ?_
     refine qpk 0 [0, 1, 4, 5, 6, 7, 16, 17] hs fun a hs => hK475 _ _ ?_
     clear hK475
     refine qse 2 [(0, pp b_245), (1, .func (.func 132) #[pp b_245] #[]), (4, pp b_460), (5, pp b_462), (6, vi 3), (7, vi 0), (16, vi 3), (17, vi 0), (31, vi 3), (32, vi 0)] hs fun a hs => ?_
     refine wp_block ?_
     refine Vk.unroll0 40 ?_
     refine Vk.unroll fun KL477 hKL477 => ?_
     refine qsk 1 [0, 1, 4, 5, 6, 7, 16, 17, 31, 32, 33] hs fun a hs => ?_
     refine qck hs ?_
     refine Vk.seq fun K480 hK480 => ?_
     refine wp_block ?_
     refine qsk 2 [0, 1, 4, 5, 6, 7, 8, 16, 17, 31, 32] hs fun a hs => ?_
     refine qsk 3 [0, 1, 4, 5, 6, 7, 8, 16, 17, 31, 32, 37] hs fun a hs => ?_
     refine qcf hs ?_
     refine wp_skip ?_
     refine hK480 _ _ ?_
     clear hK480
     refine Vk.region ?_
     refine qpk 2 [0, 1, 4, 5, 6, 7, 16, 17, 31, 32] hs fun a hs => hKL477 _ _ ?_
     clear hKL477
     refine Vk.unroll fun KL483 hKL483 => ?_
     refine qsk 1 [0, 1, 4, 5, 6, 7, 16, 17, 31, 32, 33] hs fun a hs => ?_
     refine qck hs ?_
     refine Vk.seq fun K486 hK486 => ?_
     refine wp_block ?_
     refine qse 2 [(0, pp b_245), (1, .func (.func 132) #[pp b_245] #[]), (4, pp b_460), (5, pp b_462), (6, vi 3), (7, vi 0), (8, vi 1), (16, vi 3), (17, vi 0), (31, vi 3), (32, vi 1)] hs fun a hs => ?_
     refine qsk 3 [0, 1, 4, 5, 6, 7, 8, 16, 17, 31, 32, 37] hs fun a hs => ?_
     refine qct hs ?_
     obtain ⟨C_489, hC_489⟩ := qC hs.own.drop
     refine qdr 17 κ C_489 hs fun w hs hqC_489 => ?_
     have hcl := qO hC_489 hs.own.drop
     refine qdp (fuel := 6) [0, 1, 2, 3, 5, 6, 7, 8, 10, 11, 12, 15] hs hcl hqC_489 fun a hs => ?_
     refine qdl 4 2 (cp b_x0) hs hcl hqC_489 hC_489 rfl fun a hs => ?_
     refine qdl 9 0 (ci v_327.1) hs hcl hqC_489 hC_489 rfl fun a hs => ?_
     refine Vk.dOnly (i := 13) (by kernel_rfl) (Vk.call (some 51) 132 #[pp b_245, vi 0, vi 1] hs (by kernel_rfl) (by kernel_rfl) (by kernel_rfl) ?_)
     refine Vk.enterI [(0, pp b_245), (1, vi 0), (2, vi 1)] Tryz.func132 rfl Tryz.ntmps132 (by kernel_rfl) (Nat.le_of_ble_eq_true (by kernel_rfl)) hs.own fun KR490 hKR490 hKP490 a hs => ?_
     refine qsk 1 [0, 1, 2] hs fun a hs => ?_
     refine Vk.seq fun K492 hK492 => ?_
     obtain ⟨C_493, hC_493⟩ := qC hs.own
     refine qdr 17 κ C_493 hs fun w hs hqC_493 => ?_
     have hcl := qO hC_493 hs.own
     refine qdp (fuel := 5) [0, 1, 2, 4, 5, 6, 7, 8, 9, 10, 11, 13, 14, 15] hs hcl hqC_493 fun a hs => ?_
     refine qdl 3 3 (cp b_x0) hs hcl hqC_493 hC_493 rfl fun a hs => ?_
     refine qdl 12 3 (ci v_340.1) hs hcl hqC_493 hC_493 rfl fun a hs => ?_
     refine Vk.dOnly (i := 16) (by kernel_rfl) (Vk.call (some 23) 139 #[pp b_245, vi 0, vi 1] hs (by kernel_rfl) (by kernel_rfl) (by kernel_rfl) ?_)
     refine Vk.enterI [(0, pp b_245), (1, vi 0), (2, vi 1)] Tryz.func139 rfl Tryz.ntmps139 (by kernel_rfl) (Nat.le_of_ble_eq_true (by kernel_rfl)) hs.own fun KR494 hKR494 hKP494 a hs => ?_
     refine qsk 1 [0, 1, 2] hs fun a hs => ?_
     refine qsr fun K496 hK496 => ?_
     refine qpu 3 hs fun a hs => ?_
     refine qld 3 (C.map (some b_244)) hs rfl fun a hs => ?_
     refine qpu 7 hs fun a hs => ?_
     refine qva (vi v_266.1) (op := (.lookup 143 (.tmp 10) (.tmp 17) false)) hs (fun o ho => run_lookup (b := b_244) (key := .agg (vals [ci 0, ci 1])) 4 rfl ho (by kernel_rfl) (by kernel_rfl) (by kernel_rfl) _ hs.own) fun a hs => ?_
     refine qpe 1 [(6, vi v_266.1)] hs fun a hs => hK496 _ _ ?_
     clear hK496
     refine wp_ret ?_
     refine hKP494 _ _ ?_
     refine hKR494 _ _ ?_
     refine Vk.ret1 (P := Tryz.prog) (fn := Tryz.f139) (vi v_266.1) hs rfl (by kernel_rfl) ⟨_, _, _, rfl, hs.own, fun a hs => ?_⟩
     replace hcl := qO hC_493 hs.own
     refine ⟨fun _ => hcl, ?_⟩
     replace hs := hs.toEx (Twire_Machine.parts b_x0 v_449.2) g_464 0 rfl
     obtain ⟨v_499, h_498, hm⟩ := bind_t hm
     refine qdc 17 (wire_Machine_Two.ok _ _ _ _ _ _ _ h_498 _ _ _ b_x0 hs.own) hs fun w a hs => ?_
     refine ⟨fun h => absurd h (by decide), ?_⟩
     refine Vk.dOnly (i := 18) (by kernel_rfl) (Vk.dPure1 [(6, vi v_499.1)] hs (by kernel_rfl) fun a hs => ?_)
     refine ⟨fun h => absurd h (by decide), ?_⟩
     replace hs := hs.pick [6] (L' := [(6, vi v_499.1)]) (by kernel_rfl)
     refine Vk.dDone (by kernel_rfl) ?_
     refine hK492 _ _ ?_
     clear hK492
     refine wp_ret ?_
     refine hKP490 _ _ ?_
     refine hKR490 _ _ ?_
     refine Vk.ret1 (P := Tryz.prog) (fn := Tryz.f132) (vi v_499.1) hs rfl (by kernel_rfl) ⟨_, _, _, rfl, hs.own, fun a hs => ?_⟩
     replace hcl := qO hC_489 hs.own.drop
     refine ⟨fun _ => hcl, ?_⟩
     obtain ⟨v_502, h_501, hm⟩ := bind_t hm
     refine qdc 14 (wire_Machine_Two.ok _ _ _ _ _ _ _ h_501 _ _ _ b_x0 hs.own) hs fun w a hs => ?_
     replace hcl := qO hC_489 hs.own.drop
     refine ⟨fun _ => hcl, ?_⟩
     refine qdp (fuel := 1) [16] hs hcl hqC_489 fun a hs => ?_
     refine qsd 17 1 0 (ci v_502.1) hs rfl fun a w hs => ?_
     refine ⟨fun h => absurd h (by decide), ?_⟩
     replace hs := hs.pick [0, 1, 4, 5, 6, 7, 16, 17, 31, 32] (L' := [(0, pp b_245), (1, .func (.func 132) #[pp b_245] #[]), (4, pp b_460), (5, pp b_462), (6, vi 3), (7, vi 0), (16, vi 3), (17, vi 0), (31, vi 3), (32, vi 1)]) (by kernel_rfl)
     refine Vk.dDone (by kernel_rfl) ?_
     refine hK486 _ _ ?_
     clear hK486
     refine Vk.region ?_
     refine qpk 2 [0, 1, 4, 5, 6, 7, 16, 17, 31, 32] hs fun a hs => hKL483 _ _ ?_
     clear hKL483
     refine Vk.unroll fun KL503 hKL503 => ?_
     refine qsk 1 [0, 1, 4, 5, 6, 7, 16, 17, 31, 32, 33] hs fun a hs => ?_
     refine qck hs ?_
     refine Vk.seq fun K506 hK506 => ?_
     refine wp_block ?_
     refine qsk 2 [0, 1, 4, 5, 6, 7, 8, 16, 17, 31, 32] hs fun a hs => ?_
     refine qsk 3 [0, 1, 4, 5, 6, 7, 8, 16, 17, 31, 32, 37] hs fun a hs => ?_
     refine qct hs ?_
     obtain ⟨C_509, hC_509⟩ := qC hs.own.drop
     refine qdr 17 κ C_509 hs fun w hs hqC_509 => ?_
     have hcl := qO hC_509 hs.own.drop
     refine qdp (fuel := 6) [0, 1, 2, 3, 5, 6, 7, 8, 10, 11, 12, 15] hs hcl hqC_509 fun a hs => ?_
     refine qdl 4 2 (cp b_x0) hs hcl hqC_509 hC_509 rfl fun a hs => ?_
     refine qdl 9 0 (ci v_502.1) hs hcl hqC_509 hC_509 rfl fun a hs => ?_
     refine Vk.dOnly (i := 13) (by kernel_rfl) (Vk.call (some 51) 132 #[pp b_245, vi 0, vi 2] hs (by kernel_rfl) (by kernel_rfl) (by kernel_rfl) ?_)
     refine Vk.enterI [(0, pp b_245), (1, vi 0), (2, vi 2)] Tryz.func132 rfl Tryz.ntmps132 (by kernel_rfl) (Nat.le_of_ble_eq_true (by kernel_rfl)) hs.own fun KR510 hKR510 hKP510 a hs => ?_
     refine qsk 1 [0, 1, 2] hs fun a hs => ?_
     refine Vk.seq fun K512 hK512 => ?_
     obtain ⟨C_513, hC_513⟩ := qC hs.own
     refine qdr 17 κ C_513 hs fun w hs hqC_513 => ?_
     have hcl := qO hC_513 hs.own
     refine qdp (fuel := 5) [0, 1, 2, 4, 5, 6, 7, 8, 9, 10, 11, 13, 14, 15] hs hcl hqC_513 fun a hs => ?_
     refine qdl 3 3 (cp b_x0) hs hcl hqC_513 hC_513 rfl fun a hs => ?_
     refine qdl 12 3 (ci v_353.1) hs hcl hqC_513 hC_513 rfl fun a hs => ?_
     refine Vk.dOnly (i := 16) (by kernel_rfl) (Vk.call (some 23) 139 #[pp b_245, vi 0, vi 2] hs (by kernel_rfl) (by kernel_rfl) (by kernel_rfl) ?_)
     refine Vk.enterI [(0, pp b_245), (1, vi 0), (2, vi 2)] Tryz.func139 rfl Tryz.ntmps139 (by kernel_rfl) (Nat.le_of_ble_eq_true (by kernel_rfl)) hs.own fun KR514 hKR514 hKP514 a hs => ?_
     refine qse 1 [(0, pp b_245), (1, vi 0), (2, vi 2)] hs fun a hs => ?_
     refine qsr fun K516 hK516 => ?_
     refine qpu 3 hs fun a hs => ?_
     refine qld 3 (C.map (some b_244)) hs rfl fun a hs => ?_
     refine qpu 7 hs fun a hs => ?_
     refine qva (vi v_274.1) (op := (.lookup 143 (.tmp 10) (.tmp 17) false)) hs (fun o ho => run_lookup (b := b_244) (key := .agg (vals [ci 0, ci 2])) 4 rfl ho (by kernel_rfl) (by kernel_rfl) (by kernel_rfl) _ hs.own) fun a hs => ?_
     refine qpe 1 [(6, vi v_274.1)] hs fun a hs => hK516 _ _ ?_
     clear hK516
     refine wp_ret ?_
     refine hKP514 _ _ ?_
     refine hKR514 _ _ ?_
     refine Vk.ret1 (P := Tryz.prog) (fn := Tryz.f139) (vi v_274.1) hs rfl (by kernel_rfl) ⟨_, _, _, rfl, hs.own, fun a hs => ?_⟩
     replace hcl := qO hC_513 hs.own
     refine ⟨fun _ => hcl, ?_⟩
     obtain ⟨v_519, h_518, hm⟩ := bind_t hm
     refine qdc 17 (wire_Machine_Two.ok _ _ _ _ _ _ _ h_518 _ _ _ b_x0 hs.own) hs fun w a hs => ?_
     refine ⟨fun h => absurd h (by decide), ?_⟩
     refine Vk.dOnly (i := 18) (by kernel_rfl) (Vk.dPure1 [(6, vi v_519.1)] hs (by kernel_rfl) fun a hs => ?_)
     refine ⟨fun h => absurd h (by decide), ?_⟩
     replace hs := hs.pick [6] (L' := [(6, vi v_519.1)]) (by kernel_rfl)
     refine Vk.dDone (by kernel_rfl) ?_
     refine hK512 _ _ ?_
     clear hK512
     refine wp_ret ?_
     refine hKP510 _ _ ?_
     refine hKR510 _ _ ?_
     refine Vk.ret1 (P := Tryz.prog) (fn := Tryz.f132) (vi v_519.1) hs rfl (by kernel_rfl) ⟨_, _, _, rfl, hs.own, fun a hs => ?_⟩
     replace hcl := qO hC_509 hs.own.drop
     refine ⟨fun _ => hcl, ?_⟩
     obtain ⟨v_522, h_521, hm⟩ := bind_t hm
     refine qdc 14 (wire_Machine_Two.ok _ _ _ _ _ _ _ h_521 _ _ _ b_x0 hs.own) hs fun w a hs => ?_
     replace hcl := qO hC_509 hs.own.drop
     refine ⟨fun _ => hcl, ?_⟩
     refine qdp (fuel := 1) [16] hs hcl hqC_509 fun a hs => ?_
     refine qsd 17 1 0 (ci v_522.1) hs rfl fun a w hs => ?_
     refine ⟨fun h => absurd h (by decide), ?_⟩
     replace hs := hs.pick [0, 1, 4, 5, 6, 7, 16, 17, 31, 32] (L' := [(0, pp b_245), (1, .func (.func 132) #[pp b_245] #[]), (4, pp b_460), (5, pp b_462), (6, vi 3), (7, vi 0), (16, vi 3), (17, vi 0), (31, vi 3), (32, vi 2)]) (by kernel_rfl)
     refine Vk.dDone (by kernel_rfl) ?_
     refine hK506 _ _ ?_
     clear hK506
     refine Vk.region ?_
     refine qpk 2 [0, 1, 4, 5, 6, 7, 16, 17, 31, 32] hs fun a hs => hKL503 _ _ ?_
     clear hKL503
     refine Vk.unroll fun KL523 hKL523 => ?_
     refine qsk 1 [0, 1, 4, 5, 6, 7, 16, 17, 31, 32, 33] hs fun a hs => ?_
     refine Vk.seq fun K525 hK525 => ?_
     refine qcf hs ?_
     refine wp_exit ?_
     refine hK473 _ _ ?_
     clear hK473
     refine Vk.region ?_
     refine qpk 2 [0, 1, 4, 5, 6, 16, 17] hs fun a hs => hKL470 _ _ ?_
     clear hKL470
     refine Vk.unroll fun KL526 hKL526 => ?_
     refine qsk 1 [0, 1, 4, 5, 6, 16, 17, 18] hs fun a hs => ?_
     refine qck hs ?_
     refine Vk.seq fun K529 hK529 => ?_
     refine wp_block ?_
     refine qsk 2 [0, 1, 4, 5, 6, 7, 16, 17] hs fun a hs => ?_
     refine qsr fun K531 hK531 => ?_
     refine qpu 8 hs fun a hs => ?_
     refine qld 3 (ci v_388.1) hs rfl fun a hs => ?_
     refine qpu 2 hs fun a hs => ?_
     refine qst 1 1 (ci v_388.1) hs rfl fun a w hs => ?_
     refine qpe 0 [(0, pp b_245), (1, .func (.func 132) #[pp b_245] #[]), (4, pp b_460), (5, pp b_462), (6, vi 3), (7, vi 1), (16, vi 3), (17, vi 1)] hs fun a hs => hK531 _ _ ?_
     clear hK531
     refine qsk 2 [0, 1, 4, 5, 6, 7, 16, 17, 31, 32] hs fun a hs => ?_
     refine wp_block ?_
     refine Vk.unroll0 40 ?_
     refine Vk.unroll fun KL533 hKL533 => ?_
     refine qsk 1 [0, 1, 4, 5, 6, 7, 16, 17, 31, 32, 33] hs fun a hs => ?_
     refine qck hs ?_
     refine Vk.seq fun K536 hK536 => ?_
     refine wp_block ?_
     refine qsk 2 [0, 1, 4, 5, 6, 7, 8, 16, 17, 31, 32] hs fun a hs => ?_
     refine qsk 3 [0, 1, 4, 5, 6, 7, 8, 16, 17, 31, 32, 37] hs fun a hs => ?_
     refine qct hs ?_
     obtain ⟨C_539, hC_539⟩ := qC hs.own.drop
     refine qdr 17 κ C_539 hs fun w hs hqC_539 => ?_
     have hcl := qO hC_539 hs.own.drop
     refine qdp (fuel := 6) [0, 1, 2, 3, 5, 6, 7, 8, 10, 11, 12, 15] hs hcl hqC_539 fun a hs => ?_
     refine qdl 4 2 (cp b_x0) hs hcl hqC_539 hC_539 rfl fun a hs => ?_
     refine qdl 9 0 (ci v_388.1) hs hcl hqC_539 hC_539 rfl fun a hs => ?_
     refine Vk.dOnly (i := 13) (by kernel_rfl) (Vk.call (some 51) 132 #[pp b_245, vi 1, vi 0] hs (by kernel_rfl) (by kernel_rfl) (by kernel_rfl) ?_)
     refine Vk.enterI [(0, pp b_245), (1, vi 1), (2, vi 0)] Tryz.func132 rfl Tryz.ntmps132 (by kernel_rfl) (Nat.le_of_ble_eq_true (by kernel_rfl)) hs.own fun KR540 hKR540 hKP540 a hs => ?_
     refine qsk 1 [0, 1, 2] hs fun a hs => ?_
     refine Vk.seq fun K542 hK542 => ?_
     obtain ⟨C_543, hC_543⟩ := qC hs.own
     refine qdr 17 κ C_543 hs fun w hs hqC_543 => ?_
     have hcl := qO hC_543 hs.own
     refine qdp (fuel := 5) [0, 1, 2, 4, 5, 6, 7, 8, 9, 10, 11, 13, 14, 15] hs hcl hqC_543 fun a hs => ?_
     refine qdl 3 3 (cp b_x0) hs hcl hqC_543 hC_543 rfl fun a hs => ?_
     refine qdl 12 3 (ci v_375.1) hs hcl hqC_543 hC_543 rfl fun a hs => ?_
     refine Vk.dOnly (i := 16) (by kernel_rfl) (Vk.call (some 23) 139 #[pp b_245, vi 1, vi 0] hs (by kernel_rfl) (by kernel_rfl) (by kernel_rfl) ?_)
     refine Vk.enterI [(0, pp b_245), (1, vi 1), (2, vi 0)] Tryz.func139 rfl Tryz.ntmps139 (by kernel_rfl) (Nat.le_of_ble_eq_true (by kernel_rfl)) hs.own fun KR544 hKR544 hKP544 a hs => ?_
     refine qse 1 [(0, pp b_245), (1, vi 1), (2, vi 0)] hs fun a hs => ?_
     refine qsr fun K546 hK546 => ?_
     refine qpu 3 hs fun a hs => ?_
     refine qld 3 (C.map (some b_244)) hs rfl fun a hs => ?_
     refine qpu 7 hs fun a hs => ?_
     refine qva (vi v_266.1) (op := (.lookup 143 (.tmp 10) (.tmp 17) false)) hs (fun o ho => run_lookup (b := b_244) (key := .agg (vals [ci 0, ci 1])) 4 rfl ho (by kernel_rfl) (by kernel_rfl) (by kernel_rfl) _ hs.own) fun a hs => ?_
     refine qpe 1 [(6, vi v_266.1)] hs fun a hs => hK546 _ _ ?_
     clear hK546
     refine wp_ret ?_
     refine hKP544 _ _ ?_
     refine hKR544 _ _ ?_
     refine Vk.ret1 (P := Tryz.prog) (fn := Tryz.f139) (vi v_266.1) hs rfl (by kernel_rfl) ⟨_, _, _, rfl, hs.own, fun a hs => ?_⟩
     replace hcl := qO hC_543 hs.own
     refine ⟨fun _ => hcl, ?_⟩
     obtain ⟨v_549, h_548, hm⟩ := bind_t hm
     refine qdc 17 (wire_Machine_Two.ok _ _ _ _ _ _ _ h_548 _ _ _ b_x0 hs.own) hs fun w a hs => ?_
     refine ⟨fun h => absurd h (by decide), ?_⟩
     refine Vk.dOnly (i := 18) (by kernel_rfl) (Vk.dPure1 [(6, vi v_549.1)] hs (by kernel_rfl) fun a hs => ?_)
     refine ⟨fun h => absurd h (by decide), ?_⟩
     replace hs := hs.pick [6] (L' := [(6, vi v_549.1)]) (by kernel_rfl)
     refine Vk.dDone (by kernel_rfl) ?_
     refine hK542 _ _ ?_
     clear hK542
     refine wp_ret ?_
     refine hKP540 _ _ ?_
     refine hKR540 _ _ ?_
     refine Vk.ret1 (P := Tryz.prog) (fn := Tryz.f132) (vi v_549.1) hs rfl (by kernel_rfl) ⟨_, _, _, rfl, hs.own, fun a hs => ?_⟩
     replace hcl := qO hC_539 hs.own.drop
     refine ⟨fun _ => hcl, ?_⟩
     obtain ⟨v_552, h_551, hm⟩ := bind_t hm
     refine qdc 14 (wire_Machine_Two.ok _ _ _ _ _ _ _ h_551 _ _ _ b_x0 hs.own) hs fun w a hs => ?_
     replace hcl := qO hC_539 hs.own.drop
     refine ⟨fun _ => hcl, ?_⟩
     refine qdp (fuel := 1) [16] hs hcl hqC_539 fun a hs => ?_
     refine qsd 17 1 1 (ci v_552.1) hs rfl fun a w hs => ?_
     refine ⟨fun h => absurd h (by decide), ?_⟩
     replace hs := hs.pick [0, 1, 4, 5, 6, 7, 16, 17, 31, 32] (L' := [(0, pp b_245), (1, .func (.func 132) #[pp b_245] #[]), (4, pp b_460), (5, pp b_462), (6, vi 3), (7, vi 1), (16, vi 3), (17, vi 1), (31, vi 3), (32, vi 0)]) (by kernel_rfl)
     refine Vk.dDone (by kernel_rfl) ?_
     refine hK536 _ _ ?_
     clear hK536
     refine Vk.region ?_
     refine qpk 2 [0, 1, 4, 5, 6, 7, 16, 17, 31, 32] hs fun a hs => hKL533 _ _ ?_
     clear hKL533
     refine Vk.unroll fun KL553 hKL553 => ?_
     refine qsk 1 [0, 1, 4, 5, 6, 7, 16, 17, 31, 32, 33] hs fun a hs => ?_
     refine qck hs ?_
     refine Vk.seq fun K556 hK556 => ?_
     refine wp_block ?_
     refine qsk 2 [0, 1, 4, 5, 6, 7, 8, 16, 17, 31, 32] hs fun a hs => ?_
     refine qsk 3 [0, 1, 4, 5, 6, 7, 8, 16, 17, 31, 32, 37] hs fun a hs => ?_
     refine qcf hs ?_
     refine wp_skip ?_
     refine hK556 _ _ ?_
     clear hK556
     refine Vk.region ?_
     refine qpk 2 [0, 1, 4, 5, 6, 7, 16, 17, 31, 32] hs fun a hs => hKL553 _ _ ?_
     clear hKL553
     refine Vk.unroll fun KL559 hKL559 => ?_
     refine qse 1 [(0, pp b_245), (1, .func (.func 132) #[pp b_245] #[]), (4, pp b_460), (5, pp b_462), (6, vi 3), (7, vi 1), (16, vi 3), (17, vi 1), (31, vi 3), (32, vi 2), (33, .bool true)] hs fun a hs => ?_
     refine qck hs ?_
     refine Vk.seq fun K562 hK562 => ?_
     refine wp_block ?_
     refine qsk 2 [0, 1, 4, 5, 6, 7, 8, 16, 17, 31, 32] hs fun a hs => ?_
     refine qsk 3 [0, 1, 4, 5, 6, 7, 8, 16, 17, 31, 32, 37] hs fun a hs => ?_
     refine qct hs ?_
     obtain ⟨C_565, hC_565⟩ := qC hs.own.drop
     refine qdr 17 κ C_565 hs fun w hs hqC_565 => ?_
     have hcl := qO hC_565 hs.own.drop
     refine qdp (fuel := 6) [0, 1, 2, 3, 5, 6, 7, 8, 10, 11, 12, 15] hs hcl hqC_565 fun a hs => ?_
     refine qdl 4 2 (cp b_x0) hs hcl hqC_565 hC_565 rfl fun a hs => ?_
     refine qdl 9 0 (ci v_552.1) hs hcl hqC_565 hC_565 rfl fun a hs => ?_
     refine Vk.dOnly (i := 13) (by kernel_rfl) (Vk.call (some 51) 132 #[pp b_245, vi 1, vi 2] hs (by kernel_rfl) (by kernel_rfl) (by kernel_rfl) ?_)
     refine Vk.enterI [(0, pp b_245), (1, vi 1), (2, vi 2)] Tryz.func132 rfl Tryz.ntmps132 (by kernel_rfl) (Nat.le_of_ble_eq_true (by kernel_rfl)) hs.own fun KR566 hKR566 hKP566 a hs => ?_
     refine qsk 1 [0, 1, 2] hs fun a hs => ?_
     refine Vk.seq fun K568 hK568 => ?_
     obtain ⟨C_569, hC_569⟩ := qC hs.own
     refine qdr 17 κ C_569 hs fun w hs hqC_569 => ?_
     have hcl := qO hC_569 hs.own
     refine qdp (fuel := 5) [0, 1, 2, 4, 5, 6, 7, 8, 9, 10, 11, 13, 14, 15] hs hcl hqC_569 fun a hs => ?_
     refine qdl 3 3 (cp b_x0) hs hcl hqC_569 hC_569 rfl fun a hs => ?_
     refine qdl 12 3 (ci v_401.1) hs hcl hqC_569 hC_569 rfl fun a hs => ?_
     refine Vk.dOnly (i := 16) (by kernel_rfl) (Vk.call (some 23) 139 #[pp b_245, vi 1, vi 2] hs (by kernel_rfl) (by kernel_rfl) (by kernel_rfl) ?_)
     refine Vk.enterI [(0, pp b_245), (1, vi 1), (2, vi 2)] Tryz.func139 rfl Tryz.ntmps139 (by kernel_rfl) (Nat.le_of_ble_eq_true (by kernel_rfl)) hs.own fun KR570 hKR570 hKP570 a hs => ?_
     refine qsk 1 [0, 1, 2] hs fun a hs => ?_
     refine qsr fun K572 hK572 => ?_
     refine qpu 3 hs fun a hs => ?_
     refine qld 3 (C.map (some b_244)) hs rfl fun a hs => ?_
     refine qpu 7 hs fun a hs => ?_
     refine qva (vi v_291.1) (op := (.lookup 143 (.tmp 10) (.tmp 17) false)) hs (fun o ho => run_lookup (b := b_244) (key := .agg (vals [ci 1, ci 2])) 4 rfl ho (by kernel_rfl) (by kernel_rfl) (by kernel_rfl) _ hs.own) fun a hs => ?_
     refine qpe 1 [(6, vi v_291.1)] hs fun a hs => hK572 _ _ ?_
     clear hK572
     refine wp_ret ?_
     refine hKP570 _ _ ?_
     refine hKR570 _ _ ?_
     refine Vk.ret1 (P := Tryz.prog) (fn := Tryz.f139) (vi v_291.1) hs rfl (by kernel_rfl) ⟨_, _, _, rfl, hs.own, fun a hs => ?_⟩
     replace hcl := qO hC_569 hs.own
     refine ⟨fun _ => hcl, ?_⟩
     obtain ⟨v_575, h_574, hm⟩ := bind_t hm
     refine qdc 17 (wire_Machine_Two.ok _ _ _ _ _ _ _ h_574 _ _ _ b_x0 hs.own) hs fun w a hs => ?_
     refine ⟨fun h => absurd h (by decide), ?_⟩
     refine Vk.dOnly (i := 18) (by kernel_rfl) (Vk.dPure1 [(6, vi v_575.1)] hs (by kernel_rfl) fun a hs => ?_)
     refine ⟨fun h => absurd h (by decide), ?_⟩
     replace hs := hs.pick [6] (L' := [(6, vi v_575.1)]) (by kernel_rfl)
     refine Vk.dDone (by kernel_rfl) ?_
     refine hK568 _ _ ?_
     clear hK568
     refine wp_ret ?_
     refine hKP566 _ _ ?_
     refine hKR566 _ _ ?_
     refine Vk.ret1 (P := Tryz.prog) (fn := Tryz.f132) (vi v_575.1) hs rfl (by kernel_rfl) ⟨_, _, _, rfl, hs.own, fun a hs => ?_⟩
     replace hcl := qO hC_565 hs.own.drop
     refine ⟨fun _ => hcl, ?_⟩
     obtain ⟨v_578, h_577, hm⟩ := bind_t hm
     refine qdc 14 (wire_Machine_Two.ok _ _ _ _ _ _ _ h_577 _ _ _ b_x0 hs.own) hs fun w a hs => ?_
     replace hcl := qO hC_565 hs.own.drop
     refine ⟨fun _ => hcl, ?_⟩
     refine qdp (fuel := 1) [16] hs hcl hqC_565 fun a hs => ?_
     refine qsd 17 1 1 (ci v_578.1) hs rfl fun a w hs => ?_
     refine ⟨fun h => absurd h (by decide), ?_⟩
     replace hs := hs.pick [0, 1, 4, 5, 6, 7, 16, 17, 31, 32] (L' := [(0, pp b_245), (1, .func (.func 132) #[pp b_245] #[]), (4, pp b_460), (5, pp b_462), (6, vi 3), (7, vi 1), (16, vi 3), (17, vi 1), (31, vi 3), (32, vi 2)]) (by kernel_rfl)
     refine Vk.dDone (by kernel_rfl) ?_
     refine hK562 _ _ ?_
     clear hK562
     refine Vk.region ?_
     refine qpk 2 [0, 1, 4, 5, 6, 7, 16, 17, 31, 32] hs fun a hs => hKL559 _ _ ?_
     clear hKL559
     refine Vk.unroll fun KL579 hKL579 => ?_
     refine qsk 1 [0, 1, 4, 5, 6, 7, 16, 17, 31, 32, 33] hs fun a hs => ?_
     refine Vk.seq fun K581 hK581 => ?_
     refine qcf hs ?_
     refine wp_exit ?_
     refine hK529 _ _ ?_
     clear hK529
     refine Vk.region ?_
     refine qpk 2 [0, 1, 4, 5, 6, 16, 17] hs fun a hs => hKL526 _ _ ?_
     clear hKL526
     refine Vk.unroll fun KL582 hKL582 => ?_
     refine qsk 1 [0, 1, 4, 5, 6, 16, 17, 18] hs fun a hs => ?_
     refine qck hs ?_
     refine Vk.seq fun K585 hK585 => ?_
     refine wp_block ?_
     refine qsk 2 [0, 1, 4, 5, 6, 7, 16, 17] hs fun a hs => ?_
     refine qsr fun K587 hK587 => ?_
     refine qpu 8 hs fun a hs => ?_
     refine qld 3 (ci v_449.1) hs rfl fun a hs => ?_
     refine qpu 2 hs fun a hs => ?_
     refine qst 1 2 (ci v_449.1) hs rfl fun a w hs => ?_
     refine qpe 0 [(0, pp b_245), (1, .func (.func 132) #[pp b_245] #[]), (4, pp b_460), (5, pp b_462), (6, vi 3), (7, vi 2), (16, vi 3), (17, vi 2)] hs fun a hs => hK587 _ _ ?_
     clear hK587
     refine qsk 2 [0, 1, 4, 5, 6, 7, 16, 17, 31, 32] hs fun a hs => ?_
     refine wp_block ?_
     refine Vk.unroll0 40 ?_
     refine Vk.unroll fun KL589 hKL589 => ?_
     refine qsk 1 [0, 1, 4, 5, 6, 7, 16, 17, 31, 32, 33] hs fun a hs => ?_
     refine qck hs ?_
     refine Vk.seq fun K592 hK592 => ?_
     refine wp_block ?_
     refine qsk 2 [0, 1, 4, 5, 6, 7, 8, 16, 17, 31, 32] hs fun a hs => ?_
     refine qsk 3 [0, 1, 4, 5, 6, 7, 8, 16, 17, 31, 32, 37] hs fun a hs => ?_
     refine qct hs ?_
     obtain ⟨C_595, hC_595⟩ := qC hs.own.drop
     refine qdr 17 κ C_595 hs fun w hs hqC_595 => ?_
     have hcl := qO hC_595 hs.own.drop
     refine qdp (fuel := 6) [0, 1, 2, 3, 5, 6, 7, 8, 10, 11, 12, 15] hs hcl hqC_595 fun a hs => ?_
     refine qdl 4 2 (cp b_x0) hs hcl hqC_595 hC_595 rfl fun a hs => ?_
     refine qdl 9 0 (ci v_449.1) hs hcl hqC_595 hC_595 rfl fun a hs => ?_
     refine Vk.dOnly (i := 13) (by kernel_rfl) (Vk.call (some 51) 132 #[pp b_245, vi 2, vi 0] hs (by kernel_rfl) (by kernel_rfl) (by kernel_rfl) ?_)
     refine Vk.enterI [(0, pp b_245), (1, vi 2), (2, vi 0)] Tryz.func132 rfl Tryz.ntmps132 (by kernel_rfl) (Nat.le_of_ble_eq_true (by kernel_rfl)) hs.own fun KR596 hKR596 hKP596 a hs => ?_
     refine qsk 1 [0, 1, 2] hs fun a hs => ?_
     refine Vk.seq fun K598 hK598 => ?_
     obtain ⟨C_599, hC_599⟩ := qC hs.own
     refine qdr 17 κ C_599 hs fun w hs hqC_599 => ?_
     have hcl := qO hC_599 hs.own
     refine qdp (fuel := 5) [0, 1, 2, 4, 5, 6, 7, 8, 9, 10, 11, 13, 14, 15] hs hcl hqC_599 fun a hs => ?_
     refine qdl 3 3 (cp b_x0) hs hcl hqC_599 hC_599 rfl fun a hs => ?_
     refine qdl 12 3 (ci v_423.1) hs hcl hqC_599 hC_599 rfl fun a hs => ?_
     refine Vk.dOnly (i := 16) (by kernel_rfl) (Vk.call (some 23) 139 #[pp b_245, vi 2, vi 0] hs (by kernel_rfl) (by kernel_rfl) (by kernel_rfl) ?_)
     refine Vk.enterI [(0, pp b_245), (1, vi 2), (2, vi 0)] Tryz.func139 rfl Tryz.ntmps139 (by kernel_rfl) (Nat.le_of_ble_eq_true (by kernel_rfl)) hs.own fun KR600 hKR600 hKP600 a hs => ?_
     refine qse 1 [(0, pp b_245), (1, vi 2), (2, vi 0)] hs fun a hs => ?_
     refine qsr fun K602 hK602 => ?_
     refine qpu 3 hs fun a hs => ?_
     refine qld 3 (C.map (some b_244)) hs rfl fun a hs => ?_
     refine qpu 7 hs fun a hs => ?_
     refine qva (vi v_274.1) (op := (.lookup 143 (.tmp 10) (.tmp 17) false)) hs (fun o ho => run_lookup (b := b_244) (key := .agg (vals [ci 0, ci 2])) 4 rfl ho (by kernel_rfl) (by kernel_rfl) (by kernel_rfl) _ hs.own) fun a hs => ?_
     refine qpe 1 [(6, vi v_274.1)] hs fun a hs => hK602 _ _ ?_
     clear hK602
     refine wp_ret ?_
     refine hKP600 _ _ ?_
     refine hKR600 _ _ ?_
     refine Vk.ret1 (P := Tryz.prog) (fn := Tryz.f139) (vi v_274.1) hs rfl (by kernel_rfl) ⟨_, _, _, rfl, hs.own, fun a hs => ?_⟩
     replace hcl := qO hC_599 hs.own
     refine ⟨fun _ => hcl, ?_⟩
     obtain ⟨v_605, h_604, hm⟩ := bind_t hm
     refine qdc 17 (wire_Machine_Two.ok _ _ _ _ _ _ _ h_604 _ _ _ b_x0 hs.own) hs fun w a hs => ?_
     refine ⟨fun h => absurd h (by decide), ?_⟩
     refine Vk.dOnly (i := 18) (by kernel_rfl) (Vk.dPure1 [(6, vi v_605.1)] hs (by kernel_rfl) fun a hs => ?_)
     refine ⟨fun h => absurd h (by decide), ?_⟩
     replace hs := hs.pick [6] (L' := [(6, vi v_605.1)]) (by kernel_rfl)
     refine Vk.dDone (by kernel_rfl) ?_
     refine hK598 _ _ ?_
     clear hK598
     refine wp_ret ?_
     refine hKP596 _ _ ?_
     refine hKR596 _ _ ?_
     refine Vk.ret1 (P := Tryz.prog) (fn := Tryz.f132) (vi v_605.1) hs rfl (by kernel_rfl) ⟨_, _, _, rfl, hs.own, fun a hs => ?_⟩
     replace hcl := qO hC_595 hs.own.drop
     refine ⟨fun _ => hcl, ?_⟩
     obtain ⟨v_608, h_607, hm⟩ := bind_t hm
     refine qdc 14 (wire_Machine_Two.ok _ _ _ _ _ _ _ h_607 _ _ _ b_x0 hs.own) hs fun w a hs => ?_
     replace hcl := qO hC_595 hs.own.drop
     refine ⟨fun _ => hcl, ?_⟩
     refine qdp (fuel := 1) [16] hs hcl hqC_595 fun a hs => ?_
     refine qsd 17 1 2 (ci v_608.1) hs rfl fun a w hs => ?_
     refine ⟨fun h => absurd h (by decide), ?_⟩
     replace hs := hs.pick [0, 1, 4, 5, 6, 7, 16, 17, 31, 32] (L' := [(0, pp b_245), (1, .func (.func 132) #[pp b_245] #[]), (4, pp b_460), (5, pp b_462), (6, vi 3), (7, vi 2), (16, vi 3), (17, vi 2), (31, vi 3), (32, vi 0)]) (by kernel_rfl)
     refine Vk.dDone (by kernel_rfl) ?_
     refine hK592 _ _ ?_
     clear hK592
     refine Vk.region ?_
     refine qpk 2 [0, 1, 4, 5, 6, 7, 16, 17, 31, 32] hs fun a hs => hKL589 _ _ ?_
     clear hKL589
     refine Vk.unroll fun KL609 hKL609 => ?_
     refine qsk 1 [0, 1, 4, 5, 6, 7, 16, 17, 31, 32, 33] hs fun a hs => ?_
     refine qck hs ?_
     refine Vk.seq fun K612 hK612 => ?_
     refine wp_block ?_
     refine qsk 2 [0, 1, 4, 5, 6, 7, 8, 16, 17, 31, 32] hs fun a hs => ?_
     refine qsk 3 [0, 1, 4, 5, 6, 7, 8, 16, 17, 31, 32, 37] hs fun a hs => ?_
     refine qct hs ?_
     obtain ⟨C_615, hC_615⟩ := qC hs.own.drop
     refine qdr 17 κ C_615 hs fun w hs hqC_615 => ?_
     have hcl := qO hC_615 hs.own.drop
     refine qdp (fuel := 6) [0, 1, 2, 3, 5, 6, 7, 8, 10, 11, 12, 15] hs hcl hqC_615 fun a hs => ?_
     refine qdl 4 2 (cp b_x0) hs hcl hqC_615 hC_615 rfl fun a hs => ?_
     refine qdl 9 0 (ci v_608.1) hs hcl hqC_615 hC_615 rfl fun a hs => ?_
     refine Vk.dOnly (i := 13) (by kernel_rfl) (Vk.call (some 51) 132 #[pp b_245, vi 2, vi 1] hs (by kernel_rfl) (by kernel_rfl) (by kernel_rfl) ?_)
     refine Vk.enterI [(0, pp b_245), (1, vi 2), (2, vi 1)] Tryz.func132 rfl Tryz.ntmps132 (by kernel_rfl) (Nat.le_of_ble_eq_true (by kernel_rfl)) hs.own fun KR616 hKR616 hKP616 a hs => ?_
     refine qsk 1 [0, 1, 2] hs fun a hs => ?_
     refine Vk.seq fun K618 hK618 => ?_
     obtain ⟨C_619, hC_619⟩ := qC hs.own
     refine qdr 17 κ C_619 hs fun w hs hqC_619 => ?_
     have hcl := qO hC_619 hs.own
     refine qdp (fuel := 5) [0, 1, 2, 4, 5, 6, 7, 8, 9, 10, 11, 13, 14, 15] hs hcl hqC_619 fun a hs => ?_
     refine qdl 3 3 (cp b_x0) hs hcl hqC_619 hC_619 rfl fun a hs => ?_
     refine qdl 12 3 (ci v_436.1) hs hcl hqC_619 hC_619 rfl fun a hs => ?_
     refine Vk.dOnly (i := 16) (by kernel_rfl) (Vk.call (some 23) 139 #[pp b_245, vi 2, vi 1] hs (by kernel_rfl) (by kernel_rfl) (by kernel_rfl) ?_)
     refine Vk.enterI [(0, pp b_245), (1, vi 2), (2, vi 1)] Tryz.func139 rfl Tryz.ntmps139 (by kernel_rfl) (Nat.le_of_ble_eq_true (by kernel_rfl)) hs.own fun KR620 hKR620 hKP620 a hs => ?_
     refine qse 1 [(0, pp b_245), (1, vi 2), (2, vi 1)] hs fun a hs => ?_
     refine qsr fun K622 hK622 => ?_
     refine qpu 3 hs fun a hs => ?_
     refine qld 3 (C.map (some b_244)) hs rfl fun a hs => ?_
     refine qpu 7 hs fun a hs => ?_
     refine qva (vi v_291.1) (op := (.lookup 143 (.tmp 10) (.tmp 17) false)) hs (fun o ho => run_lookup (b := b_244) (key := .agg (vals [ci 1, ci 2])) 4 rfl ho (by kernel_rfl) (by kernel_rfl) (by kernel_rfl) _ hs.own) fun a hs => ?_
     refine qpe 1 [(6, vi v_291.1)] hs fun a hs => hK622 _ _ ?_
     clear hK622
     refine wp_ret ?_
     refine hKP620 _ _ ?_
     refine hKR620 _ _ ?_
     refine Vk.ret1 (P := Tryz.prog) (fn := Tryz.f139) (vi v_291.1) hs rfl (by kernel_rfl) ⟨_, _, _, rfl, hs.own, fun a hs => ?_⟩
     replace hcl := qO hC_619 hs.own
     refine ⟨fun _ => hcl, ?_⟩
     obtain ⟨v_625, h_624, hm⟩ := bind_t hm
     refine qdc 17 (wire_Machine_Two.ok _ _ _ _ _ _ _ h_624 _ _ _ b_x0 hs.own) hs fun w a hs => ?_
     refine ⟨fun h => absurd h (by decide), ?_⟩
     refine Vk.dOnly (i := 18) (by kernel_rfl) (Vk.dPure1 [(6, vi v_625.1)] hs (by kernel_rfl) fun a hs => ?_)
     refine ⟨fun h => absurd h (by decide), ?_⟩
     replace hs := hs.pick [6] (L' := [(6, vi v_625.1)]) (by kernel_rfl)
     refine Vk.dDone (by kernel_rfl) ?_
     refine hK618 _ _ ?_
     clear hK618
     refine wp_ret ?_
     refine hKP616 _ _ ?_
     refine hKR616 _ _ ?_
     refine Vk.ret1 (P := Tryz.prog) (fn := Tryz.f132) (vi v_625.1) hs rfl (by kernel_rfl) ⟨_, _, _, rfl, hs.own, fun a hs => ?_⟩
     replace hcl := qO hC_615 hs.own.drop
     refine ⟨fun _ => hcl, ?_⟩
     obtain ⟨v_628, h_627, hm⟩ := bind_t hm
     refine qdc 14 (wire_Machine_Two.ok _ _ _ _ _ _ _ h_627 _ _ _ b_x0 hs.own) hs fun w a hs => ?_
     replace hcl := qO hC_615 hs.own.drop
     refine ⟨fun _ => hcl, ?_⟩
     refine qdp (fuel := 1) [16] hs hcl hqC_615 fun a hs => ?_
     refine qsd 17 1 2 (ci v_628.1) hs rfl fun a w hs => ?_
     refine ⟨fun h => absurd h (by decide), ?_⟩
     replace hs := hs.pick [0, 1, 4, 5, 6, 7, 16, 17, 31, 32] (L' := [(0, pp b_245), (1, .func (.func 132) #[pp b_245] #[]), (4, pp b_460), (5, pp b_462), (6, vi 3), (7, vi 2), (16, vi 3), (17, vi 2), (31, vi 3), (32, vi 1)]) (by kernel_rfl)
     refine Vk.dDone (by kernel_rfl) ?_
     refine hK612 _ _ ?_
     clear hK612
     refine Vk.region ?_
     refine qpk 2 [0, 1, 4, 5, 6, 7, 16, 17, 31, 32] hs fun a hs => hKL609 _ _ ?_
     clear hKL609
     refine Vk.unroll fun KL629 hKL629 => ?_
     refine qsk 1 [0, 1, 4, 5, 6, 7, 16, 17, 31, 32, 33] hs fun a hs => ?_
     refine qck hs ?_
     refine Vk.seq fun K632 hK632 => ?_
     refine wp_block ?_
     refine qsk 2 [0, 1, 4, 5, 6, 7, 8, 16, 17, 31, 32] hs fun a hs => ?_
     refine qsk 3 [0, 1, 4, 5, 6, 7, 8, 16, 17, 31, 32, 37] hs fun a hs => ?_
     refine qcf hs ?_
     refine wp_skip ?_
     refine hK632 _ _ ?_
     clear hK632
     refine Vk.region ?_
     refine qpk 2 [0, 1, 4, 5, 6, 7, 16, 17, 31, 32] hs fun a hs => hKL629 _ _ ?_
     clear hKL629
     refine Vk.unroll fun KL635 hKL635 => ?_
     refine qse 1 [(0, pp b_245), (1, .func (.func 132) #[pp b_245] #[]), (4, pp b_460), (5, pp b_462), (6, vi 3), (7, vi 2), (16, vi 3), (17, vi 2), (31, vi 3), (32, vi 3), (33, .bool false)] hs fun a hs => ?_
     refine Vk.seq fun K637 hK637 => ?_
     refine qcf hs ?_
     refine wp_exit ?_
     refine hK585 _ _ ?_
     clear hK585
     refine Vk.region ?_
     refine qpk 2 [0, 1, 4, 5, 6, 16, 17] hs fun a hs => hKL582 _ _ ?_
     clear hKL582
     refine Vk.unroll fun KL638 hKL638 => ?_
     refine qsk 1 [0, 1, 4, 5, 6, 16, 17, 18] hs fun a hs => ?_
     refine Vk.seq fun K640 hK640 => ?_
     refine qcf hs ?_
     refine wp_exit ?_
     refine hK468 _ _ ?_
     clear hK468
     refine qsr fun K641 hK641 => ?_
     refine qln 1 ([ci v_522.1, ci v_578.1, ci v_628.1]) hs rfl fun a hs => ?_
     refine qsa 2 [ci v_522.1, ci v_578.1, ci v_628.1] hs rfl fun a w hs => ?_
     refine qpe 0 [(4, pp b_460)] hs fun a hs => hK641 _ _ ?_
     clear hK641
     refine wp_ret ?_
     refine hKP458 _ _ ?_
     refine hKR458 _ _ ?_
     refine Vk.retC (P := Tryz.prog) (fn := Tryz.f131) [ci v_522.1, ci v_578.1, ci v_628.1] hs rfl (by kernel_rfl) (sz := 3) (by kernel_rfl) rfl (CellsAt.all 2 rfl) ⟨_, _, _, rfl, hs.own, fun a hs => ?_⟩
     refine qal 35 [ci 0, ci 0, ci 0] 8 hs fun b_642 w a hs => ?_
     refine qsa 0 [ci v_522.1, ci v_578.1, ci v_628.1] hs rfl fun a w hs => ?_
     refine qpk 0 [0, 6, 8] hs fun a hs => hK457 _ _ ?_
     clear hK457
     refine qsr fun K643 hK643 => ?_
     refine qpu 1 hs fun a hs => ?_
     obtain ⟨v_646, h_645, hm⟩ := bind_t hm
     refine qcl (wire_Machine_End.ok _ _ _ h_645 _ _ _ b_x0 hs.own.f1) hs fun w a hs => ?_
     refine qpe 0 [(6, pp b_4), (8, pp b_642)] hs fun a hs => hK643 _ _ ?_
     clear hK643
     refine qsr fun K647 hK647 => ?_
     refine qln 1 ([ci v_522.1, ci v_578.1, ci v_628.1]) hs rfl fun a hs => ?_
     refine qsa 8 [ci v_522.1, ci v_578.1, ci v_628.1] hs rfl fun a w hs => ?_
     refine qpe 0 [(6, pp b_4)] hs fun a hs => hK647 _ _ ?_
     clear hK647
     refine wp_ret ?_
     exact Vk.retC [ci v_522.1, ci v_578.1, ci v_628.1] hs rfl (by kernel_rfl) (sz := 3) (by kernel_rfl) rfl (CellsAt.all 8 rfl) (hRR ▸ by cases hm; exact ⟨rfl, (hs.own.too [0] 11)⟩)
    ·replace hm := bif_f hm hb
     cases hm
   ·replace hm := bif_f hm hb
    cases hm
  ·replace hm := bif_f hm hb
   cases hm


abbrev times_Isw.R (κ : Ctx) (S : List HP) (x0 : Twire_Machine) (x1 : Cells) (x2 : Cells) (b_x0 : Nat) (r : (Cells × Twire_Machine)) : Ending → World → Prop := fun e w' => e = .returned (.agg (vals r.1)) ∧ Own κ w' (Twire_Machine.own b_x0 r.2 :: S)
def times_Isw.m (k : Nat) (x0 : Twire_Machine) (x1 : Cells) (x2 : Cells) : Option (Cells × Twire_Machine) := (wire_Machine_N.m k x0).bind fun v_10 => (bif v_10 == 2 then (wire_Machine_Begin.m k x0 3).bind fun v_14 => (if x1.length = 3 then (if x2.length = 3 then (wire_Machine_N.m k v_14).bind fun v_29 => (bif v_29 == 2 then (wire_Machine_Rand.m k v_14 (-1)).bind fun v_45 => (getI .i64 x1 (0)).bind fun v_76 => (getI .i64 x2 (0)).bind fun v_78 => (wire_Machine_Two.m k v_45.2 7 0 v_76 v_78).bind fun v_81 => (getI .i64 x1 (0)).bind fun v_89 => (getI .i64 x2 (1)).bind fun v_91 => (wire_Machine_Two.m k v_81.2 7 0 v_89 v_91).bind fun v_94 => (getI .i64 x1 (1)).bind fun v_111 => (getI .i64 x2 (0)).bind fun v_113 => (wire_Machine_Two.m k v_94.2 7 1 v_111 v_113).bind fun v_116 => (getI .i64 x1 (1)).bind fun v_124 => (getI .i64 x2 (1)).bind fun v_126 => (wire_Machine_Two.m k v_116.2 7 1 v_124 v_126).bind fun v_129 => (wire_Machine_N.m k v_129.2).bind fun v_147 => (bif v_147 == 2 then (wire_Machine_Two.m k v_129.2 5 0 v_81.1 v_45.1).bind fun v_180 => (wire_Machine_Two.m k v_180.2 5 1 v_45.1 v_94.1).bind fun v_209 => (wire_Machine_Two.m k v_209.2 5 1 v_209.1 v_116.1).bind fun v_212 => (wire_Machine_Two.m k v_212.2 5 1 v_129.1 v_212.1).bind fun v_215 => (wire_Machine_End.m k v_215.2).bind fun v_233 => some ([ci v_180.1, ci v_215.1, ci (-1)], v_233) else none) else none) else none) else none) else (bif v_10 == 3 then (wire_Machine_Begin.m k x0 3).bind fun v_238 => (if x1.length = 3 then (if x2.length = 3 then (wire_Machine_N.m k v_238).bind fun v_253 => (bif v_253 == 3 then (wire_Machine_Rand.m k v_238 (-1)).bind fun v_269 => (wire_Machine_Rand.m k v_269.2 (-1)).bind fun v_277 => (wire_Machine_Rand.m k v_277.2 (-1)).bind fun v_294 => (getI .i64 x1 (0)).bind fun v_325 => (getI .i64 x2 (0)).bind fun v_327 => (wire_Machine_Two.m k v_294.2 7 0 v_325 v_327).bind fun v_330 => (getI .i64 x1 (0)).bind fun v_338 => (getI .i64 x2 (1)).bind fun v_340 => (wire_Machine_Two.m k v_330.2 7 0 v_338 v_340).bind fun v_343 => (getI .i64 x1 (0)).bind fun v_351 => (getI .i64 x2 (2)).bind fun v_353 => (wire_Machine_Two.m k v_343.2 7 0 v_351 v_353).bind fun v_356 => (getI .i64 x1 (1)).bind fun v_373 => (getI .i64 x2 (0)).bind fun v_375 => (wire_Machine_Two.m k v_356.2 7 1 v_373 v_375).bind fun v_378 => (getI .i64 x1 (1)).bind fun v_386 => (getI .i64 x2 (1)).bind fun v_388 => (wire_Machine_Two.m k v_378.2 7 1 v_386 v_388).bind fun v_391 => (getI .i64 x1 (1)).bind fun v_399 => (getI .i64 x2 (2)).bind fun v_401 => (wire_Machine_Two.m k v_391.2 7 1 v_399 v_401).bind fun v_404 => (getI .i64 x1 (2)).bind fun v_421 => (getI .i64 x2 (0)).bind fun v_423 => (wire_Machine_Two.m k v_404.2 7 2 v_421 v_423).bind fun v_426 => (getI .i64 x1 (2)).bind fun v_434 => (getI .i64 x2 (1)).bind fun v_436 => (wire_Machine_Two.m k v_426.2 7 2 v_434 v_436).bind fun v_439 => (getI .i64 x1 (2)).bind fun v_447 => (getI .i64 x2 (2)).bind fun v_449 => (wire_Machine_Two.m k v_439.2 7 2 v_447 v_449).bind fun v_452 => (wire_Machine_N.m k v_452.2).bind fun v_470 => (bif v_470 == 3 then (wire_Machine_Two.m k v_452.2 5 0 v_330.1 v_269.1).bind fun v_503 => (wire_Machine_Two.m k v_503.2 5 0 v_503.1 v_277.1).bind fun v_521 => (wire_Machine_Two.m k v_521.2 5 1 v_269.1 v_343.1).bind fun v_550 => (wire_Machine_Two.m k v_550.2 5 1 v_550.1 v_378.1).bind fun v_553 => (wire_Machine_Two.m k v_553.2 5 1 v_391.1 v_553.1).bind fun v_556 => (wire_Machine_Two.m k v_556.2 5 1 v_556.1 v_294.1).bind fun v_580 => (wire_Machine_Two.m k v_580.2 5 2 v_277.1 v_356.1).bind fun v_609 => (wire_Machine_Two.m k v_609.2 5 2 v_609.1 v_426.1).bind fun v_612 => (wire_Machine_Two.m k v_612.2 5 2 v_452.1 v_612.1).bind fun v_615 => (wire_Machine_Two.m k v_615.2 5 2 v_294.1 v_404.1).bind fun v_634 => (wire_Machine_Two.m k v_634.2 5 2 v_634.1 v_439.1).bind fun v_637 => (wire_Machine_Two.m k v_637.2 5 2 v_615.1 v_637.1).bind fun v_640 => (wire_Machine_End.m k v_640.2).bind fun v_658 => some ([ci v_521.1, ci v_580.1, ci v_640.1], v_658) else none) else none) else none) else none) else none))

set_option maxRecDepth 100000 in
set_option maxHeartbeats 4000000 in
theorem times_Isw.ok (k : Nat) (x0 : Twire_Machine) (x1 : Cells) (x2 : Cells) (r : (Cells × Twire_Machine)) (hm : times_Isw.m k x0 x1 x2 = some r) (κ : Ctx) (w : World) (S : List HP) (b_x0 : Nat) (ho : Own κ w (Twire_Machine.own b_x0 x0 :: S)) :
  Calls Tryz.prog 116 #[pp b_x0, .agg (vals x1), .agg (vals x2)] w (times_Isw.R κ S x0 x1 x2 b_x0 r) := by
 unfold times_Isw.m at hm
 generalize hRR : times_Isw.R κ S x0 x1 x2 b_x0 r = RR
 refine qen [(0, pp b_x0), (1, .agg (vals x1)), (2, .agg (vals x2))] Tryz.func116 Tryz.ntmps116 ho fun a hs => ?_
 refine qsr fun K1 hK1 => ?_
 refine qbx 1 35 x1 4 hs fun b_2 w a hs => ?_
 refine qbx 2 35 x2 5 hs fun b_3 w a hs => ?_
 refine qal 35 [ci 0, ci 0, ci 0] 6 hs fun b_4 w a hs => ?_
 refine qpe 0 [(0, pp b_x0), (4, pp b_2), (5, pp b_3), (6, pp b_4)] hs fun a hs => hK1 _ _ ?_
 clear hK1
 refine Vk.seq fun K5 hK5 => ?_
 refine qsr fun K6 hK6 => ?_
 refine qpu 1 hs fun a hs => ?_
 obtain ⟨g_7, hs⟩ := hs.unex 3 rfl
 obtain ⟨v_10, h_9, hm⟩ := bind_t hm
 refine qcl (wire_Machine_N.ok _ _ _ h_9 _ _ _ b_x0 g_7 hs.own.f3) hs fun w a hs => ?_
 rcases Bool.eq_false_or_eq_true (v_10 == 2) with hb | hb
 ·replace hm := bif_t hm hb
  obtain rfl := Vk.of_beq hb
  refine qpk 1 [0, 4, 5, 6, 11] hs fun a hs => hK6 _ _ ?_
  refine qcf hs ?_
  refine wp_skip ?_
  refine hK5 _ _ ?_
  refine qsr fun K11 hK11 => ?_
  refine qpu 1 hs fun a hs => ?_
  replace hs := hs.toEx (Twire_Machine.parts b_x0 x0) g_7 0 rfl
  obtain ⟨v_14, h_13, hm⟩ := bind_t hm
  refine qcl (wire_Machine_Begin.ok _ _ _ _ h_13 _ _ _ b_x0 hs.own) hs fun w a hs => ?_
  refine qpk 0 [0, 4, 5, 6] hs fun a hs => hK11 _ _ ?_
  clear hK11
  refine qsr fun K15 hK15 => ?_
  refine qpu 1 hs fun a hs => ?_
  obtain ⟨h_16, hm⟩ := ite_t hm
  refine qlw 3 hs rfl h_16 fun a hs => ?_
  obtain ⟨h_17, hm⟩ := ite_t hm
  refine qlw 2 hs rfl h_17 fun a hs => ?_
  refine Vk.step (Vk.call (some 19) 130 #[pp b_x0, .agg (vals x1), .agg (vals x2)] hs (by kernel_rfl) (by kernel_rfl) (by kernel_rfl) ?_)
  refine Vk.enterI [(0, pp b_x0), (1, .agg (vals x1)), (2, .agg (vals x2))] Tryz.func130 rfl Tryz.ntmps130 (by kernel_rfl) (Nat.le_of_ble_eq_true (by kernel_rfl)) hs.own fun KR18 hKR18 hKP18 a hs => ?_
  refine qsr fun K19 hK19 => ?_
  refine qbx 1 35 x1 4 hs fun b_20 w a hs => ?_
  refine qbx 2 35 x2 5 hs fun b_21 w a hs => ?_
  refine qpk 1 [0, 4, 5] hs fun a hs => hK19 _ _ ?_
  clear hK19
  refine qsr fun K22 hK22 => ?_
  refine qpu 1 hs fun a hs => ?_
  refine Vk.step (Vk.mapOp 14 143 hs (by kernel_rfl) (by kernel_rfl) fun b_23 w a hs => ?_)
  refine qpu 1 hs fun a hs => ?_
  refine qbx 15 145 [cp b_x0, C.map (some b_23), ci 0, ci 0, ci 0, ci 0, ci 0, ci 0, ci 0, ci 0, ci 0] 16 hs fun b_24 w a hs => ?_
  refine qpe 1 [(0, pp b_x0), (4, pp b_20), (5, pp b_21), (7, pp b_24)] hs fun a hs => hK22 _ _ ?_
  clear hK22
  refine qsr fun K25 hK25 => ?_
  refine qpu 1 hs fun a hs => ?_
  obtain ⟨g_26, hs⟩ := hs.unex 4 rfl
  obtain ⟨v_29, h_28, hm⟩ := bind_t hm
  refine qcl (wire_Machine_N.ok _ _ _ h_28 _ _ _ b_x0 g_26 hs.own.f4) hs fun w a hs => ?_
  rcases Bool.eq_false_or_eq_true (v_29 == 2) with hb | hb
  ·replace hm := bif_t hm hb
   obtain rfl := Vk.of_beq hb
   refine qpk 1 [0, 4, 5, 7, 8] hs fun a hs => hK25 _ _ ?_
   clear hK25
   refine Vk.seq fun K30 hK30 => ?_
   refine qsk 2 [0, 4, 5, 7, 8, 19, 20] hs fun a hs => ?_
   refine wp_block ?_
   refine Vk.unroll0 40 ?_
   refine Vk.unroll fun KL32 hKL32 => ?_
   refine qsk 1 [0, 4, 5, 7, 8, 19, 20, 21] hs fun a hs => ?_
   refine qck hs ?_
   refine Vk.seq fun K35 hK35 => ?_
   refine wp_block ?_
   refine qsk 2 [0, 4, 5, 7, 8, 9, 19, 20] hs fun a hs => ?_
   refine qsk 3 [0, 4, 5, 7, 8, 9, 10, 19, 20] hs fun a hs => ?_
   refine wp_block ?_
   refine Vk.unroll0 40 ?_
   refine Vk.unroll fun KL38 hKL38 => ?_
   refine Vk.seq fun K39 hK39 => ?_
   refine qse 3 [(0, pp b_x0), (4, pp b_20), (5, pp b_21), (7, pp b_24), (8, vi 2), (9, vi 0), (10, vi 1), (19, vi 2), (20, vi 0), (27, .bool true)] hs fun a hs => ?_
   refine qct hs ?_
   refine wp_skip ?_
   refine hK39 _ _ ?_
   clear hK39
   refine Vk.seq fun K41 hK41 => ?_
   refine wp_block ?_
   obtain ⟨C_42, hC_42⟩ := qC hs.own.drop
   refine qdr 9 κ C_42 hs fun w hs hqC_42 => ?_
   have hcl := qO hC_42 hs.own.drop
   refine qdp (fuel := 3) [0, 1, 2, 4, 5, 6, 7] hs hcl hqC_42 fun a hs => ?_
   refine qdl 3 0 (C.map (some b_23)) hs hcl hqC_42 hC_42 rfl fun a hs => ?_
   replace hs := hs.toEx (Twire_Machine.parts b_x0 v_14) g_26 0 rfl
   obtain ⟨v_45, h_44, hm⟩ := bind_t hm
   refine qdc 8 (wire_Machine_Rand.ok _ _ _ _ h_44 _ _ _ b_x0 hs.own) hs fun w a hs => ?_
   replace hcl := qO hC_42 hs.own.drop
   refine ⟨fun _ => hcl, ?_⟩
   refine Vk.dOnly (i := 9) (by kernel_rfl) (Vk.updateOp (t := 143) (xm := (.tmp 33)) (xk := (.tmp 36)) (xv := (.tmp 38)) (b := b_23) (es' := #[⟨.agg (vals [ci 0, ci 1]), vi v_45.1, 0⟩]) (clock' := 1) (.agg (vals [ci 0, ci 1])) (vi v_45.1) 2 hs (by kernel_rfl) (by kernel_rfl) (by kernel_rfl) (by kernel_rfl) (by kernel_rfl) rfl (by kernel_rfl) fun a w hs => ?_)
   refine ⟨fun h => absurd h (by decide), ?_⟩
   replace hs := hs.pick [0, 4, 5, 7, 8, 9, 10, 19, 20] (L' := [(0, pp b_x0), (4, pp b_20), (5, pp b_21), (7, pp b_24), (8, vi 2), (9, vi 0), (10, vi 1), (19, vi 2), (20, vi 0)]) (by kernel_rfl)
   refine Vk.dDone (by kernel_rfl) ?_
   refine hK41 _ _ ?_
   clear hK41
   refine Vk.region ?_
   refine qpk 3 [0, 4, 5, 7, 8, 9, 10, 19, 20] hs fun a hs => hKL38 _ _ ?_
   clear hKL38
   refine Vk.unroll fun KL46 hKL46 => ?_
   refine Vk.seq fun K47 hK47 => ?_
   refine qsk 3 [0, 4, 5, 7, 8, 9, 10, 19, 20, 27] hs fun a hs => ?_
   refine qcf hs ?_
   refine wp_exit ?_
   refine hK35 _ _ ?_
   clear hK35
   refine Vk.region ?_
   refine qpk 2 [0, 4, 5, 7, 8, 19, 20] hs fun a hs => hKL32 _ _ ?_
   clear hKL32
   refine Vk.unroll fun KL49 hKL49 => ?_
   refine qsk 1 [0, 4, 5, 7, 8, 19, 20, 21] hs fun a hs => ?_
   refine qck hs ?_
   refine Vk.seq fun K52 hK52 => ?_
   refine wp_block ?_
   refine qsk 2 [0, 4, 5, 7, 8, 9, 19, 20] hs fun a hs => ?_
   refine qse 3 [(0, pp b_x0), (4, pp b_20), (5, pp b_21), (7, pp b_24), (8, vi 2), (9, vi 1), (10, vi 2), (19, vi 2), (20, vi 1)] hs fun a hs => ?_
   refine wp_block ?_
   refine Vk.unroll0 40 ?_
   refine Vk.unroll fun KL55 hKL55 => ?_
   refine Vk.seq fun K56 hK56 => ?_
   refine qsk 3 [0, 4, 5, 7, 8, 9, 10, 19, 20, 27] hs fun a hs => ?_
   refine qcf hs ?_
   refine wp_exit ?_
   refine hK52 _ _ ?_
   clear hK52
   refine Vk.region ?_
   refine qpk 2 [0, 4, 5, 7, 8, 19, 20] hs fun a hs => hKL49 _ _ ?_
   clear hKL49
   refine Vk.unroll fun KL58 hKL58 => ?_
   refine qsk 1 [0, 4, 5, 7, 8, 19, 20, 21] hs fun a hs => ?_
   refine Vk.seq fun K60 hK60 => ?_
   refine qcf hs ?_
   refine wp_exit ?_
   refine hK30 _ _ ?_
   clear hK30
   refine Vk.seq fun K61 hK61 => ?_
   refine qsk 2 [0, 4, 5, 7, 8, 40, 41] hs fun a hs => ?_
   refine wp_block ?_
   refine Vk.unroll0 40 ?_
   refine Vk.unroll fun KL63 hKL63 => ?_
   refine qsk 1 [0, 4, 5, 7, 8, 40, 41, 42] hs fun a hs => ?_
   refine qck hs ?_
   refine Vk.seq fun K66 hK66 => ?_
   refine wp_block ?_
   refine qse 2 [(0, pp b_x0), (4, pp b_20), (5, pp b_21), (7, pp b_24), (8, vi 2), (11, vi 0), (40, vi 2), (41, vi 0)] hs fun a hs => ?_
   refine qsk 2 [0, 4, 5, 7, 8, 11, 40, 41, 44, 45] hs fun a hs => ?_
   refine wp_block ?_
   refine Vk.unroll0 40 ?_
   refine Vk.unroll fun KL69 hKL69 => ?_
   refine qsk 1 [0, 4, 5, 7, 8, 11, 40, 41, 44, 45, 46] hs fun a hs => ?_
   refine qck hs ?_
   refine Vk.seq fun K72 hK72 => ?_
   refine wp_block ?_
   refine qsk 2 [0, 4, 5, 7, 8, 11, 12, 40, 41, 44, 45] hs fun a hs => ?_
   obtain ⟨C_74, hC_74⟩ := qC hs.own.drop
   refine qdr 18 κ C_74 hs fun w hs hqC_74 => ?_
   have hcl := qO hC_74 hs.own.drop
   refine qdp (fuel := 5) [0, 1, 2, 3, 4, 5, 6, 7, 9, 10, 11, 14, 15, 16] hs hcl hqC_74 fun a hs => ?_
   obtain ⟨v_76, h_75, hm⟩ := bind_t hm
   refine qdi 8 3 hs hcl hqC_74 hC_74 rfl h_75 fun a hs => ?_
   obtain ⟨v_78, h_77, hm⟩ := bind_t hm
   refine qdi 12 2 hs hcl hqC_74 hC_74 rfl h_77 fun a hs => ?_
   obtain ⟨v_81, h_80, hm⟩ := bind_t hm
   refine qdc 13 (wire_Machine_Two.ok _ _ _ _ _ _ _ h_80 _ _ _ b_x0 hs.own) hs fun w a hs => ?_
   replace hcl := qO hC_74 hs.own.drop
   refine ⟨fun _ => hcl, ?_⟩
   refine qdp (fuel := 1) [17] hs hcl hqC_74 fun a hs => ?_
   refine qsd 18 1 2 (ci v_81.1) hs rfl fun a w hs => ?_
   refine ⟨fun h => absurd h (by decide), ?_⟩
   replace hs := hs.pick [0, 4, 5, 7, 8, 11, 40, 41, 44, 45] (L' := [(0, pp b_x0), (4, pp b_20), (5, pp b_21), (7, pp b_24), (8, vi 2), (11, vi 0), (40, vi 2), (41, vi 0), (44, vi 2), (45, vi 0)]) (by kernel_rfl)
   refine Vk.dDone (by kernel_rfl) ?_
   refine hK72 _ _ ?_
   clear hK72
   refine Vk.region ?_
   refine qpk 2 [0, 4, 5, 7, 8, 11, 40, 41, 44, 45] hs fun a hs => hKL69 _ _ ?_
   clear hKL69
   refine Vk.unroll fun KL82 hKL82 => ?_
   refine qsk 1 [0, 4, 5, 7, 8, 11, 40, 41, 44, 45, 46] hs fun a hs => ?_
   refine qck hs ?_
   refine Vk.seq fun K85 hK85 => ?_
   refine wp_block ?_
   refine qse 2 [(0, pp b_x0), (4, pp b_20), (5, pp b_21), (7, pp b_24), (8, vi 2), (11, vi 0), (12, vi 1), (40, vi 2), (41, vi 0), (44, vi 2), (45, vi 1)] hs fun a hs => ?_
   obtain ⟨C_87, hC_87⟩ := qC hs.own.drop
   refine qdr 18 κ C_87 hs fun w hs hqC_87 => ?_
   have hcl := qO hC_87 hs.own.drop
   refine qdp (fuel := 5) [0, 1, 2, 3, 4, 5, 6, 7, 9, 10, 11, 14, 15, 16] hs hcl hqC_87 fun a hs => ?_
   obtain ⟨v_89, h_88, hm⟩ := bind_t hm
   refine qdi 8 3 hs hcl hqC_87 hC_87 rfl h_88 fun a hs => ?_
   obtain ⟨v_91, h_90, hm⟩ := bind_t hm
   refine qdi 12 2 hs hcl hqC_87 hC_87 rfl h_90 fun a hs => ?_
   obtain ⟨v_94, h_93, hm⟩ := bind_t hm
   refine qdc 13 (wire_Machine_Two.ok _ _ _ _ _ _ _ h_93 _ _ _ b_x0 hs.own) hs fun w a hs => ?_
   replace hcl := qO hC_87 hs.own.drop
   refine ⟨fun _ => hcl, ?_⟩
   refine qdp (fuel := 1) [17] hs hcl hqC_87 fun a hs => ?_
   refine qsd 18 1 3 (ci v_94.1) hs rfl fun a w hs => ?_
   refine ⟨fun h => absurd h (by decide), ?_⟩
   replace hs := hs.pick [0, 4, 5, 7, 8, 11, 40, 41, 44, 45] (L' := [(0, pp b_x0), (4, pp b_20), (5, pp b_21), (7, pp b_24), (8, vi 2), (11, vi 0), (40, vi 2), (41, vi 0), (44, vi 2), (45, vi 1)]) (by kernel_rfl)
   refine Vk.dDone (by kernel_rfl) ?_
   refine hK85 _ _ ?_
   clear hK85
   refine Vk.region ?_
   refine qpk 2 [0, 4, 5, 7, 8, 11, 40, 41, 44, 45] hs fun a hs => hKL82 _ _ ?_
   clear hKL82
   refine Vk.unroll fun KL95 hKL95 => ?_
   refine qsk 1 [0, 4, 5, 7, 8, 11, 40, 41, 44, 45, 46] hs fun a hs => ?_
   refine Vk.seq fun K97 hK97 => ?_
   refine qcf hs ?_
   refine wp_exit ?_
   refine hK66 _ _ ?_
   clear hK66
   refine Vk.region ?_
   refine qpk 2 [0, 4, 5, 7, 8, 40, 41] hs fun a hs => hKL63 _ _ ?_
   clear hKL63
   refine Vk.unroll fun KL98 hKL98 => ?_
   refine qsk 1 [0, 4, 5, 7, 8, 40, 41, 42] hs fun a hs => ?_
   refine qck hs ?_
   refine Vk.seq fun K101 hK101 => ?_
   refine wp_block ?_
   refine qsk 2 [0, 4, 5, 7, 8, 11, 40, 41] hs fun a hs => ?_
   refine qse 2 [(0, pp b_x0), (4, pp b_20), (5, pp b_21), (7, pp b_24), (8, vi 2), (11, vi 1), (40, vi 2), (41, vi 1), (44, vi 2), (45, vi 0)] hs fun a hs => ?_
   refine wp_block ?_
   refine Vk.unroll0 40 ?_
   refine Vk.unroll fun KL104 hKL104 => ?_
   refine qsk 1 [0, 4, 5, 7, 8, 11, 40, 41, 44, 45, 46] hs fun a hs => ?_
   refine qck hs ?_
   refine Vk.seq fun K107 hK107 => ?_
   refine wp_block ?_
   refine qsk 2 [0, 4, 5, 7, 8, 11, 12, 40, 41, 44, 45] hs fun a hs => ?_
   obtain ⟨C_109, hC_109⟩ := qC hs.own.drop
   refine qdr 18 κ C_109 hs fun w hs hqC_109 => ?_
   have hcl := qO hC_109 hs.own.drop
   refine qdp (fuel := 5) [0, 1, 2, 3, 4, 5, 6, 7, 9, 10, 11, 14, 15, 16] hs hcl hqC_109 fun a hs => ?_
   obtain ⟨v_111, h_110, hm⟩ := bind_t hm
   refine qdi 8 3 hs hcl hqC_109 hC_109 rfl h_110 fun a hs => ?_
   obtain ⟨v_113, h_112, hm⟩ := bind_t hm
   refine qdi 12 2 hs hcl hqC_109 hC_109 rfl h_112 fun a hs => ?_
   obtain ⟨v_116, h_115, hm⟩ := bind_t hm
   refine qdc 13 (wire_Machine_Two.ok _ _ _ _ _ _ _ h_115 _ _ _ b_x0 hs.own) hs fun w a hs => ?_
   replace hcl := qO hC_109 hs.own.drop
   refine ⟨fun _ => hcl, ?_⟩
   refine qdp (fuel := 1) [17] hs hcl hqC_109 fun a hs => ?_
   refine qsd 18 1 5 (ci v_116.1) hs rfl fun a w hs => ?_
   refine ⟨fun h => absurd h (by decide), ?_⟩
   replace hs := hs.pick [0, 4, 5, 7, 8, 11, 40, 41, 44, 45] (L' := [(0, pp b_x0), (4, pp b_20), (5, pp b_21), (7, pp b_24), (8, vi 2), (11, vi 1), (40, vi 2), (41, vi 1), (44, vi 2), (45, vi 0)]) (by kernel_rfl)
   refine Vk.dDone (by kernel_rfl) ?_
   refine hK107 _ _ ?_
   clear hK107
   refine Vk.region ?_
   refine qpk 2 [0, 4, 5, 7, 8, 11, 40, 41, 44, 45] hs fun a hs => hKL104 _ _ ?_
   clear hKL104
   refine Vk.unroll fun KL117 hKL117 => ?_
   refine qsk 1 [0, 4, 5, 7, 8, 11, 40, 41, 44, 45, 46] hs fun a hs => ?_
   refine qck hs ?_
   refine Vk.seq fun K120 hK120 => ?_
   refine wp_block ?_
   refine qsk 2 [0, 4, 5, 7, 8, 11, 12, 40, 41, 44, 45] hs fun a hs => ?_
   obtain ⟨C_122, hC_122⟩ := qC hs.own.drop
   refine qdr 18 κ C_122 hs fun w hs hqC_122 => ?_
   have hcl := qO hC_122 hs.own.drop
   refine qdp (fuel := 5) [0, 1, 2, 3, 4, 5, 6, 7, 9, 10, 11, 14, 15, 16] hs hcl hqC_122 fun a hs => ?_
   obtain ⟨v_124, h_123, hm⟩ := bind_t hm
   refine qdi 8 3 hs hcl hqC_122 hC_122 rfl h_123 fun a hs => ?_
   obtain ⟨v_126, h_125, hm⟩ := bind_t hm
   refine qdi 12 2 hs hcl hqC_122 hC_122 rfl h_125 fun a hs => ?_
   obtain ⟨v_129, h_128, hm⟩ := bind_t hm
   refine qdc 13 (wire_Machine_Two.ok _ _ _ _ _ _ _ h_128 _ _ _ b_x0 hs.own) hs fun w a hs => ?_
   replace hcl := qO hC_122 hs.own.drop
   refine ⟨fun _ => hcl, ?_⟩
   refine qdp (fuel := 1) [17] hs hcl hqC_122 fun a hs => ?_
   refine qsd 18 1 6 (ci v_129.1) hs rfl fun a w hs => ?_
   refine ⟨fun h => absurd h (by decide), ?_⟩
   replace hs := hs.pick [0, 4, 5, 7, 8, 11, 40, 41, 44, 45] (L' := [(0, pp b_x0), (4, pp b_20), (5, pp b_21), (7, pp b_24), (8, vi 2), (11, vi 1), (40, vi 2), (41, vi 1), (44, vi 2), (45, vi 1)]) (by kernel_rfl)
   refine Vk.dDone (by kernel_rfl) ?_
   refine hK120 _ _ ?_
   clear hK120
   refine Vk.region ?_
   refine qpe 2 [(0, pp b_x0), (4, pp b_20), (5, pp b_21), (7, pp b_24), (8, vi 2), (11, vi 1), (40, vi 2), (41, vi 1), (44, vi 2), (45, vi 2)] hs fun a hs => hKL117 _ _ ?_
   clear hKL117
   refine Vk.unroll fun KL130 hKL130 => ?_
   refine qsk 1 [0, 4, 5, 7, 8, 11, 40, 41, 44, 45, 46] hs fun a hs => ?_
   refine Vk.seq fun K132 hK132 => ?_
   refine qcf hs ?_
   refine wp_exit ?_
   refine hK101 _ _ ?_
   clear hK101
   refine Vk.region ?_
   refine qpk 2 [0, 4, 5, 7, 8, 40, 41] hs fun a hs => hKL98 _ _ ?_
   clear hKL98
   refine Vk.unroll fun KL133 hKL133 => ?_
   refine qsk 1 [0, 4, 5, 7, 8, 40, 41, 42] hs fun a hs => ?_
   refine Vk.seq fun K135 hK135 => ?_
   refine qcf hs ?_
   refine wp_exit ?_
   refine hK61 _ _ ?_
   clear hK61
   refine qse 2 [(6, pp b_24)] hs fun a hs => ?_
   refine wp_ret ?_
   refine hKP18 _ _ ?_
   refine hKR18 _ _ ?_
   refine Vk.ret1 (P := Tryz.prog) (fn := Tryz.f130) (pp b_24) hs rfl (by kernel_rfl) ⟨_, _, _, rfl, hs.own, fun a hs => ?_⟩
   refine qpk 1 [0, 6, 7] hs fun a hs => hK15 _ _ ?_
   clear hK15
   refine qsr fun K137 hK137 => ?_
   refine qpu 3 hs fun a hs => ?_
   refine Vk.step (Vk.call (some 23) 131 #[pp b_24, .func (.func 133) #[pp b_24] #[]] hs (by kernel_rfl) (by kernel_rfl) (by kernel_rfl) ?_)
   refine Vk.enterI [(0, pp b_24), (1, .func (.func 133) #[pp b_24] #[])] Tryz.func131 rfl Tryz.ntmps131 (by kernel_rfl) (Nat.le_of_ble_eq_true (by kernel_rfl)) hs.own fun KR138 hKR138 hKP138 a hs => ?_
   refine qsr fun K139 hK139 => ?_
   refine qal 35 [ci 0, ci 0, ci 0] 4 hs fun b_140 w a hs => ?_
   refine qpk 0 [0, 1, 4] hs fun a hs => hK139 _ _ ?_
   clear hK139
   refine qsr fun K141 hK141 => ?_
   refine qpu 2 hs fun a hs => ?_
   refine qal 35 [ci 0, ci 0, ci 0] 5 hs fun b_142 w a hs => ?_
   refine qsa 0 [ci (-1), ci (-1), ci (-1)] hs rfl fun a w hs => ?_
   refine qpe 0 [(0, pp b_24), (1, .func (.func 133) #[pp b_24] #[]), (4, pp b_140), (5, pp b_142)] hs fun a hs => hK141 _ _ ?_
   clear hK141
   refine qsr fun K143 hK143 => ?_
   refine qpu 3 hs fun a hs => ?_
   refine qld 3 (cp b_x0) hs rfl fun a hs => ?_
   obtain ⟨g_144, hs⟩ := hs.unex 2 rfl
   obtain ⟨v_147, h_146, hm⟩ := bind_t hm
   refine qcl (wire_Machine_N.ok _ _ _ h_146 _ _ _ b_x0 g_144 hs.own.f2) hs fun w a hs => ?_
   rcases Bool.eq_false_or_eq_true (v_147 == 2) with hb | hb
   ·replace hm := bif_t hm hb
    obtain rfl := Vk.of_beq hb
    refine qpk 1 [0, 1, 4, 5, 6] hs fun a hs => hK143 _ _ ?_
    clear hK143
    refine Vk.seq fun K148 hK148 => ?_
    refine qsk 2 [0, 1, 4, 5, 6, 16, 17] hs fun a hs => ?_
    refine wp_block ?_
    refine Vk.unroll0 40 ?_
    refine Vk.unroll fun KL150 hKL150 => ?_
    refine qsk 1 [0, 1, 4, 5, 6, 16, 17, 18] hs fun a hs => ?_
    refine qck hs ?_
    refine Vk.seq fun K153 hK153 => ?_
    refine wp_block ?_
    refine qsk 2 [0, 1, 4, 5, 6, 7, 16, 17] hs fun a hs => ?_
    refine qsr fun K155 hK155 => ?_
    refine qpu 8 hs fun a hs => ?_
    refine qld 3 (ci v_81.1) hs rfl fun a hs => ?_
    refine qpu 2 hs fun a hs => ?_
    refine qst 1 0 (ci v_81.1) hs rfl fun a w hs => ?_
    refine qpk 0 [0, 1, 4, 5, 6, 7, 16, 17] hs fun a hs => hK155 _ _ ?_
    clear hK155
    refine qse 2 [(0, pp b_24), (1, .func (.func 133) #[pp b_24] #[]), (4, pp b_140), (5, pp b_142), (6, vi 2), (7, vi 0), (16, vi 2), (17, vi 0), (31, vi 2), (32, vi 0)] hs fun a hs => ?_
    refine wp_block ?_
    refine Vk.unroll0 40 ?_
    refine Vk.unroll fun KL157 hKL157 => ?_
    refine qsk 1 [0, 1, 4, 5, 6, 7, 16, 17, 31, 32, 33] hs fun a hs => ?_
    refine qck hs ?_
    refine Vk.seq fun K160 hK160 => ?_
    refine wp_block ?_
    refine qsk 2 [0, 1, 4, 5, 6, 7, 8, 16, 17, 31, 32] hs fun a hs => ?_
    refine qsk 3 [0, 1, 4, 5, 6, 7, 8, 16, 17, 31, 32, 37] hs fun a hs => ?_
    refine qcf hs ?_
    refine wp_skip ?_
    refine hK160 _ _ ?_
    clear hK160
    refine Vk.region ?_
    refine qpk 2 [0, 1, 4, 5, 6, 7, 16, 17, 31, 32] hs fun a hs => hKL157 _ _ ?_
    clear hKL157
    refine Vk.unroll fun KL163 hKL163 => ?_
    refine qsk 1 [0, 1, 4, 5, 6, 7, 16, 17, 31, 32, 33] hs fun a hs => ?_
    refine qck hs ?_
    refine Vk.seq fun K166 hK166 => ?_
    refine wp_block ?_
    refine qse 2 [(0, pp b_24), (1, .func (.func 133) #[pp b_24] #[]), (4, pp b_140), (5, pp b_142), (6, vi 2), (7, vi 0), (8, vi 1), (16, vi 2), (17, vi 0), (31, vi 2), (32, vi 1)] hs fun a hs => ?_
    refine qsk 3 [0, 1, 4, 5, 6, 7, 8, 16, 17, 31, 32, 37] hs fun a hs => ?_
    refine qct hs ?_
    obtain ⟨C_169, hC_169⟩ := qC hs.own.drop
    refine qdr 17 κ C_169 hs fun w hs hqC_169 => ?_
    have hcl := qO hC_169 hs.own.drop
    refine qdp (fuel := 6) [0, 1, 2, 3, 5, 6, 7, 8, 10, 11, 12, 15] hs hcl hqC_169 fun a hs => ?_
    refine qdl 4 2 (cp b_x0) hs hcl hqC_169 hC_169 rfl fun a hs => ?_
    refine qdl 9 0 (ci v_81.1) hs hcl hqC_169 hC_169 rfl fun a hs => ?_
    refine Vk.dOnly (i := 13) (by kernel_rfl) (Vk.call (some 51) 133 #[pp b_24, vi 0, vi 1] hs (by kernel_rfl) (by kernel_rfl) (by kernel_rfl) ?_)
    refine Vk.enterI [(0, pp b_24), (1, vi 0), (2, vi 1)] Tryz.func133 rfl Tryz.ntmps133 (by kernel_rfl) (Nat.le_of_ble_eq_true (by kernel_rfl)) hs.own fun KR170 hKR170 hKP170 a hs => ?_
    refine qsk 1 [0, 1, 2] hs fun a hs => ?_
    refine Vk.seq fun K172 hK172 => ?_
    refine qsk 3 [0, 1, 2, 9] hs fun a hs => ?_
    refine qct hs ?_
    refine qsr fun K174 hK174 => ?_
    refine qpu 3 hs fun a hs => ?_
    refine Vk.step (Vk.call (some 13) 139 #[pp b_24, vi 0, vi 1] hs (by kernel_rfl) (by kernel_rfl) (by kernel_rfl) ?_)
    refine Vk.enterI [(0, pp b_24), (1, vi 0), (2, vi 1)] Tryz.func139 rfl Tryz.ntmps139 (by kernel_rfl) (Nat.le_of_ble_eq_true (by kernel_rfl)) hs.own fun KR175 hKR175 hKP175 a hs => ?_
    refine qsk 1 [0, 1, 2] hs fun a hs => ?_
    refine qsr fun K177 hK177 => ?_
    refine qpu 3 hs fun a hs => ?_
    refine qld 3 (C.map (some b_23)) hs rfl fun a hs => ?_
    refine qpu 7 hs fun a hs => ?_
    refine qva (vi v_45.1) (op := (.lookup 143 (.tmp 10) (.tmp 17) false)) hs (fun o ho => run_lookup (b := b_23) (key := .agg (vals [ci 0, ci 1])) 4 rfl ho (by kernel_rfl) (by kernel_rfl) (by kernel_rfl) _ hs.own) fun a hs => ?_
    refine qpe 1 [(6, vi v_45.1)] hs fun a hs => hK177 _ _ ?_
    clear hK177
    refine wp_ret ?_
    refine hKP175 _ _ ?_
    refine hKR175 _ _ ?_
    refine Vk.ret1 (P := Tryz.prog) (fn := Tryz.f139) (vi v_45.1) hs rfl (by kernel_rfl) ⟨_, _, _, rfl, hs.own, fun a hs => ?_⟩
    refine qpe 1 [(6, vi v_45.1)] hs fun a hs => hK174 _ _ ?_
    clear hK174
    refine wp_ret ?_
    refine hKP170 _ _ ?_
    refine hKR170 _ _ ?_
    refine Vk.ret1 (P := Tryz.prog) (fn := Tryz.f133) (vi v_45.1) hs rfl (by kernel_rfl) ⟨_, _, _, rfl, hs.own, fun a hs => ?_⟩
    replace hcl := qO hC_169 hs.own.drop
    refine ⟨fun _ => hcl, ?_⟩
    replace hs := hs.toEx (Twire_Machine.parts b_x0 v_129.2) g_144 0 rfl
    obtain ⟨v_180, h_179, hm⟩ := bind_t hm
    refine qdc 14 (wire_Machine_Two.ok _ _ _ _ _ _ _ h_179 _ _ _ b_x0 hs.own) hs fun w a hs => ?_
    replace hcl := qO hC_169 hs.own.drop
    refine ⟨fun _ => hcl, ?_⟩
    refine qdp (fuel := 1) [16] hs hcl hqC_169 fun a hs => ?_
    refine qsd 17 1 0 (ci v_180.1) hs rfl fun a w hs => ?_
    refine ⟨fun h => absurd h (by decide), ?_⟩
    replace hs := hs.pick [0, 1, 4, 5, 6, 7, 16, 17, 31, 32] (L' := [(0, pp b_24), (1, .func (.func 133) #[pp b_24] #[]), (4, pp b_140), (5, pp b_142), (6, vi 2), (7, vi 0), (16, vi 2), (17, vi 0), (31, vi 2), (32, vi 1)]) (by kernel_rfl)
    refine Vk.dDone (by kernel_rfl) ?_
    refine hK166 _ _ ?_
    clear hK166
    refine Vk.region ?_
    refine qpk 2 [0, 1, 4, 5, 6, 7, 16, 17, 31, 32] hs fun a hs => hKL163 _ _ ?_
    clear hKL163
    refine Vk.unroll fun KL181 hKL181 => ?_
    refine qsk 1 [0, 1, 4, 5, 6, 7, 16, 17, 31, 32, 33] hs fun a hs => ?_
    refine Vk.seq fun K183 hK183 => ?_
    refine qcf hs ?_
    refine wp_exit ?_
    refine hK153 _ _ ?_
    clear hK153
    refine Vk.region ?_
    refine qpk 2 [0, 1, 4, 5, 6, 16, 17] hs fun a hs => hKL150 _ _ ?_
    clear hKL150
    refine Vk.unroll fun KL184 hKL184 => ?_
    refine qsk 1 [0, 1, 4, 5, 6, 16, 17, 18] hs fun a hs => ?_
    refine qck hs ?_
    refine Vk.seq fun K187 hK187 => ?_
    refine wp_block ?_
    refine qsk 2 [0, 1, 4, 5, 6, 7, 16, 17] hs fun a hs => ?_
    refine qsr fun K189 hK189 => ?_
    refine qpu 8 hs fun a hs => ?_
    refine qld 3 (ci v_129.1) hs rfl fun a hs => ?_
    refine qpu 2 hs fun a hs => ?_
    refine qst 1 1 (ci v_129.1) hs rfl fun a w hs => ?_
    refine qpe 0 [(0, pp b_24), (1, .func (.func 133) #[pp b_24] #[]), (4, pp b_140), (5, pp b_142), (6, vi 2), (7, vi 1), (16, vi 2), (17, vi 1)] hs fun a hs => hK189 _ _ ?_
    clear hK189
    refine qsk 2 [0, 1, 4, 5, 6, 7, 16, 17, 31, 32] hs fun a hs => ?_
    refine wp_block ?_
    refine Vk.unroll0 40 ?_
    refine Vk.unroll fun KL191 hKL191 => ?_
    refine qsk 1 [0, 1, 4, 5, 6, 7, 16, 17, 31, 32, 33] hs fun a hs => ?_
    refine qck hs ?_
    refine Vk.seq fun K194 hK194 => ?_
    refine wp_block ?_
    refine qsk 2 [0, 1, 4, 5, 6, 7, 8, 16, 17, 31, 32] hs fun a hs => ?_
    refine qsk 3 [0, 1, 4, 5, 6, 7, 8, 16, 17, 31, 32, 37] hs fun a hs => ?_
    refine qct hs ?_
    obtain ⟨C_197, hC_197⟩ := qC hs.own.drop
    refine qdr 17 κ C_197 hs fun w hs hqC_197 => ?_
    have hcl := qO hC_197 hs.own.drop
    refine qdp (fuel := 6) [0, 1, 2, 3, 5, 6, 7, 8, 10, 11, 12, 15] hs hcl hqC_197 fun a hs => ?_
    refine qdl 4 2 (cp b_x0) hs hcl hqC_197 hC_197 rfl fun a hs => ?_
    refine qdl 9 0 (ci v_129.1) hs hcl hqC_197 hC_197 rfl fun a hs => ?_
    refine Vk.dOnly (i := 13) (by kernel_rfl) (Vk.call (some 51) 133 #[pp b_24, vi 1, vi 0] hs (by kernel_rfl) (by kernel_rfl) (by kernel_rfl) ?_)
    refine Vk.enterI [(0, pp b_24), (1, vi 1), (2, vi 0)] Tryz.func133 rfl Tryz.ntmps133 (by kernel_rfl) (Nat.le_of_ble_eq_true (by kernel_rfl)) hs.own fun KR198 hKR198 hKP198 a hs => ?_
    refine qsk 1 [0, 1, 2] hs fun a hs => ?_
    refine Vk.seq fun K200 hK200 => ?_
    refine qse 3 [(0, pp b_24), (1, vi 1), (2, vi 0), (9, .bool false)] hs fun a hs => ?_
    refine qcf hs ?_
    refine wp_skip ?_
    refine hK200 _ _ ?_
    clear hK200
    refine Vk.seq fun K202 hK202 => ?_
    obtain ⟨C_203, hC_203⟩ := qC hs.own.drop
    refine qdr 33 κ C_203 hs fun w hs hqC_203 => ?_
    have hcl := qO hC_203 hs.own.drop
    refine qdp (fuel := 8) [0, 1, 2, 4, 5, 6, 7, 9, 10, 11, 12, 14, 15, 16, 17, 18, 19, 20, 23, 24, 25, 26, 27, 28, 29] hs hcl hqC_203 fun a hs => ?_
    refine qdl 3 2 (cp b_x0) hs hcl hqC_203 hC_203 rfl fun a hs => ?_
    refine qdl 8 2 (cp b_x0) hs hcl hqC_203 hC_203 rfl fun a hs => ?_
    refine qdl 21 2 (ci v_94.1) hs hcl hqC_203 hC_203 rfl fun a hs => ?_
    refine qdl 30 2 (ci v_116.1) hs hcl hqC_203 hC_203 rfl fun a hs => ?_
    refine Vk.dOnly (i := 13) (by kernel_rfl) (Vk.call (some 27) 139 #[pp b_24, vi 0, vi 1] hs (by kernel_rfl) (by kernel_rfl) (by kernel_rfl) ?_)
    refine Vk.enterI [(0, pp b_24), (1, vi 0), (2, vi 1)] Tryz.func139 rfl Tryz.ntmps139 (by kernel_rfl) (Nat.le_of_ble_eq_true (by kernel_rfl)) hs.own fun KR204 hKR204 hKP204 a hs => ?_
    refine qsk 1 [0, 1, 2] hs fun a hs => ?_
    refine qsr fun K206 hK206 => ?_
    refine qpu 3 hs fun a hs => ?_
    refine qld 3 (C.map (some b_23)) hs rfl fun a hs => ?_
    refine qpu 7 hs fun a hs => ?_
    refine qva (vi v_45.1) (op := (.lookup 143 (.tmp 10) (.tmp 17) false)) hs (fun o ho => run_lookup (b := b_23) (key := .agg (vals [ci 0, ci 1])) 4 rfl ho (by kernel_rfl) (by kernel_rfl) (by kernel_rfl) _ hs.own) fun a hs => ?_
    refine qpe 1 [(6, vi v_45.1)] hs fun a hs => hK206 _ _ ?_
    clear hK206
    refine wp_ret ?_
    refine hKP204 _ _ ?_
    refine hKR204 _ _ ?_
    refine Vk.ret1 (P := Tryz.prog) (fn := Tryz.f139) (vi v_45.1) hs rfl (by kernel_rfl) ⟨_, _, _, rfl, hs.own, fun a hs => ?_⟩
    replace hcl := qO hC_203 hs.own.drop
    refine ⟨fun _ => hcl, ?_⟩
    obtain ⟨v_209, h_208, hm⟩ := bind_t hm
    refine qdc 22 (wire_Machine_Two.ok _ _ _ _ _ _ _ h_208 _ _ _ b_x0 hs.own) hs fun w a hs => ?_
    replace hcl := qO hC_203 hs.own.drop
    refine ⟨fun _ => hcl, ?_⟩
    obtain ⟨v_212, h_211, hm⟩ := bind_t hm
    refine qdc 31 (wire_Machine_Two.ok _ _ _ _ _ _ _ h_211 _ _ _ b_x0 hs.own) hs fun w a hs => ?_
    replace hcl := qO hC_203 hs.own.drop
    refine ⟨fun _ => hcl, ?_⟩
    refine qdp (fuel := 0) [32] hs hcl hqC_203 fun a hs => ?_
    replace hs := hs.pick [6] (L' := [(6, vi v_212.1)]) (by kernel_rfl)
    refine Vk.dDone (by kernel_rfl) ?_
    refine hK202 _ _ ?_
    clear hK202
    refine wp_ret ?_
    refine hKP198 _ _ ?_
    refine hKR198 _ _ ?_
    refine Vk.ret1 (P := Tryz.prog) (fn := Tryz.f133) (vi v_212.1) hs rfl (by kernel_rfl) ⟨_, _, _, rfl, hs.own, fun a hs => ?_⟩
    replace hcl := qO hC_197 hs.own.drop
    refine ⟨fun _ => hcl, ?_⟩
    obtain ⟨v_215, h_214, hm⟩ := bind_t hm
    refine qdc 14 (wire_Machine_Two.ok _ _ _ _ _ _ _ h_214 _ _ _ b_x0 hs.own) hs fun w a hs => ?_
    replace hcl := qO hC_197 hs.own.drop
    refine ⟨fun _ => hcl, ?_⟩
    refine qdp (fuel := 1) [16] hs hcl hqC_197 fun a hs => ?_
    refine qsd 17 1 1 (ci v_215.1) hs rfl fun a w hs => ?_
    refine ⟨fun h => absurd h (by decide), ?_⟩
    replace hs := hs.pick [0, 1, 4, 5, 6, 7, 16, 17, 31, 32] (L' := [(0, pp b_24), (1, .func (.func 133) #[pp b_24] #[]), (4, pp b_140), (5, pp b_142), (6, vi 2), (7, vi 1), (16, vi 2), (17, vi 1), (31, vi 2), (32, vi 0)]) (by kernel_rfl)
    refine Vk.dDone (by kernel_rfl) ?_
    refine hK194 _ _ ?_
    clear hK194
    refine Vk.region ?_
    refine qpk 2 [0, 1, 4, 5, 6, 7, 16, 17, 31, 32] hs fun a hs => hKL191 _ _ ?_
    clear hKL191
    refine Vk.unroll fun KL216 hKL216 => ?_
    refine qsk 1 [0, 1, 4, 5, 6, 7, 16, 17, 31, 32, 33] hs fun a hs => ?_
    refine qck hs ?_
    refine Vk.seq fun K219 hK219 => ?_
    refine wp_block ?_
    refine qsk 2 [0, 1, 4, 5, 6, 7, 8, 16, 17, 31, 32] hs fun a hs => ?_
    refine qsk 3 [0, 1, 4, 5, 6, 7, 8, 16, 17, 31, 32, 37] hs fun a hs => ?_
    refine qcf hs ?_
    refine wp_skip ?_
    refine hK219 _ _ ?_
    clear hK219
    refine Vk.region ?_
    refine qpk 2 [0, 1, 4, 5, 6, 7, 16, 17, 31, 32] hs fun a hs => hKL216 _ _ ?_
    clear hKL216
    refine Vk.unroll fun KL222 hKL222 => ?_
    refine qse 1 [(0, pp b_24), (1, .func (.func 133) #[pp b_24] #[]), (4, pp b_140), (5, pp b_142), (6, vi 2), (7, vi 1), (16, vi 2), (17, vi 1), (31, vi 2), (32, vi 2), (33, .bool false)] hs fun a hs => ?_
    refine Vk.seq fun K224 hK224 => ?_
    refine qcf hs ?_
    refine wp_exit ?_
    refine hK187 _ _ ?_
    clear hK187
    refine Vk.region ?_
    refine qpk 2 [0, 1, 4, 5, 6, 16, 17] hs fun a hs => hKL184 _ _ ?_
    clear hKL184
    refine Vk.unroll fun KL225 hKL225 => ?_
    refine qsk 1 [0, 1, 4, 5, 6, 16, 17, 18] hs fun a hs => ?_
    refine Vk.seq fun K227 hK227 => ?_
    refine qcf hs ?_
    refine wp_exit ?_
    refine hK148 _ _ ?_
    clear hK148
    refine qsr fun K228 hK228 => ?_
    refine qln 1 ([ci v_180.1, ci v_215.1, ci (-1)]) hs rfl fun a hs => ?_
    refine qsa 2 [ci v_180.1, ci v_215.1, ci (-1)] hs rfl fun a w hs => ?_
    refine qpe 0 [(4, pp b_140)] hs fun a hs => hK228 _ _ ?_
    clear hK228
    refine wp_ret ?_
    refine hKP138 _ _ ?_
    refine hKR138 _ _ ?_
    refine Vk.retC (P := Tryz.prog) (fn := Tryz.f131) [ci v_180.1, ci v_215.1, ci (-1)] hs rfl (by kernel_rfl) (sz := 3) (by kernel_rfl) rfl (CellsAt.all 2 rfl) ⟨_, _, _, rfl, hs.own, fun a hs => ?_⟩
    refine qal 35 [ci 0, ci 0, ci 0] 8 hs fun b_229 w a hs => ?_
    refine qsa 0 [ci v_180.1, ci v_215.1, ci (-1)] hs rfl fun a w hs => ?_
    refine qpk 0 [0, 6, 8] hs fun a hs => hK137 _ _ ?_
    clear hK137
    refine qsr fun K230 hK230 => ?_
    refine qpu 1 hs fun a hs => ?_
    obtain ⟨v_233, h_232, hm⟩ := bind_t hm
    refine qcl (wire_Machine_End.ok _ _ _ h_232 _ _ _ b_x0 hs.own.f1) hs fun w a hs => ?_
    refine qpe 0 [(6, pp b_4), (8, pp b_229)] hs fun a hs => hK230 _ _ ?_
    clear hK230
    refine qsr fun K234 hK234 => ?_
    refine qln 1 ([ci v_180.1, ci v_215.1, ci (-1)]) hs rfl fun a hs => ?_
    refine qsa 8 [ci v_180.1, ci v_215.1, ci (-1)] hs rfl fun a w hs => ?_
    refine qpe 0 [(6, pp b_4)] hs fun a hs => hK234 _ _ ?_
    clear hK234
    refine wp_ret ?_
    exact Vk.retC [ci v_180.1, ci v_215.1, ci (-1)] hs rfl (by kernel_rfl) (sz := 3) (by kernel_rfl) rfl (CellsAt.all 8 rfl) (hRR ▸ by cases hm; exact ⟨rfl, (hs.own.too [0] 11)⟩)
   ·replace hm := bif_f hm hb
    cases hm
  ·replace hm := bif_f hm hb
   cases hm
 ·replace hm := bif_f hm hb
  rcases Bool.eq_false_or_eq_true (v_10 == 3) with hb | hb
  ·replace hm := bif_t hm hb
   obtain rfl := Vk.of_beq hb
   refine qpk 1 [0, 4, 5, 6, 11] hs fun a hs => hK6 _ _ ?_
   refine qcf hs ?_
   refine wp_skip ?_
   refine hK5 _ _ ?_
   refine qsr fun K235 hK235 => ?_
   refine qpu 1 hs fun a hs => ?_
   replace hs := hs.toEx (Twire_Machine.parts b_x0 x0) g_7 0 rfl
   obtain ⟨v_238, h_237, hm⟩ := bind_t hm
   refine qcl (wire_Machine_Begin.ok _ _ _ _ h_237 _ _ _ b_x0 hs.own) hs fun w a hs => ?_
   refine qpk 0 [0, 4, 5, 6] hs fun a hs => hK235 _ _ ?_
   clear hK235
   refine qsr fun K239 hK239 => ?_
   refine qpu 1 hs fun a hs => ?_
   obtain ⟨h_240, hm⟩ := ite_t hm
   refine qlw 3 hs rfl h_240 fun a hs => ?_
   obtain ⟨h_241, hm⟩ := ite_t hm
   refine qlw 2 hs rfl h_241 fun a hs => ?_
   refine Vk.step (Vk.call (some 19) 130 #[pp b_x0, .agg (vals x1), .agg (vals x2)] hs (by kernel_rfl) (by kernel_rfl) (by kernel_rfl) ?_)
   refine Vk.enterI [(0, pp b_x0), (1, .agg (vals x1)), (2, .agg (vals x2))] Tryz.func130 rfl Tryz.ntmps130 (by kernel_rfl) (Nat.le_of_ble_eq_true (by kernel_rfl)) hs.own fun KR242 hKR242 hKP242 a hs => ?_
   refine qsr fun K243 hK243 => ?_
   refine qbx 1 35 x1 4 hs fun b_244 w a hs => ?_
   refine qbx 2 35 x2 5 hs fun b_245 w a hs => ?_
   refine qpk 1 [0, 4, 5] hs fun a hs => hK243 _ _ ?_
   clear hK243
   refine qsr fun K246 hK246 => ?_
   refine qpu 1 hs fun a hs => ?_
   refine Vk.step (Vk.mapOp 14 143 hs (by kernel_rfl) (by kernel_rfl) fun b_247 w a hs => ?_)
   refine qpu 1 hs fun a hs => ?_
   refine qbx 15 145 [cp b_x0, C.map (some b_247), ci 0, ci 0, ci 0, ci 0, ci 0, ci 0, ci 0, ci 0, ci 0] 16 hs fun b_248 w a hs => ?_
   refine qpe 1 [(0, pp b_x0), (4, pp b_244), (5, pp b_245), (7, pp b_248)] hs fun a hs => hK246 _ _ ?_
   clear hK246
   refine qsr fun K249 hK249 => ?_
   refine qpu 1 hs fun a hs => ?_
   obtain ⟨g_250, hs⟩ := hs.unex 4 rfl
   obtain ⟨v_253, h_252, hm⟩ := bind_t hm
   refine qcl (wire_Machine_N.ok _ _ _ h_252 _ _ _ b_x0 g_250 hs.own.f4) hs fun w a hs => ?_
   rcases Bool.eq_false_or_eq_true (v_253 == 3) with hb | hb
   ·replace hm := bif_t hm hb
    obtain rfl := Vk.of_beq hb
    refine qpk 1 [0, 4, 5, 7, 8] hs fun a hs => hK249 _ _ ?_
    clear hK249
    refine Vk.seq fun K254 hK254 => ?_
    refine qsk 2 [0, 4, 5, 7, 8, 19, 20] hs fun a hs => ?_
    refine wp_block ?_
    refine Vk.unroll0 40 ?_
    refine Vk.unroll fun KL256 hKL256 => ?_
    refine qsk 1 [0, 4, 5, 7, 8, 19, 20, 21] hs fun a hs => ?_
    refine qck hs ?_
    refine Vk.seq fun K259 hK259 => ?_
    refine wp_block ?_
    refine qsk 2 [0, 4, 5, 7, 8, 9, 19, 20] hs fun a hs => ?_
    refine qsk 3 [0, 4, 5, 7, 8, 9, 10, 19, 20] hs fun a hs => ?_
    refine wp_block ?_
    refine Vk.unroll0 40 ?_
    refine Vk.unroll fun KL262 hKL262 => ?_
    refine Vk.seq fun K263 hK263 => ?_
    refine qse 3 [(0, pp b_x0), (4, pp b_244), (5, pp b_245), (7, pp b_248), (8, vi 3), (9, vi 0), (10, vi 1), (19, vi 3), (20, vi 0), (27, .bool true)] hs fun a hs => ?_
    refine qct hs ?_
    refine wp_skip ?_
    refine hK263 _ _ ?_
    clear hK263
    refine Vk.seq fun K265 hK265 => ?_
    refine wp_block ?_
    obtain ⟨C_266, hC_266⟩ := qC hs.own.drop
    refine qdr 9 κ C_266 hs fun w hs hqC_266 => ?_
    have hcl := qO hC_266 hs.own.drop
    refine qdp (fuel := 3) [0, 1, 2, 4, 5, 6, 7] hs hcl hqC_266 fun a hs => ?_
    refine qdl 3 0 (C.map (some b_247)) hs hcl hqC_266 hC_266 rfl fun a hs => ?_
    replace hs := hs.toEx (Twire_Machine.parts b_x0 v_238) g_250 0 rfl
    obtain ⟨v_269, h_268, hm⟩ := bind_t hm
    refine qdc 8 (wire_Machine_Rand.ok _ _ _ _ h_268 _ _ _ b_x0 hs.own) hs fun w a hs => ?_
    replace hcl := qO hC_266 hs.own.drop
    refine ⟨fun _ => hcl, ?_⟩
    refine Vk.dOnly (i := 9) (by kernel_rfl) (Vk.updateOp (t := 143) (xm := (.tmp 33)) (xk := (.tmp 36)) (xv := (.tmp 38)) (b := b_247) (es' := #[⟨.agg (vals [ci 0, ci 1]), vi v_269.1, 0⟩]) (clock' := 1) (.agg (vals [ci 0, ci 1])) (vi v_269.1) 2 hs (by kernel_rfl) (by kernel_rfl) (by kernel_rfl) (by kernel_rfl) (by kernel_rfl) rfl (by kernel_rfl) fun a w hs => ?_)
    refine ⟨fun h => absurd h (by decide), ?_⟩
    replace hs := hs.pick [0, 4, 5, 7, 8, 9, 10, 19, 20] (L' := [(0, pp b_x0), (4, pp b_244), (5, pp b_245), (7, pp b_248), (8, vi 3), (9, vi 0), (10, vi 1), (19, vi 3), (20, vi 0)]) (by kernel_rfl)
    refine Vk.dDone (by kernel_rfl) ?_
    refine hK265 _ _ ?_
    clear hK265
    refine Vk.region ?_
    refine qpk 3 [0, 4, 5, 7, 8, 9, 10, 19, 20] hs fun a hs => hKL262 _ _ ?_
    clear hKL262
    refine Vk.unroll fun KL270 hKL270 => ?_
    refine Vk.seq fun K271 hK271 => ?_
    refine qsk 3 [0, 4, 5, 7, 8, 9, 10, 19, 20, 27] hs fun a hs => ?_
    refine qct hs ?_
    refine wp_skip ?_
    refine hK271 _ _ ?_
    clear hK271
    refine Vk.seq fun K273 hK273 => ?_
    refine wp_block ?_
    obtain ⟨C_274, hC_274⟩ := qC hs.own.drop
    refine qdr 9 κ C_274 hs fun w hs hqC_274 => ?_
    have hcl := qO hC_274 hs.own.drop
    refine qdp (fuel := 3) [0, 1, 2, 4, 5, 6, 7] hs hcl hqC_274 fun a hs => ?_
    refine qdl 3 0 (C.map (some b_247)) hs hcl hqC_274 hC_274 rfl fun a hs => ?_
    obtain ⟨v_277, h_276, hm⟩ := bind_t hm
    refine qdc 8 (wire_Machine_Rand.ok _ _ _ _ h_276 _ _ _ b_x0 hs.own) hs fun w a hs => ?_
    replace hcl := qO hC_274 hs.own.drop
    refine ⟨fun _ => hcl, ?_⟩
    refine Vk.dOnly (i := 9) (by kernel_rfl) (Vk.updateOp (t := 143) (xm := (.tmp 33)) (xk := (.tmp 36)) (xv := (.tmp 38)) (b := b_247) (es' := #[⟨.agg (vals [ci 0, ci 1]), vi v_269.1, 0⟩, ⟨.agg (vals [ci 0, ci 2]), vi v_277.1, 1⟩]) (clock' := 2) (.agg (vals [ci 0, ci 2])) (vi v_277.1) 2 hs (by kernel_rfl) (by kernel_rfl) (by kernel_rfl) (by kernel_rfl) (by kernel_rfl) rfl (by kernel_rfl) fun a w hs => ?_)
    refine ⟨fun h => absurd h (by decide), ?_⟩
    replace hs := hs.pick [0, 4, 5, 7, 8, 9, 10, 19, 20] (L' := [(0, pp b_x0), (4, pp b_244), (5, pp b_245), (7, pp b_248), (8, vi 3), (9, vi 0), (10, vi 2), (19, vi 3), (20, vi 0)]) (by kernel_rfl)
    refine Vk.dDone (by kernel_rfl) ?_
    refine hK273 _ _ ?_
    clear hK273
    refine Vk.region ?_
    refine qpk 3 [0, 4, 5, 7, 8, 9, 10, 19, 20] hs fun a hs => hKL270 _ _ ?_
    clear hKL270
    refine Vk.unroll fun KL278 hKL278 => ?_
    refine Vk.seq fun K279 hK279 => ?_
    refine qsk 3 [0, 4, 5, 7, 8, 9, 10, 19, 20, 27] hs fun a hs => ?_
    refine qcf hs ?_
    refine wp_exit ?_
    refine hK259 _ _ ?_
    clear hK259
    refine Vk.region ?_
    refine qpk 2 [0, 4, 5, 7, 8, 19, 20] hs fun a hs => hKL256 _ _ ?_
    clear hKL256
    refine Vk.unroll fun KL281 hKL281 => ?_
    refine qse 1 [(0, pp b_x0), (4, pp b_244), (5, pp b_245), (7, pp b_248), (8, vi 3), (19, vi 3), (20, vi 1), (21, .bool true)] hs fun a hs => ?_
    refine qck hs ?_
    refine Vk.seq fun K284 hK284 => ?_
    refine wp_block ?_
    refine qsk 2 [0, 4, 5, 7, 8, 9, 19, 20] hs fun a hs => ?_
    refine qsk 3 [0, 4, 5, 7, 8, 9, 10, 19, 20] hs fun a hs => ?_
    refine wp_block ?_
    refine Vk.unroll0 40 ?_
    refine Vk.unroll fun KL287 hKL287 => ?_
    refine Vk.seq fun K288 hK288 => ?_
    refine qsk 3 [0, 4, 5, 7, 8, 9, 10, 19, 20, 27] hs fun a hs => ?_
    refine qct hs ?_
    refine wp_skip ?_
    refine hK288 _ _ ?_
    clear hK288
    refine Vk.seq fun K290 hK290 => ?_
    refine wp_block ?_
    obtain ⟨C_291, hC_291⟩ := qC hs.own.drop
    refine qdr 9 κ C_291 hs fun w hs hqC_291 => ?_
    have hcl := qO hC_291 hs.own.drop
    refine qdp (fuel := 3) [0, 1, 2, 4, 5, 6, 7] hs hcl hqC_291 fun a hs => ?_
    refine qdl 3 0 (C.map (some b_247)) hs hcl hqC_291 hC_291 rfl fun a hs => ?_
    obtain ⟨v_294, h_293, hm⟩ := bind_t hm
    refine qdc 8 (wire_Machine_Rand.ok _ _ _ _ h_293 _ _ _ b_x0 hs.own) hs fun w a hs => ?_
    replace hcl := qO hC_291 hs.own.drop
    refine ⟨fun _ => hcl, ?_⟩
    refine Vk.dOnly (i := 9) (by kernel_rfl) (Vk.updateOp (t := 143) (xm := (.tmp 33)) (xk := (.tmp 36)) (xv := (.tmp 38)) (b := b_247) (es' := #[⟨.agg (vals [ci 0, ci 1]), vi v_269.1, 0⟩, ⟨.agg (vals [ci 0, ci 2]), vi v_277.1, 1⟩, ⟨.agg (vals [ci 1, ci 2]), vi v_294.1, 2⟩]) (clock' := 3) (.agg (vals [ci 1, ci 2])) (vi v_294.1) 2 hs (by kernel_rfl) (by kernel_rfl) (by kernel_rfl) (by kernel_rfl) (by kernel_rfl) rfl (by kernel_rfl) fun a w hs => ?_)
    refine ⟨fun h => absurd h (by decide), ?_⟩
    replace hs := hs.pick [0, 4, 5, 7, 8, 9, 10, 19, 20] (L' := [(0, pp b_x0), (4, pp b_244), (5, pp b_245), (7, pp b_248), (8, vi 3), (9, vi 1), (10, vi 2), (19, vi 3), (20, vi 1)]) (by kernel_rfl)
    refine Vk.dDone (by kernel_rfl) ?_
    refine hK290 _ _ ?_
    clear hK290
    refine Vk.region ?_
    refine qpk 3 [0, 4, 5, 7, 8, 9, 10, 19, 20] hs fun a hs => hKL287 _ _ ?_
    clear hKL287
    refine Vk.unroll fun KL295 hKL295 => ?_
    refine Vk.seq fun K296 hK296 => ?_
    refine qsk 3 [0, 4, 5, 7, 8, 9, 10, 19, 20, 27] hs fun a hs => ?_
    refine qcf hs ?_
    refine wp_exit ?_
    refine hK284 _ _ ?_
    clear hK284
    refine Vk.region ?_
    refine qpe 2 [(0, pp b_x0), (4, pp b_244), (5, pp b_245), (7, pp b_248), (8, vi 3), (19, vi 3), (20, vi 2)] hs fun a hs => hKL281 _ _ ?_
    clear hKL281
    refine Vk.unroll fun KL298 hKL298 => ?_
    refine qsk 1 [0, 4, 5, 7, 8, 19, 20, 21] hs fun a hs => ?_
    refine qck hs ?_
    refine Vk.seq fun K301 hK301 => ?_
    refine wp_block ?_
    refine qsk 2 [0, 4, 5, 7, 8, 9, 19, 20] hs fun a hs => ?_
    refine qsk 3 [0, 4, 5, 7, 8, 9, 10, 19, 20] hs fun a hs => ?_
    refine wp_block ?_
    refine Vk.unroll0 40 ?_
    refine Vk.unroll fun KL304 hKL304 => ?_
    refine Vk.seq fun K305 hK305 => ?_
    refine qsk 3 [0, 4, 5, 7, 8, 9, 10, 19, 20, 27] hs fun a hs => ?_
    refine qcf hs ?_
    refine wp_exit ?_
    refine hK301 _ _ ?_
    clear hK301
    refine Vk.region ?_
    refine qpk 2 [0, 4, 5, 7, 8, 19, 20] hs fun a hs => hKL298 _ _ ?_
    clear hKL298
    refine Vk.unroll fun KL307 hKL307 => ?_
    refine qse 1 [(0, pp b_x0), (4, pp b_244), (5, pp b_245), (7, pp b_248), (8, vi 3), (19, vi 3), (20, vi 3), (21, .bool false)] hs fun a hs => ?_
    refine Vk.seq fun K309 hK309 => ?_
    refine qcf hs ?_
    refine wp_exit ?_
    refine hK254 _ _ ?_
    clear hK254
    refine Vk.seq fun K310 hK310 => ?_
    refine qsk 2 [0, 4, 5, 7, 8, 40, 41] hs fun a hs => ?_
    refine wp_block ?_
    refine Vk.unroll0 40 ?_
    refine Vk.unroll fun KL312 hKL312 => ?_
    refine qsk 1 [0, 4, 5, 7, 8, 40, 41, 42] hs fun a hs => ?_
    refine qck hs ?_
    refine Vk.seq fun K315 hK315 => ?_
    refine wp_block ?_
    refine qsk 2 [0, 4, 5, 7, 8, 11, 40, 41] hs fun a hs => ?_
    refine qsk 2 [0, 4, 5, 7, 8, 11, 40, 41, 44, 45] hs fun a hs => ?_
    refine wp_block ?_
    refine Vk.unroll0 40 ?_
    refine Vk.unroll fun KL318 hKL318 => ?_
    refine qsk 1 [0, 4, 5, 7, 8, 11, 40, 41, 44, 45, 46] hs fun a hs => ?_
    refine qck hs ?_
    refine Vk.seq fun K321 hK321 => ?_
    refine wp_block ?_
    refine qse 2 [(0, pp b_x0), (4, pp b_244), (5, pp b_245), (7, pp b_248), (8, vi 3), (11, vi 0), (12, vi 0), (40, vi 3), (41, vi 0), (44, vi 3), (45, vi 0)] hs fun a hs => ?_
    obtain ⟨C_323, hC_323⟩ := qC hs.own.drop
    refine qdr 18 κ C_323 hs fun w hs hqC_323 => ?_
    have hcl := qO hC_323 hs.own.drop
    refine qdp (fuel := 5) [0, 1, 2, 3, 4, 5, 6, 7, 9, 10, 11, 14, 15, 16] hs hcl hqC_323 fun a hs => ?_
    obtain ⟨v_325, h_324, hm⟩ := bind_t hm
    refine qdi 8 3 hs hcl hqC_323 hC_323 rfl h_324 fun a hs => ?_
    obtain ⟨v_327, h_326, hm⟩ := bind_t hm
    refine qdi 12 2 hs hcl hqC_323 hC_323 rfl h_326 fun a hs => ?_
    obtain ⟨v_330, h_329, hm⟩ := bind_t hm
    refine qdc 13 (wire_Machine_Two.ok _ _ _ _ _ _ _ h_329 _ _ _ b_x0 hs.own) hs fun w a hs => ?_
    replace hcl := qO hC_323 hs.own.drop
    refine ⟨fun _ => hcl, ?_⟩
    refine qdp (fuel := 1) [17] hs hcl hqC_323 fun a hs => ?_
    refine qsd 18 1 2 (ci v_330.1) hs rfl fun a w hs => ?_
    refine ⟨fun h => absurd h (by decide), ?_⟩
    replace hs := hs.pick [0, 4, 5, 7, 8, 11, 40, 41, 44, 45] (L' := [(0, pp b_x0), (4, pp b_244), (5, pp b_245), (7, pp b_248), (8, vi 3), (11, vi 0), (40, vi 3), (41, vi 0), (44, vi 3), (45, vi 0)]) (by kernel_rfl)
    refine Vk.dDone (by kernel_rfl) ?_
    refine hK321 _ _ ?_
    clear hK321
    refine Vk.region ?_
    refine qpk 2 [0, 4, 5, 7, 8, 11, 40, 41, 44, 45] hs fun a hs => hKL318 _ _ ?_
    clear hKL318
    refine Vk.unroll fun KL331 hKL331 => ?_
    refine qsk 1 [0, 4, 5, 7, 8, 11, 40, 41, 44, 45, 46] hs fun a hs => ?_
    refine qck hs ?_
    refine Vk.seq fun K334 hK334 => ?_
    refine wp_block ?_
    refine qsk 2 [0, 4, 5, 7, 8, 11, 12, 40, 41, 44, 45] hs fun a hs => ?_
    obtain ⟨C_336, hC_336⟩ := qC hs.own.drop
    refine qdr 18 κ C_336 hs fun w hs hqC_336 => ?_
    have hcl := qO hC_336 hs.own.drop
    refine qdp (fuel := 5) [0, 1, 2, 3, 4, 5, 6, 7, 9, 10, 11, 14, 15, 16] hs hcl hqC_336 fun a hs => ?_
    obtain ⟨v_338, h_337, hm⟩ := bind_t hm
    refine qdi 8 3 hs hcl hqC_336 hC_336 rfl h_337 fun a hs => ?_
    obtain ⟨v_340, h_339, hm⟩ := bind_t hm
    refine qdi 12 2 hs hcl hqC_336 hC_336 rfl h_339 fun a hs => ?_
    obtain ⟨v_343, h_342, hm⟩ := bind_t hm
    refine qdc 13 (wire_Machine_Two.ok _ _ _ _ _ _ _ h_342 _ _ _ b_x0 hs.own) hs fun w a hs => ?_
    replace hcl := qO hC_336 hs.own.drop
    refine ⟨fun _ => hcl, ?_⟩
    refine qdp (fuel := 1) [17] hs hcl hqC_336 fun a hs => ?_
    refine qsd 18 1 3 (ci v_343.1) hs rfl fun a w hs => ?_
    refine ⟨fun h => absurd h (by decide), ?_⟩
    replace hs := hs.pick [0, 4, 5, 7, 8, 11, 40, 41, 44, 45] (L' := [(0, pp b_x0), (4, pp b_244), (5, pp b_245), (7, pp b_248), (8, vi 3), (11, vi 0), (40, vi 3), (41, vi 0), (44, vi 3), (45, vi 1)]) (by kernel_rfl)
    refine Vk.dDone (by kernel_rfl) ?_
    refine hK334 _ _ ?_
    clear hK334
    refine Vk.region ?_
    refine qpk 2 [0, 4, 5, 7, 8, 11, 40, 41, 44, 45] hs fun a hs => hKL331 _ _ ?_
    clear hKL331
    refine Vk.unroll fun KL344 hKL344 => ?_
    refine qsk 1 [0, 4, 5, 7, 8, 11, 40, 41, 44, 45, 46] hs fun a hs => ?_
    refine qck hs ?_
    refine Vk.seq fun K347 hK347 => ?_
    refine wp_block ?_
    refine qse 2 [(0, pp b_x0), (4, pp b_244), (5, pp b_245), (7, pp b_248), (8, vi 3), (11, vi 0), (12, vi 2), (40, vi 3), (41, vi 0), (44, vi 3), (45, vi 2)] hs fun a hs => ?_
    obtain ⟨C_349, hC_349⟩ := qC hs.own.drop
    refine qdr 18 κ C_349 hs fun w hs hqC_349 => ?_
    have hcl := qO hC_349 hs.own.drop
    refine qdp (fuel := 5) [0, 1, 2, 3, 4, 5, 6, 7, 9, 10, 11, 14, 15, 16] hs hcl hqC_349 fun a hs => ?_
    obtain ⟨v_351, h_350, hm⟩ := bind_t hm
    refine qdi 8 3 hs hcl hqC_349 hC_349 rfl h_350 fun a hs => ?_
    obtain ⟨v_353, h_352, hm⟩ := bind_t hm
    refine qdi 12 2 hs hcl hqC_349 hC_349 rfl h_352 fun a hs => ?_
    obtain ⟨v_356, h_355, hm⟩ := bind_t hm
    refine qdc 13 (wire_Machine_Two.ok _ _ _ _ _ _ _ h_355 _ _ _ b_x0 hs.own) hs fun w a hs => ?_
    replace hcl := qO hC_349 hs.own.drop
    refine ⟨fun _ => hcl, ?_⟩
    refine qdp (fuel := 1) [17] hs hcl hqC_349 fun a hs => ?_
    refine qsd 18 1 4 (ci v_356.1) hs rfl fun a w hs => ?_
    refine ⟨fun h => absurd h (by decide), ?_⟩
    replace hs := hs.pick [0, 4, 5, 7, 8, 11, 40, 41, 44, 45] (L' := [(0, pp b_x0), (4, pp b_244), (5, pp b_245), (7, pp b_248), (8, vi 3), (11, vi 0), (40, vi 3), (41, vi 0), (44, vi 3), (45, vi 2)]) (by kernel_rfl)
    refine Vk.dDone (by kernel_rfl) ?_
    refine hK347 _ _ ?_
    clear hK347
    refine Vk.region ?_
    refine qpk 2 [0, 4, 5, 7, 8, 11, 40, 41, 44, 45] hs fun a hs => hKL344 _ _ ?_
    clear hKL344
    refine Vk.unroll fun KL357 hKL357 => ?_
    refine qsk 1 [0, 4, 5, 7, 8, 11, 40, 41, 44, 45, 46] hs fun a hs => ?_
    refine Vk.seq fun K359 hK359 => ?_
    refine qcf hs ?_
    refine wp_exit ?_
    refine hK315 _ _ ?_
    clear hK315
    refine Vk.region ?_
    refine qpk 2 [0, 4, 5, 7, 8, 40, 41] hs fun a hs => hKL312 _ _ ?_
    clear hKL312
    refine Vk.unroll fun KL360 hKL360 => ?_
    refine qsk 1 [0, 4, 5, 7, 8, 40, 41, 42] hs fun a hs => ?_
    refine qck hs ?_
    refine Vk.seq fun K363 hK363 => ?_
    refine wp_block ?_
    refine qsk 2 [0, 4, 5, 7, 8, 11, 40, 41] hs fun a hs => ?_
    refine qse 2 [(0, pp b_x0), (4, pp b_244), (5, pp b_245), (7, pp b_248), (8, vi 3), (11, vi 1), (40, vi 3), (41, vi 1), (44, vi 3), (45, vi 0)] hs fun a hs => ?_
    refine wp_block ?_
    refine Vk.unroll0 40 ?_
    refine Vk.unroll fun KL366 hKL366 => ?_
    refine qsk 1 [0, 4, 5, 7, 8, 11, 40, 41, 44, 45, 46] hs fun a hs => ?_
    refine qck hs ?_
    refine Vk.seq fun K369 hK369 => ?_
    refine wp_block ?_
    refine qsk 2 [0, 4, 5, 7, 8, 11, 12, 40, 41, 44, 45] hs fun a hs => ?_
    obtain ⟨C_371, hC_371⟩ := qC hs.own.drop
    refine qdr 18 κ C_371 hs fun w hs hqC_371 => ?_
    have hcl := qO hC_371 hs.own.drop
    refine qdp (fuel := 5) [0, 1, 2, 3, 4, 5, 6, 7, 9, 10, 11, 14, 15, 16] hs hcl hqC_371 fun a hs => ?_
    obtain ⟨v_373, h_372, hm⟩ := bind_t hm
    refine qdi 8 3 hs hcl hqC_371 hC_371 rfl h_372 fun a hs => ?_
    obtain ⟨v_375, h_374, hm⟩ := bind_t hm
    refine qdi 12 2 hs hcl hqC_371 hC_371 rfl h_374 fun a hs => ?_
    obtain ⟨v_378, h_377, hm⟩ := bind_t hm
    refine qdc 13 (wire_Machine_Two.ok _ _ _ _ _ _ _ h_377 _ _ _ b_x0 hs.own) hs fun w a hs => ?_
    replace hcl := qO hC_371 hs.own.drop
    refine ⟨fun _ => hcl, ?_⟩
    refine qdp (fuel := 1) [17] hs hcl hqC_371 fun a hs => ?_
    refine qsd 18 1 5 (ci v_378.1) hs rfl fun a w hs => ?_
    refine ⟨fun h => absurd h (by decide), ?_⟩
    replace hs := hs.pick [0, 4, 5, 7, 8, 11, 40, 41, 44, 45] (L' := [(0, pp b_x0), (4, pp b_244), (5, pp b_245), (7, pp b_248), (8, vi 3), (11, vi 1), (40, vi 3), (41, vi 1), (44, vi 3), (45, vi 0)]) (by kernel_rfl)
    refine Vk.dDone (by kernel_rfl) ?_
    refine hK369 _ _ ?_
    clear hK369
    refine Vk.region ?_
    refine qpk 2 [0, 4, 5, 7, 8, 11, 40, 41, 44, 45] hs fun a hs => hKL366 _ _ ?_
    clear hKL366
    refine Vk.unroll fun KL379 hKL379 => ?_
    refine qsk 1 [0, 4, 5, 7, 8, 11, 40, 41, 44, 45, 46] hs fun a hs => ?_
    refine qck hs ?_
    refine Vk.seq fun K382 hK382 => ?_
    refine wp_block ?_
    refine qsk 2 [0, 4, 5, 7, 8, 11, 12, 40, 41, 44, 45] hs fun a hs => ?_
    obtain ⟨C_384, hC_384⟩ := qC hs.own.drop
    refine qdr 18 κ C_384 hs fun w hs hqC_384 => ?_
    have hcl := qO hC_384 hs.own.drop
    refine qdp (fuel := 5) [0, 1, 2, 3, 4, 5, 6, 7, 9, 10, 11, 14, 15, 16] hs hcl hqC_384 fun a hs => ?_
    obtain ⟨v_386, h_385, hm⟩ := bind_t hm
    refine qdi 8 3 hs hcl hqC_384 hC_384 rfl h_385 fun a hs => ?_
    obtain ⟨v_388, h_387, hm⟩ := bind_t hm
    refine qdi 12 2 hs hcl hqC_384 hC_384 rfl h_387 fun a hs => ?_
    obtain ⟨v_391, h_390, hm⟩ := bind_t hm
    refine qdc 13 (wire_Machine_Two.ok _ _ _ _ _ _ _ h_390 _ _ _ b_x0 hs.own) hs fun w a hs => ?_
    replace hcl := qO hC_384 hs.own.drop
    refine ⟨fun _ => hcl, ?_⟩
    refine qdp (fuel := 1) [17] hs hcl hqC_384 fun a hs => ?_
    refine qsd 18 1 6 (ci v_391.1) hs rfl fun a w hs => ?_
    refine ⟨fun h => absurd h (by decide), ?_⟩
    replace hs := hs.pick [0, 4, 5, 7, 8, 11, 40, 41, 44, 45] (L' := [(0, pp b_x0), (4, pp b_244), (5, pp b_245), (7, pp b_248), (8, vi 3), (11, vi 1), (40, vi 3), (41, vi 1), (44, vi 3), (45, vi 1)]) (by kernel_rfl)
    refine Vk.dDone (by kernel_rfl) ?_
    refine hK382 _ _ ?_
    clear hK382
    refine Vk.region ?_
    refine qpe 2 [(0, pp b_x0), (4, pp b_244), (5, pp b_245), (7, pp b_248), (8, vi 3), (11, vi 1), (40, vi 3), (41, vi 1), (44, vi 3), (45, vi 2)] hs fun a hs => hKL379 _ _ ?_
    clear hKL379
    refine Vk.unroll fun KL392 hKL392 => ?_
    refine qsk 1 [0, 4, 5, 7, 8, 11, 40, 41, 44, 45, 46] hs fun a hs => ?_
    refine qck hs ?_
    refine Vk.seq fun K395 hK395 => ?_
    refine wp_block ?_
    refine qsk 2 [0, 4, 5, 7, 8, 11, 12, 40, 41, 44, 45] hs fun a hs => ?_
    obtain ⟨C_397, hC_397⟩ := qC hs.own.drop
    refine qdr 18 κ C_397 hs fun w hs hqC_397 => ?_
    have hcl := qO hC_397 hs.own.drop
    refine qdp (fuel := 5) [0, 1, 2, 3, 4, 5, 6, 7, 9, 10, 11, 14, 15, 16] hs hcl hqC_397 fun a hs => ?_
    obtain ⟨v_399, h_398, hm⟩ := bind_t hm
    refine qdi 8 3 hs hcl hqC_397 hC_397 rfl h_398 fun a hs => ?_
    obtain ⟨v_401, h_400, hm⟩ := bind_t hm
    refine qdi 12 2 hs hcl hqC_397 hC_397 rfl h_400 fun a hs => ?_
    obtain ⟨v_404, h_403, hm⟩ := bind_t hm
    refine qdc 13 (wire_Machine_Two.ok _ _ _ _ _ _ _ h_403 _ _ _ b_x0 hs.own) hs fun w a hs => ?_
    replace hcl := qO hC_397 hs.own.drop
    refine ⟨fun _ => hcl, ?_⟩
    refine qdp (fuel := 1) [17] hs hcl hqC_397 fun a hs => ?_
    refine qsd 18 1 7 (ci v_404.1) hs rfl fun a w hs => ?_
    refine ⟨fun h => absurd h (by decide), ?_⟩
    replace hs := hs.pick [0, 4, 5, 7, 8, 11, 40, 41, 44, 45] (L' := [(0, pp b_x0), (4, pp b_244), (5, pp b_245), (7, pp b_248), (8, vi 3), (11, vi 1), (40, vi 3), (41, vi 1), (44, vi 3), (45, vi 2)]) (by kernel_rfl)
    refine Vk.dDone (by kernel_rfl) ?_
    refine hK395 _ _ ?_
    clear hK395
    refine Vk.region ?_
    refine qpk 2 [0, 4, 5, 7, 8, 11, 40, 41, 44, 45] hs fun a hs => hKL392 _ _ ?_
    clear hKL392
    refine Vk.unroll fun KL405 hKL405 => ?_
    refine qsk 1 [0, 4, 5, 7, 8, 11, 40, 41, 44, 45, 46] hs fun a hs => ?_
    refine Vk.seq fun K407 hK407 => ?_
    refine qcf hs ?_
    refine wp_exit ?_
    refine hK363 _ _ ?_
    clear hK363
    refine Vk.region ?_
    refine qpk 2 [0, 4, 5, 7, 8, 40, 41] hs fun a hs => hKL360 _ _ ?_
    clear hKL360
    refine Vk.unroll fun KL408 hKL408 => ?_
    refine qse 1 [(0, pp b_x0), (4, pp b_244), (5, pp b_245), (7, pp b_248), (8, vi 3), (40, vi 3), (41, vi 2), (42, .bool true)] hs fun a hs => ?_
    refine qck hs ?_
    refine Vk.seq fun K411 hK411 => ?_
    refine wp_block ?_
    refine qsk 2 [0, 4, 5, 7, 8, 11, 40, 41] hs fun a hs => ?_
    refine qsk 2 [0, 4, 5, 7, 8, 11, 40, 41, 44, 45] hs fun a hs => ?_
    refine wp_block ?_
    refine Vk.unroll0 40 ?_
    refine Vk.unroll fun KL414 hKL414 => ?_
    refine qsk 1 [0, 4, 5, 7, 8, 11, 40, 41, 44, 45, 46] hs fun a hs => ?_
    refine qck hs ?_
    refine Vk.seq fun K417 hK417 => ?_
    refine wp_block ?_
    refine qsk 2 [0, 4, 5, 7, 8, 11, 12, 40, 41, 44, 45] hs fun a hs => ?_
    obtain ⟨C_419, hC_419⟩ := qC hs.own.drop
    refine qdr 18 κ C_419 hs fun w hs hqC_419 => ?_
    have hcl := qO hC_419 hs.own.drop
    refine qdp (fuel := 5) [0, 1, 2, 3, 4, 5, 6, 7, 9, 10, 11, 14, 15, 16] hs hcl hqC_419 fun a hs => ?_
    obtain ⟨v_421, h_420, hm⟩ := bind_t hm
    refine qdi 8 3 hs hcl hqC_419 hC_419 rfl h_420 fun a hs => ?_
    obtain ⟨v_423, h_422, hm⟩ := bind_t hm
    refine qdi 12 2 hs hcl hqC_419 hC_419 rfl h_422 fun a hs => ?_
    obtain ⟨v_426, h_425, hm⟩ := bind_t hm
    refine qdc 13 (wire_Machine_Two.ok _ _ _ _ _ _ _ h_425 _ _ _ b_x0 hs.own) hs fun w a hs => ?_
    replace hcl := qO hC_419 hs.own.drop
    refine ⟨fun _ => hcl, ?_⟩
    refine qdp (fuel := 1) [17] hs hcl hqC_419 fun a hs => ?_
    refine qsd 18 1 8 (ci v_426.1) hs rfl fun a w hs => ?_
    refine ⟨fun h => absurd h (by decide), ?_⟩
    replace hs := hs.pick [0, 4, 5, 7, 8, 11, 40, 41, 44, 45] (L' := [(0, pp b_x0), (4, pp b_244), (5, pp b_245), (7, pp b_248), (8, vi 3), (11, vi 2), (40, vi 3), (41, vi 2), (44, vi 3), (45, vi 0)]) (by kernel_rfl)
    refine Vk.dDone (by kernel_rfl) ?_
    refine hK417 _ _ ?_
    clear hK417
    refine Vk.region ?_
    refine qpk 2 [0, 4, 5, 7, 8, 11, 40, 41, 44, 45] hs fun a hs => hKL414 _ _ ?_
    clear hKL414
    refine Vk.unroll fun KL427 hKL427 => ?_
    refine qse 1 [(0, pp b_x0), (4, pp b_244), (5, pp b_245), (7, pp b_248), (8, vi 3), (11, vi 2), (40, vi 3), (41, vi 2), (44, vi 3), (45, vi 1), (46, .bool true)] hs fun a hs => ?_
    refine qck hs ?_
    refine Vk.seq fun K430 hK430 => ?_
    refine wp_block ?_
    refine qsk 2 [0, 4, 5, 7, 8, 11, 12, 40, 41, 44, 45] hs fun a hs => ?_
    obtain ⟨C_432, hC_432⟩ := qC hs.own.drop
    refine qdr 18 κ C_432 hs fun w hs hqC_432 => ?_
    have hcl := qO hC_432 hs.own.drop
    refine qdp (fuel := 5) [0, 1, 2, 3, 4, 5, 6, 7, 9, 10, 11, 14, 15, 16] hs hcl hqC_432 fun a hs => ?_
    obtain ⟨v_434, h_433, hm⟩ := bind_t hm
    refine qdi 8 3 hs hcl hqC_432 hC_432 rfl h_433 fun a hs => ?_
    obtain ⟨v_436, h_435, hm⟩ := bind_t hm
    refine qdi 12 2 hs hcl hqC_432 hC_432 rfl h_435 fun a hs => ?_
    obtain ⟨v_439, h_438, hm⟩ := bind_t hm
    refine qdc 13 (wire_Machine_Two.ok _ _ _ _ _ _ _ h_438 _ _ _ b_x0 hs.own) hs fun w a hs => ?_
    replace hcl := qO hC_432 hs.own.drop
    refine ⟨fun _ => hcl, ?_⟩
    refine qdp (fuel := 1) [17] hs hcl hqC_432 fun a hs => ?_
    refine qsd 18 1 9 (ci v_439.1) hs rfl fun a w hs => ?_
    refine ⟨fun h => absurd h (by decide), ?_⟩
    replace hs := hs.pick [0, 4, 5, 7, 8, 11, 40, 41, 44, 45] (L' := [(0, pp b_x0), (4, pp b_244), (5, pp b_245), (7, pp b_248), (8, vi 3), (11, vi 2), (40, vi 3), (41, vi 2), (44, vi 3), (45, vi 1)]) (by kernel_rfl)
    refine Vk.dDone (by kernel_rfl) ?_
    refine hK430 _ _ ?_
    clear hK430
    refine Vk.region ?_
    refine qpk 2 [0, 4, 5, 7, 8, 11, 40, 41, 44, 45] hs fun a hs => hKL427 _ _ ?_
    clear hKL427
    refine Vk.unroll fun KL440 hKL440 => ?_
    refine qsk 1 [0, 4, 5, 7, 8, 11, 40, 41, 44, 45, 46] hs fun a hs => ?_
    refine qck hs ?_
    refine Vk.seq fun K443 hK443 => ?_
    refine wp_block ?_
    refine qsk 2 [0, 4, 5, 7, 8, 11, 12, 40, 41, 44, 45] hs fun a hs => ?_
    obtain ⟨C_445, hC_445⟩ := qC hs.own.drop
    refine qdr 18 κ C_445 hs fun w hs hqC_445 => ?_
    have hcl := qO hC_445 hs.own.drop
    refine qdp (fuel := 5) [0, 1, 2, 3, 4, 5, 6, 7, 9, 10, 11, 14, 15, 16] hs hcl hqC_445 fun a hs => ?_
    obtain ⟨v_447, h_446, hm⟩ := bind_t hm
    refine qdi 8 3 hs hcl hqC_445 hC_445 rfl h_446 fun a hs => ?_
    obtain ⟨v_449, h_448, hm⟩ := bind_t hm
    refine qdi 12 2 hs hcl hqC_445 hC_445 rfl h_448 fun a hs => ?_
    obtain ⟨v_452, h_451, hm⟩ := bind_t hm
    refine qdc 13 (wire_Machine_Two.ok _ _ _ _ _ _ _ h_451 _ _ _ b_x0 hs.own) hs fun w a hs => ?_
    replace hcl := qO hC_445 hs.own.drop
    refine ⟨fun _ => hcl, ?_⟩
    refine qdp (fuel := 1) [17] hs hcl hqC_445 fun a hs => ?_
    refine qsd 18 1 10 (ci v_452.1) hs rfl fun a w hs => ?_
    refine ⟨fun h => absurd h (by decide), ?_⟩
    replace hs := hs.pick [0, 4, 5, 7, 8, 11, 40, 41, 44, 45] (L' := [(0, pp b_x0), (4, pp b_244), (5, pp b_245), (7, pp b_248), (8, vi 3), (11, vi 2), (40, vi 3), (41, vi 2), (44, vi 3), (45, vi 2)]) (by kernel_rfl)
    refine Vk.dDone (by kernel_rfl) ?_
    refine hK443 _ _ ?_
    clear hK443
    refine Vk.region ?_
    refine qpk 2 [0, 4, 5, 7, 8, 11, 40, 41, 44, 45] hs fun a hs => hKL440 _ _ ?_
    clear hKL440
    refine Vk.unroll fun KL453 hKL453 => ?_
    refine qse 1 [(0, pp b_x0), (4, pp b_244), (5, pp b_245), (7, pp b_248), (8, vi 3), (11, vi 2), (40, vi 3), (41, vi 2), (44, vi 3), (45, vi 3), (46, .bool false)] hs fun a hs => ?_
    refine Vk.seq fun K455 hK455 => ?_
    refine qcf hs ?_
    refine wp_exit ?_
    refine hK411 _ _ ?_
    clear hK411
    refine Vk.region ?_
    refine qpk 2 [0, 4, 5, 7, 8, 40, 41] hs fun a hs => hKL408 _ _ ?_
    clear hKL408
    refine Vk.unroll fun KL456 hKL456 => ?_
    refine qsk 1 [0, 4, 5, 7, 8, 40, 41, 42] hs fun a hs => ?_
    refine Vk.seq fun K458 hK458 => ?_
    refine qcf hs ?_
    refine wp_exit ?_
    refine hK310 _ _ ?_
    clear hK310
    refine qse 2 [(6, pp b_248)] hs fun a hs => ?_
    refine wp_ret ?_
    refine hKP242 _ _ ?_
    refine hKR242 _ _ ?_
    refine Vk.ret1 (P := Tryz.prog) (fn := Tryz.f130) (pp b_248) hs rfl (by kernel_rfl) ⟨_, _, _, rfl, hs.own, fun a hs => ?_⟩
    refine qpk 1 [0, 6, 7] hs fun a hs => hK239 _ _ ?_
    clear hK239
    refine qsr fun K460 hK460 => ?_
    refine qpu 3 hs fun a hs => ?_
    refine Vk.step (Vk.call (some 23) 131 #[pp b_248, .func (.func 133) #[pp b_248] #[]] hs (by kernel_rfl) (by kernel_rfl) (by kernel_rfl) ?_)
    refine Vk.enterI [(0, pp b_248), (1, .func (.func 133) #[pp b_248] #[])] Tryz.func131 rfl Tryz.ntmps131 (by kernel_rfl) (Nat.le_of_ble_eq_true (by kernel_rfl)) hs.own fun KR461 hKR461 hKP461 a hs => ?_
    refine qsr fun K462 hK462 => ?_
    refine qal 35 [ci 0, ci 0, ci 0] 4 hs fun b_463 w a hs => ?_
    refine qpk 0 [0, 1, 4] hs fun a hs => hK462 _ _ ?_
    clear hK462
    refine qsr fun K464 hK464 => ?_
    refine qpu 2 hs fun a hs => ?_
    refine qal 35 [ci 0, ci 0, ci 0] 5 hs fun b_465 w a hs => ?_
    refine qsa 0 [ci (-1), ci (-1), ci (-1)] hs rfl fun a w hs => ?_
    refine qpe 0 [(0, pp b_248), (1, .func (.func 133) #[pp b_248] #[]), (4, pp b_463), (5, pp b_465)] hs fun a hs => hK464 _ _ ?_
    clear hK464
    refine qsr fun K466 hK466 => ?_
    refine qpu 3 hs fun a hs => ?_
    refine qld 3 (cp b_x0) hs rfl fun a hs => ?_
    obtain ⟨g_467, hs⟩ := hs.unex 2 rfl
    obtain ⟨v_470, h_469, hm⟩ := bind_t hm
    refine qcl (wire_Machine_N.ok _ _ _ h_469 _ _ _ b_x0 g_467 hs.own.f2) hs fun w a hs => ?_
    rcases Bool.eq_false_or_eq_true (v_470 == 3) with hb | hb
    ·replace hm := bif_t hm hb
     obtain rfl := Vk.of_beq hb
     refine qpk 1 [0, 1, 4, 5, 6] hs fun a hs => hK466 _ _ ?_
     clear hK466
     refine Vk.seq fun K471 hK471 => ?_
     refine qsk 2 [0, 1, 4, 5, 6, 16, 17] hs fun a hs => ?_
     refine wp_block ?_
     refine Vk.unroll0 40 ?_
     refine Vk.unroll fun KL473 hKL473 => ?_
     refine qsk 1 [0, 1, 4, 5, 6, 16, 17, 18] hs fun a hs => ?_
     refine qck hs ?_
     refine Vk.seq fun K476 hK476 => ?_
     refine wp_block ?_
     refine qsk 2 [0, 1, 4, 5, 6, 7, 16, 17] hs fun a hs => ?_
     refine qsr fun K478 hK478 => ?_
     refine qpu 8 hs fun a hs => ?_
     refine qld 3 (ci v_330.1) hs rfl fun a hs => ?_
     refine qpu 2 hs fun a hs => ?_
     refine qst 1 0 (ci v_330.1) hs rfl fun a w hs => ?_
     refine qpk 0 [0, 1, 4, 5, 6, 7, 16, 17] hs fun a hs => hK478 _ _ ?_
     clear hK478
     refine qse 2 [(0, pp b_248), (1, .func (.func 133) #[pp b_248] #[]), (4, pp b_463), (5, pp b_465), (6, vi 3), (7, vi 0), (16, vi 3), (17, vi 0), (31, vi 3), (32, vi 0)] hs fun a hs => ?_
     refine wp_block ?_
     refine Vk.unroll0 40 ?_
     refine Vk.unroll fun KL480 hKL480 => ?_
     refine qsk 1 [0, 1, 4, 5, 6, 7, 16, 17, 31, 32, 33] hs fun a hs => ?_
     refine qck hs ?_
     refine Vk.seq fun K483 hK483 => ?_
     refine wp_block ?_
     refine qsk 2 [0, 1, 4, 5, 6, 7, 8, 16, 17, 31, 32] hs fun a hs => ?_
     refine qsk 3 [0, 1, 4, 5, 6, 7, 8, 16, 17, 31, 32, 37] hs fun a hs => ?_
     refine qcf hs ?_
     refine wp_skip ?_
     refine hK483 _ _ ?_
     clear hK483
     refine Vk.region ?_
     refine qpk 2 [0, 1, 4, 5, 6, 7, 16, 17, 31, 32] hs fun a hs => hKL480 _ _ ?_
     clear hKL480
     refine Vk.unroll fun KL486 hKL486 => ?_
     refine qsk 1 [0, 1, 4, 5, 6, 7, 16, 17, 31, 32, 33] hs fun a hs => ?_
     refine qck hs ?_
     refine Vk.seq fun K489 hK489 => ?_
     refine wp_block ?_
     refine qse 2 [(0, pp b_248), (1, .func (.func 133) #[pp b_248] #[]), (4, pp b_463), (5, pp b_465), (6, vi 3), (7, vi 0), (8, vi 1), (16, vi 3), (17, vi 0), (31, vi 3), (32, vi 1)] hs fun a hs => ?_
     refine qsk 3 [0, 1, 4, 5, 6, 7, 8, 16, 17, 31, 32, 37] hs fun a hs => ?_
     refine qct hs ?_
     obtain ⟨C_492, hC_492⟩ := qC hs.own.drop
     refine qdr 17 κ C_492 hs fun w hs hqC_492 => ?_
     have hcl := qO hC_492 hs.own.drop
     refine qdp (fuel := 6) [0, 1, 2, 3, 5, 6, 7, 8, 10, 11, 12, 15] hs hcl hqC_492 fun a hs => ?_
     refine qdl 4 2 (cp b_x0) hs hcl hqC_492 hC_492 rfl fun a hs => ?_
     refine qdl 9 0 (ci v_330.1) hs hcl hqC_492 hC_492 rfl fun a hs => ?_
     refine Vk.dOnly (i := 13) (by kernel_rfl) (Vk.call (some 51) 133 #[pp b_248, vi 0, vi 1] hs (by kernel_rfl) (by kernel_rfl) (by kernel_rfl) ?_)
     refine Vk.enterI [(0, pp b_248), (1, vi 0), (2, vi 1)] Tryz.func133 rfl Tryz.ntmps133 (by kernel_rfl) (Nat.le_of_ble_eq_true (by kernel_rfl)) hs.own fun KR493 hKR493 hKP493 a hs => ?_
     refine qsk 1 [0, 1, 2] hs fun a hs => ?_
     refine Vk.seq fun K495 hK495 => ?_
     refine qsk 3 [0, 1, 2, 9] hs fun a hs => ?_
     refine qct hs ?_
     refine qsr fun K497 hK497 => ?_
     refine qpu 3 hs fun a hs => ?_
     refine Vk.step (Vk.call (some 13) 139 #[pp b_248, vi 0, vi 1] hs (by kernel_rfl) (by kernel_rfl) (by kernel_rfl) ?_)
     refine Vk.enterI [(0, pp b_248), (1, vi 0), (2, vi 1)] Tryz.func139 rfl Tryz.ntmps139 (by kernel_rfl) (Nat.le_of_ble_eq_true (by kernel_rfl)) hs.own fun KR498 hKR498 hKP498 a hs => ?_
     refine qsk 1 [0, 1, 2] hs fun a hs => ?_
     refine qsr fun K500 hK500 => ?_
     refine qpu 3 hs fun a hs => ?_
     refine qld 3 (C.map (some b_247)) hs rfl fun a hs => ?_
     refine qpu 7 hs fun a hs => ?_
     refine qva (vi v_269.1) (op := (.lookup 143 (.tmp 10) (.tmp 17) false)) hs (fun o ho => run_lookup (b := b_247) (key := .agg (vals [ci 0, ci 1])) 4 rfl ho (by kernel_rfl) (by kernel_rfl) (by kernel_rfl) _ hs.own) fun a hs => ?_
     refine qpe 1 [(6, vi v_269.1)] hs fun a hs => hK500 _ _ ?_
     clear hK500
     refine wp_ret ?_
     refine hKP498 _ _ ?_
     refine hKR498 _ _ ?_
     refine Vk.ret1 (P := Tryz.prog) (fn := Tryz.f139) (vi v_269.1) hs rfl (by kernel_rfl) ⟨_, _, _, rfl, hs.own, fun a hs => ?_⟩
     refine qpe 1 [(6, vi v_269.1)] hs fun a hs => hK497 _ _ ?_
     clear hK497
     refine wp_ret ?_
     refine hKP493 _ _ ?_
     refine hKR493 _ _ ?_
     refine Vk.ret1 (P := Tryz.prog) (fn := Tryz.f133) (vi v_269.1) hs rfl (by kernel_rfl) ⟨_, _, _, rfl, hs.own, fun a hs => ?_⟩
     replace hcl := qO hC_492 hs.own.drop
     refine ⟨fun _ => hcl, ?_⟩
     replace hs := hs.toEx (Twire_Machine.parts b_x0 v_452.2) g_467 0 rfl
     obtain ⟨v_503, h_502, hm⟩ := bind_t hm
     refine qdc 14 (wire_Machine_Two.ok _ _ _ _ _ _ _ h_502 _ _ _ b_x0 hs.own) hs fun w a hs => ?_
     replace hcl := qO hC_492 hs.own.drop
     refine ⟨fun _ => hcl, ?_⟩
     refine qdp (fuel := 1) [16] hs hcl hqC_492 fun a hs => ?_
     refine qsd 17 1 0 (ci v_503.1) hs rfl fun a w hs => ?_
     refine ⟨fun h => absurd h (by decide), ?_⟩
     replace hs := hs.pick [0, 1, 4, 5, 6, 7, 16, 17, 31, 32] (L' := [(0, pp b_248), (1, .func (.func 133) #[pp b_248] #[]), (4, pp b_463), (5, pp b_465), (6, vi 3), (7, vi 0), (16, vi 3), (17, vi 0), (31, vi 3), (32, vi 1)]) (by kernel_rfl)
     refine Vk.dDone (by kernel_rfl) ?_
     refine hK489 _ _ ?_
     clear hK489
     refine Vk.region ?_
     refine qpk 2 [0, 1, 4, 5, 6, 7, 16, 17, 31, 32] hs fun a hs => hKL486 _ _ ?_
     clear hKL486
     refine Vk.unroll fun KL504 hKL504 => ?_
     refine qsk 1 [0, 1, 4, 5, 6, 7, 16, 17, 31, 32, 33] hs fun a hs => ?_
     refine qck hs ?_
     refine Vk.seq fun K507 hK507 => ?_
     refine wp_block ?_
     refine qsk 2 [0, 1, 4, 5, 6, 7, 8, 16, 17, 31, 32] hs fun a hs => ?_
     refine qsk 3 [0, 1, 4, 5, 6, 7, 8, 16, 17, 31, 32, 37] hs fun a hs => ?_
     refine qct hs ?_
     obtain ⟨C_510, hC_510⟩ := qC hs.own.drop
     refine qdr 17 κ C_510 hs fun w hs hqC_510 => ?_
     have hcl := qO hC_510 hs.own.drop
     refine qdp (fuel := 6) [0, 1, 2, 3, 5, 6, 7, 8, 10, 11, 12, 15] hs hcl hqC_510 fun a hs => ?_
     refine qdl 4 2 (cp b_x0) hs hcl hqC_510 hC_510 rfl fun a hs => ?_
     refine qdl 9 0 (ci v_503.1) hs hcl hqC_510 hC_510 rfl fun a hs => ?_
     refine Vk.dOnly (i := 13) (by kernel_rfl) (Vk.call (some 51) 133 #[pp b_248, vi 0, vi 2] hs (by kernel_rfl) (by kernel_rfl) (by kernel_rfl) ?_)
     refine Vk.enterI [(0, pp b_248), (1, vi 0), (2, vi 2)] Tryz.func133 rfl Tryz.ntmps133 (by kernel_rfl) (Nat.le_of_ble_eq_true (by kernel_rfl)) hs.own fun KR511 hKR511 hKP511 a hs => ?_
     refine qsk 1 [0, 1, 2] hs fun a hs => ?_
     refine Vk.seq fun K513 hK513 => ?_
     refine qse 3 [(0, pp b_248), (1, vi 0), (2, vi 2), (9, .bool true)] hs fun a hs => ?_
     refine qct hs ?_
     refine qsr fun K515 hK515 => ?_
     refine qpu 3 hs fun a hs => ?_
     refine Vk.step (Vk.call (some 13) 139 #[pp b_248, vi 0, vi 2] hs (by kernel_rfl) (by kernel_rfl) (by kernel_rfl) ?_)
     refine Vk.enterI [(0, pp b_248), (1, vi 0), (2, vi 2)] Tryz.func139 rfl Tryz.ntmps139 (by kernel_rfl) (Nat.le_of_ble_eq_true (by kernel_rfl)) hs.own fun KR516 hKR516 hKP516 a hs => ?_
     refine qsk 1 [0, 1, 2] hs fun a hs => ?_
     refine qsr fun K518 hK518 => ?_
     refine qpu 3 hs fun a hs => ?_
     refine qld 3 (C.map (some b_247)) hs rfl fun a hs => ?_
     refine qpu 7 hs fun a hs => ?_
     refine qva (vi v_277.1) (op := (.lookup 143 (.tmp 10) (.tmp 17) false)) hs (fun o ho => run_lookup (b := b_247) (key := .agg (vals [ci 0, ci 2])) 4 rfl ho (by kernel_rfl) (by kernel_rfl) (by kernel_rfl) _ hs.own) fun a hs => ?_
     refine qpe 1 [(6, vi v_277.1)] hs fun a hs => hK518 _ _ ?_
     clear hK518
     refine wp_ret ?_
     refine hKP516 _ _ ?_
     refine hKR516 _ _ ?_
     refine Vk.ret1 (P := Tryz.prog) (fn := Tryz.f139) (vi v_277.1) hs rfl (by kernel_rfl) ⟨_, _, _, rfl, hs.own, fun a hs => ?_⟩
     refine qpe 1 [(6, vi v_277.1)] hs fun a hs => hK515 _ _ ?_
     clear hK515
     refine wp_ret ?_
     refine hKP511 _ _ ?_
     refine hKR511 _ _ ?_
     refine Vk.ret1 (P := Tryz.prog) (fn := Tryz.f133) (vi v_277.1) hs rfl (by kernel_rfl) ⟨_, _, _, rfl, hs.own, fun a hs => ?_⟩
     replace hcl := qO hC_510 hs.own.drop
     refine ⟨fun _ => hcl, ?_⟩
     obtain ⟨v_521, h_520, hm⟩ := bind_t hm
     refine qdc 14 (wire_Machine_Two.ok _ _ _ _ _ _ _ h_520 _ _ _ b_x0 hs.own) hs fun w a hs => ?_
     replace hcl := qO hC_510 hs.own.drop
     refine ⟨fun _ => hcl, ?_⟩
     refine qdp (fuel := 1) [16] hs hcl hqC_510 fun a hs => ?_
     refine qsd 17 1 0 (ci v_521.1) hs rfl fun a w hs => ?_
     refine ⟨fun h => absurd h (by decide), ?_⟩
     replace hs := hs.pick [0, 1, 4, 5, 6, 7, 16, 17, 31, 32] (L' := [(0, pp b_248), (1, .func (.func 133) #[pp b_248] #[]), (4, pp b_463), (5, pp b_465), (6, vi 3), (7, vi 0), (16, vi 3), (17, vi 0), (31, vi 3), (32, vi 2)]) (by kernel_rfl)
     refine Vk.dDone (by kernel_rfl) ?_
     refine hK507 _ _ ?_
     clear hK507
     refine Vk.region ?_
     refine qpk 2 [0, 1, 4, 5, 6, 7, 16, 17, 31, 32] hs fun a hs => hKL504 _ _ ?_
     clear hKL504
     refine Vk.unroll fun KL522 hKL522 => ?_
     refine qsk 1 [0, 1, 4, 5, 6, 7, 16, 17, 31, 32, 33] hs fun a hs => ?_
     refine Vk.seq fun K524 hK524 => ?_
     refine qcf hs ?_
     refine wp_exit ?_
     refine hK476 _ _ ?_
     clear hK476
     refine Vk.region ?_
     refine qpk 2 [0, 1, 4, 5, 6, 16, 17] hs fun a hs => hKL473 _ _ ?_
     clear hKL473
     refine Vk.unroll fun KL525 hKL525 => ?_
     refine qsk 1 [0, 1, 4, 5, 6, 16, 17, 18] hs fun a hs => ?_
     refine qck hs ?_
     refine Vk.seq fun K528 hK528 => ?_
     refine wp_block ?_
     refine qsk 2 [0, 1, 4, 5, 6, 7, 16, 17] hs fun a hs => ?_
     refine qsr fun K530 hK530 => ?_
     refine qpu 8 hs fun a hs => ?_
     refine qld 3 (ci v_391.1) hs rfl fun a hs => ?_
     refine qpu 2 hs fun a hs => ?_
     refine qst 1 1 (ci v_391.1) hs rfl fun a w hs => ?_
     refine qpe 0 [(0, pp b_248), (1, .func (.func 133) #[pp b_248] #[]), (4, pp b_463), (5, pp b_465), (6, vi 3), (7, vi 1), (16, vi 3), (17, vi 1)] hs fun a hs => hK530 _ _ ?_
     clear hK530
     refine qsk 2 [0, 1, 4, 5, 6, 7, 16, 17, 31, 32] hs fun a hs => ?_
     refine wp_block ?_
     refine Vk.unroll0 40 ?_
     refine Vk.unroll fun KL532 hKL532 => ?_
     refine qsk 1 [0, 1, 4, 5, 6, 7, 16, 17, 31, 32, 33] hs fun a hs => ?_
     refine qck hs ?_
     refine Vk.seq fun K535 hK535 => ?_
     refine wp_block ?_
     refine qsk 2 [0, 1, 4, 5, 6, 7, 8, 16, 17, 31, 32] hs fun a hs => ?_
     refine qsk 3 [0, 1, 4, 5, 6, 7, 8, 16, 17, 31, 32, 37] hs fun a hs => ?_
     refine qct hs ?_
     obtain ⟨C_538, hC_538⟩ := qC hs.own.drop
     refine qdr 17 κ C_538 hs fun w hs hqC_538 => ?_
     have hcl := qO hC_538 hs.own.drop
     refine qdp (fuel := 6) [0, 1, 2, 3, 5, 6, 7, 8, 10, 11, 12, 15] hs hcl hqC_538 fun a hs => ?_
     refine qdl 4 2 (cp b_x0) hs hcl hqC_538 hC_538 rfl fun a hs => ?_
     refine qdl 9 0 (ci v_391.1) hs hcl hqC_538 hC_538 rfl fun a hs => ?_
     refine Vk.dOnly (i := 13) (by kernel_rfl) (Vk.call (some 51) 133 #[pp b_248, vi 1, vi 0] hs (by kernel_rfl) (by kernel_rfl) (by kernel_rfl) ?_)
     refine Vk.enterI [(0, pp b_248), (1, vi 1), (2, vi 0)] Tryz.func133 rfl Tryz.ntmps133 (by kernel_rfl) (Nat.le_of_ble_eq_true (by kernel_rfl)) hs.own fun KR539 hKR539 hKP539 a hs => ?_
     refine qsk 1 [0, 1, 2] hs fun a hs => ?_
     refine Vk.seq fun K541 hK541 => ?_
     refine qse 3 [(0, pp b_248), (1, vi 1), (2, vi 0), (9, .bool false)] hs fun a hs => ?_
     refine qcf hs ?_
     refine wp_skip ?_
     refine hK541 _ _ ?_
     clear hK541
     refine Vk.seq fun K543 hK543 => ?_
     obtain ⟨C_544, hC_544⟩ := qC hs.own.drop
     refine qdr 33 κ C_544 hs fun w hs hqC_544 => ?_
     have hcl := qO hC_544 hs.own.drop
     refine qdp (fuel := 8) [0, 1, 2, 4, 5, 6, 7, 9, 10, 11, 12, 14, 15, 16, 17, 18, 19, 20, 23, 24, 25, 26, 27, 28, 29] hs hcl hqC_544 fun a hs => ?_
     refine qdl 3 2 (cp b_x0) hs hcl hqC_544 hC_544 rfl fun a hs => ?_
     refine qdl 8 2 (cp b_x0) hs hcl hqC_544 hC_544 rfl fun a hs => ?_
     refine qdl 21 2 (ci v_343.1) hs hcl hqC_544 hC_544 rfl fun a hs => ?_
     refine qdl 30 2 (ci v_378.1) hs hcl hqC_544 hC_544 rfl fun a hs => ?_
     refine Vk.dOnly (i := 13) (by kernel_rfl) (Vk.call (some 27) 139 #[pp b_248, vi 0, vi 1] hs (by kernel_rfl) (by kernel_rfl) (by kernel_rfl) ?_)
     refine Vk.enterI [(0, pp b_248), (1, vi 0), (2, vi 1)] Tryz.func139 rfl Tryz.ntmps139 (by kernel_rfl) (Nat.le_of_ble_eq_true (by kernel_rfl)) hs.own fun KR545 hKR545 hKP545 a hs => ?_
     refine qsk 1 [0, 1, 2] hs fun a hs => ?_
     refine qsr fun K547 hK547 => ?_
     refine qpu 3 hs fun a hs => ?_
     refine qld 3 (C.map (some b_247)) hs rfl fun a hs => ?_
     refine qpu 7 hs fun a hs => ?_
     refine qva (vi v_269.1) (op := (.lookup 143 (.tmp 10) (.tmp 17) false)) hs (fun o ho => run_lookup (b := b_247) (key := .agg (vals [ci 0, ci 1])) 4 rfl ho (by kernel_rfl) (by kernel_rfl) (by kernel_rfl) _ hs.own) fun a hs => ?_
     refine qpe 1 [(6, vi v_269.1)] hs fun a hs => hK547 _ _ ?_
     clear hK547
     refine wp_ret ?_
     refine hKP545 _ _ ?_
     refine hKR545 _ _ ?_
     refine Vk.ret1 (P := Tryz.prog) (fn := Tryz.f139) (vi v_269.1) hs rfl (by kernel_rfl) ⟨_, _, _, rfl, hs.own, fun a hs => ?_⟩
     replace hcl := qO hC_544 hs.own.drop
     refine ⟨fun _ => hcl, ?_⟩
     obtain ⟨v_550, h_549, hm⟩ := bind_t hm
     refine qdc 22 (wire_Machine_Two.ok _ _ _ _ _ _ _ h_549 _ _ _ b_x0 hs.own) hs fun w a hs => ?_
     replace hcl := qO hC_544 hs.own.drop
     refine ⟨fun _ => hcl, ?_⟩
     obtain ⟨v_553, h_552, hm⟩ := bind_t hm
     refine qdc 31 (wire_Machine_Two.ok _ _ _ _ _ _ _ h_552 _ _ _ b_x0 hs.own) hs fun w a hs => ?_
     replace hcl := qO hC_544 hs.own.drop
     refine ⟨fun _ => hcl, ?_⟩
     refine qdp (fuel := 0) [32] hs hcl hqC_544 fun a hs => ?_
     replace hs := hs.pick [6] (L' := [(6, vi v_553.1)]) (by kernel_rfl)
     refine Vk.dDone (by kernel_rfl) ?_
     refine hK543 _ _ ?_
     clear hK543
     refine wp_ret ?_
     refine hKP539 _ _ ?_
     refine hKR539 _ _ ?_
     refine Vk.ret1 (P := Tryz.prog) (fn := Tryz.f133) (vi v_553.1) hs rfl (by kernel_rfl) ⟨_, _, _, rfl, hs.own, fun a hs => ?_⟩
     replace hcl := qO hC_538 hs.own.drop
     refine ⟨fun _ => hcl, ?_⟩
     obtain ⟨v_556, h_555, hm⟩ := bind_t hm
     refine qdc 14 (wire_Machine_Two.ok _ _ _ _ _ _ _ h_555 _ _ _ b_x0 hs.own) hs fun w a hs => ?_
     replace hcl := qO hC_538 hs.own.drop
     refine ⟨fun _ => hcl, ?_⟩
     refine qdp (fuel := 1) [16] hs hcl hqC_538 fun a hs => ?_
     refine qsd 17 1 1 (ci v_556.1) hs rfl fun a w hs => ?_
     refine ⟨fun h => absurd h (by decide), ?_⟩
     replace hs := hs.pick [0, 1, 4, 5, 6, 7, 16, 17, 31, 32] (L' := [(0, pp b_248), (1, .func (.func 133) #[pp b_248] #[]), (4, pp b_463), (5, pp b_465), (6, vi 3), (7, vi 1), (16, vi 3), (17, vi 1), (31, vi 3), (32, vi 0)]) (by kernel_rfl)
     refine Vk.dDone (by kernel_rfl) ?_
     refine hK535 _ _ ?_
     clear hK535
     refine Vk.region ?_
     refine qpk 2 [0, 1, 4, 5, 6, 7, 16, 17, 31, 32] hs fun a hs => hKL532 _ _ ?_
     clear hKL532
     refine Vk.unroll fun KL557 hKL557 => ?_
     refine qsk 1 [0, 1, 4, 5, 6, 7, 16, 17, 31, 32, 33] hs fun a hs => ?_
     refine qck hs ?_
     refine Vk.seq fun K560 hK560 => ?_
     refine wp_block ?_
     refine qsk 2 [0, 1, 4, 5, 6, 7, 8, 16, 17, 31, 32] hs fun a hs => ?_
     refine qsk 3 [0, 1, 4, 5, 6, 7, 8, 16, 17, 31, 32, 37] hs fun a hs => ?_
     refine qcf hs ?_
     refine wp_skip ?_
     refine hK560 _ _ ?_
     clear hK560
     refine Vk.region ?_
     refine qpk 2 [0, 1, 4, 5, 6, 7, 16, 17, 31, 32] hs fun a hs => hKL557 _ _ ?_
     clear hKL557
     refine Vk.unroll fun KL563 hKL563 => ?_
     refine qse 1 [(0, pp b_248), (1, .func (.func 133) #[pp b_248] #[]), (4, pp b_463), (5, pp b_465), (6, vi 3), (7, vi 1), (16, vi 3), (17, vi 1), (31, vi 3), (32, vi 2), (33, .bool true)] hs fun a hs => ?_
     refine qck hs ?_
     refine Vk.seq fun K566 hK566 => ?_
     refine wp_block ?_
     refine qsk 2 [0, 1, 4, 5, 6, 7, 8, 16, 17, 31, 32] hs fun a hs => ?_
     refine qsk 3 [0, 1, 4, 5, 6, 7, 8, 16, 17, 31, 32, 37] hs fun a hs => ?_
     refine qct hs ?_
     obtain ⟨C_569, hC_569⟩ := qC hs.own.drop
     refine qdr 17 κ C_569 hs fun w hs hqC_569 => ?_
     have hcl := qO hC_569 hs.own.drop
     refine qdp (fuel := 6) [0, 1, 2, 3, 5, 6, 7, 8, 10, 11, 12, 15] hs hcl hqC_569 fun a hs => ?_
     refine qdl 4 2 (cp b_x0) hs hcl hqC_569 hC_569 rfl fun a hs => ?_
     refine qdl 9 0 (ci v_556.1) hs hcl hqC_569 hC_569 rfl fun a hs => ?_
     refine Vk.dOnly (i := 13) (by kernel_rfl) (Vk.call (some 51) 133 #[pp b_248, vi 1, vi 2] hs (by kernel_rfl) (by kernel_rfl) (by kernel_rfl) ?_)
     refine Vk.enterI [(0, pp b_248), (1, vi 1), (2, vi 2)] Tryz.func133 rfl Tryz.ntmps133 (by kernel_rfl) (Nat.le_of_ble_eq_true (by kernel_rfl)) hs.own fun KR570 hKR570 hKP570 a hs => ?_
     refine qsk 1 [0, 1, 2] hs fun a hs => ?_
     refine Vk.seq fun K572 hK572 => ?_
     refine qsk 3 [0, 1, 2, 9] hs fun a hs => ?_
     refine qct hs ?_
     refine qsr fun K574 hK574 => ?_
     refine qpu 3 hs fun a hs => ?_
     refine Vk.step (Vk.call (some 13) 139 #[pp b_248, vi 1, vi 2] hs (by kernel_rfl) (by kernel_rfl) (by kernel_rfl) ?_)
     refine Vk.enterI [(0, pp b_248), (1, vi 1), (2, vi 2)] Tryz.func139 rfl Tryz.ntmps139 (by kernel_rfl) (Nat.le_of_ble_eq_true (by kernel_rfl)) hs.own fun KR575 hKR575 hKP575 a hs => ?_
     refine qsk 1 [0, 1, 2] hs fun a hs => ?_
     refine qsr fun K577 hK577 => ?_
     refine qpu 3 hs fun a hs => ?_
     refine qld 3 (C.map (some b_247)) hs rfl fun a hs => ?_
     refine qpu 7 hs fun a hs => ?_
     refine qva (vi v_294.1) (op := (.lookup 143 (.tmp 10) (.tmp 17) false)) hs (fun o ho => run_lookup (b := b_247) (key := .agg (vals [ci 1, ci 2])) 4 rfl ho (by kernel_rfl) (by kernel_rfl) (by kernel_rfl) _ hs.own) fun a hs => ?_
     refine qpe 1 [(6, vi v_294.1)] hs fun a hs => hK577 _ _ ?_
     clear hK577
     refine wp_ret ?_
     refine hKP575 _ _ ?_
     refine hKR575 _ _ ?_
     refine Vk.ret1 (P := Tryz.prog) (fn := Tryz.f139) (vi v_294.1) hs rfl (by kernel_rfl) ⟨_, _, _, rfl, hs.own, fun a hs => ?_⟩
     refine qpe 1 [(6, vi v_294.1)] hs fun a hs => hK574 _ _ ?_
     clear hK574
     refine wp_ret ?_
     refine hKP570 _ _ ?_
     refine hKR570 _ _ ?_
     refine Vk.ret1 (P := Tryz.prog) (fn := Tryz.f133) (vi v_294.1) hs rfl (by kernel_rfl) ⟨_, _, _, rfl, hs.own, fun a hs => ?_⟩
     replace hcl := qO hC_569 hs.own.drop
     refine ⟨fun _ => hcl, ?_⟩
     obtain ⟨v_580, h_579, hm⟩ := bind_t hm
     refine qdc 14 (wire_Machine_Two.ok _ _ _ _ _ _ _ h_579 _ _ _ b_x0 hs.own) hs fun w a hs => ?_
     replace hcl := qO hC_569 hs.own.drop
     refine ⟨fun _ => hcl, ?_⟩
     refine qdp (fuel := 1) [16] hs hcl hqC_569 fun a hs => ?_
     refine qsd 17 1 1 (ci v_580.1) hs rfl fun a w hs => ?_
     refine ⟨fun h => absurd h (by decide), ?_⟩
     replace hs := hs.pick [0, 1, 4, 5, 6, 7, 16, 17, 31, 32] (L' := [(0, pp b_248), (1, .func (.func 133) #[pp b_248] #[]), (4, pp b_463), (5, pp b_465), (6, vi 3), (7, vi 1), (16, vi 3), (17, vi 1), (31, vi 3), (32, vi 2)]) (by kernel_rfl)
     refine Vk.dDone (by kernel_rfl) ?_
     refine hK566 _ _ ?_
     clear hK566
     refine Vk.region ?_
     refine qpk 2 [0, 1, 4, 5, 6, 7, 16, 17, 31, 32] hs fun a hs => hKL563 _ _ ?_
     clear hKL563
     refine Vk.unroll fun KL581 hKL581 => ?_
     refine qsk 1 [0, 1, 4, 5, 6, 7, 16, 17, 31, 32, 33] hs fun a hs => ?_
     refine Vk.seq fun K583 hK583 => ?_
     refine qcf hs ?_
     refine wp_exit ?_
     refine hK528 _ _ ?_
     clear hK528
     refine Vk.region ?_
     refine qpk 2 [0, 1, 4, 5, 6, 16, 17] hs fun a hs => hKL525 _ _ ?_
     clear hKL525
     refine Vk.unroll fun KL584 hKL584 => ?_
     refine qsk 1 [0, 1, 4, 5, 6, 16, 17, 18] hs fun a hs => ?_
     refine qck hs ?_
     refine Vk.seq fun K587 hK587 => ?_
     refine wp_block ?_
     refine qsk 2 [0, 1, 4, 5, 6, 7, 16, 17] hs fun a hs => ?_
     refine qsr fun K589 hK589 => ?_
     refine qpu 8 hs fun a hs => ?_
     refine qld 3 (ci v_452.1) hs rfl fun a hs => ?_
     refine qpu 2 hs fun a hs => ?_
     refine qst 1 2 (ci v_452.1) hs rfl fun a w hs => ?_
     refine qpe 0 [(0, pp b_248), (1, .func (.func 133) #[pp b_248] #[]), (4, pp b_463), (5, pp b_465), (6, vi 3), (7, vi 2), (16, vi 3), (17, vi 2)] hs fun a hs => hK589 _ _ ?_
     clear hK589
     refine qsk 2 [0, 1, 4, 5, 6, 7, 16, 17, 31, 32] hs fun a hs => ?_
     refine wp_block ?_
     refine Vk.unroll0 40 ?_
     refine Vk.unroll fun KL591 hKL591 => ?_
     refine qsk 1 [0, 1, 4, 5, 6, 7, 16, 17, 31, 32, 33] hs fun a hs => ?_
     refine qck hs ?_
     refine Vk.seq fun K594 hK594 => ?_
     refine wp_block ?_
     refine qsk 2 [0, 1, 4, 5, 6, 7, 8, 16, 17, 31, 32] hs fun a hs => ?_
     refine qsk 3 [0, 1, 4, 5, 6, 7, 8, 16, 17, 31, 32, 37] hs fun a hs => ?_
     refine qct hs ?_
     obtain ⟨C_597, hC_597⟩ := qC hs.own.drop
     refine qdr 17 κ C_597 hs fun w hs hqC_597 => ?_
     have hcl := qO hC_597 hs.own.drop
     refine qdp (fuel := 6) [0, 1, 2, 3, 5, 6, 7, 8, 10, 11, 12, 15] hs hcl hqC_597 fun a hs => ?_
     refine qdl 4 2 (cp b_x0) hs hcl hqC_597 hC_597 rfl fun a hs => ?_
     refine qdl 9 0 (ci v_452.1) hs hcl hqC_597 hC_597 rfl fun a hs => ?_
     refine Vk.dOnly (i := 13) (by kernel_rfl) (Vk.call (some 51) 133 #[pp b_248, vi 2, vi 0] hs (by kernel_rfl) (by kernel_rfl) (by kernel_rfl) ?_)
     refine Vk.enterI [(0, pp b_248), (1, vi 2), (2, vi 0)] Tryz.func133 rfl Tryz.ntmps133 (by kernel_rfl) (Nat.le_of_ble_eq_true (by kernel_rfl)) hs.own fun KR598 hKR598 hKP598 a hs => ?_
     refine qsk 1 [0, 1, 2] hs fun a hs => ?_
     refine Vk.seq fun K600 hK600 => ?_
     refine qse 3 [(0, pp b_248), (1, vi 2), (2, vi 0), (9, .bool false)] hs fun a hs => ?_
     refine qcf hs ?_
     refine wp_skip ?_
     refine hK600 _ _ ?_
     clear hK600
     refine Vk.seq fun K602 hK602 => ?_
     obtain ⟨C_603, hC_603⟩ := qC hs.own.drop
     refine qdr 33 κ C_603 hs fun w hs hqC_603 => ?_
     have hcl := qO hC_603 hs.own.drop
     refine qdp (fuel := 8) [0, 1, 2, 4, 5, 6, 7, 9, 10, 11, 12, 14, 15, 16, 17, 18, 19, 20, 23, 24, 25, 26, 27, 28, 29] hs hcl hqC_603 fun a hs => ?_
     refine qdl 3 2 (cp b_x0) hs hcl hqC_603 hC_603 rfl fun a hs => ?_
     refine qdl 8 2 (cp b_x0) hs hcl hqC_603 hC_603 rfl fun a hs => ?_
     refine qdl 21 2 (ci v_356.1) hs hcl hqC_603 hC_603 rfl fun a hs => ?_
     refine qdl 30 2 (ci v_426.1) hs hcl hqC_603 hC_603 rfl fun a hs => ?_
     refine Vk.dOnly (i := 13) (by kernel_rfl) (Vk.call (some 27) 139 #[pp b_248, vi 0, vi 2] hs (by kernel_rfl) (by kernel_rfl) (by kernel_rfl) ?_)
     refine Vk.enterI [(0, pp b_248), (1, vi 0), (2, vi 2)] Tryz.func139 rfl Tryz.ntmps139 (by kernel_rfl) (Nat.le_of_ble_eq_true (by kernel_rfl)) hs.own fun KR604 hKR604 hKP604 a hs => ?_
     refine qsk 1 [0, 1, 2] hs fun a hs => ?_
     refine qsr fun K606 hK606 => ?_
     refine qpu 3 hs fun a hs => ?_
     refine qld 3 (C.map (some b_247)) hs rfl fun a hs => ?_
     refine qpu 7 hs fun a hs => ?_
     refine qva (vi v_277.1) (op := (.lookup 143 (.tmp 10) (.tmp 17) false)) hs (fun o ho => run_lookup (b := b_247) (key := .agg (vals [ci 0, ci 2])) 4 rfl ho (by kernel_rfl) (by kernel_rfl) (by kernel_rfl) _ hs.own) fun a hs => ?_
     refine qpe 1 [(6, vi v_277.1)] hs fun a hs => hK606 _ _ ?_
     clear hK606
     refine wp_ret ?_
     refine hKP604 _ _ ?_
     refine hKR604 _ _ ?_
     refine Vk.ret1 (P := Tryz.prog) (fn := Tryz.f139) (vi v_277.1) hs rfl (by kernel_rfl) ⟨_, _, _, rfl, hs.own, fun a hs => ?_⟩
     replace hcl := qO hC_603 hs.own.drop
     refine ⟨fun _ => hcl, ?_⟩
     obtain ⟨v_609, h_608, hm⟩ := bind_t hm
     refine qdc 22 (wire_Machine_Two.ok _ _ _ _ _ _ _ h_608 _ _ _ b_x0 hs.own) hs fun w a hs => ?_
     replace hcl := qO hC_603 hs.own.drop
     refine ⟨fun _ => hcl, ?_⟩
     obtain ⟨v_612, h_611, hm⟩ := bind_t hm
     refine qdc 31 (wire_Machine_Two.ok _ _ _ _ _ _ _ h_611 _ _ _ b_x0 hs.own) hs fun w a hs => ?_
     replace hcl := qO hC_603 hs.own.drop
     refine ⟨fun _ => hcl, ?_⟩
     refine qdp (fuel := 0) [32] hs hcl hqC_603 fun a hs => ?_
     replace hs := hs.pick [6] (L' := [(6, vi v_612.1)]) (by kernel_rfl)
     refine Vk.dDone (by kernel_rfl) ?_
     refine hK602 _ _ ?_
     clear hK602
     refine wp_ret ?_
     refine hKP598 _ _ ?_
     refine hKR598 _ _ ?_
     refine Vk.ret1 (P := Tryz.prog) (fn := Tryz.f133) (vi v_612.1) hs rfl (by kernel_rfl) ⟨_, _, _, rfl, hs.own, fun a hs => ?_⟩
     replace hcl := qO hC_597 hs.own.drop
     refine ⟨fun _ => hcl, ?_⟩
     obtain ⟨v_615, h_614, hm⟩ := bind_t hm
     refine qdc 14 (wire_Machine_Two.ok _ _ _ _ _ _ _ h_614 _ _ _ b_x0 hs.own) hs fun w a hs => ?_
     replace hcl := qO hC_597 hs.own.drop
     refine ⟨fun _ => hcl, ?_⟩
     refine qdp (fuel := 1) [16] hs hcl hqC_597 fun a hs => ?_
     refine qsd 17 1 2 (ci v_615.1) hs rfl fun a w hs => ?_
     refine ⟨fun h => absurd h (by decide), ?_⟩
     replace hs := hs.pick [0, 1, 4, 5, 6, 7, 16, 17, 31, 32] (L' := [(0, pp b_248), (1, .func (.func 133) #[pp b_248] #[]), (4, pp b_463), (5, pp b_465), (6, vi 3), (7, vi 2), (16, vi 3), (17, vi 2), (31, vi 3), (32, vi 0)]) (by kernel_rfl)
     refine Vk.dDone (by kernel_rfl) ?_
     refine hK594 _ _ ?_
     clear hK594
     refine Vk.region ?_
     refine qpk 2 [0, 1, 4, 5, 6, 7, 16, 17, 31, 32] hs fun a hs => hKL591 _ _ ?_
     clear hKL591
     refine Vk.unroll fun KL616 hKL616 => ?_
     refine qsk 1 [0, 1, 4, 5, 6, 7, 16, 17, 31, 32, 33] hs fun a hs => ?_
     refine qck hs ?_
     refine Vk.seq fun K619 hK619 => ?_
     refine wp_block ?_
     refine qsk 2 [0, 1, 4, 5, 6, 7, 8, 16, 17, 31, 32] hs fun a hs => ?_
     refine qsk 3 [0, 1, 4, 5, 6, 7, 8, 16, 17, 31, 32, 37] hs fun a hs => ?_
     refine qct hs ?_
     obtain ⟨C_622, hC_622⟩ := qC hs.own.drop
     refine qdr 17 κ C_622 hs fun w hs hqC_622 => ?_
     have hcl := qO hC_622 hs.own.drop
     refine qdp (fuel := 6) [0, 1, 2, 3, 5, 6, 7, 8, 10, 11, 12, 15] hs hcl hqC_622 fun a hs => ?_
     refine qdl 4 2 (cp b_x0) hs hcl hqC_622 hC_622 rfl fun a hs => ?_
     refine qdl 9 0 (ci v_615.1) hs hcl hqC_622 hC_622 rfl fun a hs => ?_
     refine Vk.dOnly (i := 13) (by kernel_rfl) (Vk.call (some 51) 133 #[pp b_248, vi 2, vi 1] hs (by kernel_rfl) (by kernel_rfl) (by kernel_rfl) ?_)
     refine Vk.enterI [(0, pp b_248), (1, vi 2), (2, vi 1)] Tryz.func133 rfl Tryz.ntmps133 (by kernel_rfl) (Nat.le_of_ble_eq_true (by kernel_rfl)) hs.own fun KR623 hKR623 hKP623 a hs => ?_
     refine qsk 1 [0, 1, 2] hs fun a hs => ?_
     refine Vk.seq fun K625 hK625 => ?_
     refine qse 3 [(0, pp b_248), (1, vi 2), (2, vi 1), (9, .bool false)] hs fun a hs => ?_
     refine qcf hs ?_
     refine wp_skip ?_
     refine hK625 _ _ ?_
     clear hK625
     refine Vk.seq fun K627 hK627 => ?_
     obtain ⟨C_628, hC_628⟩ := qC hs.own.drop
     refine qdr 33 κ C_628 hs fun w hs hqC_628 => ?_
     have hcl := qO hC_628 hs.own.drop
     refine qdp (fuel := 8) [0, 1, 2, 4, 5, 6, 7, 9, 10, 11, 12, 14, 15, 16, 17, 18, 19, 20, 23, 24, 25, 26, 27, 28, 29] hs hcl hqC_628 fun a hs => ?_
     refine qdl 3 2 (cp b_x0) hs hcl hqC_628 hC_628 rfl fun a hs => ?_
     refine qdl 8 2 (cp b_x0) hs hcl hqC_628 hC_628 rfl fun a hs => ?_
     refine qdl 21 2 (ci v_404.1) hs hcl hqC_628 hC_628 rfl fun a hs => ?_
     refine qdl 30 2 (ci v_439.1) hs hcl hqC_628 hC_628 rfl fun a hs => ?_
     refine Vk.dOnly (i := 13) (by kernel_rfl) (Vk.call (some 27) 139 #[pp b_248, vi 1, vi 2] hs (by kernel_rfl) (by kernel_rfl) (by kernel_rfl) ?_)
     refine Vk.enterI [(0, pp b_248), (1, vi 1), (2, vi 2)] Tryz.func139 rfl Tryz.ntmps139 (by kernel_rfl) (Nat.le_of_ble_eq_true (by kernel_rfl)) hs.own fun KR629 hKR629 hKP629 a hs => ?_
     refine qsk 1 [0, 1, 2] hs fun a hs => ?_
     refine qsr fun K631 hK631 => ?_
     refine qpu 3 hs fun a hs => ?_
     refine qld 3 (C.map (some b_247)) hs rfl fun a hs => ?_
     refine qpu 7 hs fun a hs => ?_
     refine qva (vi v_294.1) (op := (.lookup 143 (.tmp 10) (.tmp 17) false)) hs (fun o ho => run_lookup (b := b_247) (key := .agg (vals [ci 1, ci 2])) 4 rfl ho (by kernel_rfl) (by kernel_rfl) (by kernel_rfl) _ hs.own) fun a hs => ?_
     refine qpe 1 [(6, vi v_294.1)] hs fun a hs => hK631 _ _ ?_
     clear hK631
     refine wp_ret ?_
     refine hKP629 _ _ ?_
     refine hKR629 _ _ ?_
     refine Vk.ret1 (P := Tryz.prog) (fn := Tryz.f139) (vi v_294.1) hs rfl (by kernel_rfl) ⟨_, _, _, rfl, hs.own, fun a hs => ?_⟩
     replace hcl := qO hC_628 hs.own.drop
     refine ⟨fun _ => hcl, ?_⟩
     obtain ⟨v_634, h_633, hm⟩ := bind_t hm
     refine qdc 22 (wire_Machine_Two.ok _ _ _ _ _ _ _ h_633 _ _ _ b_x0 hs.own) hs fun w a hs => ?_
     replace hcl := qO hC_628 hs.own.drop
     refine ⟨fun _ => hcl, ?_⟩
     obtain ⟨v_637, h_636, hm⟩ := bind_t hm
     refine qdc 31 (wire_Machine_Two.ok _ _ _ _ _ _ _ h_636 _ _ _ b_x0 hs.own) hs fun w a hs => ?_
     replace hcl := qO hC_628 hs.own.drop
     refine ⟨fun _ => hcl, ?_⟩
     refine qdp (fuel := 0) [32] hs hcl hqC_628 fun a hs => ?_
     replace hs := hs.pick [6] (L' := [(6, vi v_637.1)]) (by kernel_rfl)
     refine Vk.dDone (by kernel_rfl) ?_
     refine hK627 _ _ ?_
     clear hK627
     refine wp_ret ?_
     refine hKP623 _ _ ?_
     refine hKR623 _ _ ?_
     refine Vk.ret1 (P := Tryz.prog) (fn := Tryz.f133) (vi v_637.1) hs rfl (by kernel_rfl) ⟨_, _, _, rfl, hs.own, fun a hs => ?_⟩
     replace hcl := qO hC_622 hs.own.drop
     refine ⟨fun _ => hcl, ?_⟩
     obtain ⟨v_640, h_639, hm⟩ := bind_t hm
     refine qdc 14 (wire_Machine_Two.ok _ _ _ _ _ _ _ h_639 _ _ _ b_x0 hs.own) hs fun w a hs => ?_
     replace hcl := qO hC_622 hs.own.drop
     refine ⟨fun _ => hcl, ?_⟩
     refine qdp (fuel := 1) [16] hs hcl hqC_622 fun a hs => ?_
     refine qsd 17 1 2 (ci v_640.1) hs rfl fun a w hs => ?_
     refine ⟨fun h => absurd h (by decide), ?_⟩
     replace hs := hs.pick [0, 1, 4, 5, 6, 7, 16, 17, 31, 32] (L' := [(0, pp b_248), (1, .func (.func 133) #[pp b_248] #[]), (4, pp b_463), (5, pp b_465), (6, vi 3), (7, vi 2), (16, vi 3), (17, vi 2), (31, vi 3), (32, vi 1)]) (by kernel_rfl)
     refine Vk.dDone (by kernel_rfl) ?_
     refine hK619 _ _ ?_
     clear hK619
     refine Vk.region ?_
     refine qpk 2 [0, 1, 4, 5, 6, 7, 16, 17, 31, 32] hs fun a hs => hKL616 _ _ ?_
     clear hKL616
     refine Vk.unroll fun KL641 hKL641 => ?_
     refine qsk 1 [0, 1, 4, 5, 6, 7, 16, 17, 31, 32, 33] hs fun a hs => ?_
     refine qck hs ?_
     refine Vk.seq fun K644 hK644 => ?_
     refine wp_block ?_
     refine qsk 2 [0, 1, 4, 5, 6, 7, 8, 16, 17, 31, 32] hs fun a hs => ?_
     refine qsk 3 [0, 1, 4, 5, 6, 7, 8, 16, 17, 31, 32, 37] hs fun a hs => ?_
     refine qcf hs ?_
     refine wp_skip ?_
     refine hK644 _ _ ?_
     clear hK644
     refine Vk.region ?_
     refine qpk 2 [0, 1, 4, 5, 6, 7, 16, 17, 31, 32] hs fun a hs => hKL641 _ _ ?_
     clear hKL641
     refine Vk.unroll fun KL647 hKL647 => ?_
     refine qse 1 [(0, pp b_248), (1, .func (.func 133) #[pp b_248] #[]), (4, pp b_463), (5, pp b_465), (6, vi 3), (7, vi 2), (16, vi 3), (17, vi 2), (31, vi 3), (32, vi 3), (33, .bool false)] hs fun a hs => ?_
     refine Vk.seq fun K649 hK649 => ?_
     refine qcf hs ?_
     refine wp_exit ?_
     refine hK587 _ _ ?_
     clear hK587
     refine Vk.region ?_
     refine qpk 2 [0, 1, 4, 5, 6, 16, 17] hs fun a hs => hKL584 _ _ ?_
     clear hKL584
     refine Vk.unroll fun KL650 hKL650 => ?_
     refine qsk 1 [0, 1, 4, 5, 6, 16, 17, 18] hs fun a hs => ?_
     refine Vk.seq fun K652 hK652 => ?_
     refine qcf hs ?_
     refine wp_exit ?_
     refine hK471 _ _ ?_
     clear hK471
     refine qsr fun K653 hK653 => ?_
     refine qln 1 ([ci v_521.1, ci v_580.1, ci v_640.1]) hs rfl fun a hs => ?_
     refine qsa 2 [ci v_521.1, ci v_580.1, ci v_640.1] hs rfl fun a w hs => ?_
     refine qpe 0 [(4, pp b_463)] hs fun a hs => hK653 _ _ ?_
     clear hK653
     refine wp_ret ?_
     refine hKP461 _ _ ?_
     refine hKR461 _ _ ?_
     refine Vk.retC (P := Tryz.prog) (fn := Tryz.f131) [ci v_521.1, ci v_580.1, ci v_640.1] hs rfl (by kernel_rfl) (sz := 3) (by kernel_rfl) rfl (CellsAt.all 2 rfl) ⟨_, _, _, rfl, hs.own, fun a hs => ?_⟩
     refine qal 35 [ci 0, ci 0, ci 0] 8 hs fun b_654 w a hs => ?_
     refine qsa 0 [ci v_521.1, ci v_580.1, ci v_640.1] hs rfl fun a w hs => ?_
     refine qpk 0 [0, 6, 8] hs fun a hs => hK460 _ _ ?_
     clear hK460
     refine qsr fun K655 hK655 => ?_
     refine qpu 1 hs fun a hs => ?_
     obtain ⟨v_658, h_657, hm⟩ := bind_t hm
     refine qcl (wire_Machine_End.ok _ _ _ h_657 _ _ _ b_x0 hs.own.f1) hs fun w a hs => ?_
     refine qpe 0 [(6, pp b_4), (8, pp b_654)] hs fun a hs => hK655 _ _ ?_
     clear hK655
     refine qsr fun K659 hK659 => ?_
     refine qln 1 ([ci v_521.1, ci v_580.1, ci v_640.1]) hs rfl fun a hs => ?_
     refine qsa 8 [ci v_521.1, ci v_580.1, ci v_640.1] hs rfl fun a w hs => ?_
     refine qpe 0 [(6, pp b_4)] hs fun a hs => hK659 _ _ ?_
     clear hK659
     refine wp_ret ?_
     exact Vk.retC [ci v_521.1, ci v_580.1, ci v_640.1] hs rfl (by kernel_rfl) (sz := 3) (by kernel_rfl) rfl (CellsAt.all 8 rfl) (hRR ▸ by cases hm; exact ⟨rfl, (hs.own.too [0] 11)⟩)
    ·replace hm := bif_f hm hb
     cases hm
   ·replace hm := bif_f hm hb
    cases hm
  ·replace hm := bif_f hm hb
   cases hm


abbrev times_By.R (κ : Ctx) (S : List HP) (x0 : Twire_Machine) (x1 : Int) (x2 : Cells) (x3 : Cells) (b_x0 : Nat) (r : (Cells × Twire_Machine)) : Ending → World → Prop := fun e w' => e = .returned (.agg (vals r.1)) ∧ Own κ w' (Twire_Machine.own b_x0 r.2 :: S)
def times_By.m (k : Nat) (x0 : Twire_Machine) (x1 : Int) (x2 : Cells) (x3 : Cells) : Option (Cells × Twire_Machine) := (bif x1 == 2 then (if x2.length = 3 then (if x3.length = 3 then (times_Dom.m k x0 x2 x3).bind fun v_12 => (if v_12.1.length = 3 then some (v_12.1, v_12.2) else none) else none) else none) else (if x2.length = 3 then (if x3.length = 3 then (times_Isw.m k x0 x2 x3).bind fun v_19 => (if v_19.1.length = 3 then some (v_19.1, v_19.2) else none) else none) else none))

set_option maxRecDepth 100000 in
set_option maxHeartbeats 4000000 in
theorem times_By.ok (k : Nat) (x0 : Twire_Machine) (x1 : Int) (x2 : Cells) (x3 : Cells) (r : (Cells × Twire_Machine)) (hm : times_By.m k x0 x1 x2 x3 = some r) (κ : Ctx) (w : World) (S : List HP) (b_x0 : Nat) (ho : Own κ w (Twire_Machine.own b_x0 x0 :: S)) :
  Calls Tryz.prog 85 #[pp b_x0, vi x1, .agg (vals x2), .agg (vals x3)] w (times_By.R κ S x0 x1 x2 x3 b_x0 r) := by
 unfold times_By.m at hm
 generalize hRR : times_By.R κ S x0 x1 x2 x3 b_x0 r = RR
 refine qen [(0, pp b_x0), (1, vi x1), (2, .agg (vals x2)), (3, .agg (vals x3))] Tryz.func85 Tryz.ntmps85 ho fun a hs => ?_
 refine qsr fun K1 hK1 => ?_
 refine qbx 2 35 x2 6 hs fun b_2 w a hs => ?_
 refine qbx 3 35 x3 7 hs fun b_3 w a hs => ?_
 refine qal 35 [ci 0, ci 0, ci 0] 8 hs fun b_4 w a hs => ?_
 refine qpk 0 [0, 1, 6, 7, 8] hs fun a hs => hK1 _ _ ?_
 clear hK1
 refine Vk.seq fun K5 hK5 => ?_
 refine qsk 2 [0, 6, 7, 8, 10] hs fun a hs => ?_
 refine qcs (x1 == 2) hs (fun hb => ?_) fun hb => ?_
 ·replace hm := bif_t hm hb
  refine qsr fun K7 hK7 => ?_
  refine qpu 1 hs fun a hs => ?_
  obtain ⟨h_8, hm⟩ := ite_t hm
  refine qlw 2 hs rfl h_8 fun a hs => ?_
  obtain ⟨h_9, hm⟩ := ite_t hm
  refine qlw 1 hs rfl h_9 fun a hs => ?_
  obtain ⟨v_12, h_11, hm⟩ := bind_t hm
  refine qcl (times_Dom.ok _ _ _ _ _ h_11 _ _ _ b_x0 hs.own.f3) hs fun w a hs => ?_
  obtain ⟨h_13, hm⟩ := ite_t hm
  refine qsb 1 v_12.1 hs rfl h_13 rfl fun a w hs => ?_
  refine qpe 0 [(8, pp b_4)] hs fun a hs => hK7 _ _ ?_
  clear hK7
  refine wp_ret ?_
  exact Vk.retC v_12.1 hs rfl (by kernel_rfl) (sz := 3) (by kernel_rfl) h_13 (CellsAt.all 1 rfl) (hRR ▸ by cases hm; exact ⟨rfl, (hs.own.too [0] 4)⟩)
 ·replace hm := bif_f hm hb
  refine wp_skip ?_
  refine hK5 _ _ ?_
  clear hK5
  refine qsr fun K14 hK14 => ?_
  refine qpu 1 hs fun a hs => ?_
  obtain ⟨h_15, hm⟩ := ite_t hm
  refine qlw 2 hs rfl h_15 fun a hs => ?_
  obtain ⟨h_16, hm⟩ := ite_t hm
  refine qlw 1 hs rfl h_16 fun a hs => ?_
  obtain ⟨v_19, h_18, hm⟩ := bind_t hm
  refine qcl (times_Isw.ok _ _ _ _ _ h_18 _ _ _ b_x0 hs.own.f3) hs fun w a hs => ?_
  obtain ⟨h_20, hm⟩ := ite_t hm
  refine qsb 1 v_19.1 hs rfl h_20 rfl fun a w hs => ?_
  refine qpe 0 [(8, pp b_4)] hs fun a hs => hK14 _ _ ?_
  clear hK14
  refine wp_ret ?_
  exact Vk.retC v_19.1 hs rfl (by kernel_rfl) (sz := 3) (by kernel_rfl) h_20 (CellsAt.all 1 rfl) (hRR ▸ by cases hm; exact ⟨rfl, (hs.own.too [0] 4)⟩)


abbrev both_And.R (κ : Ctx) (S : List HP) (x0 : Twire_Machine) (x1 : Int) (x2 : Cells) (x3 : Cells) (b_x0 : Nat) (r : (Cells × Twire_Machine)) : Ending → World → Prop := fun e w' => e = .returned (.agg (vals r.1)) ∧ Own κ w' (Twire_Machine.own b_x0 r.2 :: S)
def both_And.m (k : Nat) (x0 : Twire_Machine) (x1 : Int) (x2 : Cells) (x3 : Cells) : Option (Cells × Twire_Machine) := (if x3.length = 3 then (fresh_Full.m k x0 x3).bind fun v_9 => (if v_9.1.length = 3 then (if x2.length = 3 then (times_By.m k v_9.2 x1 x2 v_9.1).bind fun v_15 => (if v_15.1.length = 3 then some (v_15.1, v_15.2) else none) else none) else none) else none)

set_option maxRecDepth 100000 in
set_option maxHeartbeats 4000000 in
theorem both_And.ok (k : Nat) (x0 : Twire_Machine) (x1 : Int) (x2 : Cells) (x3 : Cells) (r : (Cells × Twire_Machine)) (hm : both_And.m k x0 x1 x2 x3 = some r) (κ : Ctx) (w : World) (S : List HP) (b_x0 : Nat) (ho : Own κ w (Twire_Machine.own b_x0 x0 :: S)) :
  Calls Tryz.prog 31 #[pp b_x0, vi x1, .agg (vals x2), .agg (vals x3)] w (both_And.R κ S x0 x1 x2 x3 b_x0 r) := by
 unfold both_And.m at hm
 generalize hRR : both_And.R κ S x0 x1 x2 x3 b_x0 r = RR
 refine qen [(0, pp b_x0), (1, vi x1), (2, .agg (vals x2)), (3, .agg (vals x3))] Tryz.func31 Tryz.ntmps31 ho fun a hs => ?_
 refine qsr fun K1 hK1 => ?_
 refine qbx 2 35 x2 6 hs fun b_2 w a hs => ?_
 refine qbx 3 35 x3 7 hs fun b_3 w a hs => ?_
 refine qal 35 [ci 0, ci 0, ci 0] 8 hs fun b_4 w a hs => ?_
 refine qpk 0 [0, 1, 6, 7, 8] hs fun a hs => hK1 _ _ ?_
 clear hK1
 refine qsr fun K5 hK5 => ?_
 refine qpu 1 hs fun a hs => ?_
 obtain ⟨h_6, hm⟩ := ite_t hm
 refine qlw 1 hs rfl h_6 fun a hs => ?_
 obtain ⟨v_9, h_8, hm⟩ := bind_t hm
 refine qcl (fresh_Full.ok _ _ _ _ h_8 _ _ _ b_x0 hs.own.f3) hs fun w a hs => ?_
 obtain ⟨h_10, hm⟩ := ite_t hm
 refine qsb 2 v_9.1 hs rfl h_10 h_6 fun a w hs => ?_
 refine qpk 0 [0, 1, 6, 7, 8] hs fun a hs => hK5 _ _ ?_
 clear hK5
 refine qsr fun K11 hK11 => ?_
 refine qpu 2 hs fun a hs => ?_
 obtain ⟨h_12, hm⟩ := ite_t hm
 refine qlw 3 hs rfl h_12 fun a hs => ?_
 refine qlw 2 hs rfl h_10 fun a hs => ?_
 obtain ⟨v_15, h_14, hm⟩ := bind_t hm
 refine qcl (times_By.ok _ _ _ _ _ _ h_14 _ _ _ b_x0 hs.own) hs fun w a hs => ?_
 obtain ⟨h_16, hm⟩ := ite_t hm
 refine qsb 1 v_15.1 hs rfl h_16 rfl fun a w hs => ?_
 refine qpe 0 [(8, pp b_4)] hs fun a hs => hK11 _ _ ?_
 clear hK11
 refine wp_ret ?_
 exact Vk.retC v_15.1 hs rfl (by kernel_rfl) (sz := 3) (by kernel_rfl) h_16 (CellsAt.all 1 rfl) (hRR ▸ by cases hm; exact ⟨rfl, (hs.own.too [0] 4)⟩)


abbrev visorref19_M_Begin.R (κ : Ctx) (S : List HP) (x0 : Tvisorref19_M) (x1 : Int) (b_x0 : Nat) (r : Tvisorref19_M) : Ending → World → Prop := fun e w' => e = .returned (.tuple #[]) ∧ Own κ w' (Tvisorref19_M.own κ b_x0 r :: S)
def visorref19_M_Begin.m (k : Nat) (x0 : Tvisorref19_M) (x1 : Int) : Option Tvisorref19_M := (bif x0.e != 0 then some x0 else (bif ((x0.kind != 0) || (decide (x1 < 1))) || (decide (x1 > 3)) then some (⟨x0.n, x0.most, x0.words, x0.draws, x0.fromF, x0.skip, x0.kind, 1, x0.ops, x0.blocks, x0.val, x0.tape, x0.dry⟩ : Tvisorref19_M) else (visorref19_M_Len.m k (⟨x0.n, x0.most, x0.words, x0.draws, x0.fromF, x0.skip, x1, x0.e, x0.ops, x0.blocks, x0.val, x0.tape, x0.dry⟩ : Tvisorref19_M)).bind fun v_16 => some (⟨x0.n, x0.most, x0.words, x0.draws, v_16, x0.skip, x1, x0.e, x0.ops, x0.blocks, x0.val, x0.tape, x0.dry⟩ : Tvisorref19_M)))

set_option maxRecDepth 100000 in
set_option maxHeartbeats 4000000 in
theorem visorref19_M_Begin.ok (k : Nat) (x0 : Tvisorref19_M) (x1 : Int) (r : Tvisorref19_M) (hm : visorref19_M_Begin.m k x0 x1 = some r) (κ : Ctx) (w : World) (S : List HP) (b_x0 : Nat) (ho : Own κ w (Tvisorref19_M.own κ b_x0 x0 :: S)) :
  Calls Tryz.prog 99 #[pp b_x0, vi x1] w (visorref19_M_Begin.R κ S x0 x1 b_x0 r) := by
 unfold visorref19_M_Begin.m at hm
 generalize hRR : visorref19_M_Begin.R κ S x0 x1 b_x0 r = RR
 refine qen [(0, pp b_x0), (1, vi x1)] Tryz.func99 Tryz.ntmps99 ho fun a hs => ?_
 refine Vk.seq fun K1 hK1 => ?_
 refine qsr fun K2 hK2 => ?_
 refine qpu 3 hs fun a hs => ?_
 obtain ⟨g_3, hs⟩ := hs.unbag 0 rfl
 refine qld 0 (ci x0.e) hs rfl fun a hs => ?_
 refine qpk 1 [0, 1, 8] hs fun a hs => hK2 _ _ ?_
 clear hK2
 refine qcs (x0.e != 0) hs (fun hb => ?_) fun hb => ?_
 ·replace hm := bif_t hm hb
  refine wp_ret ?_
  replace hs := hs.bagG (l := Tvisorref19_M.parts κ b_x0 x0 g_3) (S' := S) hs.own
  replace hs := hs.toEx (Tvisorref19_M.parts κ b_x0 x0) g_3 0 rfl
  exact qr0 hs rfl hRR (by cases hm; exact ⟨rfl, hs.own⟩)
 ·replace hm := bif_f hm hb
  refine wp_skip ?_
  refine hK1 _ _ ?_
  clear hK1
  refine Vk.seq fun K8 hK8 => ?_
  refine qsr fun K9 hK9 => ?_
  refine qpu 3 hs fun a hs => ?_
  refine qld 0 (ci x0.kind) hs rfl fun a hs => ?_
  refine qpu 2 hs fun a hs => ?_
  refine qsc 14 3 hs fun a hs => ?_
  refine qpu 1 hs fun a hs => ?_
  refine qsc 18 3 hs fun a hs => ?_
  refine qpk 0 [0, 1, 21] hs fun a hs => hK9 _ _ ?_
  clear hK9
  refine qcs (((x0.kind != 0) || (decide (x1 < 1))) || (decide (x1 > 3))) hs (fun hb => ?_) fun hb => ?_
  ·replace hm := bif_t hm hb
   refine qsr fun K12 hK12 => ?_
   refine qpu 3 hs fun a hs => ?_
   refine qst 0 7 (ci 1) hs rfl fun a w hs => ?_
   refine qpe 0 [] hs fun a hs => hK12 _ _ ?_
   clear hK12
   refine wp_ret ?_
   replace hs := hs.bagG (l := Tvisorref19_M.parts κ b_x0 (⟨x0.n, x0.most, x0.words, x0.draws, x0.fromF, x0.skip, x0.kind, 1, x0.ops, x0.blocks, x0.val, x0.tape, x0.dry⟩ : Tvisorref19_M) g_3) (S' := S) hs.own
   replace hs := hs.toEx (Tvisorref19_M.parts κ b_x0 (⟨x0.n, x0.most, x0.words, x0.draws, x0.fromF, x0.skip, x0.kind, 1, x0.ops, x0.blocks, x0.val, x0.tape, x0.dry⟩ : Tvisorref19_M)) g_3 0 rfl
   exact qr0 hs rfl hRR (by cases hm; exact ⟨rfl, hs.own⟩)
  ·replace hm := bif_f hm hb
   refine wp_skip ?_
   refine hK8 _ _ ?_
   clear hK8
   refine qsr fun K13 hK13 => ?_
   refine qpu 4 hs fun a hs => ?_
   refine qst 0 6 (ci x1) hs rfl fun a w hs => ?_
   refine qpe 0 [(0, pp b_x0)] hs fun a hs => hK13 _ _ ?_
   clear hK13
   refine Vk.region ?_
   refine qpu 2 hs fun a hs => ?_
   replace hs := hs.bagG (l := Tvisorref19_M.parts κ b_x0 (⟨x0.n, x0.most, x0.words, x0.draws, x0.fromF, x0.skip, x1, x0.e, x0.ops, x0.blocks, x0.val, x0.tape, x0.dry⟩ : Tvisorref19_M) g_3) (S' := S) hs.own
   obtain ⟨v_16, h_15, hm⟩ := bind_t hm
   refine qcl (visorref19_M_Len.ok _ _ _ h_15 _ _ _ b_x0 g_3 hs.own) hs fun w a hs => ?_
   replace hs := hs.unbagAt 0 rfl
   refine qpu 2 hs fun a hs => ?_
   refine qst 0 4 (ci v_16) hs rfl fun a w hs => ?_
   refine qpe 0 [] hs fun a hs => ?_
   replace hs := hs.bagG (l := Tvisorref19_M.parts κ b_x0 (⟨x0.n, x0.most, x0.words, x0.draws, v_16, x0.skip, x1, x0.e, x0.ops, x0.blocks, x0.val, x0.tape, x0.dry⟩ : Tvisorref19_M) g_3) (S' := S) hs.own
   replace hs := hs.toEx (Tvisorref19_M.parts κ b_x0 (⟨x0.n, x0.most, x0.words, x0.draws, v_16, x0.skip, x1, x0.e, x0.ops, x0.blocks, x0.val, x0.tape, x0.dry⟩ : Tvisorref19_M)) g_3 0 rfl
   exact qe0 hs rfl hRR (by cases hm; exact ⟨rfl, hs.own⟩)


def visorref19_M_End.j1 (k : Nat) (p_26 : Tvisorref19_M) : Option (Tvisorref19_M) := some (⟨p_26.n, p_26.most, p_26.words, p_26.draws, p_26.fromF, p_26.skip, 0, p_26.e, p_26.ops, p_26.blocks, p_26.val, p_26.tape, p_26.dry⟩ : Tvisorref19_M)
abbrev visorref19_M_End.R (κ : Ctx) (S : List HP) (x0 : Tvisorref19_M) (b_x0 : Nat) (r : Tvisorref19_M) : Ending → World → Prop := fun e w' => e = .returned (.tuple #[]) ∧ Own κ w' (Tvisorref19_M.own κ b_x0 r :: S)
def visorref19_M_End.m (k : Nat) (x0 : Tvisorref19_M) : Option Tvisorref19_M := (bif x0.e != 0 then some x0 else (bif x0.kind == 0 then some (⟨x0.n, x0.most, x0.words, x0.draws, x0.fromF, x0.skip, x0.kind, 1, x0.ops, x0.blocks, x0.val, x0.tape, x0.dry⟩ : Tvisorref19_M) else (visorref19_M_Len.m k x0).bind fun v_16 => (bif decide (v_16 > x0.fromF) then (visorref19_M_Len.m k x0).bind fun v_20 => (if (x0.blocks.length + ([(⟨x0.kind, x0.fromF, v_20⟩ : Tapi_Span)] : List Tapi_Span).length) * 24 ≤ 140737488355328 then visorref19_M_End.j1 k (⟨x0.n, x0.most, x0.words, x0.draws, x0.fromF, x0.skip, x0.kind, x0.e, x0.ops, x0.blocks ++ ([(⟨x0.kind, x0.fromF, v_20⟩ : Tapi_Span)] : List Tapi_Span), x0.val, x0.tape, x0.dry⟩ : Tvisorref19_M) else none) else visorref19_M_End.j1 k x0)))

set_option maxRecDepth 100000 in
set_option maxHeartbeats 4000000 in
theorem visorref19_M_End.ok (k : Nat) (x0 : Tvisorref19_M) (r : Tvisorref19_M) (hm : visorref19_M_End.m k x0 = some r) (κ : Ctx) (w : World) (S : List HP) (b_x0 : Nat) (ho : Own κ w (Tvisorref19_M.own κ b_x0 x0 :: S)) :
  Calls Tryz.prog 100 #[pp b_x0] w (visorref19_M_End.R κ S x0 b_x0 r) := by
 unfold visorref19_M_End.m at hm
 generalize hRR : visorref19_M_End.R κ S x0 b_x0 r = RR
 refine qen [(0, pp b_x0)] Tryz.func100 Tryz.ntmps100 ho fun a hs => ?_
 refine Vk.seq fun K1 hK1 => ?_
 refine qsr fun K2 hK2 => ?_
 refine qpu 3 hs fun a hs => ?_
 obtain ⟨g_3, hs⟩ := hs.unbag 0 rfl
 refine qld 0 (ci x0.e) hs rfl fun a hs => ?_
 refine qpk 1 [0, 6] hs fun a hs => hK2 _ _ ?_
 clear hK2
 refine qcs (x0.e != 0) hs (fun hb => ?_) fun hb => ?_
 ·replace hm := bif_t hm hb
  refine wp_ret ?_
  replace hs := hs.bagG (l := Tvisorref19_M.parts κ b_x0 x0 g_3) (S' := S) hs.own
  replace hs := hs.toEx (Tvisorref19_M.parts κ b_x0 x0) g_3 0 rfl
  exact qr0 hs rfl hRR (by cases hm; exact ⟨rfl, hs.own⟩)
 ·replace hm := bif_f hm hb
  refine wp_skip ?_
  refine hK1 _ _ ?_
  clear hK1
  refine Vk.seq fun K8 hK8 => ?_
  refine qsr fun K9 hK9 => ?_
  refine qpu 3 hs fun a hs => ?_
  refine qld 0 (ci x0.kind) hs rfl fun a hs => ?_
  refine qpk 1 [0, 11] hs fun a hs => hK9 _ _ ?_
  clear hK9
  refine qcs (x0.kind == 0) hs (fun hb => ?_) fun hb => ?_
  ·replace hm := bif_t hm hb
   refine qsr fun K10 hK10 => ?_
   refine qpu 3 hs fun a hs => ?_
   refine qst 0 7 (ci 1) hs rfl fun a w hs => ?_
   refine qpe 0 [] hs fun a hs => hK10 _ _ ?_
   clear hK10
   refine wp_ret ?_
   replace hs := hs.bagG (l := Tvisorref19_M.parts κ b_x0 (⟨x0.n, x0.most, x0.words, x0.draws, x0.fromF, x0.skip, x0.kind, 1, x0.ops, x0.blocks, x0.val, x0.tape, x0.dry⟩ : Tvisorref19_M) g_3) (S' := S) hs.own
   replace hs := hs.toEx (Tvisorref19_M.parts κ b_x0 (⟨x0.n, x0.most, x0.words, x0.draws, x0.fromF, x0.skip, x0.kind, 1, x0.ops, x0.blocks, x0.val, x0.tape, x0.dry⟩ : Tvisorref19_M)) g_3 0 rfl
   exact qr0 hs rfl hRR (by cases hm; exact ⟨rfl, hs.own⟩)
  ·replace hm := bif_f hm hb
   refine wp_skip ?_
   refine hK8 _ _ ?_
   clear hK8
   refine Vk.seq fun K11 hK11 => ?_
   have hj11 : ∀ (p_26 : Tvisorref19_M), visorref19_M_End.j1 k p_26 = some r → ∀ (a : Act) (w : World), St 45 a w κ [(0, pp b_x0)] (Tvisorref19_M.own κ b_x0 p_26 :: S) → K11 a w := by
    intro p_26 hm a w hs
    unfold visorref19_M_End.j1 at hm
    refine hK11 _ _ ?_
    refine Vk.region ?_
    refine qpu 3 hs fun a hs => ?_
    obtain ⟨g_27, hs⟩ := hs.unbag 0 rfl
    refine qst 0 6 (ci 0) hs rfl fun a w hs => ?_
    refine qpe 0 [] hs fun a hs => ?_
    replace hs := hs.bagG (l := Tvisorref19_M.parts κ b_x0 (⟨p_26.n, p_26.most, p_26.words, p_26.draws, p_26.fromF, p_26.skip, 0, p_26.e, p_26.ops, p_26.blocks, p_26.val, p_26.tape, p_26.dry⟩ : Tvisorref19_M) g_27) (S' := S) hs.own
    replace hs := hs.toEx (Tvisorref19_M.parts κ b_x0 (⟨p_26.n, p_26.most, p_26.words, p_26.draws, p_26.fromF, p_26.skip, 0, p_26.e, p_26.ops, p_26.blocks, p_26.val, p_26.tape, p_26.dry⟩ : Tvisorref19_M)) g_27 0 rfl
    exact qe0 hs rfl hRR (by cases hm; exact ⟨rfl, hs.own⟩)
   refine Vk.seq fun K12 hK12 => ?_
   obtain ⟨C_13, hC_13⟩ := qC hs.own
   refine qdr 7 κ C_13 hs fun w hs hqC_13 => ?_
   have hcl := qO hC_13 hs.own
   refine qdp (fuel := 3) [0, 2, 3, 4] hs hcl hqC_13 fun a hs => ?_
   refine qdl 5 0 (ci x0.fromF) hs hcl hqC_13 hC_13 rfl fun a hs => ?_
   replace hs := hs.bagG (l := Tvisorref19_M.parts κ b_x0 x0 g_3) (S' := S) hs.own
   obtain ⟨v_16, h_15, hm⟩ := bind_t hm
   refine qdc 1 (visorref19_M_Len.ok _ _ _ h_15 _ _ _ b_x0 g_3 hs.own) hs fun w a hs => ?_
   replace hs := hs.unbagAt 0 rfl
   replace hcl := qO hC_13 hs.own
   refine ⟨fun _ => hcl, ?_⟩
   refine qdp (fuel := 0) [6] hs hcl hqC_13 fun a hs => ?_
   replace hs := hs.pick [0, 21] (L' := [(0, pp b_x0), (21, .bool (decide (v_16 > x0.fromF)))]) (by kernel_rfl)
   refine Vk.dDone (by kernel_rfl) ?_
   refine hK12 _ _ ?_
   clear hK12
   refine qcs (decide (v_16 > x0.fromF)) hs (fun hb => ?_) fun hb => ?_
   ·replace hm := bif_t hm hb
    obtain ⟨C_17, hC_17⟩ := qC hs.own.f2.drop
    refine qdr 18 κ C_17 hs fun w hs hqC_17 => ?_
    have hcl := qO hC_17 hs.own.f2.drop
    refine qdp (fuel := 10) [0, 1, 2, 3, 5, 6, 7, 9, 10, 11, 13] hs hcl hqC_17 fun a hs => ?_
    refine qdl 4 0 (C.slc g_3.2.2.1 x0.blocks.length g_3.2.2.2.1) hs hcl hqC_17 hC_17 rfl fun a hs => ?_
    refine qdl 8 0 (ci x0.kind) hs hcl hqC_17 hC_17 rfl fun a hs => ?_
    refine qdl 12 0 (ci x0.fromF) hs hcl hqC_17 hC_17 rfl fun a hs => ?_
    replace hs := hs.bagG (l := Tvisorref19_M.parts κ b_x0 x0 g_3) (S' := S) hs.own
    obtain ⟨v_20, h_19, hm⟩ := bind_t hm
    refine qdc 14 (visorref19_M_Len.ok _ _ _ h_19 _ _ _ b_x0 g_3 hs.own) hs fun w a hs => ?_
    replace hs := hs.unbagAt 0 rfl
    replace hcl := qO hC_17 hs.own.f2.drop
    refine ⟨fun _ => hcl, ?_⟩
    refine qdp (fuel := 5) [15] hs hcl hqC_17 fun a hs => ?_
    refine Vk.dOnly (i := 16) (by kernel_rfl) (Vk.buildOp (sz := 3) (by_ := 24) (t := 50) (e := 119) (parts := #[(0, (.tmp 37))]) (zs := vals [ci 0, ci 0, ci 0]) ([(⟨x0.kind, x0.fromF, v_20⟩ : Tapi_Span)] : List Tapi_Span) Tapi_Span.cells (some 38) hs (by kernel_rfl) (by kernel_rfl) (by kernel_rfl) (by kernel_rfl) (by decide) rfl (fun x _ => rfl) (Nat.le_of_ble_eq_true (by kernel_rfl)) (by kernel_rfl) fun A_21 w a hs => ?_)
    replace hcl := qO hC_17 hs.own.f3.drop.drop
    refine ⟨fun _ => hcl, ?_⟩
    obtain ⟨h_23, hm⟩ := ite_t hm
    refine Vk.dOnly (i := 17) (by kernel_rfl) (Vk.appendOp (x := (.tmp 26)) (y := (.tmp 38)) (e := 119) (t := 50) (by_ := 24) (sz := 3) (enc := Tapi_Span.cells) (A := g_3.2.2.1) (cap := g_3.2.2.2.1) (xs := x0.blocks) (ys := ([(⟨x0.kind, x0.fromF, v_20⟩ : Tapi_Span)] : List Tapi_Span)) (B := A_21) (c2 := 1) 3 (some 39) hs (by kernel_rfl) (by kernel_rfl) (by kernel_rfl) (by kernel_rfl) rfl (Sl.lift (fun w ho => (Own.to (S' := rowp A_21 1 119 3 Tapi_Span.cells ([(⟨x0.kind, x0.fromF, v_20⟩ : Tapi_Span)] : List Tapi_Span) :: S) ho [0] 6 (by kernel_rfl) (by kernel_rfl))) (Own.rowSl 0 (Own.to (S' := rowp A_21 1 119 3 Tapi_Span.cells ([(⟨x0.kind, x0.fromF, v_20⟩ : Tapi_Span)] : List Tapi_Span) :: S) hs.own [0] 6 (by kernel_rfl) (by kernel_rfl)) rfl)) (by kernel_rfl) (by kernel_rfl) (by decide) (by decide) h_23 fun A_24 c_25 w a hs => ?_)
    replace hcl := qO hC_17 hs.own.f3.drop.drop
    refine ⟨fun _ => hcl, ?_⟩
    refine Vk.dOnly (i := 18) (by kernel_rfl) (Vk.dPure1 [(40, pp b_x0)] hs (by kernel_rfl) fun a hs => ?_)
    refine ⟨fun h => absurd h (by decide), ?_⟩
    refine Vk.dOnly (i := 19) (by kernel_rfl) (Vk.dPure1 [(41, .pointer (some ⟨b_x0, 9, none⟩))] hs (by kernel_rfl) fun a hs => ?_)
    refine ⟨fun h => absurd h (by decide), ?_⟩
    refine qsd 20 1 9 (C.slc A_24 ((x0.blocks ++ ([(⟨x0.kind, x0.fromF, v_20⟩ : Tapi_Span)] : List Tapi_Span)).length) c_25) hs rfl fun a w hs => ?_
    refine ⟨fun h => absurd h (by decide), ?_⟩
    replace hs := hs.pick [0] (L' := [(0, pp b_x0)]) (by kernel_rfl)
    refine Vk.dDone (by kernel_rfl) ?_
    replace hs := hs.bagG (l := Tvisorref19_M.parts κ b_x0 (⟨x0.n, x0.most, x0.words, x0.draws, x0.fromF, x0.skip, x0.kind, x0.e, x0.ops, x0.blocks ++ ([(⟨x0.kind, x0.fromF, v_20⟩ : Tapi_Span)] : List Tapi_Span), x0.val, x0.tape, x0.dry⟩ : Tvisorref19_M) (g_3.1, g_3.2.1, A_24, c_25, g_3.2.2.2.2.1, g_3.2.2.2.2.2.1, g_3.2.2.2.2.2.2.1, g_3.2.2.2.2.2.2.2)) (S' := rowp A_21 1 119 3 Tapi_Span.cells ([(⟨x0.kind, x0.fromF, v_20⟩ : Tapi_Span)] : List Tapi_Span) :: S) hs.own.f5.f5.f5.f5.f5
    replace hs := hs.toEx (Tvisorref19_M.parts κ b_x0 (⟨x0.n, x0.most, x0.words, x0.draws, x0.fromF, x0.skip, x0.kind, x0.e, x0.ops, x0.blocks ++ ([(⟨x0.kind, x0.fromF, v_20⟩ : Tapi_Span)] : List Tapi_Span), x0.val, x0.tape, x0.dry⟩ : Tvisorref19_M)) (g_3.1, g_3.2.1, A_24, c_25, g_3.2.2.2.2.1, g_3.2.2.2.2.2.1, g_3.2.2.2.2.2.2.1, g_3.2.2.2.2.2.2.2) 0 rfl
    exact hj11 (⟨x0.n, x0.most, x0.words, x0.draws, x0.fromF, x0.skip, x0.kind, x0.e, x0.ops, x0.blocks ++ ([(⟨x0.kind, x0.fromF, v_20⟩ : Tapi_Span)] : List Tapi_Span), x0.val, x0.tape, x0.dry⟩ : Tvisorref19_M) hm _ _ (hs.go [0] [0] 2 (by kernel_rfl) (by kernel_rfl) (by kernel_rfl))
   ·replace hm := bif_f hm hb
    refine wp_skip ?_
    replace hs := hs.bagG (l := Tvisorref19_M.parts κ b_x0 x0 g_3) (S' := S) hs.own
    replace hs := hs.toEx (Tvisorref19_M.parts κ b_x0 x0) g_3 0 rfl
    exact hj11 x0 hm _ _ (hs.go [0] [0] 1 (by kernel_rfl) (by kernel_rfl) (by kernel_rfl))


def visorref21_Full.j3 (k : Nat) (p_119 : Tvisorref19_M) (p_120 : Cells) : Option ((Cells × Tvisorref19_M)) := (visorref19_M_End.m k p_119).bind fun v_124 => (if p_120.length = 3 then some (p_120, v_124) else none)
def visorref21_Full.j2 (k : Nat) (x1 : Cells) (v_20 : Int × Tvisorref19_M) (p_43 : Int) (p_44 : Int) (p_71 : Tvisorref19_M) (p_72 : Cells) : Option ((Cells × Tvisorref19_M)) := (getI .i64 x1 (1)).bind fun v_75 => (visorref19_Op.m k 5 1 v_75 v_20.1 0).bind fun v_78 => (visorref19_M_Do.m k p_71 v_78 0).bind fun v_81 => (if 1 < p_72.length then (bif v_81.2.n == 3 then (getI .i64 (p_72.set (1) (ci v_81.1)) (1)).bind fun v_92 => (visorref19_Op.m k 5 1 v_92 p_44 0).bind fun v_95 => (visorref19_M_Do.m k v_81.2 v_95 0).bind fun v_98 => (if 1 < (p_72.set (1) (ci v_81.1)).length then (getI .i64 x1 (2)).bind fun v_102 => (visorref19_Op.m k 5 2 v_102 p_43 0).bind fun v_105 => (visorref19_M_Do.m k v_98.2 v_105 0).bind fun v_108 => (if 2 < ((p_72.set (1) (ci v_81.1)).set (1) (ci v_98.1)).length then (getI .i64 (((p_72.set (1) (ci v_81.1)).set (1) (ci v_98.1)).set (2) (ci v_108.1)) (2)).bind fun v_111 => (visorref19_Op.m k 5 2 v_111 p_44 0).bind fun v_114 => (visorref19_M_Do.m k v_108.2 v_114 0).bind fun v_117 => (if 2 < (((p_72.set (1) (ci v_81.1)).set (1) (ci v_98.1)).set (2) (ci v_108.1)).length then visorref21_Full.j3 k v_117.2 ((((p_72.set (1) (ci v_81.1)).set (1) (ci v_98.1)).set (2) (ci v_108.1)).set (2) (ci v_117.1)) else none) else none) else none) else visorref21_Full.j3 k v_81.2 (p_72.set (1) (ci v_81.1))) else none)
def visorref21_Full.j1 (k : Nat) (x1 : Cells) (v_7 : Cells) (v_20 : Int × Tvisorref19_M) (p_42 : Tvisorref19_M) (p_43 : Int) (p_44 : Int) : Option ((Cells × Tvisorref19_M)) := (getI .i64 x1 (0)).bind fun v_47 => (visorref19_Op.m k 5 0 v_47 v_20.1 0).bind fun v_50 => (visorref19_M_Do.m k p_42 v_50 0).bind fun v_53 => (if 0 < v_7.length then (bif v_53.2.n == 3 then (getI .i64 (v_7.set (0) (ci v_53.1)) (0)).bind fun v_63 => (visorref19_Op.m k 5 0 v_63 p_43 0).bind fun v_66 => (visorref19_M_Do.m k v_53.2 v_66 0).bind fun v_69 => (if 0 < (v_7.set (0) (ci v_53.1)).length then visorref21_Full.j2 k x1 v_20 p_43 p_44 v_69.2 ((v_7.set (0) (ci v_53.1)).set (0) (ci v_69.1)) else none) else visorref21_Full.j2 k x1 v_20 p_43 p_44 v_53.2 (v_7.set (0) (ci v_53.1))) else none)
abbrev visorref21_Full.R (κ : Ctx) (S : List HP) (x0 : Tvisorref19_M) (x1 : Cells) (b_x0 : Nat) (r : (Cells × Tvisorref19_M)) : Ending → World → Prop := fun e w' => e = .returned (.agg (vals r.1)) ∧ Own κ w' (Tvisorref19_M.own κ b_x0 r.2 :: S)
def visorref21_Full.m (k : Nat) (x0 : Tvisorref19_M) (x1 : Cells) : Option (Cells × Tvisorref19_M) := (visorref20_None.m k).bind fun v_7 => (if v_7.length = 3 then (visorref19_M_Begin.m k x0 2).bind fun v_13 => (visorref19_Op.m k 1 (-1) (-1) (-1) 0).bind fun v_17 => (visorref19_M_Do.m k v_13 v_17 0).bind fun v_20 => (bif v_20.2.n == 3 then (visorref19_Op.m k 1 (-1) (-1) (-1) 0).bind fun v_32 => (visorref19_M_Do.m k v_20.2 v_32 0).bind fun v_35 => (visorref19_Op.m k 1 (-1) (-1) (-1) 0).bind fun v_38 => (visorref19_M_Do.m k v_35.2 v_38 0).bind fun v_41 => visorref21_Full.j1 k x1 v_7 v_20 v_41.2 v_35.1 v_41.1 else visorref21_Full.j1 k x1 v_7 v_20 v_20.2 v_20.1 v_20.1) else none)

set_option maxRecDepth 100000 in
set_option maxHeartbeats 4000000 in
theorem visorref21_Full.ok (k : Nat) (x0 : Tvisorref19_M) (x1 : Cells) (r : (Cells × Tvisorref19_M)) (hm : visorref21_Full.m k x0 x1 = some r) (κ : Ctx) (w : World) (S : List HP) (b_x0 : Nat) (ho : Own κ w (Tvisorref19_M.own κ b_x0 x0 :: S)) :
  Calls Tryz.prog 87 #[pp b_x0, .agg (vals x1)] w (visorref21_Full.R κ S x0 x1 b_x0 r) := by
 unfold visorref21_Full.m at hm
 generalize hRR : visorref21_Full.R κ S x0 x1 b_x0 r = RR
 refine qen [(0, pp b_x0), (1, .agg (vals x1))] Tryz.func87 Tryz.ntmps87 ho fun a hs => ?_
 refine qsr fun K1 hK1 => ?_
 refine qbx 1 35 x1 3 hs fun b_2 w a hs => ?_
 refine qal 35 [ci 0, ci 0, ci 0] 4 hs fun b_3 w a hs => ?_
 refine qpk 0 [0, 3, 4] hs fun a hs => hK1 _ _ ?_
 clear hK1
 refine qsr fun K4 hK4 => ?_
 obtain ⟨v_7, h_6, hm⟩ := bind_t hm
 refine qcl (visorref20_None.ok _ _ h_6 _ _ (pt b_3 (blk [ci 0, ci 0, ci 0] 35) :: pt b_2 (blk x1 35) :: Tvisorref19_M.own κ b_x0 x0 :: S) hs.own) hs fun w a hs => ?_
 refine qal 35 [ci 0, ci 0, ci 0] 5 hs fun b_8 w a hs => ?_
 obtain ⟨h_9, hm⟩ := ite_t hm
 refine qsb 0 v_7 hs rfl h_9 rfl fun a w hs => ?_
 refine qpk 0 [0, 3, 4, 5] hs fun a hs => hK4 _ _ ?_
 clear hK4
 refine qsr fun K10 hK10 => ?_
 refine qpu 1 hs fun a hs => ?_
 obtain ⟨v_13, h_12, hm⟩ := bind_t hm
 refine qcl (visorref19_M_Begin.ok _ _ _ _ h_12 _ _ _ b_x0 hs.own.f3) hs fun w a hs => ?_
 refine qpk 0 [0, 3, 4, 5] hs fun a hs => hK10 _ _ ?_
 clear hK10
 refine qsr fun K14 hK14 => ?_
 refine qpu 1 hs fun a hs => ?_
 obtain ⟨v_17, h_16, hm⟩ := bind_t hm
 refine qcl (visorref19_Op.ok _ _ _ _ _ _ _ h_16 _ _ (Tvisorref19_M.own κ b_x0 v_13 :: pt b_8 (blk v_7 35) :: pt b_3 (blk [ci 0, ci 0, ci 0] 35) :: pt b_2 (blk x1 35) :: S) hs.own) hs fun w a hs => ?_
 obtain ⟨v_20, h_19, hm⟩ := bind_t hm
 refine qcl (visorref19_M_Do.ok _ _ _ _ _ h_19 _ _ _ b_x0 hs.own) hs fun w a hs => ?_
 refine qpk 1 [0, 3, 4, 5, 6] hs fun a hs => hK14 _ _ ?_
 clear hK14
 refine qsk 4 [0, 3, 4, 5, 6, 7, 8] hs fun a hs => ?_
 refine Vk.seq fun K22 hK22 => ?_
 have hj22 : ∀ (p_42 : Tvisorref19_M) (p_43 : Int) (p_44 : Int), visorref21_Full.j1 k x1 v_7 v_20 p_42 p_43 p_44 = some r → ∀ (a : Act) (w : World), St 95 a w κ [(0, pp b_x0), (3, pp b_2), (4, pp b_3), (5, pp b_8), (6, vi v_20.1), (7, vi p_43), (8, vi p_44)] (Tvisorref19_M.own κ b_x0 p_42 :: pt b_2 (blk x1 35) :: pt b_3 (blk [ci 0, ci 0, ci 0] 35) :: pt b_8 (blk v_7 35) :: S) → K22 a w := by
  intro p_42 p_43 p_44 hm a w hs
  unfold visorref21_Full.j1 at hm
  refine hK22 _ _ ?_
  refine qsr fun K45 hK45 => ?_
  refine qpu 3 hs fun a hs => ?_
  obtain ⟨v_47, h_46, hm⟩ := bind_t hm
  refine qli 1 hs rfl h_46 fun a hs => ?_
  refine qpu 1 hs fun a hs => ?_
  obtain ⟨v_50, h_49, hm⟩ := bind_t hm
  refine qcl (visorref19_Op.ok _ _ _ _ _ _ _ h_49 _ _ (Tvisorref19_M.own κ b_x0 p_42 :: pt b_2 (blk x1 35) :: pt b_3 (blk [ci 0, ci 0, ci 0] 35) :: pt b_8 (blk v_7 35) :: S) hs.own) hs fun w a hs => ?_
  obtain ⟨v_53, h_52, hm⟩ := bind_t hm
  refine qcl (visorref19_M_Do.ok _ _ _ _ _ h_52 _ _ _ b_x0 hs.own) hs fun w a hs => ?_
  refine qpu 2 hs fun a hs => ?_
  obtain ⟨h_54, hm⟩ := ite_t hm
  refine Vk.step (Vk.store1 (b := b_8) (ty := 3) (x := (.tmp 36)) (y := (.tmp 34)) (off := 0) (ci v_53.1) 3 hs (by kernel_rfl) (by kernel_rfl) (by kernel_rfl) (by kernel_rfl) (by kernel_rfl) (by kernel_rfl) rfl h_54 fun a w hs => ?_)
  refine qpe 0 [(0, pp b_x0), (3, pp b_2), (4, pp b_3), (5, pp b_8), (6, vi v_20.1), (7, vi p_43), (8, vi p_44)] hs fun a hs => hK45 _ _ ?_
  clear hK45
  refine Vk.seq fun K55 hK55 => ?_
  have hj55 : ∀ (p_71 : Tvisorref19_M) (p_72 : Cells), visorref21_Full.j2 k x1 v_20 p_43 p_44 p_71 p_72 = some r → ∀ (a : Act) (w : World), St 95 a w κ [(0, pp b_x0), (3, pp b_2), (4, pp b_3), (5, pp b_8), (6, vi v_20.1), (7, vi p_43), (8, vi p_44)] (Tvisorref19_M.own κ b_x0 p_71 :: pt b_2 (blk x1 35) :: pt b_3 (blk [ci 0, ci 0, ci 0] 35) :: pt b_8 (blk p_72 35) :: S) → K55 a w := by
   intro p_71 p_72 hm a w hs
   unfold visorref21_Full.j2 at hm
   refine hK55 _ _ ?_
   refine qsr fun K73 hK73 => ?_
   refine qpu 3 hs fun a hs => ?_
   obtain ⟨v_75, h_74, hm⟩ := bind_t hm
   refine qli 1 hs rfl h_74 fun a hs => ?_
   refine qpu 1 hs fun a hs => ?_
   obtain ⟨v_78, h_77, hm⟩ := bind_t hm
   refine qcl (visorref19_Op.ok _ _ _ _ _ _ _ h_77 _ _ (Tvisorref19_M.own κ b_x0 p_71 :: pt b_2 (blk x1 35) :: pt b_3 (blk [ci 0, ci 0, ci 0] 35) :: pt b_8 (blk p_72 35) :: S) hs.own) hs fun w a hs => ?_
   obtain ⟨v_81, h_80, hm⟩ := bind_t hm
   refine qcl (visorref19_M_Do.ok _ _ _ _ _ h_80 _ _ _ b_x0 hs.own) hs fun w a hs => ?_
   refine qpu 2 hs fun a hs => ?_
   obtain ⟨h_82, hm⟩ := ite_t hm
   refine Vk.step (Vk.store1 (b := b_8) (ty := 3) (x := (.tmp 59)) (y := (.tmp 57)) (off := 1) (ci v_81.1) 3 hs (by kernel_rfl) (by kernel_rfl) (by kernel_rfl) (by kernel_rfl) (by kernel_rfl) (by kernel_rfl) rfl h_82 fun a w hs => ?_)
   refine qpk 0 [0, 3, 4, 5, 7, 8] hs fun a hs => hK73 _ _ ?_
   clear hK73
   refine Vk.seq fun K83 hK83 => ?_
   have hj83 : ∀ (p_119 : Tvisorref19_M) (p_120 : Cells), visorref21_Full.j3 k p_119 p_120 = some r → ∀ (a : Act) (w : World), St 95 a w κ [(0, pp b_x0), (4, pp b_3), (5, pp b_8)] (Tvisorref19_M.own κ b_x0 p_119 :: pt b_3 (blk [ci 0, ci 0, ci 0] 35) :: pt b_8 (blk p_120 35) :: S) → K83 a w := by
    intro p_119 p_120 hm a w hs
    unfold visorref21_Full.j3 at hm
    refine hK83 _ _ ?_
    refine qsr fun K121 hK121 => ?_
    refine qpu 1 hs fun a hs => ?_
    obtain ⟨v_124, h_123, hm⟩ := bind_t hm
    refine qcl (visorref19_M_End.ok _ _ _ h_123 _ _ _ b_x0 hs.own) hs fun w a hs => ?_
    refine qpe 0 [(4, pp b_3), (5, pp b_8)] hs fun a hs => hK121 _ _ ?_
    clear hK121
    refine qsr fun K125 hK125 => ?_
    obtain ⟨h_126, hm⟩ := ite_t hm
    refine qlw 2 hs rfl h_126 fun a hs => ?_
    refine qsb 1 p_120 hs rfl h_126 rfl fun a w hs => ?_
    refine qpe 0 [(4, pp b_3)] hs fun a hs => hK125 _ _ ?_
    clear hK125
    refine wp_ret ?_
    exact Vk.retC p_120 hs rfl (by kernel_rfl) (sz := 3) (by kernel_rfl) h_126 (CellsAt.all 1 rfl) (hRR ▸ by cases hm; exact ⟨rfl, hs.own.f2.drop.f1.drop⟩)
   refine qsr fun K84 hK84 => ?_
   refine qpu 3 hs fun a hs => ?_
   obtain ⟨g_85, hs⟩ := hs.unbag 0 rfl
   refine qld 0 (ci v_81.2.n) hs rfl fun a hs => ?_
   refine qpk 1 [0, 3, 4, 5, 7, 8, 64] hs fun a hs => hK84 _ _ ?_
   clear hK84
   refine qcs (v_81.2.n == 3) hs (fun hb => ?_) fun hb => ?_
   ·replace hm := bif_t hm hb
    refine qsr fun K90 hK90 => ?_
    refine qpu 3 hs fun a hs => ?_
    obtain ⟨v_92, h_91, hm⟩ := bind_t hm
    refine qli 7 hs rfl h_91 fun a hs => ?_
    refine qpu 1 hs fun a hs => ?_
    obtain ⟨v_95, h_94, hm⟩ := bind_t hm
    refine qcl (visorref19_Op.ok _ _ _ _ _ _ _ h_94 _ _ (pt b_x0 (blk (Tvisorref19_M.obj v_81.2 g_85.1 g_85.2.1 g_85.2.2.1 g_85.2.2.2.1 g_85.2.2.2.2.1 g_85.2.2.2.2.2.1 g_85.2.2.2.2.2.2.1 g_85.2.2.2.2.2.2.2) 54) :: rowp g_85.1 g_85.2.1 103 6 Tapi_Op.cells v_81.2.ops :: rowp g_85.2.2.1 g_85.2.2.2.1 119 3 Tapi_Span.cells v_81.2.blocks :: rowp g_85.2.2.2.2.1 g_85.2.2.2.2.2.1 23 1 (eI .u64) v_81.2.val :: rdp κ g_85.2.2.2.2.2.2.1 g_85.2.2.2.2.2.2.2 1 (eI .u64) v_81.2.tape.l :: pt b_2 (blk x1 35) :: pt b_3 (blk [ci 0, ci 0, ci 0] 35) :: pt b_8 (blk (p_72.set (1) (ci v_81.1)) 35) :: S) hs.own) hs fun w a hs => ?_
    replace hs := hs.bagG (l := Tvisorref19_M.parts κ b_x0 v_81.2 g_85) (S' := pt b_2 (blk x1 35) :: pt b_3 (blk [ci 0, ci 0, ci 0] 35) :: pt b_8 (blk (p_72.set (1) (ci v_81.1)) 35) :: S) hs.own
    replace hs := hs.toEx (Tvisorref19_M.parts κ b_x0 v_81.2) g_85 0 rfl
    obtain ⟨v_98, h_97, hm⟩ := bind_t hm
    refine qcl (visorref19_M_Do.ok _ _ _ _ _ h_97 _ _ _ b_x0 hs.own) hs fun w a hs => ?_
    refine qpu 2 hs fun a hs => ?_
    obtain ⟨h_99, hm⟩ := ite_t hm
    refine Vk.step (Vk.store1 (b := b_8) (ty := 3) (x := (.tmp 73)) (y := (.tmp 71)) (off := 1) (ci v_98.1) 3 hs (by kernel_rfl) (by kernel_rfl) (by kernel_rfl) (by kernel_rfl) (by kernel_rfl) (by kernel_rfl) rfl h_99 fun a w hs => ?_)
    refine qpk 0 [0, 3, 4, 5, 7, 8] hs fun a hs => hK90 _ _ ?_
    clear hK90
    refine qsr fun K100 hK100 => ?_
    refine qpu 3 hs fun a hs => ?_
    obtain ⟨v_102, h_101, hm⟩ := bind_t hm
    refine qli 1 hs rfl h_101 fun a hs => ?_
    refine qpu 1 hs fun a hs => ?_
    obtain ⟨v_105, h_104, hm⟩ := bind_t hm
    refine qcl (visorref19_Op.ok _ _ _ _ _ _ _ h_104 _ _ (Tvisorref19_M.own κ b_x0 v_98.2 :: pt b_2 (blk x1 35) :: pt b_3 (blk [ci 0, ci 0, ci 0] 35) :: pt b_8 (blk ((p_72.set (1) (ci v_81.1)).set (1) (ci v_98.1)) 35) :: S) hs.own) hs fun w a hs => ?_
    obtain ⟨v_108, h_107, hm⟩ := bind_t hm
    refine qcl (visorref19_M_Do.ok _ _ _ _ _ h_107 _ _ _ b_x0 hs.own) hs fun w a hs => ?_
    refine qpu 2 hs fun a hs => ?_
    obtain ⟨h_109, hm⟩ := ite_t hm
    refine Vk.step (Vk.store1 (b := b_8) (ty := 3) (x := (.tmp 82)) (y := (.tmp 80)) (off := 2) (ci v_108.1) 3 hs (by kernel_rfl) (by kernel_rfl) (by kernel_rfl) (by kernel_rfl) (by kernel_rfl) (by kernel_rfl) rfl h_109 fun a w hs => ?_)
    refine qpk 0 [0, 4, 5, 8] hs fun a hs => hK100 _ _ ?_
    clear hK100
    refine Vk.region ?_
    refine qpu 3 hs fun a hs => ?_
    obtain ⟨v_111, h_110, hm⟩ := bind_t hm
    refine qli 3 hs rfl h_110 fun a hs => ?_
    refine qpu 1 hs fun a hs => ?_
    obtain ⟨v_114, h_113, hm⟩ := bind_t hm
    refine qcl (visorref19_Op.ok _ _ _ _ _ _ _ h_113 _ _ (Tvisorref19_M.own κ b_x0 v_108.2 :: pt b_2 (blk x1 35) :: pt b_3 (blk [ci 0, ci 0, ci 0] 35) :: pt b_8 (blk (((p_72.set (1) (ci v_81.1)).set (1) (ci v_98.1)).set (2) (ci v_108.1)) 35) :: S) hs.own) hs fun w a hs => ?_
    obtain ⟨v_117, h_116, hm⟩ := bind_t hm
    refine qcl (visorref19_M_Do.ok _ _ _ _ _ h_116 _ _ _ b_x0 hs.own) hs fun w a hs => ?_
    refine qpu 2 hs fun a hs => ?_
    obtain ⟨h_118, hm⟩ := ite_t hm
    refine Vk.step (Vk.store1 (b := b_8) (ty := 3) (x := (.tmp 91)) (y := (.tmp 89)) (off := 2) (ci v_117.1) 3 hs (by kernel_rfl) (by kernel_rfl) (by kernel_rfl) (by kernel_rfl) (by kernel_rfl) (by kernel_rfl) rfl h_118 fun a w hs => ?_)
    refine qpe 0 [(0, pp b_x0), (4, pp b_3), (5, pp b_8)] hs fun a hs => ?_
    exact hj83 v_117.2 ((((p_72.set (1) (ci v_81.1)).set (1) (ci v_98.1)).set (2) (ci v_108.1)).set (2) (ci v_117.1)) hm _ _ (hs.go [0, 4, 5] [0, 2, 3] 4 (by kernel_rfl) (by kernel_rfl) (by kernel_rfl))
   ·replace hm := bif_f hm hb
    refine wp_skip ?_
    replace hs := hs.bagG (l := Tvisorref19_M.parts κ b_x0 v_81.2 g_85) (S' := pt b_2 (blk x1 35) :: pt b_3 (blk [ci 0, ci 0, ci 0] 35) :: pt b_8 (blk (p_72.set (1) (ci v_81.1)) 35) :: S) hs.own
    replace hs := hs.toEx (Tvisorref19_M.parts κ b_x0 v_81.2) g_85 0 rfl
    exact hj83 v_81.2 (p_72.set (1) (ci v_81.1)) hm _ _ (hs.go [0, 4, 5] [0, 2, 3] 4 (by kernel_rfl) (by kernel_rfl) (by kernel_rfl))
  refine qsr fun K56 hK56 => ?_
  refine qpu 3 hs fun a hs => ?_
  obtain ⟨g_57, hs⟩ := hs.unbag 0 rfl
  refine qld 0 (ci v_53.2.n) hs rfl fun a hs => ?_
  refine qpk 1 [0, 3, 4, 5, 6, 7, 8, 41] hs fun a hs => hK56 _ _ ?_
  clear hK56
  refine qcs (v_53.2.n == 3) hs (fun hb => ?_) fun hb => ?_
  ·replace hm := bif_t hm hb
   refine Vk.region ?_
   refine qpu 3 hs fun a hs => ?_
   obtain ⟨v_63, h_62, hm⟩ := bind_t hm
   refine qli 7 hs rfl h_62 fun a hs => ?_
   refine qpu 1 hs fun a hs => ?_
   obtain ⟨v_66, h_65, hm⟩ := bind_t hm
   refine qcl (visorref19_Op.ok _ _ _ _ _ _ _ h_65 _ _ (pt b_x0 (blk (Tvisorref19_M.obj v_53.2 g_57.1 g_57.2.1 g_57.2.2.1 g_57.2.2.2.1 g_57.2.2.2.2.1 g_57.2.2.2.2.2.1 g_57.2.2.2.2.2.2.1 g_57.2.2.2.2.2.2.2) 54) :: rowp g_57.1 g_57.2.1 103 6 Tapi_Op.cells v_53.2.ops :: rowp g_57.2.2.1 g_57.2.2.2.1 119 3 Tapi_Span.cells v_53.2.blocks :: rowp g_57.2.2.2.2.1 g_57.2.2.2.2.2.1 23 1 (eI .u64) v_53.2.val :: rdp κ g_57.2.2.2.2.2.2.1 g_57.2.2.2.2.2.2.2 1 (eI .u64) v_53.2.tape.l :: pt b_2 (blk x1 35) :: pt b_3 (blk [ci 0, ci 0, ci 0] 35) :: pt b_8 (blk (v_7.set (0) (ci v_53.1)) 35) :: S) hs.own) hs fun w a hs => ?_
   replace hs := hs.bagG (l := Tvisorref19_M.parts κ b_x0 v_53.2 g_57) (S' := pt b_2 (blk x1 35) :: pt b_3 (blk [ci 0, ci 0, ci 0] 35) :: pt b_8 (blk (v_7.set (0) (ci v_53.1)) 35) :: S) hs.own
   replace hs := hs.toEx (Tvisorref19_M.parts κ b_x0 v_53.2) g_57 0 rfl
   obtain ⟨v_69, h_68, hm⟩ := bind_t hm
   refine qcl (visorref19_M_Do.ok _ _ _ _ _ h_68 _ _ _ b_x0 hs.own) hs fun w a hs => ?_
   refine qpu 2 hs fun a hs => ?_
   obtain ⟨h_70, hm⟩ := ite_t hm
   refine Vk.step (Vk.store1 (b := b_8) (ty := 3) (x := (.tmp 50)) (y := (.tmp 48)) (off := 0) (ci v_69.1) 3 hs (by kernel_rfl) (by kernel_rfl) (by kernel_rfl) (by kernel_rfl) (by kernel_rfl) (by kernel_rfl) rfl h_70 fun a w hs => ?_)
   refine qpe 0 [(0, pp b_x0), (3, pp b_2), (4, pp b_3), (5, pp b_8), (6, vi v_20.1), (7, vi p_43), (8, vi p_44)] hs fun a hs => ?_
   exact hj55 v_69.2 ((v_7.set (0) (ci v_53.1)).set (0) (ci v_69.1)) hm _ _ (hs.go [0, 3, 4, 5, 6, 7, 8] [0, 1, 2, 3] 4 (by kernel_rfl) (by kernel_rfl) (by kernel_rfl))
  ·replace hm := bif_f hm hb
   refine wp_skip ?_
   replace hs := hs.bagG (l := Tvisorref19_M.parts κ b_x0 v_53.2 g_57) (S' := pt b_2 (blk x1 35) :: pt b_3 (blk [ci 0, ci 0, ci 0] 35) :: pt b_8 (blk (v_7.set (0) (ci v_53.1)) 35) :: S) hs.own
   replace hs := hs.toEx (Tvisorref19_M.parts κ b_x0 v_53.2) g_57 0 rfl
   exact hj55 v_53.2 (v_7.set (0) (ci v_53.1)) hm _ _ (hs.go [0, 3, 4, 5, 6, 7, 8] [0, 1, 2, 3] 4 (by kernel_rfl) (by kernel_rfl) (by kernel_rfl))
 refine qsr fun K23 hK23 => ?_
 refine qpu 3 hs fun a hs => ?_
 obtain ⟨g_24, hs⟩ := hs.unbag 0 rfl
 refine qld 0 (ci v_20.2.n) hs rfl fun a hs => ?_
 refine qpk 1 [0, 3, 4, 5, 6, 7, 8, 21] hs fun a hs => hK23 _ _ ?_
 clear hK23
 refine qcs (v_20.2.n == 3) hs (fun hb => ?_) fun hb => ?_
 ·replace hm := bif_t hm hb
  refine qsr fun K29 hK29 => ?_
  refine qpu 1 hs fun a hs => ?_
  obtain ⟨v_32, h_31, hm⟩ := bind_t hm
  refine qcl (visorref19_Op.ok _ _ _ _ _ _ _ h_31 _ _ (pt b_x0 (blk (Tvisorref19_M.obj v_20.2 g_24.1 g_24.2.1 g_24.2.2.1 g_24.2.2.2.1 g_24.2.2.2.2.1 g_24.2.2.2.2.2.1 g_24.2.2.2.2.2.2.1 g_24.2.2.2.2.2.2.2) 54) :: rowp g_24.1 g_24.2.1 103 6 Tapi_Op.cells v_20.2.ops :: rowp g_24.2.2.1 g_24.2.2.2.1 119 3 Tapi_Span.cells v_20.2.blocks :: rowp g_24.2.2.2.2.1 g_24.2.2.2.2.2.1 23 1 (eI .u64) v_20.2.val :: rdp κ g_24.2.2.2.2.2.2.1 g_24.2.2.2.2.2.2.2 1 (eI .u64) v_20.2.tape.l :: pt b_8 (blk v_7 35) :: pt b_3 (blk [ci 0, ci 0, ci 0] 35) :: pt b_2 (blk x1 35) :: S) hs.own) hs fun w a hs => ?_
  replace hs := hs.bagG (l := Tvisorref19_M.parts κ b_x0 v_20.2 g_24) (S' := pt b_8 (blk v_7 35) :: pt b_3 (blk [ci 0, ci 0, ci 0] 35) :: pt b_2 (blk x1 35) :: S) hs.own
  replace hs := hs.toEx (Tvisorref19_M.parts κ b_x0 v_20.2) g_24 0 rfl
  obtain ⟨v_35, h_34, hm⟩ := bind_t hm
  refine qcl (visorref19_M_Do.ok _ _ _ _ _ h_34 _ _ _ b_x0 hs.own) hs fun w a hs => ?_
  refine qpk 1 [0, 3, 4, 5, 6, 7] hs fun a hs => hK29 _ _ ?_
  clear hK29
  refine Vk.region ?_
  refine qpu 1 hs fun a hs => ?_
  obtain ⟨v_38, h_37, hm⟩ := bind_t hm
  refine qcl (visorref19_Op.ok _ _ _ _ _ _ _ h_37 _ _ (Tvisorref19_M.own κ b_x0 v_35.2 :: pt b_8 (blk v_7 35) :: pt b_3 (blk [ci 0, ci 0, ci 0] 35) :: pt b_2 (blk x1 35) :: S) hs.own) hs fun w a hs => ?_
  obtain ⟨v_41, h_40, hm⟩ := bind_t hm
  refine qcl (visorref19_M_Do.ok _ _ _ _ _ h_40 _ _ _ b_x0 hs.own) hs fun w a hs => ?_
  refine qpe 1 [(0, pp b_x0), (3, pp b_2), (4, pp b_3), (5, pp b_8), (6, vi v_20.1), (7, vi v_35.1), (8, vi v_41.1)] hs fun a hs => ?_
  exact hj22 v_41.2 v_35.1 v_41.1 hm _ _ (hs.go [0, 3, 4, 5, 6, 7, 8] [0, 3, 2, 1] 4 (by kernel_rfl) (by kernel_rfl) (by kernel_rfl))
 ·replace hm := bif_f hm hb
  refine wp_skip ?_
  replace hs := hs.bagG (l := Tvisorref19_M.parts κ b_x0 v_20.2 g_24) (S' := pt b_8 (blk v_7 35) :: pt b_3 (blk [ci 0, ci 0, ci 0] 35) :: pt b_2 (blk x1 35) :: S) hs.own
  replace hs := hs.toEx (Tvisorref19_M.parts κ b_x0 v_20.2) g_24 0 rfl
  exact hj22 v_20.2 v_20.1 v_20.1 hm _ _ (hs.go [0, 3, 4, 5, 6, 7, 8] [0, 3, 2, 1] 4 (by kernel_rfl) (by kernel_rfl) (by kernel_rfl))

end Go.Proofs.YtflgefjocjpjaaaGreat
