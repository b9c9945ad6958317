/- Of each Go function that TimesEven comes to: a model in plain Lean, and that the program's call does what the model says; no condition. -/
import Derived.Test.YtflgefjocjpjaaaProg
import Derived.Test.YtflgefjocjpjaaaVpeafiacm
import Derived.Test.YtflgefjocjpjaaaMTimesEven1
namespace Go.Proofs.Ytflgefjocjpjaaa
open Go Go.Vk
set_option linter.unusedVariables false


abbrev times_Isw.R (κ : Ctx) (S : List HP) (x0 : Twire_Machine) (x1 : Cells) (x2 : Cells) (b_x0 : Nat) (r : (Cells × Twire_Machine)) : Ending → World → Prop := fun e w' => e = .returned (.agg (vals r.1)) ∧ Own κ w' (Twire_Machine.own b_x0 r.2 :: S)
def times_Isw.m (k : Nat) (x0 : Twire_Machine) (x1 : Cells) (x2 : Cells) : Option (Cells × Twire_Machine) := (wire_Machine_N.m k x0).bind fun v_10 => (bif v_10 == 2 then (wire_Machine_Begin.m k x0 3).bind fun v_14 => (if x1.length = 3 then (if x2.length = 3 then (wire_Machine_N.m k v_14).bind fun v_29 => (bif v_29 == 2 then (wire_Machine_Rand.m k v_14 (-1)).bind fun v_45 => (getI .i64 x1 (0)).bind fun v_76 => (getI .i64 x2 (0)).bind fun v_78 => (wire_Machine_Two.m k v_45.2 7 0 v_76 v_78).bind fun v_81 => (getI .i64 x1 (0)).bind fun v_89 => (getI .i64 x2 (1)).bind fun v_91 => (wire_Machine_Two.m k v_81.2 7 0 v_89 v_91).bind fun v_94 => (getI .i64 x1 (1)).bind fun v_111 => (getI .i64 x2 (0)).bind fun v_113 => (wire_Machine_Two.m k v_94.2 7 1 v_111 v_113).bind fun v_116 => (getI .i64 x1 (1)).bind fun v_124 => (getI .i64 x2 (1)).bind fun v_126 => (wire_Machine_Two.m k v_116.2 7 1 v_124 v_126).bind fun v_129 => (wire_Machine_N.m k v_129.2).bind fun v_147 => (bif v_147 == 2 then (wire_Machine_Two.m k v_129.2 5 0 v_81.1 v_45.1).bind fun v_180 => (wire_Machine_Two.m k v_180.2 5 1 v_45.1 v_94.1).bind fun v_209 => (wire_Machine_Two.m k v_209.2 5 1 v_209.1 v_116.1).bind fun v_212 => (wire_Machine_Two.m k v_212.2 5 1 v_129.1 v_212.1).bind fun v_215 => (wire_Machine_End.m k v_215.2).bind fun v_233 => some ([ci v_180.1, ci v_215.1, ci (-1)], v_233) else none) else none) else none) else none) else (bif v_10 == 3 then (wire_Machine_Begin.m k x0 3).bind fun v_238 => (if x1.length = 3 then (if x2.length = 3 then (wire_Machine_N.m k v_238).bind fun v_253 => (bif v_253 == 3 then (wire_Machine_Rand.m k v_238 (-1)).bind fun v_269 => (wire_Machine_Rand.m k v_269.2 (-1)).bind fun v_277 => (wire_Machine_Rand.m k v_277.2 (-1)).bind fun v_294 => (getI .i64 x1 (0)).bind fun v_325 => (getI .i64 x2 (0)).bind fun v_327 => (wire_Machine_Two.m k v_294.2 7 0 v_325 v_327).bind fun v_330 => (getI .i64 x1 (0)).bind fun v_338 => (getI .i64 x2 (1)).bind fun v_340 => (wire_Machine_Two.m k v_330.2 7 0 v_338 v_340).bind fun v_343 => (getI .i64 x1 (0)).bind fun v_351 => (getI .i64 x2 (2)).bind fun v_353 => (wire_Machine_Two.m k v_343.2 7 0 v_351 v_353).bind fun v_356 => (getI .i64 x1 (1)).bind fun v_373 => (getI .i64 x2 (0)).bind fun v_375 => (wire_Machine_Two.m k v_356.2 7 1 v_373 v_375).bind fun v_378 => (getI .i64 x1 (1)).bind fun v_386 => (getI .i64 x2 (1)).bind fun v_388 => (wire_Machine_Two.m k v_378.2 7 1 v_386 v_388).bind fun v_391 => (getI .i64 x1 (1)).bind fun v_399 => (getI .i64 x2 (2)).bind fun v_401 => (wire_Machine_Two.m k v_391.2 7 1 v_399 v_401).bind fun v_404 => (getI .i64 x1 (2)).bind fun v_421 => (getI .i64 x2 (0)).bind fun v_423 => (wire_Machine_Two.m k v_404.2 7 2 v_421 v_423).bind fun v_426 => (getI .i64 x1 (2)).bind fun v_434 => (getI .i64 x2 (1)).bind fun v_436 => (wire_Machine_Two.m k v_426.2 7 2 v_434 v_436).bind fun v_439 => (getI .i64 x1 (2)).bind fun v_447 => (getI .i64 x2 (2)).bind fun v_449 => (wire_Machine_Two.m k v_439.2 7 2 v_447 v_449).bind fun v_452 => (wire_Machine_N.m k v_452.2).bind fun v_470 => (bif v_470 == 3 then (wire_Machine_Two.m k v_452.2 5 0 v_330.1 v_269.1).bind fun v_503 => (wire_Machine_Two.m k v_503.2 5 0 v_503.1 v_277.1).bind fun v_521 => (wire_Machine_Two.m k v_521.2 5 1 v_269.1 v_343.1).bind fun v_550 => (wire_Machine_Two.m k v_550.2 5 1 v_550.1 v_378.1).bind fun v_553 => (wire_Machine_Two.m k v_553.2 5 1 v_391.1 v_553.1).bind fun v_556 => (wire_Machine_Two.m k v_556.2 5 1 v_556.1 v_294.1).bind fun v_580 => (wire_Machine_Two.m k v_580.2 5 2 v_277.1 v_356.1).bind fun v_609 => (wire_Machine_Two.m k v_609.2 5 2 v_609.1 v_426.1).bind fun v_612 => (wire_Machine_Two.m k v_612.2 5 2 v_452.1 v_612.1).bind fun v_615 => (wire_Machine_Two.m k v_615.2 5 2 v_294.1 v_404.1).bind fun v_634 => (wire_Machine_Two.m k v_634.2 5 2 v_634.1 v_439.1).bind fun v_637 => (wire_Machine_Two.m k v_637.2 5 2 v_615.1 v_637.1).bind fun v_640 => (wire_Machine_End.m k v_640.2).bind fun v_658 => some ([ci v_521.1, ci v_580.1, ci v_640.1], v_658) else none) else none) else none) else none) else none))

set_option maxRecDepth 100000 in
set_option maxHeartbeats 4000000 in
theorem times_Isw.ok (k : Nat) (x0 : Twire_Machine) (x1 : Cells) (x2 : Cells) (r : (Cells × Twire_Machine)) (hm : times_Isw.m k x0 x1 x2 = some r) (κ : Ctx) (w : World) (S : List HP) (b_x0 : Nat) (ho : Own κ w (Twire_Machine.own b_x0 x0 :: S)) :
    Calls Try.prog 21 #[pp b_x0, .agg (vals x1), .agg (vals x2)] w (times_Isw.R κ S x0 x1 x2 b_x0 r) := by
  unfold times_Isw.m at hm
  generalize hRR : times_Isw.R κ S x0 x1 x2 b_x0 r = RR
  refine qen [(0, pp b_x0), (1, .agg (vals x1)), (2, .agg (vals x2))] Try.func21 Try.ntmps21 ho fun a hs => ?_
  refine qsr fun K1 hK1 => ?_
  refine Vk.step (Vk.box (x := (.tmp 1)) 4 28 x1 hs (by kernel_rfl) (by kernel_rfl) (by kernel_rfl) fun b_2 w a hs => ?_)
  refine Vk.step (Vk.box (x := (.tmp 2)) 5 28 x2 hs (by kernel_rfl) (by kernel_rfl) (by kernel_rfl) fun b_3 w a hs => ?_)
  refine Vk.step (Vk.alloc 6 28 [ci 0, ci 0, ci 0] hs (by kernel_rfl) (by kernel_rfl) (by kernel_rfl) fun b_4 w a hs => ?_)
  refine qpe 0 [(0, pp b_x0), (4, pp b_2), (5, pp b_3), (6, pp b_4)] hs fun a hs => hK1 _ _ ?_
  clear hK1
  refine Vk.seq fun K5 hK5 => ?_
  refine qsr fun K6 hK6 => ?_
  refine qpu 1 hs fun a hs => ?_
  obtain ⟨g_7, hs⟩ := hs.unex 3 rfl
  obtain ⟨v_10, h_9, hm⟩ := bind_t hm
  refine Vk.step (Vk.call (some 10) 89 #[pp b_x0] hs (by kernel_rfl) (by kernel_rfl) (by kernel_rfl) ?_)
  refine (wire_Machine_N.ok k x0 v_10 h_9 κ w (pt b_4 (blk [ci 0, ci 0, ci 0] 28) :: pt b_3 (blk x2 28) :: pt b_2 (blk x1 28) :: S) b_x0 g_7 (Own.to hs.own [3, 0, 1, 2] 4 (by kernel_rfl) (by kernel_rfl))).mono ?_
  rintro _ w ⟨rfl, how⟩
  refine ⟨_, _, _, rfl, how, fun a hs => ?_⟩
  rcases Bool.eq_false_or_eq_true (v_10 == 2) with hb | hb
  · replace hm := bif_t hm hb
    obtain rfl := Vk.of_beq hb
    refine qpe 1 [(0, pp b_x0), (4, pp b_2), (5, pp b_3), (6, pp b_4), (11, .bool false)] hs fun a hs => hK6 _ _ ?_
    refine qcf hs ?_
    refine wp_skip ?_
    refine hK5 _ _ ?_
    refine qsr fun K11 hK11 => ?_
    refine qpu 1 hs fun a hs => ?_
    replace hs := hs.toEx (Twire_Machine.parts b_x0 x0) g_7 0 rfl
    obtain ⟨v_14, h_13, hm⟩ := bind_t hm
    refine Vk.step (Vk.call (some 15) 90 #[pp b_x0, vi 3] hs (by kernel_rfl) (by kernel_rfl) (by kernel_rfl) ?_)
    refine (wire_Machine_Begin.ok k x0 3 v_14 h_13 κ w (pt b_4 (blk [ci 0, ci 0, ci 0] 28) :: pt b_3 (blk x2 28) :: pt b_2 (blk x1 28) :: S) b_x0 (Own.to hs.own [0, 1, 2, 3] 4 (by kernel_rfl) (by kernel_rfl))).mono ?_
    rintro _ w ⟨rfl, how⟩
    refine ⟨_, _, _, rfl, how, fun a hs => ?_⟩
    refine qpe 0 [(0, pp b_x0), (4, pp b_2), (5, pp b_3), (6, pp b_4)] hs fun a hs => hK11 _ _ ?_
    clear hK11
    refine qsr fun K15 hK15 => ?_
    refine qpu 1 hs fun a hs => ?_
    obtain ⟨h_16, hm⟩ := ite_t hm
    refine Vk.step (Vk.value (some 17) (.agg (vals x1)) hs (by kernel_rfl) (op := (.load 28 (.tmp 4))) (by kernel_rfl) (fun o ho => run_loadN (cs := x1) ho (by kernel_rfl) (by kernel_rfl) h_16 (CellsAt.all 3 rfl) _ hs.own) fun a hs => ?_)
    obtain ⟨h_17, hm⟩ := ite_t hm
    refine Vk.step (Vk.value (some 18) (.agg (vals x2)) hs (by kernel_rfl) (op := (.load 28 (.tmp 5))) (by kernel_rfl) (fun o ho => run_loadN (cs := x2) ho (by kernel_rfl) (by kernel_rfl) h_17 (CellsAt.all 2 rfl) _ hs.own) fun a hs => ?_)
    refine Vk.step (Vk.call (some 19) 91 #[pp b_x0, .agg (vals x1), .agg (vals x2)] hs (by kernel_rfl) (by kernel_rfl) (by kernel_rfl) ?_)
    refine Vk.enterI [(0, pp b_x0), (1, .agg (vals x1)), (2, .agg (vals x2))] Try.func91 rfl Try.ntmps91 (by kernel_rfl) (Nat.le_of_ble_eq_true (by kernel_rfl)) hs.own fun KR18 hKR18 hKP18 a hs => ?_
    refine qsr fun K19 hK19 => ?_
    refine Vk.step (Vk.box (x := (.tmp 1)) 4 28 x1 hs (by kernel_rfl) (by kernel_rfl) (by kernel_rfl) fun b_20 w a hs => ?_)
    refine Vk.step (Vk.box (x := (.tmp 2)) 5 28 x2 hs (by kernel_rfl) (by kernel_rfl) (by kernel_rfl) fun b_21 w a hs => ?_)
    refine qpe 1 [(0, pp b_x0), (4, pp b_20), (5, pp b_21)] hs fun a hs => hK19 _ _ ?_
    clear hK19
    refine qsr fun K22 hK22 => ?_
    refine qpu 1 hs fun a hs => ?_
    refine Vk.step (Vk.mapOp 14 186 hs (by kernel_rfl) (by kernel_rfl) fun b_23 w a hs => ?_)
    refine qpu 1 hs fun a hs => ?_
    refine Vk.step (Vk.box (x := (.tmp 15)) 16 188 [cp b_x0, C.map (some b_23), ci 0, ci 0, ci 0, ci 0, ci 0, ci 0, ci 0, ci 0, ci 0] hs (by kernel_rfl) (by kernel_rfl) (by kernel_rfl) fun b_24 w a hs => ?_)
    refine qpe 1 [(0, pp b_x0), (4, pp b_20), (5, pp b_21), (7, pp b_24)] hs fun a hs => hK22 _ _ ?_
    clear hK22
    refine qsr fun K25 hK25 => ?_
    refine qpu 1 hs fun a hs => ?_
    obtain ⟨g_26, hs⟩ := hs.unex 4 rfl
    obtain ⟨v_29, h_28, hm⟩ := bind_t hm
    refine Vk.step (Vk.call (some 18) 89 #[pp b_x0] hs (by kernel_rfl) (by kernel_rfl) (by kernel_rfl) ?_)
    refine (wire_Machine_N.ok k v_14 v_29 h_28 κ w (pt b_24 (blk [cp b_x0, C.map (some b_23), ci 0, ci 0, ci 0, ci 0, ci 0, ci 0, ci 0, ci 0, ci 0] 188) :: pt b_23 (.map #[] 0) :: pt b_21 (blk x2 28) :: pt b_20 (blk x1 28) :: pt b_4 (blk [ci 0, ci 0, ci 0] 28) :: pt b_3 (blk x2 28) :: pt b_2 (blk x1 28) :: S) b_x0 g_26 (Own.to hs.own [4, 0, 1, 2, 3, 5, 6, 7] 8 (by kernel_rfl) (by kernel_rfl))).mono ?_
    rintro _ w ⟨rfl, how⟩
    refine ⟨_, _, _, rfl, how, fun a hs => ?_⟩
    rcases Bool.eq_false_or_eq_true (v_29 == 2) with hb | hb
    · replace hm := bif_t hm hb
      obtain rfl := Vk.of_beq hb
      refine qpe 1 [(0, pp b_x0), (4, pp b_20), (5, pp b_21), (7, pp b_24), (8, vi 2)] hs fun a hs => hK25 _ _ ?_
      clear hK25
      refine Vk.seq fun K30 hK30 => ?_
      refine qsr fun K31 hK31 => ?_
      refine qpe 2 [(0, pp b_x0), (4, pp b_20), (5, pp b_21), (7, pp b_24), (8, vi 2), (19, vi 2), (20, vi 0)] hs fun a hs => hK31 _ _ ?_
      clear hK31
      refine wp_block ?_
      refine Vk.unroll0 40 ?_
      refine Vk.unroll fun KL32 hKL32 => ?_
      refine qsr fun K33 hK33 => ?_
      refine qpe 1 [(0, pp b_x0), (4, pp b_20), (5, pp b_21), (7, pp b_24), (8, vi 2), (19, vi 2), (20, vi 0), (21, .bool true)] hs fun a hs => hK33 _ _ ?_
      clear hK33
      refine Vk.seq fun K34 hK34 => ?_
      refine qct hs ?_
      refine wp_skip ?_
      refine hK34 _ _ ?_
      clear hK34
      refine Vk.seq fun K35 hK35 => ?_
      refine wp_block ?_
      refine qsr fun K36 hK36 => ?_
      refine qpe 2 [(0, pp b_x0), (4, pp b_20), (5, pp b_21), (7, pp b_24), (8, vi 2), (9, vi 0), (19, vi 2), (20, vi 0)] hs fun a hs => hK36 _ _ ?_
      clear hK36
      refine qsr fun K37 hK37 => ?_
      refine qpe 3 [(0, pp b_x0), (4, pp b_20), (5, pp b_21), (7, pp b_24), (8, vi 2), (9, vi 0), (10, vi 1), (19, vi 2), (20, vi 0)] hs fun a hs => hK37 _ _ ?_
      clear hK37
      refine wp_block ?_
      refine Vk.unroll0 40 ?_
      refine Vk.unroll fun KL38 hKL38 => ?_
      refine Vk.seq fun K39 hK39 => ?_
      refine qsr fun K40 hK40 => ?_
      refine qpe 3 [(0, pp b_x0), (4, pp b_20), (5, pp b_21), (7, pp b_24), (8, vi 2), (9, vi 0), (10, vi 1), (19, vi 2), (20, vi 0), (27, .bool true)] hs fun a hs => hK40 _ _ ?_
      clear hK40
      refine qct hs ?_
      refine wp_skip ?_
      refine hK39 _ _ ?_
      clear hK39
      refine Vk.seq fun K41 hK41 => ?_
      refine wp_block ?_
      obtain ⟨C_42, hC_42⟩ : ∃ X0 : List HP, X0 = (pt b_24 (blk [cp b_x0, C.map (some b_23), ci 0, ci 0, ci 0, ci 0, ci 0, ci 0, ci 0, ci 0, ci 0] 188) :: pt b_23 (.map #[] 0) :: pt b_21 (blk x2 28) :: pt b_20 (blk x1 28) :: pt b_4 (blk [ci 0, ci 0, ci 0] 28) :: pt b_3 (blk x2 28) :: pt b_2 (blk x1 28) :: S) := ⟨_, rfl⟩
      refine qdr 9 κ C_42 hs fun w hs hqC_42 => ?_
      have hcz : Own κ w (pt b_24 (blk [cp b_x0, C.map (some b_23), ci 0, ci 0, ci 0, ci 0, ci 0, ci 0, ci 0, ci 0, ci 0] 188) :: pt b_23 (.map #[] 0) :: pt b_21 (blk x2 28) :: pt b_20 (blk x1 28) :: pt b_4 (blk [ci 0, ci 0, ci 0] 28) :: pt b_3 (blk x2 28) :: pt b_2 (blk x1 28) :: S) := (Own.to hs.own [1, 2, 3, 4, 5, 6, 7] 8 (by kernel_rfl) (by kernel_rfl))
      have hcl : Own κ w C_42 := by rw [hC_42]; exact hcz
      refine qdp (fuel := 3) [0, 1, 2, 4, 5, 6, 7] hs hcl hqC_42 fun a hs => ?_
      refine qdl 3 0 (C.map (some b_23)) hs hcl hqC_42 hC_42 rfl fun a hs => ?_
      replace hs := hs.toEx (Twire_Machine.parts b_x0 v_14) g_26 0 rfl
      obtain ⟨v_45, h_44, hm⟩ := bind_t hm
      refine Vk.dOnly (i := 8) (by kernel_rfl) (Vk.call (some 38) 120 #[pp b_x0, vi (-1)] hs (by kernel_rfl) (by kernel_rfl) (by kernel_rfl) ?_)
      refine (wire_Machine_Rand.ok k v_14 (-1) v_45 h_44 κ w (pt b_24 (blk [cp b_x0, C.map (some b_23), ci 0, ci 0, ci 0, ci 0, ci 0, ci 0, ci 0, ci 0, ci 0] 188) :: pt b_23 (.map #[] 0) :: pt b_21 (blk x2 28) :: pt b_20 (blk x1 28) :: pt b_4 (blk [ci 0, ci 0, ci 0] 28) :: pt b_3 (blk x2 28) :: pt b_2 (blk x1 28) :: S) b_x0 (Own.to hs.own [0, 1, 2, 3, 4, 5, 6, 7] 8 (by kernel_rfl) (by kernel_rfl))).mono ?_
      rintro _ w ⟨rfl, how⟩
      refine ⟨_, _, _, rfl, how, fun a hs => ?_⟩
      replace hcl : Own κ w C_42 := by rw [hC_42]; exact (Own.to hs.own [1, 2, 3, 4, 5, 6, 7] 8 (by kernel_rfl) (by kernel_rfl))
      refine ⟨fun _ => hcl, ?_⟩
      refine Vk.dOnly (i := 9) (by kernel_rfl) (Vk.updateOp (t := 186) (xm := (.tmp 33)) (xk := (.tmp 36)) (xv := (.tmp 38)) (b := b_23) (es' := #[⟨.agg (vals [ci 0, ci 1]), vi v_45.1, 0⟩]) (clock' := 1) (.agg (vals [ci 0, ci 1])) (vi v_45.1) 2 hs (by kernel_rfl) (by kernel_rfl) (by kernel_rfl) (by kernel_rfl) (by kernel_rfl) rfl (by kernel_rfl) fun a w hs => ?_)
      refine ⟨fun h => absurd h (by decide), ?_⟩
      replace hs := hs.pick [0, 4, 5, 7, 8, 9, 10, 19, 20] (L' := [(0, pp b_x0), (4, pp b_20), (5, pp b_21), (7, pp b_24), (8, vi 2), (9, vi 0), (10, vi 1), (19, vi 2), (20, vi 0)]) (by kernel_rfl)
      refine Vk.dDone (by kernel_rfl) ?_
      refine hK41 _ _ ?_
      clear hK41
      refine Vk.region ?_
      refine qpe 3 [(0, pp b_x0), (4, pp b_20), (5, pp b_21), (7, pp b_24), (8, vi 2), (9, vi 0), (10, vi 2), (19, vi 2), (20, vi 0)] hs fun a hs => hKL38 _ _ ?_
      clear hKL38
      refine Vk.unroll fun KL46 hKL46 => ?_
      refine Vk.seq fun K47 hK47 => ?_
      refine qsr fun K48 hK48 => ?_
      refine qpe 3 [(0, pp b_x0), (4, pp b_20), (5, pp b_21), (7, pp b_24), (8, vi 2), (9, vi 0), (10, vi 2), (19, vi 2), (20, vi 0), (27, .bool false)] hs fun a hs => hK48 _ _ ?_
      clear hK48
      refine qcf hs ?_
      refine wp_exit ?_
      refine hK35 _ _ ?_
      clear hK35
      refine Vk.region ?_
      refine qpe 2 [(0, pp b_x0), (4, pp b_20), (5, pp b_21), (7, pp b_24), (8, vi 2), (19, vi 2), (20, vi 1)] hs fun a hs => hKL32 _ _ ?_
      clear hKL32
      refine Vk.unroll fun KL49 hKL49 => ?_
      refine qsr fun K50 hK50 => ?_
      refine qpe 1 [(0, pp b_x0), (4, pp b_20), (5, pp b_21), (7, pp b_24), (8, vi 2), (19, vi 2), (20, vi 1), (21, .bool true)] hs fun a hs => hK50 _ _ ?_
      clear hK50
      refine Vk.seq fun K51 hK51 => ?_
      refine qct hs ?_
      refine wp_skip ?_
      refine hK51 _ _ ?_
      clear hK51
      refine Vk.seq fun K52 hK52 => ?_
      refine wp_block ?_
      refine qsr fun K53 hK53 => ?_
      refine qpe 2 [(0, pp b_x0), (4, pp b_20), (5, pp b_21), (7, pp b_24), (8, vi 2), (9, vi 1), (19, vi 2), (20, vi 1)] hs fun a hs => hK53 _ _ ?_
      clear hK53
      refine qsr fun K54 hK54 => ?_
      refine qpe 3 [(0, pp b_x0), (4, pp b_20), (5, pp b_21), (7, pp b_24), (8, vi 2), (9, vi 1), (10, vi 2), (19, vi 2), (20, vi 1)] hs fun a hs => hK54 _ _ ?_
      clear hK54
      refine wp_block ?_
      refine Vk.unroll0 40 ?_
      refine Vk.unroll fun KL55 hKL55 => ?_
      refine Vk.seq fun K56 hK56 => ?_
      refine qsr fun K57 hK57 => ?_
      refine qpe 3 [(0, pp b_x0), (4, pp b_20), (5, pp b_21), (7, pp b_24), (8, vi 2), (9, vi 1), (10, vi 2), (19, vi 2), (20, vi 1), (27, .bool false)] hs fun a hs => hK57 _ _ ?_
      clear hK57
      refine qcf hs ?_
      refine wp_exit ?_
      refine hK52 _ _ ?_
      clear hK52
      refine Vk.region ?_
      refine qpe 2 [(0, pp b_x0), (4, pp b_20), (5, pp b_21), (7, pp b_24), (8, vi 2), (19, vi 2), (20, vi 2)] hs fun a hs => hKL49 _ _ ?_
      clear hKL49
      refine Vk.unroll fun KL58 hKL58 => ?_
      refine qsr fun K59 hK59 => ?_
      refine qpe 1 [(0, pp b_x0), (4, pp b_20), (5, pp b_21), (7, pp b_24), (8, vi 2), (19, vi 2), (20, vi 2), (21, .bool false)] hs fun a hs => hK59 _ _ ?_
      clear hK59
      refine Vk.seq fun K60 hK60 => ?_
      refine qcf hs ?_
      refine wp_exit ?_
      refine hK30 _ _ ?_
      clear hK30
      refine Vk.seq fun K61 hK61 => ?_
      refine qsr fun K62 hK62 => ?_
      refine qpe 2 [(0, pp b_x0), (4, pp b_20), (5, pp b_21), (7, pp b_24), (8, vi 2), (40, vi 2), (41, vi 0)] hs fun a hs => hK62 _ _ ?_
      clear hK62
      refine wp_block ?_
      refine Vk.unroll0 40 ?_
      refine Vk.unroll fun KL63 hKL63 => ?_
      refine qsr fun K64 hK64 => ?_
      refine qpe 1 [(0, pp b_x0), (4, pp b_20), (5, pp b_21), (7, pp b_24), (8, vi 2), (40, vi 2), (41, vi 0), (42, .bool true)] hs fun a hs => hK64 _ _ ?_
      clear hK64
      refine Vk.seq fun K65 hK65 => ?_
      refine qct hs ?_
      refine wp_skip ?_
      refine hK65 _ _ ?_
      clear hK65
      refine Vk.seq fun K66 hK66 => ?_
      refine wp_block ?_
      refine qsr fun K67 hK67 => ?_
      refine qpe 2 [(0, pp b_x0), (4, pp b_20), (5, pp b_21), (7, pp b_24), (8, vi 2), (11, vi 0), (40, vi 2), (41, vi 0)] hs fun a hs => hK67 _ _ ?_
      clear hK67
      refine qsr fun K68 hK68 => ?_
      refine qpe 2 [(0, pp b_x0), (4, pp b_20), (5, pp b_21), (7, pp b_24), (8, vi 2), (11, vi 0), (40, vi 2), (41, vi 0), (44, vi 2), (45, vi 0)] hs fun a hs => hK68 _ _ ?_
      clear hK68
      refine wp_block ?_
      refine Vk.unroll0 40 ?_
      refine Vk.unroll fun KL69 hKL69 => ?_
      refine qsr fun K70 hK70 => ?_
      refine qpe 1 [(0, pp b_x0), (4, pp b_20), (5, pp b_21), (7, pp b_24), (8, vi 2), (11, vi 0), (40, vi 2), (41, vi 0), (44, vi 2), (45, vi 0), (46, .bool true)] hs fun a hs => hK70 _ _ ?_
      clear hK70
      refine Vk.seq fun K71 hK71 => ?_
      refine qct hs ?_
      refine wp_skip ?_
      refine hK71 _ _ ?_
      clear hK71
      refine Vk.seq fun K72 hK72 => ?_
      refine wp_block ?_
      refine qsr fun K73 hK73 => ?_
      refine qpe 2 [(0, pp b_x0), (4, pp b_20), (5, pp b_21), (7, pp b_24), (8, vi 2), (11, vi 0), (12, vi 0), (40, vi 2), (41, vi 0), (44, vi 2), (45, vi 0)] hs fun a hs => hK73 _ _ ?_
      clear hK73
      obtain ⟨C_74, hC_74⟩ : ∃ X0 : List HP, X0 = (pt b_24 (blk [cp b_x0, C.map (some b_23), ci 0, ci 0, ci 0, ci 0, ci 0, ci 0, ci 0, ci 0, ci 0] 188) :: pt b_23 (.map #[⟨.agg (vals [ci 0, ci 1]), vi v_45.1, 0⟩] 1) :: pt b_21 (blk x2 28) :: pt b_20 (blk x1 28) :: pt b_4 (blk [ci 0, ci 0, ci 0] 28) :: pt b_3 (blk x2 28) :: pt b_2 (blk x1 28) :: S) := ⟨_, rfl⟩
      refine qdr 18 κ C_74 hs fun w hs hqC_74 => ?_
      have hcz : Own κ w (pt b_24 (blk [cp b_x0, C.map (some b_23), ci 0, ci 0, ci 0, ci 0, ci 0, ci 0, ci 0, ci 0, ci 0] 188) :: pt b_23 (.map #[⟨.agg (vals [ci 0, ci 1]), vi v_45.1, 0⟩] 1) :: pt b_21 (blk x2 28) :: pt b_20 (blk x1 28) :: pt b_4 (blk [ci 0, ci 0, ci 0] 28) :: pt b_3 (blk x2 28) :: pt b_2 (blk x1 28) :: S) := (Own.to hs.own [1, 2, 3, 4, 5, 6, 7] 8 (by kernel_rfl) (by kernel_rfl))
      have hcl : Own κ w C_74 := by rw [hC_74]; exact hcz
      refine qdp (fuel := 5) [0, 1, 2, 3, 4, 5, 6, 7, 9, 10, 11, 14, 15, 16] hs hcl hqC_74 fun a hs => ?_
      obtain ⟨v_76, h_75, hm⟩ := bind_t hm
      refine Vk.dTakeT (i := 8) (some 56) (vi v_76) hs (by kernel_rfl) hqC_74 hcl (by kernel_rfl) (by kernel_rfl) (op := (.load 3 (.tmp 55))) (by kernel_rfl) (by kernel_rfl) (fun w hw o ho => by rw [hC_74] at hw; exact run_load1 (c := ci v_76) ho (by kernel_rfl) (by kernel_rfl) (Cell.own 3 rfl (getI_some h_75)) _ hw) fun a hs => ?_
      obtain ⟨v_78, h_77, hm⟩ := bind_t hm
      refine Vk.dTakeT (i := 12) (some 60) (vi v_78) hs (by kernel_rfl) hqC_74 hcl (by kernel_rfl) (by kernel_rfl) (op := (.load 3 (.tmp 59))) (by kernel_rfl) (by kernel_rfl) (fun w hw o ho => by rw [hC_74] at hw; exact run_load1 (c := ci v_78) ho (by kernel_rfl) (by kernel_rfl) (Cell.own 2 rfl (getI_some h_77)) _ hw) fun a hs => ?_
      obtain ⟨v_81, h_80, hm⟩ := bind_t hm
      refine Vk.dOnly (i := 13) (by kernel_rfl) (Vk.call (some 61) 150 #[pp b_x0, vi 7, vi 0, vi v_76, vi v_78] hs (by kernel_rfl) (by kernel_rfl) (by kernel_rfl) ?_)
      refine (wire_Machine_Two.ok k v_45.2 7 0 v_76 v_78 v_81 h_80 κ w (pt b_24 (blk [cp b_x0, C.map (some b_23), ci 0, ci 0, ci 0, ci 0, ci 0, ci 0, ci 0, ci 0, ci 0] 188) :: pt b_23 (.map #[⟨.agg (vals [ci 0, ci 1]), vi v_45.1, 0⟩] 1) :: pt b_21 (blk x2 28) :: pt b_20 (blk x1 28) :: pt b_4 (blk [ci 0, ci 0, ci 0] 28) :: pt b_3 (blk x2 28) :: pt b_2 (blk x1 28) :: S) b_x0 (Own.to hs.own [0, 1, 2, 3, 4, 5, 6, 7] 8 (by kernel_rfl) (by kernel_rfl))).mono ?_
      rintro _ w ⟨rfl, how⟩
      refine ⟨_, _, _, rfl, how, fun a hs => ?_⟩
      replace hcl : Own κ w C_74 := by rw [hC_74]; exact (Own.to hs.own [1, 2, 3, 4, 5, 6, 7] 8 (by kernel_rfl) (by kernel_rfl))
      refine ⟨fun _ => hcl, ?_⟩
      refine qdp (fuel := 1) [17] hs hcl hqC_74 fun a hs => ?_
      refine Vk.dOnly (i := 18) (by kernel_rfl) (Vk.store1 (b := b_24) (ty := 3) (x := (.tmp 65)) (y := (.tmp 61)) (off := 2) (ci v_81.1) 1 hs (by kernel_rfl) (by kernel_rfl) (by kernel_rfl) (by kernel_rfl) (by kernel_rfl) (by kernel_rfl) rfl (Nat.le_of_ble_eq_true (by kernel_rfl)) fun a w hs => ?_)
      refine ⟨fun h => absurd h (by decide), ?_⟩
      replace hs := hs.pick [0, 4, 5, 7, 8, 11, 40, 41, 44, 45] (L' := [(0, pp b_x0), (4, pp b_20), (5, pp b_21), (7, pp b_24), (8, vi 2), (11, vi 0), (40, vi 2), (41, vi 0), (44, vi 2), (45, vi 0)]) (by kernel_rfl)
      refine Vk.dDone (by kernel_rfl) ?_
      refine hK72 _ _ ?_
      clear hK72
      refine Vk.region ?_
      refine qpe 2 [(0, pp b_x0), (4, pp b_20), (5, pp b_21), (7, pp b_24), (8, vi 2), (11, vi 0), (40, vi 2), (41, vi 0), (44, vi 2), (45, vi 1)] hs fun a hs => hKL69 _ _ ?_
      clear hKL69
      refine Vk.unroll fun KL82 hKL82 => ?_
      refine qsr fun K83 hK83 => ?_
      refine qpe 1 [(0, pp b_x0), (4, pp b_20), (5, pp b_21), (7, pp b_24), (8, vi 2), (11, vi 0), (40, vi 2), (41, vi 0), (44, vi 2), (45, vi 1), (46, .bool true)] hs fun a hs => hK83 _ _ ?_
      clear hK83
      refine Vk.seq fun K84 hK84 => ?_
      refine qct hs ?_
      refine wp_skip ?_
      refine hK84 _ _ ?_
      clear hK84
      refine Vk.seq fun K85 hK85 => ?_
      refine wp_block ?_
      refine qsr fun K86 hK86 => ?_
      refine qpe 2 [(0, pp b_x0), (4, pp b_20), (5, pp b_21), (7, pp b_24), (8, vi 2), (11, vi 0), (12, vi 1), (40, vi 2), (41, vi 0), (44, vi 2), (45, vi 1)] hs fun a hs => hK86 _ _ ?_
      clear hK86
      obtain ⟨C_87, hC_87⟩ : ∃ X0 : List HP, X0 = (pt b_24 (blk [cp b_x0, C.map (some b_23), ci v_81.1, ci 0, ci 0, ci 0, ci 0, ci 0, ci 0, ci 0, ci 0] 188) :: pt b_23 (.map #[⟨.agg (vals [ci 0, ci 1]), vi v_45.1, 0⟩] 1) :: pt b_21 (blk x2 28) :: pt b_20 (blk x1 28) :: pt b_4 (blk [ci 0, ci 0, ci 0] 28) :: pt b_3 (blk x2 28) :: pt b_2 (blk x1 28) :: S) := ⟨_, rfl⟩
      refine qdr 18 κ C_87 hs fun w hs hqC_87 => ?_
      have hcz : Own κ w (pt b_24 (blk [cp b_x0, C.map (some b_23), ci v_81.1, ci 0, ci 0, ci 0, ci 0, ci 0, ci 0, ci 0, ci 0] 188) :: pt b_23 (.map #[⟨.agg (vals [ci 0, ci 1]), vi v_45.1, 0⟩] 1) :: pt b_21 (blk x2 28) :: pt b_20 (blk x1 28) :: pt b_4 (blk [ci 0, ci 0, ci 0] 28) :: pt b_3 (blk x2 28) :: pt b_2 (blk x1 28) :: S) := (Own.to hs.own [1, 2, 3, 4, 5, 6, 7] 8 (by kernel_rfl) (by kernel_rfl))
      have hcl : Own κ w C_87 := by rw [hC_87]; exact hcz
      refine qdp (fuel := 5) [0, 1, 2, 3, 4, 5, 6, 7, 9, 10, 11, 14, 15, 16] hs hcl hqC_87 fun a hs => ?_
      obtain ⟨v_89, h_88, hm⟩ := bind_t hm
      refine Vk.dTakeT (i := 8) (some 56) (vi v_89) hs (by kernel_rfl) hqC_87 hcl (by kernel_rfl) (by kernel_rfl) (op := (.load 3 (.tmp 55))) (by kernel_rfl) (by kernel_rfl) (fun w hw o ho => by rw [hC_87] at hw; exact run_load1 (c := ci v_89) ho (by kernel_rfl) (by kernel_rfl) (Cell.own 3 rfl (getI_some h_88)) _ hw) fun a hs => ?_
      obtain ⟨v_91, h_90, hm⟩ := bind_t hm
      refine Vk.dTakeT (i := 12) (some 60) (vi v_91) hs (by kernel_rfl) hqC_87 hcl (by kernel_rfl) (by kernel_rfl) (op := (.load 3 (.tmp 59))) (by kernel_rfl) (by kernel_rfl) (fun w hw o ho => by rw [hC_87] at hw; exact run_load1 (c := ci v_91) ho (by kernel_rfl) (by kernel_rfl) (Cell.own 2 rfl (getI_some h_90)) _ hw) fun a hs => ?_
      obtain ⟨v_94, h_93, hm⟩ := bind_t hm
      refine Vk.dOnly (i := 13) (by kernel_rfl) (Vk.call (some 61) 150 #[pp b_x0, vi 7, vi 0, vi v_89, vi v_91] hs (by kernel_rfl) (by kernel_rfl) (by kernel_rfl) ?_)
      refine (wire_Machine_Two.ok k v_81.2 7 0 v_89 v_91 v_94 h_93 κ w (pt b_24 (blk [cp b_x0, C.map (some b_23), ci v_81.1, ci 0, ci 0, ci 0, ci 0, ci 0, ci 0, ci 0, ci 0] 188) :: pt b_23 (.map #[⟨.agg (vals [ci 0, ci 1]), vi v_45.1, 0⟩] 1) :: pt b_21 (blk x2 28) :: pt b_20 (blk x1 28) :: pt b_4 (blk [ci 0, ci 0, ci 0] 28) :: pt b_3 (blk x2 28) :: pt b_2 (blk x1 28) :: S) b_x0 (Own.to hs.own [0, 1, 2, 3, 4, 5, 6, 7] 8 (by kernel_rfl) (by kernel_rfl))).mono ?_
      rintro _ w ⟨rfl, how⟩
      refine ⟨_, _, _, rfl, how, fun a hs => ?_⟩
      replace hcl : Own κ w C_87 := by rw [hC_87]; exact (Own.to hs.own [1, 2, 3, 4, 5, 6, 7] 8 (by kernel_rfl) (by kernel_rfl))
      refine ⟨fun _ => hcl, ?_⟩
      refine qdp (fuel := 1) [17] hs hcl hqC_87 fun a hs => ?_
      refine Vk.dOnly (i := 18) (by kernel_rfl) (Vk.store1 (b := b_24) (ty := 3) (x := (.tmp 65)) (y := (.tmp 61)) (off := 3) (ci v_94.1) 1 hs (by kernel_rfl) (by kernel_rfl) (by kernel_rfl) (by kernel_rfl) (by kernel_rfl) (by kernel_rfl) rfl (Nat.le_of_ble_eq_true (by kernel_rfl)) fun a w hs => ?_)
      refine ⟨fun h => absurd h (by decide), ?_⟩
      replace hs := hs.pick [0, 4, 5, 7, 8, 11, 40, 41, 44, 45] (L' := [(0, pp b_x0), (4, pp b_20), (5, pp b_21), (7, pp b_24), (8, vi 2), (11, vi 0), (40, vi 2), (41, vi 0), (44, vi 2), (45, vi 1)]) (by kernel_rfl)
      refine Vk.dDone (by kernel_rfl) ?_
      refine hK85 _ _ ?_
      clear hK85
      refine Vk.region ?_
      refine qpe 2 [(0, pp b_x0), (4, pp b_20), (5, pp b_21), (7, pp b_24), (8, vi 2), (11, vi 0), (40, vi 2), (41, vi 0), (44, vi 2), (45, vi 2)] hs fun a hs => hKL82 _ _ ?_
      clear hKL82
      refine Vk.unroll fun KL95 hKL95 => ?_
      refine qsr fun K96 hK96 => ?_
      refine qpe 1 [(0, pp b_x0), (4, pp b_20), (5, pp b_21), (7, pp b_24), (8, vi 2), (11, vi 0), (40, vi 2), (41, vi 0), (44, vi 2), (45, vi 2), (46, .bool false)] hs fun a hs => hK96 _ _ ?_
      clear hK96
      refine Vk.seq fun K97 hK97 => ?_
      refine qcf hs ?_
      refine wp_exit ?_
      refine hK66 _ _ ?_
      clear hK66
      refine Vk.region ?_
      refine qpe 2 [(0, pp b_x0), (4, pp b_20), (5, pp b_21), (7, pp b_24), (8, vi 2), (40, vi 2), (41, vi 1)] hs fun a hs => hKL63 _ _ ?_
      clear hKL63
      refine Vk.unroll fun KL98 hKL98 => ?_
      refine qsr fun K99 hK99 => ?_
      refine qpe 1 [(0, pp b_x0), (4, pp b_20), (5, pp b_21), (7, pp b_24), (8, vi 2), (40, vi 2), (41, vi 1), (42, .bool true)] hs fun a hs => hK99 _ _ ?_
      clear hK99
      refine Vk.seq fun K100 hK100 => ?_
      refine qct hs ?_
      refine wp_skip ?_
      refine hK100 _ _ ?_
      clear hK100
      refine Vk.seq fun K101 hK101 => ?_
      refine wp_block ?_
      refine qsr fun K102 hK102 => ?_
      refine qpe 2 [(0, pp b_x0), (4, pp b_20), (5, pp b_21), (7, pp b_24), (8, vi 2), (11, vi 1), (40, vi 2), (41, vi 1)] hs fun a hs => hK102 _ _ ?_
      clear hK102
      refine qsr fun K103 hK103 => ?_
      refine qpe 2 [(0, pp b_x0), (4, pp b_20), (5, pp b_21), (7, pp b_24), (8, vi 2), (11, vi 1), (40, vi 2), (41, vi 1), (44, vi 2), (45, vi 0)] hs fun a hs => hK103 _ _ ?_
      clear hK103
      refine wp_block ?_
      refine Vk.unroll0 40 ?_
      refine Vk.unroll fun KL104 hKL104 => ?_
      refine qsr fun K105 hK105 => ?_
      refine qpe 1 [(0, pp b_x0), (4, pp b_20), (5, pp b_21), (7, pp b_24), (8, vi 2), (11, vi 1), (40, vi 2), (41, vi 1), (44, vi 2), (45, vi 0), (46, .bool true)] hs fun a hs => hK105 _ _ ?_
      clear hK105
      refine Vk.seq fun K106 hK106 => ?_
      refine qct hs ?_
      refine wp_skip ?_
      refine hK106 _ _ ?_
      clear hK106
      refine Vk.seq fun K107 hK107 => ?_
      refine wp_block ?_
      refine qsr fun K108 hK108 => ?_
      refine qpe 2 [(0, pp b_x0), (4, pp b_20), (5, pp b_21), (7, pp b_24), (8, vi 2), (11, vi 1), (12, vi 0), (40, vi 2), (41, vi 1), (44, vi 2), (45, vi 0)] hs fun a hs => hK108 _ _ ?_
      clear hK108
      obtain ⟨C_109, hC_109⟩ : ∃ X0 : List HP, X0 = (pt b_24 (blk [cp b_x0, C.map (some b_23), ci v_81.1, ci v_94.1, ci 0, ci 0, ci 0, ci 0, ci 0, ci 0, ci 0] 188) :: pt b_23 (.map #[⟨.agg (vals [ci 0, ci 1]), vi v_45.1, 0⟩] 1) :: pt b_21 (blk x2 28) :: pt b_20 (blk x1 28) :: pt b_4 (blk [ci 0, ci 0, ci 0] 28) :: pt b_3 (blk x2 28) :: pt b_2 (blk x1 28) :: S) := ⟨_, rfl⟩
      refine qdr 18 κ C_109 hs fun w hs hqC_109 => ?_
      have hcz : Own κ w (pt b_24 (blk [cp b_x0, C.map (some b_23), ci v_81.1, ci v_94.1, ci 0, ci 0, ci 0, ci 0, ci 0, ci 0, ci 0] 188) :: pt b_23 (.map #[⟨.agg (vals [ci 0, ci 1]), vi v_45.1, 0⟩] 1) :: pt b_21 (blk x2 28) :: pt b_20 (blk x1 28) :: pt b_4 (blk [ci 0, ci 0, ci 0] 28) :: pt b_3 (blk x2 28) :: pt b_2 (blk x1 28) :: S) := (Own.to hs.own [1, 2, 3, 4, 5, 6, 7] 8 (by kernel_rfl) (by kernel_rfl))
      have hcl : Own κ w C_109 := by rw [hC_109]; exact hcz
      refine qdp (fuel := 5) [0, 1, 2, 3, 4, 5, 6, 7, 9, 10, 11, 14, 15, 16] hs hcl hqC_109 fun a hs => ?_
      obtain ⟨v_111, h_110, hm⟩ := bind_t hm
      refine Vk.dTakeT (i := 8) (some 56) (vi v_111) hs (by kernel_rfl) hqC_109 hcl (by kernel_rfl) (by kernel_rfl) (op := (.load 3 (.tmp 55))) (by kernel_rfl) (by kernel_rfl) (fun w hw o ho => by rw [hC_109] at hw; exact run_load1 (c := ci v_111) ho (by kernel_rfl) (by kernel_rfl) (Cell.own 3 rfl (getI_some h_110)) _ hw) fun a hs => ?_
      obtain ⟨v_113, h_112, hm⟩ := bind_t hm
      refine Vk.dTakeT (i := 12) (some 60) (vi v_113) hs (by kernel_rfl) hqC_109 hcl (by kernel_rfl) (by kernel_rfl) (op := (.load 3 (.tmp 59))) (by kernel_rfl) (by kernel_rfl) (fun w hw o ho => by rw [hC_109] at hw; exact run_load1 (c := ci v_113) ho (by kernel_rfl) (by kernel_rfl) (Cell.own 2 rfl (getI_some h_112)) _ hw) fun a hs => ?_
      obtain ⟨v_116, h_115, hm⟩ := bind_t hm
      refine Vk.dOnly (i := 13) (by kernel_rfl) (Vk.call (some 61) 150 #[pp b_x0, vi 7, vi 1, vi v_111, vi v_113] hs (by kernel_rfl) (by kernel_rfl) (by kernel_rfl) ?_)
      refine (wire_Machine_Two.ok k v_94.2 7 1 v_111 v_113 v_116 h_115 κ w (pt b_24 (blk [cp b_x0, C.map (some b_23), ci v_81.1, ci v_94.1, ci 0, ci 0, ci 0, ci 0, ci 0, ci 0, ci 0] 188) :: pt b_23 (.map #[⟨.agg (vals [ci 0, ci 1]), vi v_45.1, 0⟩] 1) :: pt b_21 (blk x2 28) :: pt b_20 (blk x1 28) :: pt b_4 (blk [ci 0, ci 0, ci 0] 28) :: pt b_3 (blk x2 28) :: pt b_2 (blk x1 28) :: S) b_x0 (Own.to hs.own [0, 1, 2, 3, 4, 5, 6, 7] 8 (by kernel_rfl) (by kernel_rfl))).mono ?_
      rintro _ w ⟨rfl, how⟩
      refine ⟨_, _, _, rfl, how, fun a hs => ?_⟩
      replace hcl : Own κ w C_109 := by rw [hC_109]; exact (Own.to hs.own [1, 2, 3, 4, 5, 6, 7] 8 (by kernel_rfl) (by kernel_rfl))
      refine ⟨fun _ => hcl, ?_⟩
      refine qdp (fuel := 1) [17] hs hcl hqC_109 fun a hs => ?_
      refine Vk.dOnly (i := 18) (by kernel_rfl) (Vk.store1 (b := b_24) (ty := 3) (x := (.tmp 65)) (y := (.tmp 61)) (off := 5) (ci v_116.1) 1 hs (by kernel_rfl) (by kernel_rfl) (by kernel_rfl) (by kernel_rfl) (by kernel_rfl) (by kernel_rfl) rfl (Nat.le_of_ble_eq_true (by kernel_rfl)) fun a w hs => ?_)
      refine ⟨fun h => absurd h (by decide), ?_⟩
      replace hs := hs.pick [0, 4, 5, 7, 8, 11, 40, 41, 44, 45] (L' := [(0, pp b_x0), (4, pp b_20), (5, pp b_21), (7, pp b_24), (8, vi 2), (11, vi 1), (40, vi 2), (41, vi 1), (44, vi 2), (45, vi 0)]) (by kernel_rfl)
      refine Vk.dDone (by kernel_rfl) ?_
      refine hK107 _ _ ?_
      clear hK107
      refine Vk.region ?_
      refine qpe 2 [(0, pp b_x0), (4, pp b_20), (5, pp b_21), (7, pp b_24), (8, vi 2), (11, vi 1), (40, vi 2), (41, vi 1), (44, vi 2), (45, vi 1)] hs fun a hs => hKL104 _ _ ?_
      clear hKL104
      refine Vk.unroll fun KL117 hKL117 => ?_
      refine qsr fun K118 hK118 => ?_
      refine qpe 1 [(0, pp b_x0), (4, pp b_20), (5, pp b_21), (7, pp b_24), (8, vi 2), (11, vi 1), (40, vi 2), (41, vi 1), (44, vi 2), (45, vi 1), (46, .bool true)] hs fun a hs => hK118 _ _ ?_
      clear hK118
      refine Vk.seq fun K119 hK119 => ?_
      refine qct hs ?_
      refine wp_skip ?_
      refine hK119 _ _ ?_
      clear hK119
      refine Vk.seq fun K120 hK120 => ?_
      refine wp_block ?_
      refine qsr fun K121 hK121 => ?_
      refine qpe 2 [(0, pp b_x0), (4, pp b_20), (5, pp b_21), (7, pp b_24), (8, vi 2), (11, vi 1), (12, vi 1), (40, vi 2), (41, vi 1), (44, vi 2), (45, vi 1)] hs fun a hs => hK121 _ _ ?_
      clear hK121
      obtain ⟨C_122, hC_122⟩ : ∃ X0 : List HP, X0 = (pt b_24 (blk [cp b_x0, C.map (some b_23), ci v_81.1, ci v_94.1, ci 0, ci v_116.1, ci 0, ci 0, ci 0, ci 0, ci 0] 188) :: pt b_23 (.map #[⟨.agg (vals [ci 0, ci 1]), vi v_45.1, 0⟩] 1) :: pt b_21 (blk x2 28) :: pt b_20 (blk x1 28) :: pt b_4 (blk [ci 0, ci 0, ci 0] 28) :: pt b_3 (blk x2 28) :: pt b_2 (blk x1 28) :: S) := ⟨_, rfl⟩
      refine qdr 18 κ C_122 hs fun w hs hqC_122 => ?_
      have hcz : Own κ w (pt b_24 (blk [cp b_x0, C.map (some b_23), ci v_81.1, ci v_94.1, ci 0, ci v_116.1, ci 0, ci 0, ci 0, ci 0, ci 0] 188) :: pt b_23 (.map #[⟨.agg (vals [ci 0, ci 1]), vi v_45.1, 0⟩] 1) :: pt b_21 (blk x2 28) :: pt b_20 (blk x1 28) :: pt b_4 (blk [ci 0, ci 0, ci 0] 28) :: pt b_3 (blk x2 28) :: pt b_2 (blk x1 28) :: S) := (Own.to hs.own [1, 2, 3, 4, 5, 6, 7] 8 (by kernel_rfl) (by kernel_rfl))
      have hcl : Own κ w C_122 := by rw [hC_122]; exact hcz
      refine qdp (fuel := 5) [0, 1, 2, 3, 4, 5, 6, 7, 9, 10, 11, 14, 15, 16] hs hcl hqC_122 fun a hs => ?_
      obtain ⟨v_124, h_123, hm⟩ := bind_t hm
      refine Vk.dTakeT (i := 8) (some 56) (vi v_124) hs (by kernel_rfl) hqC_122 hcl (by kernel_rfl) (by kernel_rfl) (op := (.load 3 (.tmp 55))) (by kernel_rfl) (by kernel_rfl) (fun w hw o ho => by rw [hC_122] at hw; exact run_load1 (c := ci v_124) ho (by kernel_rfl) (by kernel_rfl) (Cell.own 3 rfl (getI_some h_123)) _ hw) fun a hs => ?_
      obtain ⟨v_126, h_125, hm⟩ := bind_t hm
      refine Vk.dTakeT (i := 12) (some 60) (vi v_126) hs (by kernel_rfl) hqC_122 hcl (by kernel_rfl) (by kernel_rfl) (op := (.load 3 (.tmp 59))) (by kernel_rfl) (by kernel_rfl) (fun w hw o ho => by rw [hC_122] at hw; exact run_load1 (c := ci v_126) ho (by kernel_rfl) (by kernel_rfl) (Cell.own 2 rfl (getI_some h_125)) _ hw) fun a hs => ?_
      obtain ⟨v_129, h_128, hm⟩ := bind_t hm
      refine Vk.dOnly (i := 13) (by kernel_rfl) (Vk.call (some 61) 150 #[pp b_x0, vi 7, vi 1, vi v_124, vi v_126] hs (by kernel_rfl) (by kernel_rfl) (by kernel_rfl) ?_)
      refine (wire_Machine_Two.ok k v_116.2 7 1 v_124 v_126 v_129 h_128 κ w (pt b_24 (blk [cp b_x0, C.map (some b_23), ci v_81.1, ci v_94.1, ci 0, ci v_116.1, ci 0, ci 0, ci 0, ci 0, ci 0] 188) :: pt b_23 (.map #[⟨.agg (vals [ci 0, ci 1]), vi v_45.1, 0⟩] 1) :: pt b_21 (blk x2 28) :: pt b_20 (blk x1 28) :: pt b_4 (blk [ci 0, ci 0, ci 0] 28) :: pt b_3 (blk x2 28) :: pt b_2 (blk x1 28) :: S) b_x0 (Own.to hs.own [0, 1, 2, 3, 4, 5, 6, 7] 8 (by kernel_rfl) (by kernel_rfl))).mono ?_
      rintro _ w ⟨rfl, how⟩
      refine ⟨_, _, _, rfl, how, fun a hs => ?_⟩
      replace hcl : Own κ w C_122 := by rw [hC_122]; exact (Own.to hs.own [1, 2, 3, 4, 5, 6, 7] 8 (by kernel_rfl) (by kernel_rfl))
      refine ⟨fun _ => hcl, ?_⟩
      refine qdp (fuel := 1) [17] hs hcl hqC_122 fun a hs => ?_
      refine Vk.dOnly (i := 18) (by kernel_rfl) (Vk.store1 (b := b_24) (ty := 3) (x := (.tmp 65)) (y := (.tmp 61)) (off := 6) (ci v_129.1) 1 hs (by kernel_rfl) (by kernel_rfl) (by kernel_rfl) (by kernel_rfl) (by kernel_rfl) (by kernel_rfl) rfl (Nat.le_of_ble_eq_true (by kernel_rfl)) fun a w hs => ?_)
      refine ⟨fun h => absurd h (by decide), ?_⟩
      replace hs := hs.pick [0, 4, 5, 7, 8, 11, 40, 41, 44, 45] (L' := [(0, pp b_x0), (4, pp b_20), (5, pp b_21), (7, pp b_24), (8, vi 2), (11, vi 1), (40, vi 2), (41, vi 1), (44, vi 2), (45, vi 1)]) (by kernel_rfl)
      refine Vk.dDone (by kernel_rfl) ?_
      refine hK120 _ _ ?_
      clear hK120
      refine Vk.region ?_
      refine qpe 2 [(0, pp b_x0), (4, pp b_20), (5, pp b_21), (7, pp b_24), (8, vi 2), (11, vi 1), (40, vi 2), (41, vi 1), (44, vi 2), (45, vi 2)] hs fun a hs => hKL117 _ _ ?_
      clear hKL117
      refine Vk.unroll fun KL130 hKL130 => ?_
      refine qsr fun K131 hK131 => ?_
      refine qpe 1 [(0, pp b_x0), (4, pp b_20), (5, pp b_21), (7, pp b_24), (8, vi 2), (11, vi 1), (40, vi 2), (41, vi 1), (44, vi 2), (45, vi 2), (46, .bool false)] hs fun a hs => hK131 _ _ ?_
      clear hK131
      refine Vk.seq fun K132 hK132 => ?_
      refine qcf hs ?_
      refine wp_exit ?_
      refine hK101 _ _ ?_
      clear hK101
      refine Vk.region ?_
      refine qpe 2 [(0, pp b_x0), (4, pp b_20), (5, pp b_21), (7, pp b_24), (8, vi 2), (40, vi 2), (41, vi 2)] hs fun a hs => hKL98 _ _ ?_
      clear hKL98
      refine Vk.unroll fun KL133 hKL133 => ?_
      refine qsr fun K134 hK134 => ?_
      refine qpe 1 [(0, pp b_x0), (4, pp b_20), (5, pp b_21), (7, pp b_24), (8, vi 2), (40, vi 2), (41, vi 2), (42, .bool false)] hs fun a hs => hK134 _ _ ?_
      clear hK134
      refine Vk.seq fun K135 hK135 => ?_
      refine qcf hs ?_
      refine wp_exit ?_
      refine hK61 _ _ ?_
      clear hK61
      refine qsr fun K136 hK136 => ?_
      refine qpe 2 [(6, pp b_24)] hs fun a hs => hK136 _ _ ?_
      clear hK136
      refine wp_ret ?_
      refine hKP18 _ _ ?_
      refine hKR18 _ _ ?_
      refine Vk.ret1 (P := Try.prog) (fn := Try.f91) (pp b_24) hs rfl (by kernel_rfl) ⟨_, _, _, rfl, hs.own, fun a hs => ?_⟩
      refine qpe 1 [(0, pp b_x0), (6, pp b_4), (7, pp b_24)] hs fun a hs => hK15 _ _ ?_
      clear hK15
      refine qsr fun K137 hK137 => ?_
      refine qpu 3 hs fun a hs => ?_
      refine Vk.step (Vk.call (some 23) 92 #[pp b_24, .func (.func 95) #[pp b_24] #[]] hs (by kernel_rfl) (by kernel_rfl) (by kernel_rfl) ?_)
      refine Vk.enterI [(0, pp b_24), (1, .func (.func 95) #[pp b_24] #[])] Try.func92 rfl Try.ntmps92 (by kernel_rfl) (Nat.le_of_ble_eq_true (by kernel_rfl)) hs.own fun KR138 hKR138 hKP138 a hs => ?_
      refine qsr fun K139 hK139 => ?_
      refine Vk.step (Vk.alloc 4 28 [ci 0, ci 0, ci 0] hs (by kernel_rfl) (by kernel_rfl) (by kernel_rfl) fun b_140 w a hs => ?_)
      refine qpe 0 [(0, pp b_24), (1, .func (.func 95) #[pp b_24] #[]), (4, pp b_140)] hs fun a hs => hK139 _ _ ?_
      clear hK139
      refine qsr fun K141 hK141 => ?_
      refine qpu 2 hs fun a hs => ?_
      refine Vk.step (Vk.alloc 5 28 [ci 0, ci 0, ci 0] hs (by kernel_rfl) (by kernel_rfl) (by kernel_rfl) fun b_142 w a hs => ?_)
      refine Vk.step (Vk.storeA (b := b_142) (ty := 28) (x := (.tmp 5)) (y := (.tmp 10)) (sz := 3) [ci (-1), ci (-1), ci (-1)] 0 hs (by kernel_rfl) (by kernel_rfl) (by kernel_rfl) (by kernel_rfl) (by kernel_rfl) rfl (by kernel_rfl) rfl (Eq.trans (b := 3) rfl (Eq.symm rfl)) fun a w hs => ?_)
      refine qpe 0 [(0, pp b_24), (1, .func (.func 95) #[pp b_24] #[]), (4, pp b_140), (5, pp b_142)] hs fun a hs => hK141 _ _ ?_
      clear hK141
      refine qsr fun K143 hK143 => ?_
      refine qpu 3 hs fun a hs => ?_
      refine qld 3 (cp b_x0) hs rfl fun a hs => ?_
      obtain ⟨g_144, hs⟩ := hs.unex 2 rfl
      obtain ⟨v_147, h_146, hm⟩ := bind_t hm
      refine Vk.step (Vk.call (some 15) 89 #[pp b_x0] hs (by kernel_rfl) (by kernel_rfl) (by kernel_rfl) ?_)
      refine (wire_Machine_N.ok k v_129.2 v_147 h_146 κ w (pt b_142 (blk [ci (-1), ci (-1), ci (-1)] 28) :: pt b_140 (blk [ci 0, ci 0, ci 0] 28) :: pt b_24 (blk [cp b_x0, C.map (some b_23), ci v_81.1, ci v_94.1, ci 0, ci v_116.1, ci v_129.1, ci 0, ci 0, ci 0, ci 0] 188) :: pt b_23 (.map #[⟨.agg (vals [ci 0, ci 1]), vi v_45.1, 0⟩] 1) :: pt b_21 (blk x2 28) :: pt b_20 (blk x1 28) :: pt b_4 (blk [ci 0, ci 0, ci 0] 28) :: pt b_3 (blk x2 28) :: pt b_2 (blk x1 28) :: S) b_x0 g_144 (Own.to hs.own [2, 0, 1, 3, 4, 5, 6, 7, 8, 9] 10 (by kernel_rfl) (by kernel_rfl))).mono ?_
      rintro _ w ⟨rfl, how⟩
      refine ⟨_, _, _, rfl, how, fun a hs => ?_⟩
      rcases Bool.eq_false_or_eq_true (v_147 == 2) with hb | hb
      · replace hm := bif_t hm hb
        obtain rfl := Vk.of_beq hb
        refine qpe 1 [(0, pp b_24), (1, .func (.func 95) #[pp b_24] #[]), (4, pp b_140), (5, pp b_142), (6, vi 2)] hs fun a hs => hK143 _ _ ?_
        clear hK143
        refine Vk.seq fun K148 hK148 => ?_
        refine qsr fun K149 hK149 => ?_
        refine qpe 2 [(0, pp b_24), (1, .func (.func 95) #[pp b_24] #[]), (4, pp b_140), (5, pp b_142), (6, vi 2), (16, vi 2), (17, vi 0)] hs fun a hs => hK149 _ _ ?_
        clear hK149
        refine wp_block ?_
        refine Vk.unroll0 40 ?_
        refine Vk.unroll fun KL150 hKL150 => ?_
        refine qsr fun K151 hK151 => ?_
        refine qpe 1 [(0, pp b_24), (1, .func (.func 95) #[pp b_24] #[]), (4, pp b_140), (5, pp b_142), (6, vi 2), (16, vi 2), (17, vi 0), (18, .bool true)] hs fun a hs => hK151 _ _ ?_
        clear hK151
        refine Vk.seq fun K152 hK152 => ?_
        refine qct hs ?_
        refine wp_skip ?_
        refine hK152 _ _ ?_
        clear hK152
        refine Vk.seq fun K153 hK153 => ?_
        refine wp_block ?_
        refine qsr fun K154 hK154 => ?_
        refine qpe 2 [(0, pp b_24), (1, .func (.func 95) #[pp b_24] #[]), (4, pp b_140), (5, pp b_142), (6, vi 2), (7, vi 0), (16, vi 2), (17, vi 0)] hs fun a hs => hK154 _ _ ?_
        clear hK154
        refine qsr fun K155 hK155 => ?_
        refine qpu 8 hs fun a hs => ?_
        refine qld 3 (ci v_81.1) hs rfl fun a hs => ?_
        refine qpu 2 hs fun a hs => ?_
        refine Vk.step (Vk.store1 (b := b_142) (ty := 3) (x := (.tmp 30)) (y := (.tmp 28)) (off := 0) (ci v_81.1) 1 hs (by kernel_rfl) (by kernel_rfl) (by kernel_rfl) (by kernel_rfl) (by kernel_rfl) (by kernel_rfl) rfl (Nat.le_of_ble_eq_true (by kernel_rfl)) fun a w hs => ?_)
        refine qpe 0 [(0, pp b_24), (1, .func (.func 95) #[pp b_24] #[]), (4, pp b_140), (5, pp b_142), (6, vi 2), (7, vi 0), (16, vi 2), (17, vi 0)] hs fun a hs => hK155 _ _ ?_
        clear hK155
        refine qsr fun K156 hK156 => ?_
        refine qpe 2 [(0, pp b_24), (1, .func (.func 95) #[pp b_24] #[]), (4, pp b_140), (5, pp b_142), (6, vi 2), (7, vi 0), (16, vi 2), (17, vi 0), (31, vi 2), (32, vi 0)] hs fun a hs => hK156 _ _ ?_
        clear hK156
        refine wp_block ?_
        refine Vk.unroll0 40 ?_
        refine Vk.unroll fun KL157 hKL157 => ?_
        refine qsr fun K158 hK158 => ?_
        refine qpe 1 [(0, pp b_24), (1, .func (.func 95) #[pp b_24] #[]), (4, pp b_140), (5, pp b_142), (6, vi 2), (7, vi 0), (16, vi 2), (17, vi 0), (31, vi 2), (32, vi 0), (33, .bool true)] hs fun a hs => hK158 _ _ ?_
        clear hK158
        refine Vk.seq fun K159 hK159 => ?_
        refine qct hs ?_
        refine wp_skip ?_
        refine hK159 _ _ ?_
        clear hK159
        refine Vk.seq fun K160 hK160 => ?_
        refine wp_block ?_
        refine qsr fun K161 hK161 => ?_
        refine qpe 2 [(0, pp b_24), (1, .func (.func 95) #[pp b_24] #[]), (4, pp b_140), (5, pp b_142), (6, vi 2), (7, vi 0), (8, vi 0), (16, vi 2), (17, vi 0), (31, vi 2), (32, vi 0)] hs fun a hs => hK161 _ _ ?_
        clear hK161
        refine qsr fun K162 hK162 => ?_
        refine qpe 3 [(0, pp b_24), (1, .func (.func 95) #[pp b_24] #[]), (4, pp b_140), (5, pp b_142), (6, vi 2), (7, vi 0), (8, vi 0), (16, vi 2), (17, vi 0), (31, vi 2), (32, vi 0), (37, .bool false)] hs fun a hs => hK162 _ _ ?_
        clear hK162
        refine qcf hs ?_
        refine wp_skip ?_
        refine hK160 _ _ ?_
        clear hK160
        refine Vk.region ?_
        refine qpe 2 [(0, pp b_24), (1, .func (.func 95) #[pp b_24] #[]), (4, pp b_140), (5, pp b_142), (6, vi 2), (7, vi 0), (16, vi 2), (17, vi 0), (31, vi 2), (32, vi 1)] hs fun a hs => hKL157 _ _ ?_
        clear hKL157
        refine Vk.unroll fun KL163 hKL163 => ?_
        refine qsr fun K164 hK164 => ?_
        refine qpe 1 [(0, pp b_24), (1, .func (.func 95) #[pp b_24] #[]), (4, pp b_140), (5, pp b_142), (6, vi 2), (7, vi 0), (16, vi 2), (17, vi 0), (31, vi 2), (32, vi 1), (33, .bool true)] hs fun a hs => hK164 _ _ ?_
        clear hK164
        refine Vk.seq fun K165 hK165 => ?_
        refine qct hs ?_
        refine wp_skip ?_
        refine hK165 _ _ ?_
        clear hK165
        refine Vk.seq fun K166 hK166 => ?_
        refine wp_block ?_
        refine qsr fun K167 hK167 => ?_
        refine qpe 2 [(0, pp b_24), (1, .func (.func 95) #[pp b_24] #[]), (4, pp b_140), (5, pp b_142), (6, vi 2), (7, vi 0), (8, vi 1), (16, vi 2), (17, vi 0), (31, vi 2), (32, vi 1)] hs fun a hs => hK167 _ _ ?_
        clear hK167
        refine qsr fun K168 hK168 => ?_
        refine qpe 3 [(0, pp b_24), (1, .func (.func 95) #[pp b_24] #[]), (4, pp b_140), (5, pp b_142), (6, vi 2), (7, vi 0), (8, vi 1), (16, vi 2), (17, vi 0), (31, vi 2), (32, vi 1), (37, .bool true)] hs fun a hs => hK168 _ _ ?_
        clear hK168
        refine qct hs ?_
        obtain ⟨C_169, hC_169⟩ : ∃ X0 : List HP, X0 = (pt b_142 (blk [ci v_81.1, ci (-1), ci (-1)] 28) :: pt b_140 (blk [ci 0, ci 0, ci 0] 28) :: pt b_24 (blk [cp b_x0, C.map (some b_23), ci v_81.1, ci v_94.1, ci 0, ci v_116.1, ci v_129.1, ci 0, ci 0, ci 0, ci 0] 188) :: pt b_23 (.map #[⟨.agg (vals [ci 0, ci 1]), vi v_45.1, 0⟩] 1) :: pt b_21 (blk x2 28) :: pt b_20 (blk x1 28) :: pt b_4 (blk [ci 0, ci 0, ci 0] 28) :: pt b_3 (blk x2 28) :: pt b_2 (blk x1 28) :: S) := ⟨_, rfl⟩
        refine qdr 17 κ C_169 hs fun w hs hqC_169 => ?_
        have hcz : Own κ w (pt b_142 (blk [ci v_81.1, ci (-1), ci (-1)] 28) :: pt b_140 (blk [ci 0, ci 0, ci 0] 28) :: pt b_24 (blk [cp b_x0, C.map (some b_23), ci v_81.1, ci v_94.1, ci 0, ci v_116.1, ci v_129.1, ci 0, ci 0, ci 0, ci 0] 188) :: pt b_23 (.map #[⟨.agg (vals [ci 0, ci 1]), vi v_45.1, 0⟩] 1) :: pt b_21 (blk x2 28) :: pt b_20 (blk x1 28) :: pt b_4 (blk [ci 0, ci 0, ci 0] 28) :: pt b_3 (blk x2 28) :: pt b_2 (blk x1 28) :: S) := (Own.to hs.own [1, 2, 3, 4, 5, 6, 7, 8, 9] 10 (by kernel_rfl) (by kernel_rfl))
        have hcl : Own κ w C_169 := by rw [hC_169]; exact hcz
        refine qdp (fuel := 6) [0, 1, 2, 3, 5, 6, 7, 8, 10, 11, 12, 15] hs hcl hqC_169 fun a hs => ?_
        refine qdl 4 2 (cp b_x0) hs hcl hqC_169 hC_169 rfl fun a hs => ?_
        refine qdl 9 0 (ci v_81.1) hs hcl hqC_169 hC_169 rfl fun a hs => ?_
        refine Vk.dOnly (i := 13) (by kernel_rfl) (Vk.call (some 51) 95 #[pp b_24, vi 0, vi 1] hs (by kernel_rfl) (by kernel_rfl) (by kernel_rfl) ?_)
        refine Vk.enterI [(0, pp b_24), (1, vi 0), (2, vi 1)] Try.func95 rfl Try.ntmps95 (by kernel_rfl) (Nat.le_of_ble_eq_true (by kernel_rfl)) hs.own fun KR170 hKR170 hKP170 a hs => ?_
        refine qsr fun K171 hK171 => ?_
        refine qpe 1 [(0, pp b_24), (1, vi 0), (2, vi 1)] hs fun a hs => hK171 _ _ ?_
        clear hK171
        refine Vk.seq fun K172 hK172 => ?_
        refine qsr fun K173 hK173 => ?_
        refine qpe 3 [(0, pp b_24), (1, vi 0), (2, vi 1), (9, .bool true)] hs fun a hs => hK173 _ _ ?_
        clear hK173
        refine qct hs ?_
        refine qsr fun K174 hK174 => ?_
        refine qpu 3 hs fun a hs => ?_
        refine Vk.step (Vk.call (some 13) 151 #[pp b_24, vi 0, vi 1] hs (by kernel_rfl) (by kernel_rfl) (by kernel_rfl) ?_)
        refine Vk.enterI [(0, pp b_24), (1, vi 0), (2, vi 1)] Try.func151 rfl Try.ntmps151 (by kernel_rfl) (Nat.le_of_ble_eq_true (by kernel_rfl)) hs.own fun KR175 hKR175 hKP175 a hs => ?_
        refine qsr fun K176 hK176 => ?_
        refine qpe 1 [(0, pp b_24), (1, vi 0), (2, vi 1)] hs fun a hs => hK176 _ _ ?_
        clear hK176
        refine qsr fun K177 hK177 => ?_
        refine qpu 3 hs fun a hs => ?_
        refine qld 3 (C.map (some b_23)) hs rfl fun a hs => ?_
        refine qpu 7 hs fun a hs => ?_
        refine Vk.step (Vk.value (some 18) (vi v_45.1) hs (by kernel_rfl) (op := (.lookup 186 (.tmp 10) (.tmp 17) false)) (by kernel_rfl) (fun o ho => run_lookup (b := b_23) (key := .agg (vals [ci 0, ci 1])) 4 rfl ho (by kernel_rfl) (by kernel_rfl) (by kernel_rfl) _ hs.own) fun a hs => ?_)
        refine qpe 1 [(6, vi v_45.1)] hs fun a hs => hK177 _ _ ?_
        clear hK177
        refine wp_ret ?_
        refine hKP175 _ _ ?_
        refine hKR175 _ _ ?_
        refine Vk.ret1 (P := Try.prog) (fn := Try.f151) (vi v_45.1) hs rfl (by kernel_rfl) ⟨_, _, _, rfl, hs.own, fun a hs => ?_⟩
        refine qpe 1 [(6, vi v_45.1)] hs fun a hs => hK174 _ _ ?_
        clear hK174
        refine wp_ret ?_
        refine hKP170 _ _ ?_
        refine hKR170 _ _ ?_
        refine Vk.ret1 (P := Try.prog) (fn := Try.f95) (vi v_45.1) hs rfl (by kernel_rfl) ⟨_, _, _, rfl, hs.own, fun a hs => ?_⟩
        replace hcl : Own κ w C_169 := by rw [hC_169]; exact (Own.to hs.own [1, 2, 3, 4, 5, 6, 7, 8, 9] 10 (by kernel_rfl) (by kernel_rfl))
        refine ⟨fun _ => hcl, ?_⟩
        replace hs := hs.toEx (Twire_Machine.parts b_x0 v_129.2) g_144 0 rfl
        obtain ⟨v_180, h_179, hm⟩ := bind_t hm
        refine Vk.dOnly (i := 14) (by kernel_rfl) (Vk.call (some 52) 150 #[pp b_x0, vi 5, vi 0, vi v_81.1, vi v_45.1] hs (by kernel_rfl) (by kernel_rfl) (by kernel_rfl) ?_)
        refine (wire_Machine_Two.ok k v_129.2 5 0 v_81.1 v_45.1 v_180 h_179 κ w (pt b_142 (blk [ci v_81.1, ci (-1), ci (-1)] 28) :: pt b_140 (blk [ci 0, ci 0, ci 0] 28) :: pt b_24 (blk [cp b_x0, C.map (some b_23), ci v_81.1, ci v_94.1, ci 0, ci v_116.1, ci v_129.1, ci 0, ci 0, ci 0, ci 0] 188) :: pt b_23 (.map #[⟨.agg (vals [ci 0, ci 1]), vi v_45.1, 0⟩] 1) :: pt b_21 (blk x2 28) :: pt b_20 (blk x1 28) :: pt b_4 (blk [ci 0, ci 0, ci 0] 28) :: pt b_3 (blk x2 28) :: pt b_2 (blk x1 28) :: S) b_x0 (Own.to hs.own [0, 1, 2, 3, 4, 5, 6, 7, 8, 9] 10 (by kernel_rfl) (by kernel_rfl))).mono ?_
        rintro _ w ⟨rfl, how⟩
        refine ⟨_, _, _, rfl, how, fun a hs => ?_⟩
        replace hcl : Own κ w C_169 := by rw [hC_169]; exact (Own.to hs.own [1, 2, 3, 4, 5, 6, 7, 8, 9] 10 (by kernel_rfl) (by kernel_rfl))
        refine ⟨fun _ => hcl, ?_⟩
        refine qdp (fuel := 1) [16] hs hcl hqC_169 fun a hs => ?_
        refine Vk.dOnly (i := 17) (by kernel_rfl) (Vk.store1 (b := b_142) (ty := 3) (x := (.tmp 54)) (y := (.tmp 52)) (off := 0) (ci v_180.1) 1 hs (by kernel_rfl) (by kernel_rfl) (by kernel_rfl) (by kernel_rfl) (by kernel_rfl) (by kernel_rfl) rfl (Nat.le_of_ble_eq_true (by kernel_rfl)) fun a w hs => ?_)
        refine ⟨fun h => absurd h (by decide), ?_⟩
        replace hs := hs.pick [0, 1, 4, 5, 6, 7, 16, 17, 31, 32] (L' := [(0, pp b_24), (1, .func (.func 95) #[pp b_24] #[]), (4, pp b_140), (5, pp b_142), (6, vi 2), (7, vi 0), (16, vi 2), (17, vi 0), (31, vi 2), (32, vi 1)]) (by kernel_rfl)
        refine Vk.dDone (by kernel_rfl) ?_
        refine hK166 _ _ ?_
        clear hK166
        refine Vk.region ?_
        refine qpe 2 [(0, pp b_24), (1, .func (.func 95) #[pp b_24] #[]), (4, pp b_140), (5, pp b_142), (6, vi 2), (7, vi 0), (16, vi 2), (17, vi 0), (31, vi 2), (32, vi 2)] hs fun a hs => hKL163 _ _ ?_
        clear hKL163
        refine Vk.unroll fun KL181 hKL181 => ?_
        refine qsr fun K182 hK182 => ?_
        refine qpe 1 [(0, pp b_24), (1, .func (.func 95) #[pp b_24] #[]), (4, pp b_140), (5, pp b_142), (6, vi 2), (7, vi 0), (16, vi 2), (17, vi 0), (31, vi 2), (32, vi 2), (33, .bool false)] hs fun a hs => hK182 _ _ ?_
        clear hK182
        refine Vk.seq fun K183 hK183 => ?_
        refine qcf hs ?_
        refine wp_exit ?_
        refine hK153 _ _ ?_
        clear hK153
        refine Vk.region ?_
        refine qpe 2 [(0, pp b_24), (1, .func (.func 95) #[pp b_24] #[]), (4, pp b_140), (5, pp b_142), (6, vi 2), (16, vi 2), (17, vi 1)] hs fun a hs => hKL150 _ _ ?_
        clear hKL150
        refine Vk.unroll fun KL184 hKL184 => ?_
        refine qsr fun K185 hK185 => ?_
        refine qpe 1 [(0, pp b_24), (1, .func (.func 95) #[pp b_24] #[]), (4, pp b_140), (5, pp b_142), (6, vi 2), (16, vi 2), (17, vi 1), (18, .bool true)] hs fun a hs => hK185 _ _ ?_
        clear hK185
        refine Vk.seq fun K186 hK186 => ?_
        refine qct hs ?_
        refine wp_skip ?_
        refine hK186 _ _ ?_
        clear hK186
        refine Vk.seq fun K187 hK187 => ?_
        refine wp_block ?_
        refine qsr fun K188 hK188 => ?_
        refine qpe 2 [(0, pp b_24), (1, .func (.func 95) #[pp b_24] #[]), (4, pp b_140), (5, pp b_142), (6, vi 2), (7, vi 1), (16, vi 2), (17, vi 1)] hs fun a hs => hK188 _ _ ?_
        clear hK188
        refine qsr fun K189 hK189 => ?_
        refine qpu 8 hs fun a hs => ?_
        refine qld 3 (ci v_129.1) hs rfl fun a hs => ?_
        refine qpu 2 hs fun a hs => ?_
        refine Vk.step (Vk.store1 (b := b_142) (ty := 3) (x := (.tmp 30)) (y := (.tmp 28)) (off := 1) (ci v_129.1) 1 hs (by kernel_rfl) (by kernel_rfl) (by kernel_rfl) (by kernel_rfl) (by kernel_rfl) (by kernel_rfl) rfl (Nat.le_of_ble_eq_true (by kernel_rfl)) fun a w hs => ?_)
        refine qpe 0 [(0, pp b_24), (1, .func (.func 95) #[pp b_24] #[]), (4, pp b_140), (5, pp b_142), (6, vi 2), (7, vi 1), (16, vi 2), (17, vi 1)] hs fun a hs => hK189 _ _ ?_
        clear hK189
        refine qsr fun K190 hK190 => ?_
        refine qpe 2 [(0, pp b_24), (1, .func (.func 95) #[pp b_24] #[]), (4, pp b_140), (5, pp b_142), (6, vi 2), (7, vi 1), (16, vi 2), (17, vi 1), (31, vi 2), (32, vi 0)] hs fun a hs => hK190 _ _ ?_
        clear hK190
        refine wp_block ?_
        refine Vk.unroll0 40 ?_
        refine Vk.unroll fun KL191 hKL191 => ?_
        refine qsr fun K192 hK192 => ?_
        refine qpe 1 [(0, pp b_24), (1, .func (.func 95) #[pp b_24] #[]), (4, pp b_140), (5, pp b_142), (6, vi 2), (7, vi 1), (16, vi 2), (17, vi 1), (31, vi 2), (32, vi 0), (33, .bool true)] hs fun a hs => hK192 _ _ ?_
        clear hK192
        refine Vk.seq fun K193 hK193 => ?_
        refine qct hs ?_
        refine wp_skip ?_
        refine hK193 _ _ ?_
        clear hK193
        refine Vk.seq fun K194 hK194 => ?_
        refine wp_block ?_
        refine qsr fun K195 hK195 => ?_
        refine qpe 2 [(0, pp b_24), (1, .func (.func 95) #[pp b_24] #[]), (4, pp b_140), (5, pp b_142), (6, vi 2), (7, vi 1), (8, vi 0), (16, vi 2), (17, vi 1), (31, vi 2), (32, vi 0)] hs fun a hs => hK195 _ _ ?_
        clear hK195
        refine qsr fun K196 hK196 => ?_
        refine qpe 3 [(0, pp b_24), (1, .func (.func 95) #[pp b_24] #[]), (4, pp b_140), (5, pp b_142), (6, vi 2), (7, vi 1), (8, vi 0), (16, vi 2), (17, vi 1), (31, vi 2), (32, vi 0), (37, .bool true)] hs fun a hs => hK196 _ _ ?_
        clear hK196
        refine qct hs ?_
        obtain ⟨C_197, hC_197⟩ : ∃ X0 : List HP, X0 = (pt b_142 (blk [ci v_180.1, ci v_129.1, ci (-1)] 28) :: pt b_140 (blk [ci 0, ci 0, ci 0] 28) :: pt b_24 (blk [cp b_x0, C.map (some b_23), ci v_81.1, ci v_94.1, ci 0, ci v_116.1, ci v_129.1, ci 0, ci 0, ci 0, ci 0] 188) :: pt b_23 (.map #[⟨.agg (vals [ci 0, ci 1]), vi v_45.1, 0⟩] 1) :: pt b_21 (blk x2 28) :: pt b_20 (blk x1 28) :: pt b_4 (blk [ci 0, ci 0, ci 0] 28) :: pt b_3 (blk x2 28) :: pt b_2 (blk x1 28) :: S) := ⟨_, rfl⟩
        refine qdr 17 κ C_197 hs fun w hs hqC_197 => ?_
        have hcz : Own κ w (pt b_142 (blk [ci v_180.1, ci v_129.1, ci (-1)] 28) :: pt b_140 (blk [ci 0, ci 0, ci 0] 28) :: pt b_24 (blk [cp b_x0, C.map (some b_23), ci v_81.1, ci v_94.1, ci 0, ci v_116.1, ci v_129.1, ci 0, ci 0, ci 0, ci 0] 188) :: pt b_23 (.map #[⟨.agg (vals [ci 0, ci 1]), vi v_45.1, 0⟩] 1) :: pt b_21 (blk x2 28) :: pt b_20 (blk x1 28) :: pt b_4 (blk [ci 0, ci 0, ci 0] 28) :: pt b_3 (blk x2 28) :: pt b_2 (blk x1 28) :: S) := (Own.to hs.own [1, 2, 3, 4, 5, 6, 7, 8, 9] 10 (by kernel_rfl) (by kernel_rfl))
        have hcl : Own κ w C_197 := by rw [hC_197]; exact hcz
        refine qdp (fuel := 6) [0, 1, 2, 3, 5, 6, 7, 8, 10, 11, 12, 15] hs hcl hqC_197 fun a hs => ?_
        refine qdl 4 2 (cp b_x0) hs hcl hqC_197 hC_197 rfl fun a hs => ?_
        refine qdl 9 0 (ci v_129.1) hs hcl hqC_197 hC_197 rfl fun a hs => ?_
        refine Vk.dOnly (i := 13) (by kernel_rfl) (Vk.call (some 51) 95 #[pp b_24, vi 1, vi 0] hs (by kernel_rfl) (by kernel_rfl) (by kernel_rfl) ?_)
        refine Vk.enterI [(0, pp b_24), (1, vi 1), (2, vi 0)] Try.func95 rfl Try.ntmps95 (by kernel_rfl) (Nat.le_of_ble_eq_true (by kernel_rfl)) hs.own fun KR198 hKR198 hKP198 a hs => ?_
        refine qsr fun K199 hK199 => ?_
        refine qpe 1 [(0, pp b_24), (1, vi 1), (2, vi 0)] hs fun a hs => hK199 _ _ ?_
        clear hK199
        refine Vk.seq fun K200 hK200 => ?_
        refine qsr fun K201 hK201 => ?_
        refine qpe 3 [(0, pp b_24), (1, vi 1), (2, vi 0), (9, .bool false)] hs fun a hs => hK201 _ _ ?_
        clear hK201
        refine qcf hs ?_
        refine wp_skip ?_
        refine hK200 _ _ ?_
        clear hK200
        refine Vk.seq fun K202 hK202 => ?_
        obtain ⟨C_203, hC_203⟩ : ∃ X0 : List HP, X0 = (pt b_142 (blk [ci v_180.1, ci v_129.1, ci (-1)] 28) :: pt b_140 (blk [ci 0, ci 0, ci 0] 28) :: pt b_24 (blk [cp b_x0, C.map (some b_23), ci v_81.1, ci v_94.1, ci 0, ci v_116.1, ci v_129.1, ci 0, ci 0, ci 0, ci 0] 188) :: pt b_23 (.map #[⟨.agg (vals [ci 0, ci 1]), vi v_45.1, 0⟩] 1) :: pt b_21 (blk x2 28) :: pt b_20 (blk x1 28) :: pt b_4 (blk [ci 0, ci 0, ci 0] 28) :: pt b_3 (blk x2 28) :: pt b_2 (blk x1 28) :: S) := ⟨_, rfl⟩
        refine qdr 33 κ C_203 hs fun w hs hqC_203 => ?_
        have hcz : Own κ w (pt b_142 (blk [ci v_180.1, ci v_129.1, ci (-1)] 28) :: pt b_140 (blk [ci 0, ci 0, ci 0] 28) :: pt b_24 (blk [cp b_x0, C.map (some b_23), ci v_81.1, ci v_94.1, ci 0, ci v_116.1, ci v_129.1, ci 0, ci 0, ci 0, ci 0] 188) :: pt b_23 (.map #[⟨.agg (vals [ci 0, ci 1]), vi v_45.1, 0⟩] 1) :: pt b_21 (blk x2 28) :: pt b_20 (blk x1 28) :: pt b_4 (blk [ci 0, ci 0, ci 0] 28) :: pt b_3 (blk x2 28) :: pt b_2 (blk x1 28) :: S) := (Own.to hs.own [1, 2, 3, 4, 5, 6, 7, 8, 9] 10 (by kernel_rfl) (by kernel_rfl))
        have hcl : Own κ w C_203 := by rw [hC_203]; exact hcz
        refine qdp (fuel := 8) [0, 1, 2, 4, 5, 6, 7, 9, 10, 11, 12, 14, 15, 16, 17, 18, 19, 20, 23, 24, 25, 26, 27, 28, 29] hs hcl hqC_203 fun a hs => ?_
        refine qdl 3 2 (cp b_x0) hs hcl hqC_203 hC_203 rfl fun a hs => ?_
        refine qdl 8 2 (cp b_x0) hs hcl hqC_203 hC_203 rfl fun a hs => ?_
        refine qdl 21 2 (ci v_94.1) hs hcl hqC_203 hC_203 rfl fun a hs => ?_
        refine qdl 30 2 (ci v_116.1) hs hcl hqC_203 hC_203 rfl fun a hs => ?_
        refine Vk.dOnly (i := 13) (by kernel_rfl) (Vk.call (some 27) 151 #[pp b_24, vi 0, vi 1] hs (by kernel_rfl) (by kernel_rfl) (by kernel_rfl) ?_)
        refine Vk.enterI [(0, pp b_24), (1, vi 0), (2, vi 1)] Try.func151 rfl Try.ntmps151 (by kernel_rfl) (Nat.le_of_ble_eq_true (by kernel_rfl)) hs.own fun KR204 hKR204 hKP204 a hs => ?_
        refine qsr fun K205 hK205 => ?_
        refine qpe 1 [(0, pp b_24), (1, vi 0), (2, vi 1)] hs fun a hs => hK205 _ _ ?_
        clear hK205
        refine qsr fun K206 hK206 => ?_
        refine qpu 3 hs fun a hs => ?_
        refine qld 3 (C.map (some b_23)) hs rfl fun a hs => ?_
        refine qpu 7 hs fun a hs => ?_
        refine Vk.step (Vk.value (some 18) (vi v_45.1) hs (by kernel_rfl) (op := (.lookup 186 (.tmp 10) (.tmp 17) false)) (by kernel_rfl) (fun o ho => run_lookup (b := b_23) (key := .agg (vals [ci 0, ci 1])) 4 rfl ho (by kernel_rfl) (by kernel_rfl) (by kernel_rfl) _ hs.own) fun a hs => ?_)
        refine qpe 1 [(6, vi v_45.1)] hs fun a hs => hK206 _ _ ?_
        clear hK206
        refine wp_ret ?_
        refine hKP204 _ _ ?_
        refine hKR204 _ _ ?_
        refine Vk.ret1 (P := Try.prog) (fn := Try.f151) (vi v_45.1) hs rfl (by kernel_rfl) ⟨_, _, _, rfl, hs.own, fun a hs => ?_⟩
        replace hcl : Own κ w C_203 := by rw [hC_203]; exact (Own.to hs.own [1, 2, 3, 4, 5, 6, 7, 8, 9] 10 (by kernel_rfl) (by kernel_rfl))
        refine ⟨fun _ => hcl, ?_⟩
        obtain ⟨v_209, h_208, hm⟩ := bind_t hm
        refine Vk.dOnly (i := 22) (by kernel_rfl) (Vk.call (some 36) 150 #[pp b_x0, vi 5, vi 1, vi v_45.1, vi v_94.1] hs (by kernel_rfl) (by kernel_rfl) (by kernel_rfl) ?_)
        refine (wire_Machine_Two.ok k v_180.2 5 1 v_45.1 v_94.1 v_209 h_208 κ w (pt b_142 (blk [ci v_180.1, ci v_129.1, ci (-1)] 28) :: pt b_140 (blk [ci 0, ci 0, ci 0] 28) :: pt b_24 (blk [cp b_x0, C.map (some b_23), ci v_81.1, ci v_94.1, ci 0, ci v_116.1, ci v_129.1, ci 0, ci 0, ci 0, ci 0] 188) :: pt b_23 (.map #[⟨.agg (vals [ci 0, ci 1]), vi v_45.1, 0⟩] 1) :: pt b_21 (blk x2 28) :: pt b_20 (blk x1 28) :: pt b_4 (blk [ci 0, ci 0, ci 0] 28) :: pt b_3 (blk x2 28) :: pt b_2 (blk x1 28) :: S) b_x0 (Own.to hs.own [0, 1, 2, 3, 4, 5, 6, 7, 8, 9] 10 (by kernel_rfl) (by kernel_rfl))).mono ?_
        rintro _ w ⟨rfl, how⟩
        refine ⟨_, _, _, rfl, how, fun a hs => ?_⟩
        replace hcl : Own κ w C_203 := by rw [hC_203]; exact (Own.to hs.own [1, 2, 3, 4, 5, 6, 7, 8, 9] 10 (by kernel_rfl) (by kernel_rfl))
        refine ⟨fun _ => hcl, ?_⟩
        obtain ⟨v_212, h_211, hm⟩ := bind_t hm
        refine Vk.dOnly (i := 31) (by kernel_rfl) (Vk.call (some 45) 150 #[pp b_x0, vi 5, vi 1, vi v_209.1, vi v_116.1] hs (by kernel_rfl) (by kernel_rfl) (by kernel_rfl) ?_)
        refine (wire_Machine_Two.ok k v_209.2 5 1 v_209.1 v_116.1 v_212 h_211 κ w (pt b_142 (blk [ci v_180.1, ci v_129.1, ci (-1)] 28) :: pt b_140 (blk [ci 0, ci 0, ci 0] 28) :: pt b_24 (blk [cp b_x0, C.map (some b_23), ci v_81.1, ci v_94.1, ci 0, ci v_116.1, ci v_129.1, ci 0, ci 0, ci 0, ci 0] 188) :: pt b_23 (.map #[⟨.agg (vals [ci 0, ci 1]), vi v_45.1, 0⟩] 1) :: pt b_21 (blk x2 28) :: pt b_20 (blk x1 28) :: pt b_4 (blk [ci 0, ci 0, ci 0] 28) :: pt b_3 (blk x2 28) :: pt b_2 (blk x1 28) :: S) b_x0 (Own.to hs.own [0, 1, 2, 3, 4, 5, 6, 7, 8, 9] 10 (by kernel_rfl) (by kernel_rfl))).mono ?_
        rintro _ w ⟨rfl, how⟩
        refine ⟨_, _, _, rfl, how, fun a hs => ?_⟩
        replace hcl : Own κ w C_203 := by rw [hC_203]; exact (Own.to hs.own [1, 2, 3, 4, 5, 6, 7, 8, 9] 10 (by kernel_rfl) (by kernel_rfl))
        refine ⟨fun _ => hcl, ?_⟩
        refine qdp (fuel := 0) [32] hs hcl hqC_203 fun a hs => ?_
        replace hs := hs.pick [6] (L' := [(6, vi v_212.1)]) (by kernel_rfl)
        refine Vk.dDone (by kernel_rfl) ?_
        refine hK202 _ _ ?_
        clear hK202
        refine wp_ret ?_
        refine hKP198 _ _ ?_
        refine hKR198 _ _ ?_
        refine Vk.ret1 (P := Try.prog) (fn := Try.f95) (vi v_212.1) hs rfl (by kernel_rfl) ⟨_, _, _, rfl, hs.own, fun a hs => ?_⟩
        replace hcl : Own κ w C_197 := by rw [hC_197]; exact (Own.to hs.own [1, 2, 3, 4, 5, 6, 7, 8, 9] 10 (by kernel_rfl) (by kernel_rfl))
        refine ⟨fun _ => hcl, ?_⟩
        obtain ⟨v_215, h_214, hm⟩ := bind_t hm
        refine Vk.dOnly (i := 14) (by kernel_rfl) (Vk.call (some 52) 150 #[pp b_x0, vi 5, vi 1, vi v_129.1, vi v_212.1] hs (by kernel_rfl) (by kernel_rfl) (by kernel_rfl) ?_)
        refine (wire_Machine_Two.ok k v_212.2 5 1 v_129.1 v_212.1 v_215 h_214 κ w (pt b_142 (blk [ci v_180.1, ci v_129.1, ci (-1)] 28) :: pt b_140 (blk [ci 0, ci 0, ci 0] 28) :: pt b_24 (blk [cp b_x0, C.map (some b_23), ci v_81.1, ci v_94.1, ci 0, ci v_116.1, ci v_129.1, ci 0, ci 0, ci 0, ci 0] 188) :: pt b_23 (.map #[⟨.agg (vals [ci 0, ci 1]), vi v_45.1, 0⟩] 1) :: pt b_21 (blk x2 28) :: pt b_20 (blk x1 28) :: pt b_4 (blk [ci 0, ci 0, ci 0] 28) :: pt b_3 (blk x2 28) :: pt b_2 (blk x1 28) :: S) b_x0 (Own.to hs.own [0, 1, 2, 3, 4, 5, 6, 7, 8, 9] 10 (by kernel_rfl) (by kernel_rfl))).mono ?_
        rintro _ w ⟨rfl, how⟩
        refine ⟨_, _, _, rfl, how, fun a hs => ?_⟩
        replace hcl : Own κ w C_197 := by rw [hC_197]; exact (Own.to hs.own [1, 2, 3, 4, 5, 6, 7, 8, 9] 10 (by kernel_rfl) (by kernel_rfl))
        refine ⟨fun _ => hcl, ?_⟩
        refine qdp (fuel := 1) [16] hs hcl hqC_197 fun a hs => ?_
        refine Vk.dOnly (i := 17) (by kernel_rfl) (Vk.store1 (b := b_142) (ty := 3) (x := (.tmp 54)) (y := (.tmp 52)) (off := 1) (ci v_215.1) 1 hs (by kernel_rfl) (by kernel_rfl) (by kernel_rfl) (by kernel_rfl) (by kernel_rfl) (by kernel_rfl) rfl (Nat.le_of_ble_eq_true (by kernel_rfl)) fun a w hs => ?_)
        refine ⟨fun h => absurd h (by decide), ?_⟩
        replace hs := hs.pick [0, 1, 4, 5, 6, 7, 16, 17, 31, 32] (L' := [(0, pp b_24), (1, .func (.func 95) #[pp b_24] #[]), (4, pp b_140), (5, pp b_142), (6, vi 2), (7, vi 1), (16, vi 2), (17, vi 1), (31, vi 2), (32, vi 0)]) (by kernel_rfl)
        refine Vk.dDone (by kernel_rfl) ?_
        refine hK194 _ _ ?_
        clear hK194
        refine Vk.region ?_
        refine qpe 2 [(0, pp b_24), (1, .func (.func 95) #[pp b_24] #[]), (4, pp b_140), (5, pp b_142), (6, vi 2), (7, vi 1), (16, vi 2), (17, vi 1), (31, vi 2), (32, vi 1)] hs fun a hs => hKL191 _ _ ?_
        clear hKL191
        refine Vk.unroll fun KL216 hKL216 => ?_
        refine qsr fun K217 hK217 => ?_
        refine qpe 1 [(0, pp b_24), (1, .func (.func 95) #[pp b_24] #[]), (4, pp b_140), (5, pp b_142), (6, vi 2), (7, vi 1), (16, vi 2), (17, vi 1), (31, vi 2), (32, vi 1), (33, .bool true)] hs fun a hs => hK217 _ _ ?_
        clear hK217
        refine Vk.seq fun K218 hK218 => ?_
        refine qct hs ?_
        refine wp_skip ?_
        refine hK218 _ _ ?_
        clear hK218
        refine Vk.seq fun K219 hK219 => ?_
        refine wp_block ?_
        refine qsr fun K220 hK220 => ?_
        refine qpe 2 [(0, pp b_24), (1, .func (.func 95) #[pp b_24] #[]), (4, pp b_140), (5, pp b_142), (6, vi 2), (7, vi 1), (8, vi 1), (16, vi 2), (17, vi 1), (31, vi 2), (32, vi 1)] hs fun a hs => hK220 _ _ ?_
        clear hK220
        refine qsr fun K221 hK221 => ?_
        refine qpe 3 [(0, pp b_24), (1, .func (.func 95) #[pp b_24] #[]), (4, pp b_140), (5, pp b_142), (6, vi 2), (7, vi 1), (8, vi 1), (16, vi 2), (17, vi 1), (31, vi 2), (32, vi 1), (37, .bool false)] hs fun a hs => hK221 _ _ ?_
        clear hK221
        refine qcf hs ?_
        refine wp_skip ?_
        refine hK219 _ _ ?_
        clear hK219
        refine Vk.region ?_
        refine qpe 2 [(0, pp b_24), (1, .func (.func 95) #[pp b_24] #[]), (4, pp b_140), (5, pp b_142), (6, vi 2), (7, vi 1), (16, vi 2), (17, vi 1), (31, vi 2), (32, vi 2)] hs fun a hs => hKL216 _ _ ?_
        clear hKL216
        refine Vk.unroll fun KL222 hKL222 => ?_
        refine qsr fun K223 hK223 => ?_
        refine qpe 1 [(0, pp b_24), (1, .func (.func 95) #[pp b_24] #[]), (4, pp b_140), (5, pp b_142), (6, vi 2), (7, vi 1), (16, vi 2), (17, vi 1), (31, vi 2), (32, vi 2), (33, .bool false)] hs fun a hs => hK223 _ _ ?_
        clear hK223
        refine Vk.seq fun K224 hK224 => ?_
        refine qcf hs ?_
        refine wp_exit ?_
        refine hK187 _ _ ?_
        clear hK187
        refine Vk.region ?_
        refine qpe 2 [(0, pp b_24), (1, .func (.func 95) #[pp b_24] #[]), (4, pp b_140), (5, pp b_142), (6, vi 2), (16, vi 2), (17, vi 2)] hs fun a hs => hKL184 _ _ ?_
        clear hKL184
        refine Vk.unroll fun KL225 hKL225 => ?_
        refine qsr fun K226 hK226 => ?_
        refine qpe 1 [(0, pp b_24), (1, .func (.func 95) #[pp b_24] #[]), (4, pp b_140), (5, pp b_142), (6, vi 2), (16, vi 2), (17, vi 2), (18, .bool false)] hs fun a hs => hK226 _ _ ?_
        clear hK226
        refine Vk.seq fun K227 hK227 => ?_
        refine qcf hs ?_
        refine wp_exit ?_
        refine hK148 _ _ ?_
        clear hK148
        refine qsr fun K228 hK228 => ?_
        refine qln 1 ([ci v_180.1, ci v_215.1, ci (-1)]) hs rfl fun a hs => ?_
        refine Vk.step (Vk.storeA (b := b_140) (ty := 28) (x := (.tmp 4)) (y := (.tmp 57)) (sz := 3) [ci v_180.1, ci v_215.1, ci (-1)] 2 hs (by kernel_rfl) (by kernel_rfl) (by kernel_rfl) (by kernel_rfl) (by kernel_rfl) rfl (by kernel_rfl) rfl (Eq.trans (b := 3) rfl (Eq.symm rfl)) fun a w hs => ?_)
        refine qpe 0 [(4, pp b_140)] hs fun a hs => hK228 _ _ ?_
        clear hK228
        refine wp_ret ?_
        refine hKP138 _ _ ?_
        refine hKR138 _ _ ?_
        refine Vk.retC (P := Try.prog) (fn := Try.f92) [ci v_180.1, ci v_215.1, ci (-1)] hs rfl (by kernel_rfl) (sz := 3) (by kernel_rfl) rfl (CellsAt.all 2 rfl) ⟨_, _, _, rfl, hs.own, fun a hs => ?_⟩
        refine Vk.step (Vk.alloc 8 28 [ci 0, ci 0, ci 0] hs (by kernel_rfl) (by kernel_rfl) (by kernel_rfl) fun b_229 w a hs => ?_)
        refine Vk.step (Vk.storeA (b := b_229) (ty := 28) (x := (.tmp 8)) (y := (.tmp 23)) (sz := 3) [ci v_180.1, ci v_215.1, ci (-1)] 0 hs (by kernel_rfl) (by kernel_rfl) (by kernel_rfl) (by kernel_rfl) (by kernel_rfl) rfl (by kernel_rfl) rfl (Eq.trans (b := 3) rfl (Eq.symm rfl)) fun a w hs => ?_)
        refine qpe 0 [(0, pp b_x0), (6, pp b_4), (8, pp b_229)] hs fun a hs => hK137 _ _ ?_
        clear hK137
        refine qsr fun K230 hK230 => ?_
        refine qpu 1 hs fun a hs => ?_
        obtain ⟨v_233, h_232, hm⟩ := bind_t hm
        refine Vk.step (Vk.call (some 25) 94 #[pp b_x0] hs (by kernel_rfl) (by kernel_rfl) (by kernel_rfl) ?_)
        refine (wire_Machine_End.ok k v_215.2 v_233 h_232 κ w (pt b_229 (blk [ci v_180.1, ci v_215.1, ci (-1)] 28) :: pt b_142 (blk [ci v_180.1, ci v_215.1, ci (-1)] 28) :: pt b_140 (blk [ci v_180.1, ci v_215.1, ci (-1)] 28) :: pt b_24 (blk [cp b_x0, C.map (some b_23), ci v_81.1, ci v_94.1, ci 0, ci v_116.1, ci v_129.1, ci 0, ci 0, ci 0, ci 0] 188) :: pt b_23 (.map #[⟨.agg (vals [ci 0, ci 1]), vi v_45.1, 0⟩] 1) :: pt b_21 (blk x2 28) :: pt b_20 (blk x1 28) :: pt b_4 (blk [ci 0, ci 0, ci 0] 28) :: pt b_3 (blk x2 28) :: pt b_2 (blk x1 28) :: S) b_x0 (Own.to hs.own [1, 0, 2, 3, 4, 5, 6, 7, 8, 9, 10] 11 (by kernel_rfl) (by kernel_rfl))).mono ?_
        rintro _ w ⟨rfl, how⟩
        refine ⟨_, _, _, rfl, how, fun a hs => ?_⟩
        refine qpe 0 [(6, pp b_4), (8, pp b_229)] hs fun a hs => hK230 _ _ ?_
        clear hK230
        refine qsr fun K234 hK234 => ?_
        refine qln 1 ([ci v_180.1, ci v_215.1, ci (-1)]) hs rfl fun a hs => ?_
        refine Vk.step (Vk.storeA (b := b_4) (ty := 28) (x := (.tmp 6)) (y := (.tmp 26)) (sz := 3) [ci v_180.1, ci v_215.1, ci (-1)] 8 hs (by kernel_rfl) (by kernel_rfl) (by kernel_rfl) (by kernel_rfl) (by kernel_rfl) rfl (by kernel_rfl) rfl (Eq.trans (b := 3) rfl (Eq.symm rfl)) fun a w hs => ?_)
        refine qpe 0 [(6, pp b_4)] hs fun a hs => hK234 _ _ ?_
        clear hK234
        refine wp_ret ?_
        exact Vk.retC (P := Try.prog) (fn := Try.f21) (R := RR) [ci v_180.1, ci v_215.1, ci (-1)] hs rfl (by kernel_rfl) (sz := 3) (by kernel_rfl) rfl (CellsAt.all 8 rfl) (by obtain rfl := Option.some.inj hm; subst hRR; exact ⟨rfl, (Own.to hs.own [0] 11 (by kernel_rfl) (by kernel_rfl))⟩)
      · replace hm := bif_f hm hb
        cases hm
    · replace hm := bif_f hm hb
      cases hm
  · replace hm := bif_f hm hb
    rcases Bool.eq_false_or_eq_true (v_10 == 3) with hb | hb
    · replace hm := bif_t hm hb
      obtain rfl := Vk.of_beq hb
      refine qpe 1 [(0, pp b_x0), (4, pp b_2), (5, pp b_3), (6, pp b_4), (11, .bool false)] hs fun a hs => hK6 _ _ ?_
      refine qcf hs ?_
      refine wp_skip ?_
      refine hK5 _ _ ?_
      refine qsr fun K235 hK235 => ?_
      refine qpu 1 hs fun a hs => ?_
      replace hs := hs.toEx (Twire_Machine.parts b_x0 x0) g_7 0 rfl
      obtain ⟨v_238, h_237, hm⟩ := bind_t hm
      refine Vk.step (Vk.call (some 15) 90 #[pp b_x0, vi 3] hs (by kernel_rfl) (by kernel_rfl) (by kernel_rfl) ?_)
      refine (wire_Machine_Begin.ok k x0 3 v_238 h_237 κ w (pt b_4 (blk [ci 0, ci 0, ci 0] 28) :: pt b_3 (blk x2 28) :: pt b_2 (blk x1 28) :: S) b_x0 (Own.to hs.own [0, 1, 2, 3] 4 (by kernel_rfl) (by kernel_rfl))).mono ?_
      rintro _ w ⟨rfl, how⟩
      refine ⟨_, _, _, rfl, how, fun a hs => ?_⟩
      refine qpe 0 [(0, pp b_x0), (4, pp b_2), (5, pp b_3), (6, pp b_4)] hs fun a hs => hK235 _ _ ?_
      clear hK235
      refine qsr fun K239 hK239 => ?_
      refine qpu 1 hs fun a hs => ?_
      obtain ⟨h_240, hm⟩ := ite_t hm
      refine Vk.step (Vk.value (some 17) (.agg (vals x1)) hs (by kernel_rfl) (op := (.load 28 (.tmp 4))) (by kernel_rfl) (fun o ho => run_loadN (cs := x1) ho (by kernel_rfl) (by kernel_rfl) h_240 (CellsAt.all 3 rfl) _ hs.own) fun a hs => ?_)
      obtain ⟨h_241, hm⟩ := ite_t hm
      refine Vk.step (Vk.value (some 18) (.agg (vals x2)) hs (by kernel_rfl) (op := (.load 28 (.tmp 5))) (by kernel_rfl) (fun o ho => run_loadN (cs := x2) ho (by kernel_rfl) (by kernel_rfl) h_241 (CellsAt.all 2 rfl) _ hs.own) fun a hs => ?_)
      refine Vk.step (Vk.call (some 19) 91 #[pp b_x0, .agg (vals x1), .agg (vals x2)] hs (by kernel_rfl) (by kernel_rfl) (by kernel_rfl) ?_)
      refine Vk.enterI [(0, pp b_x0), (1, .agg (vals x1)), (2, .agg (vals x2))] Try.func91 rfl Try.ntmps91 (by kernel_rfl) (Nat.le_of_ble_eq_true (by kernel_rfl)) hs.own fun KR242 hKR242 hKP242 a hs => ?_
      refine qsr fun K243 hK243 => ?_
      refine Vk.step (Vk.box (x := (.tmp 1)) 4 28 x1 hs (by kernel_rfl) (by kernel_rfl) (by kernel_rfl) fun b_244 w a hs => ?_)
      refine Vk.step (Vk.box (x := (.tmp 2)) 5 28 x2 hs (by kernel_rfl) (by kernel_rfl) (by kernel_rfl) fun b_245 w a hs => ?_)
      refine qpe 1 [(0, pp b_x0), (4, pp b_244), (5, pp b_245)] hs fun a hs => hK243 _ _ ?_
      clear hK243
      refine qsr fun K246 hK246 => ?_
      refine qpu 1 hs fun a hs => ?_
      refine Vk.step (Vk.mapOp 14 186 hs (by kernel_rfl) (by kernel_rfl) fun b_247 w a hs => ?_)
      refine qpu 1 hs fun a hs => ?_
      refine Vk.step (Vk.box (x := (.tmp 15)) 16 188 [cp b_x0, C.map (some b_247), ci 0, ci 0, ci 0, ci 0, ci 0, ci 0, ci 0, ci 0, ci 0] hs (by kernel_rfl) (by kernel_rfl) (by kernel_rfl) fun b_248 w a hs => ?_)
      refine qpe 1 [(0, pp b_x0), (4, pp b_244), (5, pp b_245), (7, pp b_248)] hs fun a hs => hK246 _ _ ?_
      clear hK246
      refine qsr fun K249 hK249 => ?_
      refine qpu 1 hs fun a hs => ?_
      obtain ⟨g_250, hs⟩ := hs.unex 4 rfl
      obtain ⟨v_253, h_252, hm⟩ := bind_t hm
      refine Vk.step (Vk.call (some 18) 89 #[pp b_x0] hs (by kernel_rfl) (by kernel_rfl) (by kernel_rfl) ?_)
      refine (wire_Machine_N.ok k v_238 v_253 h_252 κ w (pt b_248 (blk [cp b_x0, C.map (some b_247), ci 0, ci 0, ci 0, ci 0, ci 0, ci 0, ci 0, ci 0, ci 0] 188) :: pt b_247 (.map #[] 0) :: pt b_245 (blk x2 28) :: pt b_244 (blk x1 28) :: pt b_4 (blk [ci 0, ci 0, ci 0] 28) :: pt b_3 (blk x2 28) :: pt b_2 (blk x1 28) :: S) b_x0 g_250 (Own.to hs.own [4, 0, 1, 2, 3, 5, 6, 7] 8 (by kernel_rfl) (by kernel_rfl))).mono ?_
      rintro _ w ⟨rfl, how⟩
      refine ⟨_, _, _, rfl, how, fun a hs => ?_⟩
      rcases Bool.eq_false_or_eq_true (v_253 == 3) with hb | hb
      · replace hm := bif_t hm hb
        obtain rfl := Vk.of_beq hb
        refine qpe 1 [(0, pp b_x0), (4, pp b_244), (5, pp b_245), (7, pp b_248), (8, vi 3)] hs fun a hs => hK249 _ _ ?_
        clear hK249
        refine Vk.seq fun K254 hK254 => ?_
        refine qsr fun K255 hK255 => ?_
        refine qpe 2 [(0, pp b_x0), (4, pp b_244), (5, pp b_245), (7, pp b_248), (8, vi 3), (19, vi 3), (20, vi 0)] hs fun a hs => hK255 _ _ ?_
        clear hK255
        refine wp_block ?_
        refine Vk.unroll0 40 ?_
        refine Vk.unroll fun KL256 hKL256 => ?_
        refine qsr fun K257 hK257 => ?_
        refine qpe 1 [(0, pp b_x0), (4, pp b_244), (5, pp b_245), (7, pp b_248), (8, vi 3), (19, vi 3), (20, vi 0), (21, .bool true)] hs fun a hs => hK257 _ _ ?_
        clear hK257
        refine Vk.seq fun K258 hK258 => ?_
        refine qct hs ?_
        refine wp_skip ?_
        refine hK258 _ _ ?_
        clear hK258
        refine Vk.seq fun K259 hK259 => ?_
        refine wp_block ?_
        refine qsr fun K260 hK260 => ?_
        refine qpe 2 [(0, pp b_x0), (4, pp b_244), (5, pp b_245), (7, pp b_248), (8, vi 3), (9, vi 0), (19, vi 3), (20, vi 0)] hs fun a hs => hK260 _ _ ?_
        clear hK260
        refine qsr fun K261 hK261 => ?_
        refine qpe 3 [(0, pp b_x0), (4, pp b_244), (5, pp b_245), (7, pp b_248), (8, vi 3), (9, vi 0), (10, vi 1), (19, vi 3), (20, vi 0)] hs fun a hs => hK261 _ _ ?_
        clear hK261
        refine wp_block ?_
        refine Vk.unroll0 40 ?_
        refine Vk.unroll fun KL262 hKL262 => ?_
        refine Vk.seq fun K263 hK263 => ?_
        refine qsr fun K264 hK264 => ?_
        refine qpe 3 [(0, pp b_x0), (4, pp b_244), (5, pp b_245), (7, pp b_248), (8, vi 3), (9, vi 0), (10, vi 1), (19, vi 3), (20, vi 0), (27, .bool true)] hs fun a hs => hK264 _ _ ?_
        clear hK264
        refine qct hs ?_
        refine wp_skip ?_
        refine hK263 _ _ ?_
        clear hK263
        refine Vk.seq fun K265 hK265 => ?_
        refine wp_block ?_
        obtain ⟨C_266, hC_266⟩ : ∃ X0 : List HP, X0 = (pt b_248 (blk [cp b_x0, C.map (some b_247), ci 0, ci 0, ci 0, ci 0, ci 0, ci 0, ci 0, ci 0, ci 0] 188) :: pt b_247 (.map #[] 0) :: pt b_245 (blk x2 28) :: pt b_244 (blk x1 28) :: pt b_4 (blk [ci 0, ci 0, ci 0] 28) :: pt b_3 (blk x2 28) :: pt b_2 (blk x1 28) :: S) := ⟨_, rfl⟩
        refine qdr 9 κ C_266 hs fun w hs hqC_266 => ?_
        have hcz : Own κ w (pt b_248 (blk [cp b_x0, C.map (some b_247), ci 0, ci 0, ci 0, ci 0, ci 0, ci 0, ci 0, ci 0, ci 0] 188) :: pt b_247 (.map #[] 0) :: pt b_245 (blk x2 28) :: pt b_244 (blk x1 28) :: pt b_4 (blk [ci 0, ci 0, ci 0] 28) :: pt b_3 (blk x2 28) :: pt b_2 (blk x1 28) :: S) := (Own.to hs.own [1, 2, 3, 4, 5, 6, 7] 8 (by kernel_rfl) (by kernel_rfl))
        have hcl : Own κ w C_266 := by rw [hC_266]; exact hcz
        refine qdp (fuel := 3) [0, 1, 2, 4, 5, 6, 7] hs hcl hqC_266 fun a hs => ?_
        refine qdl 3 0 (C.map (some b_247)) hs hcl hqC_266 hC_266 rfl fun a hs => ?_
        replace hs := hs.toEx (Twire_Machine.parts b_x0 v_238) g_250 0 rfl
        obtain ⟨v_269, h_268, hm⟩ := bind_t hm
        refine Vk.dOnly (i := 8) (by kernel_rfl) (Vk.call (some 38) 120 #[pp b_x0, vi (-1)] hs (by kernel_rfl) (by kernel_rfl) (by kernel_rfl) ?_)
        refine (wire_Machine_Rand.ok k v_238 (-1) v_269 h_268 κ w (pt b_248 (blk [cp b_x0, C.map (some b_247), ci 0, ci 0, ci 0, ci 0, ci 0, ci 0, ci 0, ci 0, ci 0] 188) :: pt b_247 (.map #[] 0) :: pt b_245 (blk x2 28) :: pt b_244 (blk x1 28) :: pt b_4 (blk [ci 0, ci 0, ci 0] 28) :: pt b_3 (blk x2 28) :: pt b_2 (blk x1 28) :: S) b_x0 (Own.to hs.own [0, 1, 2, 3, 4, 5, 6, 7] 8 (by kernel_rfl) (by kernel_rfl))).mono ?_
        rintro _ w ⟨rfl, how⟩
        refine ⟨_, _, _, rfl, how, fun a hs => ?_⟩
        replace hcl : Own κ w C_266 := by rw [hC_266]; exact (Own.to hs.own [1, 2, 3, 4, 5, 6, 7] 8 (by kernel_rfl) (by kernel_rfl))
        refine ⟨fun _ => hcl, ?_⟩
        refine Vk.dOnly (i := 9) (by kernel_rfl) (Vk.updateOp (t := 186) (xm := (.tmp 33)) (xk := (.tmp 36)) (xv := (.tmp 38)) (b := b_247) (es' := #[⟨.agg (vals [ci 0, ci 1]), vi v_269.1, 0⟩]) (clock' := 1) (.agg (vals [ci 0, ci 1])) (vi v_269.1) 2 hs (by kernel_rfl) (by kernel_rfl) (by kernel_rfl) (by kernel_rfl) (by kernel_rfl) rfl (by kernel_rfl) fun a w hs => ?_)
        refine ⟨fun h => absurd h (by decide), ?_⟩
        replace hs := hs.pick [0, 4, 5, 7, 8, 9, 10, 19, 20] (L' := [(0, pp b_x0), (4, pp b_244), (5, pp b_245), (7, pp b_248), (8, vi 3), (9, vi 0), (10, vi 1), (19, vi 3), (20, vi 0)]) (by kernel_rfl)
        refine Vk.dDone (by kernel_rfl) ?_
        refine hK265 _ _ ?_
        clear hK265
        refine Vk.region ?_
        refine qpe 3 [(0, pp b_x0), (4, pp b_244), (5, pp b_245), (7, pp b_248), (8, vi 3), (9, vi 0), (10, vi 2), (19, vi 3), (20, vi 0)] hs fun a hs => hKL262 _ _ ?_
        clear hKL262
        refine Vk.unroll fun KL270 hKL270 => ?_
        refine Vk.seq fun K271 hK271 => ?_
        refine qsr fun K272 hK272 => ?_
        refine qpe 3 [(0, pp b_x0), (4, pp b_244), (5, pp b_245), (7, pp b_248), (8, vi 3), (9, vi 0), (10, vi 2), (19, vi 3), (20, vi 0), (27, .bool true)] hs fun a hs => hK272 _ _ ?_
        clear hK272
        refine qct hs ?_
        refine wp_skip ?_
        refine hK271 _ _ ?_
        clear hK271
        refine Vk.seq fun K273 hK273 => ?_
        refine wp_block ?_
        obtain ⟨C_274, hC_274⟩ : ∃ X0 : List HP, X0 = (pt b_248 (blk [cp b_x0, C.map (some b_247), ci 0, ci 0, ci 0, ci 0, ci 0, ci 0, ci 0, ci 0, ci 0] 188) :: pt b_247 (.map #[⟨.agg (vals [ci 0, ci 1]), vi v_269.1, 0⟩] 1) :: pt b_245 (blk x2 28) :: pt b_244 (blk x1 28) :: pt b_4 (blk [ci 0, ci 0, ci 0] 28) :: pt b_3 (blk x2 28) :: pt b_2 (blk x1 28) :: S) := ⟨_, rfl⟩
        refine qdr 9 κ C_274 hs fun w hs hqC_274 => ?_
        have hcz : Own κ w (pt b_248 (blk [cp b_x0, C.map (some b_247), ci 0, ci 0, ci 0, ci 0, ci 0, ci 0, ci 0, ci 0, ci 0] 188) :: pt b_247 (.map #[⟨.agg (vals [ci 0, ci 1]), vi v_269.1, 0⟩] 1) :: pt b_245 (blk x2 28) :: pt b_244 (blk x1 28) :: pt b_4 (blk [ci 0, ci 0, ci 0] 28) :: pt b_3 (blk x2 28) :: pt b_2 (blk x1 28) :: S) := (Own.to hs.own [1, 2, 3, 4, 5, 6, 7] 8 (by kernel_rfl) (by kernel_rfl))
        have hcl : Own κ w C_274 := by rw [hC_274]; exact hcz
        refine qdp (fuel := 3) [0, 1, 2, 4, 5, 6, 7] hs hcl hqC_274 fun a hs => ?_
        refine qdl 3 0 (C.map (some b_247)) hs hcl hqC_274 hC_274 rfl fun a hs => ?_
        obtain ⟨v_277, h_276, hm⟩ := bind_t hm
        refine Vk.dOnly (i := 8) (by kernel_rfl) (Vk.call (some 38) 120 #[pp b_x0, vi (-1)] hs (by kernel_rfl) (by kernel_rfl) (by kernel_rfl) ?_)
        refine (wire_Machine_Rand.ok k v_269.2 (-1) v_277 h_276 κ w (pt b_248 (blk [cp b_x0, C.map (some b_247), ci 0, ci 0, ci 0, ci 0, ci 0, ci 0, ci 0, ci 0, ci 0] 188) :: pt b_247 (.map #[⟨.agg (vals [ci 0, ci 1]), vi v_269.1, 0⟩] 1) :: pt b_245 (blk x2 28) :: pt b_244 (blk x1 28) :: pt b_4 (blk [ci 0, ci 0, ci 0] 28) :: pt b_3 (blk x2 28) :: pt b_2 (blk x1 28) :: S) b_x0 (Own.to hs.own [0, 1, 2, 3, 4, 5, 6, 7] 8 (by kernel_rfl) (by kernel_rfl))).mono ?_
        rintro _ w ⟨rfl, how⟩
        refine ⟨_, _, _, rfl, how, fun a hs => ?_⟩
        replace hcl : Own κ w C_274 := by rw [hC_274]; exact (Own.to hs.own [1, 2, 3, 4, 5, 6, 7] 8 (by kernel_rfl) (by kernel_rfl))
        refine ⟨fun _ => hcl, ?_⟩
        refine Vk.dOnly (i := 9) (by kernel_rfl) (Vk.updateOp (t := 186) (xm := (.tmp 33)) (xk := (.tmp 36)) (xv := (.tmp 38)) (b := b_247) (es' := #[⟨.agg (vals [ci 0, ci 1]), vi v_269.1, 0⟩, ⟨.agg (vals [ci 0, ci 2]), vi v_277.1, 1⟩]) (clock' := 2) (.agg (vals [ci 0, ci 2])) (vi v_277.1) 2 hs (by kernel_rfl) (by kernel_rfl) (by kernel_rfl) (by kernel_rfl) (by kernel_rfl) rfl (by kernel_rfl) fun a w hs => ?_)
        refine ⟨fun h => absurd h (by decide), ?_⟩
        replace hs := hs.pick [0, 4, 5, 7, 8, 9, 10, 19, 20] (L' := [(0, pp b_x0), (4, pp b_244), (5, pp b_245), (7, pp b_248), (8, vi 3), (9, vi 0), (10, vi 2), (19, vi 3), (20, vi 0)]) (by kernel_rfl)
        refine Vk.dDone (by kernel_rfl) ?_
        refine hK273 _ _ ?_
        clear hK273
        refine Vk.region ?_
        refine qpe 3 [(0, pp b_x0), (4, pp b_244), (5, pp b_245), (7, pp b_248), (8, vi 3), (9, vi 0), (10, vi 3), (19, vi 3), (20, vi 0)] hs fun a hs => hKL270 _ _ ?_
        clear hKL270
        refine Vk.unroll fun KL278 hKL278 => ?_
        refine Vk.seq fun K279 hK279 => ?_
        refine qsr fun K280 hK280 => ?_
        refine qpe 3 [(0, pp b_x0), (4, pp b_244), (5, pp b_245), (7, pp b_248), (8, vi 3), (9, vi 0), (10, vi 3), (19, vi 3), (20, vi 0), (27, .bool false)] hs fun a hs => hK280 _ _ ?_
        clear hK280
        refine qcf hs ?_
        refine wp_exit ?_
        refine hK259 _ _ ?_
        clear hK259
        refine Vk.region ?_
        refine qpe 2 [(0, pp b_x0), (4, pp b_244), (5, pp b_245), (7, pp b_248), (8, vi 3), (19, vi 3), (20, vi 1)] hs fun a hs => hKL256 _ _ ?_
        clear hKL256
        refine Vk.unroll fun KL281 hKL281 => ?_
        refine qsr fun K282 hK282 => ?_
        refine qpe 1 [(0, pp b_x0), (4, pp b_244), (5, pp b_245), (7, pp b_248), (8, vi 3), (19, vi 3), (20, vi 1), (21, .bool true)] hs fun a hs => hK282 _ _ ?_
        clear hK282
        refine Vk.seq fun K283 hK283 => ?_
        refine qct hs ?_
        refine wp_skip ?_
        refine hK283 _ _ ?_
        clear hK283
        refine Vk.seq fun K284 hK284 => ?_
        refine wp_block ?_
        refine qsr fun K285 hK285 => ?_
        refine qpe 2 [(0, pp b_x0), (4, pp b_244), (5, pp b_245), (7, pp b_248), (8, vi 3), (9, vi 1), (19, vi 3), (20, vi 1)] hs fun a hs => hK285 _ _ ?_
        clear hK285
        refine qsr fun K286 hK286 => ?_
        refine qpe 3 [(0, pp b_x0), (4, pp b_244), (5, pp b_245), (7, pp b_248), (8, vi 3), (9, vi 1), (10, vi 2), (19, vi 3), (20, vi 1)] hs fun a hs => hK286 _ _ ?_
        clear hK286
        refine wp_block ?_
        refine Vk.unroll0 40 ?_
        refine Vk.unroll fun KL287 hKL287 => ?_
        refine Vk.seq fun K288 hK288 => ?_
        refine qsr fun K289 hK289 => ?_
        refine qpe 3 [(0, pp b_x0), (4, pp b_244), (5, pp b_245), (7, pp b_248), (8, vi 3), (9, vi 1), (10, vi 2), (19, vi 3), (20, vi 1), (27, .bool true)] hs fun a hs => hK289 _ _ ?_
        clear hK289
        refine qct hs ?_
        refine wp_skip ?_
        refine hK288 _ _ ?_
        clear hK288
        refine Vk.seq fun K290 hK290 => ?_
        refine wp_block ?_
        obtain ⟨C_291, hC_291⟩ : ∃ X0 : List HP, X0 = (pt b_248 (blk [cp b_x0, C.map (some b_247), ci 0, ci 0, ci 0, ci 0, ci 0, ci 0, ci 0, ci 0, ci 0] 188) :: pt b_247 (.map #[⟨.agg (vals [ci 0, ci 1]), vi v_269.1, 0⟩, ⟨.agg (vals [ci 0, ci 2]), vi v_277.1, 1⟩] 2) :: pt b_245 (blk x2 28) :: pt b_244 (blk x1 28) :: pt b_4 (blk [ci 0, ci 0, ci 0] 28) :: pt b_3 (blk x2 28) :: pt b_2 (blk x1 28) :: S) := ⟨_, rfl⟩
        refine qdr 9 κ C_291 hs fun w hs hqC_291 => ?_
        have hcz : Own κ w (pt b_248 (blk [cp b_x0, C.map (some b_247), ci 0, ci 0, ci 0, ci 0, ci 0, ci 0, ci 0, ci 0, ci 0] 188) :: pt b_247 (.map #[⟨.agg (vals [ci 0, ci 1]), vi v_269.1, 0⟩, ⟨.agg (vals [ci 0, ci 2]), vi v_277.1, 1⟩] 2) :: pt b_245 (blk x2 28) :: pt b_244 (blk x1 28) :: pt b_4 (blk [ci 0, ci 0, ci 0] 28) :: pt b_3 (blk x2 28) :: pt b_2 (blk x1 28) :: S) := (Own.to hs.own [1, 2, 3, 4, 5, 6, 7] 8 (by kernel_rfl) (by kernel_rfl))
        have hcl : Own κ w C_291 := by rw [hC_291]; exact hcz
        refine qdp (fuel := 3) [0, 1, 2, 4, 5, 6, 7] hs hcl hqC_291 fun a hs => ?_
        refine qdl 3 0 (C.map (some b_247)) hs hcl hqC_291 hC_291 rfl fun a hs => ?_
        obtain ⟨v_294, h_293, hm⟩ := bind_t hm
        refine Vk.dOnly (i := 8) (by kernel_rfl) (Vk.call (some 38) 120 #[pp b_x0, vi (-1)] hs (by kernel_rfl) (by kernel_rfl) (by kernel_rfl) ?_)
        refine (wire_Machine_Rand.ok k v_277.2 (-1) v_294 h_293 κ w (pt b_248 (blk [cp b_x0, C.map (some b_247), ci 0, ci 0, ci 0, ci 0, ci 0, ci 0, ci 0, ci 0, ci 0] 188) :: pt b_247 (.map #[⟨.agg (vals [ci 0, ci 1]), vi v_269.1, 0⟩, ⟨.agg (vals [ci 0, ci 2]), vi v_277.1, 1⟩] 2) :: pt b_245 (blk x2 28) :: pt b_244 (blk x1 28) :: pt b_4 (blk [ci 0, ci 0, ci 0] 28) :: pt b_3 (blk x2 28) :: pt b_2 (blk x1 28) :: S) b_x0 (Own.to hs.own [0, 1, 2, 3, 4, 5, 6, 7] 8 (by kernel_rfl) (by kernel_rfl))).mono ?_
        rintro _ w ⟨rfl, how⟩
        refine ⟨_, _, _, rfl, how, fun a hs => ?_⟩
        replace hcl : Own κ w C_291 := by rw [hC_291]; exact (Own.to hs.own [1, 2, 3, 4, 5, 6, 7] 8 (by kernel_rfl) (by kernel_rfl))
        refine ⟨fun _ => hcl, ?_⟩
        refine Vk.dOnly (i := 9) (by kernel_rfl) (Vk.updateOp (t := 186) (xm := (.tmp 33)) (xk := (.tmp 36)) (xv := (.tmp 38)) (b := b_247) (es' := #[⟨.agg (vals [ci 0, ci 1]), vi v_269.1, 0⟩, ⟨.agg (vals [ci 0, ci 2]), vi v_277.1, 1⟩, ⟨.agg (vals [ci 1, ci 2]), vi v_294.1, 2⟩]) (clock' := 3) (.agg (vals [ci 1, ci 2])) (vi v_294.1) 2 hs (by kernel_rfl) (by kernel_rfl) (by kernel_rfl) (by kernel_rfl) (by kernel_rfl) rfl (by kernel_rfl) fun a w hs => ?_)
        refine ⟨fun h => absurd h (by decide), ?_⟩
        replace hs := hs.pick [0, 4, 5, 7, 8, 9, 10, 19, 20] (L' := [(0, pp b_x0), (4, pp b_244), (5, pp b_245), (7, pp b_248), (8, vi 3), (9, vi 1), (10, vi 2), (19, vi 3), (20, vi 1)]) (by kernel_rfl)
        refine Vk.dDone (by kernel_rfl) ?_
        refine hK290 _ _ ?_
        clear hK290
        refine Vk.region ?_
        refine qpe 3 [(0, pp b_x0), (4, pp b_244), (5, pp b_245), (7, pp b_248), (8, vi 3), (9, vi 1), (10, vi 3), (19, vi 3), (20, vi 1)] hs fun a hs => hKL287 _ _ ?_
        clear hKL287
        refine Vk.unroll fun KL295 hKL295 => ?_
        refine Vk.seq fun K296 hK296 => ?_
        refine qsr fun K297 hK297 => ?_
        refine qpe 3 [(0, pp b_x0), (4, pp b_244), (5, pp b_245), (7, pp b_248), (8, vi 3), (9, vi 1), (10, vi 3), (19, vi 3), (20, vi 1), (27, .bool false)] hs fun a hs => hK297 _ _ ?_
        clear hK297
        refine qcf hs ?_
        refine wp_exit ?_
        refine hK284 _ _ ?_
        clear hK284
        refine Vk.region ?_
        refine qpe 2 [(0, pp b_x0), (4, pp b_244), (5, pp b_245), (7, pp b_248), (8, vi 3), (19, vi 3), (20, vi 2)] hs fun a hs => hKL281 _ _ ?_
        clear hKL281
        refine Vk.unroll fun KL298 hKL298 => ?_
        refine qsr fun K299 hK299 => ?_
        refine qpe 1 [(0, pp b_x0), (4, pp b_244), (5, pp b_245), (7, pp b_248), (8, vi 3), (19, vi 3), (20, vi 2), (21, .bool true)] hs fun a hs => hK299 _ _ ?_
        clear hK299
        refine Vk.seq fun K300 hK300 => ?_
        refine qct hs ?_
        refine wp_skip ?_
        refine hK300 _ _ ?_
        clear hK300
        refine Vk.seq fun K301 hK301 => ?_
        refine wp_block ?_
        refine qsr fun K302 hK302 => ?_
        refine qpe 2 [(0, pp b_x0), (4, pp b_244), (5, pp b_245), (7, pp b_248), (8, vi 3), (9, vi 2), (19, vi 3), (20, vi 2)] hs fun a hs => hK302 _ _ ?_
        clear hK302
        refine qsr fun K303 hK303 => ?_
        refine qpe 3 [(0, pp b_x0), (4, pp b_244), (5, pp b_245), (7, pp b_248), (8, vi 3), (9, vi 2), (10, vi 3), (19, vi 3), (20, vi 2)] hs fun a hs => hK303 _ _ ?_
        clear hK303
        refine wp_block ?_
        refine Vk.unroll0 40 ?_
        refine Vk.unroll fun KL304 hKL304 => ?_
        refine Vk.seq fun K305 hK305 => ?_
        refine qsr fun K306 hK306 => ?_
        refine qpe 3 [(0, pp b_x0), (4, pp b_244), (5, pp b_245), (7, pp b_248), (8, vi 3), (9, vi 2), (10, vi 3), (19, vi 3), (20, vi 2), (27, .bool false)] hs fun a hs => hK306 _ _ ?_
        clear hK306
        refine qcf hs ?_
        refine wp_exit ?_
        refine hK301 _ _ ?_
        clear hK301
        refine Vk.region ?_
        refine qpe 2 [(0, pp b_x0), (4, pp b_244), (5, pp b_245), (7, pp b_248), (8, vi 3), (19, vi 3), (20, vi 3)] hs fun a hs => hKL298 _ _ ?_
        clear hKL298
        refine Vk.unroll fun KL307 hKL307 => ?_
        refine qsr fun K308 hK308 => ?_
        refine qpe 1 [(0, pp b_x0), (4, pp b_244), (5, pp b_245), (7, pp b_248), (8, vi 3), (19, vi 3), (20, vi 3), (21, .bool false)] hs fun a hs => hK308 _ _ ?_
        clear hK308
        refine Vk.seq fun K309 hK309 => ?_
        refine qcf hs ?_
        refine wp_exit ?_
        refine hK254 _ _ ?_
        clear hK254
        refine Vk.seq fun K310 hK310 => ?_
        refine qsr fun K311 hK311 => ?_
        refine qpe 2 [(0, pp b_x0), (4, pp b_244), (5, pp b_245), (7, pp b_248), (8, vi 3), (40, vi 3), (41, vi 0)] hs fun a hs => hK311 _ _ ?_
        clear hK311
        refine wp_block ?_
        refine Vk.unroll0 40 ?_
        refine Vk.unroll fun KL312 hKL312 => ?_
        refine qsr fun K313 hK313 => ?_
        refine qpe 1 [(0, pp b_x0), (4, pp b_244), (5, pp b_245), (7, pp b_248), (8, vi 3), (40, vi 3), (41, vi 0), (42, .bool true)] hs fun a hs => hK313 _ _ ?_
        clear hK313
        refine Vk.seq fun K314 hK314 => ?_
        refine qct hs ?_
        refine wp_skip ?_
        refine hK314 _ _ ?_
        clear hK314
        refine Vk.seq fun K315 hK315 => ?_
        refine wp_block ?_
        refine qsr fun K316 hK316 => ?_
        refine qpe 2 [(0, pp b_x0), (4, pp b_244), (5, pp b_245), (7, pp b_248), (8, vi 3), (11, vi 0), (40, vi 3), (41, vi 0)] hs fun a hs => hK316 _ _ ?_
        clear hK316
        refine qsr fun K317 hK317 => ?_
        refine qpe 2 [(0, pp b_x0), (4, pp b_244), (5, pp b_245), (7, pp b_248), (8, vi 3), (11, vi 0), (40, vi 3), (41, vi 0), (44, vi 3), (45, vi 0)] hs fun a hs => hK317 _ _ ?_
        clear hK317
        refine wp_block ?_
        refine Vk.unroll0 40 ?_
        refine Vk.unroll fun KL318 hKL318 => ?_
        refine qsr fun K319 hK319 => ?_
        refine qpe 1 [(0, pp b_x0), (4, pp b_244), (5, pp b_245), (7, pp b_248), (8, vi 3), (11, vi 0), (40, vi 3), (41, vi 0), (44, vi 3), (45, vi 0), (46, .bool true)] hs fun a hs => hK319 _ _ ?_
        clear hK319
        refine Vk.seq fun K320 hK320 => ?_
        refine qct hs ?_
        refine wp_skip ?_
        refine hK320 _ _ ?_
        clear hK320
        refine Vk.seq fun K321 hK321 => ?_
        refine wp_block ?_
        refine qsr fun K322 hK322 => ?_
        refine qpe 2 [(0, pp b_x0), (4, pp b_244), (5, pp b_245), (7, pp b_248), (8, vi 3), (11, vi 0), (12, vi 0), (40, vi 3), (41, vi 0), (44, vi 3), (45, vi 0)] hs fun a hs => hK322 _ _ ?_
        clear hK322
        obtain ⟨C_323, hC_323⟩ : ∃ X0 : List HP, X0 = (pt b_248 (blk [cp b_x0, C.map (some b_247), ci 0, ci 0, ci 0, ci 0, ci 0, ci 0, ci 0, ci 0, ci 0] 188) :: pt b_247 (.map #[⟨.agg (vals [ci 0, ci 1]), vi v_269.1, 0⟩, ⟨.agg (vals [ci 0, ci 2]), vi v_277.1, 1⟩, ⟨.agg (vals [ci 1, ci 2]), vi v_294.1, 2⟩] 3) :: pt b_245 (blk x2 28) :: pt b_244 (blk x1 28) :: pt b_4 (blk [ci 0, ci 0, ci 0] 28) :: pt b_3 (blk x2 28) :: pt b_2 (blk x1 28) :: S) := ⟨_, rfl⟩
        refine qdr 18 κ C_323 hs fun w hs hqC_323 => ?_
        have hcz : Own κ w (pt b_248 (blk [cp b_x0, C.map (some b_247), ci 0, ci 0, ci 0, ci 0, ci 0, ci 0, ci 0, ci 0, ci 0] 188) :: pt b_247 (.map #[⟨.agg (vals [ci 0, ci 1]), vi v_269.1, 0⟩, ⟨.agg (vals [ci 0, ci 2]), vi v_277.1, 1⟩, ⟨.agg (vals [ci 1, ci 2]), vi v_294.1, 2⟩] 3) :: pt b_245 (blk x2 28) :: pt b_244 (blk x1 28) :: pt b_4 (blk [ci 0, ci 0, ci 0] 28) :: pt b_3 (blk x2 28) :: pt b_2 (blk x1 28) :: S) := (Own.to hs.own [1, 2, 3, 4, 5, 6, 7] 8 (by kernel_rfl) (by kernel_rfl))
        have hcl : Own κ w C_323 := by rw [hC_323]; exact hcz
        refine qdp (fuel := 5) [0, 1, 2, 3, 4, 5, 6, 7, 9, 10, 11, 14, 15, 16] hs hcl hqC_323 fun a hs => ?_
        obtain ⟨v_325, h_324, hm⟩ := bind_t hm
        refine Vk.dTakeT (i := 8) (some 56) (vi v_325) hs (by kernel_rfl) hqC_323 hcl (by kernel_rfl) (by kernel_rfl) (op := (.load 3 (.tmp 55))) (by kernel_rfl) (by kernel_rfl) (fun w hw o ho => by rw [hC_323] at hw; exact run_load1 (c := ci v_325) ho (by kernel_rfl) (by kernel_rfl) (Cell.own 3 rfl (getI_some h_324)) _ hw) fun a hs => ?_
        obtain ⟨v_327, h_326, hm⟩ := bind_t hm
        refine Vk.dTakeT (i := 12) (some 60) (vi v_327) hs (by kernel_rfl) hqC_323 hcl (by kernel_rfl) (by kernel_rfl) (op := (.load 3 (.tmp 59))) (by kernel_rfl) (by kernel_rfl) (fun w hw o ho => by rw [hC_323] at hw; exact run_load1 (c := ci v_327) ho (by kernel_rfl) (by kernel_rfl) (Cell.own 2 rfl (getI_some h_326)) _ hw) fun a hs => ?_
        obtain ⟨v_330, h_329, hm⟩ := bind_t hm
        refine Vk.dOnly (i := 13) (by kernel_rfl) (Vk.call (some 61) 150 #[pp b_x0, vi 7, vi 0, vi v_325, vi v_327] hs (by kernel_rfl) (by kernel_rfl) (by kernel_rfl) ?_)
        refine (wire_Machine_Two.ok k v_294.2 7 0 v_325 v_327 v_330 h_329 κ w (pt b_248 (blk [cp b_x0, C.map (some b_247), ci 0, ci 0, ci 0, ci 0, ci 0, ci 0, ci 0, ci 0, ci 0] 188) :: pt b_247 (.map #[⟨.agg (vals [ci 0, ci 1]), vi v_269.1, 0⟩, ⟨.agg (vals [ci 0, ci 2]), vi v_277.1, 1⟩, ⟨.agg (vals [ci 1, ci 2]), vi v_294.1, 2⟩] 3) :: pt b_245 (blk x2 28) :: pt b_244 (blk x1 28) :: pt b_4 (blk [ci 0, ci 0, ci 0] 28) :: pt b_3 (blk x2 28) :: pt b_2 (blk x1 28) :: S) b_x0 (Own.to hs.own [0, 1, 2, 3, 4, 5, 6, 7] 8 (by kernel_rfl) (by kernel_rfl))).mono ?_
        rintro _ w ⟨rfl, how⟩
        refine ⟨_, _, _, rfl, how, fun a hs => ?_⟩
        replace hcl : Own κ w C_323 := by rw [hC_323]; exact (Own.to hs.own [1, 2, 3, 4, 5, 6, 7] 8 (by kernel_rfl) (by kernel_rfl))
        refine ⟨fun _ => hcl, ?_⟩
        refine qdp (fuel := 1) [17] hs hcl hqC_323 fun a hs => ?_
        refine Vk.dOnly (i := 18) (by kernel_rfl) (Vk.store1 (b := b_248) (ty := 3) (x := (.tmp 65)) (y := (.tmp 61)) (off := 2) (ci v_330.1) 1 hs (by kernel_rfl) (by kernel_rfl) (by kernel_rfl) (by kernel_rfl) (by kernel_rfl) (by kernel_rfl) rfl (Nat.le_of_ble_eq_true (by kernel_rfl)) fun a w hs => ?_)
        refine ⟨fun h => absurd h (by decide), ?_⟩
        replace hs := hs.pick [0, 4, 5, 7, 8, 11, 40, 41, 44, 45] (L' := [(0, pp b_x0), (4, pp b_244), (5, pp b_245), (7, pp b_248), (8, vi 3), (11, vi 0), (40, vi 3), (41, vi 0), (44, vi 3), (45, vi 0)]) (by kernel_rfl)
        refine Vk.dDone (by kernel_rfl) ?_
        refine hK321 _ _ ?_
        clear hK321
        refine Vk.region ?_
        refine qpe 2 [(0, pp b_x0), (4, pp b_244), (5, pp b_245), (7, pp b_248), (8, vi 3), (11, vi 0), (40, vi 3), (41, vi 0), (44, vi 3), (45, vi 1)] hs fun a hs => hKL318 _ _ ?_
        clear hKL318
        refine Vk.unroll fun KL331 hKL331 => ?_
        refine qsr fun K332 hK332 => ?_
        refine qpe 1 [(0, pp b_x0), (4, pp b_244), (5, pp b_245), (7, pp b_248), (8, vi 3), (11, vi 0), (40, vi 3), (41, vi 0), (44, vi 3), (45, vi 1), (46, .bool true)] hs fun a hs => hK332 _ _ ?_
        clear hK332
        refine Vk.seq fun K333 hK333 => ?_
        refine qct hs ?_
        refine wp_skip ?_
        refine hK333 _ _ ?_
        clear hK333
        refine Vk.seq fun K334 hK334 => ?_
        refine wp_block ?_
        refine qsr fun K335 hK335 => ?_
        refine qpe 2 [(0, pp b_x0), (4, pp b_244), (5, pp b_245), (7, pp b_248), (8, vi 3), (11, vi 0), (12, vi 1), (40, vi 3), (41, vi 0), (44, vi 3), (45, vi 1)] hs fun a hs => hK335 _ _ ?_
        clear hK335
        obtain ⟨C_336, hC_336⟩ : ∃ X0 : List HP, X0 = (pt b_248 (blk [cp b_x0, C.map (some b_247), ci v_330.1, ci 0, ci 0, ci 0, ci 0, ci 0, ci 0, ci 0, ci 0] 188) :: pt b_247 (.map #[⟨.agg (vals [ci 0, ci 1]), vi v_269.1, 0⟩, ⟨.agg (vals [ci 0, ci 2]), vi v_277.1, 1⟩, ⟨.agg (vals [ci 1, ci 2]), vi v_294.1, 2⟩] 3) :: pt b_245 (blk x2 28) :: pt b_244 (blk x1 28) :: pt b_4 (blk [ci 0, ci 0, ci 0] 28) :: pt b_3 (blk x2 28) :: pt b_2 (blk x1 28) :: S) := ⟨_, rfl⟩
        refine qdr 18 κ C_336 hs fun w hs hqC_336 => ?_
        have hcz : Own κ w (pt b_248 (blk [cp b_x0, C.map (some b_247), ci v_330.1, ci 0, ci 0, ci 0, ci 0, ci 0, ci 0, ci 0, ci 0] 188) :: pt b_247 (.map #[⟨.agg (vals [ci 0, ci 1]), vi v_269.1, 0⟩, ⟨.agg (vals [ci 0, ci 2]), vi v_277.1, 1⟩, ⟨.agg (vals [ci 1, ci 2]), vi v_294.1, 2⟩] 3) :: pt b_245 (blk x2 28) :: pt b_244 (blk x1 28) :: pt b_4 (blk [ci 0, ci 0, ci 0] 28) :: pt b_3 (blk x2 28) :: pt b_2 (blk x1 28) :: S) := (Own.to hs.own [1, 2, 3, 4, 5, 6, 7] 8 (by kernel_rfl) (by kernel_rfl))
        have hcl : Own κ w C_336 := by rw [hC_336]; exact hcz
        refine qdp (fuel := 5) [0, 1, 2, 3, 4, 5, 6, 7, 9, 10, 11, 14, 15, 16] hs hcl hqC_336 fun a hs => ?_
        obtain ⟨v_338, h_337, hm⟩ := bind_t hm
        refine Vk.dTakeT (i := 8) (some 56) (vi v_338) hs (by kernel_rfl) hqC_336 hcl (by kernel_rfl) (by kernel_rfl) (op := (.load 3 (.tmp 55))) (by kernel_rfl) (by kernel_rfl) (fun w hw o ho => by rw [hC_336] at hw; exact run_load1 (c := ci v_338) ho (by kernel_rfl) (by kernel_rfl) (Cell.own 3 rfl (getI_some h_337)) _ hw) fun a hs => ?_
        obtain ⟨v_340, h_339, hm⟩ := bind_t hm
        refine Vk.dTakeT (i := 12) (some 60) (vi v_340) hs (by kernel_rfl) hqC_336 hcl (by kernel_rfl) (by kernel_rfl) (op := (.load 3 (.tmp 59))) (by kernel_rfl) (by kernel_rfl) (fun w hw o ho => by rw [hC_336] at hw; exact run_load1 (c := ci v_340) ho (by kernel_rfl) (by kernel_rfl) (Cell.own 2 rfl (getI_some h_339)) _ hw) fun a hs => ?_
        obtain ⟨v_343, h_342, hm⟩ := bind_t hm
        refine Vk.dOnly (i := 13) (by kernel_rfl) (Vk.call (some 61) 150 #[pp b_x0, vi 7, vi 0, vi v_338, vi v_340] hs (by kernel_rfl) (by kernel_rfl) (by kernel_rfl) ?_)
        refine (wire_Machine_Two.ok k v_330.2 7 0 v_338 v_340 v_343 h_342 κ w (pt b_248 (blk [cp b_x0, C.map (some b_247), ci v_330.1, ci 0, ci 0, ci 0, ci 0, ci 0, ci 0, ci 0, ci 0] 188) :: pt b_247 (.map #[⟨.agg (vals [ci 0, ci 1]), vi v_269.1, 0⟩, ⟨.agg (vals [ci 0, ci 2]), vi v_277.1, 1⟩, ⟨.agg (vals [ci 1, ci 2]), vi v_294.1, 2⟩] 3) :: pt b_245 (blk x2 28) :: pt b_244 (blk x1 28) :: pt b_4 (blk [ci 0, ci 0, ci 0] 28) :: pt b_3 (blk x2 28) :: pt b_2 (blk x1 28) :: S) b_x0 (Own.to hs.own [0, 1, 2, 3, 4, 5, 6, 7] 8 (by kernel_rfl) (by kernel_rfl))).mono ?_
        rintro _ w ⟨rfl, how⟩
        refine ⟨_, _, _, rfl, how, fun a hs => ?_⟩
        replace hcl : Own κ w C_336 := by rw [hC_336]; exact (Own.to hs.own [1, 2, 3, 4, 5, 6, 7] 8 (by kernel_rfl) (by kernel_rfl))
        refine ⟨fun _ => hcl, ?_⟩
        refine qdp (fuel := 1) [17] hs hcl hqC_336 fun a hs => ?_
        refine Vk.dOnly (i := 18) (by kernel_rfl) (Vk.store1 (b := b_248) (ty := 3) (x := (.tmp 65)) (y := (.tmp 61)) (off := 3) (ci v_343.1) 1 hs (by kernel_rfl) (by kernel_rfl) (by kernel_rfl) (by kernel_rfl) (by kernel_rfl) (by kernel_rfl) rfl (Nat.le_of_ble_eq_true (by kernel_rfl)) fun a w hs => ?_)
        refine ⟨fun h => absurd h (by decide), ?_⟩
        replace hs := hs.pick [0, 4, 5, 7, 8, 11, 40, 41, 44, 45] (L' := [(0, pp b_x0), (4, pp b_244), (5, pp b_245), (7, pp b_248), (8, vi 3), (11, vi 0), (40, vi 3), (41, vi 0), (44, vi 3), (45, vi 1)]) (by kernel_rfl)
        refine Vk.dDone (by kernel_rfl) ?_
        refine hK334 _ _ ?_
        clear hK334
        refine Vk.region ?_
        refine qpe 2 [(0, pp b_x0), (4, pp b_244), (5, pp b_245), (7, pp b_248), (8, vi 3), (11, vi 0), (40, vi 3), (41, vi 0), (44, vi 3), (45, vi 2)] hs fun a hs => hKL331 _ _ ?_
        clear hKL331
        refine Vk.unroll fun KL344 hKL344 => ?_
        refine qsr fun K345 hK345 => ?_
        refine qpe 1 [(0, pp b_x0), (4, pp b_244), (5, pp b_245), (7, pp b_248), (8, vi 3), (11, vi 0), (40, vi 3), (41, vi 0), (44, vi 3), (45, vi 2), (46, .bool true)] hs fun a hs => hK345 _ _ ?_
        clear hK345
        refine Vk.seq fun K346 hK346 => ?_
        refine qct hs ?_
        refine wp_skip ?_
        refine hK346 _ _ ?_
        clear hK346
        refine Vk.seq fun K347 hK347 => ?_
        refine wp_block ?_
        refine qsr fun K348 hK348 => ?_
        refine qpe 2 [(0, pp b_x0), (4, pp b_244), (5, pp b_245), (7, pp b_248), (8, vi 3), (11, vi 0), (12, vi 2), (40, vi 3), (41, vi 0), (44, vi 3), (45, vi 2)] hs fun a hs => hK348 _ _ ?_
        clear hK348
        obtain ⟨C_349, hC_349⟩ : ∃ X0 : List HP, X0 = (pt b_248 (blk [cp b_x0, C.map (some b_247), ci v_330.1, ci v_343.1, ci 0, ci 0, ci 0, ci 0, ci 0, ci 0, ci 0] 188) :: pt b_247 (.map #[⟨.agg (vals [ci 0, ci 1]), vi v_269.1, 0⟩, ⟨.agg (vals [ci 0, ci 2]), vi v_277.1, 1⟩, ⟨.agg (vals [ci 1, ci 2]), vi v_294.1, 2⟩] 3) :: pt b_245 (blk x2 28) :: pt b_244 (blk x1 28) :: pt b_4 (blk [ci 0, ci 0, ci 0] 28) :: pt b_3 (blk x2 28) :: pt b_2 (blk x1 28) :: S) := ⟨_, rfl⟩
        refine qdr 18 κ C_349 hs fun w hs hqC_349 => ?_
        have hcz : Own κ w (pt b_248 (blk [cp b_x0, C.map (some b_247), ci v_330.1, ci v_343.1, ci 0, ci 0, ci 0, ci 0, ci 0, ci 0, ci 0] 188) :: pt b_247 (.map #[⟨.agg (vals [ci 0, ci 1]), vi v_269.1, 0⟩, ⟨.agg (vals [ci 0, ci 2]), vi v_277.1, 1⟩, ⟨.agg (vals [ci 1, ci 2]), vi v_294.1, 2⟩] 3) :: pt b_245 (blk x2 28) :: pt b_244 (blk x1 28) :: pt b_4 (blk [ci 0, ci 0, ci 0] 28) :: pt b_3 (blk x2 28) :: pt b_2 (blk x1 28) :: S) := (Own.to hs.own [1, 2, 3, 4, 5, 6, 7] 8 (by kernel_rfl) (by kernel_rfl))
        have hcl : Own κ w C_349 := by rw [hC_349]; exact hcz
        refine qdp (fuel := 5) [0, 1, 2, 3, 4, 5, 6, 7, 9, 10, 11, 14, 15, 16] hs hcl hqC_349 fun a hs => ?_
        obtain ⟨v_351, h_350, hm⟩ := bind_t hm
        refine Vk.dTakeT (i := 8) (some 56) (vi v_351) hs (by kernel_rfl) hqC_349 hcl (by kernel_rfl) (by kernel_rfl) (op := (.load 3 (.tmp 55))) (by kernel_rfl) (by kernel_rfl) (fun w hw o ho => by rw [hC_349] at hw; exact run_load1 (c := ci v_351) ho (by kernel_rfl) (by kernel_rfl) (Cell.own 3 rfl (getI_some h_350)) _ hw) fun a hs => ?_
        obtain ⟨v_353, h_352, hm⟩ := bind_t hm
        refine Vk.dTakeT (i := 12) (some 60) (vi v_353) hs (by kernel_rfl) hqC_349 hcl (by kernel_rfl) (by kernel_rfl) (op := (.load 3 (.tmp 59))) (by kernel_rfl) (by kernel_rfl) (fun w hw o ho => by rw [hC_349] at hw; exact run_load1 (c := ci v_353) ho (by kernel_rfl) (by kernel_rfl) (Cell.own 2 rfl (getI_some h_352)) _ hw) fun a hs => ?_
        obtain ⟨v_356, h_355, hm⟩ := bind_t hm
        refine Vk.dOnly (i := 13) (by kernel_rfl) (Vk.call (some 61) 150 #[pp b_x0, vi 7, vi 0, vi v_351, vi v_353] hs (by kernel_rfl) (by kernel_rfl) (by kernel_rfl) ?_)
        refine (wire_Machine_Two.ok k v_343.2 7 0 v_351 v_353 v_356 h_355 κ w (pt b_248 (blk [cp b_x0, C.map (some b_247), ci v_330.1, ci v_343.1, ci 0, ci 0, ci 0, ci 0, ci 0, ci 0, ci 0] 188) :: pt b_247 (.map #[⟨.agg (vals [ci 0, ci 1]), vi v_269.1, 0⟩, ⟨.agg (vals [ci 0, ci 2]), vi v_277.1, 1⟩, ⟨.agg (vals [ci 1, ci 2]), vi v_294.1, 2⟩] 3) :: pt b_245 (blk x2 28) :: pt b_244 (blk x1 28) :: pt b_4 (blk [ci 0, ci 0, ci 0] 28) :: pt b_3 (blk x2 28) :: pt b_2 (blk x1 28) :: S) b_x0 (Own.to hs.own [0, 1, 2, 3, 4, 5, 6, 7] 8 (by kernel_rfl) (by kernel_rfl))).mono ?_
        rintro _ w ⟨rfl, how⟩
        refine ⟨_, _, _, rfl, how, fun a hs => ?_⟩
        replace hcl : Own κ w C_349 := by rw [hC_349]; exact (Own.to hs.own [1, 2, 3, 4, 5, 6, 7] 8 (by kernel_rfl) (by kernel_rfl))
        refine ⟨fun _ => hcl, ?_⟩
        refine qdp (fuel := 1) [17] hs hcl hqC_349 fun a hs => ?_
        refine Vk.dOnly (i := 18) (by kernel_rfl) (Vk.store1 (b := b_248) (ty := 3) (x := (.tmp 65)) (y := (.tmp 61)) (off := 4) (ci v_356.1) 1 hs (by kernel_rfl) (by kernel_rfl) (by kernel_rfl) (by kernel_rfl) (by kernel_rfl) (by kernel_rfl) rfl (Nat.le_of_ble_eq_true (by kernel_rfl)) fun a w hs => ?_)
        refine ⟨fun h => absurd h (by decide), ?_⟩
        replace hs := hs.pick [0, 4, 5, 7, 8, 11, 40, 41, 44, 45] (L' := [(0, pp b_x0), (4, pp b_244), (5, pp b_245), (7, pp b_248), (8, vi 3), (11, vi 0), (40, vi 3), (41, vi 0), (44, vi 3), (45, vi 2)]) (by kernel_rfl)
        refine Vk.dDone (by kernel_rfl) ?_
        refine hK347 _ _ ?_
        clear hK347
        refine Vk.region ?_
        refine qpe 2 [(0, pp b_x0), (4, pp b_244), (5, pp b_245), (7, pp b_248), (8, vi 3), (11, vi 0), (40, vi 3), (41, vi 0), (44, vi 3), (45, vi 3)] hs fun a hs => hKL344 _ _ ?_
        clear hKL344
        refine Vk.unroll fun KL357 hKL357 => ?_
        refine qsr fun K358 hK358 => ?_
        refine qpe 1 [(0, pp b_x0), (4, pp b_244), (5, pp b_245), (7, pp b_248), (8, vi 3), (11, vi 0), (40, vi 3), (41, vi 0), (44, vi 3), (45, vi 3), (46, .bool false)] hs fun a hs => hK358 _ _ ?_
        clear hK358
        refine Vk.seq fun K359 hK359 => ?_
        refine qcf hs ?_
        refine wp_exit ?_
        refine hK315 _ _ ?_
        clear hK315
        refine Vk.region ?_
        refine qpe 2 [(0, pp b_x0), (4, pp b_244), (5, pp b_245), (7, pp b_248), (8, vi 3), (40, vi 3), (41, vi 1)] hs fun a hs => hKL312 _ _ ?_
        clear hKL312
        refine Vk.unroll fun KL360 hKL360 => ?_
        refine qsr fun K361 hK361 => ?_
        refine qpe 1 [(0, pp b_x0), (4, pp b_244), (5, pp b_245), (7, pp b_248), (8, vi 3), (40, vi 3), (41, vi 1), (42, .bool true)] hs fun a hs => hK361 _ _ ?_
        clear hK361
        refine Vk.seq fun K362 hK362 => ?_
        refine qct hs ?_
        refine wp_skip ?_
        refine hK362 _ _ ?_
        clear hK362
        refine Vk.seq fun K363 hK363 => ?_
        refine wp_block ?_
        refine qsr fun K364 hK364 => ?_
        refine qpe 2 [(0, pp b_x0), (4, pp b_244), (5, pp b_245), (7, pp b_248), (8, vi 3), (11, vi 1), (40, vi 3), (41, vi 1)] hs fun a hs => hK364 _ _ ?_
        clear hK364
        refine qsr fun K365 hK365 => ?_
        refine qpe 2 [(0, pp b_x0), (4, pp b_244), (5, pp b_245), (7, pp b_248), (8, vi 3), (11, vi 1), (40, vi 3), (41, vi 1), (44, vi 3), (45, vi 0)] hs fun a hs => hK365 _ _ ?_
        clear hK365
        refine wp_block ?_
        refine Vk.unroll0 40 ?_
        refine Vk.unroll fun KL366 hKL366 => ?_
        refine qsr fun K367 hK367 => ?_
        refine qpe 1 [(0, pp b_x0), (4, pp b_244), (5, pp b_245), (7, pp b_248), (8, vi 3), (11, vi 1), (40, vi 3), (41, vi 1), (44, vi 3), (45, vi 0), (46, .bool true)] hs fun a hs => hK367 _ _ ?_
        clear hK367
        refine Vk.seq fun K368 hK368 => ?_
        refine qct hs ?_
        refine wp_skip ?_
        refine hK368 _ _ ?_
        clear hK368
        refine Vk.seq fun K369 hK369 => ?_
        refine wp_block ?_
        refine qsr fun K370 hK370 => ?_
        refine qpe 2 [(0, pp b_x0), (4, pp b_244), (5, pp b_245), (7, pp b_248), (8, vi 3), (11, vi 1), (12, vi 0), (40, vi 3), (41, vi 1), (44, vi 3), (45, vi 0)] hs fun a hs => hK370 _ _ ?_
        clear hK370
        obtain ⟨C_371, hC_371⟩ : ∃ X0 : List HP, X0 = (pt b_248 (blk [cp b_x0, C.map (some b_247), ci v_330.1, ci v_343.1, ci v_356.1, ci 0, ci 0, ci 0, ci 0, ci 0, ci 0] 188) :: pt b_247 (.map #[⟨.agg (vals [ci 0, ci 1]), vi v_269.1, 0⟩, ⟨.agg (vals [ci 0, ci 2]), vi v_277.1, 1⟩, ⟨.agg (vals [ci 1, ci 2]), vi v_294.1, 2⟩] 3) :: pt b_245 (blk x2 28) :: pt b_244 (blk x1 28) :: pt b_4 (blk [ci 0, ci 0, ci 0] 28) :: pt b_3 (blk x2 28) :: pt b_2 (blk x1 28) :: S) := ⟨_, rfl⟩
        refine qdr 18 κ C_371 hs fun w hs hqC_371 => ?_
        have hcz : Own κ w (pt b_248 (blk [cp b_x0, C.map (some b_247), ci v_330.1, ci v_343.1, ci v_356.1, ci 0, ci 0, ci 0, ci 0, ci 0, ci 0] 188) :: pt b_247 (.map #[⟨.agg (vals [ci 0, ci 1]), vi v_269.1, 0⟩, ⟨.agg (vals [ci 0, ci 2]), vi v_277.1, 1⟩, ⟨.agg (vals [ci 1, ci 2]), vi v_294.1, 2⟩] 3) :: pt b_245 (blk x2 28) :: pt b_244 (blk x1 28) :: pt b_4 (blk [ci 0, ci 0, ci 0] 28) :: pt b_3 (blk x2 28) :: pt b_2 (blk x1 28) :: S) := (Own.to hs.own [1, 2, 3, 4, 5, 6, 7] 8 (by kernel_rfl) (by kernel_rfl))
        have hcl : Own κ w C_371 := by rw [hC_371]; exact hcz
        refine qdp (fuel := 5) [0, 1, 2, 3, 4, 5, 6, 7, 9, 10, 11, 14, 15, 16] hs hcl hqC_371 fun a hs => ?_
        obtain ⟨v_373, h_372, hm⟩ := bind_t hm
        refine Vk.dTakeT (i := 8) (some 56) (vi v_373) hs (by kernel_rfl) hqC_371 hcl (by kernel_rfl) (by kernel_rfl) (op := (.load 3 (.tmp 55))) (by kernel_rfl) (by kernel_rfl) (fun w hw o ho => by rw [hC_371] at hw; exact run_load1 (c := ci v_373) ho (by kernel_rfl) (by kernel_rfl) (Cell.own 3 rfl (getI_some h_372)) _ hw) fun a hs => ?_
        obtain ⟨v_375, h_374, hm⟩ := bind_t hm
        refine Vk.dTakeT (i := 12) (some 60) (vi v_375) hs (by kernel_rfl) hqC_371 hcl (by kernel_rfl) (by kernel_rfl) (op := (.load 3 (.tmp 59))) (by kernel_rfl) (by kernel_rfl) (fun w hw o ho => by rw [hC_371] at hw; exact run_load1 (c := ci v_375) ho (by kernel_rfl) (by kernel_rfl) (Cell.own 2 rfl (getI_some h_374)) _ hw) fun a hs => ?_
        obtain ⟨v_378, h_377, hm⟩ := bind_t hm
        refine Vk.dOnly (i := 13) (by kernel_rfl) (Vk.call (some 61) 150 #[pp b_x0, vi 7, vi 1, vi v_373, vi v_375] hs (by kernel_rfl) (by kernel_rfl) (by kernel_rfl) ?_)
        refine (wire_Machine_Two.ok k v_356.2 7 1 v_373 v_375 v_378 h_377 κ w (pt b_248 (blk [cp b_x0, C.map (some b_247), ci v_330.1, ci v_343.1, ci v_356.1, ci 0, ci 0, ci 0, ci 0, ci 0, ci 0] 188) :: pt b_247 (.map #[⟨.agg (vals [ci 0, ci 1]), vi v_269.1, 0⟩, ⟨.agg (vals [ci 0, ci 2]), vi v_277.1, 1⟩, ⟨.agg (vals [ci 1, ci 2]), vi v_294.1, 2⟩] 3) :: pt b_245 (blk x2 28) :: pt b_244 (blk x1 28) :: pt b_4 (blk [ci 0, ci 0, ci 0] 28) :: pt b_3 (blk x2 28) :: pt b_2 (blk x1 28) :: S) b_x0 (Own.to hs.own [0, 1, 2, 3, 4, 5, 6, 7] 8 (by kernel_rfl) (by kernel_rfl))).mono ?_
        rintro _ w ⟨rfl, how⟩
        refine ⟨_, _, _, rfl, how, fun a hs => ?_⟩
        replace hcl : Own κ w C_371 := by rw [hC_371]; exact (Own.to hs.own [1, 2, 3, 4, 5, 6, 7] 8 (by kernel_rfl) (by kernel_rfl))
        refine ⟨fun _ => hcl, ?_⟩
        refine qdp (fuel := 1) [17] hs hcl hqC_371 fun a hs => ?_
        refine Vk.dOnly (i := 18) (by kernel_rfl) (Vk.store1 (b := b_248) (ty := 3) (x := (.tmp 65)) (y := (.tmp 61)) (off := 5) (ci v_378.1) 1 hs (by kernel_rfl) (by kernel_rfl) (by kernel_rfl) (by kernel_rfl) (by kernel_rfl) (by kernel_rfl) rfl (Nat.le_of_ble_eq_true (by kernel_rfl)) fun a w hs => ?_)
        refine ⟨fun h => absurd h (by decide), ?_⟩
        replace hs := hs.pick [0, 4, 5, 7, 8, 11, 40, 41, 44, 45] (L' := [(0, pp b_x0), (4, pp b_244), (5, pp b_245), (7, pp b_248), (8, vi 3), (11, vi 1), (40, vi 3), (41, vi 1), (44, vi 3), (45, vi 0)]) (by kernel_rfl)
        refine Vk.dDone (by kernel_rfl) ?_
        refine hK369 _ _ ?_
        clear hK369
        refine Vk.region ?_
        refine qpe 2 [(0, pp b_x0), (4, pp b_244), (5, pp b_245), (7, pp b_248), (8, vi 3), (11, vi 1), (40, vi 3), (41, vi 1), (44, vi 3), (45, vi 1)] hs fun a hs => hKL366 _ _ ?_
        clear hKL366
        refine Vk.unroll fun KL379 hKL379 => ?_
        refine qsr fun K380 hK380 => ?_
        refine qpe 1 [(0, pp b_x0), (4, pp b_244), (5, pp b_245), (7, pp b_248), (8, vi 3), (11, vi 1), (40, vi 3), (41, vi 1), (44, vi 3), (45, vi 1), (46, .bool true)] hs fun a hs => hK380 _ _ ?_
        clear hK380
        refine Vk.seq fun K381 hK381 => ?_
        refine qct hs ?_
        refine wp_skip ?_
        refine hK381 _ _ ?_
        clear hK381
        refine Vk.seq fun K382 hK382 => ?_
        refine wp_block ?_
        refine qsr fun K383 hK383 => ?_
        refine qpe 2 [(0, pp b_x0), (4, pp b_244), (5, pp b_245), (7, pp b_248), (8, vi 3), (11, vi 1), (12, vi 1), (40, vi 3), (41, vi 1), (44, vi 3), (45, vi 1)] hs fun a hs => hK383 _ _ ?_
        clear hK383
        obtain ⟨C_384, hC_384⟩ : ∃ X0 : List HP, X0 = (pt b_248 (blk [cp b_x0, C.map (some b_247), ci v_330.1, ci v_343.1, ci v_356.1, ci v_378.1, ci 0, ci 0, ci 0, ci 0, ci 0] 188) :: pt b_247 (.map #[⟨.agg (vals [ci 0, ci 1]), vi v_269.1, 0⟩, ⟨.agg (vals [ci 0, ci 2]), vi v_277.1, 1⟩, ⟨.agg (vals [ci 1, ci 2]), vi v_294.1, 2⟩] 3) :: pt b_245 (blk x2 28) :: pt b_244 (blk x1 28) :: pt b_4 (blk [ci 0, ci 0, ci 0] 28) :: pt b_3 (blk x2 28) :: pt b_2 (blk x1 28) :: S) := ⟨_, rfl⟩
        refine qdr 18 κ C_384 hs fun w hs hqC_384 => ?_
        have hcz : Own κ w (pt b_248 (blk [cp b_x0, C.map (some b_247), ci v_330.1, ci v_343.1, ci v_356.1, ci v_378.1, ci 0, ci 0, ci 0, ci 0, ci 0] 188) :: pt b_247 (.map #[⟨.agg (vals [ci 0, ci 1]), vi v_269.1, 0⟩, ⟨.agg (vals [ci 0, ci 2]), vi v_277.1, 1⟩, ⟨.agg (vals [ci 1, ci 2]), vi v_294.1, 2⟩] 3) :: pt b_245 (blk x2 28) :: pt b_244 (blk x1 28) :: pt b_4 (blk [ci 0, ci 0, ci 0] 28) :: pt b_3 (blk x2 28) :: pt b_2 (blk x1 28) :: S) := (Own.to hs.own [1, 2, 3, 4, 5, 6, 7] 8 (by kernel_rfl) (by kernel_rfl))
        have hcl : Own κ w C_384 := by rw [hC_384]; exact hcz
        refine qdp (fuel := 5) [0, 1, 2, 3, 4, 5, 6, 7, 9, 10, 11, 14, 15, 16] hs hcl hqC_384 fun a hs => ?_
        obtain ⟨v_386, h_385, hm⟩ := bind_t hm
        refine Vk.dTakeT (i := 8) (some 56) (vi v_386) hs (by kernel_rfl) hqC_384 hcl (by kernel_rfl) (by kernel_rfl) (op := (.load 3 (.tmp 55))) (by kernel_rfl) (by kernel_rfl) (fun w hw o ho => by rw [hC_384] at hw; exact run_load1 (c := ci v_386) ho (by kernel_rfl) (by kernel_rfl) (Cell.own 3 rfl (getI_some h_385)) _ hw) fun a hs => ?_
        obtain ⟨v_388, h_387, hm⟩ := bind_t hm
        refine Vk.dTakeT (i := 12) (some 60) (vi v_388) hs (by kernel_rfl) hqC_384 hcl (by kernel_rfl) (by kernel_rfl) (op := (.load 3 (.tmp 59))) (by kernel_rfl) (by kernel_rfl) (fun w hw o ho => by rw [hC_384] at hw; exact run_load1 (c := ci v_388) ho (by kernel_rfl) (by kernel_rfl) (Cell.own 2 rfl (getI_some h_387)) _ hw) fun a hs => ?_
        obtain ⟨v_391, h_390, hm⟩ := bind_t hm
        refine Vk.dOnly (i := 13) (by kernel_rfl) (Vk.call (some 61) 150 #[pp b_x0, vi 7, vi 1, vi v_386, vi v_388] hs (by kernel_rfl) (by kernel_rfl) (by kernel_rfl) ?_)
        refine (wire_Machine_Two.ok k v_378.2 7 1 v_386 v_388 v_391 h_390 κ w (pt b_248 (blk [cp b_x0, C.map (some b_247), ci v_330.1, ci v_343.1, ci v_356.1, ci v_378.1, ci 0, ci 0, ci 0, ci 0, ci 0] 188) :: pt b_247 (.map #[⟨.agg (vals [ci 0, ci 1]), vi v_269.1, 0⟩, ⟨.agg (vals [ci 0, ci 2]), vi v_277.1, 1⟩, ⟨.agg (vals [ci 1, ci 2]), vi v_294.1, 2⟩] 3) :: pt b_245 (blk x2 28) :: pt b_244 (blk x1 28) :: pt b_4 (blk [ci 0, ci 0, ci 0] 28) :: pt b_3 (blk x2 28) :: pt b_2 (blk x1 28) :: S) b_x0 (Own.to hs.own [0, 1, 2, 3, 4, 5, 6, 7] 8 (by kernel_rfl) (by kernel_rfl))).mono ?_
        rintro _ w ⟨rfl, how⟩
        refine ⟨_, _, _, rfl, how, fun a hs => ?_⟩
        replace hcl : Own κ w C_384 := by rw [hC_384]; exact (Own.to hs.own [1, 2, 3, 4, 5, 6, 7] 8 (by kernel_rfl) (by kernel_rfl))
        refine ⟨fun _ => hcl, ?_⟩
        refine qdp (fuel := 1) [17] hs hcl hqC_384 fun a hs => ?_
        refine Vk.dOnly (i := 18) (by kernel_rfl) (Vk.store1 (b := b_248) (ty := 3) (x := (.tmp 65)) (y := (.tmp 61)) (off := 6) (ci v_391.1) 1 hs (by kernel_rfl) (by kernel_rfl) (by kernel_rfl) (by kernel_rfl) (by kernel_rfl) (by kernel_rfl) rfl (Nat.le_of_ble_eq_true (by kernel_rfl)) fun a w hs => ?_)
        refine ⟨fun h => absurd h (by decide), ?_⟩
        replace hs := hs.pick [0, 4, 5, 7, 8, 11, 40, 41, 44, 45] (L' := [(0, pp b_x0), (4, pp b_244), (5, pp b_245), (7, pp b_248), (8, vi 3), (11, vi 1), (40, vi 3), (41, vi 1), (44, vi 3), (45, vi 1)]) (by kernel_rfl)
        refine Vk.dDone (by kernel_rfl) ?_
        refine hK382 _ _ ?_
        clear hK382
        refine Vk.region ?_
        refine qpe 2 [(0, pp b_x0), (4, pp b_244), (5, pp b_245), (7, pp b_248), (8, vi 3), (11, vi 1), (40, vi 3), (41, vi 1), (44, vi 3), (45, vi 2)] hs fun a hs => hKL379 _ _ ?_
        clear hKL379
        refine Vk.unroll fun KL392 hKL392 => ?_
        refine qsr fun K393 hK393 => ?_
        refine qpe 1 [(0, pp b_x0), (4, pp b_244), (5, pp b_245), (7, pp b_248), (8, vi 3), (11, vi 1), (40, vi 3), (41, vi 1), (44, vi 3), (45, vi 2), (46, .bool true)] hs fun a hs => hK393 _ _ ?_
        clear hK393
        refine Vk.seq fun K394 hK394 => ?_
        refine qct hs ?_
        refine wp_skip ?_
        refine hK394 _ _ ?_
        clear hK394
        refine Vk.seq fun K395 hK395 => ?_
        refine wp_block ?_
        refine qsr fun K396 hK396 => ?_
        refine qpe 2 [(0, pp b_x0), (4, pp b_244), (5, pp b_245), (7, pp b_248), (8, vi 3), (11, vi 1), (12, vi 2), (40, vi 3), (41, vi 1), (44, vi 3), (45, vi 2)] hs fun a hs => hK396 _ _ ?_
        clear hK396
        obtain ⟨C_397, hC_397⟩ : ∃ X0 : List HP, X0 = (pt b_248 (blk [cp b_x0, C.map (some b_247), ci v_330.1, ci v_343.1, ci v_356.1, ci v_378.1, ci v_391.1, ci 0, ci 0, ci 0, ci 0] 188) :: pt b_247 (.map #[⟨.agg (vals [ci 0, ci 1]), vi v_269.1, 0⟩, ⟨.agg (vals [ci 0, ci 2]), vi v_277.1, 1⟩, ⟨.agg (vals [ci 1, ci 2]), vi v_294.1, 2⟩] 3) :: pt b_245 (blk x2 28) :: pt b_244 (blk x1 28) :: pt b_4 (blk [ci 0, ci 0, ci 0] 28) :: pt b_3 (blk x2 28) :: pt b_2 (blk x1 28) :: S) := ⟨_, rfl⟩
        refine qdr 18 κ C_397 hs fun w hs hqC_397 => ?_
        have hcz : Own κ w (pt b_248 (blk [cp b_x0, C.map (some b_247), ci v_330.1, ci v_343.1, ci v_356.1, ci v_378.1, ci v_391.1, ci 0, ci 0, ci 0, ci 0] 188) :: pt b_247 (.map #[⟨.agg (vals [ci 0, ci 1]), vi v_269.1, 0⟩, ⟨.agg (vals [ci 0, ci 2]), vi v_277.1, 1⟩, ⟨.agg (vals [ci 1, ci 2]), vi v_294.1, 2⟩] 3) :: pt b_245 (blk x2 28) :: pt b_244 (blk x1 28) :: pt b_4 (blk [ci 0, ci 0, ci 0] 28) :: pt b_3 (blk x2 28) :: pt b_2 (blk x1 28) :: S) := (Own.to hs.own [1, 2, 3, 4, 5, 6, 7] 8 (by kernel_rfl) (by kernel_rfl))
        have hcl : Own κ w C_397 := by rw [hC_397]; exact hcz
        refine qdp (fuel := 5) [0, 1, 2, 3, 4, 5, 6, 7, 9, 10, 11, 14, 15, 16] hs hcl hqC_397 fun a hs => ?_
        obtain ⟨v_399, h_398, hm⟩ := bind_t hm
        refine Vk.dTakeT (i := 8) (some 56) (vi v_399) hs (by kernel_rfl) hqC_397 hcl (by kernel_rfl) (by kernel_rfl) (op := (.load 3 (.tmp 55))) (by kernel_rfl) (by kernel_rfl) (fun w hw o ho => by rw [hC_397] at hw; exact run_load1 (c := ci v_399) ho (by kernel_rfl) (by kernel_rfl) (Cell.own 3 rfl (getI_some h_398)) _ hw) fun a hs => ?_
        obtain ⟨v_401, h_400, hm⟩ := bind_t hm
        refine Vk.dTakeT (i := 12) (some 60) (vi v_401) hs (by kernel_rfl) hqC_397 hcl (by kernel_rfl) (by kernel_rfl) (op := (.load 3 (.tmp 59))) (by kernel_rfl) (by kernel_rfl) (fun w hw o ho => by rw [hC_397] at hw; exact run_load1 (c := ci v_401) ho (by kernel_rfl) (by kernel_rfl) (Cell.own 2 rfl (getI_some h_400)) _ hw) fun a hs => ?_
        obtain ⟨v_404, h_403, hm⟩ := bind_t hm
        refine Vk.dOnly (i := 13) (by kernel_rfl) (Vk.call (some 61) 150 #[pp b_x0, vi 7, vi 1, vi v_399, vi v_401] hs (by kernel_rfl) (by kernel_rfl) (by kernel_rfl) ?_)
        refine (wire_Machine_Two.ok k v_391.2 7 1 v_399 v_401 v_404 h_403 κ w (pt b_248 (blk [cp b_x0, C.map (some b_247), ci v_330.1, ci v_343.1, ci v_356.1, ci v_378.1, ci v_391.1, ci 0, ci 0, ci 0, ci 0] 188) :: pt b_247 (.map #[⟨.agg (vals [ci 0, ci 1]), vi v_269.1, 0⟩, ⟨.agg (vals [ci 0, ci 2]), vi v_277.1, 1⟩, ⟨.agg (vals [ci 1, ci 2]), vi v_294.1, 2⟩] 3) :: pt b_245 (blk x2 28) :: pt b_244 (blk x1 28) :: pt b_4 (blk [ci 0, ci 0, ci 0] 28) :: pt b_3 (blk x2 28) :: pt b_2 (blk x1 28) :: S) b_x0 (Own.to hs.own [0, 1, 2, 3, 4, 5, 6, 7] 8 (by kernel_rfl) (by kernel_rfl))).mono ?_
        rintro _ w ⟨rfl, how⟩
        refine ⟨_, _, _, rfl, how, fun a hs => ?_⟩
        replace hcl : Own κ w C_397 := by rw [hC_397]; exact (Own.to hs.own [1, 2, 3, 4, 5, 6, 7] 8 (by kernel_rfl) (by kernel_rfl))
        refine ⟨fun _ => hcl, ?_⟩
        refine qdp (fuel := 1) [17] hs hcl hqC_397 fun a hs => ?_
        refine Vk.dOnly (i := 18) (by kernel_rfl) (Vk.store1 (b := b_248) (ty := 3) (x := (.tmp 65)) (y := (.tmp 61)) (off := 7) (ci v_404.1) 1 hs (by kernel_rfl) (by kernel_rfl) (by kernel_rfl) (by kernel_rfl) (by kernel_rfl) (by kernel_rfl) rfl (Nat.le_of_ble_eq_true (by kernel_rfl)) fun a w hs => ?_)
        refine ⟨fun h => absurd h (by decide), ?_⟩
        replace hs := hs.pick [0, 4, 5, 7, 8, 11, 40, 41, 44, 45] (L' := [(0, pp b_x0), (4, pp b_244), (5, pp b_245), (7, pp b_248), (8, vi 3), (11, vi 1), (40, vi 3), (41, vi 1), (44, vi 3), (45, vi 2)]) (by kernel_rfl)
        refine Vk.dDone (by kernel_rfl) ?_
        refine hK395 _ _ ?_
        clear hK395
        refine Vk.region ?_
        refine qpe 2 [(0, pp b_x0), (4, pp b_244), (5, pp b_245), (7, pp b_248), (8, vi 3), (11, vi 1), (40, vi 3), (41, vi 1), (44, vi 3), (45, vi 3)] hs fun a hs => hKL392 _ _ ?_
        clear hKL392
        refine Vk.unroll fun KL405 hKL405 => ?_
        refine qsr fun K406 hK406 => ?_
        refine qpe 1 [(0, pp b_x0), (4, pp b_244), (5, pp b_245), (7, pp b_248), (8, vi 3), (11, vi 1), (40, vi 3), (41, vi 1), (44, vi 3), (45, vi 3), (46, .bool false)] hs fun a hs => hK406 _ _ ?_
        clear hK406
        refine Vk.seq fun K407 hK407 => ?_
        refine qcf hs ?_
        refine wp_exit ?_
        refine hK363 _ _ ?_
        clear hK363
        refine Vk.region ?_
        refine qpe 2 [(0, pp b_x0), (4, pp b_244), (5, pp b_245), (7, pp b_248), (8, vi 3), (40, vi 3), (41, vi 2)] hs fun a hs => hKL360 _ _ ?_
        clear hKL360
        refine Vk.unroll fun KL408 hKL408 => ?_
        refine qsr fun K409 hK409 => ?_
        refine qpe 1 [(0, pp b_x0), (4, pp b_244), (5, pp b_245), (7, pp b_248), (8, vi 3), (40, vi 3), (41, vi 2), (42, .bool true)] hs fun a hs => hK409 _ _ ?_
        clear hK409
        refine Vk.seq fun K410 hK410 => ?_
        refine qct hs ?_
        refine wp_skip ?_
        refine hK410 _ _ ?_
        clear hK410
        refine Vk.seq fun K411 hK411 => ?_
        refine wp_block ?_
        refine qsr fun K412 hK412 => ?_
        refine qpe 2 [(0, pp b_x0), (4, pp b_244), (5, pp b_245), (7, pp b_248), (8, vi 3), (11, vi 2), (40, vi 3), (41, vi 2)] hs fun a hs => hK412 _ _ ?_
        clear hK412
        refine qsr fun K413 hK413 => ?_
        refine qpe 2 [(0, pp b_x0), (4, pp b_244), (5, pp b_245), (7, pp b_248), (8, vi 3), (11, vi 2), (40, vi 3), (41, vi 2), (44, vi 3), (45, vi 0)] hs fun a hs => hK413 _ _ ?_
        clear hK413
        refine wp_block ?_
        refine Vk.unroll0 40 ?_
        refine Vk.unroll fun KL414 hKL414 => ?_
        refine qsr fun K415 hK415 => ?_
        refine qpe 1 [(0, pp b_x0), (4, pp b_244), (5, pp b_245), (7, pp b_248), (8, vi 3), (11, vi 2), (40, vi 3), (41, vi 2), (44, vi 3), (45, vi 0), (46, .bool true)] hs fun a hs => hK415 _ _ ?_
        clear hK415
        refine Vk.seq fun K416 hK416 => ?_
        refine qct hs ?_
        refine wp_skip ?_
        refine hK416 _ _ ?_
        clear hK416
        refine Vk.seq fun K417 hK417 => ?_
        refine wp_block ?_
        refine qsr fun K418 hK418 => ?_
        refine qpe 2 [(0, pp b_x0), (4, pp b_244), (5, pp b_245), (7, pp b_248), (8, vi 3), (11, vi 2), (12, vi 0), (40, vi 3), (41, vi 2), (44, vi 3), (45, vi 0)] hs fun a hs => hK418 _ _ ?_
        clear hK418
        obtain ⟨C_419, hC_419⟩ : ∃ X0 : List HP, X0 = (pt b_248 (blk [cp b_x0, C.map (some b_247), ci v_330.1, ci v_343.1, ci v_356.1, ci v_378.1, ci v_391.1, ci v_404.1, ci 0, ci 0, ci 0] 188) :: pt b_247 (.map #[⟨.agg (vals [ci 0, ci 1]), vi v_269.1, 0⟩, ⟨.agg (vals [ci 0, ci 2]), vi v_277.1, 1⟩, ⟨.agg (vals [ci 1, ci 2]), vi v_294.1, 2⟩] 3) :: pt b_245 (blk x2 28) :: pt b_244 (blk x1 28) :: pt b_4 (blk [ci 0, ci 0, ci 0] 28) :: pt b_3 (blk x2 28) :: pt b_2 (blk x1 28) :: S) := ⟨_, rfl⟩
        refine qdr 18 κ C_419 hs fun w hs hqC_419 => ?_
        have hcz : Own κ w (pt b_248 (blk [cp b_x0, C.map (some b_247), ci v_330.1, ci v_343.1, ci v_356.1, ci v_378.1, ci v_391.1, ci v_404.1, ci 0, ci 0, ci 0] 188) :: pt b_247 (.map #[⟨.agg (vals [ci 0, ci 1]), vi v_269.1, 0⟩, ⟨.agg (vals [ci 0, ci 2]), vi v_277.1, 1⟩, ⟨.agg (vals [ci 1, ci 2]), vi v_294.1, 2⟩] 3) :: pt b_245 (blk x2 28) :: pt b_244 (blk x1 28) :: pt b_4 (blk [ci 0, ci 0, ci 0] 28) :: pt b_3 (blk x2 28) :: pt b_2 (blk x1 28) :: S) := (Own.to hs.own [1, 2, 3, 4, 5, 6, 7] 8 (by kernel_rfl) (by kernel_rfl))
        have hcl : Own κ w C_419 := by rw [hC_419]; exact hcz
        refine qdp (fuel := 5) [0, 1, 2, 3, 4, 5, 6, 7, 9, 10, 11, 14, 15, 16] hs hcl hqC_419 fun a hs => ?_
        obtain ⟨v_421, h_420, hm⟩ := bind_t hm
        refine Vk.dTakeT (i := 8) (some 56) (vi v_421) hs (by kernel_rfl) hqC_419 hcl (by kernel_rfl) (by kernel_rfl) (op := (.load 3 (.tmp 55))) (by kernel_rfl) (by kernel_rfl) (fun w hw o ho => by rw [hC_419] at hw; exact run_load1 (c := ci v_421) ho (by kernel_rfl) (by kernel_rfl) (Cell.own 3 rfl (getI_some h_420)) _ hw) fun a hs => ?_
        obtain ⟨v_423, h_422, hm⟩ := bind_t hm
        refine Vk.dTakeT (i := 12) (some 60) (vi v_423) hs (by kernel_rfl) hqC_419 hcl (by kernel_rfl) (by kernel_rfl) (op := (.load 3 (.tmp 59))) (by kernel_rfl) (by kernel_rfl) (fun w hw o ho => by rw [hC_419] at hw; exact run_load1 (c := ci v_423) ho (by kernel_rfl) (by kernel_rfl) (Cell.own 2 rfl (getI_some h_422)) _ hw) fun a hs => ?_
        obtain ⟨v_426, h_425, hm⟩ := bind_t hm
        refine Vk.dOnly (i := 13) (by kernel_rfl) (Vk.call (some 61) 150 #[pp b_x0, vi 7, vi 2, vi v_421, vi v_423] hs (by kernel_rfl) (by kernel_rfl) (by kernel_rfl) ?_)
        refine (wire_Machine_Two.ok k v_404.2 7 2 v_421 v_423 v_426 h_425 κ w (pt b_248 (blk [cp b_x0, C.map (some b_247), ci v_330.1, ci v_343.1, ci v_356.1, ci v_378.1, ci v_391.1, ci v_404.1, ci 0, ci 0, ci 0] 188) :: pt b_247 (.map #[⟨.agg (vals [ci 0, ci 1]), vi v_269.1, 0⟩, ⟨.agg (vals [ci 0, ci 2]), vi v_277.1, 1⟩, ⟨.agg (vals [ci 1, ci 2]), vi v_294.1, 2⟩] 3) :: pt b_245 (blk x2 28) :: pt b_244 (blk x1 28) :: pt b_4 (blk [ci 0, ci 0, ci 0] 28) :: pt b_3 (blk x2 28) :: pt b_2 (blk x1 28) :: S) b_x0 (Own.to hs.own [0, 1, 2, 3, 4, 5, 6, 7] 8 (by kernel_rfl) (by kernel_rfl))).mono ?_
        rintro _ w ⟨rfl, how⟩
        refine ⟨_, _, _, rfl, how, fun a hs => ?_⟩
        replace hcl : Own κ w C_419 := by rw [hC_419]; exact (Own.to hs.own [1, 2, 3, 4, 5, 6, 7] 8 (by kernel_rfl) (by kernel_rfl))
        refine ⟨fun _ => hcl, ?_⟩
        refine qdp (fuel := 1) [17] hs hcl hqC_419 fun a hs => ?_
        refine Vk.dOnly (i := 18) (by kernel_rfl) (Vk.store1 (b := b_248) (ty := 3) (x := (.tmp 65)) (y := (.tmp 61)) (off := 8) (ci v_426.1) 1 hs (by kernel_rfl) (by kernel_rfl) (by kernel_rfl) (by kernel_rfl) (by kernel_rfl) (by kernel_rfl) rfl (Nat.le_of_ble_eq_true (by kernel_rfl)) fun a w hs => ?_)
        refine ⟨fun h => absurd h (by decide), ?_⟩
        replace hs := hs.pick [0, 4, 5, 7, 8, 11, 40, 41, 44, 45] (L' := [(0, pp b_x0), (4, pp b_244), (5, pp b_245), (7, pp b_248), (8, vi 3), (11, vi 2), (40, vi 3), (41, vi 2), (44, vi 3), (45, vi 0)]) (by kernel_rfl)
        refine Vk.dDone (by kernel_rfl) ?_
        refine hK417 _ _ ?_
        clear hK417
        refine Vk.region ?_
        refine qpe 2 [(0, pp b_x0), (4, pp b_244), (5, pp b_245), (7, pp b_248), (8, vi 3), (11, vi 2), (40, vi 3), (41, vi 2), (44, vi 3), (45, vi 1)] hs fun a hs => hKL414 _ _ ?_
        clear hKL414
        refine Vk.unroll fun KL427 hKL427 => ?_
        refine qsr fun K428 hK428 => ?_
        refine qpe 1 [(0, pp b_x0), (4, pp b_244), (5, pp b_245), (7, pp b_248), (8, vi 3), (11, vi 2), (40, vi 3), (41, vi 2), (44, vi 3), (45, vi 1), (46, .bool true)] hs fun a hs => hK428 _ _ ?_
        clear hK428
        refine Vk.seq fun K429 hK429 => ?_
        refine qct hs ?_
        refine wp_skip ?_
        refine hK429 _ _ ?_
        clear hK429
        refine Vk.seq fun K430 hK430 => ?_
        refine wp_block ?_
        refine qsr fun K431 hK431 => ?_
        refine qpe 2 [(0, pp b_x0), (4, pp b_244), (5, pp b_245), (7, pp b_248), (8, vi 3), (11, vi 2), (12, vi 1), (40, vi 3), (41, vi 2), (44, vi 3), (45, vi 1)] hs fun a hs => hK431 _ _ ?_
        clear hK431
        obtain ⟨C_432, hC_432⟩ : ∃ X0 : List HP, X0 = (pt b_248 (blk [cp b_x0, C.map (some b_247), ci v_330.1, ci v_343.1, ci v_356.1, ci v_378.1, ci v_391.1, ci v_404.1, ci v_426.1, ci 0, ci 0] 188) :: pt b_247 (.map #[⟨.agg (vals [ci 0, ci 1]), vi v_269.1, 0⟩, ⟨.agg (vals [ci 0, ci 2]), vi v_277.1, 1⟩, ⟨.agg (vals [ci 1, ci 2]), vi v_294.1, 2⟩] 3) :: pt b_245 (blk x2 28) :: pt b_244 (blk x1 28) :: pt b_4 (blk [ci 0, ci 0, ci 0] 28) :: pt b_3 (blk x2 28) :: pt b_2 (blk x1 28) :: S) := ⟨_, rfl⟩
        refine qdr 18 κ C_432 hs fun w hs hqC_432 => ?_
        have hcz : Own κ w (pt b_248 (blk [cp b_x0, C.map (some b_247), ci v_330.1, ci v_343.1, ci v_356.1, ci v_378.1, ci v_391.1, ci v_404.1, ci v_426.1, ci 0, ci 0] 188) :: pt b_247 (.map #[⟨.agg (vals [ci 0, ci 1]), vi v_269.1, 0⟩, ⟨.agg (vals [ci 0, ci 2]), vi v_277.1, 1⟩, ⟨.agg (vals [ci 1, ci 2]), vi v_294.1, 2⟩] 3) :: pt b_245 (blk x2 28) :: pt b_244 (blk x1 28) :: pt b_4 (blk [ci 0, ci 0, ci 0] 28) :: pt b_3 (blk x2 28) :: pt b_2 (blk x1 28) :: S) := (Own.to hs.own [1, 2, 3, 4, 5, 6, 7] 8 (by kernel_rfl) (by kernel_rfl))
        have hcl : Own κ w C_432 := by rw [hC_432]; exact hcz
        refine qdp (fuel := 5) [0, 1, 2, 3, 4, 5, 6, 7, 9, 10, 11, 14, 15, 16] hs hcl hqC_432 fun a hs => ?_
        obtain ⟨v_434, h_433, hm⟩ := bind_t hm
        refine Vk.dTakeT (i := 8) (some 56) (vi v_434) hs (by kernel_rfl) hqC_432 hcl (by kernel_rfl) (by kernel_rfl) (op := (.load 3 (.tmp 55))) (by kernel_rfl) (by kernel_rfl) (fun w hw o ho => by rw [hC_432] at hw; exact run_load1 (c := ci v_434) ho (by kernel_rfl) (by kernel_rfl) (Cell.own 3 rfl (getI_some h_433)) _ hw) fun a hs => ?_
        obtain ⟨v_436, h_435, hm⟩ := bind_t hm
        refine Vk.dTakeT (i := 12) (some 60) (vi v_436) hs (by kernel_rfl) hqC_432 hcl (by kernel_rfl) (by kernel_rfl) (op := (.load 3 (.tmp 59))) (by kernel_rfl) (by kernel_rfl) (fun w hw o ho => by rw [hC_432] at hw; exact run_load1 (c := ci v_436) ho (by kernel_rfl) (by kernel_rfl) (Cell.own 2 rfl (getI_some h_435)) _ hw) fun a hs => ?_
        obtain ⟨v_439, h_438, hm⟩ := bind_t hm
        refine Vk.dOnly (i := 13) (by kernel_rfl) (Vk.call (some 61) 150 #[pp b_x0, vi 7, vi 2, vi v_434, vi v_436] hs (by kernel_rfl) (by kernel_rfl) (by kernel_rfl) ?_)
        refine (wire_Machine_Two.ok k v_426.2 7 2 v_434 v_436 v_439 h_438 κ w (pt b_248 (blk [cp b_x0, C.map (some b_247), ci v_330.1, ci v_343.1, ci v_356.1, ci v_378.1, ci v_391.1, ci v_404.1, ci v_426.1, ci 0, ci 0] 188) :: pt b_247 (.map #[⟨.agg (vals [ci 0, ci 1]), vi v_269.1, 0⟩, ⟨.agg (vals [ci 0, ci 2]), vi v_277.1, 1⟩, ⟨.agg (vals [ci 1, ci 2]), vi v_294.1, 2⟩] 3) :: pt b_245 (blk x2 28) :: pt b_244 (blk x1 28) :: pt b_4 (blk [ci 0, ci 0, ci 0] 28) :: pt b_3 (blk x2 28) :: pt b_2 (blk x1 28) :: S) b_x0 (Own.to hs.own [0, 1, 2, 3, 4, 5, 6, 7] 8 (by kernel_rfl) (by kernel_rfl))).mono ?_
        rintro _ w ⟨rfl, how⟩
        refine ⟨_, _, _, rfl, how, fun a hs => ?_⟩
        replace hcl : Own κ w C_432 := by rw [hC_432]; exact (Own.to hs.own [1, 2, 3, 4, 5, 6, 7] 8 (by kernel_rfl) (by kernel_rfl))
        refine ⟨fun _ => hcl, ?_⟩
        refine qdp (fuel := 1) [17] hs hcl hqC_432 fun a hs => ?_
        refine Vk.dOnly (i := 18) (by kernel_rfl) (Vk.store1 (b := b_248) (ty := 3) (x := (.tmp 65)) (y := (.tmp 61)) (off := 9) (ci v_439.1) 1 hs (by kernel_rfl) (by kernel_rfl) (by kernel_rfl) (by kernel_rfl) (by kernel_rfl) (by kernel_rfl) rfl (Nat.le_of_ble_eq_true (by kernel_rfl)) fun a w hs => ?_)
        refine ⟨fun h => absurd h (by decide), ?_⟩
        replace hs := hs.pick [0, 4, 5, 7, 8, 11, 40, 41, 44, 45] (L' := [(0, pp b_x0), (4, pp b_244), (5, pp b_245), (7, pp b_248), (8, vi 3), (11, vi 2), (40, vi 3), (41, vi 2), (44, vi 3), (45, vi 1)]) (by kernel_rfl)
        refine Vk.dDone (by kernel_rfl) ?_
        refine hK430 _ _ ?_
        clear hK430
        refine Vk.region ?_
        refine qpe 2 [(0, pp b_x0), (4, pp b_244), (5, pp b_245), (7, pp b_248), (8, vi 3), (11, vi 2), (40, vi 3), (41, vi 2), (44, vi 3), (45, vi 2)] hs fun a hs => hKL427 _ _ ?_
        clear hKL427
        refine Vk.unroll fun KL440 hKL440 => ?_
        refine qsr fun K441 hK441 => ?_
        refine qpe 1 [(0, pp b_x0), (4, pp b_244), (5, pp b_245), (7, pp b_248), (8, vi 3), (11, vi 2), (40, vi 3), (41, vi 2), (44, vi 3), (45, vi 2), (46, .bool true)] hs fun a hs => hK441 _ _ ?_
        clear hK441
        refine Vk.seq fun K442 hK442 => ?_
        refine qct hs ?_
        refine wp_skip ?_
        refine hK442 _ _ ?_
        clear hK442
        refine Vk.seq fun K443 hK443 => ?_
        refine wp_block ?_
        refine qsr fun K444 hK444 => ?_
        refine qpe 2 [(0, pp b_x0), (4, pp b_244), (5, pp b_245), (7, pp b_248), (8, vi 3), (11, vi 2), (12, vi 2), (40, vi 3), (41, vi 2), (44, vi 3), (45, vi 2)] hs fun a hs => hK444 _ _ ?_
        clear hK444
        obtain ⟨C_445, hC_445⟩ : ∃ X0 : List HP, X0 = (pt b_248 (blk [cp b_x0, C.map (some b_247), ci v_330.1, ci v_343.1, ci v_356.1, ci v_378.1, ci v_391.1, ci v_404.1, ci v_426.1, ci v_439.1, ci 0] 188) :: pt b_247 (.map #[⟨.agg (vals [ci 0, ci 1]), vi v_269.1, 0⟩, ⟨.agg (vals [ci 0, ci 2]), vi v_277.1, 1⟩, ⟨.agg (vals [ci 1, ci 2]), vi v_294.1, 2⟩] 3) :: pt b_245 (blk x2 28) :: pt b_244 (blk x1 28) :: pt b_4 (blk [ci 0, ci 0, ci 0] 28) :: pt b_3 (blk x2 28) :: pt b_2 (blk x1 28) :: S) := ⟨_, rfl⟩
        refine qdr 18 κ C_445 hs fun w hs hqC_445 => ?_
        have hcz : Own κ w (pt b_248 (blk [cp b_x0, C.map (some b_247), ci v_330.1, ci v_343.1, ci v_356.1, ci v_378.1, ci v_391.1, ci v_404.1, ci v_426.1, ci v_439.1, ci 0] 188) :: pt b_247 (.map #[⟨.agg (vals [ci 0, ci 1]), vi v_269.1, 0⟩, ⟨.agg (vals [ci 0, ci 2]), vi v_277.1, 1⟩, ⟨.agg (vals [ci 1, ci 2]), vi v_294.1, 2⟩] 3) :: pt b_245 (blk x2 28) :: pt b_244 (blk x1 28) :: pt b_4 (blk [ci 0, ci 0, ci 0] 28) :: pt b_3 (blk x2 28) :: pt b_2 (blk x1 28) :: S) := (Own.to hs.own [1, 2, 3, 4, 5, 6, 7] 8 (by kernel_rfl) (by kernel_rfl))
        have hcl : Own κ w C_445 := by rw [hC_445]; exact hcz
        refine qdp (fuel := 5) [0, 1, 2, 3, 4, 5, 6, 7, 9, 10, 11, 14, 15, 16] hs hcl hqC_445 fun a hs => ?_
        obtain ⟨v_447, h_446, hm⟩ := bind_t hm
        refine Vk.dTakeT (i := 8) (some 56) (vi v_447) hs (by kernel_rfl) hqC_445 hcl (by kernel_rfl) (by kernel_rfl) (op := (.load 3 (.tmp 55))) (by kernel_rfl) (by kernel_rfl) (fun w hw o ho => by rw [hC_445] at hw; exact run_load1 (c := ci v_447) ho (by kernel_rfl) (by kernel_rfl) (Cell.own 3 rfl (getI_some h_446)) _ hw) fun a hs => ?_
        obtain ⟨v_449, h_448, hm⟩ := bind_t hm
        refine Vk.dTakeT (i := 12) (some 60) (vi v_449) hs (by kernel_rfl) hqC_445 hcl (by kernel_rfl) (by kernel_rfl) (op := (.load 3 (.tmp 59))) (by kernel_rfl) (by kernel_rfl) (fun w hw o ho => by rw [hC_445] at hw; exact run_load1 (c := ci v_449) ho (by kernel_rfl) (by kernel_rfl) (Cell.own 2 rfl (getI_some h_448)) _ hw) fun a hs => ?_
        obtain ⟨v_452, h_451, hm⟩ := bind_t hm
        refine Vk.dOnly (i := 13) (by kernel_rfl) (Vk.call (some 61) 150 #[pp b_x0, vi 7, vi 2, vi v_447, vi v_449] hs (by kernel_rfl) (by kernel_rfl) (by kernel_rfl) ?_)
        refine (wire_Machine_Two.ok k v_439.2 7 2 v_447 v_449 v_452 h_451 κ w (pt b_248 (blk [cp b_x0, C.map (some b_247), ci v_330.1, ci v_343.1, ci v_356.1, ci v_378.1, ci v_391.1, ci v_404.1, ci v_426.1, ci v_439.1, ci 0] 188) :: pt b_247 (.map #[⟨.agg (vals [ci 0, ci 1]), vi v_269.1, 0⟩, ⟨.agg (vals [ci 0, ci 2]), vi v_277.1, 1⟩, ⟨.agg (vals [ci 1, ci 2]), vi v_294.1, 2⟩] 3) :: pt b_245 (blk x2 28) :: pt b_244 (blk x1 28) :: pt b_4 (blk [ci 0, ci 0, ci 0] 28) :: pt b_3 (blk x2 28) :: pt b_2 (blk x1 28) :: S) b_x0 (Own.to hs.own [0, 1, 2, 3, 4, 5, 6, 7] 8 (by kernel_rfl) (by kernel_rfl))).mono ?_
        rintro _ w ⟨rfl, how⟩
        refine ⟨_, _, _, rfl, how, fun a hs => ?_⟩
        replace hcl : Own κ w C_445 := by rw [hC_445]; exact (Own.to hs.own [1, 2, 3, 4, 5, 6, 7] 8 (by kernel_rfl) (by kernel_rfl))
        refine ⟨fun _ => hcl, ?_⟩
        refine qdp (fuel := 1) [17] hs hcl hqC_445 fun a hs => ?_
        refine Vk.dOnly (i := 18) (by kernel_rfl) (Vk.store1 (b := b_248) (ty := 3) (x := (.tmp 65)) (y := (.tmp 61)) (off := 10) (ci v_452.1) 1 hs (by kernel_rfl) (by kernel_rfl) (by kernel_rfl) (by kernel_rfl) (by kernel_rfl) (by kernel_rfl) rfl (Nat.le_of_ble_eq_true (by kernel_rfl)) fun a w hs => ?_)
        refine ⟨fun h => absurd h (by decide), ?_⟩
        replace hs := hs.pick [0, 4, 5, 7, 8, 11, 40, 41, 44, 45] (L' := [(0, pp b_x0), (4, pp b_244), (5, pp b_245), (7, pp b_248), (8, vi 3), (11, vi 2), (40, vi 3), (41, vi 2), (44, vi 3), (45, vi 2)]) (by kernel_rfl)
        refine Vk.dDone (by kernel_rfl) ?_
        refine hK443 _ _ ?_
        clear hK443
        refine Vk.region ?_
        refine qpe 2 [(0, pp b_x0), (4, pp b_244), (5, pp b_245), (7, pp b_248), (8, vi 3), (11, vi 2), (40, vi 3), (41, vi 2), (44, vi 3), (45, vi 3)] hs fun a hs => hKL440 _ _ ?_
        clear hKL440
        refine Vk.unroll fun KL453 hKL453 => ?_
        refine qsr fun K454 hK454 => ?_
        refine qpe 1 [(0, pp b_x0), (4, pp b_244), (5, pp b_245), (7, pp b_248), (8, vi 3), (11, vi 2), (40, vi 3), (41, vi 2), (44, vi 3), (45, vi 3), (46, .bool false)] hs fun a hs => hK454 _ _ ?_
        clear hK454
        refine Vk.seq fun K455 hK455 => ?_
        refine qcf hs ?_
        refine wp_exit ?_
        refine hK411 _ _ ?_
        clear hK411
        refine Vk.region ?_
        refine qpe 2 [(0, pp b_x0), (4, pp b_244), (5, pp b_245), (7, pp b_248), (8, vi 3), (40, vi 3), (41, vi 3)] hs fun a hs => hKL408 _ _ ?_
        clear hKL408
        refine Vk.unroll fun KL456 hKL456 => ?_
        refine qsr fun K457 hK457 => ?_
        refine qpe 1 [(0, pp b_x0), (4, pp b_244), (5, pp b_245), (7, pp b_248), (8, vi 3), (40, vi 3), (41, vi 3), (42, .bool false)] hs fun a hs => hK457 _ _ ?_
        clear hK457
        refine Vk.seq fun K458 hK458 => ?_
        refine qcf hs ?_
        refine wp_exit ?_
        refine hK310 _ _ ?_
        clear hK310
        refine qsr fun K459 hK459 => ?_
        refine qpe 2 [(6, pp b_248)] hs fun a hs => hK459 _ _ ?_
        clear hK459
        refine wp_ret ?_
        refine hKP242 _ _ ?_
        refine hKR242 _ _ ?_
        refine Vk.ret1 (P := Try.prog) (fn := Try.f91) (pp b_248) hs rfl (by kernel_rfl) ⟨_, _, _, rfl, hs.own, fun a hs => ?_⟩
        refine qpe 1 [(0, pp b_x0), (6, pp b_4), (7, pp b_248)] hs fun a hs => hK239 _ _ ?_
        clear hK239
        refine qsr fun K460 hK460 => ?_
        refine qpu 3 hs fun a hs => ?_
        refine Vk.step (Vk.call (some 23) 92 #[pp b_248, .func (.func 95) #[pp b_248] #[]] hs (by kernel_rfl) (by kernel_rfl) (by kernel_rfl) ?_)
        refine Vk.enterI [(0, pp b_248), (1, .func (.func 95) #[pp b_248] #[])] Try.func92 rfl Try.ntmps92 (by kernel_rfl) (Nat.le_of_ble_eq_true (by kernel_rfl)) hs.own fun KR461 hKR461 hKP461 a hs => ?_
        refine qsr fun K462 hK462 => ?_
        refine Vk.step (Vk.alloc 4 28 [ci 0, ci 0, ci 0] hs (by kernel_rfl) (by kernel_rfl) (by kernel_rfl) fun b_463 w a hs => ?_)
        refine qpe 0 [(0, pp b_248), (1, .func (.func 95) #[pp b_248] #[]), (4, pp b_463)] hs fun a hs => hK462 _ _ ?_
        clear hK462
        refine qsr fun K464 hK464 => ?_
        refine qpu 2 hs fun a hs => ?_
        refine Vk.step (Vk.alloc 5 28 [ci 0, ci 0, ci 0] hs (by kernel_rfl) (by kernel_rfl) (by kernel_rfl) fun b_465 w a hs => ?_)
        refine Vk.step (Vk.storeA (b := b_465) (ty := 28) (x := (.tmp 5)) (y := (.tmp 10)) (sz := 3) [ci (-1), ci (-1), ci (-1)] 0 hs (by kernel_rfl) (by kernel_rfl) (by kernel_rfl) (by kernel_rfl) (by kernel_rfl) rfl (by kernel_rfl) rfl (Eq.trans (b := 3) rfl (Eq.symm rfl)) fun a w hs => ?_)
        refine qpe 0 [(0, pp b_248), (1, .func (.func 95) #[pp b_248] #[]), (4, pp b_463), (5, pp b_465)] hs fun a hs => hK464 _ _ ?_
        clear hK464
        refine qsr fun K466 hK466 => ?_
        refine qpu 3 hs fun a hs => ?_
        refine qld 3 (cp b_x0) hs rfl fun a hs => ?_
        obtain ⟨g_467, hs⟩ := hs.unex 2 rfl
        obtain ⟨v_470, h_469, hm⟩ := bind_t hm
        refine Vk.step (Vk.call (some 15) 89 #[pp b_x0] hs (by kernel_rfl) (by kernel_rfl) (by kernel_rfl) ?_)
        refine (wire_Machine_N.ok k v_452.2 v_470 h_469 κ w (pt b_465 (blk [ci (-1), ci (-1), ci (-1)] 28) :: pt b_463 (blk [ci 0, ci 0, ci 0] 28) :: pt b_248 (blk [cp b_x0, C.map (some b_247), ci v_330.1, ci v_343.1, ci v_356.1, ci v_378.1, ci v_391.1, ci v_404.1, ci v_426.1, ci v_439.1, ci v_452.1] 188) :: pt b_247 (.map #[⟨.agg (vals [ci 0, ci 1]), vi v_269.1, 0⟩, ⟨.agg (vals [ci 0, ci 2]), vi v_277.1, 1⟩, ⟨.agg (vals [ci 1, ci 2]), vi v_294.1, 2⟩] 3) :: pt b_245 (blk x2 28) :: pt b_244 (blk x1 28) :: pt b_4 (blk [ci 0, ci 0, ci 0] 28) :: pt b_3 (blk x2 28) :: pt b_2 (blk x1 28) :: S) b_x0 g_467 (Own.to hs.own [2, 0, 1, 3, 4, 5, 6, 7, 8, 9] 10 (by kernel_rfl) (by kernel_rfl))).mono ?_
        rintro _ w ⟨rfl, how⟩
        refine ⟨_, _, _, rfl, how, fun a hs => ?_⟩
        rcases Bool.eq_false_or_eq_true (v_470 == 3) with hb | hb
        · replace hm := bif_t hm hb
          obtain rfl := Vk.of_beq hb
          refine qpe 1 [(0, pp b_248), (1, .func (.func 95) #[pp b_248] #[]), (4, pp b_463), (5, pp b_465), (6, vi 3)] hs fun a hs => hK466 _ _ ?_
          clear hK466
          refine Vk.seq fun K471 hK471 => ?_
          refine qsr fun K472 hK472 => ?_
          refine qpe 2 [(0, pp b_248), (1, .func (.func 95) #[pp b_248] #[]), (4, pp b_463), (5, pp b_465), (6, vi 3), (16, vi 3), (17, vi 0)] hs fun a hs => hK472 _ _ ?_
          clear hK472
          refine wp_block ?_
          refine Vk.unroll0 40 ?_
          refine Vk.unroll fun KL473 hKL473 => ?_
          refine qsr fun K474 hK474 => ?_
          refine qpe 1 [(0, pp b_248), (1, .func (.func 95) #[pp b_248] #[]), (4, pp b_463), (5, pp b_465), (6, vi 3), (16, vi 3), (17, vi 0), (18, .bool true)] hs fun a hs => hK474 _ _ ?_
          clear hK474
          refine Vk.seq fun K475 hK475 => ?_
          refine qct hs ?_
          refine wp_skip ?_
          refine hK475 _ _ ?_
          clear hK475
          refine Vk.seq fun K476 hK476 => ?_
          refine wp_block ?_
          refine qsr fun K477 hK477 => ?_
          refine qpe 2 [(0, pp b_248), (1, .func (.func 95) #[pp b_248] #[]), (4, pp b_463), (5, pp b_465), (6, vi 3), (7, vi 0), (16, vi 3), (17, vi 0)] hs fun a hs => hK477 _ _ ?_
          clear hK477
          refine qsr fun K478 hK478 => ?_
          refine qpu 8 hs fun a hs => ?_
          refine qld 3 (ci v_330.1) hs rfl fun a hs => ?_
          refine qpu 2 hs fun a hs => ?_
          refine Vk.step (Vk.store1 (b := b_465) (ty := 3) (x := (.tmp 30)) (y := (.tmp 28)) (off := 0) (ci v_330.1) 1 hs (by kernel_rfl) (by kernel_rfl) (by kernel_rfl) (by kernel_rfl) (by kernel_rfl) (by kernel_rfl) rfl (Nat.le_of_ble_eq_true (by kernel_rfl)) fun a w hs => ?_)
          refine qpe 0 [(0, pp b_248), (1, .func (.func 95) #[pp b_248] #[]), (4, pp b_463), (5, pp b_465), (6, vi 3), (7, vi 0), (16, vi 3), (17, vi 0)] hs fun a hs => hK478 _ _ ?_
          clear hK478
          refine qsr fun K479 hK479 => ?_
          refine qpe 2 [(0, pp b_248), (1, .func (.func 95) #[pp b_248] #[]), (4, pp b_463), (5, pp b_465), (6, vi 3), (7, vi 0), (16, vi 3), (17, vi 0), (31, vi 3), (32, vi 0)] hs fun a hs => hK479 _ _ ?_
          clear hK479
          refine wp_block ?_
          refine Vk.unroll0 40 ?_
          refine Vk.unroll fun KL480 hKL480 => ?_
          refine qsr fun K481 hK481 => ?_
          refine qpe 1 [(0, pp b_248), (1, .func (.func 95) #[pp b_248] #[]), (4, pp b_463), (5, pp b_465), (6, vi 3), (7, vi 0), (16, vi 3), (17, vi 0), (31, vi 3), (32, vi 0), (33, .bool true)] hs fun a hs => hK481 _ _ ?_
          clear hK481
          refine Vk.seq fun K482 hK482 => ?_
          refine qct hs ?_
          refine wp_skip ?_
          refine hK482 _ _ ?_
          clear hK482
          refine Vk.seq fun K483 hK483 => ?_
          refine wp_block ?_
          refine qsr fun K484 hK484 => ?_
          refine qpe 2 [(0, pp b_248), (1, .func (.func 95) #[pp b_248] #[]), (4, pp b_463), (5, pp b_465), (6, vi 3), (7, vi 0), (8, vi 0), (16, vi 3), (17, vi 0), (31, vi 3), (32, vi 0)] hs fun a hs => hK484 _ _ ?_
          clear hK484
          refine qsr fun K485 hK485 => ?_
          refine qpe 3 [(0, pp b_248), (1, .func (.func 95) #[pp b_248] #[]), (4, pp b_463), (5, pp b_465), (6, vi 3), (7, vi 0), (8, vi 0), (16, vi 3), (17, vi 0), (31, vi 3), (32, vi 0), (37, .bool false)] hs fun a hs => hK485 _ _ ?_
          clear hK485
          refine qcf hs ?_
          refine wp_skip ?_
          refine hK483 _ _ ?_
          clear hK483
          refine Vk.region ?_
          refine qpe 2 [(0, pp b_248), (1, .func (.func 95) #[pp b_248] #[]), (4, pp b_463), (5, pp b_465), (6, vi 3), (7, vi 0), (16, vi 3), (17, vi 0), (31, vi 3), (32, vi 1)] hs fun a hs => hKL480 _ _ ?_
          clear hKL480
          refine Vk.unroll fun KL486 hKL486 => ?_
          refine qsr fun K487 hK487 => ?_
          refine qpe 1 [(0, pp b_248), (1, .func (.func 95) #[pp b_248] #[]), (4, pp b_463), (5, pp b_465), (6, vi 3), (7, vi 0), (16, vi 3), (17, vi 0), (31, vi 3), (32, vi 1), (33, .bool true)] hs fun a hs => hK487 _ _ ?_
          clear hK487
          refine Vk.seq fun K488 hK488 => ?_
          refine qct hs ?_
          refine wp_skip ?_
          refine hK488 _ _ ?_
          clear hK488
          refine Vk.seq fun K489 hK489 => ?_
          refine wp_block ?_
          refine qsr fun K490 hK490 => ?_
          refine qpe 2 [(0, pp b_248), (1, .func (.func 95) #[pp b_248] #[]), (4, pp b_463), (5, pp b_465), (6, vi 3), (7, vi 0), (8, vi 1), (16, vi 3), (17, vi 0), (31, vi 3), (32, vi 1)] hs fun a hs => hK490 _ _ ?_
          clear hK490
          refine qsr fun K491 hK491 => ?_
          refine qpe 3 [(0, pp b_248), (1, .func (.func 95) #[pp b_248] #[]), (4, pp b_463), (5, pp b_465), (6, vi 3), (7, vi 0), (8, vi 1), (16, vi 3), (17, vi 0), (31, vi 3), (32, vi 1), (37, .bool true)] hs fun a hs => hK491 _ _ ?_
          clear hK491
          refine qct hs ?_
          obtain ⟨C_492, hC_492⟩ : ∃ X0 : List HP, X0 = (pt b_465 (blk [ci v_330.1, ci (-1), ci (-1)] 28) :: pt b_463 (blk [ci 0, ci 0, ci 0] 28) :: pt b_248 (blk [cp b_x0, C.map (some b_247), ci v_330.1, ci v_343.1, ci v_356.1, ci v_378.1, ci v_391.1, ci v_404.1, ci v_426.1, ci v_439.1, ci v_452.1] 188) :: pt b_247 (.map #[⟨.agg (vals [ci 0, ci 1]), vi v_269.1, 0⟩, ⟨.agg (vals [ci 0, ci 2]), vi v_277.1, 1⟩, ⟨.agg (vals [ci 1, ci 2]), vi v_294.1, 2⟩] 3) :: pt b_245 (blk x2 28) :: pt b_244 (blk x1 28) :: pt b_4 (blk [ci 0, ci 0, ci 0] 28) :: pt b_3 (blk x2 28) :: pt b_2 (blk x1 28) :: S) := ⟨_, rfl⟩
          refine qdr 17 κ C_492 hs fun w hs hqC_492 => ?_
          have hcz : Own κ w (pt b_465 (blk [ci v_330.1, ci (-1), ci (-1)] 28) :: pt b_463 (blk [ci 0, ci 0, ci 0] 28) :: pt b_248 (blk [cp b_x0, C.map (some b_247), ci v_330.1, ci v_343.1, ci v_356.1, ci v_378.1, ci v_391.1, ci v_404.1, ci v_426.1, ci v_439.1, ci v_452.1] 188) :: pt b_247 (.map #[⟨.agg (vals [ci 0, ci 1]), vi v_269.1, 0⟩, ⟨.agg (vals [ci 0, ci 2]), vi v_277.1, 1⟩, ⟨.agg (vals [ci 1, ci 2]), vi v_294.1, 2⟩] 3) :: pt b_245 (blk x2 28) :: pt b_244 (blk x1 28) :: pt b_4 (blk [ci 0, ci 0, ci 0] 28) :: pt b_3 (blk x2 28) :: pt b_2 (blk x1 28) :: S) := (Own.to hs.own [1, 2, 3, 4, 5, 6, 7, 8, 9] 10 (by kernel_rfl) (by kernel_rfl))
          have hcl : Own κ w C_492 := by rw [hC_492]; exact hcz
          refine qdp (fuel := 6) [0, 1, 2, 3, 5, 6, 7, 8, 10, 11, 12, 15] hs hcl hqC_492 fun a hs => ?_
          refine qdl 4 2 (cp b_x0) hs hcl hqC_492 hC_492 rfl fun a hs => ?_
          refine qdl 9 0 (ci v_330.1) hs hcl hqC_492 hC_492 rfl fun a hs => ?_
          refine Vk.dOnly (i := 13) (by kernel_rfl) (Vk.call (some 51) 95 #[pp b_248, vi 0, vi 1] hs (by kernel_rfl) (by kernel_rfl) (by kernel_rfl) ?_)
          refine Vk.enterI [(0, pp b_248), (1, vi 0), (2, vi 1)] Try.func95 rfl Try.ntmps95 (by kernel_rfl) (Nat.le_of_ble_eq_true (by kernel_rfl)) hs.own fun KR493 hKR493 hKP493 a hs => ?_
          refine qsr fun K494 hK494 => ?_
          refine qpe 1 [(0, pp b_248), (1, vi 0), (2, vi 1)] hs fun a hs => hK494 _ _ ?_
          clear hK494
          refine Vk.seq fun K495 hK495 => ?_
          refine qsr fun K496 hK496 => ?_
          refine qpe 3 [(0, pp b_248), (1, vi 0), (2, vi 1), (9, .bool true)] hs fun a hs => hK496 _ _ ?_
          clear hK496
          refine qct hs ?_
          refine qsr fun K497 hK497 => ?_
          refine qpu 3 hs fun a hs => ?_
          refine Vk.step (Vk.call (some 13) 151 #[pp b_248, vi 0, vi 1] hs (by kernel_rfl) (by kernel_rfl) (by kernel_rfl) ?_)
          refine Vk.enterI [(0, pp b_248), (1, vi 0), (2, vi 1)] Try.func151 rfl Try.ntmps151 (by kernel_rfl) (Nat.le_of_ble_eq_true (by kernel_rfl)) hs.own fun KR498 hKR498 hKP498 a hs => ?_
          refine qsr fun K499 hK499 => ?_
          refine qpe 1 [(0, pp b_248), (1, vi 0), (2, vi 1)] hs fun a hs => hK499 _ _ ?_
          clear hK499
          refine qsr fun K500 hK500 => ?_
          refine qpu 3 hs fun a hs => ?_
          refine qld 3 (C.map (some b_247)) hs rfl fun a hs => ?_
          refine qpu 7 hs fun a hs => ?_
          refine Vk.step (Vk.value (some 18) (vi v_269.1) hs (by kernel_rfl) (op := (.lookup 186 (.tmp 10) (.tmp 17) false)) (by kernel_rfl) (fun o ho => run_lookup (b := b_247) (key := .agg (vals [ci 0, ci 1])) 4 rfl ho (by kernel_rfl) (by kernel_rfl) (by kernel_rfl) _ hs.own) fun a hs => ?_)
          refine qpe 1 [(6, vi v_269.1)] hs fun a hs => hK500 _ _ ?_
          clear hK500
          refine wp_ret ?_
          refine hKP498 _ _ ?_
          refine hKR498 _ _ ?_
          refine Vk.ret1 (P := Try.prog) (fn := Try.f151) (vi v_269.1) hs rfl (by kernel_rfl) ⟨_, _, _, rfl, hs.own, fun a hs => ?_⟩
          refine qpe 1 [(6, vi v_269.1)] hs fun a hs => hK497 _ _ ?_
          clear hK497
          refine wp_ret ?_
          refine hKP493 _ _ ?_
          refine hKR493 _ _ ?_
          refine Vk.ret1 (P := Try.prog) (fn := Try.f95) (vi v_269.1) hs rfl (by kernel_rfl) ⟨_, _, _, rfl, hs.own, fun a hs => ?_⟩
          replace hcl : Own κ w C_492 := by rw [hC_492]; exact (Own.to hs.own [1, 2, 3, 4, 5, 6, 7, 8, 9] 10 (by kernel_rfl) (by kernel_rfl))
          refine ⟨fun _ => hcl, ?_⟩
          replace hs := hs.toEx (Twire_Machine.parts b_x0 v_452.2) g_467 0 rfl
          obtain ⟨v_503, h_502, hm⟩ := bind_t hm
          refine Vk.dOnly (i := 14) (by kernel_rfl) (Vk.call (some 52) 150 #[pp b_x0, vi 5, vi 0, vi v_330.1, vi v_269.1] hs (by kernel_rfl) (by kernel_rfl) (by kernel_rfl) ?_)
          refine (wire_Machine_Two.ok k v_452.2 5 0 v_330.1 v_269.1 v_503 h_502 κ w (pt b_465 (blk [ci v_330.1, ci (-1), ci (-1)] 28) :: pt b_463 (blk [ci 0, ci 0, ci 0] 28) :: pt b_248 (blk [cp b_x0, C.map (some b_247), ci v_330.1, ci v_343.1, ci v_356.1, ci v_378.1, ci v_391.1, ci v_404.1, ci v_426.1, ci v_439.1, ci v_452.1] 188) :: pt b_247 (.map #[⟨.agg (vals [ci 0, ci 1]), vi v_269.1, 0⟩, ⟨.agg (vals [ci 0, ci 2]), vi v_277.1, 1⟩, ⟨.agg (vals [ci 1, ci 2]), vi v_294.1, 2⟩] 3) :: pt b_245 (blk x2 28) :: pt b_244 (blk x1 28) :: pt b_4 (blk [ci 0, ci 0, ci 0] 28) :: pt b_3 (blk x2 28) :: pt b_2 (blk x1 28) :: S) b_x0 (Own.to hs.own [0, 1, 2, 3, 4, 5, 6, 7, 8, 9] 10 (by kernel_rfl) (by kernel_rfl))).mono ?_
          rintro _ w ⟨rfl, how⟩
          refine ⟨_, _, _, rfl, how, fun a hs => ?_⟩
          replace hcl : Own κ w C_492 := by rw [hC_492]; exact (Own.to hs.own [1, 2, 3, 4, 5, 6, 7, 8, 9] 10 (by kernel_rfl) (by kernel_rfl))
          refine ⟨fun _ => hcl, ?_⟩
          refine qdp (fuel := 1) [16] hs hcl hqC_492 fun a hs => ?_
          refine Vk.dOnly (i := 17) (by kernel_rfl) (Vk.store1 (b := b_465) (ty := 3) (x := (.tmp 54)) (y := (.tmp 52)) (off := 0) (ci v_503.1) 1 hs (by kernel_rfl) (by kernel_rfl) (by kernel_rfl) (by kernel_rfl) (by kernel_rfl) (by kernel_rfl) rfl (Nat.le_of_ble_eq_true (by kernel_rfl)) fun a w hs => ?_)
          refine ⟨fun h => absurd h (by decide), ?_⟩
          replace hs := hs.pick [0, 1, 4, 5, 6, 7, 16, 17, 31, 32] (L' := [(0, pp b_248), (1, .func (.func 95) #[pp b_248] #[]), (4, pp b_463), (5, pp b_465), (6, vi 3), (7, vi 0), (16, vi 3), (17, vi 0), (31, vi 3), (32, vi 1)]) (by kernel_rfl)
          refine Vk.dDone (by kernel_rfl) ?_
          refine hK489 _ _ ?_
          clear hK489
          refine Vk.region ?_
          refine qpe 2 [(0, pp b_248), (1, .func (.func 95) #[pp b_248] #[]), (4, pp b_463), (5, pp b_465), (6, vi 3), (7, vi 0), (16, vi 3), (17, vi 0), (31, vi 3), (32, vi 2)] hs fun a hs => hKL486 _ _ ?_
          clear hKL486
          refine Vk.unroll fun KL504 hKL504 => ?_
          refine qsr fun K505 hK505 => ?_
          refine qpe 1 [(0, pp b_248), (1, .func (.func 95) #[pp b_248] #[]), (4, pp b_463), (5, pp b_465), (6, vi 3), (7, vi 0), (16, vi 3), (17, vi 0), (31, vi 3), (32, vi 2), (33, .bool true)] hs fun a hs => hK505 _ _ ?_
          clear hK505
          refine Vk.seq fun K506 hK506 => ?_
          refine qct hs ?_
          refine wp_skip ?_
          refine hK506 _ _ ?_
          clear hK506
          refine Vk.seq fun K507 hK507 => ?_
          refine wp_block ?_
          refine qsr fun K508 hK508 => ?_
          refine qpe 2 [(0, pp b_248), (1, .func (.func 95) #[pp b_248] #[]), (4, pp b_463), (5, pp b_465), (6, vi 3), (7, vi 0), (8, vi 2), (16, vi 3), (17, vi 0), (31, vi 3), (32, vi 2)] hs fun a hs => hK508 _ _ ?_
          clear hK508
          refine qsr fun K509 hK509 => ?_
          refine qpe 3 [(0, pp b_248), (1, .func (.func 95) #[pp b_248] #[]), (4, pp b_463), (5, pp b_465), (6, vi 3), (7, vi 0), (8, vi 2), (16, vi 3), (17, vi 0), (31, vi 3), (32, vi 2), (37, .bool true)] hs fun a hs => hK509 _ _ ?_
          clear hK509
          refine qct hs ?_
          obtain ⟨C_510, hC_510⟩ : ∃ X0 : List HP, X0 = (pt b_465 (blk [ci v_503.1, ci (-1), ci (-1)] 28) :: pt b_463 (blk [ci 0, ci 0, ci 0] 28) :: pt b_248 (blk [cp b_x0, C.map (some b_247), ci v_330.1, ci v_343.1, ci v_356.1, ci v_378.1, ci v_391.1, ci v_404.1, ci v_426.1, ci v_439.1, ci v_452.1] 188) :: pt b_247 (.map #[⟨.agg (vals [ci 0, ci 1]), vi v_269.1, 0⟩, ⟨.agg (vals [ci 0, ci 2]), vi v_277.1, 1⟩, ⟨.agg (vals [ci 1, ci 2]), vi v_294.1, 2⟩] 3) :: pt b_245 (blk x2 28) :: pt b_244 (blk x1 28) :: pt b_4 (blk [ci 0, ci 0, ci 0] 28) :: pt b_3 (blk x2 28) :: pt b_2 (blk x1 28) :: S) := ⟨_, rfl⟩
          refine qdr 17 κ C_510 hs fun w hs hqC_510 => ?_
          have hcz : Own κ w (pt b_465 (blk [ci v_503.1, ci (-1), ci (-1)] 28) :: pt b_463 (blk [ci 0, ci 0, ci 0] 28) :: pt b_248 (blk [cp b_x0, C.map (some b_247), ci v_330.1, ci v_343.1, ci v_356.1, ci v_378.1, ci v_391.1, ci v_404.1, ci v_426.1, ci v_439.1, ci v_452.1] 188) :: pt b_247 (.map #[⟨.agg (vals [ci 0, ci 1]), vi v_269.1, 0⟩, ⟨.agg (vals [ci 0, ci 2]), vi v_277.1, 1⟩, ⟨.agg (vals [ci 1, ci 2]), vi v_294.1, 2⟩] 3) :: pt b_245 (blk x2 28) :: pt b_244 (blk x1 28) :: pt b_4 (blk [ci 0, ci 0, ci 0] 28) :: pt b_3 (blk x2 28) :: pt b_2 (blk x1 28) :: S) := (Own.to hs.own [1, 2, 3, 4, 5, 6, 7, 8, 9] 10 (by kernel_rfl) (by kernel_rfl))
          have hcl : Own κ w C_510 := by rw [hC_510]; exact hcz
          refine qdp (fuel := 6) [0, 1, 2, 3, 5, 6, 7, 8, 10, 11, 12, 15] hs hcl hqC_510 fun a hs => ?_
          refine qdl 4 2 (cp b_x0) hs hcl hqC_510 hC_510 rfl fun a hs => ?_
          refine qdl 9 0 (ci v_503.1) hs hcl hqC_510 hC_510 rfl fun a hs => ?_
          refine Vk.dOnly (i := 13) (by kernel_rfl) (Vk.call (some 51) 95 #[pp b_248, vi 0, vi 2] hs (by kernel_rfl) (by kernel_rfl) (by kernel_rfl) ?_)
          refine Vk.enterI [(0, pp b_248), (1, vi 0), (2, vi 2)] Try.func95 rfl Try.ntmps95 (by kernel_rfl) (Nat.le_of_ble_eq_true (by kernel_rfl)) hs.own fun KR511 hKR511 hKP511 a hs => ?_
          refine qsr fun K512 hK512 => ?_
          refine qpe 1 [(0, pp b_248), (1, vi 0), (2, vi 2)] hs fun a hs => hK512 _ _ ?_
          clear hK512
          refine Vk.seq fun K513 hK513 => ?_
          refine qsr fun K514 hK514 => ?_
          refine qpe 3 [(0, pp b_248), (1, vi 0), (2, vi 2), (9, .bool true)] hs fun a hs => hK514 _ _ ?_
          clear hK514
          refine qct hs ?_
          refine qsr fun K515 hK515 => ?_
          refine qpu 3 hs fun a hs => ?_
          refine Vk.step (Vk.call (some 13) 151 #[pp b_248, vi 0, vi 2] hs (by kernel_rfl) (by kernel_rfl) (by kernel_rfl) ?_)
          refine Vk.enterI [(0, pp b_248), (1, vi 0), (2, vi 2)] Try.func151 rfl Try.ntmps151 (by kernel_rfl) (Nat.le_of_ble_eq_true (by kernel_rfl)) hs.own fun KR516 hKR516 hKP516 a hs => ?_
          refine qsr fun K517 hK517 => ?_
          refine qpe 1 [(0, pp b_248), (1, vi 0), (2, vi 2)] hs fun a hs => hK517 _ _ ?_
          clear hK517
          refine qsr fun K518 hK518 => ?_
          refine qpu 3 hs fun a hs => ?_
          refine qld 3 (C.map (some b_247)) hs rfl fun a hs => ?_
          refine qpu 7 hs fun a hs => ?_
          refine Vk.step (Vk.value (some 18) (vi v_277.1) hs (by kernel_rfl) (op := (.lookup 186 (.tmp 10) (.tmp 17) false)) (by kernel_rfl) (fun o ho => run_lookup (b := b_247) (key := .agg (vals [ci 0, ci 2])) 4 rfl ho (by kernel_rfl) (by kernel_rfl) (by kernel_rfl) _ hs.own) fun a hs => ?_)
          refine qpe 1 [(6, vi v_277.1)] hs fun a hs => hK518 _ _ ?_
          clear hK518
          refine wp_ret ?_
          refine hKP516 _ _ ?_
          refine hKR516 _ _ ?_
          refine Vk.ret1 (P := Try.prog) (fn := Try.f151) (vi v_277.1) hs rfl (by kernel_rfl) ⟨_, _, _, rfl, hs.own, fun a hs => ?_⟩
          refine qpe 1 [(6, vi v_277.1)] hs fun a hs => hK515 _ _ ?_
          clear hK515
          refine wp_ret ?_
          refine hKP511 _ _ ?_
          refine hKR511 _ _ ?_
          refine Vk.ret1 (P := Try.prog) (fn := Try.f95) (vi v_277.1) hs rfl (by kernel_rfl) ⟨_, _, _, rfl, hs.own, fun a hs => ?_⟩
          replace hcl : Own κ w C_510 := by rw [hC_510]; exact (Own.to hs.own [1, 2, 3, 4, 5, 6, 7, 8, 9] 10 (by kernel_rfl) (by kernel_rfl))
          refine ⟨fun _ => hcl, ?_⟩
          obtain ⟨v_521, h_520, hm⟩ := bind_t hm
          refine Vk.dOnly (i := 14) (by kernel_rfl) (Vk.call (some 52) 150 #[pp b_x0, vi 5, vi 0, vi v_503.1, vi v_277.1] hs (by kernel_rfl) (by kernel_rfl) (by kernel_rfl) ?_)
          refine (wire_Machine_Two.ok k v_503.2 5 0 v_503.1 v_277.1 v_521 h_520 κ w (pt b_465 (blk [ci v_503.1, ci (-1), ci (-1)] 28) :: pt b_463 (blk [ci 0, ci 0, ci 0] 28) :: pt b_248 (blk [cp b_x0, C.map (some b_247), ci v_330.1, ci v_343.1, ci v_356.1, ci v_378.1, ci v_391.1, ci v_404.1, ci v_426.1, ci v_439.1, ci v_452.1] 188) :: pt b_247 (.map #[⟨.agg (vals [ci 0, ci 1]), vi v_269.1, 0⟩, ⟨.agg (vals [ci 0, ci 2]), vi v_277.1, 1⟩, ⟨.agg (vals [ci 1, ci 2]), vi v_294.1, 2⟩] 3) :: pt b_245 (blk x2 28) :: pt b_244 (blk x1 28) :: pt b_4 (blk [ci 0, ci 0, ci 0] 28) :: pt b_3 (blk x2 28) :: pt b_2 (blk x1 28) :: S) b_x0 (Own.to hs.own [0, 1, 2, 3, 4, 5, 6, 7, 8, 9] 10 (by kernel_rfl) (by kernel_rfl))).mono ?_
          rintro _ w ⟨rfl, how⟩
          refine ⟨_, _, _, rfl, how, fun a hs => ?_⟩
          replace hcl : Own κ w C_510 := by rw [hC_510]; exact (Own.to hs.own [1, 2, 3, 4, 5, 6, 7, 8, 9] 10 (by kernel_rfl) (by kernel_rfl))
          refine ⟨fun _ => hcl, ?_⟩
          refine qdp (fuel := 1) [16] hs hcl hqC_510 fun a hs => ?_
          refine Vk.dOnly (i := 17) (by kernel_rfl) (Vk.store1 (b := b_465) (ty := 3) (x := (.tmp 54)) (y := (.tmp 52)) (off := 0) (ci v_521.1) 1 hs (by kernel_rfl) (by kernel_rfl) (by kernel_rfl) (by kernel_rfl) (by kernel_rfl) (by kernel_rfl) rfl (Nat.le_of_ble_eq_true (by kernel_rfl)) fun a w hs => ?_)
          refine ⟨fun h => absurd h (by decide), ?_⟩
          replace hs := hs.pick [0, 1, 4, 5, 6, 7, 16, 17, 31, 32] (L' := [(0, pp b_248), (1, .func (.func 95) #[pp b_248] #[]), (4, pp b_463), (5, pp b_465), (6, vi 3), (7, vi 0), (16, vi 3), (17, vi 0), (31, vi 3), (32, vi 2)]) (by kernel_rfl)
          refine Vk.dDone (by kernel_rfl) ?_
          refine hK507 _ _ ?_
          clear hK507
          refine Vk.region ?_
          refine qpe 2 [(0, pp b_248), (1, .func (.func 95) #[pp b_248] #[]), (4, pp b_463), (5, pp b_465), (6, vi 3), (7, vi 0), (16, vi 3), (17, vi 0), (31, vi 3), (32, vi 3)] hs fun a hs => hKL504 _ _ ?_
          clear hKL504
          refine Vk.unroll fun KL522 hKL522 => ?_
          refine qsr fun K523 hK523 => ?_
          refine qpe 1 [(0, pp b_248), (1, .func (.func 95) #[pp b_248] #[]), (4, pp b_463), (5, pp b_465), (6, vi 3), (7, vi 0), (16, vi 3), (17, vi 0), (31, vi 3), (32, vi 3), (33, .bool false)] hs fun a hs => hK523 _ _ ?_
          clear hK523
          refine Vk.seq fun K524 hK524 => ?_
          refine qcf hs ?_
          refine wp_exit ?_
          refine hK476 _ _ ?_
          clear hK476
          refine Vk.region ?_
          refine qpe 2 [(0, pp b_248), (1, .func (.func 95) #[pp b_248] #[]), (4, pp b_463), (5, pp b_465), (6, vi 3), (16, vi 3), (17, vi 1)] hs fun a hs => hKL473 _ _ ?_
          clear hKL473
          refine Vk.unroll fun KL525 hKL525 => ?_
          refine qsr fun K526 hK526 => ?_
          refine qpe 1 [(0, pp b_248), (1, .func (.func 95) #[pp b_248] #[]), (4, pp b_463), (5, pp b_465), (6, vi 3), (16, vi 3), (17, vi 1), (18, .bool true)] hs fun a hs => hK526 _ _ ?_
          clear hK526
          refine Vk.seq fun K527 hK527 => ?_
          refine qct hs ?_
          refine wp_skip ?_
          refine hK527 _ _ ?_
          clear hK527
          refine Vk.seq fun K528 hK528 => ?_
          refine wp_block ?_
          refine qsr fun K529 hK529 => ?_
          refine qpe 2 [(0, pp b_248), (1, .func (.func 95) #[pp b_248] #[]), (4, pp b_463), (5, pp b_465), (6, vi 3), (7, vi 1), (16, vi 3), (17, vi 1)] hs fun a hs => hK529 _ _ ?_
          clear hK529
          refine qsr fun K530 hK530 => ?_
          refine qpu 8 hs fun a hs => ?_
          refine qld 3 (ci v_391.1) hs rfl fun a hs => ?_
          refine qpu 2 hs fun a hs => ?_
          refine Vk.step (Vk.store1 (b := b_465) (ty := 3) (x := (.tmp 30)) (y := (.tmp 28)) (off := 1) (ci v_391.1) 1 hs (by kernel_rfl) (by kernel_rfl) (by kernel_rfl) (by kernel_rfl) (by kernel_rfl) (by kernel_rfl) rfl (Nat.le_of_ble_eq_true (by kernel_rfl)) fun a w hs => ?_)
          refine qpe 0 [(0, pp b_248), (1, .func (.func 95) #[pp b_248] #[]), (4, pp b_463), (5, pp b_465), (6, vi 3), (7, vi 1), (16, vi 3), (17, vi 1)] hs fun a hs => hK530 _ _ ?_
          clear hK530
          refine qsr fun K531 hK531 => ?_
          refine qpe 2 [(0, pp b_248), (1, .func (.func 95) #[pp b_248] #[]), (4, pp b_463), (5, pp b_465), (6, vi 3), (7, vi 1), (16, vi 3), (17, vi 1), (31, vi 3), (32, vi 0)] hs fun a hs => hK531 _ _ ?_
          clear hK531
          refine wp_block ?_
          refine Vk.unroll0 40 ?_
          refine Vk.unroll fun KL532 hKL532 => ?_
          refine qsr fun K533 hK533 => ?_
          refine qpe 1 [(0, pp b_248), (1, .func (.func 95) #[pp b_248] #[]), (4, pp b_463), (5, pp b_465), (6, vi 3), (7, vi 1), (16, vi 3), (17, vi 1), (31, vi 3), (32, vi 0), (33, .bool true)] hs fun a hs => hK533 _ _ ?_
          clear hK533
          refine Vk.seq fun K534 hK534 => ?_
          refine qct hs ?_
          refine wp_skip ?_
          refine hK534 _ _ ?_
          clear hK534
          refine Vk.seq fun K535 hK535 => ?_
          refine wp_block ?_
          refine qsr fun K536 hK536 => ?_
          refine qpe 2 [(0, pp b_248), (1, .func (.func 95) #[pp b_248] #[]), (4, pp b_463), (5, pp b_465), (6, vi 3), (7, vi 1), (8, vi 0), (16, vi 3), (17, vi 1), (31, vi 3), (32, vi 0)] hs fun a hs => hK536 _ _ ?_
          clear hK536
          refine qsr fun K537 hK537 => ?_
          refine qpe 3 [(0, pp b_248), (1, .func (.func 95) #[pp b_248] #[]), (4, pp b_463), (5, pp b_465), (6, vi 3), (7, vi 1), (8, vi 0), (16, vi 3), (17, vi 1), (31, vi 3), (32, vi 0), (37, .bool true)] hs fun a hs => hK537 _ _ ?_
          clear hK537
          refine qct hs ?_
          obtain ⟨C_538, hC_538⟩ : ∃ X0 : List HP, X0 = (pt b_465 (blk [ci v_521.1, ci v_391.1, ci (-1)] 28) :: pt b_463 (blk [ci 0, ci 0, ci 0] 28) :: pt b_248 (blk [cp b_x0, C.map (some b_247), ci v_330.1, ci v_343.1, ci v_356.1, ci v_378.1, ci v_391.1, ci v_404.1, ci v_426.1, ci v_439.1, ci v_452.1] 188) :: pt b_247 (.map #[⟨.agg (vals [ci 0, ci 1]), vi v_269.1, 0⟩, ⟨.agg (vals [ci 0, ci 2]), vi v_277.1, 1⟩, ⟨.agg (vals [ci 1, ci 2]), vi v_294.1, 2⟩] 3) :: pt b_245 (blk x2 28) :: pt b_244 (blk x1 28) :: pt b_4 (blk [ci 0, ci 0, ci 0] 28) :: pt b_3 (blk x2 28) :: pt b_2 (blk x1 28) :: S) := ⟨_, rfl⟩
          refine qdr 17 κ C_538 hs fun w hs hqC_538 => ?_
          have hcz : Own κ w (pt b_465 (blk [ci v_521.1, ci v_391.1, ci (-1)] 28) :: pt b_463 (blk [ci 0, ci 0, ci 0] 28) :: pt b_248 (blk [cp b_x0, C.map (some b_247), ci v_330.1, ci v_343.1, ci v_356.1, ci v_378.1, ci v_391.1, ci v_404.1, ci v_426.1, ci v_439.1, ci v_452.1] 188) :: pt b_247 (.map #[⟨.agg (vals [ci 0, ci 1]), vi v_269.1, 0⟩, ⟨.agg (vals [ci 0, ci 2]), vi v_277.1, 1⟩, ⟨.agg (vals [ci 1, ci 2]), vi v_294.1, 2⟩] 3) :: pt b_245 (blk x2 28) :: pt b_244 (blk x1 28) :: pt b_4 (blk [ci 0, ci 0, ci 0] 28) :: pt b_3 (blk x2 28) :: pt b_2 (blk x1 28) :: S) := (Own.to hs.own [1, 2, 3, 4, 5, 6, 7, 8, 9] 10 (by kernel_rfl) (by kernel_rfl))
          have hcl : Own κ w C_538 := by rw [hC_538]; exact hcz
          refine qdp (fuel := 6) [0, 1, 2, 3, 5, 6, 7, 8, 10, 11, 12, 15] hs hcl hqC_538 fun a hs => ?_
          refine qdl 4 2 (cp b_x0) hs hcl hqC_538 hC_538 rfl fun a hs => ?_
          refine qdl 9 0 (ci v_391.1) hs hcl hqC_538 hC_538 rfl fun a hs => ?_
          refine Vk.dOnly (i := 13) (by kernel_rfl) (Vk.call (some 51) 95 #[pp b_248, vi 1, vi 0] hs (by kernel_rfl) (by kernel_rfl) (by kernel_rfl) ?_)
          refine Vk.enterI [(0, pp b_248), (1, vi 1), (2, vi 0)] Try.func95 rfl Try.ntmps95 (by kernel_rfl) (Nat.le_of_ble_eq_true (by kernel_rfl)) hs.own fun KR539 hKR539 hKP539 a hs => ?_
          refine qsr fun K540 hK540 => ?_
          refine qpe 1 [(0, pp b_248), (1, vi 1), (2, vi 0)] hs fun a hs => hK540 _ _ ?_
          clear hK540
          refine Vk.seq fun K541 hK541 => ?_
          refine qsr fun K542 hK542 => ?_
          refine qpe 3 [(0, pp b_248), (1, vi 1), (2, vi 0), (9, .bool false)] hs fun a hs => hK542 _ _ ?_
          clear hK542
          refine qcf hs ?_
          refine wp_skip ?_
          refine hK541 _ _ ?_
          clear hK541
          refine Vk.seq fun K543 hK543 => ?_
          obtain ⟨C_544, hC_544⟩ : ∃ X0 : List HP, X0 = (pt b_465 (blk [ci v_521.1, ci v_391.1, ci (-1)] 28) :: pt b_463 (blk [ci 0, ci 0, ci 0] 28) :: pt b_248 (blk [cp b_x0, C.map (some b_247), ci v_330.1, ci v_343.1, ci v_356.1, ci v_378.1, ci v_391.1, ci v_404.1, ci v_426.1, ci v_439.1, ci v_452.1] 188) :: pt b_247 (.map #[⟨.agg (vals [ci 0, ci 1]), vi v_269.1, 0⟩, ⟨.agg (vals [ci 0, ci 2]), vi v_277.1, 1⟩, ⟨.agg (vals [ci 1, ci 2]), vi v_294.1, 2⟩] 3) :: pt b_245 (blk x2 28) :: pt b_244 (blk x1 28) :: pt b_4 (blk [ci 0, ci 0, ci 0] 28) :: pt b_3 (blk x2 28) :: pt b_2 (blk x1 28) :: S) := ⟨_, rfl⟩
          refine qdr 33 κ C_544 hs fun w hs hqC_544 => ?_
          have hcz : Own κ w (pt b_465 (blk [ci v_521.1, ci v_391.1, ci (-1)] 28) :: pt b_463 (blk [ci 0, ci 0, ci 0] 28) :: pt b_248 (blk [cp b_x0, C.map (some b_247), ci v_330.1, ci v_343.1, ci v_356.1, ci v_378.1, ci v_391.1, ci v_404.1, ci v_426.1, ci v_439.1, ci v_452.1] 188) :: pt b_247 (.map #[⟨.agg (vals [ci 0, ci 1]), vi v_269.1, 0⟩, ⟨.agg (vals [ci 0, ci 2]), vi v_277.1, 1⟩, ⟨.agg (vals [ci 1, ci 2]), vi v_294.1, 2⟩] 3) :: pt b_245 (blk x2 28) :: pt b_244 (blk x1 28) :: pt b_4 (blk [ci 0, ci 0, ci 0] 28) :: pt b_3 (blk x2 28) :: pt b_2 (blk x1 28) :: S) := (Own.to hs.own [1, 2, 3, 4, 5, 6, 7, 8, 9] 10 (by kernel_rfl) (by kernel_rfl))
          have hcl : Own κ w C_544 := by rw [hC_544]; exact hcz
          refine qdp (fuel := 8) [0, 1, 2, 4, 5, 6, 7, 9, 10, 11, 12, 14, 15, 16, 17, 18, 19, 20, 23, 24, 25, 26, 27, 28, 29] hs hcl hqC_544 fun a hs => ?_
          refine qdl 3 2 (cp b_x0) hs hcl hqC_544 hC_544 rfl fun a hs => ?_
          refine qdl 8 2 (cp b_x0) hs hcl hqC_544 hC_544 rfl fun a hs => ?_
          refine qdl 21 2 (ci v_343.1) hs hcl hqC_544 hC_544 rfl fun a hs => ?_
          refine qdl 30 2 (ci v_378.1) hs hcl hqC_544 hC_544 rfl fun a hs => ?_
          refine Vk.dOnly (i := 13) (by kernel_rfl) (Vk.call (some 27) 151 #[pp b_248, vi 0, vi 1] hs (by kernel_rfl) (by kernel_rfl) (by kernel_rfl) ?_)
          refine Vk.enterI [(0, pp b_248), (1, vi 0), (2, vi 1)] Try.func151 rfl Try.ntmps151 (by kernel_rfl) (Nat.le_of_ble_eq_true (by kernel_rfl)) hs.own fun KR545 hKR545 hKP545 a hs => ?_
          refine qsr fun K546 hK546 => ?_
          refine qpe 1 [(0, pp b_248), (1, vi 0), (2, vi 1)] hs fun a hs => hK546 _ _ ?_
          clear hK546
          refine qsr fun K547 hK547 => ?_
          refine qpu 3 hs fun a hs => ?_
          refine qld 3 (C.map (some b_247)) hs rfl fun a hs => ?_
          refine qpu 7 hs fun a hs => ?_
          refine Vk.step (Vk.value (some 18) (vi v_269.1) hs (by kernel_rfl) (op := (.lookup 186 (.tmp 10) (.tmp 17) false)) (by kernel_rfl) (fun o ho => run_lookup (b := b_247) (key := .agg (vals [ci 0, ci 1])) 4 rfl ho (by kernel_rfl) (by kernel_rfl) (by kernel_rfl) _ hs.own) fun a hs => ?_)
          refine qpe 1 [(6, vi v_269.1)] hs fun a hs => hK547 _ _ ?_
          clear hK547
          refine wp_ret ?_
          refine hKP545 _ _ ?_
          refine hKR545 _ _ ?_
          refine Vk.ret1 (P := Try.prog) (fn := Try.f151) (vi v_269.1) hs rfl (by kernel_rfl) ⟨_, _, _, rfl, hs.own, fun a hs => ?_⟩
          replace hcl : Own κ w C_544 := by rw [hC_544]; exact (Own.to hs.own [1, 2, 3, 4, 5, 6, 7, 8, 9] 10 (by kernel_rfl) (by kernel_rfl))
          refine ⟨fun _ => hcl, ?_⟩
          obtain ⟨v_550, h_549, hm⟩ := bind_t hm
          refine Vk.dOnly (i := 22) (by kernel_rfl) (Vk.call (some 36) 150 #[pp b_x0, vi 5, vi 1, vi v_269.1, vi v_343.1] hs (by kernel_rfl) (by kernel_rfl) (by kernel_rfl) ?_)
          refine (wire_Machine_Two.ok k v_521.2 5 1 v_269.1 v_343.1 v_550 h_549 κ w (pt b_465 (blk [ci v_521.1, ci v_391.1, ci (-1)] 28) :: pt b_463 (blk [ci 0, ci 0, ci 0] 28) :: pt b_248 (blk [cp b_x0, C.map (some b_247), ci v_330.1, ci v_343.1, ci v_356.1, ci v_378.1, ci v_391.1, ci v_404.1, ci v_426.1, ci v_439.1, ci v_452.1] 188) :: pt b_247 (.map #[⟨.agg (vals [ci 0, ci 1]), vi v_269.1, 0⟩, ⟨.agg (vals [ci 0, ci 2]), vi v_277.1, 1⟩, ⟨.agg (vals [ci 1, ci 2]), vi v_294.1, 2⟩] 3) :: pt b_245 (blk x2 28) :: pt b_244 (blk x1 28) :: pt b_4 (blk [ci 0, ci 0, ci 0] 28) :: pt b_3 (blk x2 28) :: pt b_2 (blk x1 28) :: S) b_x0 (Own.to hs.own [0, 1, 2, 3, 4, 5, 6, 7, 8, 9] 10 (by kernel_rfl) (by kernel_rfl))).mono ?_
          rintro _ w ⟨rfl, how⟩
          refine ⟨_, _, _, rfl, how, fun a hs => ?_⟩
          replace hcl : Own κ w C_544 := by rw [hC_544]; exact (Own.to hs.own [1, 2, 3, 4, 5, 6, 7, 8, 9] 10 (by kernel_rfl) (by kernel_rfl))
          refine ⟨fun _ => hcl, ?_⟩
          obtain ⟨v_553, h_552, hm⟩ := bind_t hm
          refine Vk.dOnly (i := 31) (by kernel_rfl) (Vk.call (some 45) 150 #[pp b_x0, vi 5, vi 1, vi v_550.1, vi v_378.1] hs (by kernel_rfl) (by kernel_rfl) (by kernel_rfl) ?_)
          refine (wire_Machine_Two.ok k v_550.2 5 1 v_550.1 v_378.1 v_553 h_552 κ w (pt b_465 (blk [ci v_521.1, ci v_391.1, ci (-1)] 28) :: pt b_463 (blk [ci 0, ci 0, ci 0] 28) :: pt b_248 (blk [cp b_x0, C.map (some b_247), ci v_330.1, ci v_343.1, ci v_356.1, ci v_378.1, ci v_391.1, ci v_404.1, ci v_426.1, ci v_439.1, ci v_452.1] 188) :: pt b_247 (.map #[⟨.agg (vals [ci 0, ci 1]), vi v_269.1, 0⟩, ⟨.agg (vals [ci 0, ci 2]), vi v_277.1, 1⟩, ⟨.agg (vals [ci 1, ci 2]), vi v_294.1, 2⟩] 3) :: pt b_245 (blk x2 28) :: pt b_244 (blk x1 28) :: pt b_4 (blk [ci 0, ci 0, ci 0] 28) :: pt b_3 (blk x2 28) :: pt b_2 (blk x1 28) :: S) b_x0 (Own.to hs.own [0, 1, 2, 3, 4, 5, 6, 7, 8, 9] 10 (by kernel_rfl) (by kernel_rfl))).mono ?_
          rintro _ w ⟨rfl, how⟩
          refine ⟨_, _, _, rfl, how, fun a hs => ?_⟩
          replace hcl : Own κ w C_544 := by rw [hC_544]; exact (Own.to hs.own [1, 2, 3, 4, 5, 6, 7, 8, 9] 10 (by kernel_rfl) (by kernel_rfl))
          refine ⟨fun _ => hcl, ?_⟩
          refine qdp (fuel := 0) [32] hs hcl hqC_544 fun a hs => ?_
          replace hs := hs.pick [6] (L' := [(6, vi v_553.1)]) (by kernel_rfl)
          refine Vk.dDone (by kernel_rfl) ?_
          refine hK543 _ _ ?_
          clear hK543
          refine wp_ret ?_
          refine hKP539 _ _ ?_
          refine hKR539 _ _ ?_
          refine Vk.ret1 (P := Try.prog) (fn := Try.f95) (vi v_553.1) hs rfl (by kernel_rfl) ⟨_, _, _, rfl, hs.own, fun a hs => ?_⟩
          replace hcl : Own κ w C_538 := by rw [hC_538]; exact (Own.to hs.own [1, 2, 3, 4, 5, 6, 7, 8, 9] 10 (by kernel_rfl) (by kernel_rfl))
          refine ⟨fun _ => hcl, ?_⟩
          obtain ⟨v_556, h_555, hm⟩ := bind_t hm
          refine Vk.dOnly (i := 14) (by kernel_rfl) (Vk.call (some 52) 150 #[pp b_x0, vi 5, vi 1, vi v_391.1, vi v_553.1] hs (by kernel_rfl) (by kernel_rfl) (by kernel_rfl) ?_)
          refine (wire_Machine_Two.ok k v_553.2 5 1 v_391.1 v_553.1 v_556 h_555 κ w (pt b_465 (blk [ci v_521.1, ci v_391.1, ci (-1)] 28) :: pt b_463 (blk [ci 0, ci 0, ci 0] 28) :: pt b_248 (blk [cp b_x0, C.map (some b_247), ci v_330.1, ci v_343.1, ci v_356.1, ci v_378.1, ci v_391.1, ci v_404.1, ci v_426.1, ci v_439.1, ci v_452.1] 188) :: pt b_247 (.map #[⟨.agg (vals [ci 0, ci 1]), vi v_269.1, 0⟩, ⟨.agg (vals [ci 0, ci 2]), vi v_277.1, 1⟩, ⟨.agg (vals [ci 1, ci 2]), vi v_294.1, 2⟩] 3) :: pt b_245 (blk x2 28) :: pt b_244 (blk x1 28) :: pt b_4 (blk [ci 0, ci 0, ci 0] 28) :: pt b_3 (blk x2 28) :: pt b_2 (blk x1 28) :: S) b_x0 (Own.to hs.own [0, 1, 2, 3, 4, 5, 6, 7, 8, 9] 10 (by kernel_rfl) (by kernel_rfl))).mono ?_
          rintro _ w ⟨rfl, how⟩
          refine ⟨_, _, _, rfl, how, fun a hs => ?_⟩
          replace hcl : Own κ w C_538 := by rw [hC_538]; exact (Own.to hs.own [1, 2, 3, 4, 5, 6, 7, 8, 9] 10 (by kernel_rfl) (by kernel_rfl))
          refine ⟨fun _ => hcl, ?_⟩
          refine qdp (fuel := 1) [16] hs hcl hqC_538 fun a hs => ?_
          refine Vk.dOnly (i := 17) (by kernel_rfl) (Vk.store1 (b := b_465) (ty := 3) (x := (.tmp 54)) (y := (.tmp 52)) (off := 1) (ci v_556.1) 1 hs (by kernel_rfl) (by kernel_rfl) (by kernel_rfl) (by kernel_rfl) (by kernel_rfl) (by kernel_rfl) rfl (Nat.le_of_ble_eq_true (by kernel_rfl)) fun a w hs => ?_)
          refine ⟨fun h => absurd h (by decide), ?_⟩
          replace hs := hs.pick [0, 1, 4, 5, 6, 7, 16, 17, 31, 32] (L' := [(0, pp b_248), (1, .func (.func 95) #[pp b_248] #[]), (4, pp b_463), (5, pp b_465), (6, vi 3), (7, vi 1), (16, vi 3), (17, vi 1), (31, vi 3), (32, vi 0)]) (by kernel_rfl)
          refine Vk.dDone (by kernel_rfl) ?_
          refine hK535 _ _ ?_
          clear hK535
          refine Vk.region ?_
          refine qpe 2 [(0, pp b_248), (1, .func (.func 95) #[pp b_248] #[]), (4, pp b_463), (5, pp b_465), (6, vi 3), (7, vi 1), (16, vi 3), (17, vi 1), (31, vi 3), (32, vi 1)] hs fun a hs => hKL532 _ _ ?_
          clear hKL532
          refine Vk.unroll fun KL557 hKL557 => ?_
          refine qsr fun K558 hK558 => ?_
          refine qpe 1 [(0, pp b_248), (1, .func (.func 95) #[pp b_248] #[]), (4, pp b_463), (5, pp b_465), (6, vi 3), (7, vi 1), (16, vi 3), (17, vi 1), (31, vi 3), (32, vi 1), (33, .bool true)] hs fun a hs => hK558 _ _ ?_
          clear hK558
          refine Vk.seq fun K559 hK559 => ?_
          refine qct hs ?_
          refine wp_skip ?_
          refine hK559 _ _ ?_
          clear hK559
          refine Vk.seq fun K560 hK560 => ?_
          refine wp_block ?_
          refine qsr fun K561 hK561 => ?_
          refine qpe 2 [(0, pp b_248), (1, .func (.func 95) #[pp b_248] #[]), (4, pp b_463), (5, pp b_465), (6, vi 3), (7, vi 1), (8, vi 1), (16, vi 3), (17, vi 1), (31, vi 3), (32, vi 1)] hs fun a hs => hK561 _ _ ?_
          clear hK561
          refine qsr fun K562 hK562 => ?_
          refine qpe 3 [(0, pp b_248), (1, .func (.func 95) #[pp b_248] #[]), (4, pp b_463), (5, pp b_465), (6, vi 3), (7, vi 1), (8, vi 1), (16, vi 3), (17, vi 1), (31, vi 3), (32, vi 1), (37, .bool false)] hs fun a hs => hK562 _ _ ?_
          clear hK562
          refine qcf hs ?_
          refine wp_skip ?_
          refine hK560 _ _ ?_
          clear hK560
          refine Vk.region ?_
          refine qpe 2 [(0, pp b_248), (1, .func (.func 95) #[pp b_248] #[]), (4, pp b_463), (5, pp b_465), (6, vi 3), (7, vi 1), (16, vi 3), (17, vi 1), (31, vi 3), (32, vi 2)] hs fun a hs => hKL557 _ _ ?_
          clear hKL557
          refine Vk.unroll fun KL563 hKL563 => ?_
          refine qsr fun K564 hK564 => ?_
          refine qpe 1 [(0, pp b_248), (1, .func (.func 95) #[pp b_248] #[]), (4, pp b_463), (5, pp b_465), (6, vi 3), (7, vi 1), (16, vi 3), (17, vi 1), (31, vi 3), (32, vi 2), (33, .bool true)] hs fun a hs => hK564 _ _ ?_
          clear hK564
          refine Vk.seq fun K565 hK565 => ?_
          refine qct hs ?_
          refine wp_skip ?_
          refine hK565 _ _ ?_
          clear hK565
          refine Vk.seq fun K566 hK566 => ?_
          refine wp_block ?_
          refine qsr fun K567 hK567 => ?_
          refine qpe 2 [(0, pp b_248), (1, .func (.func 95) #[pp b_248] #[]), (4, pp b_463), (5, pp b_465), (6, vi 3), (7, vi 1), (8, vi 2), (16, vi 3), (17, vi 1), (31, vi 3), (32, vi 2)] hs fun a hs => hK567 _ _ ?_
          clear hK567
          refine qsr fun K568 hK568 => ?_
          refine qpe 3 [(0, pp b_248), (1, .func (.func 95) #[pp b_248] #[]), (4, pp b_463), (5, pp b_465), (6, vi 3), (7, vi 1), (8, vi 2), (16, vi 3), (17, vi 1), (31, vi 3), (32, vi 2), (37, .bool true)] hs fun a hs => hK568 _ _ ?_
          clear hK568
          refine qct hs ?_
          obtain ⟨C_569, hC_569⟩ : ∃ X0 : List HP, X0 = (pt b_465 (blk [ci v_521.1, ci v_556.1, ci (-1)] 28) :: pt b_463 (blk [ci 0, ci 0, ci 0] 28) :: pt b_248 (blk [cp b_x0, C.map (some b_247), ci v_330.1, ci v_343.1, ci v_356.1, ci v_378.1, ci v_391.1, ci v_404.1, ci v_426.1, ci v_439.1, ci v_452.1] 188) :: pt b_247 (.map #[⟨.agg (vals [ci 0, ci 1]), vi v_269.1, 0⟩, ⟨.agg (vals [ci 0, ci 2]), vi v_277.1, 1⟩, ⟨.agg (vals [ci 1, ci 2]), vi v_294.1, 2⟩] 3) :: pt b_245 (blk x2 28) :: pt b_244 (blk x1 28) :: pt b_4 (blk [ci 0, ci 0, ci 0] 28) :: pt b_3 (blk x2 28) :: pt b_2 (blk x1 28) :: S) := ⟨_, rfl⟩
          refine qdr 17 κ C_569 hs fun w hs hqC_569 => ?_
          have hcz : Own κ w (pt b_465 (blk [ci v_521.1, ci v_556.1, ci (-1)] 28) :: pt b_463 (blk [ci 0, ci 0, ci 0] 28) :: pt b_248 (blk [cp b_x0, C.map (some b_247), ci v_330.1, ci v_343.1, ci v_356.1, ci v_378.1, ci v_391.1, ci v_404.1, ci v_426.1, ci v_439.1, ci v_452.1] 188) :: pt b_247 (.map #[⟨.agg (vals [ci 0, ci 1]), vi v_269.1, 0⟩, ⟨.agg (vals [ci 0, ci 2]), vi v_277.1, 1⟩, ⟨.agg (vals [ci 1, ci 2]), vi v_294.1, 2⟩] 3) :: pt b_245 (blk x2 28) :: pt b_244 (blk x1 28) :: pt b_4 (blk [ci 0, ci 0, ci 0] 28) :: pt b_3 (blk x2 28) :: pt b_2 (blk x1 28) :: S) := (Own.to hs.own [1, 2, 3, 4, 5, 6, 7, 8, 9] 10 (by kernel_rfl) (by kernel_rfl))
          have hcl : Own κ w C_569 := by rw [hC_569]; exact hcz
          refine qdp (fuel := 6) [0, 1, 2, 3, 5, 6, 7, 8, 10, 11, 12, 15] hs hcl hqC_569 fun a hs => ?_
          refine qdl 4 2 (cp b_x0) hs hcl hqC_569 hC_569 rfl fun a hs => ?_
          refine qdl 9 0 (ci v_556.1) hs hcl hqC_569 hC_569 rfl fun a hs => ?_
          refine Vk.dOnly (i := 13) (by kernel_rfl) (Vk.call (some 51) 95 #[pp b_248, vi 1, vi 2] hs (by kernel_rfl) (by kernel_rfl) (by kernel_rfl) ?_)
          refine Vk.enterI [(0, pp b_248), (1, vi 1), (2, vi 2)] Try.func95 rfl Try.ntmps95 (by kernel_rfl) (Nat.le_of_ble_eq_true (by kernel_rfl)) hs.own fun KR570 hKR570 hKP570 a hs => ?_
          refine qsr fun K571 hK571 => ?_
          refine qpe 1 [(0, pp b_248), (1, vi 1), (2, vi 2)] hs fun a hs => hK571 _ _ ?_
          clear hK571
          refine Vk.seq fun K572 hK572 => ?_
          refine qsr fun K573 hK573 => ?_
          refine qpe 3 [(0, pp b_248), (1, vi 1), (2, vi 2), (9, .bool true)] hs fun a hs => hK573 _ _ ?_
          clear hK573
          refine qct hs ?_
          refine qsr fun K574 hK574 => ?_
          refine qpu 3 hs fun a hs => ?_
          refine Vk.step (Vk.call (some 13) 151 #[pp b_248, vi 1, vi 2] hs (by kernel_rfl) (by kernel_rfl) (by kernel_rfl) ?_)
          refine Vk.enterI [(0, pp b_248), (1, vi 1), (2, vi 2)] Try.func151 rfl Try.ntmps151 (by kernel_rfl) (Nat.le_of_ble_eq_true (by kernel_rfl)) hs.own fun KR575 hKR575 hKP575 a hs => ?_
          refine qsr fun K576 hK576 => ?_
          refine qpe 1 [(0, pp b_248), (1, vi 1), (2, vi 2)] hs fun a hs => hK576 _ _ ?_
          clear hK576
          refine qsr fun K577 hK577 => ?_
          refine qpu 3 hs fun a hs => ?_
          refine qld 3 (C.map (some b_247)) hs rfl fun a hs => ?_
          refine qpu 7 hs fun a hs => ?_
          refine Vk.step (Vk.value (some 18) (vi v_294.1) hs (by kernel_rfl) (op := (.lookup 186 (.tmp 10) (.tmp 17) false)) (by kernel_rfl) (fun o ho => run_lookup (b := b_247) (key := .agg (vals [ci 1, ci 2])) 4 rfl ho (by kernel_rfl) (by kernel_rfl) (by kernel_rfl) _ hs.own) fun a hs => ?_)
          refine qpe 1 [(6, vi v_294.1)] hs fun a hs => hK577 _ _ ?_
          clear hK577
          refine wp_ret ?_
          refine hKP575 _ _ ?_
          refine hKR575 _ _ ?_
          refine Vk.ret1 (P := Try.prog) (fn := Try.f151) (vi v_294.1) hs rfl (by kernel_rfl) ⟨_, _, _, rfl, hs.own, fun a hs => ?_⟩
          refine qpe 1 [(6, vi v_294.1)] hs fun a hs => hK574 _ _ ?_
          clear hK574
          refine wp_ret ?_
          refine hKP570 _ _ ?_
          refine hKR570 _ _ ?_
          refine Vk.ret1 (P := Try.prog) (fn := Try.f95) (vi v_294.1) hs rfl (by kernel_rfl) ⟨_, _, _, rfl, hs.own, fun a hs => ?_⟩
          replace hcl : Own κ w C_569 := by rw [hC_569]; exact (Own.to hs.own [1, 2, 3, 4, 5, 6, 7, 8, 9] 10 (by kernel_rfl) (by kernel_rfl))
          refine ⟨fun _ => hcl, ?_⟩
          obtain ⟨v_580, h_579, hm⟩ := bind_t hm
          refine Vk.dOnly (i := 14) (by kernel_rfl) (Vk.call (some 52) 150 #[pp b_x0, vi 5, vi 1, vi v_556.1, vi v_294.1] hs (by kernel_rfl) (by kernel_rfl) (by kernel_rfl) ?_)
          refine (wire_Machine_Two.ok k v_556.2 5 1 v_556.1 v_294.1 v_580 h_579 κ w (pt b_465 (blk [ci v_521.1, ci v_556.1, ci (-1)] 28) :: pt b_463 (blk [ci 0, ci 0, ci 0] 28) :: pt b_248 (blk [cp b_x0, C.map (some b_247), ci v_330.1, ci v_343.1, ci v_356.1, ci v_378.1, ci v_391.1, ci v_404.1, ci v_426.1, ci v_439.1, ci v_452.1] 188) :: pt b_247 (.map #[⟨.agg (vals [ci 0, ci 1]), vi v_269.1, 0⟩, ⟨.agg (vals [ci 0, ci 2]), vi v_277.1, 1⟩, ⟨.agg (vals [ci 1, ci 2]), vi v_294.1, 2⟩] 3) :: pt b_245 (blk x2 28) :: pt b_244 (blk x1 28) :: pt b_4 (blk [ci 0, ci 0, ci 0] 28) :: pt b_3 (blk x2 28) :: pt b_2 (blk x1 28) :: S) b_x0 (Own.to hs.own [0, 1, 2, 3, 4, 5, 6, 7, 8, 9] 10 (by kernel_rfl) (by kernel_rfl))).mono ?_
          rintro _ w ⟨rfl, how⟩
          refine ⟨_, _, _, rfl, how, fun a hs => ?_⟩
          replace hcl : Own κ w C_569 := by rw [hC_569]; exact (Own.to hs.own [1, 2, 3, 4, 5, 6, 7, 8, 9] 10 (by kernel_rfl) (by kernel_rfl))
          refine ⟨fun _ => hcl, ?_⟩
          refine qdp (fuel := 1) [16] hs hcl hqC_569 fun a hs => ?_
          refine Vk.dOnly (i := 17) (by kernel_rfl) (Vk.store1 (b := b_465) (ty := 3) (x := (.tmp 54)) (y := (.tmp 52)) (off := 1) (ci v_580.1) 1 hs (by kernel_rfl) (by kernel_rfl) (by kernel_rfl) (by kernel_rfl) (by kernel_rfl) (by kernel_rfl) rfl (Nat.le_of_ble_eq_true (by kernel_rfl)) fun a w hs => ?_)
          refine ⟨fun h => absurd h (by decide), ?_⟩
          replace hs := hs.pick [0, 1, 4, 5, 6, 7, 16, 17, 31, 32] (L' := [(0, pp b_248), (1, .func (.func 95) #[pp b_248] #[]), (4, pp b_463), (5, pp b_465), (6, vi 3), (7, vi 1), (16, vi 3), (17, vi 1), (31, vi 3), (32, vi 2)]) (by kernel_rfl)
          refine Vk.dDone (by kernel_rfl) ?_
          refine hK566 _ _ ?_
          clear hK566
          refine Vk.region ?_
          refine qpe 2 [(0, pp b_248), (1, .func (.func 95) #[pp b_248] #[]), (4, pp b_463), (5, pp b_465), (6, vi 3), (7, vi 1), (16, vi 3), (17, vi 1), (31, vi 3), (32, vi 3)] hs fun a hs => hKL563 _ _ ?_
          clear hKL563
          refine Vk.unroll fun KL581 hKL581 => ?_
          refine qsr fun K582 hK582 => ?_
          refine qpe 1 [(0, pp b_248), (1, .func (.func 95) #[pp b_248] #[]), (4, pp b_463), (5, pp b_465), (6, vi 3), (7, vi 1), (16, vi 3), (17, vi 1), (31, vi 3), (32, vi 3), (33, .bool false)] hs fun a hs => hK582 _ _ ?_
          clear hK582
          refine Vk.seq fun K583 hK583 => ?_
          refine qcf hs ?_
          refine wp_exit ?_
          refine hK528 _ _ ?_
          clear hK528
          refine Vk.region ?_
          refine qpe 2 [(0, pp b_248), (1, .func (.func 95) #[pp b_248] #[]), (4, pp b_463), (5, pp b_465), (6, vi 3), (16, vi 3), (17, vi 2)] hs fun a hs => hKL525 _ _ ?_
          clear hKL525
          refine Vk.unroll fun KL584 hKL584 => ?_
          refine qsr fun K585 hK585 => ?_
          refine qpe 1 [(0, pp b_248), (1, .func (.func 95) #[pp b_248] #[]), (4, pp b_463), (5, pp b_465), (6, vi 3), (16, vi 3), (17, vi 2), (18, .bool true)] hs fun a hs => hK585 _ _ ?_
          clear hK585
          refine Vk.seq fun K586 hK586 => ?_
          refine qct hs ?_
          refine wp_skip ?_
          refine hK586 _ _ ?_
          clear hK586
          refine Vk.seq fun K587 hK587 => ?_
          refine wp_block ?_
          refine qsr fun K588 hK588 => ?_
          refine qpe 2 [(0, pp b_248), (1, .func (.func 95) #[pp b_248] #[]), (4, pp b_463), (5, pp b_465), (6, vi 3), (7, vi 2), (16, vi 3), (17, vi 2)] hs fun a hs => hK588 _ _ ?_
          clear hK588
          refine qsr fun K589 hK589 => ?_
          refine qpu 8 hs fun a hs => ?_
          refine qld 3 (ci v_452.1) hs rfl fun a hs => ?_
          refine qpu 2 hs fun a hs => ?_
          refine Vk.step (Vk.store1 (b := b_465) (ty := 3) (x := (.tmp 30)) (y := (.tmp 28)) (off := 2) (ci v_452.1) 1 hs (by kernel_rfl) (by kernel_rfl) (by kernel_rfl) (by kernel_rfl) (by kernel_rfl) (by kernel_rfl) rfl (Nat.le_of_ble_eq_true (by kernel_rfl)) fun a w hs => ?_)
          refine qpe 0 [(0, pp b_248), (1, .func (.func 95) #[pp b_248] #[]), (4, pp b_463), (5, pp b_465), (6, vi 3), (7, vi 2), (16, vi 3), (17, vi 2)] hs fun a hs => hK589 _ _ ?_
          clear hK589
          refine qsr fun K590 hK590 => ?_
          refine qpe 2 [(0, pp b_248), (1, .func (.func 95) #[pp b_248] #[]), (4, pp b_463), (5, pp b_465), (6, vi 3), (7, vi 2), (16, vi 3), (17, vi 2), (31, vi 3), (32, vi 0)] hs fun a hs => hK590 _ _ ?_
          clear hK590
          refine wp_block ?_
          refine Vk.unroll0 40 ?_
          refine Vk.unroll fun KL591 hKL591 => ?_
          refine qsr fun K592 hK592 => ?_
          refine qpe 1 [(0, pp b_248), (1, .func (.func 95) #[pp b_248] #[]), (4, pp b_463), (5, pp b_465), (6, vi 3), (7, vi 2), (16, vi 3), (17, vi 2), (31, vi 3), (32, vi 0), (33, .bool true)] hs fun a hs => hK592 _ _ ?_
          clear hK592
          refine Vk.seq fun K593 hK593 => ?_
          refine qct hs ?_
          refine wp_skip ?_
          refine hK593 _ _ ?_
          clear hK593
          refine Vk.seq fun K594 hK594 => ?_
          refine wp_block ?_
          refine qsr fun K595 hK595 => ?_
          refine qpe 2 [(0, pp b_248), (1, .func (.func 95) #[pp b_248] #[]), (4, pp b_463), (5, pp b_465), (6, vi 3), (7, vi 2), (8, vi 0), (16, vi 3), (17, vi 2), (31, vi 3), (32, vi 0)] hs fun a hs => hK595 _ _ ?_
          clear hK595
          refine qsr fun K596 hK596 => ?_
          refine qpe 3 [(0, pp b_248), (1, .func (.func 95) #[pp b_248] #[]), (4, pp b_463), (5, pp b_465), (6, vi 3), (7, vi 2), (8, vi 0), (16, vi 3), (17, vi 2), (31, vi 3), (32, vi 0), (37, .bool true)] hs fun a hs => hK596 _ _ ?_
          clear hK596
          refine qct hs ?_
          obtain ⟨C_597, hC_597⟩ : ∃ X0 : List HP, X0 = (pt b_465 (blk [ci v_521.1, ci v_580.1, ci v_452.1] 28) :: pt b_463 (blk [ci 0, ci 0, ci 0] 28) :: pt b_248 (blk [cp b_x0, C.map (some b_247), ci v_330.1, ci v_343.1, ci v_356.1, ci v_378.1, ci v_391.1, ci v_404.1, ci v_426.1, ci v_439.1, ci v_452.1] 188) :: pt b_247 (.map #[⟨.agg (vals [ci 0, ci 1]), vi v_269.1, 0⟩, ⟨.agg (vals [ci 0, ci 2]), vi v_277.1, 1⟩, ⟨.agg (vals [ci 1, ci 2]), vi v_294.1, 2⟩] 3) :: pt b_245 (blk x2 28) :: pt b_244 (blk x1 28) :: pt b_4 (blk [ci 0, ci 0, ci 0] 28) :: pt b_3 (blk x2 28) :: pt b_2 (blk x1 28) :: S) := ⟨_, rfl⟩
          refine qdr 17 κ C_597 hs fun w hs hqC_597 => ?_
          have hcz : Own κ w (pt b_465 (blk [ci v_521.1, ci v_580.1, ci v_452.1] 28) :: pt b_463 (blk [ci 0, ci 0, ci 0] 28) :: pt b_248 (blk [cp b_x0, C.map (some b_247), ci v_330.1, ci v_343.1, ci v_356.1, ci v_378.1, ci v_391.1, ci v_404.1, ci v_426.1, ci v_439.1, ci v_452.1] 188) :: pt b_247 (.map #[⟨.agg (vals [ci 0, ci 1]), vi v_269.1, 0⟩, ⟨.agg (vals [ci 0, ci 2]), vi v_277.1, 1⟩, ⟨.agg (vals [ci 1, ci 2]), vi v_294.1, 2⟩] 3) :: pt b_245 (blk x2 28) :: pt b_244 (blk x1 28) :: pt b_4 (blk [ci 0, ci 0, ci 0] 28) :: pt b_3 (blk x2 28) :: pt b_2 (blk x1 28) :: S) := (Own.to hs.own [1, 2, 3, 4, 5, 6, 7, 8, 9] 10 (by kernel_rfl) (by kernel_rfl))
          have hcl : Own κ w C_597 := by rw [hC_597]; exact hcz
          refine qdp (fuel := 6) [0, 1, 2, 3, 5, 6, 7, 8, 10, 11, 12, 15] hs hcl hqC_597 fun a hs => ?_
          refine qdl 4 2 (cp b_x0) hs hcl hqC_597 hC_597 rfl fun a hs => ?_
          refine qdl 9 0 (ci v_452.1) hs hcl hqC_597 hC_597 rfl fun a hs => ?_
          refine Vk.dOnly (i := 13) (by kernel_rfl) (Vk.call (some 51) 95 #[pp b_248, vi 2, vi 0] hs (by kernel_rfl) (by kernel_rfl) (by kernel_rfl) ?_)
          refine Vk.enterI [(0, pp b_248), (1, vi 2), (2, vi 0)] Try.func95 rfl Try.ntmps95 (by kernel_rfl) (Nat.le_of_ble_eq_true (by kernel_rfl)) hs.own fun KR598 hKR598 hKP598 a hs => ?_
          refine qsr fun K599 hK599 => ?_
          refine qpe 1 [(0, pp b_248), (1, vi 2), (2, vi 0)] hs fun a hs => hK599 _ _ ?_
          clear hK599
          refine Vk.seq fun K600 hK600 => ?_
          refine qsr fun K601 hK601 => ?_
          refine qpe 3 [(0, pp b_248), (1, vi 2), (2, vi 0), (9, .bool false)] hs fun a hs => hK601 _ _ ?_
          clear hK601
          refine qcf hs ?_
          refine wp_skip ?_
          refine hK600 _ _ ?_
          clear hK600
          refine Vk.seq fun K602 hK602 => ?_
          obtain ⟨C_603, hC_603⟩ : ∃ X0 : List HP, X0 = (pt b_465 (blk [ci v_521.1, ci v_580.1, ci v_452.1] 28) :: pt b_463 (blk [ci 0, ci 0, ci 0] 28) :: pt b_248 (blk [cp b_x0, C.map (some b_247), ci v_330.1, ci v_343.1, ci v_356.1, ci v_378.1, ci v_391.1, ci v_404.1, ci v_426.1, ci v_439.1, ci v_452.1] 188) :: pt b_247 (.map #[⟨.agg (vals [ci 0, ci 1]), vi v_269.1, 0⟩, ⟨.agg (vals [ci 0, ci 2]), vi v_277.1, 1⟩, ⟨.agg (vals [ci 1, ci 2]), vi v_294.1, 2⟩] 3) :: pt b_245 (blk x2 28) :: pt b_244 (blk x1 28) :: pt b_4 (blk [ci 0, ci 0, ci 0] 28) :: pt b_3 (blk x2 28) :: pt b_2 (blk x1 28) :: S) := ⟨_, rfl⟩
          refine qdr 33 κ C_603 hs fun w hs hqC_603 => ?_
          have hcz : Own κ w (pt b_465 (blk [ci v_521.1, ci v_580.1, ci v_452.1] 28) :: pt b_463 (blk [ci 0, ci 0, ci 0] 28) :: pt b_248 (blk [cp b_x0, C.map (some b_247), ci v_330.1, ci v_343.1, ci v_356.1, ci v_378.1, ci v_391.1, ci v_404.1, ci v_426.1, ci v_439.1, ci v_452.1] 188) :: pt b_247 (.map #[⟨.agg (vals [ci 0, ci 1]), vi v_269.1, 0⟩, ⟨.agg (vals [ci 0, ci 2]), vi v_277.1, 1⟩, ⟨.agg (vals [ci 1, ci 2]), vi v_294.1, 2⟩] 3) :: pt b_245 (blk x2 28) :: pt b_244 (blk x1 28) :: pt b_4 (blk [ci 0, ci 0, ci 0] 28) :: pt b_3 (blk x2 28) :: pt b_2 (blk x1 28) :: S) := (Own.to hs.own [1, 2, 3, 4, 5, 6, 7, 8, 9] 10 (by kernel_rfl) (by kernel_rfl))
          have hcl : Own κ w C_603 := by rw [hC_603]; exact hcz
          refine qdp (fuel := 8) [0, 1, 2, 4, 5, 6, 7, 9, 10, 11, 12, 14, 15, 16, 17, 18, 19, 20, 23, 24, 25, 26, 27, 28, 29] hs hcl hqC_603 fun a hs => ?_
          refine qdl 3 2 (cp b_x0) hs hcl hqC_603 hC_603 rfl fun a hs => ?_
          refine qdl 8 2 (cp b_x0) hs hcl hqC_603 hC_603 rfl fun a hs => ?_
          refine qdl 21 2 (ci v_356.1) hs hcl hqC_603 hC_603 rfl fun a hs => ?_
          refine qdl 30 2 (ci v_426.1) hs hcl hqC_603 hC_603 rfl fun a hs => ?_
          refine Vk.dOnly (i := 13) (by kernel_rfl) (Vk.call (some 27) 151 #[pp b_248, vi 0, vi 2] hs (by kernel_rfl) (by kernel_rfl) (by kernel_rfl) ?_)
          refine Vk.enterI [(0, pp b_248), (1, vi 0), (2, vi 2)] Try.func151 rfl Try.ntmps151 (by kernel_rfl) (Nat.le_of_ble_eq_true (by kernel_rfl)) hs.own fun KR604 hKR604 hKP604 a hs => ?_
          refine qsr fun K605 hK605 => ?_
          refine qpe 1 [(0, pp b_248), (1, vi 0), (2, vi 2)] hs fun a hs => hK605 _ _ ?_
          clear hK605
          refine qsr fun K606 hK606 => ?_
          refine qpu 3 hs fun a hs => ?_
          refine qld 3 (C.map (some b_247)) hs rfl fun a hs => ?_
          refine qpu 7 hs fun a hs => ?_
          refine Vk.step (Vk.value (some 18) (vi v_277.1) hs (by kernel_rfl) (op := (.lookup 186 (.tmp 10) (.tmp 17) false)) (by kernel_rfl) (fun o ho => run_lookup (b := b_247) (key := .agg (vals [ci 0, ci 2])) 4 rfl ho (by kernel_rfl) (by kernel_rfl) (by kernel_rfl) _ hs.own) fun a hs => ?_)
          refine qpe 1 [(6, vi v_277.1)] hs fun a hs => hK606 _ _ ?_
          clear hK606
          refine wp_ret ?_
          refine hKP604 _ _ ?_
          refine hKR604 _ _ ?_
          refine Vk.ret1 (P := Try.prog) (fn := Try.f151) (vi v_277.1) hs rfl (by kernel_rfl) ⟨_, _, _, rfl, hs.own, fun a hs => ?_⟩
          replace hcl : Own κ w C_603 := by rw [hC_603]; exact (Own.to hs.own [1, 2, 3, 4, 5, 6, 7, 8, 9] 10 (by kernel_rfl) (by kernel_rfl))
          refine ⟨fun _ => hcl, ?_⟩
          obtain ⟨v_609, h_608, hm⟩ := bind_t hm
          refine Vk.dOnly (i := 22) (by kernel_rfl) (Vk.call (some 36) 150 #[pp b_x0, vi 5, vi 2, vi v_277.1, vi v_356.1] hs (by kernel_rfl) (by kernel_rfl) (by kernel_rfl) ?_)
          refine (wire_Machine_Two.ok k v_580.2 5 2 v_277.1 v_356.1 v_609 h_608 κ w (pt b_465 (blk [ci v_521.1, ci v_580.1, ci v_452.1] 28) :: pt b_463 (blk [ci 0, ci 0, ci 0] 28) :: pt b_248 (blk [cp b_x0, C.map (some b_247), ci v_330.1, ci v_343.1, ci v_356.1, ci v_378.1, ci v_391.1, ci v_404.1, ci v_426.1, ci v_439.1, ci v_452.1] 188) :: pt b_247 (.map #[⟨.agg (vals [ci 0, ci 1]), vi v_269.1, 0⟩, ⟨.agg (vals [ci 0, ci 2]), vi v_277.1, 1⟩, ⟨.agg (vals [ci 1, ci 2]), vi v_294.1, 2⟩] 3) :: pt b_245 (blk x2 28) :: pt b_244 (blk x1 28) :: pt b_4 (blk [ci 0, ci 0, ci 0] 28) :: pt b_3 (blk x2 28) :: pt b_2 (blk x1 28) :: S) b_x0 (Own.to hs.own [0, 1, 2, 3, 4, 5, 6, 7, 8, 9] 10 (by kernel_rfl) (by kernel_rfl))).mono ?_
          rintro _ w ⟨rfl, how⟩
          refine ⟨_, _, _, rfl, how, fun a hs => ?_⟩
          replace hcl : Own κ w C_603 := by rw [hC_603]; exact (Own.to hs.own [1, 2, 3, 4, 5, 6, 7, 8, 9] 10 (by kernel_rfl) (by kernel_rfl))
          refine ⟨fun _ => hcl, ?_⟩
          obtain ⟨v_612, h_611, hm⟩ := bind_t hm
          refine Vk.dOnly (i := 31) (by kernel_rfl) (Vk.call (some 45) 150 #[pp b_x0, vi 5, vi 2, vi v_609.1, vi v_426.1] hs (by kernel_rfl) (by kernel_rfl) (by kernel_rfl) ?_)
          refine (wire_Machine_Two.ok k v_609.2 5 2 v_609.1 v_426.1 v_612 h_611 κ w (pt b_465 (blk [ci v_521.1, ci v_580.1, ci v_452.1] 28) :: pt b_463 (blk [ci 0, ci 0, ci 0] 28) :: pt b_248 (blk [cp b_x0, C.map (some b_247), ci v_330.1, ci v_343.1, ci v_356.1, ci v_378.1, ci v_391.1, ci v_404.1, ci v_426.1, ci v_439.1, ci v_452.1] 188) :: pt b_247 (.map #[⟨.agg (vals [ci 0, ci 1]), vi v_269.1, 0⟩, ⟨.agg (vals [ci 0, ci 2]), vi v_277.1, 1⟩, ⟨.agg (vals [ci 1, ci 2]), vi v_294.1, 2⟩] 3) :: pt b_245 (blk x2 28) :: pt b_244 (blk x1 28) :: pt b_4 (blk [ci 0, ci 0, ci 0] 28) :: pt b_3 (blk x2 28) :: pt b_2 (blk x1 28) :: S) b_x0 (Own.to hs.own [0, 1, 2, 3, 4, 5, 6, 7, 8, 9] 10 (by kernel_rfl) (by kernel_rfl))).mono ?_
          rintro _ w ⟨rfl, how⟩
          refine ⟨_, _, _, rfl, how, fun a hs => ?_⟩
          replace hcl : Own κ w C_603 := by rw [hC_603]; exact (Own.to hs.own [1, 2, 3, 4, 5, 6, 7, 8, 9] 10 (by kernel_rfl) (by kernel_rfl))
          refine ⟨fun _ => hcl, ?_⟩
          refine qdp (fuel := 0) [32] hs hcl hqC_603 fun a hs => ?_
          replace hs := hs.pick [6] (L' := [(6, vi v_612.1)]) (by kernel_rfl)
          refine Vk.dDone (by kernel_rfl) ?_
          refine hK602 _ _ ?_
          clear hK602
          refine wp_ret ?_
          refine hKP598 _ _ ?_
          refine hKR598 _ _ ?_
          refine Vk.ret1 (P := Try.prog) (fn := Try.f95) (vi v_612.1) hs rfl (by kernel_rfl) ⟨_, _, _, rfl, hs.own, fun a hs => ?_⟩
          replace hcl : Own κ w C_597 := by rw [hC_597]; exact (Own.to hs.own [1, 2, 3, 4, 5, 6, 7, 8, 9] 10 (by kernel_rfl) (by kernel_rfl))
          refine ⟨fun _ => hcl, ?_⟩
          obtain ⟨v_615, h_614, hm⟩ := bind_t hm
          refine Vk.dOnly (i := 14) (by kernel_rfl) (Vk.call (some 52) 150 #[pp b_x0, vi 5, vi 2, vi v_452.1, vi v_612.1] hs (by kernel_rfl) (by kernel_rfl) (by kernel_rfl) ?_)
          refine (wire_Machine_Two.ok k v_612.2 5 2 v_452.1 v_612.1 v_615 h_614 κ w (pt b_465 (blk [ci v_521.1, ci v_580.1, ci v_452.1] 28) :: pt b_463 (blk [ci 0, ci 0, ci 0] 28) :: pt b_248 (blk [cp b_x0, C.map (some b_247), ci v_330.1, ci v_343.1, ci v_356.1, ci v_378.1, ci v_391.1, ci v_404.1, ci v_426.1, ci v_439.1, ci v_452.1] 188) :: pt b_247 (.map #[⟨.agg (vals [ci 0, ci 1]), vi v_269.1, 0⟩, ⟨.agg (vals [ci 0, ci 2]), vi v_277.1, 1⟩, ⟨.agg (vals [ci 1, ci 2]), vi v_294.1, 2⟩] 3) :: pt b_245 (blk x2 28) :: pt b_244 (blk x1 28) :: pt b_4 (blk [ci 0, ci 0, ci 0] 28) :: pt b_3 (blk x2 28) :: pt b_2 (blk x1 28) :: S) b_x0 (Own.to hs.own [0, 1, 2, 3, 4, 5, 6, 7, 8, 9] 10 (by kernel_rfl) (by kernel_rfl))).mono ?_
          rintro _ w ⟨rfl, how⟩
          refine ⟨_, _, _, rfl, how, fun a hs => ?_⟩
          replace hcl : Own κ w C_597 := by rw [hC_597]; exact (Own.to hs.own [1, 2, 3, 4, 5, 6, 7, 8, 9] 10 (by kernel_rfl) (by kernel_rfl))
          refine ⟨fun _ => hcl, ?_⟩
          refine qdp (fuel := 1) [16] hs hcl hqC_597 fun a hs => ?_
          refine Vk.dOnly (i := 17) (by kernel_rfl) (Vk.store1 (b := b_465) (ty := 3) (x := (.tmp 54)) (y := (.tmp 52)) (off := 2) (ci v_615.1) 1 hs (by kernel_rfl) (by kernel_rfl) (by kernel_rfl) (by kernel_rfl) (by kernel_rfl) (by kernel_rfl) rfl (Nat.le_of_ble_eq_true (by kernel_rfl)) fun a w hs => ?_)
          refine ⟨fun h => absurd h (by decide), ?_⟩
          replace hs := hs.pick [0, 1, 4, 5, 6, 7, 16, 17, 31, 32] (L' := [(0, pp b_248), (1, .func (.func 95) #[pp b_248] #[]), (4, pp b_463), (5, pp b_465), (6, vi 3), (7, vi 2), (16, vi 3), (17, vi 2), (31, vi 3), (32, vi 0)]) (by kernel_rfl)
          refine Vk.dDone (by kernel_rfl) ?_
          refine hK594 _ _ ?_
          clear hK594
          refine Vk.region ?_
          refine qpe 2 [(0, pp b_248), (1, .func (.func 95) #[pp b_248] #[]), (4, pp b_463), (5, pp b_465), (6, vi 3), (7, vi 2), (16, vi 3), (17, vi 2), (31, vi 3), (32, vi 1)] hs fun a hs => hKL591 _ _ ?_
          clear hKL591
          refine Vk.unroll fun KL616 hKL616 => ?_
          refine qsr fun K617 hK617 => ?_
          refine qpe 1 [(0, pp b_248), (1, .func (.func 95) #[pp b_248] #[]), (4, pp b_463), (5, pp b_465), (6, vi 3), (7, vi 2), (16, vi 3), (17, vi 2), (31, vi 3), (32, vi 1), (33, .bool true)] hs fun a hs => hK617 _ _ ?_
          clear hK617
          refine Vk.seq fun K618 hK618 => ?_
          refine qct hs ?_
          refine wp_skip ?_
          refine hK618 _ _ ?_
          clear hK618
          refine Vk.seq fun K619 hK619 => ?_
          refine wp_block ?_
          refine qsr fun K620 hK620 => ?_
          refine qpe 2 [(0, pp b_248), (1, .func (.func 95) #[pp b_248] #[]), (4, pp b_463), (5, pp b_465), (6, vi 3), (7, vi 2), (8, vi 1), (16, vi 3), (17, vi 2), (31, vi 3), (32, vi 1)] hs fun a hs => hK620 _ _ ?_
          clear hK620
          refine qsr fun K621 hK621 => ?_
          refine qpe 3 [(0, pp b_248), (1, .func (.func 95) #[pp b_248] #[]), (4, pp b_463), (5, pp b_465), (6, vi 3), (7, vi 2), (8, vi 1), (16, vi 3), (17, vi 2), (31, vi 3), (32, vi 1), (37, .bool true)] hs fun a hs => hK621 _ _ ?_
          clear hK621
          refine qct hs ?_
          obtain ⟨C_622, hC_622⟩ : ∃ X0 : List HP, X0 = (pt b_465 (blk [ci v_521.1, ci v_580.1, ci v_615.1] 28) :: pt b_463 (blk [ci 0, ci 0, ci 0] 28) :: pt b_248 (blk [cp b_x0, C.map (some b_247), ci v_330.1, ci v_343.1, ci v_356.1, ci v_378.1, ci v_391.1, ci v_404.1, ci v_426.1, ci v_439.1, ci v_452.1] 188) :: pt b_247 (.map #[⟨.agg (vals [ci 0, ci 1]), vi v_269.1, 0⟩, ⟨.agg (vals [ci 0, ci 2]), vi v_277.1, 1⟩, ⟨.agg (vals [ci 1, ci 2]), vi v_294.1, 2⟩] 3) :: pt b_245 (blk x2 28) :: pt b_244 (blk x1 28) :: pt b_4 (blk [ci 0, ci 0, ci 0] 28) :: pt b_3 (blk x2 28) :: pt b_2 (blk x1 28) :: S) := ⟨_, rfl⟩
          refine qdr 17 κ C_622 hs fun w hs hqC_622 => ?_
          have hcz : Own κ w (pt b_465 (blk [ci v_521.1, ci v_580.1, ci v_615.1] 28) :: pt b_463 (blk [ci 0, ci 0, ci 0] 28) :: pt b_248 (blk [cp b_x0, C.map (some b_247), ci v_330.1, ci v_343.1, ci v_356.1, ci v_378.1, ci v_391.1, ci v_404.1, ci v_426.1, ci v_439.1, ci v_452.1] 188) :: pt b_247 (.map #[⟨.agg (vals [ci 0, ci 1]), vi v_269.1, 0⟩, ⟨.agg (vals [ci 0, ci 2]), vi v_277.1, 1⟩, ⟨.agg (vals [ci 1, ci 2]), vi v_294.1, 2⟩] 3) :: pt b_245 (blk x2 28) :: pt b_244 (blk x1 28) :: pt b_4 (blk [ci 0, ci 0, ci 0] 28) :: pt b_3 (blk x2 28) :: pt b_2 (blk x1 28) :: S) := (Own.to hs.own [1, 2, 3, 4, 5, 6, 7, 8, 9] 10 (by kernel_rfl) (by kernel_rfl))
          have hcl : Own κ w C_622 := by rw [hC_622]; exact hcz
          refine qdp (fuel := 6) [0, 1, 2, 3, 5, 6, 7, 8, 10, 11, 12, 15] hs hcl hqC_622 fun a hs => ?_
          refine qdl 4 2 (cp b_x0) hs hcl hqC_622 hC_622 rfl fun a hs => ?_
          refine qdl 9 0 (ci v_615.1) hs hcl hqC_622 hC_622 rfl fun a hs => ?_
          refine Vk.dOnly (i := 13) (by kernel_rfl) (Vk.call (some 51) 95 #[pp b_248, vi 2, vi 1] hs (by kernel_rfl) (by kernel_rfl) (by kernel_rfl) ?_)
          refine Vk.enterI [(0, pp b_248), (1, vi 2), (2, vi 1)] Try.func95 rfl Try.ntmps95 (by kernel_rfl) (Nat.le_of_ble_eq_true (by kernel_rfl)) hs.own fun KR623 hKR623 hKP623 a hs => ?_
          refine qsr fun K624 hK624 => ?_
          refine qpe 1 [(0, pp b_248), (1, vi 2), (2, vi 1)] hs fun a hs => hK624 _ _ ?_
          clear hK624
          refine Vk.seq fun K625 hK625 => ?_
          refine qsr fun K626 hK626 => ?_
          refine qpe 3 [(0, pp b_248), (1, vi 2), (2, vi 1), (9, .bool false)] hs fun a hs => hK626 _ _ ?_
          clear hK626
          refine qcf hs ?_
          refine wp_skip ?_
          refine hK625 _ _ ?_
          clear hK625
          refine Vk.seq fun K627 hK627 => ?_
          obtain ⟨C_628, hC_628⟩ : ∃ X0 : List HP, X0 = (pt b_465 (blk [ci v_521.1, ci v_580.1, ci v_615.1] 28) :: pt b_463 (blk [ci 0, ci 0, ci 0] 28) :: pt b_248 (blk [cp b_x0, C.map (some b_247), ci v_330.1, ci v_343.1, ci v_356.1, ci v_378.1, ci v_391.1, ci v_404.1, ci v_426.1, ci v_439.1, ci v_452.1] 188) :: pt b_247 (.map #[⟨.agg (vals [ci 0, ci 1]), vi v_269.1, 0⟩, ⟨.agg (vals [ci 0, ci 2]), vi v_277.1, 1⟩, ⟨.agg (vals [ci 1, ci 2]), vi v_294.1, 2⟩] 3) :: pt b_245 (blk x2 28) :: pt b_244 (blk x1 28) :: pt b_4 (blk [ci 0, ci 0, ci 0] 28) :: pt b_3 (blk x2 28) :: pt b_2 (blk x1 28) :: S) := ⟨_, rfl⟩
          refine qdr 33 κ C_628 hs fun w hs hqC_628 => ?_
          have hcz : Own κ w (pt b_465 (blk [ci v_521.1, ci v_580.1, ci v_615.1] 28) :: pt b_463 (blk [ci 0, ci 0, ci 0] 28) :: pt b_248 (blk [cp b_x0, C.map (some b_247), ci v_330.1, ci v_343.1, ci v_356.1, ci v_378.1, ci v_391.1, ci v_404.1, ci v_426.1, ci v_439.1, ci v_452.1] 188) :: pt b_247 (.map #[⟨.agg (vals [ci 0, ci 1]), vi v_269.1, 0⟩, ⟨.agg (vals [ci 0, ci 2]), vi v_277.1, 1⟩, ⟨.agg (vals [ci 1, ci 2]), vi v_294.1, 2⟩] 3) :: pt b_245 (blk x2 28) :: pt b_244 (blk x1 28) :: pt b_4 (blk [ci 0, ci 0, ci 0] 28) :: pt b_3 (blk x2 28) :: pt b_2 (blk x1 28) :: S) := (Own.to hs.own [1, 2, 3, 4, 5, 6, 7, 8, 9] 10 (by kernel_rfl) (by kernel_rfl))
          have hcl : Own κ w C_628 := by rw [hC_628]; exact hcz
          refine qdp (fuel := 8) [0, 1, 2, 4, 5, 6, 7, 9, 10, 11, 12, 14, 15, 16, 17, 18, 19, 20, 23, 24, 25, 26, 27, 28, 29] hs hcl hqC_628 fun a hs => ?_
          refine qdl 3 2 (cp b_x0) hs hcl hqC_628 hC_628 rfl fun a hs => ?_
          refine qdl 8 2 (cp b_x0) hs hcl hqC_628 hC_628 rfl fun a hs => ?_
          refine qdl 21 2 (ci v_404.1) hs hcl hqC_628 hC_628 rfl fun a hs => ?_
          refine qdl 30 2 (ci v_439.1) hs hcl hqC_628 hC_628 rfl fun a hs => ?_
          refine Vk.dOnly (i := 13) (by kernel_rfl) (Vk.call (some 27) 151 #[pp b_248, vi 1, vi 2] hs (by kernel_rfl) (by kernel_rfl) (by kernel_rfl) ?_)
          refine Vk.enterI [(0, pp b_248), (1, vi 1), (2, vi 2)] Try.func151 rfl Try.ntmps151 (by kernel_rfl) (Nat.le_of_ble_eq_true (by kernel_rfl)) hs.own fun KR629 hKR629 hKP629 a hs => ?_
          refine qsr fun K630 hK630 => ?_
          refine qpe 1 [(0, pp b_248), (1, vi 1), (2, vi 2)] hs fun a hs => hK630 _ _ ?_
          clear hK630
          refine qsr fun K631 hK631 => ?_
          refine qpu 3 hs fun a hs => ?_
          refine qld 3 (C.map (some b_247)) hs rfl fun a hs => ?_
          refine qpu 7 hs fun a hs => ?_
          refine Vk.step (Vk.value (some 18) (vi v_294.1) hs (by kernel_rfl) (op := (.lookup 186 (.tmp 10) (.tmp 17) false)) (by kernel_rfl) (fun o ho => run_lookup (b := b_247) (key := .agg (vals [ci 1, ci 2])) 4 rfl ho (by kernel_rfl) (by kernel_rfl) (by kernel_rfl) _ hs.own) fun a hs => ?_)
          refine qpe 1 [(6, vi v_294.1)] hs fun a hs => hK631 _ _ ?_
          clear hK631
          refine wp_ret ?_
          refine hKP629 _ _ ?_
          refine hKR629 _ _ ?_
          refine Vk.ret1 (P := Try.prog) (fn := Try.f151) (vi v_294.1) hs rfl (by kernel_rfl) ⟨_, _, _, rfl, hs.own, fun a hs => ?_⟩
          replace hcl : Own κ w C_628 := by rw [hC_628]; exact (Own.to hs.own [1, 2, 3, 4, 5, 6, 7, 8, 9] 10 (by kernel_rfl) (by kernel_rfl))
          refine ⟨fun _ => hcl, ?_⟩
          obtain ⟨v_634, h_633, hm⟩ := bind_t hm
          refine Vk.dOnly (i := 22) (by kernel_rfl) (Vk.call (some 36) 150 #[pp b_x0, vi 5, vi 2, vi v_294.1, vi v_404.1] hs (by kernel_rfl) (by kernel_rfl) (by kernel_rfl) ?_)
          refine (wire_Machine_Two.ok k v_615.2 5 2 v_294.1 v_404.1 v_634 h_633 κ w (pt b_465 (blk [ci v_521.1, ci v_580.1, ci v_615.1] 28) :: pt b_463 (blk [ci 0, ci 0, ci 0] 28) :: pt b_248 (blk [cp b_x0, C.map (some b_247), ci v_330.1, ci v_343.1, ci v_356.1, ci v_378.1, ci v_391.1, ci v_404.1, ci v_426.1, ci v_439.1, ci v_452.1] 188) :: pt b_247 (.map #[⟨.agg (vals [ci 0, ci 1]), vi v_269.1, 0⟩, ⟨.agg (vals [ci 0, ci 2]), vi v_277.1, 1⟩, ⟨.agg (vals [ci 1, ci 2]), vi v_294.1, 2⟩] 3) :: pt b_245 (blk x2 28) :: pt b_244 (blk x1 28) :: pt b_4 (blk [ci 0, ci 0, ci 0] 28) :: pt b_3 (blk x2 28) :: pt b_2 (blk x1 28) :: S) b_x0 (Own.to hs.own [0, 1, 2, 3, 4, 5, 6, 7, 8, 9] 10 (by kernel_rfl) (by kernel_rfl))).mono ?_
          rintro _ w ⟨rfl, how⟩
          refine ⟨_, _, _, rfl, how, fun a hs => ?_⟩
          replace hcl : Own κ w C_628 := by rw [hC_628]; exact (Own.to hs.own [1, 2, 3, 4, 5, 6, 7, 8, 9] 10 (by kernel_rfl) (by kernel_rfl))
          refine ⟨fun _ => hcl, ?_⟩
          obtain ⟨v_637, h_636, hm⟩ := bind_t hm
          refine Vk.dOnly (i := 31) (by kernel_rfl) (Vk.call (some 45) 150 #[pp b_x0, vi 5, vi 2, vi v_634.1, vi v_439.1] hs (by kernel_rfl) (by kernel_rfl) (by kernel_rfl) ?_)
          refine (wire_Machine_Two.ok k v_634.2 5 2 v_634.1 v_439.1 v_637 h_636 κ w (pt b_465 (blk [ci v_521.1, ci v_580.1, ci v_615.1] 28) :: pt b_463 (blk [ci 0, ci 0, ci 0] 28) :: pt b_248 (blk [cp b_x0, C.map (some b_247), ci v_330.1, ci v_343.1, ci v_356.1, ci v_378.1, ci v_391.1, ci v_404.1, ci v_426.1, ci v_439.1, ci v_452.1] 188) :: pt b_247 (.map #[⟨.agg (vals [ci 0, ci 1]), vi v_269.1, 0⟩, ⟨.agg (vals [ci 0, ci 2]), vi v_277.1, 1⟩, ⟨.agg (vals [ci 1, ci 2]), vi v_294.1, 2⟩] 3) :: pt b_245 (blk x2 28) :: pt b_244 (blk x1 28) :: pt b_4 (blk [ci 0, ci 0, ci 0] 28) :: pt b_3 (blk x2 28) :: pt b_2 (blk x1 28) :: S) b_x0 (Own.to hs.own [0, 1, 2, 3, 4, 5, 6, 7, 8, 9] 10 (by kernel_rfl) (by kernel_rfl))).mono ?_
          rintro _ w ⟨rfl, how⟩
          refine ⟨_, _, _, rfl, how, fun a hs => ?_⟩
          replace hcl : Own κ w C_628 := by rw [hC_628]; exact (Own.to hs.own [1, 2, 3, 4, 5, 6, 7, 8, 9] 10 (by kernel_rfl) (by kernel_rfl))
          refine ⟨fun _ => hcl, ?_⟩
          refine qdp (fuel := 0) [32] hs hcl hqC_628 fun a hs => ?_
          replace hs := hs.pick [6] (L' := [(6, vi v_637.1)]) (by kernel_rfl)
          refine Vk.dDone (by kernel_rfl) ?_
          refine hK627 _ _ ?_
          clear hK627
          refine wp_ret ?_
          refine hKP623 _ _ ?_
          refine hKR623 _ _ ?_
          refine Vk.ret1 (P := Try.prog) (fn := Try.f95) (vi v_637.1) hs rfl (by kernel_rfl) ⟨_, _, _, rfl, hs.own, fun a hs => ?_⟩
          replace hcl : Own κ w C_622 := by rw [hC_622]; exact (Own.to hs.own [1, 2, 3, 4, 5, 6, 7, 8, 9] 10 (by kernel_rfl) (by kernel_rfl))
          refine ⟨fun _ => hcl, ?_⟩
          obtain ⟨v_640, h_639, hm⟩ := bind_t hm
          refine Vk.dOnly (i := 14) (by kernel_rfl) (Vk.call (some 52) 150 #[pp b_x0, vi 5, vi 2, vi v_615.1, vi v_637.1] hs (by kernel_rfl) (by kernel_rfl) (by kernel_rfl) ?_)
          refine (wire_Machine_Two.ok k v_637.2 5 2 v_615.1 v_637.1 v_640 h_639 κ w (pt b_465 (blk [ci v_521.1, ci v_580.1, ci v_615.1] 28) :: pt b_463 (blk [ci 0, ci 0, ci 0] 28) :: pt b_248 (blk [cp b_x0, C.map (some b_247), ci v_330.1, ci v_343.1, ci v_356.1, ci v_378.1, ci v_391.1, ci v_404.1, ci v_426.1, ci v_439.1, ci v_452.1] 188) :: pt b_247 (.map #[⟨.agg (vals [ci 0, ci 1]), vi v_269.1, 0⟩, ⟨.agg (vals [ci 0, ci 2]), vi v_277.1, 1⟩, ⟨.agg (vals [ci 1, ci 2]), vi v_294.1, 2⟩] 3) :: pt b_245 (blk x2 28) :: pt b_244 (blk x1 28) :: pt b_4 (blk [ci 0, ci 0, ci 0] 28) :: pt b_3 (blk x2 28) :: pt b_2 (blk x1 28) :: S) b_x0 (Own.to hs.own [0, 1, 2, 3, 4, 5, 6, 7, 8, 9] 10 (by kernel_rfl) (by kernel_rfl))).mono ?_
          rintro _ w ⟨rfl, how⟩
          refine ⟨_, _, _, rfl, how, fun a hs => ?_⟩
          replace hcl : Own κ w C_622 := by rw [hC_622]; exact (Own.to hs.own [1, 2, 3, 4, 5, 6, 7, 8, 9] 10 (by kernel_rfl) (by kernel_rfl))
          refine ⟨fun _ => hcl, ?_⟩
          refine qdp (fuel := 1) [16] hs hcl hqC_622 fun a hs => ?_
          refine Vk.dOnly (i := 17) (by kernel_rfl) (Vk.store1 (b := b_465) (ty := 3) (x := (.tmp 54)) (y := (.tmp 52)) (off := 2) (ci v_640.1) 1 hs (by kernel_rfl) (by kernel_rfl) (by kernel_rfl) (by kernel_rfl) (by kernel_rfl) (by kernel_rfl) rfl (Nat.le_of_ble_eq_true (by kernel_rfl)) fun a w hs => ?_)
          refine ⟨fun h => absurd h (by decide), ?_⟩
          replace hs := hs.pick [0, 1, 4, 5, 6, 7, 16, 17, 31, 32] (L' := [(0, pp b_248), (1, .func (.func 95) #[pp b_248] #[]), (4, pp b_463), (5, pp b_465), (6, vi 3), (7, vi 2), (16, vi 3), (17, vi 2), (31, vi 3), (32, vi 1)]) (by kernel_rfl)
          refine Vk.dDone (by kernel_rfl) ?_
          refine hK619 _ _ ?_
          clear hK619
          refine Vk.region ?_
          refine qpe 2 [(0, pp b_248), (1, .func (.func 95) #[pp b_248] #[]), (4, pp b_463), (5, pp b_465), (6, vi 3), (7, vi 2), (16, vi 3), (17, vi 2), (31, vi 3), (32, vi 2)] hs fun a hs => hKL616 _ _ ?_
          clear hKL616
          refine Vk.unroll fun KL641 hKL641 => ?_
          refine qsr fun K642 hK642 => ?_
          refine qpe 1 [(0, pp b_248), (1, .func (.func 95) #[pp b_248] #[]), (4, pp b_463), (5, pp b_465), (6, vi 3), (7, vi 2), (16, vi 3), (17, vi 2), (31, vi 3), (32, vi 2), (33, .bool true)] hs fun a hs => hK642 _ _ ?_
          clear hK642
          refine Vk.seq fun K643 hK643 => ?_
          refine qct hs ?_
          refine wp_skip ?_
          refine hK643 _ _ ?_
          clear hK643
          refine Vk.seq fun K644 hK644 => ?_
          refine wp_block ?_
          refine qsr fun K645 hK645 => ?_
          refine qpe 2 [(0, pp b_248), (1, .func (.func 95) #[pp b_248] #[]), (4, pp b_463), (5, pp b_465), (6, vi 3), (7, vi 2), (8, vi 2), (16, vi 3), (17, vi 2), (31, vi 3), (32, vi 2)] hs fun a hs => hK645 _ _ ?_
          clear hK645
          refine qsr fun K646 hK646 => ?_
          refine qpe 3 [(0, pp b_248), (1, .func (.func 95) #[pp b_248] #[]), (4, pp b_463), (5, pp b_465), (6, vi 3), (7, vi 2), (8, vi 2), (16, vi 3), (17, vi 2), (31, vi 3), (32, vi 2), (37, .bool false)] hs fun a hs => hK646 _ _ ?_
          clear hK646
          refine qcf hs ?_
          refine wp_skip ?_
          refine hK644 _ _ ?_
          clear hK644
          refine Vk.region ?_
          refine qpe 2 [(0, pp b_248), (1, .func (.func 95) #[pp b_248] #[]), (4, pp b_463), (5, pp b_465), (6, vi 3), (7, vi 2), (16, vi 3), (17, vi 2), (31, vi 3), (32, vi 3)] hs fun a hs => hKL641 _ _ ?_
          clear hKL641
          refine Vk.unroll fun KL647 hKL647 => ?_
          refine qsr fun K648 hK648 => ?_
          refine qpe 1 [(0, pp b_248), (1, .func (.func 95) #[pp b_248] #[]), (4, pp b_463), (5, pp b_465), (6, vi 3), (7, vi 2), (16, vi 3), (17, vi 2), (31, vi 3), (32, vi 3), (33, .bool false)] hs fun a hs => hK648 _ _ ?_
          clear hK648
          refine Vk.seq fun K649 hK649 => ?_
          refine qcf hs ?_
          refine wp_exit ?_
          refine hK587 _ _ ?_
          clear hK587
          refine Vk.region ?_
          refine qpe 2 [(0, pp b_248), (1, .func (.func 95) #[pp b_248] #[]), (4, pp b_463), (5, pp b_465), (6, vi 3), (16, vi 3), (17, vi 3)] hs fun a hs => hKL584 _ _ ?_
          clear hKL584
          refine Vk.unroll fun KL650 hKL650 => ?_
          refine qsr fun K651 hK651 => ?_
          refine qpe 1 [(0, pp b_248), (1, .func (.func 95) #[pp b_248] #[]), (4, pp b_463), (5, pp b_465), (6, vi 3), (16, vi 3), (17, vi 3), (18, .bool false)] hs fun a hs => hK651 _ _ ?_
          clear hK651
          refine Vk.seq fun K652 hK652 => ?_
          refine qcf hs ?_
          refine wp_exit ?_
          refine hK471 _ _ ?_
          clear hK471
          refine qsr fun K653 hK653 => ?_
          refine qln 1 ([ci v_521.1, ci v_580.1, ci v_640.1]) hs rfl fun a hs => ?_
          refine Vk.step (Vk.storeA (b := b_463) (ty := 28) (x := (.tmp 4)) (y := (.tmp 57)) (sz := 3) [ci v_521.1, ci v_580.1, ci v_640.1] 2 hs (by kernel_rfl) (by kernel_rfl) (by kernel_rfl) (by kernel_rfl) (by kernel_rfl) rfl (by kernel_rfl) rfl (Eq.trans (b := 3) rfl (Eq.symm rfl)) fun a w hs => ?_)
          refine qpe 0 [(4, pp b_463)] hs fun a hs => hK653 _ _ ?_
          clear hK653
          refine wp_ret ?_
          refine hKP461 _ _ ?_
          refine hKR461 _ _ ?_
          refine Vk.retC (P := Try.prog) (fn := Try.f92) [ci v_521.1, ci v_580.1, ci v_640.1] hs rfl (by kernel_rfl) (sz := 3) (by kernel_rfl) rfl (CellsAt.all 2 rfl) ⟨_, _, _, rfl, hs.own, fun a hs => ?_⟩
          refine Vk.step (Vk.alloc 8 28 [ci 0, ci 0, ci 0] hs (by kernel_rfl) (by kernel_rfl) (by kernel_rfl) fun b_654 w a hs => ?_)
          refine Vk.step (Vk.storeA (b := b_654) (ty := 28) (x := (.tmp 8)) (y := (.tmp 23)) (sz := 3) [ci v_521.1, ci v_580.1, ci v_640.1] 0 hs (by kernel_rfl) (by kernel_rfl) (by kernel_rfl) (by kernel_rfl) (by kernel_rfl) rfl (by kernel_rfl) rfl (Eq.trans (b := 3) rfl (Eq.symm rfl)) fun a w hs => ?_)
          refine qpe 0 [(0, pp b_x0), (6, pp b_4), (8, pp b_654)] hs fun a hs => hK460 _ _ ?_
          clear hK460
          refine qsr fun K655 hK655 => ?_
          refine qpu 1 hs fun a hs => ?_
          obtain ⟨v_658, h_657, hm⟩ := bind_t hm
          refine Vk.step (Vk.call (some 25) 94 #[pp b_x0] hs (by kernel_rfl) (by kernel_rfl) (by kernel_rfl) ?_)
          refine (wire_Machine_End.ok k v_640.2 v_658 h_657 κ w (pt b_654 (blk [ci v_521.1, ci v_580.1, ci v_640.1] 28) :: pt b_465 (blk [ci v_521.1, ci v_580.1, ci v_640.1] 28) :: pt b_463 (blk [ci v_521.1, ci v_580.1, ci v_640.1] 28) :: pt b_248 (blk [cp b_x0, C.map (some b_247), ci v_330.1, ci v_343.1, ci v_356.1, ci v_378.1, ci v_391.1, ci v_404.1, ci v_426.1, ci v_439.1, ci v_452.1] 188) :: pt b_247 (.map #[⟨.agg (vals [ci 0, ci 1]), vi v_269.1, 0⟩, ⟨.agg (vals [ci 0, ci 2]), vi v_277.1, 1⟩, ⟨.agg (vals [ci 1, ci 2]), vi v_294.1, 2⟩] 3) :: pt b_245 (blk x2 28) :: pt b_244 (blk x1 28) :: pt b_4 (blk [ci 0, ci 0, ci 0] 28) :: pt b_3 (blk x2 28) :: pt b_2 (blk x1 28) :: S) b_x0 (Own.to hs.own [1, 0, 2, 3, 4, 5, 6, 7, 8, 9, 10] 11 (by kernel_rfl) (by kernel_rfl))).mono ?_
          rintro _ w ⟨rfl, how⟩
          refine ⟨_, _, _, rfl, how, fun a hs => ?_⟩
          refine qpe 0 [(6, pp b_4), (8, pp b_654)] hs fun a hs => hK655 _ _ ?_
          clear hK655
          refine qsr fun K659 hK659 => ?_
          refine qln 1 ([ci v_521.1, ci v_580.1, ci v_640.1]) hs rfl fun a hs => ?_
          refine Vk.step (Vk.storeA (b := b_4) (ty := 28) (x := (.tmp 6)) (y := (.tmp 26)) (sz := 3) [ci v_521.1, ci v_580.1, ci v_640.1] 8 hs (by kernel_rfl) (by kernel_rfl) (by kernel_rfl) (by kernel_rfl) (by kernel_rfl) rfl (by kernel_rfl) rfl (Eq.trans (b := 3) rfl (Eq.symm rfl)) fun a w hs => ?_)
          refine qpe 0 [(6, pp b_4)] hs fun a hs => hK659 _ _ ?_
          clear hK659
          refine wp_ret ?_
          exact Vk.retC (P := Try.prog) (fn := Try.f21) (R := RR) [ci v_521.1, ci v_580.1, ci v_640.1] hs rfl (by kernel_rfl) (sz := 3) (by kernel_rfl) rfl (CellsAt.all 8 rfl) (by obtain rfl := Option.some.inj hm; subst hRR; exact ⟨rfl, (Own.to hs.own [0] 11 (by kernel_rfl) (by kernel_rfl))⟩)
        · replace hm := bif_f hm hb
          cases hm
      · replace hm := bif_f hm hb
        cases hm
    · replace hm := bif_f hm hb
      cases hm


abbrev wire_Machine_Values.R (κ : Ctx) (S : List HP) (x0 : Twire_Machine) (b_x0 : Nat) (g_x0 : Nat × Option Addr × Nat × Option Addr × Nat × Option Addr × Nat) (r : List Int) : Ending → World → Prop := fun e w' => ∃ (A_r0 : Option Addr), ∃ (c_r0 : Nat), e = .returned (.slice A_r0 r.length c_r0) ∧ Own κ w' (rowp A_r0 c_r0 32 1 (eI .u64) r :: bagL (Twire_Machine.parts b_x0 x0 g_x0) :: S)
def wire_Machine_Values.m (k : Nat) (x0 : Twire_Machine) : Option (List Int) := (slices_Clone_uint64_uint64.m k x0.values).bind fun v_10 => some v_10

set_option maxRecDepth 100000 in
set_option maxHeartbeats 4000000 in
theorem wire_Machine_Values.ok (k : Nat) (x0 : Twire_Machine) (r : List Int) (hm : wire_Machine_Values.m k x0 = some r) (κ : Ctx) (w : World) (S : List HP) (b_x0 : Nat) (g_x0 : Nat × Option Addr × Nat × Option Addr × Nat × Option Addr × Nat) (ho : Own κ w (bagL (Twire_Machine.parts b_x0 x0 g_x0) :: S)) :
    Calls Try.prog 22 #[pp b_x0] w (wire_Machine_Values.R κ S x0 b_x0 g_x0 r) := by
  unfold wire_Machine_Values.m at hm
  generalize hRR : wire_Machine_Values.R κ S x0 b_x0 g_x0 r = RR
  refine qen [(0, pp b_x0)] Try.func22 Try.ntmps22 ho fun a hs => ?_
  refine qsr fun K1 hK1 => ?_
  refine qpe 1 [(0, pp b_x0)] hs fun a hs => hK1 _ _ ?_
  clear hK1
  refine Vk.seq fun K2 hK2 => ?_
  refine qsr fun K3 hK3 => ?_
  refine qpe 2 [(0, pp b_x0), (4, .bool false)] hs fun a hs => hK3 _ _ ?_
  clear hK3
  refine qcf hs ?_
  refine wp_skip ?_
  refine hK2 _ _ ?_
  clear hK2
  refine qsr fun K4 hK4 => ?_
  refine qpu 3 hs fun a hs => ?_
  replace hs := hs.unbagAt 0 rfl
  refine qld 0 (C.slc g_x0.2.2.2.1 x0.values.length g_x0.2.2.2.2.1) hs rfl fun a hs => ?_
  obtain ⟨v_10, h_9, hm⟩ := bind_t hm
  refine Vk.step (Vk.call (some 9) 96 #[.slice g_x0.2.2.2.1 x0.values.length g_x0.2.2.2.2.1] hs (by kernel_rfl) (by kernel_rfl) (by kernel_rfl) ?_)
  refine (slices_Clone_uint64_uint64.ok k x0.values v_10 h_9 κ w (pt b_x0 (blk (Twire_Machine.obj x0 g_x0.1 g_x0.2.1 g_x0.2.2.1 g_x0.2.2.2.1 g_x0.2.2.2.2.1 g_x0.2.2.2.2.2.1 g_x0.2.2.2.2.2.2) 139) :: opto x0.dry (Ttape_Tape.own g_x0.1 x0.tape) :: rowp g_x0.2.1 g_x0.2.2.1 93 6 Tapi_Op.cells x0.ops :: rowp g_x0.2.2.2.1 g_x0.2.2.2.2.1 32 1 (eI .u64) x0.values :: rowp g_x0.2.2.2.2.2.1 g_x0.2.2.2.2.2.2 175 3 Tapi_Span.cells x0.blocks :: S) g_x0.2.2.2.1 g_x0.2.2.2.2.1 (Sl.lift (fun w ho => (Own.to (S' := rowp g_x0.2.2.2.1 g_x0.2.2.2.2.1 32 1 (eI .u64) x0.values :: S) ho [3] 5 (by kernel_rfl) (by kernel_rfl))) (Own.rowSl 0 (Own.to (S' := rowp g_x0.2.2.2.1 g_x0.2.2.2.2.1 32 1 (eI .u64) x0.values :: S) hs.own [3] 5 (by kernel_rfl) (by kernel_rfl)) rfl)) hs.own).mono ?_
  rintro _ w ⟨Ar8x0_11, cr8x0_12, rfl, how⟩
  refine ⟨_, _, _, rfl, how, fun a hs => ?_⟩
  refine qpe 1 [(2, .slice Ar8x0_11 v_10.length cr8x0_12)] hs fun a hs => hK4 _ _ ?_
  clear hK4
  refine wp_ret ?_
  replace hs := hs.bagG (l := Twire_Machine.parts b_x0 x0 g_x0) (S' := rowp Ar8x0_11 cr8x0_12 32 1 (eI .u64) v_10 :: S) (Own.to hs.own [1, 2, 3, 4, 5, 0] 6 (by kernel_rfl) (by kernel_rfl))
  exact Vk.ret1 (P := Try.prog) (fn := Try.f22) (R := RR) (.slice Ar8x0_11 v_10.length cr8x0_12) hs rfl (by kernel_rfl) (by obtain rfl := Option.some.inj hm; subst hRR; exact ⟨Ar8x0_11, cr8x0_12, rfl, (Own.to hs.own [1, 0] 2 (by kernel_rfl) (by kernel_rfl))⟩)


abbrev wire_Machine_Err.R (κ : Ctx) (S : List HP) (x0 : Twire_Machine) (b_x0 : Nat) (g_x0 : Nat × Option Addr × Nat × Option Addr × Nat × Option Addr × Nat) (r : Int) : Ending → World → Prop := fun e w' => e = .returned (vi r) ∧ Own κ w' (bagL (Twire_Machine.parts b_x0 x0 g_x0) :: S)
def wire_Machine_Err.m (k : Nat) (x0 : Twire_Machine) : Option Int := some x0.bad

set_option maxRecDepth 100000 in
set_option maxHeartbeats 4000000 in
theorem wire_Machine_Err.ok (k : Nat) (x0 : Twire_Machine) (r : Int) (hm : wire_Machine_Err.m k x0 = some r) (κ : Ctx) (w : World) (S : List HP) (b_x0 : Nat) (g_x0 : Nat × Option Addr × Nat × Option Addr × Nat × Option Addr × Nat) (ho : Own κ w (bagL (Twire_Machine.parts b_x0 x0 g_x0) :: S)) :
    Calls Try.prog 23 #[pp b_x0] w (wire_Machine_Err.R κ S x0 b_x0 g_x0 r) := by
  unfold wire_Machine_Err.m at hm
  generalize hRR : wire_Machine_Err.R κ S x0 b_x0 g_x0 r = RR
  refine qen [(0, pp b_x0)] Try.func23 Try.ntmps23 ho fun a hs => ?_
  refine qsr fun K1 hK1 => ?_
  refine qpe 1 [(0, pp b_x0)] hs fun a hs => hK1 _ _ ?_
  clear hK1
  refine Vk.seq fun K2 hK2 => ?_
  refine qsr fun K3 hK3 => ?_
  refine qpe 2 [(0, pp b_x0), (4, .bool false)] hs fun a hs => hK3 _ _ ?_
  clear hK3
  refine qcf hs ?_
  refine wp_skip ?_
  refine hK2 _ _ ?_
  clear hK2
  refine qsr fun K4 hK4 => ?_
  refine qpu 3 hs fun a hs => ?_
  replace hs := hs.unbagAt 0 rfl
  refine qld 0 (ci x0.bad) hs rfl fun a hs => ?_
  refine qpe 1 [(2, vi x0.bad)] hs fun a hs => hK4 _ _ ?_
  clear hK4
  refine wp_ret ?_
  replace hs := hs.bagG (l := Twire_Machine.parts b_x0 x0 g_x0) (S' := S) (Own.to hs.own [0, 1, 2, 3, 4] 5 (by kernel_rfl) (by kernel_rfl))
  exact Vk.ret1 (P := Try.prog) (fn := Try.f23) (R := RR) (vi x0.bad) hs rfl (by kernel_rfl) (by obtain rfl := Option.some.inj hm; subst hRR; exact ⟨rfl, (Own.to hs.own [0] 1 (by kernel_rfl) (by kernel_rfl))⟩)


def share_Value.j1 (k : Nat) (rec7 : Int → Int → Option (Int)) (q_9 : Int) (p_26 : Int) : Option (Int) := rec7 p_26 (IntKind.i64.wrap (q_9 + 1))
def share_Value.l1 (x0 : List Int) (x1 : Cells) : Nat → Int → Int → Option (Int)
  | 0, _, _ => none
  | k + 1, q_8, q_9 => (bif decide (q_9 < 3) then (if 0 ≤ q_9 ∧ q_9 < 3 then (getI .i64 x1 q_9.toNat).bind fun v_16 => (bif (decide (v_16 ≥ 0)) && (decide (v_16 < ((x0.length : Nat) : Int))) then (if 0 ≤ v_16 then (x0[v_16.toNat]?).bind fun e_22 => share_Value.j1 k (share_Value.l1 x0 x1 k) q_9 (bxor .u64 q_8 e_22) else none) else share_Value.j1 k (share_Value.l1 x0 x1 k) q_9 q_8) else none) else some q_8)
abbrev share_Value.R (κ : Ctx) (S : List HP) (x0 : List Int) (x1 : Cells) (A_x0 : Option Addr) (c_x0 : Nat) (r : Int) : Ending → World → Prop := fun e w' => e = .returned (vw r) ∧ Own κ w' (S)
def share_Value.m (k : Nat) (x0 : List Int) (x1 : Cells) : Option Int := (if x1.length = 3 then (share_Value.l1 x0 x1 k 0 0).bind fun p_27 => some p_27 else none)

set_option maxRecDepth 100000 in
set_option maxHeartbeats 4000000 in
theorem share_Value.ok (k : Nat) (x0 : List Int) (x1 : Cells) (r : Int) (hm : share_Value.m k x0 x1 = some r) (κ : Ctx) (w : World) (S : List HP) (A_x0 : Option Addr) (c_x0 : Nat) (hx_x0 : Sl κ S A_x0 c_x0 1 (eI .u64) x0) (ho : Own κ w (S)) :
    Calls Try.prog 28 #[.slice A_x0 x0.length c_x0, .agg (vals x1)] w (share_Value.R κ S x0 x1 A_x0 c_x0 r) := by
  unfold share_Value.m at hm
  generalize hRR : share_Value.R κ S x0 x1 A_x0 c_x0 r = RR
  refine qen [(0, .slice A_x0 x0.length c_x0), (1, .agg (vals x1))] Try.func28 Try.ntmps28 ho fun a hs => ?_
  refine qsr fun K1 hK1 => ?_
  refine Vk.step (Vk.box (x := (.tmp 1)) 3 28 x1 hs (by kernel_rfl) (by kernel_rfl) (by kernel_rfl) fun b_2 w a hs => ?_)
  refine qpe 1 [(0, .slice A_x0 x0.length c_x0), (3, pp b_2)] hs fun a hs => hK1 _ _ ?_
  clear hK1
  refine qsr fun K3 hK3 => ?_
  refine qpe 1 [(0, .slice A_x0 x0.length c_x0), (3, pp b_2), (5, vw 0)] hs fun a hs => hK3 _ _ ?_
  clear hK3
  refine Vk.seq fun K4 hK4 => ?_
  refine qsr fun K5 hK5 => ?_
  refine qpu 1 hs fun a hs => ?_
  obtain ⟨h_6, hm⟩ := ite_t hm
  refine Vk.step (Vk.value (some 9) (.agg (vals x1)) hs (by kernel_rfl) (op := (.load 26 (.tmp 8))) (by kernel_rfl) (fun o ho => run_loadN (cs := x1) ho (by kernel_rfl) (by kernel_rfl) h_6 (CellsAt.all 0 rfl) _ hs.own) fun a hs => ?_)
  refine qpe 1 [(0, .slice A_x0 x0.length c_x0), (5, vw 0), (9, .agg (vals x1)), (10, vi 0)] hs fun a hs => hK5 _ _ ?_
  clear hK5
  refine wp_block ?_
  obtain ⟨r7, hl7, hm⟩ := bind_t hm
  have hx7 : ∀ (p_27 : Int), r7 = p_27 → ∀ (a : Act) (w : World), St 29 a w κ [(5, vw p_27)] (S) → K4 a w := by
    intro p_27 he a w hs
    subst r7
    refine hK4 _ _ ?_
    clear hK4
    refine qsr fun K30 hK30 => ?_
    refine qpe 2 [(4, vw p_27)] hs fun a hs => hK30 _ _ ?_
    clear hK30
    refine wp_ret ?_
    exact Vk.ret1 (P := Try.prog) (fn := Try.f28) (R := RR) (vw p_27) hs rfl (by kernel_rfl) (by obtain rfl := Option.some.inj hm; subst hRR; exact ⟨rfl, (Own.to hs.own [] 0 (by kernel_rfl) (by kernel_rfl))⟩)
  refine Vk.loopBy (fun k (s : Int × Int) a w => share_Value.l1 x0 x1 k s.1 s.2 = some r7 ∧ St 29 a w κ [(0, .slice A_x0 x0.length c_x0), (5, vw s.1), (9, .agg (vals x1)), (10, vi s.2)] (S)) k (0, 0) ⟨hl7, hs.go [0, 5, 9, 10] [] 1 (by kernel_rfl) (by kernel_rfl) (by kernel_rfl)⟩ (fun s a w h => by obtain ⟨h1, _⟩ := h; simp [share_Value.l1] at h1) (fun k KL7 ih s a w h => ?_)
  obtain ⟨q_8, q_9⟩ := s
  obtain ⟨hm, hs⟩ := h
  try dsimp only at hm hs
  rw [share_Value.l1] at hm
  refine qsr fun K10 hK10 => ?_
  refine qpe 1 [(0, .slice A_x0 x0.length c_x0), (5, vw q_8), (9, .agg (vals x1)), (10, vi q_9), (11, .bool (decide (q_9 < 3)))] hs fun a hs => hK10 _ _ ?_
  clear hK10
  refine Vk.seq fun K11 hK11 => ?_
  refine qcs (decide (q_9 < 3)) hs (fun hb => ?_) fun hb => ?_
  · replace hm := bif_t hm hb
    refine wp_skip ?_
    refine hK11 _ _ ?_
    clear hK11
    refine Vk.seq fun K12 hK12 => ?_
    have hj12 : ∀ (p_26 : Int), share_Value.j1 k (share_Value.l1 x0 x1 k) q_9 p_26 = some r7 → ∀ (a : Act) (w : World), St 29 a w κ [(0, .slice A_x0 x0.length c_x0), (5, vw p_26), (9, .agg (vals x1)), (10, vi q_9)] (S) → K12 a w := by
      intro p_26 hm a w hs
      unfold share_Value.j1 at hm
      refine hK12 _ _ ?_
      refine Vk.region ?_
      refine qpe 2 [(0, .slice A_x0 x0.length c_x0), (5, vw p_26), (9, .agg (vals x1)), (10, vi (IntKind.i64.wrap (q_9 + 1)))] hs fun a hs => ?_
      refine ih (p_26, (IntKind.i64.wrap (q_9 + 1))) _ _ ⟨hm, hs.go [0, 5, 9, 10] [] 0 (by kernel_rfl) (by kernel_rfl) (by kernel_rfl)⟩
    refine wp_block ?_
    refine qsr fun K13 hK13 => ?_
    obtain ⟨h_14, hm⟩ := ite_t hm
    obtain ⟨v_16, h_15, hm⟩ := bind_t hm
    refine Vk.step (Vk.value (some 12) (vi v_16) hs (by kernel_rfl) (op := (.index 26 (.tmp 9) (.tmp 10))) (by kernel_rfl) (fun o ho => run_idxVal (k := .i64) (cs := x1) (c := ci v_16) ho (by kernel_rfl) (by kernel_rfl) (len := 3) (et := 3) (by kernel_rfl) (by kernel_rfl) (by kernel_rfl) (by kernel_rfl) h_14 (getI_some h_15) _) fun a hs => ?_)
    refine qpe 1 [(0, .slice A_x0 x0.length c_x0), (5, vw q_8), (7, vi v_16), (9, .agg (vals x1)), (10, vi q_9)] hs fun a hs => hK13 _ _ ?_
    clear hK13
    refine qsr fun K17 hK17 => ?_
    refine qpu 3 hs fun a hs => ?_
    suffices hj_18 : ∀ a, St 29 a w κ [(0, .slice A_x0 x0.length c_x0), (5, vw q_8), (7, vi v_16), (9, .agg (vals x1)), (10, vi q_9), (13, vi v_16), (14, .bool (decide (v_16 ≥ 0))), (15, .bool (decide (v_16 ≥ 0))), (20, .bool ((decide (v_16 ≥ 0)) && (decide (v_16 < ((x0.length : Nat) : Int)))))] (S) → wpFrom Try.prog _ _ 8 a w by
      rcases Bool.eq_false_or_eq_true (decide (v_16 ≥ 0)) with hb | hb
      · replace hs := hs.known (t := 15) hb (by kernel_rfl)
        refine qpu 5 hs fun a hs => ?_
        have hq := hs.pick [0, 5, 7, 9, 10, 13, 14, 15, 20] (L' := [(0, .slice A_x0 x0.length c_x0), (5, vw q_8), (7, vi v_16), (9, .agg (vals x1)), (10, vi q_9), (13, vi v_16), (14, .bool (decide (v_16 ≥ 0))), (15, .bool true), (20, .bool (decide (v_16 < ((x0.length : Nat) : Int))))]) (by kernel_rfl)
        exact hj_18 _ (hq.conv (by first | (rw [hb] <;> rfl) | rfl))
      · replace hs := hs.known (t := 15) hb (by kernel_rfl)
        refine qpu 5 hs fun a hs => ?_
        have hq := hs.pick [0, 5, 7, 9, 10, 13, 14, 15, 20] (L' := [(0, .slice A_x0 x0.length c_x0), (5, vw q_8), (7, vi v_16), (9, .agg (vals x1)), (10, vi q_9), (13, vi v_16), (14, .bool (decide (v_16 ≥ 0))), (15, .bool false), (20, .bool false)]) (by kernel_rfl)
        exact hj_18 _ (hq.conv (by first | (rw [hb] <;> rfl) | rfl))
    intro a hs
    refine qpe 0 [(0, .slice A_x0 x0.length c_x0), (5, vw q_8), (7, vi v_16), (9, .agg (vals x1)), (10, vi q_9), (20, .bool ((decide (v_16 ≥ 0)) && (decide (v_16 < ((x0.length : Nat) : Int)))))] hs fun a hs => hK17 _ _ ?_
    clear hK17
    refine qcs ((decide (v_16 ≥ 0)) && (decide (v_16 < ((x0.length : Nat) : Int)))) hs (fun hb => ?_) fun hb => ?_
    · replace hm := bif_t hm hb
      refine Vk.region ?_
      refine qpu 3 hs fun a hs => ?_
      obtain ⟨h_19, hm⟩ := ite_t hm
      obtain ⟨e_22, h_20, hm⟩ := bind_t hm
      obtain ⟨b_23, o_24, hA_25, h_21⟩ := Sl.elem hx_x0 h_20
      refine Vk.step (Vk.value (some 24) (.pointer (some ⟨b_23, o_24 + v_16.toNat * 1, none⟩)) hs (by kernel_rfl) (op := (.indexAddr 25 (.tmp 22) (.tmp 23))) (by kernel_rfl) (fun o ho => run_idxSlc (k := .i64) ho (cap := c_x0) (len := x0.length) ((congrArg (fun A => Value.slice A (x0.length) (c_x0)) hA_25) ▸ (by kernel_rfl)) (by kernel_rfl) (by kernel_rfl) (idx_ok h_19 h_20) _) fun a hs => ?_)
      refine Vk.step (Vk.value (some 25) (vw e_22) hs (by kernel_rfl) (op := (.load 32 (.tmp 24))) (by kernel_rfl) (fun o ho => run_load1 (c := cw e_22) ho (by kernel_rfl) (by kernel_rfl) (fun w ho => h_21 w ho 0 _ rfl) _ hs.own) fun a hs => ?_)
      refine qpe 2 [(0, .slice A_x0 x0.length c_x0), (5, vw (bxor .u64 q_8 e_22)), (9, .agg (vals x1)), (10, vi q_9)] hs fun a hs => ?_
      exact hj12 (bxor .u64 q_8 e_22) hm _ _ (hs.go [0, 5, 9, 10] [] 0 (by kernel_rfl) (by kernel_rfl) (by kernel_rfl))
    · replace hm := bif_f hm hb
      refine wp_skip ?_
      exact hj12 q_8 hm _ _ (hs.go [0, 5, 9, 10] [] 0 (by kernel_rfl) (by kernel_rfl) (by kernel_rfl))
  · replace hm := bif_f hm hb
    refine wp_exit ?_
    exact hx7 q_8 (Option.some.inj hm).symm _ _ (hs.go [5] [] 0 (by kernel_rfl) (by kernel_rfl) (by kernel_rfl))

end Go.Proofs.Ytflgefjocjpjaaa
