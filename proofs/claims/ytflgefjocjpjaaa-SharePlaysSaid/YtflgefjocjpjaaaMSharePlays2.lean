/- Of each Go function that SharePlays comes to: a model in plain Lean, and that the program's call does what the model says; no condition. -/
import Derived.Test.YtflgefjocjpjaaaProg
import Derived.Test.YtflgefjocjpjaaaVipblhand
import Derived.Test.YtflgefjocjpjaaaMSharePlays1
namespace Go.Proofs.Ytflgefjocjpjaaa
open Go Go.Vk
set_option linter.unusedVariables false


def visorref20_Xor.l1 (x1 : Cells) (x2 : Cells) : Nat → Tvisorref19_M → Cells → Int → Option (Cells × Tvisorref19_M)
  | 0, _, _, _ => none
  | k + 1, q_14, q_15, q_16 => (bif decide (q_16 < q_14.n) then (if 0 ≤ q_16 ∧ q_16 < 3 then (getI .i64 x1 (0 + q_16.toNat * 1)).bind fun v_28 => (if 0 ≤ q_16 ∧ q_16 < 3 then (getI .i64 x2 (0 + q_16.toNat * 1)).bind fun v_31 => (visorref19_Op.m k 5 q_16 v_28 v_31 0).bind fun v_34 => (visorref19_M_Do.m k q_14 v_34 0).bind fun v_37 => (if 0 ≤ q_16 ∧ q_16 < 3 then (if 0 + q_16.toNat * 1 < q_15.length then visorref20_Xor.l1 x1 x2 k v_37.2 (q_15.set (0 + q_16.toNat * 1) (ci v_37.1)) (IntKind.i64.wrap (q_16 + 1)) else none) else none) else none) else none) else some (q_15, q_14))
abbrev visorref20_Xor.R (κ : Ctx) (S : List HP) (x0 : Tvisorref19_M) (x1 : Cells) (x2 : Cells) (b_x0 : Nat) (r : (Cells × Tvisorref19_M)) : Ending → World → Prop := fun e w' => e = .returned (.agg (vals r.1)) ∧ Own κ w' (Tvisorref19_M.own κ b_x0 r.2 :: S)
def visorref20_Xor.m (k : Nat) (x0 : Tvisorref19_M) (x1 : Cells) (x2 : Cells) : Option (Cells × Tvisorref19_M) := (visorref20_None.m k).bind fun v_8 => (if v_8.length = 3 then (visorref20_Xor.l1 x1 x2 k x0 v_8 0).bind fun x => match x with | (p_40, p_41) => (if p_40.length = 3 then some (p_40, p_41) else none) else none)

set_option maxRecDepth 100000 in
set_option maxHeartbeats 4000000 in
theorem visorref20_Xor.ok (k : Nat) (x0 : Tvisorref19_M) (x1 : Cells) (x2 : Cells) (r : (Cells × Tvisorref19_M)) (hm : visorref20_Xor.m k x0 x1 x2 = some r) (κ : Ctx) (w : World) (S : List HP) (b_x0 : Nat) (ho : Own κ w (Tvisorref19_M.own κ b_x0 x0 :: S)) :
    Calls Try.prog 100 #[pp b_x0, .agg (vals x1), .agg (vals x2)] w (visorref20_Xor.R κ S x0 x1 x2 b_x0 r) := by
  unfold visorref20_Xor.m at hm
  generalize hRR : visorref20_Xor.R κ S x0 x1 x2 b_x0 r = RR
  refine qen [(0, pp b_x0), (1, .agg (vals x1)), (2, .agg (vals x2))] Try.func100 Try.ntmps100 ho fun a hs => ?_
  refine qsr fun K1 hK1 => ?_
  refine Vk.step (Vk.box (x := (.tmp 1)) 4 28 x1 hs (by kernel_rfl) (by kernel_rfl) (by kernel_rfl) fun b_2 w a hs => ?_)
  refine Vk.step (Vk.box (x := (.tmp 2)) 5 28 x2 hs (by kernel_rfl) (by kernel_rfl) (by kernel_rfl) fun b_3 w a hs => ?_)
  refine Vk.step (Vk.alloc 6 28 [ci 0, ci 0, ci 0] hs (by kernel_rfl) (by kernel_rfl) (by kernel_rfl) fun b_4 w a hs => ?_)
  refine qpe 0 [(0, pp b_x0), (4, pp b_2), (5, pp b_3), (6, pp b_4)] hs fun a hs => hK1 _ _ ?_
  clear hK1
  refine qsr fun K5 hK5 => ?_
  obtain ⟨v_8, h_7, hm⟩ := bind_t hm
  refine Vk.step (Vk.call (some 9) 83 #[] hs (by kernel_rfl) (by kernel_rfl) (by kernel_rfl) ?_)
  refine (visorref20_None.ok k v_8 h_7 κ w (pt b_4 (blk [ci 0, ci 0, ci 0] 28) :: pt b_3 (blk x2 28) :: pt b_2 (blk x1 28) :: Tvisorref19_M.own κ b_x0 x0 :: S) hs.own).mono ?_
  rintro _ w ⟨rfl, how⟩
  refine ⟨_, _, _, rfl, how, fun a hs => ?_⟩
  refine Vk.step (Vk.alloc 7 28 [ci 0, ci 0, ci 0] hs (by kernel_rfl) (by kernel_rfl) (by kernel_rfl) fun b_9 w a hs => ?_)
  obtain ⟨h_10, hm⟩ := ite_t hm
  refine Vk.step (Vk.storeA (b := b_9) (ty := 28) (x := (.tmp 7)) (y := (.tmp 9)) (sz := 3) v_8 0 hs (by kernel_rfl) (by kernel_rfl) (by kernel_rfl) (by kernel_rfl) (by kernel_rfl) h_10 (by kernel_rfl) rfl (Eq.trans (b := 3) h_10 (Eq.symm rfl)) fun a w hs => ?_)
  refine qpe 0 [(0, pp b_x0), (4, pp b_2), (5, pp b_3), (6, pp b_4), (7, pp b_9)] hs fun a hs => hK5 _ _ ?_
  clear hK5
  refine Vk.seq fun K11 hK11 => ?_
  refine qsr fun K12 hK12 => ?_
  refine qpe 1 [(0, pp b_x0), (4, pp b_2), (5, pp b_3), (6, pp b_4), (7, pp b_9), (8, vi 0)] hs fun a hs => hK12 _ _ ?_
  clear hK12
  refine wp_block ?_
  obtain ⟨r13, hl13, hm⟩ := bind_t hm
  have hx13 : ∀ (p_40 : Cells) (p_41 : Tvisorref19_M), r13 = (p_40, p_41) → ∀ (a : Act) (w : World), St 34 a w κ [(6, pp b_4), (7, pp b_9)] (pt b_4 (blk [ci 0, ci 0, ci 0] 28) :: pt b_9 (blk p_40 28) :: Tvisorref19_M.own κ b_x0 p_41 :: S) → K11 a w := by
    intro p_40 p_41 he a w hs
    subst r13
    refine hK11 _ _ ?_
    clear hK11
    refine qsr fun K45 hK45 => ?_
    obtain ⟨h_46, hm⟩ := ite_t hm
    refine Vk.step (Vk.value (some 33) (.agg (vals p_40)) hs (by kernel_rfl) (op := (.load 28 (.tmp 7))) (by kernel_rfl) (fun o ho => run_loadN (cs := p_40) ho (by kernel_rfl) (by kernel_rfl) h_46 (CellsAt.all 1 rfl) _ hs.own) fun a hs => ?_)
    refine Vk.step (Vk.storeA (b := b_4) (ty := 28) (x := (.tmp 6)) (y := (.tmp 33)) (sz := 3) p_40 0 hs (by kernel_rfl) (by kernel_rfl) (by kernel_rfl) (by kernel_rfl) (by kernel_rfl) h_46 (by kernel_rfl) rfl (Eq.trans (b := 3) h_46 (Eq.symm rfl)) fun a w hs => ?_)
    refine qpe 0 [(6, pp b_4)] hs fun a hs => hK45 _ _ ?_
    clear hK45
    refine wp_ret ?_
    exact Vk.retC (P := Try.prog) (fn := Try.f100) (R := RR) p_40 hs rfl (by kernel_rfl) (sz := 3) (by kernel_rfl) h_46 (CellsAt.all 0 rfl) (by obtain rfl := Option.some.inj hm; subst hRR; exact ⟨rfl, (Own.to hs.own [2] 3 (by kernel_rfl) (by kernel_rfl))⟩)
  refine Vk.loopBy (fun k (s : Tvisorref19_M × Cells × Int) a w => visorref20_Xor.l1 x1 x2 k s.1 s.2.1 s.2.2 = some r13 ∧ St 34 a w κ [(0, pp b_x0), (4, pp b_2), (5, pp b_3), (6, pp b_4), (7, pp b_9), (8, vi s.2.2)] (Tvisorref19_M.own κ b_x0 s.1 :: pt b_2 (blk x1 28) :: pt b_3 (blk x2 28) :: pt b_4 (blk [ci 0, ci 0, ci 0] 28) :: pt b_9 (blk s.2.1 28) :: S)) k (x0, v_8, 0) ⟨hl13, hs.go [0, 4, 5, 6, 7, 8] [4, 3, 2, 1, 0] 5 (by kernel_rfl) (by kernel_rfl) (by kernel_rfl)⟩ (fun s a w h => by obtain ⟨h1, _⟩ := h; simp [visorref20_Xor.l1] at h1) (fun k KL13 ih s a w h => ?_)
  obtain ⟨q_14, q_15, q_16⟩ := s
  obtain ⟨hm, hs⟩ := h
  try dsimp only at hm hs
  rw [visorref20_Xor.l1] at hm
  refine Vk.seq fun K17 hK17 => ?_
  refine qsr fun K18 hK18 => ?_
  refine qpu 4 hs fun a hs => ?_
  obtain ⟨g_19, hs⟩ := hs.unbag 0 rfl
  refine qld 0 (ci q_14.n) hs rfl fun a hs => ?_
  refine qpe 1 [(0, pp b_x0), (4, pp b_2), (5, pp b_3), (6, pp b_4), (7, pp b_9), (8, vi q_16), (15, .bool (decide (q_16 < q_14.n)))] hs fun a hs => hK18 _ _ ?_
  clear hK18
  refine qcs (decide (q_16 < q_14.n)) hs (fun hb => ?_) fun hb => ?_
  · replace hm := bif_t hm hb
    refine wp_skip ?_
    refine hK17 _ _ ?_
    clear hK17
    refine Vk.seq fun K24 hK24 => ?_
    refine wp_block ?_
    obtain ⟨C_25, hC_25⟩ : ∃ X0 : List HP, X0 = (pt b_2 (blk x1 28) :: pt b_3 (blk x2 28) :: pt b_4 (blk [ci 0, ci 0, ci 0] 28) :: pt b_9 (blk q_15 28) :: S) := ⟨_, rfl⟩
    refine qdr 15 κ C_25 hs fun w hs hqC_25 => ?_
    have hcz : Own κ w (pt b_2 (blk x1 28) :: pt b_3 (blk x2 28) :: pt b_4 (blk [ci 0, ci 0, ci 0] 28) :: pt b_9 (blk q_15 28) :: S) := (Own.to hs.own [5, 6, 7, 8] 9 (by kernel_rfl) (by kernel_rfl))
    have hcl : Own κ w C_25 := by rw [hC_25]; exact hcz
    refine qdp (fuel := 8) [0, 1, 2, 3, 4, 7, 8, 13] hs hcl hqC_25 fun a hs => ?_
    obtain ⟨h_26, hm⟩ := ite_t hm
    refine Vk.dTakeT (i := 5) (some 23) (.pointer (some ⟨b_2, 0 + q_16.toNat * 1, none⟩)) hs (by kernel_rfl) hqC_25 hcl (by kernel_rfl) (by kernel_rfl) (op := (.indexAddr 26 (.tmp 22) (.tmp 21))) (by kernel_rfl) (by kernel_rfl) (fun w hw o ho => by rw [hC_25] at hw; exact run_idxArr (k := .i64) ho (by kernel_rfl) (by kernel_rfl) (by kernel_rfl) h_26 _) fun a hs => ?_
    obtain ⟨v_28, h_27, hm⟩ := bind_t hm
    refine Vk.dTakeT (i := 6) (some 24) (vi v_28) hs (by kernel_rfl) hqC_25 hcl (by kernel_rfl) (by kernel_rfl) (op := (.load 3 (.tmp 23))) (by kernel_rfl) (by kernel_rfl) (fun w hw o ho => by rw [hC_25] at hw; exact run_load1 (c := ci v_28) ho (by kernel_rfl) (by kernel_rfl) (Cell.own 0 rfl (getI_some h_27)) _ hw) fun a hs => ?_
    obtain ⟨h_29, hm⟩ := ite_t hm
    refine Vk.dTakeT (i := 9) (some 27) (.pointer (some ⟨b_3, 0 + q_16.toNat * 1, none⟩)) hs (by kernel_rfl) hqC_25 hcl (by kernel_rfl) (by kernel_rfl) (op := (.indexAddr 26 (.tmp 26) (.tmp 25))) (by kernel_rfl) (by kernel_rfl) (fun w hw o ho => by rw [hC_25] at hw; exact run_idxArr (k := .i64) ho (by kernel_rfl) (by kernel_rfl) (by kernel_rfl) h_29 _) fun a hs => ?_
    obtain ⟨v_31, h_30, hm⟩ := bind_t hm
    refine Vk.dTakeT (i := 10) (some 28) (vi v_31) hs (by kernel_rfl) hqC_25 hcl (by kernel_rfl) (by kernel_rfl) (op := (.load 3 (.tmp 27))) (by kernel_rfl) (by kernel_rfl) (fun w hw o ho => by rw [hC_25] at hw; exact run_load1 (c := ci v_31) ho (by kernel_rfl) (by kernel_rfl) (Cell.own 1 rfl (getI_some h_30)) _ hw) fun a hs => ?_
    obtain ⟨v_34, h_33, hm⟩ := bind_t hm
    refine Vk.dOnly (i := 11) (by kernel_rfl) (Vk.call (some 29) 123 #[vi 5, vi q_16, vi v_28, vi v_31, vw 0] hs (by kernel_rfl) (by kernel_rfl) (by kernel_rfl) ?_)
    refine (visorref19_Op.ok k 5 q_16 v_28 v_31 0 v_34 h_33 κ w (pt b_x0 (blk (Tvisorref19_M.obj q_14 g_19.1 g_19.2.1 g_19.2.2.1 g_19.2.2.2.1 g_19.2.2.2.2.1 g_19.2.2.2.2.2.1 g_19.2.2.2.2.2.2.1 g_19.2.2.2.2.2.2.2) 64) :: rowp g_19.1 g_19.2.1 93 6 Tapi_Op.cells q_14.ops :: rowp g_19.2.2.1 g_19.2.2.2.1 175 3 Tapi_Span.cells q_14.blocks :: rowp g_19.2.2.2.2.1 g_19.2.2.2.2.2.1 32 1 (eI .u64) q_14.val :: rdp κ g_19.2.2.2.2.2.2.1 g_19.2.2.2.2.2.2.2 1 (eI .u64) q_14.tape.l :: pt b_2 (blk x1 28) :: pt b_3 (blk x2 28) :: pt b_4 (blk [ci 0, ci 0, ci 0] 28) :: pt b_9 (blk q_15 28) :: S) hs.own).mono ?_
    rintro _ w ⟨rfl, how⟩
    refine ⟨_, _, _, rfl, how, fun a hs => ?_⟩
    replace hcl : Own κ w C_25 := by rw [hC_25]; exact (Own.to hs.own [5, 6, 7, 8] 9 (by kernel_rfl) (by kernel_rfl))
    refine ⟨fun _ => hcl, ?_⟩
    replace hs := hs.bagG (l := Tvisorref19_M.parts κ b_x0 q_14 g_19) (S' := pt b_2 (blk x1 28) :: pt b_3 (blk x2 28) :: pt b_4 (blk [ci 0, ci 0, ci 0] 28) :: pt b_9 (blk q_15 28) :: S) (Own.to hs.own [0, 1, 2, 3, 4, 5, 6, 7, 8] 9 (by kernel_rfl) (by kernel_rfl))
    replace hs := hs.toEx (Tvisorref19_M.parts κ b_x0 q_14) g_19 0 rfl
    obtain ⟨v_37, h_36, hm⟩ := bind_t hm
    refine Vk.dOnly (i := 12) (by kernel_rfl) (Vk.call (some 30) 55 #[pp b_x0, .agg (vals [ci v_34.kind, ci v_34.dom, ci v_34.a, ci v_34.b, ci v_34.d, cw v_34.c]), vw 0] hs (by kernel_rfl) (by kernel_rfl) (by kernel_rfl) ?_)
    refine (visorref19_M_Do.ok k q_14 v_34 0 v_37 h_36 κ w (pt b_2 (blk x1 28) :: pt b_3 (blk x2 28) :: pt b_4 (blk [ci 0, ci 0, ci 0] 28) :: pt b_9 (blk q_15 28) :: S) b_x0 (Own.to hs.own [0, 1, 2, 3, 4] 5 (by kernel_rfl) (by kernel_rfl))).mono ?_
    rintro _ w ⟨rfl, how⟩
    refine ⟨_, _, _, rfl, how, fun a hs => ?_⟩
    replace hcl : Own κ w C_25 := by rw [hC_25]; exact (Own.to hs.own [1, 2, 3, 4] 5 (by kernel_rfl) (by kernel_rfl))
    refine ⟨fun _ => hcl, ?_⟩
    obtain ⟨h_38, hm⟩ := ite_t hm
    refine Vk.dTakeT (i := 14) (some 32) (.pointer (some ⟨b_9, 0 + q_16.toNat * 1, none⟩)) hs (by kernel_rfl) hqC_25 hcl (by kernel_rfl) (by kernel_rfl) (op := (.indexAddr 26 (.tmp 31) (.tmp 18))) (by kernel_rfl) (by kernel_rfl) (fun w hw o ho => by rw [hC_25] at hw; exact run_idxArr (k := .i64) ho (by kernel_rfl) (by kernel_rfl) (by kernel_rfl) h_38 _) fun a hs => ?_
    obtain ⟨h_39, hm⟩ := ite_t hm
    refine Vk.dOnly (i := 15) (by kernel_rfl) (Vk.store1 (b := b_9) (ty := 3) (x := (.tmp 32)) (y := (.tmp 30)) (off := 0 + q_16.toNat * 1) (ci v_37.1) 4 hs (by kernel_rfl) (by kernel_rfl) (by kernel_rfl) (by kernel_rfl) (by kernel_rfl) (by kernel_rfl) rfl h_39 fun a w hs => ?_)
    refine ⟨fun h => absurd h (by decide), ?_⟩
    replace hs := hs.pick [0, 4, 5, 6, 7, 8] (L' := [(0, pp b_x0), (4, pp b_2), (5, pp b_3), (6, pp b_4), (7, pp b_9), (8, vi q_16)]) (by kernel_rfl)
    refine Vk.dDone (by kernel_rfl) ?_
    refine hK24 _ _ ?_
    clear hK24
    refine Vk.region ?_
    refine qpe 3 [(0, pp b_x0), (4, pp b_2), (5, pp b_3), (6, pp b_4), (7, pp b_9), (8, vi (IntKind.i64.wrap (q_16 + 1)))] hs fun a hs => ?_
    refine ih (v_37.2, (q_15.set (0 + q_16.toNat * 1) (ci v_37.1)), (IntKind.i64.wrap (q_16 + 1))) _ _ ⟨hm, hs.go [0, 4, 5, 6, 7, 8] [0, 1, 2, 3, 4] 5 (by kernel_rfl) (by kernel_rfl) (by kernel_rfl)⟩
  · replace hm := bif_f hm hb
    refine wp_exit ?_
    replace hs := hs.bagG (l := Tvisorref19_M.parts κ b_x0 q_14 g_19) (S' := pt b_2 (blk x1 28) :: pt b_3 (blk x2 28) :: pt b_4 (blk [ci 0, ci 0, ci 0] 28) :: pt b_9 (blk q_15 28) :: S) (Own.to hs.own [0, 1, 2, 3, 4, 5, 6, 7, 8] 9 (by kernel_rfl) (by kernel_rfl))
    replace hs := hs.toEx (Tvisorref19_M.parts κ b_x0 q_14) g_19 0 rfl
    exact hx13 q_15 q_14 (Option.some.inj hm).symm _ _ (hs.go [6, 7] [3, 4, 0] 5 (by kernel_rfl) (by kernel_rfl) (by kernel_rfl))


abbrev wire_Machine_One.R (κ : Ctx) (S : List HP) (x0 : Twire_Machine) (x1 : Int) (x2 : Int) (x3 : Int) (x4 : Int) (b_x0 : Nat) (r : (Int × Twire_Machine)) : Ending → World → Prop := fun e w' => e = .returned (vi r.1) ∧ Own κ w' (Twire_Machine.own b_x0 r.2 :: S)
def wire_Machine_One.m (k : Nat) (x0 : Twire_Machine) (x1 : Int) (x2 : Int) (x3 : Int) (x4 : Int) : Option (Int × Twire_Machine) := (wire_Machine_Do.m k x0 (⟨x1, x2, x3, (-1), (-1), x4⟩ : Tapi_Op) 0).bind fun v_5 => some (v_5.1, v_5.2)

set_option maxRecDepth 100000 in
set_option maxHeartbeats 4000000 in
theorem wire_Machine_One.ok (k : Nat) (x0 : Twire_Machine) (x1 : Int) (x2 : Int) (x3 : Int) (x4 : Int) (r : (Int × Twire_Machine)) (hm : wire_Machine_One.m k x0 x1 x2 x3 x4 = some r) (κ : Ctx) (w : World) (S : List HP) (b_x0 : Nat) (ho : Own κ w (Twire_Machine.own b_x0 x0 :: S)) :
    Calls Try.prog 155 #[pp b_x0, vi x1, vi x2, vi x3, vw x4] w (wire_Machine_One.R κ S x0 x1 x2 x3 x4 b_x0 r) := by
  unfold wire_Machine_One.m at hm
  generalize hRR : wire_Machine_One.R κ S x0 x1 x2 x3 x4 b_x0 r = RR
  refine qen [(0, pp b_x0), (1, vi x1), (2, vi x2), (3, vi x3), (4, vw x4)] Try.func155 Try.ntmps155 ho fun a hs => ?_
  refine qsr fun K1 hK1 => ?_
  refine qpe 1 [(0, pp b_x0), (1, vi x1), (2, vi x2), (3, vi x3), (4, vw x4)] hs fun a hs => hK1 _ _ ?_
  clear hK1
  refine qsr fun K2 hK2 => ?_
  refine qpu 6 hs fun a hs => ?_
  obtain ⟨v_5, h_4, hm⟩ := bind_t hm
  refine Vk.step (Vk.call (some 17) 147 #[pp b_x0, .agg (vals [ci x1, ci x2, ci x3, ci (-1), ci (-1), cw x4]), vw 0] hs (by kernel_rfl) (by kernel_rfl) (by kernel_rfl) ?_)
  refine (wire_Machine_Do.ok k x0 (⟨x1, x2, x3, (-1), (-1), x4⟩ : Tapi_Op) 0 v_5 h_4 κ w (S) b_x0 (Own.to hs.own [0] 1 (by kernel_rfl) (by kernel_rfl))).mono ?_
  rintro _ w ⟨rfl, how⟩
  refine ⟨_, _, _, rfl, how, fun a hs => ?_⟩
  refine qpe 1 [(10, vi v_5.1)] hs fun a hs => hK2 _ _ ?_
  clear hK2
  refine wp_ret ?_
  exact Vk.ret1 (P := Try.prog) (fn := Try.f155) (R := RR) (vi v_5.1) hs rfl (by kernel_rfl) (by obtain rfl := Option.some.inj hm; subst hRR; exact ⟨rfl, (Own.to hs.own [0] 1 (by kernel_rfl) (by kernel_rfl))⟩)


abbrev share_Not.R (κ : Ctx) (S : List HP) (x0 : Twire_Machine) (x1 : Cells) (b_x0 : Nat) (r : (Cells × Twire_Machine)) : Ending → World → Prop := fun e w' => e = .returned (.agg (vals r.1)) ∧ Own κ w' (Twire_Machine.own b_x0 r.2 :: S)
def share_Not.m (k : Nat) (x0 : Twire_Machine) (x1 : Cells) : Option (Cells × Twire_Machine) := (getI .i64 x1 (0)).bind fun v_6 => (wire_Machine_One.m k x0 6 0 v_6 0).bind fun v_9 => (if 0 < x1.length then (if (x1.set (0) (ci v_9.1)).length = 3 then some ((x1.set (0) (ci v_9.1)), v_9.2) else none) else none)

set_option maxRecDepth 100000 in
set_option maxHeartbeats 4000000 in
theorem share_Not.ok (k : Nat) (x0 : Twire_Machine) (x1 : Cells) (r : (Cells × Twire_Machine)) (hm : share_Not.m k x0 x1 = some r) (κ : Ctx) (w : World) (S : List HP) (b_x0 : Nat) (ho : Own κ w (Twire_Machine.own b_x0 x0 :: S)) :
    Calls Try.prog 101 #[pp b_x0, .agg (vals x1)] w (share_Not.R κ S x0 x1 b_x0 r) := by
  unfold share_Not.m at hm
  generalize hRR : share_Not.R κ S x0 x1 b_x0 r = RR
  refine qen [(0, pp b_x0), (1, .agg (vals x1))] Try.func101 Try.ntmps101 ho fun a hs => ?_
  refine qsr fun K1 hK1 => ?_
  refine Vk.step (Vk.box (x := (.tmp 1)) 3 28 x1 hs (by kernel_rfl) (by kernel_rfl) (by kernel_rfl) fun b_2 w a hs => ?_)
  refine Vk.step (Vk.alloc 4 28 [ci 0, ci 0, ci 0] hs (by kernel_rfl) (by kernel_rfl) (by kernel_rfl) fun b_3 w a hs => ?_)
  refine qpe 0 [(0, pp b_x0), (3, pp b_2), (4, pp b_3)] hs fun a hs => hK1 _ _ ?_
  clear hK1
  refine qsr fun K4 hK4 => ?_
  refine qpu 3 hs fun a hs => ?_
  obtain ⟨v_6, h_5, hm⟩ := bind_t hm
  refine Vk.step (Vk.value (some 8) (vi v_6) hs (by kernel_rfl) (op := (.load 3 (.tmp 7))) (by kernel_rfl) (fun o ho => run_load1 (c := ci v_6) ho (by kernel_rfl) (by kernel_rfl) (Cell.own 1 rfl (getI_some h_5)) _ hs.own) fun a hs => ?_)
  obtain ⟨v_9, h_8, hm⟩ := bind_t hm
  refine Vk.step (Vk.call (some 9) 155 #[pp b_x0, vi 6, vi 0, vi v_6, vw 0] hs (by kernel_rfl) (by kernel_rfl) (by kernel_rfl) ?_)
  refine (wire_Machine_One.ok k x0 6 0 v_6 0 v_9 h_8 κ w (pt b_3 (blk [ci 0, ci 0, ci 0] 28) :: pt b_2 (blk x1 28) :: S) b_x0 (Own.to hs.own [2, 0, 1] 3 (by kernel_rfl) (by kernel_rfl))).mono ?_
  rintro _ w ⟨rfl, how⟩
  refine ⟨_, _, _, rfl, how, fun a hs => ?_⟩
  refine qpu 2 hs fun a hs => ?_
  obtain ⟨h_10, hm⟩ := ite_t hm
  refine Vk.step (Vk.store1 (b := b_2) (ty := 3) (x := (.tmp 11)) (y := (.tmp 9)) (off := 0) (ci v_9.1) 2 hs (by kernel_rfl) (by kernel_rfl) (by kernel_rfl) (by kernel_rfl) (by kernel_rfl) (by kernel_rfl) rfl h_10 fun a w hs => ?_)
  refine qpe 0 [(3, pp b_2), (4, pp b_3)] hs fun a hs => hK4 _ _ ?_
  clear hK4
  refine qsr fun K11 hK11 => ?_
  obtain ⟨h_12, hm⟩ := ite_t hm
  refine Vk.step (Vk.value (some 12) (.agg (vals (x1.set (0) (ci v_9.1)))) hs (by kernel_rfl) (op := (.load 28 (.tmp 3))) (by kernel_rfl) (fun o ho => run_loadN (cs := (x1.set (0) (ci v_9.1))) ho (by kernel_rfl) (by kernel_rfl) h_12 (CellsAt.all 2 rfl) _ hs.own) fun a hs => ?_)
  refine Vk.step (Vk.storeA (b := b_3) (ty := 28) (x := (.tmp 4)) (y := (.tmp 12)) (sz := 3) (x1.set (0) (ci v_9.1)) 1 hs (by kernel_rfl) (by kernel_rfl) (by kernel_rfl) (by kernel_rfl) (by kernel_rfl) h_12 (by kernel_rfl) rfl (Eq.trans (b := 3) h_12 (Eq.symm rfl)) fun a w hs => ?_)
  refine qpe 0 [(4, pp b_3)] hs fun a hs => hK11 _ _ ?_
  clear hK11
  refine wp_ret ?_
  exact Vk.retC (P := Try.prog) (fn := Try.f101) (R := RR) (x1.set (0) (ci v_9.1)) hs rfl (by kernel_rfl) (sz := 3) (by kernel_rfl) h_12 (CellsAt.all 1 rfl) (by obtain rfl := Option.some.inj hm; subst hRR; exact ⟨rfl, (Own.to hs.own [0] 3 (by kernel_rfl) (by kernel_rfl))⟩)


abbrev visorref20_Not.R (κ : Ctx) (S : List HP) (x0 : Tvisorref19_M) (x1 : Cells) (b_x0 : Nat) (r : (Cells × Tvisorref19_M)) : Ending → World → Prop := fun e w' => e = .returned (.agg (vals r.1)) ∧ Own κ w' (Tvisorref19_M.own κ b_x0 r.2 :: S)
def visorref20_Not.m (k : Nat) (x0 : Tvisorref19_M) (x1 : Cells) : Option (Cells × Tvisorref19_M) := (getI .i64 x1 (0)).bind fun v_6 => (visorref19_Op.m k 6 0 v_6 (-1) 0).bind fun v_9 => (visorref19_M_Do.m k x0 v_9 0).bind fun v_12 => (if 0 < x1.length then (if (x1.set (0) (ci v_12.1)).length = 3 then some ((x1.set (0) (ci v_12.1)), v_12.2) else none) else none)

set_option maxRecDepth 100000 in
set_option maxHeartbeats 4000000 in
theorem visorref20_Not.ok (k : Nat) (x0 : Tvisorref19_M) (x1 : Cells) (r : (Cells × Tvisorref19_M)) (hm : visorref20_Not.m k x0 x1 = some r) (κ : Ctx) (w : World) (S : List HP) (b_x0 : Nat) (ho : Own κ w (Tvisorref19_M.own κ b_x0 x0 :: S)) :
    Calls Try.prog 102 #[pp b_x0, .agg (vals x1)] w (visorref20_Not.R κ S x0 x1 b_x0 r) := by
  unfold visorref20_Not.m at hm
  generalize hRR : visorref20_Not.R κ S x0 x1 b_x0 r = RR
  refine qen [(0, pp b_x0), (1, .agg (vals x1))] Try.func102 Try.ntmps102 ho fun a hs => ?_
  refine qsr fun K1 hK1 => ?_
  refine Vk.step (Vk.box (x := (.tmp 1)) 3 28 x1 hs (by kernel_rfl) (by kernel_rfl) (by kernel_rfl) fun b_2 w a hs => ?_)
  refine Vk.step (Vk.alloc 4 28 [ci 0, ci 0, ci 0] hs (by kernel_rfl) (by kernel_rfl) (by kernel_rfl) fun b_3 w a hs => ?_)
  refine qpe 0 [(0, pp b_x0), (3, pp b_2), (4, pp b_3)] hs fun a hs => hK1 _ _ ?_
  clear hK1
  refine qsr fun K4 hK4 => ?_
  refine qpu 3 hs fun a hs => ?_
  obtain ⟨v_6, h_5, hm⟩ := bind_t hm
  refine Vk.step (Vk.value (some 8) (vi v_6) hs (by kernel_rfl) (op := (.load 3 (.tmp 7))) (by kernel_rfl) (fun o ho => run_load1 (c := ci v_6) ho (by kernel_rfl) (by kernel_rfl) (Cell.own 1 rfl (getI_some h_5)) _ hs.own) fun a hs => ?_)
  obtain ⟨v_9, h_8, hm⟩ := bind_t hm
  refine Vk.step (Vk.call (some 9) 123 #[vi 6, vi 0, vi v_6, vi (-1), vw 0] hs (by kernel_rfl) (by kernel_rfl) (by kernel_rfl) ?_)
  refine (visorref19_Op.ok k 6 0 v_6 (-1) 0 v_9 h_8 κ w (pt b_3 (blk [ci 0, ci 0, ci 0] 28) :: pt b_2 (blk x1 28) :: Tvisorref19_M.own κ b_x0 x0 :: S) hs.own).mono ?_
  rintro _ w ⟨rfl, how⟩
  refine ⟨_, _, _, rfl, how, fun a hs => ?_⟩
  obtain ⟨v_12, h_11, hm⟩ := bind_t hm
  refine Vk.step (Vk.call (some 10) 55 #[pp b_x0, .agg (vals [ci v_9.kind, ci v_9.dom, ci v_9.a, ci v_9.b, ci v_9.d, cw v_9.c]), vw 0] hs (by kernel_rfl) (by kernel_rfl) (by kernel_rfl) ?_)
  refine (visorref19_M_Do.ok k x0 v_9 0 v_12 h_11 κ w (pt b_3 (blk [ci 0, ci 0, ci 0] 28) :: pt b_2 (blk x1 28) :: S) b_x0 (Own.to hs.own [2, 0, 1] 3 (by kernel_rfl) (by kernel_rfl))).mono ?_
  rintro _ w ⟨rfl, how⟩
  refine ⟨_, _, _, rfl, how, fun a hs => ?_⟩
  refine qpu 2 hs fun a hs => ?_
  obtain ⟨h_13, hm⟩ := ite_t hm
  refine Vk.step (Vk.store1 (b := b_2) (ty := 3) (x := (.tmp 12)) (y := (.tmp 10)) (off := 0) (ci v_12.1) 2 hs (by kernel_rfl) (by kernel_rfl) (by kernel_rfl) (by kernel_rfl) (by kernel_rfl) (by kernel_rfl) rfl h_13 fun a w hs => ?_)
  refine qpe 0 [(3, pp b_2), (4, pp b_3)] hs fun a hs => hK4 _ _ ?_
  clear hK4
  refine qsr fun K14 hK14 => ?_
  obtain ⟨h_15, hm⟩ := ite_t hm
  refine Vk.step (Vk.value (some 13) (.agg (vals (x1.set (0) (ci v_12.1)))) hs (by kernel_rfl) (op := (.load 28 (.tmp 3))) (by kernel_rfl) (fun o ho => run_loadN (cs := (x1.set (0) (ci v_12.1))) ho (by kernel_rfl) (by kernel_rfl) h_15 (CellsAt.all 2 rfl) _ hs.own) fun a hs => ?_)
  refine Vk.step (Vk.storeA (b := b_3) (ty := 28) (x := (.tmp 4)) (y := (.tmp 13)) (sz := 3) (x1.set (0) (ci v_12.1)) 1 hs (by kernel_rfl) (by kernel_rfl) (by kernel_rfl) (by kernel_rfl) (by kernel_rfl) h_15 (by kernel_rfl) rfl (Eq.trans (b := 3) h_15 (Eq.symm rfl)) fun a w hs => ?_)
  refine qpe 0 [(4, pp b_3)] hs fun a hs => hK14 _ _ ?_
  clear hK14
  refine wp_ret ?_
  exact Vk.retC (P := Try.prog) (fn := Try.f102) (R := RR) (x1.set (0) (ci v_12.1)) hs rfl (by kernel_rfl) (sz := 3) (by kernel_rfl) h_15 (CellsAt.all 1 rfl) (by obtain rfl := Option.some.inj hm; subst hRR; exact ⟨rfl, (Own.to hs.own [0] 3 (by kernel_rfl) (by kernel_rfl))⟩)


def share_One.l1 (x1 : Int) (x2 : Cells) (x3 : Int) (v_22 : Int) : Nat → Twire_Machine → Cells → Int → Option (Cells × Twire_Machine)
  | 0, _, _, _ => none
  | k + 1, q_24, q_25, q_26 => (bif decide (q_26 < v_22) then (if 0 ≤ q_26 ∧ q_26 < 3 then (getI .i64 x2 (0 + q_26.toNat * 1)).bind fun v_37 => (wire_Machine_One.m k q_24 x1 q_26 v_37 x3).bind fun v_40 => (if 0 ≤ q_26 ∧ q_26 < 3 then (if 0 + q_26.toNat * 1 < q_25.length then share_One.l1 x1 x2 x3 v_22 k v_40.2 (q_25.set (0 + q_26.toNat * 1) (ci v_40.1)) (IntKind.i64.wrap (q_26 + 1)) else none) else none) else none) else some (q_25, q_24))
abbrev share_One.R (κ : Ctx) (S : List HP) (x0 : Twire_Machine) (x1 : Int) (x2 : Cells) (x3 : Int) (b_x0 : Nat) (r : (Cells × Twire_Machine)) : Ending → World → Prop := fun e w' => e = .returned (.agg (vals r.1)) ∧ Own κ w' (Twire_Machine.own b_x0 r.2 :: S)
def share_One.m (k : Nat) (x0 : Twire_Machine) (x1 : Int) (x2 : Cells) (x3 : Int) : Option (Cells × Twire_Machine) := (share_none.m k).bind fun v_14 => (if v_14.length = 3 then (wire_Machine_N.m k x0).bind fun v_22 => (share_One.l1 x1 x2 x3 v_22 k x0 v_14 0).bind fun x => match x with | (p_43, p_44) => (if p_43.length = 3 then some (p_43, p_44) else none) else none)

set_option maxRecDepth 100000 in
set_option maxHeartbeats 4000000 in
theorem share_One.ok (k : Nat) (x0 : Twire_Machine) (x1 : Int) (x2 : Cells) (x3 : Int) (r : (Cells × Twire_Machine)) (hm : share_One.m k x0 x1 x2 x3 = some r) (κ : Ctx) (w : World) (S : List HP) (b_x0 : Nat) (ho : Own κ w (Twire_Machine.own b_x0 x0 :: S)) :
    Calls Try.prog 103 #[pp b_x0, vi x1, .agg (vals x2), vw x3] w (share_One.R κ S x0 x1 x2 x3 b_x0 r) := by
  unfold share_One.m at hm
  generalize hRR : share_One.R κ S x0 x1 x2 x3 b_x0 r = RR
  refine qen [(0, pp b_x0), (1, vi x1), (2, .agg (vals x2)), (3, vw x3)] Try.func103 Try.ntmps103 ho fun a hs => ?_
  refine qsr fun K1 hK1 => ?_
  refine Vk.step (Vk.box (x := (.tmp 0)) 4 41 [cp b_x0] hs (by kernel_rfl) (by kernel_rfl) (by kernel_rfl) fun b_2 w a hs => ?_)
  refine Vk.step (Vk.box (x := (.tmp 1)) 5 3 [ci x1] hs (by kernel_rfl) (by kernel_rfl) (by kernel_rfl) fun b_3 w a hs => ?_)
  refine Vk.step (Vk.box (x := (.tmp 2)) 6 28 x2 hs (by kernel_rfl) (by kernel_rfl) (by kernel_rfl) fun b_4 w a hs => ?_)
  refine Vk.step (Vk.box (x := (.tmp 3)) 7 32 [cw x3] hs (by kernel_rfl) (by kernel_rfl) (by kernel_rfl) fun b_5 w a hs => ?_)
  refine Vk.step (Vk.alloc 8 28 [ci 0, ci 0, ci 0] hs (by kernel_rfl) (by kernel_rfl) (by kernel_rfl) fun b_6 w a hs => ?_)
  refine qpe 0 [(4, pp b_2), (5, pp b_3), (6, pp b_4), (7, pp b_5), (8, pp b_6)] hs fun a hs => hK1 _ _ ?_
  clear hK1
  refine qsr fun K7 hK7 => ?_
  refine qld 4 (cp b_x0) hs rfl fun a hs => ?_
  refine qpu 1 hs fun a hs => ?_
  refine Vk.step (Vk.call (some 11) 132 #[pp b_x0, .func (.func 156) #[] #[pp b_2, pp b_3, pp b_4, pp b_5]] hs (by kernel_rfl) (by kernel_rfl) (by kernel_rfl) ?_)
  refine Vk.enterI [(0, pp b_x0), (1, .func (.func 156) #[] #[pp b_2, pp b_3, pp b_4, pp b_5])] Try.func132 rfl Try.ntmps132 (by kernel_rfl) (Nat.le_of_ble_eq_true (by kernel_rfl)) hs.own fun KR8 hKR8 hKP8 a hs => ?_
  refine qsr fun K9 hK9 => ?_
  refine Vk.step (Vk.alloc 4 28 [ci 0, ci 0, ci 0] hs (by kernel_rfl) (by kernel_rfl) (by kernel_rfl) fun b_10 w a hs => ?_)
  refine qpe 0 [(0, pp b_x0), (1, .func (.func 156) #[] #[pp b_2, pp b_3, pp b_4, pp b_5]), (4, pp b_10)] hs fun a hs => hK9 _ _ ?_
  clear hK9
  refine qsr fun K11 hK11 => ?_
  obtain ⟨v_14, h_13, hm⟩ := bind_t hm
  refine Vk.step (Vk.call (some 7) 119 #[] hs (by kernel_rfl) (by kernel_rfl) (by kernel_rfl) ?_)
  refine (share_none.ok k v_14 h_13 κ w (pt b_10 (blk [ci 0, ci 0, ci 0] 28) :: pt b_6 (blk [ci 0, ci 0, ci 0] 28) :: pt b_5 (blk [cw x3] 32) :: pt b_4 (blk x2 28) :: pt b_3 (blk [ci x1] 3) :: pt b_2 (blk [cp b_x0] 41) :: Twire_Machine.own b_x0 x0 :: S) hs.own).mono ?_
  rintro _ w ⟨rfl, how⟩
  refine ⟨_, _, _, rfl, how, fun a hs => ?_⟩
  refine Vk.step (Vk.alloc 5 28 [ci 0, ci 0, ci 0] hs (by kernel_rfl) (by kernel_rfl) (by kernel_rfl) fun b_15 w a hs => ?_)
  obtain ⟨h_16, hm⟩ := ite_t hm
  refine Vk.step (Vk.storeA (b := b_15) (ty := 28) (x := (.tmp 5)) (y := (.tmp 7)) (sz := 3) v_14 0 hs (by kernel_rfl) (by kernel_rfl) (by kernel_rfl) (by kernel_rfl) (by kernel_rfl) h_16 (by kernel_rfl) rfl (Eq.trans (b := 3) h_16 (Eq.symm rfl)) fun a w hs => ?_)
  refine qpe 0 [(0, pp b_x0), (1, .func (.func 156) #[] #[pp b_2, pp b_3, pp b_4, pp b_5]), (4, pp b_10), (5, pp b_15)] hs fun a hs => hK11 _ _ ?_
  clear hK11
  refine Vk.seq fun K17 hK17 => ?_
  refine qsr fun K18 hK18 => ?_
  refine qpu 1 hs fun a hs => ?_
  obtain ⟨g_19, hs⟩ := hs.unex 7 rfl
  obtain ⟨v_22, h_21, hm⟩ := bind_t hm
  refine Vk.step (Vk.call (some 9) 89 #[pp b_x0] hs (by kernel_rfl) (by kernel_rfl) (by kernel_rfl) ?_)
  refine (wire_Machine_N.ok k x0 v_22 h_21 κ w (pt b_15 (blk v_14 28) :: pt b_10 (blk [ci 0, ci 0, ci 0] 28) :: pt b_6 (blk [ci 0, ci 0, ci 0] 28) :: pt b_5 (blk [cw x3] 32) :: pt b_4 (blk x2 28) :: pt b_3 (blk [ci x1] 3) :: pt b_2 (blk [cp b_x0] 41) :: S) b_x0 g_19 (Own.to hs.own [7, 0, 1, 2, 3, 4, 5, 6] 8 (by kernel_rfl) (by kernel_rfl))).mono ?_
  rintro _ w ⟨rfl, how⟩
  refine ⟨_, _, _, rfl, how, fun a hs => ?_⟩
  refine qpe 1 [(1, .func (.func 156) #[] #[pp b_2, pp b_3, pp b_4, pp b_5]), (4, pp b_10), (5, pp b_15), (9, vi v_22), (10, vi 0)] hs fun a hs => hK18 _ _ ?_
  clear hK18
  refine wp_block ?_
  replace hs := hs.toEx (Twire_Machine.parts b_x0 x0) g_19 0 rfl
  obtain ⟨r23, hl23, hm⟩ := bind_t hm
  have hx23 : ∀ (p_43 : Cells) (p_44 : Twire_Machine), r23 = (p_43, p_44) → ∀ (a : Act) (w : World), St 21 a w κ [(4, pp b_10), (5, pp b_15)] (pt b_10 (blk [ci 0, ci 0, ci 0] 28) :: pt b_15 (blk p_43 28) :: Twire_Machine.own b_x0 p_44 :: pt b_2 (blk [cp b_x0] 41) :: pt b_3 (blk [ci x1] 3) :: pt b_4 (blk x2 28) :: pt b_5 (blk [cw x3] 32) :: pt b_6 (blk [ci 0, ci 0, ci 0] 28) :: S) → K17 a w := by
    intro p_43 p_44 he a w hs
    subst r23
    refine hK17 _ _ ?_
    clear hK17
    refine qsr fun K48 hK48 => ?_
    obtain ⟨h_49, hm⟩ := ite_t hm
    refine Vk.step (Vk.value (some 20) (.agg (vals p_43)) hs (by kernel_rfl) (op := (.load 28 (.tmp 5))) (by kernel_rfl) (fun o ho => run_loadN (cs := p_43) ho (by kernel_rfl) (by kernel_rfl) h_49 (CellsAt.all 1 rfl) _ hs.own) fun a hs => ?_)
    refine Vk.step (Vk.storeA (b := b_10) (ty := 28) (x := (.tmp 4)) (y := (.tmp 20)) (sz := 3) p_43 0 hs (by kernel_rfl) (by kernel_rfl) (by kernel_rfl) (by kernel_rfl) (by kernel_rfl) h_49 (by kernel_rfl) rfl (Eq.trans (b := 3) h_49 (Eq.symm rfl)) fun a w hs => ?_)
    refine qpe 0 [(4, pp b_10)] hs fun a hs => hK48 _ _ ?_
    clear hK48
    refine wp_ret ?_
    refine hKP8 _ _ ?_
    refine hKR8 _ _ ?_
    refine Vk.retC (P := Try.prog) (fn := Try.f132) p_43 hs rfl (by kernel_rfl) (sz := 3) (by kernel_rfl) h_49 (CellsAt.all 0 rfl) ⟨_, _, _, rfl, hs.own, fun a hs => ?_⟩
    refine Vk.step (Vk.storeA (b := b_6) (ty := 28) (x := (.tmp 8)) (y := (.tmp 11)) (sz := 3) p_43 7 hs (by kernel_rfl) (by kernel_rfl) (by kernel_rfl) (by kernel_rfl) (by kernel_rfl) h_49 (by kernel_rfl) rfl (Eq.trans (b := 3) h_49 (Eq.symm rfl)) fun a w hs => ?_)
    refine qpe 0 [(8, pp b_6)] hs fun a hs => hK7 _ _ ?_
    clear hK7
    refine wp_ret ?_
    exact Vk.retC (P := Try.prog) (fn := Try.f103) (R := RR) p_43 hs rfl (by kernel_rfl) (sz := 3) (by kernel_rfl) h_49 (CellsAt.all 7 rfl) (by obtain rfl := Option.some.inj hm; subst hRR; exact ⟨rfl, (Own.to hs.own [2] 8 (by kernel_rfl) (by kernel_rfl))⟩)
  refine Vk.loopBy (fun k (s : Twire_Machine × Cells × Int) a w => share_One.l1 x1 x2 x3 v_22 k s.1 s.2.1 s.2.2 = some r23 ∧ St 21 a w κ [(1, .func (.func 156) #[] #[pp b_2, pp b_3, pp b_4, pp b_5]), (4, pp b_10), (5, pp b_15), (9, vi v_22), (10, vi s.2.2)] (pt b_2 (blk [cp b_x0] 41) :: Twire_Machine.own b_x0 s.1 :: pt b_3 (blk [ci x1] 3) :: pt b_4 (blk x2 28) :: pt b_5 (blk [cw x3] 32) :: pt b_10 (blk [ci 0, ci 0, ci 0] 28) :: pt b_15 (blk s.2.1 28) :: pt b_6 (blk [ci 0, ci 0, ci 0] 28) :: S)) k (x0, v_14, 0) ⟨hl23, hs.go [1, 4, 5, 9, 10] [7, 0, 6, 5, 4, 2, 1, 3] 8 (by kernel_rfl) (by kernel_rfl) (by kernel_rfl)⟩ (fun s a w h => by obtain ⟨h1, _⟩ := h; simp [share_One.l1] at h1) (fun k KL23 ih s a w h => ?_)
  obtain ⟨q_24, q_25, q_26⟩ := s
  obtain ⟨hm, hs⟩ := h
  try dsimp only at hm hs
  rw [share_One.l1] at hm
  refine qsr fun K27 hK27 => ?_
  refine qpe 1 [(1, .func (.func 156) #[] #[pp b_2, pp b_3, pp b_4, pp b_5]), (4, pp b_10), (5, pp b_15), (9, vi v_22), (10, vi q_26), (11, .bool (decide (q_26 < v_22)))] hs fun a hs => hK27 _ _ ?_
  clear hK27
  refine Vk.seq fun K28 hK28 => ?_
  refine qcs (decide (q_26 < v_22)) hs (fun hb => ?_) fun hb => ?_
  · replace hm := bif_t hm hb
    refine wp_skip ?_
    refine hK28 _ _ ?_
    clear hK28
    refine Vk.seq fun K29 hK29 => ?_
    refine wp_block ?_
    refine qsr fun K30 hK30 => ?_
    refine qpe 2 [(1, .func (.func 156) #[] #[pp b_2, pp b_3, pp b_4, pp b_5]), (4, pp b_10), (5, pp b_15), (6, vi q_26), (9, vi v_22), (10, vi q_26)] hs fun a hs => hK30 _ _ ?_
    clear hK30
    refine Vk.region ?_
    refine qpu 3 hs fun a hs => ?_
    refine Vk.step (Vk.call (some 16) 156 #[vi q_26, pp b_2, pp b_3, pp b_4, pp b_5] hs (by kernel_rfl) (by kernel_rfl) (by kernel_rfl) ?_)
    refine Vk.enterI [(0, vi q_26), (1, pp b_2), (2, pp b_3), (3, pp b_4), (4, pp b_5)] Try.func156 rfl Try.ntmps156 (by kernel_rfl) (Nat.le_of_ble_eq_true (by kernel_rfl)) hs.own fun KR31 hKR31 hKP31 a hs => ?_
    refine qsr fun K32 hK32 => ?_
    refine qpe 1 [(0, vi q_26), (1, pp b_2), (2, pp b_3), (3, pp b_4), (4, pp b_5)] hs fun a hs => hK32 _ _ ?_
    clear hK32
    refine Vk.seq fun K33 hK33 => ?_
    obtain ⟨C_34, hC_34⟩ : ∃ X0 : List HP, X0 = (pt b_2 (blk [cp b_x0] 41) :: Twire_Machine.own b_x0 q_24 :: pt b_3 (blk [ci x1] 3) :: pt b_4 (blk x2 28) :: pt b_5 (blk [cw x3] 32) :: pt b_10 (blk [ci 0, ci 0, ci 0] 28) :: pt b_15 (blk q_25 28) :: pt b_6 (blk [ci 0, ci 0, ci 0] 28) :: S) := ⟨_, rfl⟩
    refine qdr 8 κ C_34 hs fun w hs hqC_34 => ?_
    have hcz : Own κ w (pt b_2 (blk [cp b_x0] 41) :: Twire_Machine.own b_x0 q_24 :: pt b_3 (blk [ci x1] 3) :: pt b_4 (blk x2 28) :: pt b_5 (blk [cw x3] 32) :: pt b_10 (blk [ci 0, ci 0, ci 0] 28) :: pt b_15 (blk q_25 28) :: pt b_6 (blk [ci 0, ci 0, ci 0] 28) :: S) := (Own.to hs.own [0, 1, 2, 3, 4, 5, 6, 7] 8 (by kernel_rfl) (by kernel_rfl))
    have hcl : Own κ w C_34 := by rw [hC_34]; exact hcz
    refine qdp (fuel := 7) [2, 3, 4] hs hcl hqC_34 fun a hs => ?_
    refine qdl 0 0 (cp b_x0) hs hcl hqC_34 hC_34 rfl fun a hs => ?_
    refine qdl 1 2 (ci x1) hs hcl hqC_34 hC_34 rfl fun a hs => ?_
    obtain ⟨h_35, hm⟩ := ite_t hm
    refine Vk.dTakeT (i := 5) (some 12) (.pointer (some ⟨b_4, 0 + q_26.toNat * 1, none⟩)) hs (by kernel_rfl) hqC_34 hcl (by kernel_rfl) (by kernel_rfl) (op := (.indexAddr 26 (.tmp 11) (.tmp 10))) (by kernel_rfl) (by kernel_rfl) (fun w hw o ho => by rw [hC_34] at hw; exact run_idxArr (k := .i64) ho (by kernel_rfl) (by kernel_rfl) (by kernel_rfl) h_35 _) fun a hs => ?_
    obtain ⟨v_37, h_36, hm⟩ := bind_t hm
    refine Vk.dTakeT (i := 6) (some 13) (vi v_37) hs (by kernel_rfl) hqC_34 hcl (by kernel_rfl) (by kernel_rfl) (op := (.load 3 (.tmp 12))) (by kernel_rfl) (by kernel_rfl) (fun w hw o ho => by rw [hC_34] at hw; exact run_load1 (c := ci v_37) ho (by kernel_rfl) (by kernel_rfl) (Cell.own 3 rfl (getI_some h_36)) _ hw) fun a hs => ?_
    refine qdl 7 4 (cw x3) hs hcl hqC_34 hC_34 rfl fun a hs => ?_
    obtain ⟨v_40, h_39, hm⟩ := bind_t hm
    refine Vk.dOnly (i := 8) (by kernel_rfl) (Vk.call (some 15) 155 #[pp b_x0, vi x1, vi q_26, vi v_37, vw x3] hs (by kernel_rfl) (by kernel_rfl) (by kernel_rfl) ?_)
    refine (wire_Machine_One.ok k q_24 x1 q_26 v_37 x3 v_40 h_39 κ w (pt b_2 (blk [cp b_x0] 41) :: pt b_3 (blk [ci x1] 3) :: pt b_4 (blk x2 28) :: pt b_5 (blk [cw x3] 32) :: pt b_10 (blk [ci 0, ci 0, ci 0] 28) :: pt b_15 (blk q_25 28) :: pt b_6 (blk [ci 0, ci 0, ci 0] 28) :: S) b_x0 (Own.to hs.own [1, 0, 2, 3, 4, 5, 6, 7] 8 (by kernel_rfl) (by kernel_rfl))).mono ?_
    rintro _ w ⟨rfl, how⟩
    refine ⟨_, _, _, rfl, how, fun a hs => ?_⟩
    refine ⟨fun h => absurd h (by decide), ?_⟩
    refine Vk.dOnly (i := 9) (by kernel_rfl) (Vk.dPure1 [(6, vi v_40.1)] hs (by kernel_rfl) fun a hs => ?_)
    refine ⟨fun h => absurd h (by decide), ?_⟩
    replace hs := hs.pick [6] (L' := [(6, vi v_40.1)]) (by kernel_rfl)
    refine Vk.dDone (by kernel_rfl) ?_
    refine hK33 _ _ ?_
    clear hK33
    refine wp_ret ?_
    refine hKP31 _ _ ?_
    refine hKR31 _ _ ?_
    refine Vk.ret1 (P := Try.prog) (fn := Try.f156) (vi v_40.1) hs rfl (by kernel_rfl) ⟨_, _, _, rfl, hs.own, fun a hs => ?_⟩
    refine qpu 1 hs fun a hs => ?_
    obtain ⟨h_41, hm⟩ := ite_t hm
    refine Vk.step (Vk.value (some 18) (.pointer (some ⟨b_15, 0 + q_26.toNat * 1, none⟩)) hs (by kernel_rfl) (op := (.indexAddr 26 (.tmp 17) (.tmp 13))) (by kernel_rfl) (fun o ho => run_idxArr (k := .i64) ho (by kernel_rfl) (by kernel_rfl) (by kernel_rfl) h_41 _) fun a hs => ?_)
    obtain ⟨h_42, hm⟩ := ite_t hm
    refine Vk.step (Vk.store1 (b := b_15) (ty := 3) (x := (.tmp 18)) (y := (.tmp 16)) (off := 0 + q_26.toNat * 1) (ci v_40.1) 6 hs (by kernel_rfl) (by kernel_rfl) (by kernel_rfl) (by kernel_rfl) (by kernel_rfl) (by kernel_rfl) rfl h_42 fun a w hs => ?_)
    refine qpe 0 [(1, .func (.func 156) #[] #[pp b_2, pp b_3, pp b_4, pp b_5]), (4, pp b_10), (5, pp b_15), (9, vi v_22), (10, vi q_26)] hs fun a hs => hK29 _ _ ?_
    clear hK29
    refine Vk.region ?_
    refine qpe 2 [(1, .func (.func 156) #[] #[pp b_2, pp b_3, pp b_4, pp b_5]), (4, pp b_10), (5, pp b_15), (9, vi v_22), (10, vi (IntKind.i64.wrap (q_26 + 1)))] hs fun a hs => ?_
    refine ih (v_40.2, (q_25.set (0 + q_26.toNat * 1) (ci v_40.1)), (IntKind.i64.wrap (q_26 + 1))) _ _ ⟨hm, hs.go [1, 4, 5, 9, 10] [1, 0, 2, 3, 4, 5, 6, 7] 8 (by kernel_rfl) (by kernel_rfl) (by kernel_rfl)⟩
  · replace hm := bif_f hm hb
    refine wp_exit ?_
    exact hx23 q_25 q_24 (Option.some.inj hm).symm _ _ (hs.go [4, 5] [5, 6, 1, 0, 2, 3, 4, 7] 8 (by kernel_rfl) (by kernel_rfl) (by kernel_rfl))


def visorref20_One.l1 (x1 : Int) (x2 : Cells) (x3 : Int) : Nat → Tvisorref19_M → Cells → Int → Option (Cells × Tvisorref19_M)
  | 0, _, _, _ => none
  | k + 1, q_13, q_14, q_15 => (bif decide (q_15 < q_13.n) then (if 0 ≤ q_15 ∧ q_15 < 3 then (getI .i64 x2 (0 + q_15.toNat * 1)).bind fun v_26 => (visorref19_Op.m k x1 q_15 v_26 (-1) x3).bind fun v_29 => (visorref19_M_Do.m k q_13 v_29 0).bind fun v_32 => (if 0 ≤ q_15 ∧ q_15 < 3 then (if 0 + q_15.toNat * 1 < q_14.length then visorref20_One.l1 x1 x2 x3 k v_32.2 (q_14.set (0 + q_15.toNat * 1) (ci v_32.1)) (IntKind.i64.wrap (q_15 + 1)) else none) else none) else none) else some (q_14, q_13))
abbrev visorref20_One.R (κ : Ctx) (S : List HP) (x0 : Tvisorref19_M) (x1 : Int) (x2 : Cells) (x3 : Int) (b_x0 : Nat) (r : (Cells × Tvisorref19_M)) : Ending → World → Prop := fun e w' => e = .returned (.agg (vals r.1)) ∧ Own κ w' (Tvisorref19_M.own κ b_x0 r.2 :: S)
def visorref20_One.m (k : Nat) (x0 : Tvisorref19_M) (x1 : Int) (x2 : Cells) (x3 : Int) : Option (Cells × Tvisorref19_M) := (visorref20_None.m k).bind fun v_7 => (if v_7.length = 3 then (visorref20_One.l1 x1 x2 x3 k x0 v_7 0).bind fun x => match x with | (p_35, p_36) => (if p_35.length = 3 then some (p_35, p_36) else none) else none)

set_option maxRecDepth 100000 in
set_option maxHeartbeats 4000000 in
theorem visorref20_One.ok (k : Nat) (x0 : Tvisorref19_M) (x1 : Int) (x2 : Cells) (x3 : Int) (r : (Cells × Tvisorref19_M)) (hm : visorref20_One.m k x0 x1 x2 x3 = some r) (κ : Ctx) (w : World) (S : List HP) (b_x0 : Nat) (ho : Own κ w (Tvisorref19_M.own κ b_x0 x0 :: S)) :
    Calls Try.prog 104 #[pp b_x0, vi x1, .agg (vals x2), vw x3] w (visorref20_One.R κ S x0 x1 x2 x3 b_x0 r) := by
  unfold visorref20_One.m at hm
  generalize hRR : visorref20_One.R κ S x0 x1 x2 x3 b_x0 r = RR
  refine qen [(0, pp b_x0), (1, vi x1), (2, .agg (vals x2)), (3, vw x3)] Try.func104 Try.ntmps104 ho fun a hs => ?_
  refine qsr fun K1 hK1 => ?_
  refine Vk.step (Vk.box (x := (.tmp 2)) 6 28 x2 hs (by kernel_rfl) (by kernel_rfl) (by kernel_rfl) fun b_2 w a hs => ?_)
  refine Vk.step (Vk.alloc 8 28 [ci 0, ci 0, ci 0] hs (by kernel_rfl) (by kernel_rfl) (by kernel_rfl) fun b_3 w a hs => ?_)
  refine qpe 0 [(0, pp b_x0), (1, vi x1), (3, vw x3), (6, pp b_2), (8, pp b_3)] hs fun a hs => hK1 _ _ ?_
  clear hK1
  refine qsr fun K4 hK4 => ?_
  obtain ⟨v_7, h_6, hm⟩ := bind_t hm
  refine Vk.step (Vk.call (some 11) 83 #[] hs (by kernel_rfl) (by kernel_rfl) (by kernel_rfl) ?_)
  refine (visorref20_None.ok k v_7 h_6 κ w (pt b_3 (blk [ci 0, ci 0, ci 0] 28) :: pt b_2 (blk x2 28) :: Tvisorref19_M.own κ b_x0 x0 :: S) hs.own).mono ?_
  rintro _ w ⟨rfl, how⟩
  refine ⟨_, _, _, rfl, how, fun a hs => ?_⟩
  refine Vk.step (Vk.alloc 9 28 [ci 0, ci 0, ci 0] hs (by kernel_rfl) (by kernel_rfl) (by kernel_rfl) fun b_8 w a hs => ?_)
  obtain ⟨h_9, hm⟩ := ite_t hm
  refine Vk.step (Vk.storeA (b := b_8) (ty := 28) (x := (.tmp 9)) (y := (.tmp 11)) (sz := 3) v_7 0 hs (by kernel_rfl) (by kernel_rfl) (by kernel_rfl) (by kernel_rfl) (by kernel_rfl) h_9 (by kernel_rfl) rfl (Eq.trans (b := 3) h_9 (Eq.symm rfl)) fun a w hs => ?_)
  refine qpe 0 [(0, pp b_x0), (1, vi x1), (3, vw x3), (6, pp b_2), (8, pp b_3), (9, pp b_8)] hs fun a hs => hK4 _ _ ?_
  clear hK4
  refine Vk.seq fun K10 hK10 => ?_
  refine qsr fun K11 hK11 => ?_
  refine qpe 1 [(0, pp b_x0), (1, vi x1), (3, vw x3), (6, pp b_2), (8, pp b_3), (9, pp b_8), (10, vi 0)] hs fun a hs => hK11 _ _ ?_
  clear hK11
  refine wp_block ?_
  obtain ⟨r12, hl12, hm⟩ := bind_t hm
  have hx12 : ∀ (p_35 : Cells) (p_36 : Tvisorref19_M), r12 = (p_35, p_36) → ∀ (a : Act) (w : World), St 34 a w κ [(8, pp b_3), (9, pp b_8)] (pt b_3 (blk [ci 0, ci 0, ci 0] 28) :: pt b_8 (blk p_35 28) :: Tvisorref19_M.own κ b_x0 p_36 :: S) → K10 a w := by
    intro p_35 p_36 he a w hs
    subst r12
    refine hK10 _ _ ?_
    clear hK10
    refine qsr fun K40 hK40 => ?_
    obtain ⟨h_41, hm⟩ := ite_t hm
    refine Vk.step (Vk.value (some 33) (.agg (vals p_35)) hs (by kernel_rfl) (op := (.load 28 (.tmp 9))) (by kernel_rfl) (fun o ho => run_loadN (cs := p_35) ho (by kernel_rfl) (by kernel_rfl) h_41 (CellsAt.all 1 rfl) _ hs.own) fun a hs => ?_)
    refine Vk.step (Vk.storeA (b := b_3) (ty := 28) (x := (.tmp 8)) (y := (.tmp 33)) (sz := 3) p_35 0 hs (by kernel_rfl) (by kernel_rfl) (by kernel_rfl) (by kernel_rfl) (by kernel_rfl) h_41 (by kernel_rfl) rfl (Eq.trans (b := 3) h_41 (Eq.symm rfl)) fun a w hs => ?_)
    refine qpe 0 [(8, pp b_3)] hs fun a hs => hK40 _ _ ?_
    clear hK40
    refine wp_ret ?_
    exact Vk.retC (P := Try.prog) (fn := Try.f104) (R := RR) p_35 hs rfl (by kernel_rfl) (sz := 3) (by kernel_rfl) h_41 (CellsAt.all 0 rfl) (by obtain rfl := Option.some.inj hm; subst hRR; exact ⟨rfl, (Own.to hs.own [2] 3 (by kernel_rfl) (by kernel_rfl))⟩)
  refine Vk.loopBy (fun k (s : Tvisorref19_M × Cells × Int) a w => visorref20_One.l1 x1 x2 x3 k s.1 s.2.1 s.2.2 = some r12 ∧ St 34 a w κ [(0, pp b_x0), (1, vi x1), (3, vw x3), (6, pp b_2), (8, pp b_3), (9, pp b_8), (10, vi s.2.2)] (Tvisorref19_M.own κ b_x0 s.1 :: pt b_2 (blk x2 28) :: pt b_3 (blk [ci 0, ci 0, ci 0] 28) :: pt b_8 (blk s.2.1 28) :: S)) k (x0, v_7, 0) ⟨hl12, hs.go [0, 1, 3, 6, 8, 9, 10] [3, 2, 1, 0] 4 (by kernel_rfl) (by kernel_rfl) (by kernel_rfl)⟩ (fun s a w h => by obtain ⟨h1, _⟩ := h; simp [visorref20_One.l1] at h1) (fun k KL12 ih s a w h => ?_)
  obtain ⟨q_13, q_14, q_15⟩ := s
  obtain ⟨hm, hs⟩ := h
  try dsimp only at hm hs
  rw [visorref20_One.l1] at hm
  refine Vk.seq fun K16 hK16 => ?_
  refine qsr fun K17 hK17 => ?_
  refine qpu 4 hs fun a hs => ?_
  obtain ⟨g_18, hs⟩ := hs.unbag 0 rfl
  refine qld 0 (ci q_13.n) hs rfl fun a hs => ?_
  refine qpe 1 [(0, pp b_x0), (1, vi x1), (3, vw x3), (6, pp b_2), (8, pp b_3), (9, pp b_8), (10, vi q_15), (17, .bool (decide (q_15 < q_13.n)))] hs fun a hs => hK17 _ _ ?_
  clear hK17
  refine qcs (decide (q_15 < q_13.n)) hs (fun hb => ?_) fun hb => ?_
  · replace hm := bif_t hm hb
    refine wp_skip ?_
    refine hK16 _ _ ?_
    clear hK16
    refine Vk.seq fun K23 hK23 => ?_
    refine wp_block ?_
    refine Vk.region ?_
    refine qpu 6 hs fun a hs => ?_
    obtain ⟨h_24, hm⟩ := ite_t hm
    refine Vk.step (Vk.value (some 26) (.pointer (some ⟨b_2, 0 + q_15.toNat * 1, none⟩)) hs (by kernel_rfl) (op := (.indexAddr 26 (.tmp 25) (.tmp 24))) (by kernel_rfl) (fun o ho => run_idxArr (k := .i64) ho (by kernel_rfl) (by kernel_rfl) (by kernel_rfl) h_24 _) fun a hs => ?_)
    obtain ⟨v_26, h_25, hm⟩ := bind_t hm
    refine Vk.step (Vk.value (some 27) (vi v_26) hs (by kernel_rfl) (op := (.load 3 (.tmp 26))) (by kernel_rfl) (fun o ho => run_load1 (c := ci v_26) ho (by kernel_rfl) (by kernel_rfl) (Cell.own 5 rfl (getI_some h_25)) _ hs.own) fun a hs => ?_)
    refine qpu 1 hs fun a hs => ?_
    obtain ⟨v_29, h_28, hm⟩ := bind_t hm
    refine Vk.step (Vk.call (some 29) 123 #[vi x1, vi q_15, vi v_26, vi (-1), vw x3] hs (by kernel_rfl) (by kernel_rfl) (by kernel_rfl) ?_)
    refine (visorref19_Op.ok k x1 q_15 v_26 (-1) x3 v_29 h_28 κ w (pt b_x0 (blk (Tvisorref19_M.obj q_13 g_18.1 g_18.2.1 g_18.2.2.1 g_18.2.2.2.1 g_18.2.2.2.2.1 g_18.2.2.2.2.2.1 g_18.2.2.2.2.2.2.1 g_18.2.2.2.2.2.2.2) 64) :: rowp g_18.1 g_18.2.1 93 6 Tapi_Op.cells q_13.ops :: rowp g_18.2.2.1 g_18.2.2.2.1 175 3 Tapi_Span.cells q_13.blocks :: rowp g_18.2.2.2.2.1 g_18.2.2.2.2.2.1 32 1 (eI .u64) q_13.val :: rdp κ g_18.2.2.2.2.2.2.1 g_18.2.2.2.2.2.2.2 1 (eI .u64) q_13.tape.l :: pt b_2 (blk x2 28) :: pt b_3 (blk [ci 0, ci 0, ci 0] 28) :: pt b_8 (blk q_14 28) :: S) hs.own).mono ?_
    rintro _ w ⟨rfl, how⟩
    refine ⟨_, _, _, rfl, how, fun a hs => ?_⟩
    replace hs := hs.bagG (l := Tvisorref19_M.parts κ b_x0 q_13 g_18) (S' := pt b_2 (blk x2 28) :: pt b_3 (blk [ci 0, ci 0, ci 0] 28) :: pt b_8 (blk q_14 28) :: S) (Own.to hs.own [0, 1, 2, 3, 4, 5, 6, 7] 8 (by kernel_rfl) (by kernel_rfl))
    replace hs := hs.toEx (Tvisorref19_M.parts κ b_x0 q_13) g_18 0 rfl
    obtain ⟨v_32, h_31, hm⟩ := bind_t hm
    refine Vk.step (Vk.call (some 30) 55 #[pp b_x0, .agg (vals [ci v_29.kind, ci v_29.dom, ci v_29.a, ci v_29.b, ci v_29.d, cw v_29.c]), vw 0] hs (by kernel_rfl) (by kernel_rfl) (by kernel_rfl) ?_)
    refine (visorref19_M_Do.ok k q_13 v_29 0 v_32 h_31 κ w (pt b_2 (blk x2 28) :: pt b_3 (blk [ci 0, ci 0, ci 0] 28) :: pt b_8 (blk q_14 28) :: S) b_x0 (Own.to hs.own [0, 1, 2, 3] 4 (by kernel_rfl) (by kernel_rfl))).mono ?_
    rintro _ w ⟨rfl, how⟩
    refine ⟨_, _, _, rfl, how, fun a hs => ?_⟩
    refine qpu 1 hs fun a hs => ?_
    obtain ⟨h_33, hm⟩ := ite_t hm
    refine Vk.step (Vk.value (some 32) (.pointer (some ⟨b_8, 0 + q_15.toNat * 1, none⟩)) hs (by kernel_rfl) (op := (.indexAddr 26 (.tmp 31) (.tmp 20))) (by kernel_rfl) (fun o ho => run_idxArr (k := .i64) ho (by kernel_rfl) (by kernel_rfl) (by kernel_rfl) h_33 _) fun a hs => ?_)
    obtain ⟨h_34, hm⟩ := ite_t hm
    refine Vk.step (Vk.store1 (b := b_8) (ty := 3) (x := (.tmp 32)) (y := (.tmp 30)) (off := 0 + q_15.toNat * 1) (ci v_32.1) 3 hs (by kernel_rfl) (by kernel_rfl) (by kernel_rfl) (by kernel_rfl) (by kernel_rfl) (by kernel_rfl) rfl h_34 fun a w hs => ?_)
    refine qpe 0 [(0, pp b_x0), (1, vi x1), (3, vw x3), (6, pp b_2), (8, pp b_3), (9, pp b_8), (10, vi q_15)] hs fun a hs => hK23 _ _ ?_
    clear hK23
    refine Vk.region ?_
    refine qpe 3 [(0, pp b_x0), (1, vi x1), (3, vw x3), (6, pp b_2), (8, pp b_3), (9, pp b_8), (10, vi (IntKind.i64.wrap (q_15 + 1)))] hs fun a hs => ?_
    refine ih (v_32.2, (q_14.set (0 + q_15.toNat * 1) (ci v_32.1)), (IntKind.i64.wrap (q_15 + 1))) _ _ ⟨hm, hs.go [0, 1, 3, 6, 8, 9, 10] [0, 1, 2, 3] 4 (by kernel_rfl) (by kernel_rfl) (by kernel_rfl)⟩
  · replace hm := bif_f hm hb
    refine wp_exit ?_
    replace hs := hs.bagG (l := Tvisorref19_M.parts κ b_x0 q_13 g_18) (S' := pt b_2 (blk x2 28) :: pt b_3 (blk [ci 0, ci 0, ci 0] 28) :: pt b_8 (blk q_14 28) :: S) (Own.to hs.own [0, 1, 2, 3, 4, 5, 6, 7] 8 (by kernel_rfl) (by kernel_rfl))
    replace hs := hs.toEx (Tvisorref19_M.parts κ b_x0 q_13) g_18 0 rfl
    exact hx12 q_14 q_13 (Option.some.inj hm).symm _ _ (hs.go [8, 9] [2, 3, 0] 4 (by kernel_rfl) (by kernel_rfl) (by kernel_rfl))


abbrev visorlaw20_moved.R (κ : Ctx) (S : List HP) (x0 : Int) (x1 : Int) (x2 : Int) (r : Int) : Ending → World → Prop := fun e w' => e = .returned (vw r) ∧ Own κ w' (S)
def visorlaw20_moved.m (k : Nat) (x0 : Int) (x1 : Int) (x2 : Int) : Option Int := (bif x0 == 8 then some (band .u64 x1 x2) else (bif x0 == 9 then (if 0 ≤ x2 then some (shl .u64 x1 x2) else none) else (bif x0 == 10 then (if 0 ≤ x2 then some (shr .u64 x1 x2) else none) else (bif x2 == 0 then some x1 else (if 0 ≤ x2 then (if 0 ≤ IntKind.u64.wrap (64 - x2) then some (bor .u64 (shl .u64 x1 x2) (shr .u64 x1 (IntKind.u64.wrap (64 - x2)))) else none) else none)))))

set_option maxRecDepth 100000 in
set_option maxHeartbeats 4000000 in
theorem visorlaw20_moved.ok (k : Nat) (x0 : Int) (x1 : Int) (x2 : Int) (r : Int) (hm : visorlaw20_moved.m k x0 x1 x2 = some r) (κ : Ctx) (w : World) (S : List HP) (ho : Own κ w (S)) :
    Calls Try.prog 105 #[vi x0, vw x1, vw x2] w (visorlaw20_moved.R κ S x0 x1 x2 r) := by
  unfold visorlaw20_moved.m at hm
  generalize hRR : visorlaw20_moved.R κ S x0 x1 x2 r = RR
  refine qen [(0, vi x0), (1, vw x1), (2, vw x2)] Try.func105 Try.ntmps105 ho fun a hs => ?_
  refine qsr fun K1 hK1 => ?_
  refine qpe 1 [(0, vi x0), (1, vw x1), (2, vw x2)] hs fun a hs => hK1 _ _ ?_
  clear hK1
  refine Vk.seq fun K2 hK2 => ?_
  refine qsr fun K3 hK3 => ?_
  refine qpe 1 [(1, vw x1), (2, vw x2), (7, vi x0)] hs fun a hs => hK3 _ _ ?_
  clear hK3
  refine wp_block ?_
  refine qsr fun K4 hK4 => ?_
  refine qpe 2 [(1, vw x1), (2, vw x2), (7, vi x0), (8, .bool (x0 == 8))] hs fun a hs => hK4 _ _ ?_
  clear hK4
  refine qcs (x0 == 8) hs (fun hb => ?_) fun hb => ?_
  · replace hm := bif_t hm hb
    refine qsr fun K5 hK5 => ?_
    refine qpe 4 [(6, vw (band .u64 x1 x2))] hs fun a hs => hK5 _ _ ?_
    clear hK5
    refine wp_ret ?_
    exact Vk.ret1 (P := Try.prog) (fn := Try.f105) (R := RR) (vw (band .u64 x1 x2)) hs rfl (by kernel_rfl) (by obtain rfl := Option.some.inj hm; subst hRR; exact ⟨rfl, (Own.to hs.own [] 0 (by kernel_rfl) (by kernel_rfl))⟩)
  · replace hm := bif_f hm hb
    refine qsr fun K6 hK6 => ?_
    refine qpe 2 [(1, vw x1), (2, vw x2), (7, vi x0), (13, .bool (x0 == 9))] hs fun a hs => hK6 _ _ ?_
    clear hK6
    refine qcs (x0 == 9) hs (fun hb => ?_) fun hb => ?_
    · replace hm := bif_t hm hb
      refine qsr fun K7 hK7 => ?_
      refine qpu 2 hs fun a hs => ?_
      obtain ⟨h_8, hm⟩ := ite_t hm
      refine Vk.step (Vk.value (some 17) (vw (shl .u64 x1 x2)) hs (by kernel_rfl) (op := (.binOp .shl 32 (.tmp 15) (.tmp 16) 24)) (by kernel_rfl) (fun o ho => run_shl (k' := .u64) ho (by kernel_rfl) (by kernel_rfl) h_8 _) fun a hs => ?_)
      refine qpe 1 [(6, vw (shl .u64 x1 x2))] hs fun a hs => hK7 _ _ ?_
      clear hK7
      refine wp_ret ?_
      exact Vk.ret1 (P := Try.prog) (fn := Try.f105) (R := RR) (vw (shl .u64 x1 x2)) hs rfl (by kernel_rfl) (by obtain rfl := Option.some.inj hm; subst hRR; exact ⟨rfl, (Own.to hs.own [] 0 (by kernel_rfl) (by kernel_rfl))⟩)
    · replace hm := bif_f hm hb
      refine qsr fun K9 hK9 => ?_
      refine qpe 2 [(1, vw x1), (2, vw x2), (18, .bool (x0 == 10))] hs fun a hs => hK9 _ _ ?_
      clear hK9
      refine qcs (x0 == 10) hs (fun hb => ?_) fun hb => ?_
      · replace hm := bif_t hm hb
        refine qsr fun K10 hK10 => ?_
        refine qpu 2 hs fun a hs => ?_
        obtain ⟨h_11, hm⟩ := ite_t hm
        refine Vk.step (Vk.value (some 22) (vw (shr .u64 x1 x2)) hs (by kernel_rfl) (op := (.binOp .shr 32 (.tmp 20) (.tmp 21) 24)) (by kernel_rfl) (fun o ho => run_shr (k' := .u64) ho (by kernel_rfl) (by kernel_rfl) h_11 _) fun a hs => ?_)
        refine qpe 1 [(6, vw (shr .u64 x1 x2))] hs fun a hs => hK10 _ _ ?_
        clear hK10
        refine wp_ret ?_
        exact Vk.ret1 (P := Try.prog) (fn := Try.f105) (R := RR) (vw (shr .u64 x1 x2)) hs rfl (by kernel_rfl) (by obtain rfl := Option.some.inj hm; subst hRR; exact ⟨rfl, (Own.to hs.own [] 0 (by kernel_rfl) (by kernel_rfl))⟩)
      · replace hm := bif_f hm hb
        refine wp_skip ?_
        refine hK2 _ _ ?_
        clear hK2
        refine Vk.seq fun K12 hK12 => ?_
        refine qsr fun K13 hK13 => ?_
        refine qpe 2 [(1, vw x1), (2, vw x2), (24, .bool (x2 == 0))] hs fun a hs => hK13 _ _ ?_
        clear hK13
        refine qcs (x2 == 0) hs (fun hb => ?_) fun hb => ?_
        · replace hm := bif_t hm hb
          refine qsr fun K14 hK14 => ?_
          refine qpe 2 [(6, vw x1)] hs fun a hs => hK14 _ _ ?_
          clear hK14
          refine wp_ret ?_
          exact Vk.ret1 (P := Try.prog) (fn := Try.f105) (R := RR) (vw x1) hs rfl (by kernel_rfl) (by obtain rfl := Option.some.inj hm; subst hRR; exact ⟨rfl, (Own.to hs.own [] 0 (by kernel_rfl) (by kernel_rfl))⟩)
        · replace hm := bif_f hm hb
          refine wp_skip ?_
          refine hK12 _ _ ?_
          clear hK12
          refine qsr fun K15 hK15 => ?_
          refine qpu 2 hs fun a hs => ?_
          obtain ⟨h_16, hm⟩ := ite_t hm
          refine Vk.step (Vk.value (some 28) (vw (shl .u64 x1 x2)) hs (by kernel_rfl) (op := (.binOp .shl 32 (.tmp 26) (.tmp 27) 24)) (by kernel_rfl) (fun o ho => run_shl (k' := .u64) ho (by kernel_rfl) (by kernel_rfl) h_16 _) fun a hs => ?_)
          refine qpu 3 hs fun a hs => ?_
          obtain ⟨h_17, hm⟩ := ite_t hm
          refine Vk.step (Vk.value (some 32) (vw (shr .u64 x1 (IntKind.u64.wrap (64 - x2)))) hs (by kernel_rfl) (op := (.binOp .shr 32 (.tmp 29) (.tmp 31) 24)) (by kernel_rfl) (fun o ho => run_shr (k' := .u64) ho (by kernel_rfl) (by kernel_rfl) h_17 _) fun a hs => ?_)
          refine qpe 2 [(6, vw (bor .u64 (shl .u64 x1 x2) (shr .u64 x1 (IntKind.u64.wrap (64 - x2)))))] hs fun a hs => hK15 _ _ ?_
          clear hK15
          refine wp_ret ?_
          exact Vk.ret1 (P := Try.prog) (fn := Try.f105) (R := RR) (vw (bor .u64 (shl .u64 x1 x2) (shr .u64 x1 (IntKind.u64.wrap (64 - x2))))) hs rfl (by kernel_rfl) (by obtain rfl := Option.some.inj hm; subst hRR; exact ⟨rfl, (Own.to hs.own [] 0 (by kernel_rfl) (by kernel_rfl))⟩)


abbrev wire_Machine_Const.R (κ : Ctx) (S : List HP) (x0 : Twire_Machine) (x1 : Int) (x2 : Int) (b_x0 : Nat) (r : (Int × Twire_Machine)) : Ending → World → Prop := fun e w' => e = .returned (vi r.1) ∧ Own κ w' (Twire_Machine.own b_x0 r.2 :: S)
def wire_Machine_Const.m (k : Nat) (x0 : Twire_Machine) (x1 : Int) (x2 : Int) : Option (Int × Twire_Machine) := (wire_Machine_Do.m k x0 (⟨3, x1, (-1), (-1), (-1), x2⟩ : Tapi_Op) 0).bind fun v_5 => some (v_5.1, v_5.2)

set_option maxRecDepth 100000 in
set_option maxHeartbeats 4000000 in
theorem wire_Machine_Const.ok (k : Nat) (x0 : Twire_Machine) (x1 : Int) (x2 : Int) (r : (Int × Twire_Machine)) (hm : wire_Machine_Const.m k x0 x1 x2 = some r) (κ : Ctx) (w : World) (S : List HP) (b_x0 : Nat) (ho : Own κ w (Twire_Machine.own b_x0 x0 :: S)) :
    Calls Try.prog 84 #[pp b_x0, vi x1, vw x2] w (wire_Machine_Const.R κ S x0 x1 x2 b_x0 r) := by
  unfold wire_Machine_Const.m at hm
  generalize hRR : wire_Machine_Const.R κ S x0 x1 x2 b_x0 r = RR
  refine qen [(0, pp b_x0), (1, vi x1), (2, vw x2)] Try.func84 Try.ntmps84 ho fun a hs => ?_
  refine qsr fun K1 hK1 => ?_
  refine qpe 1 [(0, pp b_x0), (1, vi x1), (2, vw x2)] hs fun a hs => hK1 _ _ ?_
  clear hK1
  refine qsr fun K2 hK2 => ?_
  refine qpu 4 hs fun a hs => ?_
  obtain ⟨v_5, h_4, hm⟩ := bind_t hm
  refine Vk.step (Vk.call (some 11) 147 #[pp b_x0, .agg (vals [ci 3, ci x1, ci (-1), ci (-1), ci (-1), cw x2]), vw 0] hs (by kernel_rfl) (by kernel_rfl) (by kernel_rfl) ?_)
  refine (wire_Machine_Do.ok k x0 (⟨3, x1, (-1), (-1), (-1), x2⟩ : Tapi_Op) 0 v_5 h_4 κ w (S) b_x0 (Own.to hs.own [0] 1 (by kernel_rfl) (by kernel_rfl))).mono ?_
  rintro _ w ⟨rfl, how⟩
  refine ⟨_, _, _, rfl, how, fun a hs => ?_⟩
  refine qpe 1 [(6, vi v_5.1)] hs fun a hs => hK2 _ _ ?_
  clear hK2
  refine wp_ret ?_
  exact Vk.ret1 (P := Try.prog) (fn := Try.f84) (R := RR) (vi v_5.1) hs rfl (by kernel_rfl) (by obtain rfl := Option.some.inj hm; subst hRR; exact ⟨rfl, (Own.to hs.own [0] 1 (by kernel_rfl) (by kernel_rfl))⟩)


abbrev wire_Machine_Two.R (κ : Ctx) (S : List HP) (x0 : Twire_Machine) (x1 : Int) (x2 : Int) (x3 : Int) (x4 : Int) (b_x0 : Nat) (r : (Int × Twire_Machine)) : Ending → World → Prop := fun e w' => e = .returned (vi r.1) ∧ Own κ w' (Twire_Machine.own b_x0 r.2 :: S)
def wire_Machine_Two.m (k : Nat) (x0 : Twire_Machine) (x1 : Int) (x2 : Int) (x3 : Int) (x4 : Int) : Option (Int × Twire_Machine) := (wire_Machine_Do.m k x0 (⟨x1, x2, x3, x4, (-1), 0⟩ : Tapi_Op) 0).bind fun v_5 => some (v_5.1, v_5.2)

set_option maxRecDepth 100000 in
set_option maxHeartbeats 4000000 in
theorem wire_Machine_Two.ok (k : Nat) (x0 : Twire_Machine) (x1 : Int) (x2 : Int) (x3 : Int) (x4 : Int) (r : (Int × Twire_Machine)) (hm : wire_Machine_Two.m k x0 x1 x2 x3 x4 = some r) (κ : Ctx) (w : World) (S : List HP) (b_x0 : Nat) (ho : Own κ w (Twire_Machine.own b_x0 x0 :: S)) :
    Calls Try.prog 150 #[pp b_x0, vi x1, vi x2, vi x3, vi x4] w (wire_Machine_Two.R κ S x0 x1 x2 x3 x4 b_x0 r) := by
  unfold wire_Machine_Two.m at hm
  generalize hRR : wire_Machine_Two.R κ S x0 x1 x2 x3 x4 b_x0 r = RR
  refine qen [(0, pp b_x0), (1, vi x1), (2, vi x2), (3, vi x3), (4, vi x4)] Try.func150 Try.ntmps150 ho fun a hs => ?_
  refine qsr fun K1 hK1 => ?_
  refine qpe 1 [(0, pp b_x0), (1, vi x1), (2, vi x2), (3, vi x3), (4, vi x4)] hs fun a hs => hK1 _ _ ?_
  clear hK1
  refine qsr fun K2 hK2 => ?_
  refine qpu 6 hs fun a hs => ?_
  obtain ⟨v_5, h_4, hm⟩ := bind_t hm
  refine Vk.step (Vk.call (some 17) 147 #[pp b_x0, .agg (vals [ci x1, ci x2, ci x3, ci x4, ci (-1), cw 0]), vw 0] hs (by kernel_rfl) (by kernel_rfl) (by kernel_rfl) ?_)
  refine (wire_Machine_Do.ok k x0 (⟨x1, x2, x3, x4, (-1), 0⟩ : Tapi_Op) 0 v_5 h_4 κ w (S) b_x0 (Own.to hs.own [0] 1 (by kernel_rfl) (by kernel_rfl))).mono ?_
  rintro _ w ⟨rfl, how⟩
  refine ⟨_, _, _, rfl, how, fun a hs => ?_⟩
  refine qpe 1 [(10, vi v_5.1)] hs fun a hs => hK2 _ _ ?_
  clear hK2
  refine wp_ret ?_
  exact Vk.ret1 (P := Try.prog) (fn := Try.f150) (R := RR) (vi v_5.1) hs rfl (by kernel_rfl) (by obtain rfl := Option.some.inj hm; subst hRR; exact ⟨rfl, (Own.to hs.own [0] 1 (by kernel_rfl) (by kernel_rfl))⟩)


abbrev share_Add.R (κ : Ctx) (S : List HP) (x0 : Twire_Machine) (x1 : Cells) (x2 : Int) (b_x0 : Nat) (r : (Cells × Twire_Machine)) : Ending → World → Prop := fun e w' => e = .returned (.agg (vals r.1)) ∧ Own κ w' (Twire_Machine.own b_x0 r.2 :: S)
def share_Add.m (k : Nat) (x0 : Twire_Machine) (x1 : Cells) (x2 : Int) : Option (Cells × Twire_Machine) := (wire_Machine_Const.m k x0 0 x2).bind fun v_7 => (getI .i64 x1 (0)).bind fun v_10 => (wire_Machine_Two.m k v_7.2 5 0 v_10 v_7.1).bind fun v_13 => (if 0 < x1.length then (if (x1.set (0) (ci v_13.1)).length = 3 then some ((x1.set (0) (ci v_13.1)), v_13.2) else none) else none)

set_option maxRecDepth 100000 in
set_option maxHeartbeats 4000000 in
theorem share_Add.ok (k : Nat) (x0 : Twire_Machine) (x1 : Cells) (x2 : Int) (r : (Cells × Twire_Machine)) (hm : share_Add.m k x0 x1 x2 = some r) (κ : Ctx) (w : World) (S : List HP) (b_x0 : Nat) (ho : Own κ w (Twire_Machine.own b_x0 x0 :: S)) :
    Calls Try.prog 106 #[pp b_x0, .agg (vals x1), vw x2] w (share_Add.R κ S x0 x1 x2 b_x0 r) := by
  unfold share_Add.m at hm
  generalize hRR : share_Add.R κ S x0 x1 x2 b_x0 r = RR
  refine qen [(0, pp b_x0), (1, .agg (vals x1)), (2, vw x2)] Try.func106 Try.ntmps106 ho fun a hs => ?_
  refine qsr fun K1 hK1 => ?_
  refine Vk.step (Vk.box (x := (.tmp 1)) 4 28 x1 hs (by kernel_rfl) (by kernel_rfl) (by kernel_rfl) fun b_2 w a hs => ?_)
  refine Vk.step (Vk.alloc 6 28 [ci 0, ci 0, ci 0] hs (by kernel_rfl) (by kernel_rfl) (by kernel_rfl) fun b_3 w a hs => ?_)
  refine qpe 0 [(0, pp b_x0), (2, vw x2), (4, pp b_2), (6, pp b_3)] hs fun a hs => hK1 _ _ ?_
  clear hK1
  refine qsr fun K4 hK4 => ?_
  refine qpu 2 hs fun a hs => ?_
  obtain ⟨v_7, h_6, hm⟩ := bind_t hm
  refine Vk.step (Vk.call (some 10) 84 #[pp b_x0, vi 0, vw x2] hs (by kernel_rfl) (by kernel_rfl) (by kernel_rfl) ?_)
  refine (wire_Machine_Const.ok k x0 0 x2 v_7 h_6 κ w (pt b_3 (blk [ci 0, ci 0, ci 0] 28) :: pt b_2 (blk x1 28) :: S) b_x0 (Own.to hs.own [2, 0, 1] 3 (by kernel_rfl) (by kernel_rfl))).mono ?_
  rintro _ w ⟨rfl, how⟩
  refine ⟨_, _, _, rfl, how, fun a hs => ?_⟩
  refine qpe 1 [(0, pp b_x0), (4, pp b_2), (6, pp b_3), (7, vi v_7.1)] hs fun a hs => hK4 _ _ ?_
  clear hK4
  refine qsr fun K8 hK8 => ?_
  refine qpu 3 hs fun a hs => ?_
  obtain ⟨v_10, h_9, hm⟩ := bind_t hm
  refine Vk.step (Vk.value (some 14) (vi v_10) hs (by kernel_rfl) (op := (.load 3 (.tmp 13))) (by kernel_rfl) (fun o ho => run_load1 (c := ci v_10) ho (by kernel_rfl) (by kernel_rfl) (Cell.own 2 rfl (getI_some h_9)) _ hs.own) fun a hs => ?_)
  refine qpu 1 hs fun a hs => ?_
  obtain ⟨v_13, h_12, hm⟩ := bind_t hm
  refine Vk.step (Vk.call (some 16) 150 #[pp b_x0, vi 5, vi 0, vi v_10, vi v_7.1] hs (by kernel_rfl) (by kernel_rfl) (by kernel_rfl) ?_)
  refine (wire_Machine_Two.ok k v_7.2 5 0 v_10 v_7.1 v_13 h_12 κ w (pt b_3 (blk [ci 0, ci 0, ci 0] 28) :: pt b_2 (blk x1 28) :: S) b_x0 (Own.to hs.own [0, 1, 2] 3 (by kernel_rfl) (by kernel_rfl))).mono ?_
  rintro _ w ⟨rfl, how⟩
  refine ⟨_, _, _, rfl, how, fun a hs => ?_⟩
  refine qpu 2 hs fun a hs => ?_
  obtain ⟨h_14, hm⟩ := ite_t hm
  refine Vk.step (Vk.store1 (b := b_2) (ty := 3) (x := (.tmp 18)) (y := (.tmp 16)) (off := 0) (ci v_13.1) 2 hs (by kernel_rfl) (by kernel_rfl) (by kernel_rfl) (by kernel_rfl) (by kernel_rfl) (by kernel_rfl) rfl h_14 fun a w hs => ?_)
  refine qpe 0 [(4, pp b_2), (6, pp b_3)] hs fun a hs => hK8 _ _ ?_
  clear hK8
  refine qsr fun K15 hK15 => ?_
  obtain ⟨h_16, hm⟩ := ite_t hm
  refine Vk.step (Vk.value (some 19) (.agg (vals (x1.set (0) (ci v_13.1)))) hs (by kernel_rfl) (op := (.load 28 (.tmp 4))) (by kernel_rfl) (fun o ho => run_loadN (cs := (x1.set (0) (ci v_13.1))) ho (by kernel_rfl) (by kernel_rfl) h_16 (CellsAt.all 2 rfl) _ hs.own) fun a hs => ?_)
  refine Vk.step (Vk.storeA (b := b_3) (ty := 28) (x := (.tmp 6)) (y := (.tmp 19)) (sz := 3) (x1.set (0) (ci v_13.1)) 1 hs (by kernel_rfl) (by kernel_rfl) (by kernel_rfl) (by kernel_rfl) (by kernel_rfl) h_16 (by kernel_rfl) rfl (Eq.trans (b := 3) h_16 (Eq.symm rfl)) fun a w hs => ?_)
  refine qpe 0 [(6, pp b_3)] hs fun a hs => hK15 _ _ ?_
  clear hK15
  refine wp_ret ?_
  exact Vk.retC (P := Try.prog) (fn := Try.f106) (R := RR) (x1.set (0) (ci v_13.1)) hs rfl (by kernel_rfl) (sz := 3) (by kernel_rfl) h_16 (CellsAt.all 1 rfl) (by obtain rfl := Option.some.inj hm; subst hRR; exact ⟨rfl, (Own.to hs.own [0] 3 (by kernel_rfl) (by kernel_rfl))⟩)


abbrev visorref20_Add.R (κ : Ctx) (S : List HP) (x0 : Tvisorref19_M) (x1 : Int) (x2 : Cells) (x3 : Int) (b_x0 : Nat) (r : (Cells × Tvisorref19_M)) : Ending → World → Prop := fun e w' => e = .returned (.agg (vals r.1)) ∧ Own κ w' (Tvisorref19_M.own κ b_x0 r.2 :: S)
def visorref20_Add.m (k : Nat) (x0 : Tvisorref19_M) (x1 : Int) (x2 : Cells) (x3 : Int) : Option (Cells × Tvisorref19_M) := (visorref19_Op.m k x1 0 (-1) (-1) x3).bind fun v_7 => (visorref19_M_Do.m k x0 v_7 0).bind fun v_10 => (getI .i64 x2 (0)).bind fun v_13 => (visorref19_Op.m k 5 0 v_13 v_10.1 0).bind fun v_16 => (visorref19_M_Do.m k v_10.2 v_16 0).bind fun v_19 => (if 0 < x2.length then (if (x2.set (0) (ci v_19.1)).length = 3 then some ((x2.set (0) (ci v_19.1)), v_19.2) else none) else none)

set_option maxRecDepth 100000 in
set_option maxHeartbeats 4000000 in
theorem visorref20_Add.ok (k : Nat) (x0 : Tvisorref19_M) (x1 : Int) (x2 : Cells) (x3 : Int) (r : (Cells × Tvisorref19_M)) (hm : visorref20_Add.m k x0 x1 x2 x3 = some r) (κ : Ctx) (w : World) (S : List HP) (b_x0 : Nat) (ho : Own κ w (Tvisorref19_M.own κ b_x0 x0 :: S)) :
    Calls Try.prog 107 #[pp b_x0, vi x1, .agg (vals x2), vw x3] w (visorref20_Add.R κ S x0 x1 x2 x3 b_x0 r) := by
  unfold visorref20_Add.m at hm
  generalize hRR : visorref20_Add.R κ S x0 x1 x2 x3 b_x0 r = RR
  refine qen [(0, pp b_x0), (1, vi x1), (2, .agg (vals x2)), (3, vw x3)] Try.func107 Try.ntmps107 ho fun a hs => ?_
  refine qsr fun K1 hK1 => ?_
  refine Vk.step (Vk.box (x := (.tmp 2)) 6 28 x2 hs (by kernel_rfl) (by kernel_rfl) (by kernel_rfl) fun b_2 w a hs => ?_)
  refine Vk.step (Vk.alloc 8 28 [ci 0, ci 0, ci 0] hs (by kernel_rfl) (by kernel_rfl) (by kernel_rfl) fun b_3 w a hs => ?_)
  refine qpe 0 [(0, pp b_x0), (1, vi x1), (3, vw x3), (6, pp b_2), (8, pp b_3)] hs fun a hs => hK1 _ _ ?_
  clear hK1
  refine qsr fun K4 hK4 => ?_
  refine qpu 3 hs fun a hs => ?_
  obtain ⟨v_7, h_6, hm⟩ := bind_t hm
  refine Vk.step (Vk.call (some 13) 123 #[vi x1, vi 0, vi (-1), vi (-1), vw x3] hs (by kernel_rfl) (by kernel_rfl) (by kernel_rfl) ?_)
  refine (visorref19_Op.ok k x1 0 (-1) (-1) x3 v_7 h_6 κ w (pt b_3 (blk [ci 0, ci 0, ci 0] 28) :: pt b_2 (blk x2 28) :: Tvisorref19_M.own κ b_x0 x0 :: S) hs.own).mono ?_
  rintro _ w ⟨rfl, how⟩
  refine ⟨_, _, _, rfl, how, fun a hs => ?_⟩
  obtain ⟨v_10, h_9, hm⟩ := bind_t hm
  refine Vk.step (Vk.call (some 14) 55 #[pp b_x0, .agg (vals [ci v_7.kind, ci v_7.dom, ci v_7.a, ci v_7.b, ci v_7.d, cw v_7.c]), vw 0] hs (by kernel_rfl) (by kernel_rfl) (by kernel_rfl) ?_)
  refine (visorref19_M_Do.ok k x0 v_7 0 v_10 h_9 κ w (pt b_3 (blk [ci 0, ci 0, ci 0] 28) :: pt b_2 (blk x2 28) :: S) b_x0 (Own.to hs.own [2, 0, 1] 3 (by kernel_rfl) (by kernel_rfl))).mono ?_
  rintro _ w ⟨rfl, how⟩
  refine ⟨_, _, _, rfl, how, fun a hs => ?_⟩
  refine qpe 1 [(0, pp b_x0), (6, pp b_2), (8, pp b_3), (9, vi v_10.1)] hs fun a hs => hK4 _ _ ?_
  clear hK4
  refine qsr fun K11 hK11 => ?_
  refine qpu 3 hs fun a hs => ?_
  obtain ⟨v_13, h_12, hm⟩ := bind_t hm
  refine Vk.step (Vk.value (some 18) (vi v_13) hs (by kernel_rfl) (op := (.load 3 (.tmp 17))) (by kernel_rfl) (fun o ho => run_load1 (c := ci v_13) ho (by kernel_rfl) (by kernel_rfl) (Cell.own 2 rfl (getI_some h_12)) _ hs.own) fun a hs => ?_)
  refine qpu 1 hs fun a hs => ?_
  obtain ⟨v_16, h_15, hm⟩ := bind_t hm
  refine Vk.step (Vk.call (some 20) 123 #[vi 5, vi 0, vi v_13, vi v_10.1, vw 0] hs (by kernel_rfl) (by kernel_rfl) (by kernel_rfl) ?_)
  refine (visorref19_Op.ok k 5 0 v_13 v_10.1 0 v_16 h_15 κ w (Tvisorref19_M.own κ b_x0 v_10.2 :: pt b_3 (blk [ci 0, ci 0, ci 0] 28) :: pt b_2 (blk x2 28) :: S) hs.own).mono ?_
  rintro _ w ⟨rfl, how⟩
  refine ⟨_, _, _, rfl, how, fun a hs => ?_⟩
  obtain ⟨v_19, h_18, hm⟩ := bind_t hm
  refine Vk.step (Vk.call (some 21) 55 #[pp b_x0, .agg (vals [ci v_16.kind, ci v_16.dom, ci v_16.a, ci v_16.b, ci v_16.d, cw v_16.c]), vw 0] hs (by kernel_rfl) (by kernel_rfl) (by kernel_rfl) ?_)
  refine (visorref19_M_Do.ok k v_10.2 v_16 0 v_19 h_18 κ w (pt b_3 (blk [ci 0, ci 0, ci 0] 28) :: pt b_2 (blk x2 28) :: S) b_x0 (Own.to hs.own [0, 1, 2] 3 (by kernel_rfl) (by kernel_rfl))).mono ?_
  rintro _ w ⟨rfl, how⟩
  refine ⟨_, _, _, rfl, how, fun a hs => ?_⟩
  refine qpu 2 hs fun a hs => ?_
  obtain ⟨h_20, hm⟩ := ite_t hm
  refine Vk.step (Vk.store1 (b := b_2) (ty := 3) (x := (.tmp 23)) (y := (.tmp 21)) (off := 0) (ci v_19.1) 2 hs (by kernel_rfl) (by kernel_rfl) (by kernel_rfl) (by kernel_rfl) (by kernel_rfl) (by kernel_rfl) rfl h_20 fun a w hs => ?_)
  refine qpe 0 [(6, pp b_2), (8, pp b_3)] hs fun a hs => hK11 _ _ ?_
  clear hK11
  refine qsr fun K21 hK21 => ?_
  obtain ⟨h_22, hm⟩ := ite_t hm
  refine Vk.step (Vk.value (some 24) (.agg (vals (x2.set (0) (ci v_19.1)))) hs (by kernel_rfl) (op := (.load 28 (.tmp 6))) (by kernel_rfl) (fun o ho => run_loadN (cs := (x2.set (0) (ci v_19.1))) ho (by kernel_rfl) (by kernel_rfl) h_22 (CellsAt.all 2 rfl) _ hs.own) fun a hs => ?_)
  refine Vk.step (Vk.storeA (b := b_3) (ty := 28) (x := (.tmp 8)) (y := (.tmp 24)) (sz := 3) (x2.set (0) (ci v_19.1)) 1 hs (by kernel_rfl) (by kernel_rfl) (by kernel_rfl) (by kernel_rfl) (by kernel_rfl) h_22 (by kernel_rfl) rfl (Eq.trans (b := 3) h_22 (Eq.symm rfl)) fun a w hs => ?_)
  refine qpe 0 [(8, pp b_3)] hs fun a hs => hK21 _ _ ?_
  clear hK21
  refine wp_ret ?_
  exact Vk.retC (P := Try.prog) (fn := Try.f107) (R := RR) (x2.set (0) (ci v_19.1)) hs rfl (by kernel_rfl) (sz := 3) (by kernel_rfl) h_22 (CellsAt.all 1 rfl) (by obtain rfl := Option.some.inj hm; subst hRR; exact ⟨rfl, (Own.to hs.own [0] 3 (by kernel_rfl) (by kernel_rfl))⟩)


abbrev wire_Machine_Told.R (κ : Ctx) (S : List HP) (x0 : Twire_Machine) (x1 : Int) (x2 : Int) (b_x0 : Nat) (r : (Int × Twire_Machine)) : Ending → World → Prop := fun e w' => e = .returned (vi r.1) ∧ Own κ w' (Twire_Machine.own b_x0 r.2 :: S)
def wire_Machine_Told.m (k : Nat) (x0 : Twire_Machine) (x1 : Int) (x2 : Int) : Option (Int × Twire_Machine) := (wire_Machine_Do.m k x0 (⟨4, x1, (-1), (-1), (-1), x2⟩ : Tapi_Op) 0).bind fun v_5 => some (v_5.1, v_5.2)

set_option maxRecDepth 100000 in
set_option maxHeartbeats 4000000 in
theorem wire_Machine_Told.ok (k : Nat) (x0 : Twire_Machine) (x1 : Int) (x2 : Int) (r : (Int × Twire_Machine)) (hm : wire_Machine_Told.m k x0 x1 x2 = some r) (κ : Ctx) (w : World) (S : List HP) (b_x0 : Nat) (ho : Own κ w (Twire_Machine.own b_x0 x0 :: S)) :
    Calls Try.prog 153 #[pp b_x0, vi x1, vw x2] w (wire_Machine_Told.R κ S x0 x1 x2 b_x0 r) := by
  unfold wire_Machine_Told.m at hm
  generalize hRR : wire_Machine_Told.R κ S x0 x1 x2 b_x0 r = RR
  refine qen [(0, pp b_x0), (1, vi x1), (2, vw x2)] Try.func153 Try.ntmps153 ho fun a hs => ?_
  refine qsr fun K1 hK1 => ?_
  refine qpe 1 [(0, pp b_x0), (1, vi x1), (2, vw x2)] hs fun a hs => hK1 _ _ ?_
  clear hK1
  refine qsr fun K2 hK2 => ?_
  refine qpu 4 hs fun a hs => ?_
  obtain ⟨v_5, h_4, hm⟩ := bind_t hm
  refine Vk.step (Vk.call (some 11) 147 #[pp b_x0, .agg (vals [ci 4, ci x1, ci (-1), ci (-1), ci (-1), cw x2]), vw 0] hs (by kernel_rfl) (by kernel_rfl) (by kernel_rfl) ?_)
  refine (wire_Machine_Do.ok k x0 (⟨4, x1, (-1), (-1), (-1), x2⟩ : Tapi_Op) 0 v_5 h_4 κ w (S) b_x0 (Own.to hs.own [0] 1 (by kernel_rfl) (by kernel_rfl))).mono ?_
  rintro _ w ⟨rfl, how⟩
  refine ⟨_, _, _, rfl, how, fun a hs => ?_⟩
  refine qpe 1 [(6, vi v_5.1)] hs fun a hs => hK2 _ _ ?_
  clear hK2
  refine wp_ret ?_
  exact Vk.ret1 (P := Try.prog) (fn := Try.f153) (R := RR) (vi v_5.1) hs rfl (by kernel_rfl) (by obtain rfl := Option.some.inj hm; subst hRR; exact ⟨rfl, (Own.to hs.own [0] 1 (by kernel_rfl) (by kernel_rfl))⟩)


abbrev share_AddTold.R (κ : Ctx) (S : List HP) (x0 : Twire_Machine) (x1 : Cells) (x2 : Int) (b_x0 : Nat) (r : (Cells × Twire_Machine)) : Ending → World → Prop := fun e w' => e = .returned (.agg (vals r.1)) ∧ Own κ w' (Twire_Machine.own b_x0 r.2 :: S)
def share_AddTold.m (k : Nat) (x0 : Twire_Machine) (x1 : Cells) (x2 : Int) : Option (Cells × Twire_Machine) := (wire_Machine_Told.m k x0 0 x2).bind fun v_7 => (getI .i64 x1 (0)).bind fun v_10 => (wire_Machine_Two.m k v_7.2 5 0 v_10 v_7.1).bind fun v_13 => (if 0 < x1.length then (if (x1.set (0) (ci v_13.1)).length = 3 then some ((x1.set (0) (ci v_13.1)), v_13.2) else none) else none)

set_option maxRecDepth 100000 in
set_option maxHeartbeats 4000000 in
theorem share_AddTold.ok (k : Nat) (x0 : Twire_Machine) (x1 : Cells) (x2 : Int) (r : (Cells × Twire_Machine)) (hm : share_AddTold.m k x0 x1 x2 = some r) (κ : Ctx) (w : World) (S : List HP) (b_x0 : Nat) (ho : Own κ w (Twire_Machine.own b_x0 x0 :: S)) :
    Calls Try.prog 108 #[pp b_x0, .agg (vals x1), vw x2] w (share_AddTold.R κ S x0 x1 x2 b_x0 r) := by
  unfold share_AddTold.m at hm
  generalize hRR : share_AddTold.R κ S x0 x1 x2 b_x0 r = RR
  refine qen [(0, pp b_x0), (1, .agg (vals x1)), (2, vw x2)] Try.func108 Try.ntmps108 ho fun a hs => ?_
  refine qsr fun K1 hK1 => ?_
  refine Vk.step (Vk.box (x := (.tmp 1)) 4 28 x1 hs (by kernel_rfl) (by kernel_rfl) (by kernel_rfl) fun b_2 w a hs => ?_)
  refine Vk.step (Vk.alloc 6 28 [ci 0, ci 0, ci 0] hs (by kernel_rfl) (by kernel_rfl) (by kernel_rfl) fun b_3 w a hs => ?_)
  refine qpe 0 [(0, pp b_x0), (2, vw x2), (4, pp b_2), (6, pp b_3)] hs fun a hs => hK1 _ _ ?_
  clear hK1
  refine qsr fun K4 hK4 => ?_
  refine qpu 2 hs fun a hs => ?_
  obtain ⟨v_7, h_6, hm⟩ := bind_t hm
  refine Vk.step (Vk.call (some 10) 153 #[pp b_x0, vi 0, vw x2] hs (by kernel_rfl) (by kernel_rfl) (by kernel_rfl) ?_)
  refine (wire_Machine_Told.ok k x0 0 x2 v_7 h_6 κ w (pt b_3 (blk [ci 0, ci 0, ci 0] 28) :: pt b_2 (blk x1 28) :: S) b_x0 (Own.to hs.own [2, 0, 1] 3 (by kernel_rfl) (by kernel_rfl))).mono ?_
  rintro _ w ⟨rfl, how⟩
  refine ⟨_, _, _, rfl, how, fun a hs => ?_⟩
  refine qpe 1 [(0, pp b_x0), (4, pp b_2), (6, pp b_3), (7, vi v_7.1)] hs fun a hs => hK4 _ _ ?_
  clear hK4
  refine qsr fun K8 hK8 => ?_
  refine qpu 3 hs fun a hs => ?_
  obtain ⟨v_10, h_9, hm⟩ := bind_t hm
  refine Vk.step (Vk.value (some 14) (vi v_10) hs (by kernel_rfl) (op := (.load 3 (.tmp 13))) (by kernel_rfl) (fun o ho => run_load1 (c := ci v_10) ho (by kernel_rfl) (by kernel_rfl) (Cell.own 2 rfl (getI_some h_9)) _ hs.own) fun a hs => ?_)
  refine qpu 1 hs fun a hs => ?_
  obtain ⟨v_13, h_12, hm⟩ := bind_t hm
  refine Vk.step (Vk.call (some 16) 150 #[pp b_x0, vi 5, vi 0, vi v_10, vi v_7.1] hs (by kernel_rfl) (by kernel_rfl) (by kernel_rfl) ?_)
  refine (wire_Machine_Two.ok k v_7.2 5 0 v_10 v_7.1 v_13 h_12 κ w (pt b_3 (blk [ci 0, ci 0, ci 0] 28) :: pt b_2 (blk x1 28) :: S) b_x0 (Own.to hs.own [0, 1, 2] 3 (by kernel_rfl) (by kernel_rfl))).mono ?_
  rintro _ w ⟨rfl, how⟩
  refine ⟨_, _, _, rfl, how, fun a hs => ?_⟩
  refine qpu 2 hs fun a hs => ?_
  obtain ⟨h_14, hm⟩ := ite_t hm
  refine Vk.step (Vk.store1 (b := b_2) (ty := 3) (x := (.tmp 18)) (y := (.tmp 16)) (off := 0) (ci v_13.1) 2 hs (by kernel_rfl) (by kernel_rfl) (by kernel_rfl) (by kernel_rfl) (by kernel_rfl) (by kernel_rfl) rfl h_14 fun a w hs => ?_)
  refine qpe 0 [(4, pp b_2), (6, pp b_3)] hs fun a hs => hK8 _ _ ?_
  clear hK8
  refine qsr fun K15 hK15 => ?_
  obtain ⟨h_16, hm⟩ := ite_t hm
  refine Vk.step (Vk.value (some 19) (.agg (vals (x1.set (0) (ci v_13.1)))) hs (by kernel_rfl) (op := (.load 28 (.tmp 4))) (by kernel_rfl) (fun o ho => run_loadN (cs := (x1.set (0) (ci v_13.1))) ho (by kernel_rfl) (by kernel_rfl) h_16 (CellsAt.all 2 rfl) _ hs.own) fun a hs => ?_)
  refine Vk.step (Vk.storeA (b := b_3) (ty := 28) (x := (.tmp 6)) (y := (.tmp 19)) (sz := 3) (x1.set (0) (ci v_13.1)) 1 hs (by kernel_rfl) (by kernel_rfl) (by kernel_rfl) (by kernel_rfl) (by kernel_rfl) h_16 (by kernel_rfl) rfl (Eq.trans (b := 3) h_16 (Eq.symm rfl)) fun a w hs => ?_)
  refine qpe 0 [(6, pp b_3)] hs fun a hs => hK15 _ _ ?_
  clear hK15
  refine wp_ret ?_
  exact Vk.retC (P := Try.prog) (fn := Try.f108) (R := RR) (x1.set (0) (ci v_13.1)) hs rfl (by kernel_rfl) (sz := 3) (by kernel_rfl) h_16 (CellsAt.all 1 rfl) (by obtain rfl := Option.some.inj hm; subst hRR; exact ⟨rfl, (Own.to hs.own [0] 3 (by kernel_rfl) (by kernel_rfl))⟩)

structure Tvisorlaw20_Pair where
  m : Twire_Machine
  x : Tvisorref19_M
  l : List Cells
  v : List Int
  deriving Inhabited
def Tvisorlaw20_Pair.obj (x : Tvisorlaw20_Pair) (bm : Nat) (bx : Nat) (Al : Option Addr) (cl : Nat) (Av : Option Addr) (cv : Nat) : Cells := [C.ptr (some ⟨bm, 0, none⟩), C.ptr (some ⟨bx, 0, none⟩), C.slc Al x.l.length cl, C.slc Av x.v.length cv]

structure Tvisorlaw20_Act where
  kind : Int
  a : Int
  b : Int
  k : Int
  c : Int
  deriving Inhabited
def Tvisorlaw20_Act.cells (x : Tvisorlaw20_Act) : Cells := [C.int .i64 x.kind, C.int .i64 x.a, C.int .i64 x.b, C.int .i64 x.k, C.int .u64 x.c]

def visorlaw20_Pair_does.j5 (k : Nat) (p_184 : Cells) (p_185 : Cells) (p_186 : Int) (p_187 : Twire_Machine) (p_188 : Tvisorref19_M) : Option ((Cells × Int × Bool × Twire_Machine × Tvisorref19_M)) := (if p_184.length = 3 then (if p_185.length = 3 then (if Kinds ((List.replicate 3 [LK.int .i64]).flatten) p_184 then (if Kinds ((List.replicate 3 [LK.int .i64]).flatten) p_185 then some (p_184, p_186, ceq p_184 p_185, p_187, p_188) else none) else none) else none) else none)
def visorlaw20_Pair_does.j4 (k : Nat) (x0 : Tvisorlaw20_Pair) (v_51 : Int) (e_59 : Cells) (v_140 : Int) (p_144 : Int) : Option ((Cells × Int × Bool × Twire_Machine × Tvisorref19_M)) := (share_One.m k x0.m (IntKind.i64.wrap (8 + v_140)) e_59 p_144).bind fun v_149 => (visorref20_One.m k x0.x (IntKind.i64.wrap (8 + v_140)) e_59 p_144).bind fun v_152 => (if v_149.1.length = 3 then (if v_152.1.length = 3 then (if 0 ≤ v_51 then (x0.v[v_51.toNat]?).bind fun e_158 => (visorlaw20_moved.m k (IntKind.i64.wrap (8 + v_140)) e_158 p_144).bind fun v_164 => visorlaw20_Pair_does.j5 k v_149.1 v_152.1 v_164 v_149.2 v_152.2 else none) else none) else none)
def visorlaw20_Pair_does.j3 (k : Nat) (x0 : Tvisorlaw20_Pair) (p_8 : Tvisorlaw20_Act) : Option ((Cells × Int × Bool × Twire_Machine × Tvisorref19_M)) := (bif p_8.kind == 0 then (share_Encode.m k x0.m p_8.c).bind fun v_21 => (visorref20_Encode.m k x0.x p_8.c).bind fun v_24 => (if v_21.1.length = 3 then (if v_24.1.length = 3 then visorlaw20_Pair_does.j5 k v_21.1 v_24.1 p_8.c v_21.2 v_24.2 else none) else none) else (bif p_8.kind == 2 then (share_Told.m k x0.m p_8.c).bind fun v_31 => (visorref20_Const.m k x0.x 4 p_8.c).bind fun v_34 => (if v_31.1.length = 3 then (if v_34.1.length = 3 then visorlaw20_Pair_does.j5 k v_31.1 v_34.1 p_8.c v_31.2 v_34.2 else none) else none) else (bif p_8.kind == 1 then (share_Public.m k x0.m p_8.c).bind fun v_41 => (visorref20_Const.m k x0.x 3 p_8.c).bind fun v_44 => (if v_41.1.length = 3 then (if v_44.1.length = 3 then visorlaw20_Pair_does.j5 k v_41.1 v_44.1 p_8.c v_41.2 v_44.2 else none) else none) else (visorlaw20_pick.m k x0.l p_8.a).bind fun v_51 => (visorlaw20_pick.m k x0.l p_8.b).bind fun v_54 => (if 0 ≤ v_51 then (x0.l[v_51.toNat]?).bind fun e_59 => (if e_59.length = 3 then (if 0 ≤ v_51 then (x0.v[v_51.toNat]?).bind fun e_70 => (bif p_8.kind == 3 then (if 0 ≤ v_54 then (x0.l[v_54.toNat]?).bind fun e_80 => (if e_80.length = 3 then (if 0 ≤ v_54 then (x0.l[v_54.toNat]?).bind fun e_88 => (if e_88.length = 3 then (if 0 ≤ v_51 then (x0.v[v_51.toNat]?).bind fun e_96 => (if 0 ≤ v_54 then (x0.v[v_54.toNat]?).bind fun e_103 => (share_Xor.m k x0.m e_59 e_80).bind fun v_109 => (visorref20_Xor.m k x0.x e_59 e_88).bind fun v_112 => (if v_109.1.length = 3 then (if v_112.1.length = 3 then visorlaw20_Pair_does.j5 k v_109.1 v_112.1 (bxor .u64 e_96 e_103) v_109.2 v_112.2 else none) else none) else none) else none) else none) else none) else none) else none) else (bif p_8.kind == 4 then (if 0 ≤ v_51 then (x0.v[v_51.toNat]?).bind fun e_120 => (share_Not.m k x0.m e_59).bind fun v_126 => (visorref20_Not.m k x0.x e_59).bind fun v_129 => (if v_126.1.length = 3 then (if v_129.1.length = 3 then visorlaw20_Pair_does.j5 k v_126.1 v_129.1 (bnot .u64 e_120) v_126.2 v_129.2 else none) else none) else none) else (bif p_8.kind == 5 then (if (0 : Int) ≤ 4 ∧ (4 : Int) ≤ 4 ∧ (24 : Int) * 4 ≤ 281474976710656 then (visorlaw20_pick.m k (List.replicate 4 [ci 0, ci 0, ci 0] : List Cells) p_8.k).bind fun v_140 => (bif decide ((IntKind.i64.wrap (8 + v_140)) > 8) then visorlaw20_Pair_does.j4 k x0 v_51 e_59 v_140 (Int.tmod p_8.c 64) else visorlaw20_Pair_does.j4 k x0 v_51 e_59 v_140 p_8.c) else none) else (bif p_8.kind == 6 then (share_Add.m k x0.m e_59 p_8.c).bind fun v_169 => (visorref20_Add.m k x0.x 3 e_59 p_8.c).bind fun v_172 => (if v_169.1.length = 3 then (if v_172.1.length = 3 then visorlaw20_Pair_does.j5 k v_169.1 v_172.1 (bxor .u64 e_70 p_8.c) v_169.2 v_172.2 else none) else none) else (share_AddTold.m k x0.m e_59 p_8.c).bind fun v_178 => (visorref20_Add.m k x0.x 4 e_59 p_8.c).bind fun v_181 => (if v_178.1.length = 3 then (if v_181.1.length = 3 then visorlaw20_Pair_does.j5 k v_178.1 v_181.1 (bxor .u64 e_70 p_8.c) v_178.2 v_181.2 else none) else none))))) else none) else none) else none))))
def visorlaw20_Pair_does.j2 (k : Nat) (x0 : Tvisorlaw20_Pair) (p_8 : Tvisorlaw20_Act) : Option ((Cells × Int × Bool × Twire_Machine × Tvisorref19_M)) := visorlaw20_Pair_does.j3 k x0 p_8
def visorlaw20_Pair_does.j1 (k : Nat) (x0 : Tvisorlaw20_Pair) (x1 : Tvisorlaw20_Act) (p_7 : Bool) : Option ((Cells × Int × Bool × Twire_Machine × Tvisorref19_M)) := (bif p_7 then visorlaw20_Pair_does.j2 k x0 (⟨1, x1.a, x1.b, x1.k, x1.c⟩ : Tvisorlaw20_Act) else visorlaw20_Pair_does.j2 k x0 x1)
abbrev visorlaw20_Pair_does.R (κ : Ctx) (S : List HP) (x0 : Tvisorlaw20_Pair) (x1 : Tvisorlaw20_Act) (b_x0m : Nat) (b_x0x : Nat) (A_x0l : Option Addr) (c_x0l : Nat) (A_x0v : Option Addr) (c_x0v : Nat) (r : (Cells × Int × Bool × Twire_Machine × Tvisorref19_M)) : Ending → World → Prop := fun e w' => e = .returned (.tuple #[.agg (vals r.1), vw r.2.1, .bool r.2.2.1]) ∧ Own κ w' (Twire_Machine.own b_x0m r.2.2.2.1 :: Tvisorref19_M.own κ b_x0x r.2.2.2.2 :: S)
def visorlaw20_Pair_does.m (k : Nat) (x0 : Tvisorlaw20_Pair) (x1 : Tvisorlaw20_Act) : Option (Cells × Int × Bool × Twire_Machine × Tvisorref19_M) := (bif decide (x1.kind < 0) then visorlaw20_Pair_does.j1 k x0 x1 true else (bif ((x0.l.length : Nat) : Int) == 0 then visorlaw20_Pair_does.j1 k x0 x1 (decide (x1.kind > 2)) else visorlaw20_Pair_does.j1 k x0 x1 false))

set_option maxRecDepth 100000 in
set_option maxHeartbeats 4000000 in
theorem visorlaw20_Pair_does.ok (k : Nat) (x0 : Tvisorlaw20_Pair) (x1 : Tvisorlaw20_Act) (r : (Cells × Int × Bool × Twire_Machine × Tvisorref19_M)) (hm : visorlaw20_Pair_does.m k x0 x1 = some r) (κ : Ctx) (w : World) (S : List HP) (b_x0m : Nat) (b_x0x : Nat) (A_x0l : Option Addr) (c_x0l : Nat) (hx_x0l : Sl κ S A_x0l c_x0l 3 eC x0.l) (A_x0v : Option Addr) (c_x0v : Nat) (hx_x0v : Sl κ S A_x0v c_x0v 1 (eI .u64) x0.v) (ho : Own κ w (Twire_Machine.own b_x0m x0.m :: Tvisorref19_M.own κ b_x0x x0.x :: S)) :
    Calls Try.prog 25 #[.agg (vals [cp b_x0m, cp b_x0x, C.slc A_x0l x0.l.length c_x0l, C.slc A_x0v x0.v.length c_x0v]), .agg (vals [ci x1.kind, ci x1.a, ci x1.b, ci x1.k, cw x1.c])] w (visorlaw20_Pair_does.R κ S x0 x1 b_x0m b_x0x A_x0l c_x0l A_x0v c_x0v r) := by
  unfold visorlaw20_Pair_does.m at hm
  generalize hRR : visorlaw20_Pair_does.R κ S x0 x1 b_x0m b_x0x A_x0l c_x0l A_x0v c_x0v r = RR
  refine qen [(0, .agg (vals [cp b_x0m, cp b_x0x, C.slc A_x0l x0.l.length c_x0l, C.slc A_x0v x0.v.length c_x0v])), (1, .agg (vals [ci x1.kind, ci x1.a, ci x1.b, ci x1.k, cw x1.c]))] Try.func25 Try.ntmps25 ho fun a hs => ?_
  refine qsr fun K1 hK1 => ?_
  refine Vk.step (Vk.box (x := (.tmp 0)) 2 45 [cp b_x0m, cp b_x0x, C.slc A_x0l x0.l.length c_x0l, C.slc A_x0v x0.v.length c_x0v] hs (by kernel_rfl) (by kernel_rfl) (by kernel_rfl) fun b_2 w a hs => ?_)
  refine Vk.step (Vk.box (x := (.tmp 1)) 3 58 [ci x1.kind, ci x1.a, ci x1.b, ci x1.k, cw x1.c] hs (by kernel_rfl) (by kernel_rfl) (by kernel_rfl) fun b_3 w a hs => ?_)
  refine Vk.step (Vk.alloc 4 28 [ci 0, ci 0, ci 0] hs (by kernel_rfl) (by kernel_rfl) (by kernel_rfl) fun b_4 w a hs => ?_)
  refine qpe 2 [(2, pp b_2), (3, pp b_3), (4, pp b_4)] hs fun a hs => hK1 _ _ ?_
  clear hK1
  refine Vk.seq fun K5 hK5 => ?_
  have hj5 : ∀ (p_8 : Tvisorlaw20_Act), visorlaw20_Pair_does.j2 k x0 p_8 = some r → ∀ (a : Act) (w : World), St 209 a w κ [(2, pp b_2), (3, pp b_3), (4, pp b_4)] (pt b_2 (blk (Tvisorlaw20_Pair.obj x0 b_x0m b_x0x A_x0l c_x0l A_x0v c_x0v) 45) :: Twire_Machine.own b_x0m x0.m :: Tvisorref19_M.own κ b_x0x x0.x :: pt b_3 (blk (Tvisorlaw20_Act.cells p_8) 58) :: pt b_4 (blk [ci 0, ci 0, ci 0] 28) :: S) → K5 a w := by
    intro p_8 hm a w hs
    unfold visorlaw20_Pair_does.j2 at hm
    refine hK5 _ _ ?_
    refine Vk.seq fun K9 hK9 => ?_
    have hj9 : visorlaw20_Pair_does.j3 k x0 p_8 = some r → ∀ (b_13 : Nat) (b_14 : Nat) (a : Act) (w : World), St 209 a w κ [(2, pp b_2), (3, pp b_3), (4, pp b_4), (7, pp b_13), (8, pp b_14), (9, vw p_8.c)] (pt b_2 (blk (Tvisorlaw20_Pair.obj x0 b_x0m b_x0x A_x0l c_x0l A_x0v c_x0v) 45) :: Twire_Machine.own b_x0m x0.m :: Tvisorref19_M.own κ b_x0x x0.x :: pt b_3 (blk (Tvisorlaw20_Act.cells p_8) 58) :: pt b_4 (blk [ci 0, ci 0, ci 0] 28) :: pt b_13 (blk [ci 0, ci 0, ci 0] 28) :: pt b_14 (blk [ci 0, ci 0, ci 0] 28) :: S) → K9 a w := by
      intro hm b_13 b_14 a w hs
      unfold visorlaw20_Pair_does.j3 at hm
      refine hK9 _ _ ?_
      refine Vk.seq fun K15 hK15 => ?_
      have hj15 : ∀ (p_184 : Cells) (p_185 : Cells) (p_186 : Int) (p_187 : Twire_Machine) (p_188 : Tvisorref19_M), visorlaw20_Pair_does.j5 k p_184 p_185 p_186 p_187 p_188 = some r → ∀ (a : Act) (w : World), St 209 a w κ [(4, pp b_4), (7, pp b_13), (8, pp b_14), (9, vw p_186)] (pt b_4 (blk [ci 0, ci 0, ci 0] 28) :: pt b_13 (blk p_184 28) :: pt b_14 (blk p_185 28) :: Twire_Machine.own b_x0m p_187 :: Tvisorref19_M.own κ b_x0x p_188 :: S) → K15 a w := by
        intro p_184 p_185 p_186 p_187 p_188 hm a w hs
        unfold visorlaw20_Pair_does.j5 at hm
        refine hK15 _ _ ?_
        refine Vk.seq fun K189 hK189 => ?_
        obtain ⟨C_190, hC_190⟩ : ∃ X0 : List HP, X0 = (pt b_13 (blk p_184 28) :: pt b_14 (blk p_185 28) :: Twire_Machine.own b_x0m p_187 :: Tvisorref19_M.own κ b_x0x p_188 :: S) := ⟨_, rfl⟩
        refine qdr 8 κ C_190 hs fun w hs hqC_190 => ?_
        have hcz : Own κ w (pt b_13 (blk p_184 28) :: pt b_14 (blk p_185 28) :: Twire_Machine.own b_x0m p_187 :: Tvisorref19_M.own κ b_x0x p_188 :: S) := (Own.to hs.own [1, 2, 3, 4] 5 (by kernel_rfl) (by kernel_rfl))
        have hcl : Own κ w C_190 := by rw [hC_190]; exact hcz
        refine qdp (fuel := 7) [1] hs hcl hqC_190 fun a hs => ?_
        obtain ⟨h_191, hm⟩ := ite_t hm
        refine Vk.dTakeT (i := 0) (some 204) (.agg (vals p_184)) hs (by kernel_rfl) hqC_190 hcl (by kernel_rfl) (by kernel_rfl) (op := (.load 28 (.tmp 7))) (by kernel_rfl) (by kernel_rfl) (fun w hw o ho => by rw [hC_190] at hw; exact run_loadN (cs := p_184) ho (by kernel_rfl) (by kernel_rfl) h_191 (CellsAt.all 0 rfl) _ hw) fun a hs => ?_
        refine Vk.dTakeT (i := 2) (some 206) (.agg (vals p_184)) hs (by kernel_rfl) hqC_190 hcl (by kernel_rfl) (by kernel_rfl) (op := (.load 28 (.tmp 7))) (by kernel_rfl) (by kernel_rfl) (fun w hw o ho => by rw [hC_190] at hw; exact run_loadN (cs := p_184) ho (by kernel_rfl) (by kernel_rfl) h_191 (CellsAt.all 0 rfl) _ hw) fun a hs => ?_
        obtain ⟨h_192, hm⟩ := ite_t hm
        refine Vk.dTakeT (i := 3) (some 207) (.agg (vals p_185)) hs (by kernel_rfl) hqC_190 hcl (by kernel_rfl) (by kernel_rfl) (op := (.load 28 (.tmp 8))) (by kernel_rfl) (by kernel_rfl) (fun w hw o ho => by rw [hC_190] at hw; exact run_loadN (cs := p_185) ho (by kernel_rfl) (by kernel_rfl) h_192 (CellsAt.all 1 rfl) _ hw) fun a hs => ?_
        obtain ⟨h_193, hm⟩ := ite_t hm
        obtain ⟨h_194, hm⟩ := ite_t hm
        refine Vk.dTakeT (i := 4) (some 208) (.bool (ceq p_184 p_185)) hs (by kernel_rfl) hqC_190 hcl (by kernel_rfl) (by kernel_rfl) (op := (.binOp .eql 28 (.tmp 206) (.tmp 207) 28)) (by kernel_rfl) (by kernel_rfl) (fun w hw o ho => by rw [hC_190] at hw; exact run_eqV (ks := ((List.replicate 3 [LK.int .i64]).flatten)) (cs := p_184) (us := p_185) ho (by kernel_rfl) (by kernel_rfl) (by kernel_rfl) h_193 h_194 _) fun a hs => ?_
        refine Vk.dOnly (i := 5) (by kernel_rfl) (Vk.storeA (b := b_4) (ty := 28) (x := (.tmp 4)) (y := (.tmp 204)) (sz := 3) p_184 0 hs (by kernel_rfl) (by kernel_rfl) (by kernel_rfl) (by kernel_rfl) (by kernel_rfl) h_191 (by kernel_rfl) rfl (Eq.trans (b := 3) h_191 (Eq.symm rfl)) fun a w hs => ?_)
        replace hcl : Own κ w C_190 := by rw [hC_190]; exact (Own.to hs.own [1, 2, 3, 4] 5 (by kernel_rfl) (by kernel_rfl))
        refine ⟨fun _ => hcl, ?_⟩
        refine qdp (fuel := 0) [6, 7] hs hcl hqC_190 fun a hs => ?_
        replace hs := hs.pick [4, 5, 6] (L' := [(4, pp b_4), (5, vw p_186), (6, .bool (ceq p_184 p_185))]) (by kernel_rfl)
        refine Vk.dDone (by kernel_rfl) ?_
        refine hK189 _ _ ?_
        clear hK189
        refine wp_ret ?_
        exact Vk.retCTT (P := Try.prog) (fn := Try.f25) (R := RR) p_184 (vw p_186) (.bool (ceq p_184 p_185)) hs rfl (by kernel_rfl) (sz := 3) (by kernel_rfl) h_191 (CellsAt.all 0 rfl) (by kernel_rfl) (by kernel_rfl) (by obtain rfl := Option.some.inj hm; subst hRR; exact ⟨rfl, (Own.to hs.own [3, 4] 5 (by kernel_rfl) (by kernel_rfl))⟩)
      refine qsr fun K16 hK16 => ?_
      refine qpu 1 hs fun a hs => ?_
      refine qld 3 (ci p_8.kind) hs rfl fun a hs => ?_
      refine qpe 0 [(2, pp b_2), (3, pp b_3), (4, pp b_4), (7, pp b_13), (8, pp b_14), (9, vw p_8.c), (35, vi p_8.kind)] hs fun a hs => hK16 _ _ ?_
      clear hK16
      refine wp_block ?_
      refine qsr fun K17 hK17 => ?_
      refine qpe 2 [(2, pp b_2), (3, pp b_3), (4, pp b_4), (7, pp b_13), (8, pp b_14), (9, vw p_8.c), (35, vi p_8.kind), (168, .bool (p_8.kind == 0))] hs fun a hs => hK17 _ _ ?_
      clear hK17
      refine qcs (p_8.kind == 0) hs (fun hb => ?_) fun hb => ?_
      · replace hm := bif_t hm hb
        obtain ⟨C_18, hC_18⟩ : ∃ X0 : List HP, X0 = (pt b_2 (blk (Tvisorlaw20_Pair.obj x0 b_x0m b_x0x A_x0l c_x0l A_x0v c_x0v) 45) :: Tvisorref19_M.own κ b_x0x x0.x :: pt b_3 (blk (Tvisorlaw20_Act.cells p_8) 58) :: pt b_4 (blk [ci 0, ci 0, ci 0] 28) :: pt b_13 (blk [ci 0, ci 0, ci 0] 28) :: pt b_14 (blk [ci 0, ci 0, ci 0] 28) :: S) := ⟨_, rfl⟩
        refine qdr 9 κ C_18 hs fun w hs hqC_18 => ?_
        have hcz : Own κ w (pt b_2 (blk (Tvisorlaw20_Pair.obj x0 b_x0m b_x0x A_x0l c_x0l A_x0v c_x0v) 45) :: Tvisorref19_M.own κ b_x0x x0.x :: pt b_3 (blk (Tvisorlaw20_Act.cells p_8) 58) :: pt b_4 (blk [ci 0, ci 0, ci 0] 28) :: pt b_13 (blk [ci 0, ci 0, ci 0] 28) :: pt b_14 (blk [ci 0, ci 0, ci 0] 28) :: S) := (Own.to hs.own [0, 2, 3, 4, 5, 6] 7 (by kernel_rfl) (by kernel_rfl))
        have hcl : Own κ w C_18 := by rw [hC_18]; exact hcz
        refine qdp (fuel := 8) [0, 2, 5, 7] hs hcl hqC_18 fun a hs => ?_
        refine qdl 1 0 (cp b_x0m) hs hcl hqC_18 hC_18 rfl fun a hs => ?_
        refine qdl 3 2 (cw p_8.c) hs hcl hqC_18 hC_18 rfl fun a hs => ?_
        refine qdl 6 0 (cp b_x0x) hs hcl hqC_18 hC_18 rfl fun a hs => ?_
        refine qdl 8 2 (cw p_8.c) hs hcl hqC_18 hC_18 rfl fun a hs => ?_
        obtain ⟨v_21, h_20, hm⟩ := bind_t hm
        refine Vk.dOnly (i := 4) (by kernel_rfl) (Vk.call (some 174) 45 #[pp b_x0m, vw p_8.c] hs (by kernel_rfl) (by kernel_rfl) (by kernel_rfl) ?_)
        refine (share_Encode.ok k x0.m p_8.c v_21 h_20 κ w (pt b_2 (blk (Tvisorlaw20_Pair.obj x0 b_x0m b_x0x A_x0l c_x0l A_x0v c_x0v) 45) :: Tvisorref19_M.own κ b_x0x x0.x :: pt b_3 (blk (Tvisorlaw20_Act.cells p_8) 58) :: pt b_4 (blk [ci 0, ci 0, ci 0] 28) :: pt b_13 (blk [ci 0, ci 0, ci 0] 28) :: pt b_14 (blk [ci 0, ci 0, ci 0] 28) :: S) b_x0m (Own.to hs.own [1, 0, 2, 3, 4, 5, 6] 7 (by kernel_rfl) (by kernel_rfl))).mono ?_
        rintro _ w ⟨rfl, how⟩
        refine ⟨_, _, _, rfl, how, fun a hs => ?_⟩
        replace hcl : Own κ w C_18 := by rw [hC_18]; exact (Own.to hs.own [1, 2, 3, 4, 5, 6] 7 (by kernel_rfl) (by kernel_rfl))
        refine ⟨fun _ => hcl, ?_⟩
        obtain ⟨v_24, h_23, hm⟩ := bind_t hm
        refine Vk.dOnly (i := 9) (by kernel_rfl) (Vk.call (some 179) 46 #[pp b_x0x, vw p_8.c] hs (by kernel_rfl) (by kernel_rfl) (by kernel_rfl) ?_)
        refine (visorref20_Encode.ok k x0.x p_8.c v_24 h_23 κ w (Twire_Machine.own b_x0m v_21.2 :: pt b_2 (blk (Tvisorlaw20_Pair.obj x0 b_x0m b_x0x A_x0l c_x0l A_x0v c_x0v) 45) :: pt b_3 (blk (Tvisorlaw20_Act.cells p_8) 58) :: pt b_4 (blk [ci 0, ci 0, ci 0] 28) :: pt b_13 (blk [ci 0, ci 0, ci 0] 28) :: pt b_14 (blk [ci 0, ci 0, ci 0] 28) :: S) b_x0x (Own.to hs.own [2, 0, 1, 3, 4, 5, 6] 7 (by kernel_rfl) (by kernel_rfl))).mono ?_
        rintro _ w ⟨rfl, how⟩
        refine ⟨_, _, _, rfl, how, fun a hs => ?_⟩
        refine ⟨fun h => absurd h (by decide), ?_⟩
        obtain ⟨h_25, hm⟩ := ite_t hm
        refine Vk.dOnly (i := 10) (by kernel_rfl) (Vk.storeA (b := b_13) (ty := 28) (x := (.tmp 7)) (y := (.tmp 174)) (sz := 3) v_21.1 5 hs (by kernel_rfl) (by kernel_rfl) (by kernel_rfl) (by kernel_rfl) (by kernel_rfl) h_25 (by kernel_rfl) rfl (Eq.trans (b := 3) h_25 (Eq.symm rfl)) fun a w hs => ?_)
        refine ⟨fun h => absurd h (by decide), ?_⟩
        obtain ⟨h_26, hm⟩ := ite_t hm
        refine Vk.dOnly (i := 11) (by kernel_rfl) (Vk.storeA (b := b_14) (ty := 28) (x := (.tmp 8)) (y := (.tmp 179)) (sz := 3) v_24.1 6 hs (by kernel_rfl) (by kernel_rfl) (by kernel_rfl) (by kernel_rfl) (by kernel_rfl) h_26 (by kernel_rfl) rfl (Eq.trans (b := 3) h_26 (Eq.symm rfl)) fun a w hs => ?_)
        refine ⟨fun h => absurd h (by decide), ?_⟩
        replace hs := hs.pick [4, 7, 8, 9] (L' := [(4, pp b_4), (7, pp b_13), (8, pp b_14), (9, vw p_8.c)]) (by kernel_rfl)
        refine Vk.dDone (by kernel_rfl) ?_
        exact hj15 v_21.1 v_24.1 p_8.c v_21.2 v_24.2 hm _ _ (hs.go [4, 7, 8, 9] [4, 5, 6, 1, 0] 7 (by kernel_rfl) (by kernel_rfl) (by kernel_rfl))
      · replace hm := bif_f hm hb
        refine qsr fun K27 hK27 => ?_
        refine qpe 2 [(2, pp b_2), (3, pp b_3), (4, pp b_4), (7, pp b_13), (8, pp b_14), (9, vw p_8.c), (35, vi p_8.kind), (180, .bool (p_8.kind == 2))] hs fun a hs => hK27 _ _ ?_
        clear hK27
        refine qcs (p_8.kind == 2) hs (fun hb => ?_) fun hb => ?_
        · replace hm := bif_t hm hb
          obtain ⟨C_28, hC_28⟩ : ∃ X0 : List HP, X0 = (pt b_2 (blk (Tvisorlaw20_Pair.obj x0 b_x0m b_x0x A_x0l c_x0l A_x0v c_x0v) 45) :: Tvisorref19_M.own κ b_x0x x0.x :: pt b_3 (blk (Tvisorlaw20_Act.cells p_8) 58) :: pt b_4 (blk [ci 0, ci 0, ci 0] 28) :: pt b_13 (blk [ci 0, ci 0, ci 0] 28) :: pt b_14 (blk [ci 0, ci 0, ci 0] 28) :: S) := ⟨_, rfl⟩
          refine qdr 9 κ C_28 hs fun w hs hqC_28 => ?_
          have hcz : Own κ w (pt b_2 (blk (Tvisorlaw20_Pair.obj x0 b_x0m b_x0x A_x0l c_x0l A_x0v c_x0v) 45) :: Tvisorref19_M.own κ b_x0x x0.x :: pt b_3 (blk (Tvisorlaw20_Act.cells p_8) 58) :: pt b_4 (blk [ci 0, ci 0, ci 0] 28) :: pt b_13 (blk [ci 0, ci 0, ci 0] 28) :: pt b_14 (blk [ci 0, ci 0, ci 0] 28) :: S) := (Own.to hs.own [0, 2, 3, 4, 5, 6] 7 (by kernel_rfl) (by kernel_rfl))
          have hcl : Own κ w C_28 := by rw [hC_28]; exact hcz
          refine qdp (fuel := 8) [0, 2, 5, 7] hs hcl hqC_28 fun a hs => ?_
          refine qdl 1 0 (cp b_x0m) hs hcl hqC_28 hC_28 rfl fun a hs => ?_
          refine qdl 3 2 (cw p_8.c) hs hcl hqC_28 hC_28 rfl fun a hs => ?_
          refine qdl 6 0 (cp b_x0x) hs hcl hqC_28 hC_28 rfl fun a hs => ?_
          refine qdl 8 2 (cw p_8.c) hs hcl hqC_28 hC_28 rfl fun a hs => ?_
          obtain ⟨v_31, h_30, hm⟩ := bind_t hm
          refine Vk.dOnly (i := 4) (by kernel_rfl) (Vk.call (some 186) 97 #[pp b_x0m, vw p_8.c] hs (by kernel_rfl) (by kernel_rfl) (by kernel_rfl) ?_)
          refine (share_Told.ok k x0.m p_8.c v_31 h_30 κ w (pt b_2 (blk (Tvisorlaw20_Pair.obj x0 b_x0m b_x0x A_x0l c_x0l A_x0v c_x0v) 45) :: Tvisorref19_M.own κ b_x0x x0.x :: pt b_3 (blk (Tvisorlaw20_Act.cells p_8) 58) :: pt b_4 (blk [ci 0, ci 0, ci 0] 28) :: pt b_13 (blk [ci 0, ci 0, ci 0] 28) :: pt b_14 (blk [ci 0, ci 0, ci 0] 28) :: S) b_x0m (Own.to hs.own [1, 0, 2, 3, 4, 5, 6] 7 (by kernel_rfl) (by kernel_rfl))).mono ?_
          rintro _ w ⟨rfl, how⟩
          refine ⟨_, _, _, rfl, how, fun a hs => ?_⟩
          replace hcl : Own κ w C_28 := by rw [hC_28]; exact (Own.to hs.own [1, 2, 3, 4, 5, 6] 7 (by kernel_rfl) (by kernel_rfl))
          refine ⟨fun _ => hcl, ?_⟩
          obtain ⟨v_34, h_33, hm⟩ := bind_t hm
          refine Vk.dOnly (i := 9) (by kernel_rfl) (Vk.call (some 191) 67 #[pp b_x0x, vi 4, vw p_8.c] hs (by kernel_rfl) (by kernel_rfl) (by kernel_rfl) ?_)
          refine (visorref20_Const.ok k x0.x 4 p_8.c v_34 h_33 κ w (Twire_Machine.own b_x0m v_31.2 :: pt b_2 (blk (Tvisorlaw20_Pair.obj x0 b_x0m b_x0x A_x0l c_x0l A_x0v c_x0v) 45) :: pt b_3 (blk (Tvisorlaw20_Act.cells p_8) 58) :: pt b_4 (blk [ci 0, ci 0, ci 0] 28) :: pt b_13 (blk [ci 0, ci 0, ci 0] 28) :: pt b_14 (blk [ci 0, ci 0, ci 0] 28) :: S) b_x0x (Own.to hs.own [2, 0, 1, 3, 4, 5, 6] 7 (by kernel_rfl) (by kernel_rfl))).mono ?_
          rintro _ w ⟨rfl, how⟩
          refine ⟨_, _, _, rfl, how, fun a hs => ?_⟩
          refine ⟨fun h => absurd h (by decide), ?_⟩
          obtain ⟨h_35, hm⟩ := ite_t hm
          refine Vk.dOnly (i := 10) (by kernel_rfl) (Vk.storeA (b := b_13) (ty := 28) (x := (.tmp 7)) (y := (.tmp 186)) (sz := 3) v_31.1 5 hs (by kernel_rfl) (by kernel_rfl) (by kernel_rfl) (by kernel_rfl) (by kernel_rfl) h_35 (by kernel_rfl) rfl (Eq.trans (b := 3) h_35 (Eq.symm rfl)) fun a w hs => ?_)
          refine ⟨fun h => absurd h (by decide), ?_⟩
          obtain ⟨h_36, hm⟩ := ite_t hm
          refine Vk.dOnly (i := 11) (by kernel_rfl) (Vk.storeA (b := b_14) (ty := 28) (x := (.tmp 8)) (y := (.tmp 191)) (sz := 3) v_34.1 6 hs (by kernel_rfl) (by kernel_rfl) (by kernel_rfl) (by kernel_rfl) (by kernel_rfl) h_36 (by kernel_rfl) rfl (Eq.trans (b := 3) h_36 (Eq.symm rfl)) fun a w hs => ?_)
          refine ⟨fun h => absurd h (by decide), ?_⟩
          replace hs := hs.pick [4, 7, 8, 9] (L' := [(4, pp b_4), (7, pp b_13), (8, pp b_14), (9, vw p_8.c)]) (by kernel_rfl)
          refine Vk.dDone (by kernel_rfl) ?_
          exact hj15 v_31.1 v_34.1 p_8.c v_31.2 v_34.2 hm _ _ (hs.go [4, 7, 8, 9] [4, 5, 6, 1, 0] 7 (by kernel_rfl) (by kernel_rfl) (by kernel_rfl))
        · replace hm := bif_f hm hb
          refine qsr fun K37 hK37 => ?_
          refine qpe 2 [(2, pp b_2), (3, pp b_3), (4, pp b_4), (7, pp b_13), (8, pp b_14), (9, vw p_8.c), (192, .bool (p_8.kind == 1))] hs fun a hs => hK37 _ _ ?_
          clear hK37
          refine qcs (p_8.kind == 1) hs (fun hb => ?_) fun hb => ?_
          · replace hm := bif_t hm hb
            obtain ⟨C_38, hC_38⟩ : ∃ X0 : List HP, X0 = (pt b_2 (blk (Tvisorlaw20_Pair.obj x0 b_x0m b_x0x A_x0l c_x0l A_x0v c_x0v) 45) :: Tvisorref19_M.own κ b_x0x x0.x :: pt b_3 (blk (Tvisorlaw20_Act.cells p_8) 58) :: pt b_4 (blk [ci 0, ci 0, ci 0] 28) :: pt b_13 (blk [ci 0, ci 0, ci 0] 28) :: pt b_14 (blk [ci 0, ci 0, ci 0] 28) :: S) := ⟨_, rfl⟩
            refine qdr 9 κ C_38 hs fun w hs hqC_38 => ?_
            have hcz : Own κ w (pt b_2 (blk (Tvisorlaw20_Pair.obj x0 b_x0m b_x0x A_x0l c_x0l A_x0v c_x0v) 45) :: Tvisorref19_M.own κ b_x0x x0.x :: pt b_3 (blk (Tvisorlaw20_Act.cells p_8) 58) :: pt b_4 (blk [ci 0, ci 0, ci 0] 28) :: pt b_13 (blk [ci 0, ci 0, ci 0] 28) :: pt b_14 (blk [ci 0, ci 0, ci 0] 28) :: S) := (Own.to hs.own [0, 2, 3, 4, 5, 6] 7 (by kernel_rfl) (by kernel_rfl))
            have hcl : Own κ w C_38 := by rw [hC_38]; exact hcz
            refine qdp (fuel := 8) [0, 2, 5, 7] hs hcl hqC_38 fun a hs => ?_
            refine qdl 1 0 (cp b_x0m) hs hcl hqC_38 hC_38 rfl fun a hs => ?_
            refine qdl 3 2 (cw p_8.c) hs hcl hqC_38 hC_38 rfl fun a hs => ?_
            refine qdl 6 0 (cp b_x0x) hs hcl hqC_38 hC_38 rfl fun a hs => ?_
            refine qdl 8 2 (cw p_8.c) hs hcl hqC_38 hC_38 rfl fun a hs => ?_
            obtain ⟨v_41, h_40, hm⟩ := bind_t hm
            refine Vk.dOnly (i := 4) (by kernel_rfl) (Vk.call (some 198) 59 #[pp b_x0m, vw p_8.c] hs (by kernel_rfl) (by kernel_rfl) (by kernel_rfl) ?_)
            refine (share_Public.ok k x0.m p_8.c v_41 h_40 κ w (pt b_2 (blk (Tvisorlaw20_Pair.obj x0 b_x0m b_x0x A_x0l c_x0l A_x0v c_x0v) 45) :: Tvisorref19_M.own κ b_x0x x0.x :: pt b_3 (blk (Tvisorlaw20_Act.cells p_8) 58) :: pt b_4 (blk [ci 0, ci 0, ci 0] 28) :: pt b_13 (blk [ci 0, ci 0, ci 0] 28) :: pt b_14 (blk [ci 0, ci 0, ci 0] 28) :: S) b_x0m (Own.to hs.own [1, 0, 2, 3, 4, 5, 6] 7 (by kernel_rfl) (by kernel_rfl))).mono ?_
            rintro _ w ⟨rfl, how⟩
            refine ⟨_, _, _, rfl, how, fun a hs => ?_⟩
            replace hcl : Own κ w C_38 := by rw [hC_38]; exact (Own.to hs.own [1, 2, 3, 4, 5, 6] 7 (by kernel_rfl) (by kernel_rfl))
            refine ⟨fun _ => hcl, ?_⟩
            obtain ⟨v_44, h_43, hm⟩ := bind_t hm
            refine Vk.dOnly (i := 9) (by kernel_rfl) (Vk.call (some 203) 67 #[pp b_x0x, vi 3, vw p_8.c] hs (by kernel_rfl) (by kernel_rfl) (by kernel_rfl) ?_)
            refine (visorref20_Const.ok k x0.x 3 p_8.c v_44 h_43 κ w (Twire_Machine.own b_x0m v_41.2 :: pt b_2 (blk (Tvisorlaw20_Pair.obj x0 b_x0m b_x0x A_x0l c_x0l A_x0v c_x0v) 45) :: pt b_3 (blk (Tvisorlaw20_Act.cells p_8) 58) :: pt b_4 (blk [ci 0, ci 0, ci 0] 28) :: pt b_13 (blk [ci 0, ci 0, ci 0] 28) :: pt b_14 (blk [ci 0, ci 0, ci 0] 28) :: S) b_x0x (Own.to hs.own [2, 0, 1, 3, 4, 5, 6] 7 (by kernel_rfl) (by kernel_rfl))).mono ?_
            rintro _ w ⟨rfl, how⟩
            refine ⟨_, _, _, rfl, how, fun a hs => ?_⟩
            refine ⟨fun h => absurd h (by decide), ?_⟩
            obtain ⟨h_45, hm⟩ := ite_t hm
            refine Vk.dOnly (i := 10) (by kernel_rfl) (Vk.storeA (b := b_13) (ty := 28) (x := (.tmp 7)) (y := (.tmp 198)) (sz := 3) v_41.1 5 hs (by kernel_rfl) (by kernel_rfl) (by kernel_rfl) (by kernel_rfl) (by kernel_rfl) h_45 (by kernel_rfl) rfl (Eq.trans (b := 3) h_45 (Eq.symm rfl)) fun a w hs => ?_)
            refine ⟨fun h => absurd h (by decide), ?_⟩
            obtain ⟨h_46, hm⟩ := ite_t hm
            refine Vk.dOnly (i := 11) (by kernel_rfl) (Vk.storeA (b := b_14) (ty := 28) (x := (.tmp 8)) (y := (.tmp 203)) (sz := 3) v_44.1 6 hs (by kernel_rfl) (by kernel_rfl) (by kernel_rfl) (by kernel_rfl) (by kernel_rfl) h_46 (by kernel_rfl) rfl (Eq.trans (b := 3) h_46 (Eq.symm rfl)) fun a w hs => ?_)
            refine ⟨fun h => absurd h (by decide), ?_⟩
            replace hs := hs.pick [4, 7, 8, 9] (L' := [(4, pp b_4), (7, pp b_13), (8, pp b_14), (9, vw p_8.c)]) (by kernel_rfl)
            refine Vk.dDone (by kernel_rfl) ?_
            exact hj15 v_41.1 v_44.1 p_8.c v_41.2 v_44.2 hm _ _ (hs.go [4, 7, 8, 9] [4, 5, 6, 1, 0] 7 (by kernel_rfl) (by kernel_rfl) (by kernel_rfl))
          · replace hm := bif_f hm hb
            refine Vk.seq fun K47 hK47 => ?_
            obtain ⟨C_48, hC_48⟩ : ∃ X0 : List HP, X0 = (pt b_2 (blk (Tvisorlaw20_Pair.obj x0 b_x0m b_x0x A_x0l c_x0l A_x0v c_x0v) 45) :: Twire_Machine.own b_x0m x0.m :: Tvisorref19_M.own κ b_x0x x0.x :: pt b_3 (blk (Tvisorlaw20_Act.cells p_8) 58) :: pt b_4 (blk [ci 0, ci 0, ci 0] 28) :: pt b_13 (blk [ci 0, ci 0, ci 0] 28) :: pt b_14 (blk [ci 0, ci 0, ci 0] 28) :: S) := ⟨_, rfl⟩
            refine qdr 12 κ C_48 hs fun w hs hqC_48 => ?_
            have hcz : Own κ w (pt b_2 (blk (Tvisorlaw20_Pair.obj x0 b_x0m b_x0x A_x0l c_x0l A_x0v c_x0v) 45) :: Twire_Machine.own b_x0m x0.m :: Tvisorref19_M.own κ b_x0x x0.x :: pt b_3 (blk (Tvisorlaw20_Act.cells p_8) 58) :: pt b_4 (blk [ci 0, ci 0, ci 0] 28) :: pt b_13 (blk [ci 0, ci 0, ci 0] 28) :: pt b_14 (blk [ci 0, ci 0, ci 0] 28) :: S) := (Own.to hs.own [0, 1, 2, 3, 4, 5, 6] 7 (by kernel_rfl) (by kernel_rfl))
            have hcl : Own κ w C_48 := by rw [hC_48]; exact hcz
            refine qdp (fuel := 8) [0, 2, 5, 7] hs hcl hqC_48 fun a hs => ?_
            refine qdl 1 0 (C.slc A_x0l x0.l.length c_x0l) hs hcl hqC_48 hC_48 rfl fun a hs => ?_
            refine qdl 3 3 (ci p_8.a) hs hcl hqC_48 hC_48 rfl fun a hs => ?_
            refine qdl 6 0 (C.slc A_x0l x0.l.length c_x0l) hs hcl hqC_48 hC_48 rfl fun a hs => ?_
            refine qdl 8 3 (ci p_8.b) hs hcl hqC_48 hC_48 rfl fun a hs => ?_
            obtain ⟨v_51, h_50, hm⟩ := bind_t hm
            refine Vk.dOnly (i := 4) (by kernel_rfl) (Vk.call (some 40) 98 #[.slice A_x0l x0.l.length c_x0l, vi p_8.a] hs (by kernel_rfl) (by kernel_rfl) (by kernel_rfl) ?_)
            refine (visorlaw20_pick.ok k x0.l p_8.a v_51 h_50 κ w (pt b_2 (blk (Tvisorlaw20_Pair.obj x0 b_x0m b_x0x A_x0l c_x0l A_x0v c_x0v) 45) :: Twire_Machine.own b_x0m x0.m :: Tvisorref19_M.own κ b_x0x x0.x :: pt b_3 (blk (Tvisorlaw20_Act.cells p_8) 58) :: pt b_4 (blk [ci 0, ci 0, ci 0] 28) :: pt b_13 (blk [ci 0, ci 0, ci 0] 28) :: pt b_14 (blk [ci 0, ci 0, ci 0] 28) :: S) A_x0l c_x0l hx_x0l.less.less.less.less.less.less.less hs.own).mono ?_
            rintro _ w ⟨rfl, how⟩
            refine ⟨_, _, _, rfl, how, fun a hs => ?_⟩
            replace hcl : Own κ w C_48 := by rw [hC_48]; exact (Own.to hs.own [0, 1, 2, 3, 4, 5, 6] 7 (by kernel_rfl) (by kernel_rfl))
            refine ⟨fun _ => hcl, ?_⟩
            obtain ⟨v_54, h_53, hm⟩ := bind_t hm
            refine Vk.dOnly (i := 9) (by kernel_rfl) (Vk.call (some 45) 98 #[.slice A_x0l x0.l.length c_x0l, vi p_8.b] hs (by kernel_rfl) (by kernel_rfl) (by kernel_rfl) ?_)
            refine (visorlaw20_pick.ok k x0.l p_8.b v_54 h_53 κ w (pt b_2 (blk (Tvisorlaw20_Pair.obj x0 b_x0m b_x0x A_x0l c_x0l A_x0v c_x0v) 45) :: Twire_Machine.own b_x0m x0.m :: Tvisorref19_M.own κ b_x0x x0.x :: pt b_3 (blk (Tvisorlaw20_Act.cells p_8) 58) :: pt b_4 (blk [ci 0, ci 0, ci 0] 28) :: pt b_13 (blk [ci 0, ci 0, ci 0] 28) :: pt b_14 (blk [ci 0, ci 0, ci 0] 28) :: S) A_x0l c_x0l hx_x0l.less.less.less.less.less.less.less hs.own).mono ?_
            rintro _ w ⟨rfl, how⟩
            refine ⟨_, _, _, rfl, how, fun a hs => ?_⟩
            replace hcl : Own κ w C_48 := by rw [hC_48]; exact (Own.to hs.own [0, 1, 2, 3, 4, 5, 6] 7 (by kernel_rfl) (by kernel_rfl))
            refine ⟨fun _ => hcl, ?_⟩
            refine qdp (fuel := 0) [10, 11] hs hcl hqC_48 fun a hs => ?_
            replace hs := hs.pick [2, 3, 4, 7, 8, 10, 11] (L' := [(2, pp b_2), (3, pp b_3), (4, pp b_4), (7, pp b_13), (8, pp b_14), (10, vi v_51), (11, vi v_54)]) (by kernel_rfl)
            refine Vk.dDone (by kernel_rfl) ?_
            refine hK47 _ _ ?_
            clear hK47
            refine qsr fun K55 hK55 => ?_
            refine qpu 1 hs fun a hs => ?_
            refine qld 0 (C.slc A_x0l x0.l.length c_x0l) hs rfl fun a hs => ?_
            refine qpu 1 hs fun a hs => ?_
            obtain ⟨h_56, hm⟩ := ite_t hm
            obtain ⟨e_59, h_57, hm⟩ := bind_t hm
            obtain ⟨b_60, o_61, hA_62, h_58⟩ := Sl.elem hx_x0l h_57
            refine Vk.step (Vk.value (some 49) (.pointer (some ⟨b_60, o_61 + v_51.toNat * 3, none⟩)) hs (by kernel_rfl) (op := (.indexAddr 43 (.tmp 47) (.tmp 48))) (by kernel_rfl) (fun o ho => run_idxSlc (k := .i64) ho (cap := c_x0l) (len := x0.l.length) ((congrArg (fun A => Value.slice A (x0.l.length) (c_x0l)) hA_62) ▸ (by kernel_rfl)) (by kernel_rfl) (by kernel_rfl) (idx_ok h_56 h_57) _) fun a hs => ?_)
            obtain ⟨h_63, hm⟩ := ite_t hm
            refine Vk.step (Vk.value (some 50) (.agg (vals e_59)) hs (by kernel_rfl) (op := (.load 28 (.tmp 49))) (by kernel_rfl) (fun o ho => run_loadN (cs := e_59) ho (by kernel_rfl) (by kernel_rfl) h_63 h_58 _ hs.own.drop.drop.drop.drop.drop.drop.drop) fun a hs => ?_)
            refine Vk.step (Vk.alloc 12 28 [ci 0, ci 0, ci 0] hs (by kernel_rfl) (by kernel_rfl) (by kernel_rfl) fun b_64 w a hs => ?_)
            refine Vk.step (Vk.storeA (b := b_64) (ty := 28) (x := (.tmp 12)) (y := (.tmp 50)) (sz := 3) e_59 0 hs (by kernel_rfl) (by kernel_rfl) (by kernel_rfl) (by kernel_rfl) (by kernel_rfl) h_63 (by kernel_rfl) rfl (Eq.trans (b := 3) h_63 (Eq.symm rfl)) fun a w hs => ?_)
            refine qpe 0 [(2, pp b_2), (3, pp b_3), (4, pp b_4), (7, pp b_13), (8, pp b_14), (10, vi v_51), (11, vi v_54), (12, pp b_64)] hs fun a hs => hK55 _ _ ?_
            clear hK55
            refine Vk.seq fun K65 hK65 => ?_
            obtain ⟨C_66, hC_66⟩ : ∃ X0 : List HP, X0 = (pt b_64 (blk e_59 28) :: pt b_2 (blk (Tvisorlaw20_Pair.obj x0 b_x0m b_x0x A_x0l c_x0l A_x0v c_x0v) 45) :: Twire_Machine.own b_x0m x0.m :: Tvisorref19_M.own κ b_x0x x0.x :: pt b_3 (blk (Tvisorlaw20_Act.cells p_8) 58) :: pt b_4 (blk [ci 0, ci 0, ci 0] 28) :: pt b_13 (blk [ci 0, ci 0, ci 0] 28) :: pt b_14 (blk [ci 0, ci 0, ci 0] 28) :: S) := ⟨_, rfl⟩
            refine qdr 9 κ C_66 hs fun w hs hqC_66 => ?_
            have hcz : Own κ w (pt b_64 (blk e_59 28) :: pt b_2 (blk (Tvisorlaw20_Pair.obj x0 b_x0m b_x0x A_x0l c_x0l A_x0v c_x0v) 45) :: Twire_Machine.own b_x0m x0.m :: Tvisorref19_M.own κ b_x0x x0.x :: pt b_3 (blk (Tvisorlaw20_Act.cells p_8) 58) :: pt b_4 (blk [ci 0, ci 0, ci 0] 28) :: pt b_13 (blk [ci 0, ci 0, ci 0] 28) :: pt b_14 (blk [ci 0, ci 0, ci 0] 28) :: S) := (Own.to hs.own [0, 1, 2, 3, 4, 5, 6, 7] 8 (by kernel_rfl) (by kernel_rfl))
            have hcl : Own κ w C_66 := by rw [hC_66]; exact hcz
            refine qdp (fuel := 6) [0, 2, 5] hs hcl hqC_66 fun a hs => ?_
            refine qdl 1 1 (C.slc A_x0v x0.v.length c_x0v) hs hcl hqC_66 hC_66 rfl fun a hs => ?_
            obtain ⟨h_67, hm⟩ := ite_t hm
            obtain ⟨e_70, h_68, hm⟩ := bind_t hm
            obtain ⟨b_71, o_72, hA_73, h_69⟩ := Sl.elem hx_x0v h_68
            refine Vk.dTakeT (i := 3) (some 54) (.pointer (some ⟨b_71, o_72 + v_51.toNat * 1, none⟩)) hs (by kernel_rfl) hqC_66 hcl (by kernel_rfl) (by kernel_rfl) (op := (.indexAddr 25 (.tmp 52) (.tmp 53))) (by kernel_rfl) (by kernel_rfl) (fun w hw o ho => by rw [hC_66] at hw; exact run_idxSlc (k := .i64) ho (cap := c_x0v) (len := x0.v.length) ((congrArg (fun A => Value.slice A (x0.v.length) (c_x0v)) hA_73) ▸ (by kernel_rfl)) (by kernel_rfl) (by kernel_rfl) (idx_ok h_67 h_68) _) fun a hs => ?_
            refine Vk.dTakeT (i := 4) (some 55) (vw e_70) hs (by kernel_rfl) hqC_66 hcl (by kernel_rfl) (by kernel_rfl) (op := (.load 32 (.tmp 54))) (by kernel_rfl) (by kernel_rfl) (fun w hw o ho => by rw [hC_66] at hw; exact run_load1 (c := cw e_70) ho (by kernel_rfl) (by kernel_rfl) (fun w ho => h_69 w ho 0 _ rfl) _ hw.drop.drop.drop.drop.drop.drop.drop.drop) fun a hs => ?_
            refine qdl 6 4 (cw p_8.c) hs hcl hqC_66 hC_66 rfl fun a hs => ?_
            refine qdp (fuel := 0) [7, 8] hs hcl hqC_66 fun a hs => ?_
            replace hs := hs.pick [2, 3, 4, 7, 8, 9, 10, 11, 12] (L' := [(2, pp b_2), (3, pp b_3), (4, pp b_4), (7, pp b_13), (8, pp b_14), (9, vw (bxor .u64 e_70 p_8.c)), (10, vi v_51), (11, vi v_54), (12, pp b_64)]) (by kernel_rfl)
            refine Vk.dDone (by kernel_rfl) ?_
            refine hK65 _ _ ?_
            clear hK65
            refine qsr fun K74 hK74 => ?_
            refine qpu 1 hs fun a hs => ?_
            refine qld 4 (ci p_8.kind) hs rfl fun a hs => ?_
            refine qpe 0 [(2, pp b_2), (3, pp b_3), (4, pp b_4), (7, pp b_13), (8, pp b_14), (9, vw (bxor .u64 e_70 p_8.c)), (10, vi v_51), (11, vi v_54), (12, pp b_64), (60, vi p_8.kind)] hs fun a hs => hK74 _ _ ?_
            clear hK74
            refine wp_block ?_
            refine qsr fun K75 hK75 => ?_
            refine qpe 2 [(2, pp b_2), (3, pp b_3), (4, pp b_4), (7, pp b_13), (8, pp b_14), (9, vw (bxor .u64 e_70 p_8.c)), (10, vi v_51), (11, vi v_54), (12, pp b_64), (60, vi p_8.kind), (73, .bool (p_8.kind == 3))] hs fun a hs => hK75 _ _ ?_
            clear hK75
            refine qcs (p_8.kind == 3) hs (fun hb => ?_) fun hb => ?_
            · replace hm := bif_t hm hb
              obtain ⟨C_76, hC_76⟩ : ∃ X0 : List HP, X0 = (pt b_64 (blk e_59 28) :: pt b_2 (blk (Tvisorlaw20_Pair.obj x0 b_x0m b_x0x A_x0l c_x0l A_x0v c_x0v) 45) :: pt b_3 (blk (Tvisorlaw20_Act.cells p_8) 58) :: pt b_4 (blk [ci 0, ci 0, ci 0] 28) :: S) := ⟨_, rfl⟩
              refine qdr 32 κ C_76 hs fun w hs hqC_76 => ?_
              have hcz : Own κ w (pt b_64 (blk e_59 28) :: pt b_2 (blk (Tvisorlaw20_Pair.obj x0 b_x0m b_x0x A_x0l c_x0l A_x0v c_x0v) 45) :: pt b_3 (blk (Tvisorlaw20_Act.cells p_8) 58) :: pt b_4 (blk [ci 0, ci 0, ci 0] 28) :: S) := (Own.to hs.own [0, 1, 4, 5] 8 (by kernel_rfl) (by kernel_rfl))
              have hcl : Own κ w C_76 := by rw [hC_76]; exact hcz
              refine qdp (fuel := 22) [0, 3, 5, 9, 12, 14, 18, 20, 23, 25] hs hcl hqC_76 fun a hs => ?_
              refine qdl 1 1 (cp b_x0m) hs hcl hqC_76 hC_76 rfl fun a hs => ?_
              refine Vk.dTakeT (i := 2) (some 77) (.agg (vals e_59)) hs (by kernel_rfl) hqC_76 hcl (by kernel_rfl) (by kernel_rfl) (op := (.load 28 (.tmp 12))) (by kernel_rfl) (by kernel_rfl) (fun w hw o ho => by rw [hC_76] at hw; exact run_loadN (cs := e_59) ho (by kernel_rfl) (by kernel_rfl) h_63 (CellsAt.all 0 rfl) _ hw) fun a hs => ?_
              refine qdl 4 1 (C.slc A_x0l x0.l.length c_x0l) hs hcl hqC_76 hC_76 rfl fun a hs => ?_
              obtain ⟨h_77, hm⟩ := ite_t hm
              obtain ⟨e_80, h_78, hm⟩ := bind_t hm
              obtain ⟨b_81, o_82, hA_83, h_79⟩ := Sl.elem hx_x0l h_78
              refine Vk.dTakeT (i := 6) (some 81) (.pointer (some ⟨b_81, o_82 + v_54.toNat * 3, none⟩)) hs (by kernel_rfl) hqC_76 hcl (by kernel_rfl) (by kernel_rfl) (op := (.indexAddr 43 (.tmp 79) (.tmp 80))) (by kernel_rfl) (by kernel_rfl) (fun w hw o ho => by rw [hC_76] at hw; exact run_idxSlc (k := .i64) ho (cap := c_x0l) (len := x0.l.length) ((congrArg (fun A => Value.slice A (x0.l.length) (c_x0l)) hA_83) ▸ (by kernel_rfl)) (by kernel_rfl) (by kernel_rfl) (idx_ok h_77 h_78) _) fun a hs => ?_
              obtain ⟨h_84, hm⟩ := ite_t hm
              refine Vk.dTakeT (i := 7) (some 82) (.agg (vals e_80)) hs (by kernel_rfl) hqC_76 hcl (by kernel_rfl) (by kernel_rfl) (op := (.load 28 (.tmp 81))) (by kernel_rfl) (by kernel_rfl) (fun w hw o ho => by rw [hC_76] at hw; exact run_loadN (cs := e_80) ho (by kernel_rfl) (by kernel_rfl) h_84 h_79 _ hw.drop.drop.drop.drop) fun a hs => ?_
              refine qdl 10 1 (cp b_x0x) hs hcl hqC_76 hC_76 rfl fun a hs => ?_
              refine Vk.dTakeT (i := 11) (some 86) (.agg (vals e_59)) hs (by kernel_rfl) hqC_76 hcl (by kernel_rfl) (by kernel_rfl) (op := (.load 28 (.tmp 12))) (by kernel_rfl) (by kernel_rfl) (fun w hw o ho => by rw [hC_76] at hw; exact run_loadN (cs := e_59) ho (by kernel_rfl) (by kernel_rfl) h_63 (CellsAt.all 0 rfl) _ hw) fun a hs => ?_
              refine qdl 13 1 (C.slc A_x0l x0.l.length c_x0l) hs hcl hqC_76 hC_76 rfl fun a hs => ?_
              obtain ⟨h_85, hm⟩ := ite_t hm
              obtain ⟨e_88, h_86, hm⟩ := bind_t hm
              obtain ⟨b_89, o_90, hA_91, h_87⟩ := Sl.elem hx_x0l h_86
              refine Vk.dTakeT (i := 15) (some 90) (.pointer (some ⟨b_89, o_90 + v_54.toNat * 3, none⟩)) hs (by kernel_rfl) hqC_76 hcl (by kernel_rfl) (by kernel_rfl) (op := (.indexAddr 43 (.tmp 88) (.tmp 89))) (by kernel_rfl) (by kernel_rfl) (fun w hw o ho => by rw [hC_76] at hw; exact run_idxSlc (k := .i64) ho (cap := c_x0l) (len := x0.l.length) ((congrArg (fun A => Value.slice A (x0.l.length) (c_x0l)) hA_91) ▸ (by kernel_rfl)) (by kernel_rfl) (by kernel_rfl) (idx_ok h_85 h_86) _) fun a hs => ?_
              obtain ⟨h_92, hm⟩ := ite_t hm
              refine Vk.dTakeT (i := 16) (some 91) (.agg (vals e_88)) hs (by kernel_rfl) hqC_76 hcl (by kernel_rfl) (by kernel_rfl) (op := (.load 28 (.tmp 90))) (by kernel_rfl) (by kernel_rfl) (fun w hw o ho => by rw [hC_76] at hw; exact run_loadN (cs := e_88) ho (by kernel_rfl) (by kernel_rfl) h_92 h_87 _ hw.drop.drop.drop.drop) fun a hs => ?_
              refine qdl 19 1 (C.slc A_x0v x0.v.length c_x0v) hs hcl hqC_76 hC_76 rfl fun a hs => ?_
              obtain ⟨h_93, hm⟩ := ite_t hm
              obtain ⟨e_96, h_94, hm⟩ := bind_t hm
              obtain ⟨b_97, o_98, hA_99, h_95⟩ := Sl.elem hx_x0v h_94
              refine Vk.dTakeT (i := 21) (some 96) (.pointer (some ⟨b_97, o_98 + v_51.toNat * 1, none⟩)) hs (by kernel_rfl) hqC_76 hcl (by kernel_rfl) (by kernel_rfl) (op := (.indexAddr 25 (.tmp 94) (.tmp 95))) (by kernel_rfl) (by kernel_rfl) (fun w hw o ho => by rw [hC_76] at hw; exact run_idxSlc (k := .i64) ho (cap := c_x0v) (len := x0.v.length) ((congrArg (fun A => Value.slice A (x0.v.length) (c_x0v)) hA_99) ▸ (by kernel_rfl)) (by kernel_rfl) (by kernel_rfl) (idx_ok h_93 h_94) _) fun a hs => ?_
              refine Vk.dTakeT (i := 22) (some 97) (vw e_96) hs (by kernel_rfl) hqC_76 hcl (by kernel_rfl) (by kernel_rfl) (op := (.load 32 (.tmp 96))) (by kernel_rfl) (by kernel_rfl) (fun w hw o ho => by rw [hC_76] at hw; exact run_load1 (c := cw e_96) ho (by kernel_rfl) (by kernel_rfl) (fun w ho => h_95 w ho 0 _ rfl) _ hw.drop.drop.drop.drop) fun a hs => ?_
              refine qdl 24 1 (C.slc A_x0v x0.v.length c_x0v) hs hcl hqC_76 hC_76 rfl fun a hs => ?_
              obtain ⟨h_100, hm⟩ := ite_t hm
              obtain ⟨e_103, h_101, hm⟩ := bind_t hm
              obtain ⟨b_104, o_105, hA_106, h_102⟩ := Sl.elem hx_x0v h_101
              refine Vk.dTakeT (i := 26) (some 101) (.pointer (some ⟨b_104, o_105 + v_54.toNat * 1, none⟩)) hs (by kernel_rfl) hqC_76 hcl (by kernel_rfl) (by kernel_rfl) (op := (.indexAddr 25 (.tmp 99) (.tmp 100))) (by kernel_rfl) (by kernel_rfl) (fun w hw o ho => by rw [hC_76] at hw; exact run_idxSlc (k := .i64) ho (cap := c_x0v) (len := x0.v.length) ((congrArg (fun A => Value.slice A (x0.v.length) (c_x0v)) hA_106) ▸ (by kernel_rfl)) (by kernel_rfl) (by kernel_rfl) (idx_ok h_100 h_101) _) fun a hs => ?_
              refine Vk.dTakeT (i := 27) (some 102) (vw e_103) hs (by kernel_rfl) hqC_76 hcl (by kernel_rfl) (by kernel_rfl) (op := (.load 32 (.tmp 101))) (by kernel_rfl) (by kernel_rfl) (fun w hw o ho => by rw [hC_76] at hw; exact run_load1 (c := cw e_103) ho (by kernel_rfl) (by kernel_rfl) (fun w ho => h_102 w ho 0 _ rfl) _ hw.drop.drop.drop.drop) fun a hs => ?_
              refine qdp (fuel := 5) [28] hs hcl hqC_76 fun a hs => ?_
              obtain ⟨v_109, h_108, hm⟩ := bind_t hm
              refine Vk.dOnly (i := 8) (by kernel_rfl) (Vk.call (some 83) 99 #[pp b_x0m, .agg (vals e_59), .agg (vals e_80)] hs (by kernel_rfl) (by kernel_rfl) (by kernel_rfl) ?_)
              refine (share_Xor.ok k x0.m e_59 e_80 v_109 h_108 κ w (pt b_64 (blk e_59 28) :: pt b_2 (blk (Tvisorlaw20_Pair.obj x0 b_x0m b_x0x A_x0l c_x0l A_x0v c_x0v) 45) :: Tvisorref19_M.own κ b_x0x x0.x :: pt b_3 (blk (Tvisorlaw20_Act.cells p_8) 58) :: pt b_4 (blk [ci 0, ci 0, ci 0] 28) :: pt b_13 (blk [ci 0, ci 0, ci 0] 28) :: pt b_14 (blk [ci 0, ci 0, ci 0] 28) :: S) b_x0m (Own.to hs.own [2, 0, 1, 3, 4, 5, 6, 7] 8 (by kernel_rfl) (by kernel_rfl))).mono ?_
              rintro _ w ⟨rfl, how⟩
              refine ⟨_, _, _, rfl, how, fun a hs => ?_⟩
              replace hcl : Own κ w C_76 := by rw [hC_76]; exact (Own.to hs.own [1, 2, 4, 5] 8 (by kernel_rfl) (by kernel_rfl))
              refine ⟨fun _ => hcl, ?_⟩
              obtain ⟨v_112, h_111, hm⟩ := bind_t hm
              refine Vk.dOnly (i := 17) (by kernel_rfl) (Vk.call (some 92) 100 #[pp b_x0x, .agg (vals e_59), .agg (vals e_88)] hs (by kernel_rfl) (by kernel_rfl) (by kernel_rfl) ?_)
              refine (visorref20_Xor.ok k x0.x e_59 e_88 v_112 h_111 κ w (Twire_Machine.own b_x0m v_109.2 :: pt b_64 (blk e_59 28) :: pt b_2 (blk (Tvisorlaw20_Pair.obj x0 b_x0m b_x0x A_x0l c_x0l A_x0v c_x0v) 45) :: pt b_3 (blk (Tvisorlaw20_Act.cells p_8) 58) :: pt b_4 (blk [ci 0, ci 0, ci 0] 28) :: pt b_13 (blk [ci 0, ci 0, ci 0] 28) :: pt b_14 (blk [ci 0, ci 0, ci 0] 28) :: S) b_x0x (Own.to hs.own [3, 0, 1, 2, 4, 5, 6, 7] 8 (by kernel_rfl) (by kernel_rfl))).mono ?_
              rintro _ w ⟨rfl, how⟩
              refine ⟨_, _, _, rfl, how, fun a hs => ?_⟩
              replace hcl : Own κ w C_76 := by rw [hC_76]; exact (Own.to hs.own [2, 3, 4, 5] 8 (by kernel_rfl) (by kernel_rfl))
              refine ⟨fun _ => hcl, ?_⟩
              obtain ⟨h_113, hm⟩ := ite_t hm
              refine Vk.dOnly (i := 29) (by kernel_rfl) (Vk.storeA (b := b_13) (ty := 28) (x := (.tmp 7)) (y := (.tmp 83)) (sz := 3) v_109.1 6 hs (by kernel_rfl) (by kernel_rfl) (by kernel_rfl) (by kernel_rfl) (by kernel_rfl) h_113 (by kernel_rfl) rfl (Eq.trans (b := 3) h_113 (Eq.symm rfl)) fun a w hs => ?_)
              replace hcl : Own κ w C_76 := by rw [hC_76]; exact (Own.to hs.own [2, 3, 4, 5] 8 (by kernel_rfl) (by kernel_rfl))
              refine ⟨fun _ => hcl, ?_⟩
              obtain ⟨h_114, hm⟩ := ite_t hm
              refine Vk.dOnly (i := 30) (by kernel_rfl) (Vk.storeA (b := b_14) (ty := 28) (x := (.tmp 8)) (y := (.tmp 92)) (sz := 3) v_112.1 7 hs (by kernel_rfl) (by kernel_rfl) (by kernel_rfl) (by kernel_rfl) (by kernel_rfl) h_114 (by kernel_rfl) rfl (Eq.trans (b := 3) h_114 (Eq.symm rfl)) fun a w hs => ?_)
              replace hcl : Own κ w C_76 := by rw [hC_76]; exact (Own.to hs.own [2, 3, 4, 5] 8 (by kernel_rfl) (by kernel_rfl))
              refine ⟨fun _ => hcl, ?_⟩
              refine qdp (fuel := 0) [31] hs hcl hqC_76 fun a hs => ?_
              replace hs := hs.pick [4, 7, 8, 9] (L' := [(4, pp b_4), (7, pp b_13), (8, pp b_14), (9, vw (bxor .u64 e_96 e_103))]) (by kernel_rfl)
              refine Vk.dDone (by kernel_rfl) ?_
              exact hj15 v_109.1 v_112.1 (bxor .u64 e_96 e_103) v_109.2 v_112.2 hm _ _ (hs.go [4, 7, 8, 9] [5, 6, 7, 1, 0] 8 (by kernel_rfl) (by kernel_rfl) (by kernel_rfl))
            · replace hm := bif_f hm hb
              refine qsr fun K115 hK115 => ?_
              refine qpe 2 [(2, pp b_2), (3, pp b_3), (4, pp b_4), (7, pp b_13), (8, pp b_14), (9, vw (bxor .u64 e_70 p_8.c)), (10, vi v_51), (12, pp b_64), (60, vi p_8.kind), (104, .bool (p_8.kind == 4))] hs fun a hs => hK115 _ _ ?_
              clear hK115
              refine qcs (p_8.kind == 4) hs (fun hb => ?_) fun hb => ?_
              · replace hm := bif_t hm hb
                obtain ⟨C_116, hC_116⟩ : ∃ X0 : List HP, X0 = (pt b_64 (blk e_59 28) :: pt b_2 (blk (Tvisorlaw20_Pair.obj x0 b_x0m b_x0x A_x0l c_x0l A_x0v c_x0v) 45) :: pt b_3 (blk (Tvisorlaw20_Act.cells p_8) 58) :: pt b_4 (blk [ci 0, ci 0, ci 0] 28) :: S) := ⟨_, rfl⟩
                refine qdr 17 κ C_116 hs fun w hs hqC_116 => ?_
                have hcz : Own κ w (pt b_64 (blk e_59 28) :: pt b_2 (blk (Tvisorlaw20_Pair.obj x0 b_x0m b_x0x A_x0l c_x0l A_x0v c_x0v) 45) :: pt b_3 (blk (Tvisorlaw20_Act.cells p_8) 58) :: pt b_4 (blk [ci 0, ci 0, ci 0] 28) :: S) := (Own.to hs.own [0, 1, 4, 5] 8 (by kernel_rfl) (by kernel_rfl))
                have hcl : Own κ w C_116 := by rw [hC_116]; exact hcz
                refine qdp (fuel := 13) [0, 4, 8, 10] hs hcl hqC_116 fun a hs => ?_
                refine qdl 1 1 (cp b_x0m) hs hcl hqC_116 hC_116 rfl fun a hs => ?_
                refine Vk.dTakeT (i := 2) (some 108) (.agg (vals e_59)) hs (by kernel_rfl) hqC_116 hcl (by kernel_rfl) (by kernel_rfl) (op := (.load 28 (.tmp 12))) (by kernel_rfl) (by kernel_rfl) (fun w hw o ho => by rw [hC_116] at hw; exact run_loadN (cs := e_59) ho (by kernel_rfl) (by kernel_rfl) h_63 (CellsAt.all 0 rfl) _ hw) fun a hs => ?_
                refine qdl 5 1 (cp b_x0x) hs hcl hqC_116 hC_116 rfl fun a hs => ?_
                refine Vk.dTakeT (i := 6) (some 112) (.agg (vals e_59)) hs (by kernel_rfl) hqC_116 hcl (by kernel_rfl) (by kernel_rfl) (op := (.load 28 (.tmp 12))) (by kernel_rfl) (by kernel_rfl) (fun w hw o ho => by rw [hC_116] at hw; exact run_loadN (cs := e_59) ho (by kernel_rfl) (by kernel_rfl) h_63 (CellsAt.all 0 rfl) _ hw) fun a hs => ?_
                refine qdl 9 1 (C.slc A_x0v x0.v.length c_x0v) hs hcl hqC_116 hC_116 rfl fun a hs => ?_
                obtain ⟨h_117, hm⟩ := ite_t hm
                obtain ⟨e_120, h_118, hm⟩ := bind_t hm
                obtain ⟨b_121, o_122, hA_123, h_119⟩ := Sl.elem hx_x0v h_118
                refine Vk.dTakeT (i := 11) (some 117) (.pointer (some ⟨b_121, o_122 + v_51.toNat * 1, none⟩)) hs (by kernel_rfl) hqC_116 hcl (by kernel_rfl) (by kernel_rfl) (op := (.indexAddr 25 (.tmp 115) (.tmp 116))) (by kernel_rfl) (by kernel_rfl) (fun w hw o ho => by rw [hC_116] at hw; exact run_idxSlc (k := .i64) ho (cap := c_x0v) (len := x0.v.length) ((congrArg (fun A => Value.slice A (x0.v.length) (c_x0v)) hA_123) ▸ (by kernel_rfl)) (by kernel_rfl) (by kernel_rfl) (idx_ok h_117 h_118) _) fun a hs => ?_
                refine Vk.dTakeT (i := 12) (some 118) (vw e_120) hs (by kernel_rfl) hqC_116 hcl (by kernel_rfl) (by kernel_rfl) (op := (.load 32 (.tmp 117))) (by kernel_rfl) (by kernel_rfl) (fun w hw o ho => by rw [hC_116] at hw; exact run_load1 (c := cw e_120) ho (by kernel_rfl) (by kernel_rfl) (fun w ho => h_119 w ho 0 _ rfl) _ hw.drop.drop.drop.drop) fun a hs => ?_
                refine qdp (fuel := 5) [13] hs hcl hqC_116 fun a hs => ?_
                obtain ⟨v_126, h_125, hm⟩ := bind_t hm
                refine Vk.dOnly (i := 3) (by kernel_rfl) (Vk.call (some 109) 101 #[pp b_x0m, .agg (vals e_59)] hs (by kernel_rfl) (by kernel_rfl) (by kernel_rfl) ?_)
                refine (share_Not.ok k x0.m e_59 v_126 h_125 κ w (pt b_64 (blk e_59 28) :: pt b_2 (blk (Tvisorlaw20_Pair.obj x0 b_x0m b_x0x A_x0l c_x0l A_x0v c_x0v) 45) :: Tvisorref19_M.own κ b_x0x x0.x :: pt b_3 (blk (Tvisorlaw20_Act.cells p_8) 58) :: pt b_4 (blk [ci 0, ci 0, ci 0] 28) :: pt b_13 (blk [ci 0, ci 0, ci 0] 28) :: pt b_14 (blk [ci 0, ci 0, ci 0] 28) :: S) b_x0m (Own.to hs.own [2, 0, 1, 3, 4, 5, 6, 7] 8 (by kernel_rfl) (by kernel_rfl))).mono ?_
                rintro _ w ⟨rfl, how⟩
                refine ⟨_, _, _, rfl, how, fun a hs => ?_⟩
                replace hcl : Own κ w C_116 := by rw [hC_116]; exact (Own.to hs.own [1, 2, 4, 5] 8 (by kernel_rfl) (by kernel_rfl))
                refine ⟨fun _ => hcl, ?_⟩
                obtain ⟨v_129, h_128, hm⟩ := bind_t hm
                refine Vk.dOnly (i := 7) (by kernel_rfl) (Vk.call (some 113) 102 #[pp b_x0x, .agg (vals e_59)] hs (by kernel_rfl) (by kernel_rfl) (by kernel_rfl) ?_)
                refine (visorref20_Not.ok k x0.x e_59 v_129 h_128 κ w (Twire_Machine.own b_x0m v_126.2 :: pt b_64 (blk e_59 28) :: pt b_2 (blk (Tvisorlaw20_Pair.obj x0 b_x0m b_x0x A_x0l c_x0l A_x0v c_x0v) 45) :: pt b_3 (blk (Tvisorlaw20_Act.cells p_8) 58) :: pt b_4 (blk [ci 0, ci 0, ci 0] 28) :: pt b_13 (blk [ci 0, ci 0, ci 0] 28) :: pt b_14 (blk [ci 0, ci 0, ci 0] 28) :: S) b_x0x (Own.to hs.own [3, 0, 1, 2, 4, 5, 6, 7] 8 (by kernel_rfl) (by kernel_rfl))).mono ?_
                rintro _ w ⟨rfl, how⟩
                refine ⟨_, _, _, rfl, how, fun a hs => ?_⟩
                replace hcl : Own κ w C_116 := by rw [hC_116]; exact (Own.to hs.own [2, 3, 4, 5] 8 (by kernel_rfl) (by kernel_rfl))
                refine ⟨fun _ => hcl, ?_⟩
                obtain ⟨h_130, hm⟩ := ite_t hm
                refine Vk.dOnly (i := 14) (by kernel_rfl) (Vk.storeA (b := b_13) (ty := 28) (x := (.tmp 7)) (y := (.tmp 109)) (sz := 3) v_126.1 6 hs (by kernel_rfl) (by kernel_rfl) (by kernel_rfl) (by kernel_rfl) (by kernel_rfl) h_130 (by kernel_rfl) rfl (Eq.trans (b := 3) h_130 (Eq.symm rfl)) fun a w hs => ?_)
                replace hcl : Own κ w C_116 := by rw [hC_116]; exact (Own.to hs.own [2, 3, 4, 5] 8 (by kernel_rfl) (by kernel_rfl))
                refine ⟨fun _ => hcl, ?_⟩
                obtain ⟨h_131, hm⟩ := ite_t hm
                refine Vk.dOnly (i := 15) (by kernel_rfl) (Vk.storeA (b := b_14) (ty := 28) (x := (.tmp 8)) (y := (.tmp 113)) (sz := 3) v_129.1 7 hs (by kernel_rfl) (by kernel_rfl) (by kernel_rfl) (by kernel_rfl) (by kernel_rfl) h_131 (by kernel_rfl) rfl (Eq.trans (b := 3) h_131 (Eq.symm rfl)) fun a w hs => ?_)
                replace hcl : Own κ w C_116 := by rw [hC_116]; exact (Own.to hs.own [2, 3, 4, 5] 8 (by kernel_rfl) (by kernel_rfl))
                refine ⟨fun _ => hcl, ?_⟩
                refine qdp (fuel := 0) [16] hs hcl hqC_116 fun a hs => ?_
                replace hs := hs.pick [4, 7, 8, 9] (L' := [(4, pp b_4), (7, pp b_13), (8, pp b_14), (9, vw (bnot .u64 e_120))]) (by kernel_rfl)
                refine Vk.dDone (by kernel_rfl) ?_
                exact hj15 v_126.1 v_129.1 (bnot .u64 e_120) v_126.2 v_129.2 hm _ _ (hs.go [4, 7, 8, 9] [5, 6, 7, 1, 0] 8 (by kernel_rfl) (by kernel_rfl) (by kernel_rfl))
              · replace hm := bif_f hm hb
                refine qsr fun K132 hK132 => ?_
                refine qpe 2 [(2, pp b_2), (3, pp b_3), (4, pp b_4), (7, pp b_13), (8, pp b_14), (9, vw (bxor .u64 e_70 p_8.c)), (10, vi v_51), (12, pp b_64), (60, vi p_8.kind), (120, .bool (p_8.kind == 5))] hs fun a hs => hK132 _ _ ?_
                clear hK132
                refine qcs (p_8.kind == 5) hs (fun hb => ?_) fun hb => ?_
                · replace hm := bif_t hm hb
                  refine Vk.seq fun K133 hK133 => ?_
                  obtain ⟨C_134, hC_134⟩ : ∃ X0 : List HP, X0 = (pt b_64 (blk e_59 28) :: pt b_2 (blk (Tvisorlaw20_Pair.obj x0 b_x0m b_x0x A_x0l c_x0l A_x0v c_x0v) 45) :: Twire_Machine.own b_x0m x0.m :: Tvisorref19_M.own κ b_x0x x0.x :: pt b_3 (blk (Tvisorlaw20_Act.cells p_8) 58) :: pt b_4 (blk [ci 0, ci 0, ci 0] 28) :: pt b_13 (blk [ci 0, ci 0, ci 0] 28) :: pt b_14 (blk [ci 0, ci 0, ci 0] 28) :: S) := ⟨_, rfl⟩
                  refine qdr 6 κ C_134 hs fun w hs hqC_134 => ?_
                  have hcz : Own κ w (pt b_64 (blk e_59 28) :: pt b_2 (blk (Tvisorlaw20_Pair.obj x0 b_x0m b_x0x A_x0l c_x0l A_x0v c_x0v) 45) :: Twire_Machine.own b_x0m x0.m :: Tvisorref19_M.own κ b_x0x x0.x :: pt b_3 (blk (Tvisorlaw20_Act.cells p_8) 58) :: pt b_4 (blk [ci 0, ci 0, ci 0] 28) :: pt b_13 (blk [ci 0, ci 0, ci 0] 28) :: pt b_14 (blk [ci 0, ci 0, ci 0] 28) :: S) := (Own.to hs.own [0, 1, 2, 3, 4, 5, 6, 7] 8 (by kernel_rfl) (by kernel_rfl))
                  have hcl : Own κ w C_134 := by rw [hC_134]; exact hcz
                  refine qdp (fuel := 5) [1] hs hcl hqC_134 fun a hs => ?_
                  refine qdl 2 4 (ci p_8.k) hs hcl hqC_134 hC_134 rfl fun a hs => ?_
                  obtain ⟨h_135, hm⟩ := ite_t hm
                  refine Vk.dOnly (i := 0) (by kernel_rfl) (Vk.makeOp (x := (.const (vi 4))) (y := (.const (vi 4))) (kl := .i64) (kc := .i64) (enc := eC) (sz := 3) (by_ := 24) (t := 43) (e := 28) ([ci 0, ci 0, ci 0]) (some 122) hs (by kernel_rfl) (by kernel_rfl) (by kernel_rfl) (by kernel_rfl) (by kernel_rfl) (by kernel_rfl) rfl (by decide) h_135 (by decide) fun A_136 w a hs => ?_)
                  replace hcl : Own κ w C_134 := by rw [hC_134]; exact (Own.to hs.own [1, 2, 3, 4, 5, 6, 7, 8] 9 (by kernel_rfl) (by kernel_rfl))
                  refine ⟨fun _ => hcl, ?_⟩
                  obtain ⟨v_140, h_139, hm⟩ := bind_t hm
                  refine Vk.dOnly (i := 3) (by kernel_rfl) (Vk.call (some 125) 98 #[.slice A_136 ((List.replicate 4 [ci 0, ci 0, ci 0] : List Cells).length) 4, vi p_8.k] hs (by kernel_rfl) (by kernel_rfl) (by kernel_rfl) ?_)
                  refine (visorlaw20_pick.ok k (List.replicate 4 [ci 0, ci 0, ci 0] : List Cells) p_8.k v_140 h_139 κ w (rowp A_136 4 28 3 eC (List.replicate 4 [ci 0, ci 0, ci 0] : List Cells) :: pt b_64 (blk e_59 28) :: pt b_2 (blk (Tvisorlaw20_Pair.obj x0 b_x0m b_x0x A_x0l c_x0l A_x0v c_x0v) 45) :: Twire_Machine.own b_x0m x0.m :: Tvisorref19_M.own κ b_x0x x0.x :: pt b_3 (blk (Tvisorlaw20_Act.cells p_8) 58) :: pt b_4 (blk [ci 0, ci 0, ci 0] 28) :: pt b_13 (blk [ci 0, ci 0, ci 0] 28) :: pt b_14 (blk [ci 0, ci 0, ci 0] 28) :: S) A_136 4 (Sl.lift (fun w ho => (Own.to (S' := rowp A_136 4 28 3 eC (List.replicate 4 [ci 0, ci 0, ci 0] : List Cells) :: S) ho [0] 9 (by kernel_rfl) (by kernel_rfl))) (Own.rowSl 0 (Own.to (S' := rowp A_136 4 28 3 eC (List.replicate 4 [ci 0, ci 0, ci 0] : List Cells) :: S) hs.own [0] 9 (by kernel_rfl) (by kernel_rfl)) rfl)) hs.own).mono ?_
                  rintro _ w ⟨rfl, how⟩
                  refine ⟨_, _, _, rfl, how, fun a hs => ?_⟩
                  replace hcl : Own κ w C_134 := by rw [hC_134]; exact (Own.to hs.own [1, 2, 3, 4, 5, 6, 7, 8] 9 (by kernel_rfl) (by kernel_rfl))
                  refine ⟨fun _ => hcl, ?_⟩
                  refine qdp (fuel := 0) [4, 5] hs hcl hqC_134 fun a hs => ?_
                  replace hs := hs.pick [2, 3, 4, 7, 8, 10, 12, 13] (L' := [(2, pp b_2), (3, pp b_3), (4, pp b_4), (7, pp b_13), (8, pp b_14), (10, vi v_51), (12, pp b_64), (13, vi (IntKind.i64.wrap (8 + v_140)))]) (by kernel_rfl)
                  refine Vk.dDone (by kernel_rfl) ?_
                  refine hK133 _ _ ?_
                  clear hK133
                  refine qsr fun K141 hK141 => ?_
                  refine qpu 1 hs fun a hs => ?_
                  refine qld 5 (cw p_8.c) hs rfl fun a hs => ?_
                  refine qpe 1 [(2, pp b_2), (3, pp b_3), (4, pp b_4), (7, pp b_13), (8, pp b_14), (10, vi v_51), (12, pp b_64), (13, vi (IntKind.i64.wrap (8 + v_140))), (14, vw p_8.c)] hs fun a hs => hK141 _ _ ?_
                  clear hK141
                  refine Vk.seq fun K142 hK142 => ?_
                  have hj142 : ∀ (p_144 : Int), visorlaw20_Pair_does.j4 k x0 v_51 e_59 v_140 p_144 = some r → ∀ (a : Act) (w : World), St 209 a w κ [(2, pp b_2), (4, pp b_4), (7, pp b_13), (8, pp b_14), (10, vi v_51), (12, pp b_64), (13, vi (IntKind.i64.wrap (8 + v_140))), (14, vw p_144)] (pt b_2 (blk (Tvisorlaw20_Pair.obj x0 b_x0m b_x0x A_x0l c_x0l A_x0v c_x0v) 45) :: Twire_Machine.own b_x0m x0.m :: Tvisorref19_M.own κ b_x0x x0.x :: pt b_4 (blk [ci 0, ci 0, ci 0] 28) :: pt b_13 (blk [ci 0, ci 0, ci 0] 28) :: pt b_14 (blk [ci 0, ci 0, ci 0] 28) :: pt b_64 (blk e_59 28) :: S) → K142 a w := by
                    intro p_144 hm a w hs
                    unfold visorlaw20_Pair_does.j4 at hm
                    refine hK142 _ _ ?_
                    refine Vk.seq fun K145 hK145 => ?_
                    obtain ⟨C_146, hC_146⟩ : ∃ X0 : List HP, X0 = (pt b_2 (blk (Tvisorlaw20_Pair.obj x0 b_x0m b_x0x A_x0l c_x0l A_x0v c_x0v) 45) :: Tvisorref19_M.own κ b_x0x x0.x :: pt b_4 (blk [ci 0, ci 0, ci 0] 28) :: pt b_13 (blk [ci 0, ci 0, ci 0] 28) :: pt b_14 (blk [ci 0, ci 0, ci 0] 28) :: pt b_64 (blk e_59 28) :: S) := ⟨_, rfl⟩
                    refine qdr 11 κ C_146 hs fun w hs hqC_146 => ?_
                    have hcz : Own κ w (pt b_2 (blk (Tvisorlaw20_Pair.obj x0 b_x0m b_x0x A_x0l c_x0l A_x0v c_x0v) 45) :: Tvisorref19_M.own κ b_x0x x0.x :: pt b_4 (blk [ci 0, ci 0, ci 0] 28) :: pt b_13 (blk [ci 0, ci 0, ci 0] 28) :: pt b_14 (blk [ci 0, ci 0, ci 0] 28) :: pt b_64 (blk e_59 28) :: S) := (Own.to hs.own [0, 2, 3, 4, 5, 6] 7 (by kernel_rfl) (by kernel_rfl))
                    have hcl : Own κ w C_146 := by rw [hC_146]; exact hcz
                    refine qdp (fuel := 8) [0, 2, 4, 6, 8, 10] hs hcl hqC_146 fun a hs => ?_
                    refine qdl 1 0 (cp b_x0m) hs hcl hqC_146 hC_146 rfl fun a hs => ?_
                    refine Vk.dTakeT (i := 3) (some 137) (.agg (vals e_59)) hs (by kernel_rfl) hqC_146 hcl (by kernel_rfl) (by kernel_rfl) (op := (.load 28 (.tmp 12))) (by kernel_rfl) (by kernel_rfl) (fun w hw o ho => by rw [hC_146] at hw; exact run_loadN (cs := e_59) ho (by kernel_rfl) (by kernel_rfl) h_63 (CellsAt.all 5 rfl) _ hw) fun a hs => ?_
                    refine qdl 7 0 (cp b_x0x) hs hcl hqC_146 hC_146 rfl fun a hs => ?_
                    refine Vk.dTakeT (i := 9) (some 143) (.agg (vals e_59)) hs (by kernel_rfl) hqC_146 hcl (by kernel_rfl) (by kernel_rfl) (op := (.load 28 (.tmp 12))) (by kernel_rfl) (by kernel_rfl) (fun w hw o ho => by rw [hC_146] at hw; exact run_loadN (cs := e_59) ho (by kernel_rfl) (by kernel_rfl) h_63 (CellsAt.all 5 rfl) _ hw) fun a hs => ?_
                    obtain ⟨v_149, h_148, hm⟩ := bind_t hm
                    refine Vk.dOnly (i := 5) (by kernel_rfl) (Vk.call (some 139) 103 #[pp b_x0m, vi (IntKind.i64.wrap (8 + v_140)), .agg (vals e_59), vw p_144] hs (by kernel_rfl) (by kernel_rfl) (by kernel_rfl) ?_)
                    refine (share_One.ok k x0.m (IntKind.i64.wrap (8 + v_140)) e_59 p_144 v_149 h_148 κ w (pt b_2 (blk (Tvisorlaw20_Pair.obj x0 b_x0m b_x0x A_x0l c_x0l A_x0v c_x0v) 45) :: Tvisorref19_M.own κ b_x0x x0.x :: pt b_4 (blk [ci 0, ci 0, ci 0] 28) :: pt b_13 (blk [ci 0, ci 0, ci 0] 28) :: pt b_14 (blk [ci 0, ci 0, ci 0] 28) :: pt b_64 (blk e_59 28) :: S) b_x0m (Own.to hs.own [1, 0, 2, 3, 4, 5, 6] 7 (by kernel_rfl) (by kernel_rfl))).mono ?_
                    rintro _ w ⟨rfl, how⟩
                    refine ⟨_, _, _, rfl, how, fun a hs => ?_⟩
                    replace hcl : Own κ w C_146 := by rw [hC_146]; exact (Own.to hs.own [1, 2, 3, 4, 5, 6] 7 (by kernel_rfl) (by kernel_rfl))
                    refine ⟨fun _ => hcl, ?_⟩
                    obtain ⟨v_152, h_151, hm⟩ := bind_t hm
                    refine Vk.dOnly (i := 11) (by kernel_rfl) (Vk.call (some 145) 104 #[pp b_x0x, vi (IntKind.i64.wrap (8 + v_140)), .agg (vals e_59), vw p_144] hs (by kernel_rfl) (by kernel_rfl) (by kernel_rfl) ?_)
                    refine (visorref20_One.ok k x0.x (IntKind.i64.wrap (8 + v_140)) e_59 p_144 v_152 h_151 κ w (Twire_Machine.own b_x0m v_149.2 :: pt b_2 (blk (Tvisorlaw20_Pair.obj x0 b_x0m b_x0x A_x0l c_x0l A_x0v c_x0v) 45) :: pt b_4 (blk [ci 0, ci 0, ci 0] 28) :: pt b_13 (blk [ci 0, ci 0, ci 0] 28) :: pt b_14 (blk [ci 0, ci 0, ci 0] 28) :: pt b_64 (blk e_59 28) :: S) b_x0x (Own.to hs.own [2, 0, 1, 3, 4, 5, 6] 7 (by kernel_rfl) (by kernel_rfl))).mono ?_
                    rintro _ w ⟨rfl, how⟩
                    refine ⟨_, _, _, rfl, how, fun a hs => ?_⟩
                    refine ⟨fun h => absurd h (by decide), ?_⟩
                    obtain ⟨h_153, hm⟩ := ite_t hm
                    refine Vk.dOnly (i := 12) (by kernel_rfl) (Vk.storeA (b := b_13) (ty := 28) (x := (.tmp 7)) (y := (.tmp 139)) (sz := 3) v_149.1 4 hs (by kernel_rfl) (by kernel_rfl) (by kernel_rfl) (by kernel_rfl) (by kernel_rfl) h_153 (by kernel_rfl) rfl (Eq.trans (b := 3) h_153 (Eq.symm rfl)) fun a w hs => ?_)
                    refine ⟨fun h => absurd h (by decide), ?_⟩
                    obtain ⟨h_154, hm⟩ := ite_t hm
                    refine Vk.dOnly (i := 13) (by kernel_rfl) (Vk.storeA (b := b_14) (ty := 28) (x := (.tmp 8)) (y := (.tmp 145)) (sz := 3) v_152.1 5 hs (by kernel_rfl) (by kernel_rfl) (by kernel_rfl) (by kernel_rfl) (by kernel_rfl) h_154 (by kernel_rfl) rfl (Eq.trans (b := 3) h_154 (Eq.symm rfl)) fun a w hs => ?_)
                    refine ⟨fun h => absurd h (by decide), ?_⟩
                    replace hs := hs.pick [2, 4, 7, 8, 10, 13, 14] (L' := [(2, pp b_2), (4, pp b_4), (7, pp b_13), (8, pp b_14), (10, vi v_51), (13, vi (IntKind.i64.wrap (8 + v_140))), (14, vw p_144)]) (by kernel_rfl)
                    refine Vk.dDone (by kernel_rfl) ?_
                    refine hK145 _ _ ?_
                    clear hK145
                    refine Vk.region ?_
                    refine qpu 2 hs fun a hs => ?_
                    refine qld 2 (C.slc A_x0v x0.v.length c_x0v) hs rfl fun a hs => ?_
                    refine qpu 1 hs fun a hs => ?_
                    obtain ⟨h_155, hm⟩ := ite_t hm
                    obtain ⟨e_158, h_156, hm⟩ := bind_t hm
                    obtain ⟨b_159, o_160, hA_161, h_157⟩ := Sl.elem hx_x0v h_156
                    refine Vk.step (Vk.value (some 150) (.pointer (some ⟨b_159, o_160 + v_51.toNat * 1, none⟩)) hs (by kernel_rfl) (op := (.indexAddr 25 (.tmp 148) (.tmp 149))) (by kernel_rfl) (fun o ho => run_idxSlc (k := .i64) ho (cap := c_x0v) (len := x0.v.length) ((congrArg (fun A => Value.slice A (x0.v.length) (c_x0v)) hA_161) ▸ (by kernel_rfl)) (by kernel_rfl) (by kernel_rfl) (idx_ok h_155 h_156) _) fun a hs => ?_)
                    refine Vk.step (Vk.value (some 151) (vw e_158) hs (by kernel_rfl) (op := (.load 32 (.tmp 150))) (by kernel_rfl) (fun o ho => run_load1 (c := cw e_158) ho (by kernel_rfl) (by kernel_rfl) (fun w ho => h_157 w ho 0 _ rfl) _ hs.own.drop.drop.drop.drop.drop.drop.drop) fun a hs => ?_)
                    refine qpu 1 hs fun a hs => ?_
                    obtain ⟨v_164, h_163, hm⟩ := bind_t hm
                    refine Vk.step (Vk.call (some 153) 105 #[vi (IntKind.i64.wrap (8 + v_140)), vw e_158, vw p_144] hs (by kernel_rfl) (by kernel_rfl) (by kernel_rfl) ?_)
                    refine (visorlaw20_moved.ok k (IntKind.i64.wrap (8 + v_140)) e_158 p_144 v_164 h_163 κ w (Tvisorref19_M.own κ b_x0x v_152.2 :: Twire_Machine.own b_x0m v_149.2 :: pt b_2 (blk (Tvisorlaw20_Pair.obj x0 b_x0m b_x0x A_x0l c_x0l A_x0v c_x0v) 45) :: pt b_4 (blk [ci 0, ci 0, ci 0] 28) :: pt b_13 (blk v_149.1 28) :: pt b_14 (blk v_152.1 28) :: pt b_64 (blk e_59 28) :: S) hs.own).mono ?_
                    rintro _ w ⟨rfl, how⟩
                    refine ⟨_, _, _, rfl, how, fun a hs => ?_⟩
                    refine qpe 1 [(4, pp b_4), (7, pp b_13), (8, pp b_14), (9, vw v_164)] hs fun a hs => ?_
                    exact hj15 v_149.1 v_152.1 v_164 v_149.2 v_152.2 hm _ _ (hs.go [4, 7, 8, 9] [3, 4, 5, 1, 0] 7 (by kernel_rfl) (by kernel_rfl) (by kernel_rfl))
                  refine qsr fun K143 hK143 => ?_
                  refine qpe 2 [(2, pp b_2), (3, pp b_3), (4, pp b_4), (7, pp b_13), (8, pp b_14), (10, vi v_51), (12, pp b_64), (13, vi (IntKind.i64.wrap (8 + v_140))), (14, vw p_8.c), (130, .bool (decide ((IntKind.i64.wrap (8 + v_140)) > 8)))] hs fun a hs => hK143 _ _ ?_
                  clear hK143
                  refine qcs (decide ((IntKind.i64.wrap (8 + v_140)) > 8)) hs (fun hb => ?_) fun hb => ?_
                  · replace hm := bif_t hm hb
                    refine Vk.region ?_
                    refine qpu 1 hs fun a hs => ?_
                    refine qld 5 (cw p_8.c) hs rfl fun a hs => ?_
                    refine qpe 2 [(2, pp b_2), (4, pp b_4), (7, pp b_13), (8, pp b_14), (10, vi v_51), (12, pp b_64), (13, vi (IntKind.i64.wrap (8 + v_140))), (14, vw (Int.tmod p_8.c 64))] hs fun a hs => ?_
                    exact hj142 (Int.tmod p_8.c 64) hm _ _ (hs.go [2, 4, 7, 8, 10, 12, 13, 14] [2, 3, 4, 6, 7, 8, 1] 9 (by kernel_rfl) (by kernel_rfl) (by kernel_rfl))
                  · replace hm := bif_f hm hb
                    refine wp_skip ?_
                    exact hj142 p_8.c hm _ _ (hs.go [2, 4, 7, 8, 10, 12, 13, 14] [2, 3, 4, 6, 7, 8, 1] 9 (by kernel_rfl) (by kernel_rfl) (by kernel_rfl))
                · replace hm := bif_f hm hb
                  refine qsr fun K165 hK165 => ?_
                  refine qpe 2 [(2, pp b_2), (3, pp b_3), (4, pp b_4), (7, pp b_13), (8, pp b_14), (9, vw (bxor .u64 e_70 p_8.c)), (12, pp b_64), (154, .bool (p_8.kind == 6))] hs fun a hs => hK165 _ _ ?_
                  clear hK165
                  refine qcs (p_8.kind == 6) hs (fun hb => ?_) fun hb => ?_
                  · replace hm := bif_t hm hb
                    obtain ⟨C_166, hC_166⟩ : ∃ X0 : List HP, X0 = (pt b_64 (blk e_59 28) :: pt b_2 (blk (Tvisorlaw20_Pair.obj x0 b_x0m b_x0x A_x0l c_x0l A_x0v c_x0v) 45) :: Tvisorref19_M.own κ b_x0x x0.x :: pt b_3 (blk (Tvisorlaw20_Act.cells p_8) 58) :: pt b_4 (blk [ci 0, ci 0, ci 0] 28) :: pt b_13 (blk [ci 0, ci 0, ci 0] 28) :: pt b_14 (blk [ci 0, ci 0, ci 0] 28) :: S) := ⟨_, rfl⟩
                    refine qdr 11 κ C_166 hs fun w hs hqC_166 => ?_
                    have hcz : Own κ w (pt b_64 (blk e_59 28) :: pt b_2 (blk (Tvisorlaw20_Pair.obj x0 b_x0m b_x0x A_x0l c_x0l A_x0v c_x0v) 45) :: Tvisorref19_M.own κ b_x0x x0.x :: pt b_3 (blk (Tvisorlaw20_Act.cells p_8) 58) :: pt b_4 (blk [ci 0, ci 0, ci 0] 28) :: pt b_13 (blk [ci 0, ci 0, ci 0] 28) :: pt b_14 (blk [ci 0, ci 0, ci 0] 28) :: S) := (Own.to hs.own [0, 1, 3, 4, 5, 6, 7] 8 (by kernel_rfl) (by kernel_rfl))
                    have hcl : Own κ w C_166 := by rw [hC_166]; exact hcz
                    refine qdp (fuel := 10) [0, 3, 6, 9] hs hcl hqC_166 fun a hs => ?_
                    refine qdl 1 1 (cp b_x0m) hs hcl hqC_166 hC_166 rfl fun a hs => ?_
                    refine Vk.dTakeT (i := 2) (some 158) (.agg (vals e_59)) hs (by kernel_rfl) hqC_166 hcl (by kernel_rfl) (by kernel_rfl) (op := (.load 28 (.tmp 12))) (by kernel_rfl) (by kernel_rfl) (fun w hw o ho => by rw [hC_166] at hw; exact run_loadN (cs := e_59) ho (by kernel_rfl) (by kernel_rfl) h_63 (CellsAt.all 0 rfl) _ hw) fun a hs => ?_
                    refine qdl 4 3 (cw p_8.c) hs hcl hqC_166 hC_166 rfl fun a hs => ?_
                    refine qdl 7 1 (cp b_x0x) hs hcl hqC_166 hC_166 rfl fun a hs => ?_
                    refine Vk.dTakeT (i := 8) (some 164) (.agg (vals e_59)) hs (by kernel_rfl) hqC_166 hcl (by kernel_rfl) (by kernel_rfl) (op := (.load 28 (.tmp 12))) (by kernel_rfl) (by kernel_rfl) (fun w hw o ho => by rw [hC_166] at hw; exact run_loadN (cs := e_59) ho (by kernel_rfl) (by kernel_rfl) h_63 (CellsAt.all 0 rfl) _ hw) fun a hs => ?_
                    refine qdl 10 3 (cw p_8.c) hs hcl hqC_166 hC_166 rfl fun a hs => ?_
                    obtain ⟨v_169, h_168, hm⟩ := bind_t hm
                    refine Vk.dOnly (i := 5) (by kernel_rfl) (Vk.call (some 161) 106 #[pp b_x0m, .agg (vals e_59), vw p_8.c] hs (by kernel_rfl) (by kernel_rfl) (by kernel_rfl) ?_)
                    refine (share_Add.ok k x0.m e_59 p_8.c v_169 h_168 κ w (pt b_64 (blk e_59 28) :: pt b_2 (blk (Tvisorlaw20_Pair.obj x0 b_x0m b_x0x A_x0l c_x0l A_x0v c_x0v) 45) :: Tvisorref19_M.own κ b_x0x x0.x :: pt b_3 (blk (Tvisorlaw20_Act.cells p_8) 58) :: pt b_4 (blk [ci 0, ci 0, ci 0] 28) :: pt b_13 (blk [ci 0, ci 0, ci 0] 28) :: pt b_14 (blk [ci 0, ci 0, ci 0] 28) :: S) b_x0m (Own.to hs.own [2, 0, 1, 3, 4, 5, 6, 7] 8 (by kernel_rfl) (by kernel_rfl))).mono ?_
                    rintro _ w ⟨rfl, how⟩
                    refine ⟨_, _, _, rfl, how, fun a hs => ?_⟩
                    replace hcl : Own κ w C_166 := by rw [hC_166]; exact (Own.to hs.own [1, 2, 3, 4, 5, 6, 7] 8 (by kernel_rfl) (by kernel_rfl))
                    refine ⟨fun _ => hcl, ?_⟩
                    obtain ⟨v_172, h_171, hm⟩ := bind_t hm
                    refine Vk.dOnly (i := 11) (by kernel_rfl) (Vk.call (some 167) 107 #[pp b_x0x, vi 3, .agg (vals e_59), vw p_8.c] hs (by kernel_rfl) (by kernel_rfl) (by kernel_rfl) ?_)
                    refine (visorref20_Add.ok k x0.x 3 e_59 p_8.c v_172 h_171 κ w (Twire_Machine.own b_x0m v_169.2 :: pt b_64 (blk e_59 28) :: pt b_2 (blk (Tvisorlaw20_Pair.obj x0 b_x0m b_x0x A_x0l c_x0l A_x0v c_x0v) 45) :: pt b_3 (blk (Tvisorlaw20_Act.cells p_8) 58) :: pt b_4 (blk [ci 0, ci 0, ci 0] 28) :: pt b_13 (blk [ci 0, ci 0, ci 0] 28) :: pt b_14 (blk [ci 0, ci 0, ci 0] 28) :: S) b_x0x (Own.to hs.own [3, 0, 1, 2, 4, 5, 6, 7] 8 (by kernel_rfl) (by kernel_rfl))).mono ?_
                    rintro _ w ⟨rfl, how⟩
                    refine ⟨_, _, _, rfl, how, fun a hs => ?_⟩
                    refine ⟨fun h => absurd h (by decide), ?_⟩
                    obtain ⟨h_173, hm⟩ := ite_t hm
                    refine Vk.dOnly (i := 12) (by kernel_rfl) (Vk.storeA (b := b_13) (ty := 28) (x := (.tmp 7)) (y := (.tmp 161)) (sz := 3) v_169.1 6 hs (by kernel_rfl) (by kernel_rfl) (by kernel_rfl) (by kernel_rfl) (by kernel_rfl) h_173 (by kernel_rfl) rfl (Eq.trans (b := 3) h_173 (Eq.symm rfl)) fun a w hs => ?_)
                    refine ⟨fun h => absurd h (by decide), ?_⟩
                    obtain ⟨h_174, hm⟩ := ite_t hm
                    refine Vk.dOnly (i := 13) (by kernel_rfl) (Vk.storeA (b := b_14) (ty := 28) (x := (.tmp 8)) (y := (.tmp 167)) (sz := 3) v_172.1 7 hs (by kernel_rfl) (by kernel_rfl) (by kernel_rfl) (by kernel_rfl) (by kernel_rfl) h_174 (by kernel_rfl) rfl (Eq.trans (b := 3) h_174 (Eq.symm rfl)) fun a w hs => ?_)
                    refine ⟨fun h => absurd h (by decide), ?_⟩
                    replace hs := hs.pick [4, 7, 8, 9] (L' := [(4, pp b_4), (7, pp b_13), (8, pp b_14), (9, vw (bxor .u64 e_70 p_8.c))]) (by kernel_rfl)
                    refine Vk.dDone (by kernel_rfl) ?_
                    exact hj15 v_169.1 v_172.1 (bxor .u64 e_70 p_8.c) v_169.2 v_172.2 hm _ _ (hs.go [4, 7, 8, 9] [5, 6, 7, 1, 0] 8 (by kernel_rfl) (by kernel_rfl) (by kernel_rfl))
                  · replace hm := bif_f hm hb
                    obtain ⟨C_175, hC_175⟩ : ∃ X0 : List HP, X0 = (pt b_64 (blk e_59 28) :: pt b_2 (blk (Tvisorlaw20_Pair.obj x0 b_x0m b_x0x A_x0l c_x0l A_x0v c_x0v) 45) :: Tvisorref19_M.own κ b_x0x x0.x :: pt b_3 (blk (Tvisorlaw20_Act.cells p_8) 58) :: pt b_4 (blk [ci 0, ci 0, ci 0] 28) :: pt b_13 (blk [ci 0, ci 0, ci 0] 28) :: pt b_14 (blk [ci 0, ci 0, ci 0] 28) :: S) := ⟨_, rfl⟩
                    refine qdr 11 κ C_175 hs fun w hs hqC_175 => ?_
                    have hcz : Own κ w (pt b_64 (blk e_59 28) :: pt b_2 (blk (Tvisorlaw20_Pair.obj x0 b_x0m b_x0x A_x0l c_x0l A_x0v c_x0v) 45) :: Tvisorref19_M.own κ b_x0x x0.x :: pt b_3 (blk (Tvisorlaw20_Act.cells p_8) 58) :: pt b_4 (blk [ci 0, ci 0, ci 0] 28) :: pt b_13 (blk [ci 0, ci 0, ci 0] 28) :: pt b_14 (blk [ci 0, ci 0, ci 0] 28) :: S) := (Own.to hs.own [0, 1, 3, 4, 5, 6, 7] 8 (by kernel_rfl) (by kernel_rfl))
                    have hcl : Own κ w C_175 := by rw [hC_175]; exact hcz
                    refine qdp (fuel := 10) [0, 3, 6, 9] hs hcl hqC_175 fun a hs => ?_
                    refine qdl 1 1 (cp b_x0m) hs hcl hqC_175 hC_175 rfl fun a hs => ?_
                    refine Vk.dTakeT (i := 2) (some 63) (.agg (vals e_59)) hs (by kernel_rfl) hqC_175 hcl (by kernel_rfl) (by kernel_rfl) (op := (.load 28 (.tmp 12))) (by kernel_rfl) (by kernel_rfl) (fun w hw o ho => by rw [hC_175] at hw; exact run_loadN (cs := e_59) ho (by kernel_rfl) (by kernel_rfl) h_63 (CellsAt.all 0 rfl) _ hw) fun a hs => ?_
                    refine qdl 4 3 (cw p_8.c) hs hcl hqC_175 hC_175 rfl fun a hs => ?_
                    refine qdl 7 1 (cp b_x0x) hs hcl hqC_175 hC_175 rfl fun a hs => ?_
                    refine Vk.dTakeT (i := 8) (some 69) (.agg (vals e_59)) hs (by kernel_rfl) hqC_175 hcl (by kernel_rfl) (by kernel_rfl) (op := (.load 28 (.tmp 12))) (by kernel_rfl) (by kernel_rfl) (fun w hw o ho => by rw [hC_175] at hw; exact run_loadN (cs := e_59) ho (by kernel_rfl) (by kernel_rfl) h_63 (CellsAt.all 0 rfl) _ hw) fun a hs => ?_
                    refine qdl 10 3 (cw p_8.c) hs hcl hqC_175 hC_175 rfl fun a hs => ?_
                    obtain ⟨v_178, h_177, hm⟩ := bind_t hm
                    refine Vk.dOnly (i := 5) (by kernel_rfl) (Vk.call (some 66) 108 #[pp b_x0m, .agg (vals e_59), vw p_8.c] hs (by kernel_rfl) (by kernel_rfl) (by kernel_rfl) ?_)
                    refine (share_AddTold.ok k x0.m e_59 p_8.c v_178 h_177 κ w (pt b_64 (blk e_59 28) :: pt b_2 (blk (Tvisorlaw20_Pair.obj x0 b_x0m b_x0x A_x0l c_x0l A_x0v c_x0v) 45) :: Tvisorref19_M.own κ b_x0x x0.x :: pt b_3 (blk (Tvisorlaw20_Act.cells p_8) 58) :: pt b_4 (blk [ci 0, ci 0, ci 0] 28) :: pt b_13 (blk [ci 0, ci 0, ci 0] 28) :: pt b_14 (blk [ci 0, ci 0, ci 0] 28) :: S) b_x0m (Own.to hs.own [2, 0, 1, 3, 4, 5, 6, 7] 8 (by kernel_rfl) (by kernel_rfl))).mono ?_
                    rintro _ w ⟨rfl, how⟩
                    refine ⟨_, _, _, rfl, how, fun a hs => ?_⟩
                    replace hcl : Own κ w C_175 := by rw [hC_175]; exact (Own.to hs.own [1, 2, 3, 4, 5, 6, 7] 8 (by kernel_rfl) (by kernel_rfl))
                    refine ⟨fun _ => hcl, ?_⟩
                    obtain ⟨v_181, h_180, hm⟩ := bind_t hm
                    refine Vk.dOnly (i := 11) (by kernel_rfl) (Vk.call (some 72) 107 #[pp b_x0x, vi 4, .agg (vals e_59), vw p_8.c] hs (by kernel_rfl) (by kernel_rfl) (by kernel_rfl) ?_)
                    refine (visorref20_Add.ok k x0.x 4 e_59 p_8.c v_181 h_180 κ w (Twire_Machine.own b_x0m v_178.2 :: pt b_64 (blk e_59 28) :: pt b_2 (blk (Tvisorlaw20_Pair.obj x0 b_x0m b_x0x A_x0l c_x0l A_x0v c_x0v) 45) :: pt b_3 (blk (Tvisorlaw20_Act.cells p_8) 58) :: pt b_4 (blk [ci 0, ci 0, ci 0] 28) :: pt b_13 (blk [ci 0, ci 0, ci 0] 28) :: pt b_14 (blk [ci 0, ci 0, ci 0] 28) :: S) b_x0x (Own.to hs.own [3, 0, 1, 2, 4, 5, 6, 7] 8 (by kernel_rfl) (by kernel_rfl))).mono ?_
                    rintro _ w ⟨rfl, how⟩
                    refine ⟨_, _, _, rfl, how, fun a hs => ?_⟩
                    refine ⟨fun h => absurd h (by decide), ?_⟩
                    obtain ⟨h_182, hm⟩ := ite_t hm
                    refine Vk.dOnly (i := 12) (by kernel_rfl) (Vk.storeA (b := b_13) (ty := 28) (x := (.tmp 7)) (y := (.tmp 66)) (sz := 3) v_178.1 6 hs (by kernel_rfl) (by kernel_rfl) (by kernel_rfl) (by kernel_rfl) (by kernel_rfl) h_182 (by kernel_rfl) rfl (Eq.trans (b := 3) h_182 (Eq.symm rfl)) fun a w hs => ?_)
                    refine ⟨fun h => absurd h (by decide), ?_⟩
                    obtain ⟨h_183, hm⟩ := ite_t hm
                    refine Vk.dOnly (i := 13) (by kernel_rfl) (Vk.storeA (b := b_14) (ty := 28) (x := (.tmp 8)) (y := (.tmp 72)) (sz := 3) v_181.1 7 hs (by kernel_rfl) (by kernel_rfl) (by kernel_rfl) (by kernel_rfl) (by kernel_rfl) h_183 (by kernel_rfl) rfl (Eq.trans (b := 3) h_183 (Eq.symm rfl)) fun a w hs => ?_)
                    refine ⟨fun h => absurd h (by decide), ?_⟩
                    replace hs := hs.pick [4, 7, 8, 9] (L' := [(4, pp b_4), (7, pp b_13), (8, pp b_14), (9, vw (bxor .u64 e_70 p_8.c))]) (by kernel_rfl)
                    refine Vk.dDone (by kernel_rfl) ?_
                    exact hj15 v_178.1 v_181.1 (bxor .u64 e_70 p_8.c) v_178.2 v_181.2 hm _ _ (hs.go [4, 7, 8, 9] [5, 6, 7, 1, 0] 8 (by kernel_rfl) (by kernel_rfl) (by kernel_rfl))
    obtain ⟨C_10, hC_10⟩ : ∃ X0 : List HP, X0 = (pt b_2 (blk (Tvisorlaw20_Pair.obj x0 b_x0m b_x0x A_x0l c_x0l A_x0v c_x0v) 45) :: Twire_Machine.own b_x0m x0.m :: Tvisorref19_M.own κ b_x0x x0.x :: pt b_3 (blk (Tvisorlaw20_Act.cells p_8) 58) :: pt b_4 (blk [ci 0, ci 0, ci 0] 28) :: S) := ⟨_, rfl⟩
    refine qdr 9 κ C_10 hs fun w hs hqC_10 => ?_
    have hcz : Own κ w (pt b_2 (blk (Tvisorlaw20_Pair.obj x0 b_x0m b_x0x A_x0l c_x0l A_x0v c_x0v) 45) :: Twire_Machine.own b_x0m x0.m :: Tvisorref19_M.own κ b_x0x x0.x :: pt b_3 (blk (Tvisorlaw20_Act.cells p_8) 58) :: pt b_4 (blk [ci 0, ci 0, ci 0] 28) :: S) := (Own.to hs.own [0, 1, 2, 3, 4] 5 (by kernel_rfl) (by kernel_rfl))
    have hcl : Own κ w C_10 := by rw [hC_10]; exact hcz
    refine qdp (fuel := 6) [0, 1, 2] hs hcl hqC_10 fun a hs => ?_
    refine qdl 3 3 (cw p_8.c) hs hcl hqC_10 hC_10 rfl fun a hs => ?_
    refine Vk.dMany2 (i0 := 4) (i1 := 5) (by kernel_rfl) ?_ ?_
    · refine Vk.alloc 7 28 [ci 0, ci 0, ci 0] hs (by kernel_rfl) (by kernel_rfl) (by kernel_rfl) fun b_11 w a hs => ?_
      replace hcl : Own κ w C_10 := by rw [hC_10]; exact (Own.to hs.own [1, 2, 3, 4, 5] 6 (by kernel_rfl) (by kernel_rfl))
      refine ⟨fun _ => hcl, ?_⟩
      refine Vk.dOnly (i := 5) (by kernel_rfl) (Vk.alloc 8 28 [ci 0, ci 0, ci 0] hs (by kernel_rfl) (by kernel_rfl) (by kernel_rfl) fun b_12 w a hs => ?_)
      replace hcl : Own κ w C_10 := by rw [hC_10]; exact (Own.to hs.own [2, 3, 4, 5, 6] 7 (by kernel_rfl) (by kernel_rfl))
      refine ⟨fun _ => hcl, ?_⟩
      refine Vk.dOnly (i := 6) (by kernel_rfl) (Vk.storeA (b := b_11) (ty := 28) (x := (.tmp 7)) (y := (.tmp 30)) (sz := 3) [ci 0, ci 0, ci 0] 1 hs (by kernel_rfl) (by kernel_rfl) (by kernel_rfl) (by kernel_rfl) (by kernel_rfl) rfl (by kernel_rfl) rfl (Eq.trans (b := 3) rfl (Eq.symm rfl)) fun a w hs => ?_)
      replace hcl : Own κ w C_10 := by rw [hC_10]; exact (Own.to hs.own [2, 3, 4, 5, 6] 7 (by kernel_rfl) (by kernel_rfl))
      refine ⟨fun _ => hcl, ?_⟩
      refine Vk.dOnly (i := 7) (by kernel_rfl) (Vk.storeA (b := b_12) (ty := 28) (x := (.tmp 8)) (y := (.tmp 31)) (sz := 3) [ci 0, ci 0, ci 0] 0 hs (by kernel_rfl) (by kernel_rfl) (by kernel_rfl) (by kernel_rfl) (by kernel_rfl) rfl (by kernel_rfl) rfl (Eq.trans (b := 3) rfl (Eq.symm rfl)) fun a w hs => ?_)
      replace hcl : Own κ w C_10 := by rw [hC_10]; exact (Own.to hs.own [2, 3, 4, 5, 6] 7 (by kernel_rfl) (by kernel_rfl))
      refine ⟨fun _ => hcl, ?_⟩
      refine qdp (fuel := 0) [8] hs hcl hqC_10 fun a hs => ?_
      replace hs := hs.pick [2, 3, 4, 7, 8, 9] (L' := [(2, pp b_2), (3, pp b_3), (4, pp b_4), (7, pp b_11), (8, pp b_12), (9, vw p_8.c)]) (by kernel_rfl)
      refine Vk.dDone (by kernel_rfl) ?_
      exact hj9 hm b_11 b_12 _ _ (hs.go [2, 3, 4, 7, 8, 9] [2, 3, 4, 5, 6, 1, 0] 7 (by kernel_rfl) (by kernel_rfl) (by kernel_rfl))
    · refine Vk.alloc 8 28 [ci 0, ci 0, ci 0] hs (by kernel_rfl) (by kernel_rfl) (by kernel_rfl) fun b_11 w a hs => ?_
      replace hcl : Own κ w C_10 := by rw [hC_10]; exact (Own.to hs.own [1, 2, 3, 4, 5] 6 (by kernel_rfl) (by kernel_rfl))
      refine ⟨fun _ => hcl, ?_⟩
      refine Vk.dOnly (i := 4) (by kernel_rfl) (Vk.alloc 7 28 [ci 0, ci 0, ci 0] hs (by kernel_rfl) (by kernel_rfl) (by kernel_rfl) fun b_12 w a hs => ?_)
      replace hcl : Own κ w C_10 := by rw [hC_10]; exact (Own.to hs.own [2, 3, 4, 5, 6] 7 (by kernel_rfl) (by kernel_rfl))
      refine ⟨fun _ => hcl, ?_⟩
      refine Vk.dOnly (i := 6) (by kernel_rfl) (Vk.storeA (b := b_12) (ty := 28) (x := (.tmp 7)) (y := (.tmp 30)) (sz := 3) [ci 0, ci 0, ci 0] 0 hs (by kernel_rfl) (by kernel_rfl) (by kernel_rfl) (by kernel_rfl) (by kernel_rfl) rfl (by kernel_rfl) rfl (Eq.trans (b := 3) rfl (Eq.symm rfl)) fun a w hs => ?_)
      replace hcl : Own κ w C_10 := by rw [hC_10]; exact (Own.to hs.own [2, 3, 4, 5, 6] 7 (by kernel_rfl) (by kernel_rfl))
      refine ⟨fun _ => hcl, ?_⟩
      refine Vk.dOnly (i := 7) (by kernel_rfl) (Vk.storeA (b := b_11) (ty := 28) (x := (.tmp 8)) (y := (.tmp 31)) (sz := 3) [ci 0, ci 0, ci 0] 1 hs (by kernel_rfl) (by kernel_rfl) (by kernel_rfl) (by kernel_rfl) (by kernel_rfl) rfl (by kernel_rfl) rfl (Eq.trans (b := 3) rfl (Eq.symm rfl)) fun a w hs => ?_)
      replace hcl : Own κ w C_10 := by rw [hC_10]; exact (Own.to hs.own [2, 3, 4, 5, 6] 7 (by kernel_rfl) (by kernel_rfl))
      refine ⟨fun _ => hcl, ?_⟩
      refine qdp (fuel := 0) [8] hs hcl hqC_10 fun a hs => ?_
      replace hs := hs.pick [2, 3, 4, 7, 8, 9] (L' := [(2, pp b_2), (3, pp b_3), (4, pp b_4), (7, pp b_12), (8, pp b_11), (9, vw p_8.c)]) (by kernel_rfl)
      refine Vk.dDone (by kernel_rfl) ?_
      exact hj9 hm b_12 b_11 _ _ (hs.go [2, 3, 4, 7, 8, 9] [2, 3, 4, 5, 6, 0, 1] 7 (by kernel_rfl) (by kernel_rfl) (by kernel_rfl))
  refine Vk.seq fun K6 hK6 => ?_
  have hj6 : ∀ (p_7 : Bool), visorlaw20_Pair_does.j1 k x0 x1 p_7 = some r → ∀ (a : Act) (w : World), St 209 a w κ [(2, pp b_2), (3, pp b_3), (4, pp b_4), (28, .bool p_7)] (pt b_2 (blk (Tvisorlaw20_Pair.obj x0 b_x0m b_x0x A_x0l c_x0l A_x0v c_x0v) 45) :: Twire_Machine.own b_x0m x0.m :: Tvisorref19_M.own κ b_x0x x0.x :: pt b_3 (blk (Tvisorlaw20_Act.cells x1) 58) :: pt b_4 (blk [ci 0, ci 0, ci 0] 28) :: S) → K6 a w := by
    intro p_7 hm a w hs
    unfold visorlaw20_Pair_does.j1 at hm
    refine hK6 _ _ ?_
    refine qcs (p_7) hs (fun hb => ?_) fun hb => ?_
    · replace hm := bif_t hm hb
      refine Vk.region ?_
      refine qpu 1 hs fun a hs => ?_
      refine Vk.step (Vk.store1 (b := b_3) (ty := 3) (x := (.tmp 29)) (y := (.const (vi 1))) (off := 0) (ci 1) 3 hs (by kernel_rfl) (by kernel_rfl) (by kernel_rfl) (by kernel_rfl) (by kernel_rfl) (by kernel_rfl) rfl (Nat.le_of_ble_eq_true (by kernel_rfl)) fun a w hs => ?_)
      refine qpe 0 [(2, pp b_2), (3, pp b_3), (4, pp b_4)] hs fun a hs => ?_
      exact hj5 (⟨1, x1.a, x1.b, x1.k, x1.c⟩ : Tvisorlaw20_Act) hm _ _ (hs.go [2, 3, 4] [0, 1, 2, 3, 4] 5 (by kernel_rfl) (by kernel_rfl) (by kernel_rfl))
    · replace hm := bif_f hm hb
      refine wp_skip ?_
      exact hj5 x1 hm _ _ (hs.go [2, 3, 4] [0, 1, 2, 3, 4] 5 (by kernel_rfl) (by kernel_rfl) (by kernel_rfl))
  refine Vk.region ?_
  refine qpu 1 hs fun a hs => ?_
  refine qld 1 (ci x1.kind) hs rfl fun a hs => ?_
  refine qpu 2 hs fun a hs => ?_
  rcases Bool.eq_false_or_eq_true (decide (x1.kind < 0)) with hb | hb
  · replace hm := bif_t hm hb
    replace hs := hs.known (t := 18) hb (by kernel_rfl)
    refine qpe 10 [(2, pp b_2), (3, pp b_3), (4, pp b_4), (28, .bool true)] hs fun a hs => ?_
    exact hj6 true hm _ _ (hs.go [2, 3, 4, 28] [2, 3, 4, 1, 0] 5 (by kernel_rfl) (by kernel_rfl) (by kernel_rfl))
  · replace hm := bif_f hm hb
    replace hs := hs.known (t := 18) hb (by kernel_rfl)
    refine qpu 1 hs fun a hs => ?_
    refine qld 2 (C.slc A_x0l x0.l.length c_x0l) hs rfl fun a hs => ?_
    refine qpu 3 hs fun a hs => ?_
    rcases Bool.eq_false_or_eq_true (((x0.l.length : Nat) : Int) == 0) with hb | hb
    · replace hm := bif_t hm hb
      replace hs := hs.known (t := 23) hb (by kernel_rfl)
      refine qpu 1 hs fun a hs => ?_
      refine qld 1 (ci x1.kind) hs rfl fun a hs => ?_
      refine qpe 3 [(2, pp b_2), (3, pp b_3), (4, pp b_4), (28, .bool (decide (x1.kind > 2)))] hs fun a hs => ?_
      exact hj6 (decide (x1.kind > 2)) hm _ _ (hs.go [2, 3, 4, 28] [2, 3, 4, 1, 0] 5 (by kernel_rfl) (by kernel_rfl) (by kernel_rfl))
    · replace hm := bif_f hm hb
      replace hs := hs.known (t := 23) hb (by kernel_rfl)
      refine qpe 5 [(2, pp b_2), (3, pp b_3), (4, pp b_4), (28, .bool false)] hs fun a hs => ?_
      exact hj6 false hm _ _ (hs.go [2, 3, 4, 28] [2, 3, 4, 1, 0] 5 (by kernel_rfl) (by kernel_rfl) (by kernel_rfl))


abbrev wire_Machine_Values.R (κ : Ctx) (S : List HP) (x0 : Twire_Machine) (b_x0 : Nat) (g_x0 : Nat × Option Addr × Nat × Option Addr × Nat × Option Addr × Nat) (r : List Int) : Ending → World → Prop := fun e w' => ∃ (A_r0 : Option Addr), ∃ (c_r0 : Nat), e = .returned (.slice A_r0 r.length c_r0) ∧ Own κ w' (rowp A_r0 c_r0 32 1 (eI .u64) r :: bagL (Twire_Machine.parts b_x0 x0 g_x0) :: S)
def wire_Machine_Values.m (k : Nat) (x0 : Twire_Machine) : Option (List Int) := (slices_Clone_uint64_uint64.m k x0.values).bind fun v_10 => some v_10

set_option maxRecDepth 100000 in
set_option maxHeartbeats 4000000 in
theorem wire_Machine_Values.ok (k : Nat) (x0 : Twire_Machine) (r : List Int) (hm : wire_Machine_Values.m k x0 = some r) (κ : Ctx) (w : World) (S : List HP) (b_x0 : Nat) (g_x0 : Nat × Option Addr × Nat × Option Addr × Nat × Option Addr × Nat) (ho : Own κ w (bagL (Twire_Machine.parts b_x0 x0 g_x0) :: S)) :
    Calls Try.prog 22 #[pp b_x0] w (wire_Machine_Values.R κ S x0 b_x0 g_x0 r) := by
  unfold wire_Machine_Values.m at hm
  generalize hRR : wire_Machine_Values.R κ S x0 b_x0 g_x0 r = RR
  refine qen [(0, pp b_x0)] Try.func22 Try.ntmps22 ho fun a hs => ?_
  refine qsr fun K1 hK1 => ?_
  refine qpe 1 [(0, pp b_x0)] hs fun a hs => hK1 _ _ ?_
  clear hK1
  refine Vk.seq fun K2 hK2 => ?_
  refine qsr fun K3 hK3 => ?_
  refine qpe 2 [(0, pp b_x0), (4, .bool false)] hs fun a hs => hK3 _ _ ?_
  clear hK3
  refine qcf hs ?_
  refine wp_skip ?_
  refine hK2 _ _ ?_
  clear hK2
  refine qsr fun K4 hK4 => ?_
  refine qpu 3 hs fun a hs => ?_
  replace hs := hs.unbagAt 0 rfl
  refine qld 0 (C.slc g_x0.2.2.2.1 x0.values.length g_x0.2.2.2.2.1) hs rfl fun a hs => ?_
  obtain ⟨v_10, h_9, hm⟩ := bind_t hm
  refine Vk.step (Vk.call (some 9) 96 #[.slice g_x0.2.2.2.1 x0.values.length g_x0.2.2.2.2.1] hs (by kernel_rfl) (by kernel_rfl) (by kernel_rfl) ?_)
  refine (slices_Clone_uint64_uint64.ok k x0.values v_10 h_9 κ w (pt b_x0 (blk (Twire_Machine.obj x0 g_x0.1 g_x0.2.1 g_x0.2.2.1 g_x0.2.2.2.1 g_x0.2.2.2.2.1 g_x0.2.2.2.2.2.1 g_x0.2.2.2.2.2.2) 139) :: opto x0.dry (Ttape_Tape.own g_x0.1 x0.tape) :: rowp g_x0.2.1 g_x0.2.2.1 93 6 Tapi_Op.cells x0.ops :: rowp g_x0.2.2.2.1 g_x0.2.2.2.2.1 32 1 (eI .u64) x0.values :: rowp g_x0.2.2.2.2.2.1 g_x0.2.2.2.2.2.2 175 3 Tapi_Span.cells x0.blocks :: S) g_x0.2.2.2.1 g_x0.2.2.2.2.1 (Sl.lift (fun w ho => (Own.to (S' := rowp g_x0.2.2.2.1 g_x0.2.2.2.2.1 32 1 (eI .u64) x0.values :: S) ho [3] 5 (by kernel_rfl) (by kernel_rfl))) (Own.rowSl 0 (Own.to (S' := rowp g_x0.2.2.2.1 g_x0.2.2.2.2.1 32 1 (eI .u64) x0.values :: S) hs.own [3] 5 (by kernel_rfl) (by kernel_rfl)) rfl)) hs.own).mono ?_
  rintro _ w ⟨Ar8x0_11, cr8x0_12, rfl, how⟩
  refine ⟨_, _, _, rfl, how, fun a hs => ?_⟩
  refine qpe 1 [(2, .slice Ar8x0_11 v_10.length cr8x0_12)] hs fun a hs => hK4 _ _ ?_
  clear hK4
  refine wp_ret ?_
  replace hs := hs.bagG (l := Twire_Machine.parts b_x0 x0 g_x0) (S' := rowp Ar8x0_11 cr8x0_12 32 1 (eI .u64) v_10 :: S) (Own.to hs.own [1, 2, 3, 4, 5, 0] 6 (by kernel_rfl) (by kernel_rfl))
  exact Vk.ret1 (P := Try.prog) (fn := Try.f22) (R := RR) (.slice Ar8x0_11 v_10.length cr8x0_12) hs rfl (by kernel_rfl) (by obtain rfl := Option.some.inj hm; subst hRR; exact ⟨Ar8x0_11, cr8x0_12, rfl, (Own.to hs.own [1, 0] 2 (by kernel_rfl) (by kernel_rfl))⟩)


abbrev wire_Machine_Err.R (κ : Ctx) (S : List HP) (x0 : Twire_Machine) (b_x0 : Nat) (g_x0 : Nat × Option Addr × Nat × Option Addr × Nat × Option Addr × Nat) (r : Int) : Ending → World → Prop := fun e w' => e = .returned (vi r) ∧ Own κ w' (bagL (Twire_Machine.parts b_x0 x0 g_x0) :: S)
def wire_Machine_Err.m (k : Nat) (x0 : Twire_Machine) : Option Int := some x0.bad

set_option maxRecDepth 100000 in
set_option maxHeartbeats 4000000 in
theorem wire_Machine_Err.ok (k : Nat) (x0 : Twire_Machine) (r : Int) (hm : wire_Machine_Err.m k x0 = some r) (κ : Ctx) (w : World) (S : List HP) (b_x0 : Nat) (g_x0 : Nat × Option Addr × Nat × Option Addr × Nat × Option Addr × Nat) (ho : Own κ w (bagL (Twire_Machine.parts b_x0 x0 g_x0) :: S)) :
    Calls Try.prog 23 #[pp b_x0] w (wire_Machine_Err.R κ S x0 b_x0 g_x0 r) := by
  unfold wire_Machine_Err.m at hm
  generalize hRR : wire_Machine_Err.R κ S x0 b_x0 g_x0 r = RR
  refine qen [(0, pp b_x0)] Try.func23 Try.ntmps23 ho fun a hs => ?_
  refine qsr fun K1 hK1 => ?_
  refine qpe 1 [(0, pp b_x0)] hs fun a hs => hK1 _ _ ?_
  clear hK1
  refine Vk.seq fun K2 hK2 => ?_
  refine qsr fun K3 hK3 => ?_
  refine qpe 2 [(0, pp b_x0), (4, .bool false)] hs fun a hs => hK3 _ _ ?_
  clear hK3
  refine qcf hs ?_
  refine wp_skip ?_
  refine hK2 _ _ ?_
  clear hK2
  refine qsr fun K4 hK4 => ?_
  refine qpu 3 hs fun a hs => ?_
  replace hs := hs.unbagAt 0 rfl
  refine qld 0 (ci x0.bad) hs rfl fun a hs => ?_
  refine qpe 1 [(2, vi x0.bad)] hs fun a hs => hK4 _ _ ?_
  clear hK4
  refine wp_ret ?_
  replace hs := hs.bagG (l := Twire_Machine.parts b_x0 x0 g_x0) (S' := S) (Own.to hs.own [0, 1, 2, 3, 4] 5 (by kernel_rfl) (by kernel_rfl))
  exact Vk.ret1 (P := Try.prog) (fn := Try.f23) (R := RR) (vi x0.bad) hs rfl (by kernel_rfl) (by obtain rfl := Option.some.inj hm; subst hRR; exact ⟨rfl, (Own.to hs.own [0] 1 (by kernel_rfl) (by kernel_rfl))⟩)


abbrev slices_Clone_api_Op_api_Op.R (κ : Ctx) (S : List HP) (x0 : List Tapi_Op) (A_x0 : Option Addr) (c_x0 : Nat) (r : List Tapi_Op) : Ending → World → Prop := fun e w' => ∃ (A_r0 : Option Addr), ∃ (c_r0 : Nat), e = .returned (.slice A_r0 r.length c_r0) ∧ Own κ w' (rowp A_r0 c_r0 93 6 Tapi_Op.cells r :: S)
def slices_Clone_api_Op_api_Op.m (k : Nat) (x0 : List Tapi_Op) : Option (List Tapi_Op) := (if (([] : List Tapi_Op).length + x0.length) * 48 ≤ 140737488355328 then some (([] : List Tapi_Op) ++ x0) else none)

set_option maxRecDepth 100000 in
set_option maxHeartbeats 4000000 in
theorem slices_Clone_api_Op_api_Op.ok (k : Nat) (x0 : List Tapi_Op) (r : List Tapi_Op) (hm : slices_Clone_api_Op_api_Op.m k x0 = some r) (κ : Ctx) (w : World) (S : List HP) (A_x0 : Option Addr) (c_x0 : Nat) (hx_x0 : Sl κ S A_x0 c_x0 6 Tapi_Op.cells x0) (ho : Own κ w (S)) :
    Calls Try.prog 138 #[.slice A_x0 x0.length c_x0] w (slices_Clone_api_Op_api_Op.R κ S x0 A_x0 c_x0 r) := by
  unfold slices_Clone_api_Op_api_Op.m at hm
  rcases A_x0 with _ | p_x0
  · obtain rfl : c_x0 = 0 := hx_x0.none rfl
    obtain rfl : x0 = [] := List.length_eq_zero_iff.1 (Nat.le_zero.1 hx_x0.le)
    replace hm : some ([] : List Tapi_Op) = some r := by simpa using hm
    refine Vk.enter [(0, .slice none 0 0)] Try.func138 rfl Try.ntmps138 (by kernel_rfl) (Nat.le_of_ble_eq_true (by kernel_rfl)) ho fun a hs => ?_
    refine Vk.seq fun K1 hK1 => ?_
    refine Vk.region ?_
    refine Vk.pures 1 [(2, .slice none 0 0)] hs (by kernel_rfl) fun a hs => ?_
    replace hs := hs.pick [0] (L' := [(0, .slice none 0 0)]) (by kernel_rfl)
    refine Vk.done (by kernel_rfl) ?_
    refine hK1 _ _ ?_
    clear hK1
    refine Vk.seq fun K2 hK2 => ?_
    refine Vk.seq fun K3 hK3 => ?_
    refine Vk.region ?_
    refine Vk.pures 2 [(4, .bool true), (3, .slice none 0 0)] hs (by kernel_rfl) fun a hs => ?_
    replace hs := hs.pick [0, 4] (L' := [(0, .slice none 0 0), (4, .bool true)]) (by kernel_rfl)
    refine Vk.done (by kernel_rfl) ?_
    refine hK3 _ _ ?_
    clear hK3
    refine Vk.condT hs (by kernel_rfl) (by kernel_rfl) ?_
    refine Vk.seq fun K4 hK4 => ?_
    refine Vk.region ?_
    refine Vk.pures 1 [(2, .slice none 0 0)] hs (by kernel_rfl) fun a hs => ?_
    replace hs := hs.pick [2] (L' := [(2, .slice none 0 0)]) (by kernel_rfl)
    refine Vk.done (by kernel_rfl) ?_
    refine hK4 _ _ ?_
    clear hK4
    refine wp_ret ?_
    replace hs := hs.addRow none 93 6 Tapi_Op.cells
    exact Vk.ret1 (P := Try.prog) (fn := Try.f138) (R := slices_Clone_api_Op_api_Op.R κ S [] none 0 r) (.slice none (([] : List Tapi_Op).length) 0) hs rfl (by kernel_rfl) (by obtain rfl := Option.some.inj hm; exact ⟨none, 0, rfl, (Own.to hs.own [0] 1 (by kernel_rfl) (by kernel_rfl))⟩)
  · skip
    refine Vk.enter [(0, .slice (some p_x0) x0.length c_x0)] Try.func138 rfl Try.ntmps138 (by kernel_rfl) (Nat.le_of_ble_eq_true (by kernel_rfl)) ho fun a hs => ?_
    refine Vk.seq fun K1 hK1 => ?_
    refine Vk.region ?_
    refine Vk.pures 1 [(2, .slice none 0 0)] hs (by kernel_rfl) fun a hs => ?_
    replace hs := hs.pick [0] (L' := [(0, .slice (some p_x0) x0.length c_x0)]) (by kernel_rfl)
    refine Vk.done (by kernel_rfl) ?_
    refine hK1 _ _ ?_
    clear hK1
    refine Vk.seq fun K2 hK2 => ?_
    refine Vk.seq fun K3 hK3 => ?_
    refine Vk.region ?_
    refine Vk.pures 2 [(4, .bool false), (3, .slice (some p_x0) x0.length c_x0)] hs (by kernel_rfl) fun a hs => ?_
    replace hs := hs.pick [0, 4] (L' := [(0, .slice (some p_x0) x0.length c_x0), (4, .bool false)]) (by kernel_rfl)
    refine Vk.done (by kernel_rfl) ?_
    refine hK3 _ _ ?_
    clear hK3
    refine Vk.condF hs (by kernel_rfl) (by kernel_rfl) ?_
    refine wp_skip ?_
    refine hK2 _ _ ?_
    clear hK2
    refine Vk.seq fun K4 hK4 => ?_
    refine Vk.region ?_
    refine Vk.step (Vk.buildOp (sz := 6) (by_ := 48) (t := 59) (e := 93) (parts := #[]) (zs := vals [C.int .i64 0, C.int .i64 0, C.int .i64 0, C.int .i64 0, C.int .i64 0, C.int .u64 0]) ([] : List Tapi_Op) Tapi_Op.cells (some 5) hs (by kernel_rfl) (by kernel_rfl) (by kernel_rfl) (by kernel_rfl) (by decide) rfl (fun x _ => rfl) (Nat.le_of_ble_eq_true (by kernel_rfl)) (by kernel_rfl) fun A_5 w a hs => ?_)
    refine Vk.pures 1 [(6, .slice (some p_x0) x0.length c_x0)] hs (by kernel_rfl) fun a hs => ?_
    obtain ⟨h_7, hm⟩ := ite_t hm
    refine Vk.step (Vk.appendOp (x := (.tmp 5)) (y := (.tmp 6)) (e := 93) (t := 59) (by_ := 48) (sz := 6) (enc := Tapi_Op.cells) (A := A_5) (cap := 0) (xs := ([] : List Tapi_Op)) (ys := x0) (B := (some p_x0)) (c2 := c_x0) 0 (some 7) hs (by kernel_rfl) (by kernel_rfl) (by kernel_rfl) (by kernel_rfl) rfl hx_x0.less (by kernel_rfl) (by kernel_rfl) (by decide) (by decide) h_7 fun A_8 c_9 w a hs => ?_)
    refine Vk.pures 1 [(2, .slice A_8 ((([] : List Tapi_Op) ++ x0).length) c_9)] hs (by kernel_rfl) fun a hs => ?_
    replace hs := hs.pick [2] (L' := [(2, .slice A_8 ((([] : List Tapi_Op) ++ x0).length) c_9)]) (by kernel_rfl)
    refine Vk.done (by kernel_rfl) ?_
    refine hK4 _ _ ?_
    clear hK4
    refine wp_ret ?_
    exact Vk.ret1 (P := Try.prog) (fn := Try.f138) (R := slices_Clone_api_Op_api_Op.R κ S x0 (some p_x0) c_x0 r) (.slice A_8 ((([] : List Tapi_Op) ++ x0).length) c_9) hs rfl (by kernel_rfl) (by obtain rfl := Option.some.inj hm; exact ⟨A_8, c_9, rfl, (Own.to hs.own [0] 1 (by kernel_rfl) (by kernel_rfl))⟩)


abbrev slices_Clone_api_Span_api_Span.R (κ : Ctx) (S : List HP) (x0 : List Tapi_Span) (A_x0 : Option Addr) (c_x0 : Nat) (r : List Tapi_Span) : Ending → World → Prop := fun e w' => ∃ (A_r0 : Option Addr), ∃ (c_r0 : Nat), e = .returned (.slice A_r0 r.length c_r0) ∧ Own κ w' (rowp A_r0 c_r0 175 3 Tapi_Span.cells r :: S)
def slices_Clone_api_Span_api_Span.m (k : Nat) (x0 : List Tapi_Span) : Option (List Tapi_Span) := (if (([] : List Tapi_Span).length + x0.length) * 24 ≤ 140737488355328 then some (([] : List Tapi_Span) ++ x0) else none)

set_option maxRecDepth 100000 in
set_option maxHeartbeats 4000000 in
theorem slices_Clone_api_Span_api_Span.ok (k : Nat) (x0 : List Tapi_Span) (r : List Tapi_Span) (hm : slices_Clone_api_Span_api_Span.m k x0 = some r) (κ : Ctx) (w : World) (S : List HP) (A_x0 : Option Addr) (c_x0 : Nat) (hx_x0 : Sl κ S A_x0 c_x0 3 Tapi_Span.cells x0) (ho : Own κ w (S)) :
    Calls Try.prog 139 #[.slice A_x0 x0.length c_x0] w (slices_Clone_api_Span_api_Span.R κ S x0 A_x0 c_x0 r) := by
  unfold slices_Clone_api_Span_api_Span.m at hm
  rcases A_x0 with _ | p_x0
  · obtain rfl : c_x0 = 0 := hx_x0.none rfl
    obtain rfl : x0 = [] := List.length_eq_zero_iff.1 (Nat.le_zero.1 hx_x0.le)
    replace hm : some ([] : List Tapi_Span) = some r := by simpa using hm
    refine Vk.enter [(0, .slice none 0 0)] Try.func139 rfl Try.ntmps139 (by kernel_rfl) (Nat.le_of_ble_eq_true (by kernel_rfl)) ho fun a hs => ?_
    refine Vk.seq fun K1 hK1 => ?_
    refine Vk.region ?_
    refine Vk.pures 1 [(2, .slice none 0 0)] hs (by kernel_rfl) fun a hs => ?_
    replace hs := hs.pick [0] (L' := [(0, .slice none 0 0)]) (by kernel_rfl)
    refine Vk.done (by kernel_rfl) ?_
    refine hK1 _ _ ?_
    clear hK1
    refine Vk.seq fun K2 hK2 => ?_
    refine Vk.seq fun K3 hK3 => ?_
    refine Vk.region ?_
    refine Vk.pures 2 [(4, .bool true), (3, .slice none 0 0)] hs (by kernel_rfl) fun a hs => ?_
    replace hs := hs.pick [0, 4] (L' := [(0, .slice none 0 0), (4, .bool true)]) (by kernel_rfl)
    refine Vk.done (by kernel_rfl) ?_
    refine hK3 _ _ ?_
    clear hK3
    refine Vk.condT hs (by kernel_rfl) (by kernel_rfl) ?_
    refine Vk.seq fun K4 hK4 => ?_
    refine Vk.region ?_
    refine Vk.pures 1 [(2, .slice none 0 0)] hs (by kernel_rfl) fun a hs => ?_
    replace hs := hs.pick [2] (L' := [(2, .slice none 0 0)]) (by kernel_rfl)
    refine Vk.done (by kernel_rfl) ?_
    refine hK4 _ _ ?_
    clear hK4
    refine wp_ret ?_
    replace hs := hs.addRow none 175 3 Tapi_Span.cells
    exact Vk.ret1 (P := Try.prog) (fn := Try.f139) (R := slices_Clone_api_Span_api_Span.R κ S [] none 0 r) (.slice none (([] : List Tapi_Span).length) 0) hs rfl (by kernel_rfl) (by obtain rfl := Option.some.inj hm; exact ⟨none, 0, rfl, (Own.to hs.own [0] 1 (by kernel_rfl) (by kernel_rfl))⟩)
  · skip
    refine Vk.enter [(0, .slice (some p_x0) x0.length c_x0)] Try.func139 rfl Try.ntmps139 (by kernel_rfl) (Nat.le_of_ble_eq_true (by kernel_rfl)) ho fun a hs => ?_
    refine Vk.seq fun K1 hK1 => ?_
    refine Vk.region ?_
    refine Vk.pures 1 [(2, .slice none 0 0)] hs (by kernel_rfl) fun a hs => ?_
    replace hs := hs.pick [0] (L' := [(0, .slice (some p_x0) x0.length c_x0)]) (by kernel_rfl)
    refine Vk.done (by kernel_rfl) ?_
    refine hK1 _ _ ?_
    clear hK1
    refine Vk.seq fun K2 hK2 => ?_
    refine Vk.seq fun K3 hK3 => ?_
    refine Vk.region ?_
    refine Vk.pures 2 [(4, .bool false), (3, .slice (some p_x0) x0.length c_x0)] hs (by kernel_rfl) fun a hs => ?_
    replace hs := hs.pick [0, 4] (L' := [(0, .slice (some p_x0) x0.length c_x0), (4, .bool false)]) (by kernel_rfl)
    refine Vk.done (by kernel_rfl) ?_
    refine hK3 _ _ ?_
    clear hK3
    refine Vk.condF hs (by kernel_rfl) (by kernel_rfl) ?_
    refine wp_skip ?_
    refine hK2 _ _ ?_
    clear hK2
    refine Vk.seq fun K4 hK4 => ?_
    refine Vk.region ?_
    refine Vk.step (Vk.buildOp (sz := 3) (by_ := 24) (t := 60) (e := 175) (parts := #[]) (zs := vals [C.int .i64 0, C.int .i64 0, C.int .i64 0]) ([] : List Tapi_Span) Tapi_Span.cells (some 5) hs (by kernel_rfl) (by kernel_rfl) (by kernel_rfl) (by kernel_rfl) (by decide) rfl (fun x _ => rfl) (Nat.le_of_ble_eq_true (by kernel_rfl)) (by kernel_rfl) fun A_5 w a hs => ?_)
    refine Vk.pures 1 [(6, .slice (some p_x0) x0.length c_x0)] hs (by kernel_rfl) fun a hs => ?_
    obtain ⟨h_7, hm⟩ := ite_t hm
    refine Vk.step (Vk.appendOp (x := (.tmp 5)) (y := (.tmp 6)) (e := 175) (t := 60) (by_ := 24) (sz := 3) (enc := Tapi_Span.cells) (A := A_5) (cap := 0) (xs := ([] : List Tapi_Span)) (ys := x0) (B := (some p_x0)) (c2 := c_x0) 0 (some 7) hs (by kernel_rfl) (by kernel_rfl) (by kernel_rfl) (by kernel_rfl) rfl hx_x0.less (by kernel_rfl) (by kernel_rfl) (by decide) (by decide) h_7 fun A_8 c_9 w a hs => ?_)
    refine Vk.pures 1 [(2, .slice A_8 ((([] : List Tapi_Span) ++ x0).length) c_9)] hs (by kernel_rfl) fun a hs => ?_
    replace hs := hs.pick [2] (L' := [(2, .slice A_8 ((([] : List Tapi_Span) ++ x0).length) c_9)]) (by kernel_rfl)
    refine Vk.done (by kernel_rfl) ?_
    refine hK4 _ _ ?_
    clear hK4
    refine wp_ret ?_
    exact Vk.ret1 (P := Try.prog) (fn := Try.f139) (R := slices_Clone_api_Span_api_Span.R κ S x0 (some p_x0) c_x0 r) (.slice A_8 ((([] : List Tapi_Span) ++ x0).length) c_9) hs rfl (by kernel_rfl) (by obtain rfl := Option.some.inj hm; exact ⟨A_8, c_9, rfl, (Own.to hs.own [0] 1 (by kernel_rfl) (by kernel_rfl))⟩)

structure Tapi_Trace where
  n : Int
  ops : List Tapi_Op
  blocks : List Tapi_Span
  deriving Inhabited
def Tapi_Trace.obj (x : Tapi_Trace) (Aops : Option Addr) (cops : Nat) (Ablocks : Option Addr) (cblocks : Nat) : Cells := [C.int .i64 x.n, C.slc Aops x.ops.length cops, C.slc Ablocks x.blocks.length cblocks]

abbrev wire_Machine_Trace.R (κ : Ctx) (S : List HP) (x0 : Twire_Machine) (b_x0 : Nat) (g_x0 : Nat × Option Addr × Nat × Option Addr × Nat × Option Addr × Nat) (r : Tapi_Trace) : Ending → World → Prop := fun e w' => ∃ (A_r0ops : Option Addr), ∃ (c_r0ops : Nat), ∃ (A_r0blocks : Option Addr), ∃ (c_r0blocks : Nat), e = .returned (.agg (vals [ci r.n, C.slc A_r0ops r.ops.length c_r0ops, C.slc A_r0blocks r.blocks.length c_r0blocks])) ∧ Own κ w' (rowp A_r0ops c_r0ops 93 6 Tapi_Op.cells r.ops :: rowp A_r0blocks c_r0blocks 175 3 Tapi_Span.cells r.blocks :: bagL (Twire_Machine.parts b_x0 x0 g_x0) :: S)
def wire_Machine_Trace.m (k : Nat) (x0 : Twire_Machine) : Option Tapi_Trace := (slices_Clone_api_Op_api_Op.m k x0.ops).bind fun v_12 => (slices_Clone_api_Span_api_Span.m k x0.blocks).bind fun v_17 => some (⟨x0.n, v_12, v_17⟩ : Tapi_Trace)

set_option maxRecDepth 100000 in
set_option maxHeartbeats 4000000 in
theorem wire_Machine_Trace.ok (k : Nat) (x0 : Twire_Machine) (r : Tapi_Trace) (hm : wire_Machine_Trace.m k x0 = some r) (κ : Ctx) (w : World) (S : List HP) (b_x0 : Nat) (g_x0 : Nat × Option Addr × Nat × Option Addr × Nat × Option Addr × Nat) (ho : Own κ w (bagL (Twire_Machine.parts b_x0 x0 g_x0) :: S)) :
    Calls Try.prog 62 #[pp b_x0] w (wire_Machine_Trace.R κ S x0 b_x0 g_x0 r) := by
  unfold wire_Machine_Trace.m at hm
  generalize hRR : wire_Machine_Trace.R κ S x0 b_x0 g_x0 r = RR
  refine qen [(0, pp b_x0)] Try.func62 Try.ntmps62 ho fun a hs => ?_
  refine qsr fun K1 hK1 => ?_
  refine Vk.step (Vk.alloc 2 102 [ci 0, C.slc none 0 0, C.slc none 0 0] hs (by kernel_rfl) (by kernel_rfl) (by kernel_rfl) fun b_2 w a hs => ?_)
  refine qpe 0 [(0, pp b_x0), (2, pp b_2)] hs fun a hs => hK1 _ _ ?_
  clear hK1
  refine Vk.seq fun K3 hK3 => ?_
  refine qsr fun K4 hK4 => ?_
  refine qpe 2 [(0, pp b_x0), (2, pp b_2), (4, .bool false)] hs fun a hs => hK4 _ _ ?_
  clear hK4
  refine qcf hs ?_
  refine wp_skip ?_
  refine hK3 _ _ ?_
  clear hK3
  refine Vk.seq fun K5 hK5 => ?_
  replace hs := hs.unbagAt 1 rfl
  obtain ⟨C_9, hC_9⟩ : ∃ X0 : List HP, X0 = (pt b_x0 (blk (Twire_Machine.obj x0 g_x0.1 g_x0.2.1 g_x0.2.2.1 g_x0.2.2.2.1 g_x0.2.2.2.2.1 g_x0.2.2.2.2.2.1 g_x0.2.2.2.2.2.2) 139) :: opto x0.dry (Ttape_Tape.own g_x0.1 x0.tape) :: rowp g_x0.2.1 g_x0.2.2.1 93 6 Tapi_Op.cells x0.ops :: rowp g_x0.2.2.2.1 g_x0.2.2.2.2.1 32 1 (eI .u64) x0.values :: rowp g_x0.2.2.2.2.2.1 g_x0.2.2.2.2.2.2 175 3 Tapi_Span.cells x0.blocks :: pt b_2 (blk [ci 0, C.slc none 0 0, C.slc none 0 0] 102) :: S) := ⟨_, rfl⟩
  refine qdr 15 κ C_9 hs fun w hs hqC_9 => ?_
  have hcz : Own κ w (pt b_x0 (blk (Twire_Machine.obj x0 g_x0.1 g_x0.2.1 g_x0.2.2.1 g_x0.2.2.2.1 g_x0.2.2.2.2.1 g_x0.2.2.2.2.2.1 g_x0.2.2.2.2.2.2) 139) :: opto x0.dry (Ttape_Tape.own g_x0.1 x0.tape) :: rowp g_x0.2.1 g_x0.2.2.1 93 6 Tapi_Op.cells x0.ops :: rowp g_x0.2.2.2.1 g_x0.2.2.2.2.1 32 1 (eI .u64) x0.values :: rowp g_x0.2.2.2.2.2.1 g_x0.2.2.2.2.2.2 175 3 Tapi_Span.cells x0.blocks :: pt b_2 (blk [ci 0, C.slc none 0 0, C.slc none 0 0] 102) :: S) := (Own.to hs.own [0, 1, 2, 3, 4, 5] 6 (by kernel_rfl) (by kernel_rfl))
  have hcl : Own κ w C_9 := by rw [hC_9]; exact hcz
  refine qdp (fuel := 7) [0, 1, 2, 4, 5, 6, 9, 10, 11] hs hcl hqC_9 fun a hs => ?_
  refine qdl 3 0 (ci x0.n) hs hcl hqC_9 hC_9 rfl fun a hs => ?_
  refine qdl 7 0 (C.slc g_x0.2.1 x0.ops.length g_x0.2.2.1) hs hcl hqC_9 hC_9 rfl fun a hs => ?_
  refine qdl 12 0 (C.slc g_x0.2.2.2.2.2.1 x0.blocks.length g_x0.2.2.2.2.2.2) hs hcl hqC_9 hC_9 rfl fun a hs => ?_
  obtain ⟨v_12, h_11, hm⟩ := bind_t hm
  refine Vk.dOnly (i := 8) (by kernel_rfl) (Vk.call (some 14) 138 #[.slice g_x0.2.1 x0.ops.length g_x0.2.2.1] hs (by kernel_rfl) (by kernel_rfl) (by kernel_rfl) ?_)
  refine (slices_Clone_api_Op_api_Op.ok k x0.ops v_12 h_11 κ w (pt b_x0 (blk (Twire_Machine.obj x0 g_x0.1 g_x0.2.1 g_x0.2.2.1 g_x0.2.2.2.1 g_x0.2.2.2.2.1 g_x0.2.2.2.2.2.1 g_x0.2.2.2.2.2.2) 139) :: opto x0.dry (Ttape_Tape.own g_x0.1 x0.tape) :: rowp g_x0.2.1 g_x0.2.2.1 93 6 Tapi_Op.cells x0.ops :: rowp g_x0.2.2.2.1 g_x0.2.2.2.2.1 32 1 (eI .u64) x0.values :: rowp g_x0.2.2.2.2.2.1 g_x0.2.2.2.2.2.2 175 3 Tapi_Span.cells x0.blocks :: pt b_2 (blk [ci 0, C.slc none 0 0, C.slc none 0 0] 102) :: S) g_x0.2.1 g_x0.2.2.1 (Sl.lift (fun w ho => (Own.to (S' := rowp g_x0.2.1 g_x0.2.2.1 93 6 Tapi_Op.cells x0.ops :: S) ho [2] 6 (by kernel_rfl) (by kernel_rfl))) (Own.rowSl 0 (Own.to (S' := rowp g_x0.2.1 g_x0.2.2.1 93 6 Tapi_Op.cells x0.ops :: S) hs.own [2] 6 (by kernel_rfl) (by kernel_rfl)) rfl)) hs.own).mono ?_
  rintro _ w ⟨Ar10x0_13, cr10x0_14, rfl, how⟩
  refine ⟨_, _, _, rfl, how, fun a hs => ?_⟩
  replace hcl : Own κ w C_9 := by rw [hC_9]; exact (Own.to hs.own [1, 2, 3, 4, 5, 6] 7 (by kernel_rfl) (by kernel_rfl))
  refine ⟨fun _ => hcl, ?_⟩
  obtain ⟨v_17, h_16, hm⟩ := bind_t hm
  refine Vk.dOnly (i := 13) (by kernel_rfl) (Vk.call (some 19) 139 #[.slice g_x0.2.2.2.2.2.1 x0.blocks.length g_x0.2.2.2.2.2.2] hs (by kernel_rfl) (by kernel_rfl) (by kernel_rfl) ?_)
  refine (slices_Clone_api_Span_api_Span.ok k x0.blocks v_17 h_16 κ w (rowp Ar10x0_13 cr10x0_14 93 6 Tapi_Op.cells v_12 :: pt b_x0 (blk (Twire_Machine.obj x0 g_x0.1 g_x0.2.1 g_x0.2.2.1 g_x0.2.2.2.1 g_x0.2.2.2.2.1 g_x0.2.2.2.2.2.1 g_x0.2.2.2.2.2.2) 139) :: opto x0.dry (Ttape_Tape.own g_x0.1 x0.tape) :: rowp g_x0.2.1 g_x0.2.2.1 93 6 Tapi_Op.cells x0.ops :: rowp g_x0.2.2.2.1 g_x0.2.2.2.2.1 32 1 (eI .u64) x0.values :: rowp g_x0.2.2.2.2.2.1 g_x0.2.2.2.2.2.2 175 3 Tapi_Span.cells x0.blocks :: pt b_2 (blk [ci 0, C.slc none 0 0, C.slc none 0 0] 102) :: S) g_x0.2.2.2.2.2.1 g_x0.2.2.2.2.2.2 (Sl.lift (fun w ho => (Own.to (S' := rowp g_x0.2.2.2.2.2.1 g_x0.2.2.2.2.2.2 175 3 Tapi_Span.cells x0.blocks :: S) ho [5] 7 (by kernel_rfl) (by kernel_rfl))) (Own.rowSl 0 (Own.to (S' := rowp g_x0.2.2.2.2.2.1 g_x0.2.2.2.2.2.2 175 3 Tapi_Span.cells x0.blocks :: S) hs.own [5] 7 (by kernel_rfl) (by kernel_rfl)) rfl)) hs.own).mono ?_
  rintro _ w ⟨Ar15x0_18, cr15x0_19, rfl, how⟩
  refine ⟨_, _, _, rfl, how, fun a hs => ?_⟩
  replace hcl : Own κ w C_9 := by rw [hC_9]; exact (Own.to hs.own [2, 3, 4, 5, 6, 7] 8 (by kernel_rfl) (by kernel_rfl))
  refine ⟨fun _ => hcl, ?_⟩
  refine qdp (fuel := 1) [14] hs hcl hqC_9 fun a hs => ?_
  refine Vk.dOnly (i := 15) (by kernel_rfl) (Vk.storeA (b := b_2) (ty := 102) (x := (.tmp 2)) (y := (.tmp 20)) (sz := 3) [ci x0.n, C.slc Ar10x0_13 v_12.length cr10x0_14, C.slc Ar15x0_18 v_17.length cr15x0_19] 7 hs (by kernel_rfl) (by kernel_rfl) (by kernel_rfl) (by kernel_rfl) (by kernel_rfl) rfl (by kernel_rfl) rfl (Eq.trans (b := 3) rfl (Eq.symm rfl)) fun a w hs => ?_)
  refine ⟨fun h => absurd h (by decide), ?_⟩
  replace hs := hs.pick [2] (L' := [(2, pp b_2)]) (by kernel_rfl)
  refine Vk.dDone (by kernel_rfl) ?_
  refine hK5 _ _ ?_
  clear hK5
  refine wp_ret ?_
  replace hs := hs.bagG (l := Twire_Machine.parts b_x0 x0 g_x0) (S' := rowp Ar15x0_18 cr15x0_19 175 3 Tapi_Span.cells v_17 :: rowp Ar10x0_13 cr10x0_14 93 6 Tapi_Op.cells v_12 :: pt b_2 (blk [ci x0.n, C.slc Ar10x0_13 v_12.length cr10x0_14, C.slc Ar15x0_18 v_17.length cr15x0_19] 102) :: S) (Own.to hs.own [2, 3, 4, 5, 6, 0, 1, 7] 8 (by kernel_rfl) (by kernel_rfl))
  exact Vk.retC (P := Try.prog) (fn := Try.f62) (R := RR) [ci x0.n, C.slc Ar10x0_13 v_12.length cr10x0_14, C.slc Ar15x0_18 v_17.length cr15x0_19] hs rfl (by kernel_rfl) (sz := 3) (by kernel_rfl) rfl (CellsAt.all 3 rfl) (by obtain rfl := Option.some.inj hm; subst hRR; exact ⟨Ar10x0_13, cr10x0_14, Ar15x0_18, cr15x0_19, rfl, (Own.to hs.own [2, 1, 0] 4 (by kernel_rfl) (by kernel_rfl))⟩)


def visorref18_Same.j2 (k : Nat) (rec36 : Int → Option (Sum (Bool) (Unit))) (q_37 : Int) (p_62 : Tapi_Op) (p_66 : Tapi_Op) : Option (Sum (Bool) (Unit)) := (bif !(((p_66.kind == p_62.kind) && ((p_66.dom == p_62.dom) && ((p_66.a == p_62.a) && ((p_66.b == p_62.b) && ((p_66.d == p_62.d) && ((p_66.c == p_62.c) && true))))))) then some (.inl false) else rec36 (IntKind.i64.wrap (q_37 + 1)))
def visorref18_Same.j1 (k : Nat) (rec36 : Int → Option (Sum (Bool) (Unit))) (q_37 : Int) (p_60 : Tapi_Op) (p_62 : Tapi_Op) : Option (Sum (Bool) (Unit)) := (bif (p_60.kind == 4) && (p_62.kind == 4) then visorref18_Same.j2 k (rec36) q_37 p_62 (⟨p_60.kind, p_60.dom, p_60.a, p_60.b, p_60.d, p_62.c⟩ : Tapi_Op) else visorref18_Same.j2 k (rec36) q_37 p_62 p_60)
def visorref18_Same.l2 (x0 : Tapi_Trace) (x1 : Tapi_Trace) : Nat → Int → Option (Sum (Bool) (Unit))
  | 0, _ => none
  | k + 1, q_37 => (bif decide (q_37 < ((x0.ops.length : Nat) : Int)) then (if 0 ≤ q_37 then (x0.ops[q_37.toNat]?).bind fun e_46 => (if 0 ≤ q_37 then (x1.ops[q_37.toNat]?).bind fun e_53 => visorref18_Same.j1 k (visorref18_Same.l2 x0 x1 k) q_37 e_46 e_53 else none) else none) else some (.inr ()))
def visorref18_Same.l1 (x0 : Tapi_Trace) (x1 : Tapi_Trace) : Nat → Int → Option (Sum (Bool) (Unit))
  | 0, _ => none
  | k + 1, q_12 => (bif decide (q_12 < ((x0.blocks.length : Nat) : Int)) then (if 0 ≤ q_12 then (x0.blocks[q_12.toNat]?).bind fun e_21 => (if 0 ≤ q_12 then (x1.blocks[q_12.toNat]?).bind fun e_28 => (bif !(((e_21.kind == e_28.kind) && ((e_21.fromF == e_28.fromF) && ((e_21.to == e_28.to) && true)))) then some (.inl false) else visorref18_Same.l1 x0 x1 k (IntKind.i64.wrap (q_12 + 1))) else none) else none) else some (.inr ()))
abbrev visorref18_Same.R (κ : Ctx) (S : List HP) (x0 : Tapi_Trace) (x1 : Tapi_Trace) (A_x0ops : Option Addr) (c_x0ops : Nat) (A_x0blocks : Option Addr) (c_x0blocks : Nat) (A_x1ops : Option Addr) (c_x1ops : Nat) (A_x1blocks : Option Addr) (c_x1blocks : Nat) (r : Bool) : Ending → World → Prop := fun e w' => e = .returned (.bool r) ∧ Own κ w' (S)
def visorref18_Same.m (k : Nat) (x0 : Tapi_Trace) (x1 : Tapi_Trace) : Option Bool := (bif ((x0.n != x1.n) || (((x0.ops.length : Nat) : Int) != ((x1.ops.length : Nat) : Int))) || (((x0.blocks.length : Nat) : Int) != ((x1.blocks.length : Nat) : Int)) then some false else (visorref18_Same.l1 x0 x1 k 0).bind fun x => match x with | .inl v => some v | .inr () => (visorref18_Same.l2 x0 x1 k 0).bind fun x => match x with | .inl v => some v | .inr () => some true)

set_option maxRecDepth 100000 in
set_option maxHeartbeats 4000000 in
theorem visorref18_Same.ok (k : Nat) (x0 : Tapi_Trace) (x1 : Tapi_Trace) (r : Bool) (hm : visorref18_Same.m k x0 x1 = some r) (κ : Ctx) (w : World) (S : List HP) (A_x0ops : Option Addr) (c_x0ops : Nat) (hx_x0ops : Sl κ S A_x0ops c_x0ops 6 Tapi_Op.cells x0.ops) (A_x0blocks : Option Addr) (c_x0blocks : Nat) (hx_x0blocks : Sl κ S A_x0blocks c_x0blocks 3 Tapi_Span.cells x0.blocks) (A_x1ops : Option Addr) (c_x1ops : Nat) (hx_x1ops : Sl κ S A_x1ops c_x1ops 6 Tapi_Op.cells x1.ops) (A_x1blocks : Option Addr) (c_x1blocks : Nat) (hx_x1blocks : Sl κ S A_x1blocks c_x1blocks 3 Tapi_Span.cells x1.blocks) (ho : Own κ w (S)) :
    Calls Try.prog 109 #[.agg (vals [ci x0.n, C.slc A_x0ops x0.ops.length c_x0ops, C.slc A_x0blocks x0.blocks.length c_x0blocks]), .agg (vals [ci x1.n, C.slc A_x1ops x1.ops.length c_x1ops, C.slc A_x1blocks x1.blocks.length c_x1blocks])] w (visorref18_Same.R κ S x0 x1 A_x0ops c_x0ops A_x0blocks c_x0blocks A_x1ops c_x1ops A_x1blocks c_x1blocks r) := by
  unfold visorref18_Same.m at hm
  generalize hRR : visorref18_Same.R κ S x0 x1 A_x0ops c_x0ops A_x0blocks c_x0blocks A_x1ops c_x1ops A_x1blocks c_x1blocks r = RR
  refine qen [(0, .agg (vals [ci x0.n, C.slc A_x0ops x0.ops.length c_x0ops, C.slc A_x0blocks x0.blocks.length c_x0blocks])), (1, .agg (vals [ci x1.n, C.slc A_x1ops x1.ops.length c_x1ops, C.slc A_x1blocks x1.blocks.length c_x1blocks]))] Try.func109 Try.ntmps109 ho fun a hs => ?_
  refine qsr fun K1 hK1 => ?_
  refine Vk.step (Vk.box (x := (.tmp 0)) 2 102 [ci x0.n, C.slc A_x0ops x0.ops.length c_x0ops, C.slc A_x0blocks x0.blocks.length c_x0blocks] hs (by kernel_rfl) (by kernel_rfl) (by kernel_rfl) fun b_2 w a hs => ?_)
  refine Vk.step (Vk.box (x := (.tmp 1)) 3 102 [ci x1.n, C.slc A_x1ops x1.ops.length c_x1ops, C.slc A_x1blocks x1.blocks.length c_x1blocks] hs (by kernel_rfl) (by kernel_rfl) (by kernel_rfl) fun b_3 w a hs => ?_)
  refine qpe 1 [(2, pp b_2), (3, pp b_3)] hs fun a hs => hK1 _ _ ?_
  clear hK1
  refine Vk.seq fun K4 hK4 => ?_
  refine qsr fun K5 hK5 => ?_
  refine qpu 1 hs fun a hs => ?_
  refine qld 1 (ci x0.n) hs rfl fun a hs => ?_
  refine qpu 1 hs fun a hs => ?_
  refine qld 0 (ci x1.n) hs rfl fun a hs => ?_
  refine qpu 2 hs fun a hs => ?_
  suffices hj_6 : ∀ a, St 81 a w κ [(2, pp b_2), (3, pp b_3), (9, pp b_2), (10, vi x0.n), (11, pp b_3), (12, vi x1.n), (13, .bool (x0.n != x1.n)), (14, .bool (x0.n != x1.n)), (22, .bool ((x0.n != x1.n) || (((x0.ops.length : Nat) : Int) != ((x1.ops.length : Nat) : Int))))] (pt b_3 (blk (Tapi_Trace.obj x1 A_x1ops c_x1ops A_x1blocks c_x1blocks) 102) :: pt b_2 (blk (Tapi_Trace.obj x0 A_x0ops c_x0ops A_x0blocks c_x0blocks) 102) :: S) → wpFrom Try.prog _ _ 14 a w by
    rcases Bool.eq_false_or_eq_true (x0.n != x1.n) with hb | hb
    · replace hs := hs.known (t := 14) hb (by kernel_rfl)
      refine qpu 8 hs fun a hs => ?_
      have hq := hs.pick [2, 3, 9, 10, 11, 12, 13, 14, 22] (L' := [(2, pp b_2), (3, pp b_3), (9, pp b_2), (10, vi x0.n), (11, pp b_3), (12, vi x1.n), (13, .bool (x0.n != x1.n)), (14, .bool true), (22, .bool true)]) (by kernel_rfl)
      exact hj_6 _ (hq.conv (by first | (rw [hb] <;> rfl) | rfl))
    · replace hs := hs.known (t := 14) hb (by kernel_rfl)
      refine qpu 1 hs fun a hs => ?_
      refine qld 1 (C.slc A_x0ops x0.ops.length c_x0ops) hs rfl fun a hs => ?_
      refine qpu 2 hs fun a hs => ?_
      refine qld 0 (C.slc A_x1ops x1.ops.length c_x1ops) hs rfl fun a hs => ?_
      refine qpu 3 hs fun a hs => ?_
      have hq := hs.pick [2, 3, 9, 10, 11, 12, 13, 14, 22] (L' := [(2, pp b_2), (3, pp b_3), (9, pp b_2), (10, vi x0.n), (11, pp b_3), (12, vi x1.n), (13, .bool (x0.n != x1.n)), (14, .bool false), (22, .bool (((x0.ops.length : Nat) : Int) != ((x1.ops.length : Nat) : Int)))]) (by kernel_rfl)
      exact hj_6 _ (hq.conv (by first | (rw [hb] <;> rfl) | rfl))
  intro a hs
  refine qpu 1 hs fun a hs => ?_
  suffices hj_7 : ∀ a, St 81 a w κ [(2, pp b_2), (3, pp b_3), (9, pp b_2), (10, vi x0.n), (11, pp b_3), (12, vi x1.n), (13, .bool (x0.n != x1.n)), (14, .bool (x0.n != x1.n)), (22, .bool ((x0.n != x1.n) || (((x0.ops.length : Nat) : Int) != ((x1.ops.length : Nat) : Int)))), (23, .bool ((x0.n != x1.n) || (((x0.ops.length : Nat) : Int) != ((x1.ops.length : Nat) : Int)))), (31, .bool (((x0.n != x1.n) || (((x0.ops.length : Nat) : Int) != ((x1.ops.length : Nat) : Int))) || (((x0.blocks.length : Nat) : Int) != ((x1.blocks.length : Nat) : Int))))] (pt b_3 (blk (Tapi_Trace.obj x1 A_x1ops c_x1ops A_x1blocks c_x1blocks) 102) :: pt b_2 (blk (Tapi_Trace.obj x0 A_x0ops c_x0ops A_x0blocks c_x0blocks) 102) :: S) → wpFrom Try.prog _ _ 23 a w by
    rcases Bool.eq_false_or_eq_true ((x0.n != x1.n) || (((x0.ops.length : Nat) : Int) != ((x1.ops.length : Nat) : Int))) with hb | hb
    · replace hs := hs.known (t := 23) hb (by kernel_rfl)
      refine qpu 8 hs fun a hs => ?_
      have hq := hs.pick [2, 3, 9, 10, 11, 12, 13, 14, 22, 23, 31] (L' := [(2, pp b_2), (3, pp b_3), (9, pp b_2), (10, vi x0.n), (11, pp b_3), (12, vi x1.n), (13, .bool (x0.n != x1.n)), (14, .bool (x0.n != x1.n)), (22, .bool ((x0.n != x1.n) || (((x0.ops.length : Nat) : Int) != ((x1.ops.length : Nat) : Int)))), (23, .bool true), (31, .bool true)]) (by kernel_rfl)
      exact hj_7 _ (hq.conv (by first | (rw [hb] <;> rfl) | rfl))
    · replace hs := hs.known (t := 23) hb (by kernel_rfl)
      refine qpu 1 hs fun a hs => ?_
      refine qld 1 (C.slc A_x0blocks x0.blocks.length c_x0blocks) hs rfl fun a hs => ?_
      refine qpu 2 hs fun a hs => ?_
      refine qld 0 (C.slc A_x1blocks x1.blocks.length c_x1blocks) hs rfl fun a hs => ?_
      refine qpu 3 hs fun a hs => ?_
      have hq := hs.pick [2, 3, 9, 10, 11, 12, 13, 14, 22, 23, 31] (L' := [(2, pp b_2), (3, pp b_3), (9, pp b_2), (10, vi x0.n), (11, pp b_3), (12, vi x1.n), (13, .bool (x0.n != x1.n)), (14, .bool (x0.n != x1.n)), (22, .bool ((x0.n != x1.n) || (((x0.ops.length : Nat) : Int) != ((x1.ops.length : Nat) : Int)))), (23, .bool false), (31, .bool (((x0.blocks.length : Nat) : Int) != ((x1.blocks.length : Nat) : Int)))]) (by kernel_rfl)
      exact hj_7 _ (hq.conv (by first | (rw [hb] <;> rfl) | rfl))
  intro a hs
  refine qpe 0 [(2, pp b_2), (3, pp b_3), (31, .bool (((x0.n != x1.n) || (((x0.ops.length : Nat) : Int) != ((x1.ops.length : Nat) : Int))) || (((x0.blocks.length : Nat) : Int) != ((x1.blocks.length : Nat) : Int))))] hs fun a hs => hK5 _ _ ?_
  clear hK5
  refine qcs (((x0.n != x1.n) || (((x0.ops.length : Nat) : Int) != ((x1.ops.length : Nat) : Int))) || (((x0.blocks.length : Nat) : Int) != ((x1.blocks.length : Nat) : Int))) hs (fun hb => ?_) fun hb => ?_
  · replace hm := bif_t hm hb
    refine qsr fun K8 hK8 => ?_
    refine qpe 1 [(4, .bool false)] hs fun a hs => hK8 _ _ ?_
    clear hK8
    refine wp_ret ?_
    exact Vk.ret1 (P := Try.prog) (fn := Try.f109) (R := RR) (.bool false) hs rfl (by kernel_rfl) (by obtain rfl := Option.some.inj hm; subst hRR; exact ⟨rfl, (Own.to hs.own [] 2 (by kernel_rfl) (by kernel_rfl))⟩)
  · replace hm := bif_f hm hb
    refine wp_skip ?_
    refine hK4 _ _ ?_
    clear hK4
    refine Vk.seq fun K9 hK9 => ?_
    refine qsr fun K10 hK10 => ?_
    refine qpe 1 [(2, pp b_2), (3, pp b_3), (5, vi 0)] hs fun a hs => hK10 _ _ ?_
    clear hK10
    refine wp_block ?_
    obtain ⟨r11, hl11, hm⟩ := bind_t hm
    have hx11 : r11 = Sum.inr () → ∀ (a : Act) (w : World), St 81 a w κ [(2, pp b_2), (3, pp b_3)] (pt b_2 (blk (Tapi_Trace.obj x0 A_x0ops c_x0ops A_x0blocks c_x0blocks) 102) :: pt b_3 (blk (Tapi_Trace.obj x1 A_x1ops c_x1ops A_x1blocks c_x1blocks) 102) :: S) → K9 a w := by
      intro he a w hs
      subst r11
      refine hK9 _ _ ?_
      clear hK9
      refine Vk.seq fun K34 hK34 => ?_
      refine qsr fun K35 hK35 => ?_
      refine qpe 1 [(2, pp b_2), (3, pp b_3), (6, vi 0)] hs fun a hs => hK35 _ _ ?_
      clear hK35
      refine wp_block ?_
      obtain ⟨r36, hl36, hm⟩ := bind_t hm
      have hx36 : r36 = Sum.inr () → ∀ (a : Act) (w : World), St 81 a w κ [] (S) → K34 a w := by
        intro he a w hs
        subst r36
        refine hK34 _ _ ?_
        clear hK34
        refine qsr fun K70 hK70 => ?_
        refine qpe 1 [(4, .bool true)] hs fun a hs => hK70 _ _ ?_
        clear hK70
        refine wp_ret ?_
        exact Vk.ret1 (P := Try.prog) (fn := Try.f109) (R := RR) (.bool true) hs rfl (by kernel_rfl) (by obtain rfl := Option.some.inj hm; subst hRR; exact ⟨rfl, (Own.to hs.own [] 0 (by kernel_rfl) (by kernel_rfl))⟩)
      have hret36 : ∀ v, r36 = Sum.inl v → v = r := by intro v he; subst r36; exact Option.some.inj hm
      refine Vk.loopBy (fun k (s : Int) a w => visorref18_Same.l2 x0 x1 k s = some r36 ∧ St 81 a w κ [(2, pp b_2), (3, pp b_3), (6, vi s)] (pt b_2 (blk (Tapi_Trace.obj x0 A_x0ops c_x0ops A_x0blocks c_x0blocks) 102) :: pt b_3 (blk (Tapi_Trace.obj x1 A_x1ops c_x1ops A_x1blocks c_x1blocks) 102) :: S)) k 0 ⟨hl36, hs.go [2, 3, 6] [0, 1] 2 (by kernel_rfl) (by kernel_rfl) (by kernel_rfl)⟩ (fun s a w h => by obtain ⟨h1, _⟩ := h; simp [visorref18_Same.l2] at h1) (fun k KL36 ih q_37 a w h => ?_)
      obtain ⟨hm, hs⟩ := h
      try dsimp only at hm hs
      rw [visorref18_Same.l2] at hm
      refine Vk.seq fun K38 hK38 => ?_
      refine qsr fun K39 hK39 => ?_
      refine qpu 2 hs fun a hs => ?_
      refine qld 0 (C.slc A_x0ops x0.ops.length c_x0ops) hs rfl fun a hs => ?_
      refine qpe 2 [(2, pp b_2), (3, pp b_3), (6, vi q_37), (54, .bool (decide (q_37 < ((x0.ops.length : Nat) : Int))))] hs fun a hs => hK39 _ _ ?_
      clear hK39
      refine qcs (decide (q_37 < ((x0.ops.length : Nat) : Int))) hs (fun hb => ?_) fun hb => ?_
      · replace hm := bif_t hm hb
        refine wp_skip ?_
        refine hK38 _ _ ?_
        clear hK38
        refine Vk.seq fun K40 hK40 => ?_
        refine wp_block ?_
        refine Vk.seq fun K41 hK41 => ?_
        have hj41 : ∀ (p_60 : Tapi_Op) (p_62 : Tapi_Op), visorref18_Same.j1 k (visorref18_Same.l2 x0 x1 k) q_37 p_60 p_62 = some r36 → ∀ (b_59 : Nat) (b_61 : Nat) (a : Act) (w : World), St 81 a w κ [(2, pp b_2), (3, pp b_3), (6, vi q_37), (7, pp b_59), (8, pp b_61)] (pt b_2 (blk (Tapi_Trace.obj x0 A_x0ops c_x0ops A_x0blocks c_x0blocks) 102) :: pt b_3 (blk (Tapi_Trace.obj x1 A_x1ops c_x1ops A_x1blocks c_x1blocks) 102) :: pt b_59 (blk (Tapi_Op.cells p_60) 93) :: pt b_61 (blk (Tapi_Op.cells p_62) 93) :: S) → K41 a w := by
          intro p_60 p_62 hm b_59 b_61 a w hs
          unfold visorref18_Same.j1 at hm
          refine hK41 _ _ ?_
          refine Vk.seq fun K63 hK63 => ?_
          have hj63 : ∀ (p_66 : Tapi_Op), visorref18_Same.j2 k (visorref18_Same.l2 x0 x1 k) q_37 p_62 p_66 = some r36 → ∀ (a : Act) (w : World), St 81 a w κ [(2, pp b_2), (3, pp b_3), (6, vi q_37), (7, pp b_59), (8, pp b_61)] (pt b_2 (blk (Tapi_Trace.obj x0 A_x0ops c_x0ops A_x0blocks c_x0blocks) 102) :: pt b_3 (blk (Tapi_Trace.obj x1 A_x1ops c_x1ops A_x1blocks c_x1blocks) 102) :: pt b_59 (blk (Tapi_Op.cells p_66) 93) :: pt b_61 (blk (Tapi_Op.cells p_62) 93) :: S) → K63 a w := by
            intro p_66 hm a w hs
            unfold visorref18_Same.j2 at hm
            refine hK63 _ _ ?_
            refine qsr fun K67 hK67 => ?_
            refine qln 2 ([ci p_66.kind, ci p_66.dom, ci p_66.a, ci p_66.b, ci p_66.d, cw p_66.c]) hs rfl fun a hs => ?_
            refine qln 3 ([ci p_62.kind, ci p_62.dom, ci p_62.a, ci p_62.b, ci p_62.d, cw p_62.c]) hs rfl fun a hs => ?_
            refine Vk.step (Vk.value (some 80) (.bool (!(((p_66.kind == p_62.kind) && ((p_66.dom == p_62.dom) && ((p_66.a == p_62.a) && ((p_66.b == p_62.b) && ((p_66.d == p_62.d) && ((p_66.c == p_62.c) && true))))))))) hs (by kernel_rfl) (op := (.binOp .neq 93 (.tmp 78) (.tmp 79) 93)) (by kernel_rfl) (fun o ho => run_neqV (ks := ([LK.int .i64] ++ [LK.int .i64] ++ [LK.int .i64] ++ [LK.int .i64] ++ [LK.int .i64] ++ [LK.int .u64])) (cs := [ci p_66.kind, ci p_66.dom, ci p_66.a, ci p_66.b, ci p_66.d, cw p_66.c]) (us := [ci p_62.kind, ci p_62.dom, ci p_62.a, ci p_62.b, ci p_62.d, cw p_62.c]) ho (by kernel_rfl) (by kernel_rfl) (by kernel_rfl) rfl rfl _) fun a hs => ?_)
            refine qpe 0 [(2, pp b_2), (3, pp b_3), (6, vi q_37), (80, .bool (!(((p_66.kind == p_62.kind) && ((p_66.dom == p_62.dom) && ((p_66.a == p_62.a) && ((p_66.b == p_62.b) && ((p_66.d == p_62.d) && ((p_66.c == p_62.c) && true)))))))))] hs fun a hs => hK67 _ _ ?_
            clear hK67
            refine qcs (!(((p_66.kind == p_62.kind) && ((p_66.dom == p_62.dom) && ((p_66.a == p_62.a) && ((p_66.b == p_62.b) && ((p_66.d == p_62.d) && ((p_66.c == p_62.c) && true)))))))) hs (fun hb => ?_) fun hb => ?_
            · replace hm := bif_t hm hb
              refine qsr fun K68 hK68 => ?_
              refine qpe 1 [(4, .bool false)] hs fun a hs => hK68 _ _ ?_
              clear hK68
              refine wp_ret ?_
              exact Vk.ret1 (P := Try.prog) (fn := Try.f109) (R := RR) (.bool false) hs rfl (by kernel_rfl) (by obtain rfl := hret36 _ ((Option.some.inj hm).symm); subst hRR; exact ⟨rfl, (Own.to hs.own [] 4 (by kernel_rfl) (by kernel_rfl))⟩)
            · replace hm := bif_f hm hb
              refine wp_skip ?_
              refine hK40 _ _ ?_
              clear hK40
              refine Vk.region ?_
              refine qpe 3 [(2, pp b_2), (3, pp b_3), (6, vi (IntKind.i64.wrap (q_37 + 1)))] hs fun a hs => ?_
              refine ih (IntKind.i64.wrap (q_37 + 1)) _ _ ⟨hm, hs.go [2, 3, 6] [0, 1] 4 (by kernel_rfl) (by kernel_rfl) (by kernel_rfl)⟩
          refine qsr fun K64 hK64 => ?_
          refine qpu 1 hs fun a hs => ?_
          refine qld 2 (ci p_60.kind) hs rfl fun a hs => ?_
          refine qpu 2 hs fun a hs => ?_
          suffices hj_65 : ∀ a, St 81 a w κ [(2, pp b_2), (3, pp b_3), (6, vi q_37), (7, pp b_59), (8, pp b_61), (67, pp b_59), (68, vi p_60.kind), (69, .bool (p_60.kind == 4)), (70, .bool (p_60.kind == 4)), (74, .bool ((p_60.kind == 4) && (p_62.kind == 4)))] (pt b_2 (blk (Tapi_Trace.obj x0 A_x0ops c_x0ops A_x0blocks c_x0blocks) 102) :: pt b_3 (blk (Tapi_Trace.obj x1 A_x1ops c_x1ops A_x1blocks c_x1blocks) 102) :: pt b_59 (blk (Tapi_Op.cells p_60) 93) :: pt b_61 (blk (Tapi_Op.cells p_62) 93) :: S) → wpFrom Try.prog _ _ 8 a w by
            rcases Bool.eq_false_or_eq_true (p_60.kind == 4) with hb | hb
            · replace hs := hs.known (t := 70) hb (by kernel_rfl)
              refine qpu 1 hs fun a hs => ?_
              refine qld 3 (ci p_62.kind) hs rfl fun a hs => ?_
              refine qpu 2 hs fun a hs => ?_
              have hq := hs.pick [2, 3, 6, 7, 8, 67, 68, 69, 70, 74] (L' := [(2, pp b_2), (3, pp b_3), (6, vi q_37), (7, pp b_59), (8, pp b_61), (67, pp b_59), (68, vi p_60.kind), (69, .bool (p_60.kind == 4)), (70, .bool true), (74, .bool (p_62.kind == 4))]) (by kernel_rfl)
              exact hj_65 _ (hq.conv (by first | (rw [hb] <;> rfl) | rfl))
            · replace hs := hs.known (t := 70) hb (by kernel_rfl)
              refine qpu 4 hs fun a hs => ?_
              have hq := hs.pick [2, 3, 6, 7, 8, 67, 68, 69, 70, 74] (L' := [(2, pp b_2), (3, pp b_3), (6, vi q_37), (7, pp b_59), (8, pp b_61), (67, pp b_59), (68, vi p_60.kind), (69, .bool (p_60.kind == 4)), (70, .bool false), (74, .bool false)]) (by kernel_rfl)
              exact hj_65 _ (hq.conv (by first | (rw [hb] <;> rfl) | rfl))
          intro a hs
          refine qpe 0 [(2, pp b_2), (3, pp b_3), (6, vi q_37), (7, pp b_59), (8, pp b_61), (74, .bool ((p_60.kind == 4) && (p_62.kind == 4)))] hs fun a hs => hK64 _ _ ?_
          clear hK64
          refine qcs ((p_60.kind == 4) && (p_62.kind == 4)) hs (fun hb => ?_) fun hb => ?_
          · replace hm := bif_t hm hb
            refine Vk.region ?_
            refine qpu 1 hs fun a hs => ?_
            refine qld 3 (cw p_62.c) hs rfl fun a hs => ?_
            refine qpu 1 hs fun a hs => ?_
            refine Vk.step (Vk.store1 (b := b_59) (ty := 32) (x := (.tmp 77)) (y := (.tmp 76)) (off := 5) (cw p_62.c) 2 hs (by kernel_rfl) (by kernel_rfl) (by kernel_rfl) (by kernel_rfl) (by kernel_rfl) (by kernel_rfl) rfl (Nat.le_of_ble_eq_true (by kernel_rfl)) fun a w hs => ?_)
            refine qpe 0 [(2, pp b_2), (3, pp b_3), (6, vi q_37), (7, pp b_59), (8, pp b_61)] hs fun a hs => ?_
            exact hj63 (⟨p_60.kind, p_60.dom, p_60.a, p_60.b, p_60.d, p_62.c⟩ : Tapi_Op) hm _ _ (hs.go [2, 3, 6, 7, 8] [0, 1, 2, 3] 4 (by kernel_rfl) (by kernel_rfl) (by kernel_rfl))
          · replace hm := bif_f hm hb
            refine wp_skip ?_
            exact hj63 p_60 hm _ _ (hs.go [2, 3, 6, 7, 8] [0, 1, 2, 3] 4 (by kernel_rfl) (by kernel_rfl) (by kernel_rfl))
        obtain ⟨C_42, hC_42⟩ : ∃ X0 : List HP, X0 = (pt b_2 (blk (Tapi_Trace.obj x0 A_x0ops c_x0ops A_x0blocks c_x0blocks) 102) :: pt b_3 (blk (Tapi_Trace.obj x1 A_x1ops c_x1ops A_x1blocks c_x1blocks) 102) :: S) := ⟨_, rfl⟩
        refine qdr 13 κ C_42 hs fun w hs hqC_42 => ?_
        have hcz : Own κ w (pt b_2 (blk (Tapi_Trace.obj x0 A_x0ops c_x0ops A_x0blocks c_x0blocks) 102) :: pt b_3 (blk (Tapi_Trace.obj x1 A_x1ops c_x1ops A_x1blocks c_x1blocks) 102) :: S) := (Own.to hs.own [0, 1] 2 (by kernel_rfl) (by kernel_rfl))
        have hcl : Own κ w C_42 := by rw [hC_42]; exact hcz
        refine qdp (fuel := 10) [0, 2, 5, 7] hs hcl hqC_42 fun a hs => ?_
        refine qdl 1 0 (C.slc A_x0ops x0.ops.length c_x0ops) hs hcl hqC_42 hC_42 rfl fun a hs => ?_
        obtain ⟨h_43, hm⟩ := ite_t hm
        obtain ⟨e_46, h_44, hm⟩ := bind_t hm
        obtain ⟨b_47, o_48, hA_49, h_45⟩ := Sl.elem hx_x0ops h_44
        refine Vk.dTakeT (i := 3) (some 60) (.pointer (some ⟨b_47, o_48 + q_37.toNat * 6, none⟩)) hs (by kernel_rfl) hqC_42 hcl (by kernel_rfl) (by kernel_rfl) (op := (.indexAddr 59 (.tmp 58) (.tmp 59))) (by kernel_rfl) (by kernel_rfl) (fun w hw o ho => by rw [hC_42] at hw; exact run_idxSlc (k := .i64) ho (cap := c_x0ops) (len := x0.ops.length) ((congrArg (fun A => Value.slice A (x0.ops.length) (c_x0ops)) hA_49) ▸ (by kernel_rfl)) (by kernel_rfl) (by kernel_rfl) (idx_ok h_43 h_44) _) fun a hs => ?_
        refine Vk.dTakeT (i := 4) (some 61) (.agg (vals [ci e_46.kind, ci e_46.dom, ci e_46.a, ci e_46.b, ci e_46.d, cw e_46.c])) hs (by kernel_rfl) hqC_42 hcl (by kernel_rfl) (by kernel_rfl) (op := (.load 93 (.tmp 60))) (by kernel_rfl) (by kernel_rfl) (fun w hw o ho => by rw [hC_42] at hw; exact run_loadN (cs := [ci e_46.kind, ci e_46.dom, ci e_46.a, ci e_46.b, ci e_46.d, cw e_46.c]) ho (by kernel_rfl) (by kernel_rfl) rfl h_45 _ hw.drop.drop) fun a hs => ?_
        refine qdl 6 1 (C.slc A_x1ops x1.ops.length c_x1ops) hs hcl hqC_42 hC_42 rfl fun a hs => ?_
        obtain ⟨h_50, hm⟩ := ite_t hm
        obtain ⟨e_53, h_51, hm⟩ := bind_t hm
        obtain ⟨b_54, o_55, hA_56, h_52⟩ := Sl.elem hx_x1ops h_51
        refine Vk.dTakeT (i := 8) (some 65) (.pointer (some ⟨b_54, o_55 + q_37.toNat * 6, none⟩)) hs (by kernel_rfl) hqC_42 hcl (by kernel_rfl) (by kernel_rfl) (op := (.indexAddr 59 (.tmp 63) (.tmp 64))) (by kernel_rfl) (by kernel_rfl) (fun w hw o ho => by rw [hC_42] at hw; exact run_idxSlc (k := .i64) ho (cap := c_x1ops) (len := x1.ops.length) ((congrArg (fun A => Value.slice A (x1.ops.length) (c_x1ops)) hA_56) ▸ (by kernel_rfl)) (by kernel_rfl) (by kernel_rfl) (idx_ok h_50 h_51) _) fun a hs => ?_
        refine Vk.dTakeT (i := 9) (some 66) (.agg (vals [ci e_53.kind, ci e_53.dom, ci e_53.a, ci e_53.b, ci e_53.d, cw e_53.c])) hs (by kernel_rfl) hqC_42 hcl (by kernel_rfl) (by kernel_rfl) (op := (.load 93 (.tmp 65))) (by kernel_rfl) (by kernel_rfl) (fun w hw o ho => by rw [hC_42] at hw; exact run_loadN (cs := [ci e_53.kind, ci e_53.dom, ci e_53.a, ci e_53.b, ci e_53.d, cw e_53.c]) ho (by kernel_rfl) (by kernel_rfl) rfl h_52 _ hw.drop.drop) fun a hs => ?_
        refine Vk.dMany2 (i0 := 10) (i1 := 11) (by kernel_rfl) ?_ ?_
        · refine Vk.alloc 7 93 [ci 0, ci 0, ci 0, ci 0, ci 0, cw 0] hs (by kernel_rfl) (by kernel_rfl) (by kernel_rfl) fun b_57 w a hs => ?_
          replace hcl : Own κ w C_42 := by rw [hC_42]; exact (Own.to hs.own [1, 2] 3 (by kernel_rfl) (by kernel_rfl))
          refine ⟨fun _ => hcl, ?_⟩
          refine Vk.dOnly (i := 11) (by kernel_rfl) (Vk.alloc 8 93 [ci 0, ci 0, ci 0, ci 0, ci 0, cw 0] hs (by kernel_rfl) (by kernel_rfl) (by kernel_rfl) fun b_58 w a hs => ?_)
          replace hcl : Own κ w C_42 := by rw [hC_42]; exact (Own.to hs.own [2, 3] 4 (by kernel_rfl) (by kernel_rfl))
          refine ⟨fun _ => hcl, ?_⟩
          refine Vk.dOnly (i := 12) (by kernel_rfl) (Vk.storeA (b := b_57) (ty := 93) (x := (.tmp 7)) (y := (.tmp 61)) (sz := 6) [ci e_46.kind, ci e_46.dom, ci e_46.a, ci e_46.b, ci e_46.d, cw e_46.c] 1 hs (by kernel_rfl) (by kernel_rfl) (by kernel_rfl) (by kernel_rfl) (by kernel_rfl) rfl (by kernel_rfl) rfl (Eq.trans (b := 6) rfl (Eq.symm rfl)) fun a w hs => ?_)
          replace hcl : Own κ w C_42 := by rw [hC_42]; exact (Own.to hs.own [2, 3] 4 (by kernel_rfl) (by kernel_rfl))
          refine ⟨fun _ => hcl, ?_⟩
          refine Vk.dOnly (i := 13) (by kernel_rfl) (Vk.storeA (b := b_58) (ty := 93) (x := (.tmp 8)) (y := (.tmp 66)) (sz := 6) [ci e_53.kind, ci e_53.dom, ci e_53.a, ci e_53.b, ci e_53.d, cw e_53.c] 0 hs (by kernel_rfl) (by kernel_rfl) (by kernel_rfl) (by kernel_rfl) (by kernel_rfl) rfl (by kernel_rfl) rfl (Eq.trans (b := 6) rfl (Eq.symm rfl)) fun a w hs => ?_)
          refine ⟨fun h => absurd h (by decide), ?_⟩
          replace hs := hs.pick [2, 3, 6, 7, 8] (L' := [(2, pp b_2), (3, pp b_3), (6, vi q_37), (7, pp b_57), (8, pp b_58)]) (by kernel_rfl)
          refine Vk.dDone (by kernel_rfl) ?_
          exact hj41 e_46 e_53 hm b_57 b_58 _ _ (hs.go [2, 3, 6, 7, 8] [2, 3, 1, 0] 4 (by kernel_rfl) (by kernel_rfl) (by kernel_rfl))
        · refine Vk.alloc 8 93 [ci 0, ci 0, ci 0, ci 0, ci 0, cw 0] hs (by kernel_rfl) (by kernel_rfl) (by kernel_rfl) fun b_57 w a hs => ?_
          replace hcl : Own κ w C_42 := by rw [hC_42]; exact (Own.to hs.own [1, 2] 3 (by kernel_rfl) (by kernel_rfl))
          refine ⟨fun _ => hcl, ?_⟩
          refine Vk.dOnly (i := 10) (by kernel_rfl) (Vk.alloc 7 93 [ci 0, ci 0, ci 0, ci 0, ci 0, cw 0] hs (by kernel_rfl) (by kernel_rfl) (by kernel_rfl) fun b_58 w a hs => ?_)
          replace hcl : Own κ w C_42 := by rw [hC_42]; exact (Own.to hs.own [2, 3] 4 (by kernel_rfl) (by kernel_rfl))
          refine ⟨fun _ => hcl, ?_⟩
          refine Vk.dOnly (i := 12) (by kernel_rfl) (Vk.storeA (b := b_58) (ty := 93) (x := (.tmp 7)) (y := (.tmp 61)) (sz := 6) [ci e_46.kind, ci e_46.dom, ci e_46.a, ci e_46.b, ci e_46.d, cw e_46.c] 0 hs (by kernel_rfl) (by kernel_rfl) (by kernel_rfl) (by kernel_rfl) (by kernel_rfl) rfl (by kernel_rfl) rfl (Eq.trans (b := 6) rfl (Eq.symm rfl)) fun a w hs => ?_)
          replace hcl : Own κ w C_42 := by rw [hC_42]; exact (Own.to hs.own [2, 3] 4 (by kernel_rfl) (by kernel_rfl))
          refine ⟨fun _ => hcl, ?_⟩
          refine Vk.dOnly (i := 13) (by kernel_rfl) (Vk.storeA (b := b_57) (ty := 93) (x := (.tmp 8)) (y := (.tmp 66)) (sz := 6) [ci e_53.kind, ci e_53.dom, ci e_53.a, ci e_53.b, ci e_53.d, cw e_53.c] 1 hs (by kernel_rfl) (by kernel_rfl) (by kernel_rfl) (by kernel_rfl) (by kernel_rfl) rfl (by kernel_rfl) rfl (Eq.trans (b := 6) rfl (Eq.symm rfl)) fun a w hs => ?_)
          refine ⟨fun h => absurd h (by decide), ?_⟩
          replace hs := hs.pick [2, 3, 6, 7, 8] (L' := [(2, pp b_2), (3, pp b_3), (6, vi q_37), (7, pp b_58), (8, pp b_57)]) (by kernel_rfl)
          refine Vk.dDone (by kernel_rfl) ?_
          exact hj41 e_46 e_53 hm b_58 b_57 _ _ (hs.go [2, 3, 6, 7, 8] [2, 3, 0, 1] 4 (by kernel_rfl) (by kernel_rfl) (by kernel_rfl))
      · replace hm := bif_f hm hb
        refine wp_exit ?_
        exact hx36 (Option.some.inj hm).symm _ _ (hs.go [] [] 2 (by kernel_rfl) (by kernel_rfl) (by kernel_rfl))
    have hret11 : ∀ v, r11 = Sum.inl v → v = r := by intro v he; subst r11; exact Option.some.inj hm
    refine Vk.loopBy (fun k (s : Int) a w => visorref18_Same.l1 x0 x1 k s = some r11 ∧ St 81 a w κ [(2, pp b_2), (3, pp b_3), (5, vi s)] (pt b_2 (blk (Tapi_Trace.obj x0 A_x0ops c_x0ops A_x0blocks c_x0blocks) 102) :: pt b_3 (blk (Tapi_Trace.obj x1 A_x1ops c_x1ops A_x1blocks c_x1blocks) 102) :: S)) k 0 ⟨hl11, hs.go [2, 3, 5] [1, 0] 2 (by kernel_rfl) (by kernel_rfl) (by kernel_rfl)⟩ (fun s a w h => by obtain ⟨h1, _⟩ := h; simp [visorref18_Same.l1] at h1) (fun k KL11 ih q_12 a w h => ?_)
    obtain ⟨hm, hs⟩ := h
    try dsimp only at hm hs
    rw [visorref18_Same.l1] at hm
    refine Vk.seq fun K13 hK13 => ?_
    refine qsr fun K14 hK14 => ?_
    refine qpu 2 hs fun a hs => ?_
    refine qld 0 (C.slc A_x0blocks x0.blocks.length c_x0blocks) hs rfl fun a hs => ?_
    refine qpe 2 [(2, pp b_2), (3, pp b_3), (5, vi q_12), (36, .bool (decide (q_12 < ((x0.blocks.length : Nat) : Int))))] hs fun a hs => hK14 _ _ ?_
    clear hK14
    refine qcs (decide (q_12 < ((x0.blocks.length : Nat) : Int))) hs (fun hb => ?_) fun hb => ?_
    · replace hm := bif_t hm hb
      refine wp_skip ?_
      refine hK13 _ _ ?_
      clear hK13
      refine Vk.seq fun K15 hK15 => ?_
      refine wp_block ?_
      refine Vk.seq fun K16 hK16 => ?_
      obtain ⟨C_17, hC_17⟩ : ∃ X0 : List HP, X0 = (pt b_2 (blk (Tapi_Trace.obj x0 A_x0ops c_x0ops A_x0blocks c_x0blocks) 102) :: pt b_3 (blk (Tapi_Trace.obj x1 A_x1ops c_x1ops A_x1blocks c_x1blocks) 102) :: S) := ⟨_, rfl⟩
      refine qdr 11 κ C_17 hs fun w hs hqC_17 => ?_
      have hcz : Own κ w (pt b_2 (blk (Tapi_Trace.obj x0 A_x0ops c_x0ops A_x0blocks c_x0blocks) 102) :: pt b_3 (blk (Tapi_Trace.obj x1 A_x1ops c_x1ops A_x1blocks c_x1blocks) 102) :: S) := (Own.to hs.own [0, 1] 2 (by kernel_rfl) (by kernel_rfl))
      have hcl : Own κ w C_17 := by rw [hC_17]; exact hcz
      refine qdp (fuel := 7) [0, 2, 5, 7] hs hcl hqC_17 fun a hs => ?_
      refine qdl 1 0 (C.slc A_x0blocks x0.blocks.length c_x0blocks) hs hcl hqC_17 hC_17 rfl fun a hs => ?_
      obtain ⟨h_18, hm⟩ := ite_t hm
      obtain ⟨e_21, h_19, hm⟩ := bind_t hm
      obtain ⟨b_22, o_23, hA_24, h_20⟩ := Sl.elem hx_x0blocks h_19
      refine Vk.dTakeT (i := 3) (some 42) (.pointer (some ⟨b_22, o_23 + q_12.toNat * 3, none⟩)) hs (by kernel_rfl) hqC_17 hcl (by kernel_rfl) (by kernel_rfl) (op := (.indexAddr 60 (.tmp 40) (.tmp 41))) (by kernel_rfl) (by kernel_rfl) (fun w hw o ho => by rw [hC_17] at hw; exact run_idxSlc (k := .i64) ho (cap := c_x0blocks) (len := x0.blocks.length) ((congrArg (fun A => Value.slice A (x0.blocks.length) (c_x0blocks)) hA_24) ▸ (by kernel_rfl)) (by kernel_rfl) (by kernel_rfl) (idx_ok h_18 h_19) _) fun a hs => ?_
      refine Vk.dTakeT (i := 4) (some 43) (.agg (vals [ci e_21.kind, ci e_21.fromF, ci e_21.to])) hs (by kernel_rfl) hqC_17 hcl (by kernel_rfl) (by kernel_rfl) (op := (.load 175 (.tmp 42))) (by kernel_rfl) (by kernel_rfl) (fun w hw o ho => by rw [hC_17] at hw; exact run_loadN (cs := [ci e_21.kind, ci e_21.fromF, ci e_21.to]) ho (by kernel_rfl) (by kernel_rfl) rfl h_20 _ hw.drop.drop) fun a hs => ?_
      refine qdl 6 1 (C.slc A_x1blocks x1.blocks.length c_x1blocks) hs hcl hqC_17 hC_17 rfl fun a hs => ?_
      obtain ⟨h_25, hm⟩ := ite_t hm
      obtain ⟨e_28, h_26, hm⟩ := bind_t hm
      obtain ⟨b_29, o_30, hA_31, h_27⟩ := Sl.elem hx_x1blocks h_26
      refine Vk.dTakeT (i := 8) (some 47) (.pointer (some ⟨b_29, o_30 + q_12.toNat * 3, none⟩)) hs (by kernel_rfl) hqC_17 hcl (by kernel_rfl) (by kernel_rfl) (op := (.indexAddr 60 (.tmp 45) (.tmp 46))) (by kernel_rfl) (by kernel_rfl) (fun w hw o ho => by rw [hC_17] at hw; exact run_idxSlc (k := .i64) ho (cap := c_x1blocks) (len := x1.blocks.length) ((congrArg (fun A => Value.slice A (x1.blocks.length) (c_x1blocks)) hA_31) ▸ (by kernel_rfl)) (by kernel_rfl) (by kernel_rfl) (idx_ok h_25 h_26) _) fun a hs => ?_
      refine Vk.dTakeT (i := 9) (some 48) (.agg (vals [ci e_28.kind, ci e_28.fromF, ci e_28.to])) hs (by kernel_rfl) hqC_17 hcl (by kernel_rfl) (by kernel_rfl) (op := (.load 175 (.tmp 47))) (by kernel_rfl) (by kernel_rfl) (fun w hw o ho => by rw [hC_17] at hw; exact run_loadN (cs := [ci e_28.kind, ci e_28.fromF, ci e_28.to]) ho (by kernel_rfl) (by kernel_rfl) rfl h_27 _ hw.drop.drop) fun a hs => ?_
      refine Vk.dTakeT (i := 10) (some 49) (.bool (!(((e_21.kind == e_28.kind) && ((e_21.fromF == e_28.fromF) && ((e_21.to == e_28.to) && true)))))) hs (by kernel_rfl) hqC_17 hcl (by kernel_rfl) (by kernel_rfl) (op := (.binOp .neq 175 (.tmp 43) (.tmp 48) 175)) (by kernel_rfl) (by kernel_rfl) (fun w hw o ho => by rw [hC_17] at hw; exact run_neqV (ks := ([LK.int .i64] ++ [LK.int .i64] ++ [LK.int .i64])) (cs := [ci e_21.kind, ci e_21.fromF, ci e_21.to]) (us := [ci e_28.kind, ci e_28.fromF, ci e_28.to]) ho (by kernel_rfl) (by kernel_rfl) (by kernel_rfl) rfl rfl _) fun a hs => ?_
      replace hs := hs.pick [2, 3, 5, 49] (L' := [(2, pp b_2), (3, pp b_3), (5, vi q_12), (49, .bool (!(((e_21.kind == e_28.kind) && ((e_21.fromF == e_28.fromF) && ((e_21.to == e_28.to) && true))))))]) (by kernel_rfl)
      refine Vk.dDone (by kernel_rfl) ?_
      refine hK16 _ _ ?_
      clear hK16
      refine qcs (!(((e_21.kind == e_28.kind) && ((e_21.fromF == e_28.fromF) && ((e_21.to == e_28.to) && true))))) hs (fun hb => ?_) fun hb => ?_
      · replace hm := bif_t hm hb
        refine qsr fun K32 hK32 => ?_
        refine qpe 1 [(4, .bool false)] hs fun a hs => hK32 _ _ ?_
        clear hK32
        refine wp_ret ?_
        exact Vk.ret1 (P := Try.prog) (fn := Try.f109) (R := RR) (.bool false) hs rfl (by kernel_rfl) (by obtain rfl := hret11 _ ((Option.some.inj hm).symm); subst hRR; exact ⟨rfl, (Own.to hs.own [] 2 (by kernel_rfl) (by kernel_rfl))⟩)
      · replace hm := bif_f hm hb
        refine wp_skip ?_
        refine hK15 _ _ ?_
        clear hK15
        refine Vk.region ?_
        refine qpe 3 [(2, pp b_2), (3, pp b_3), (5, vi (IntKind.i64.wrap (q_12 + 1)))] hs fun a hs => ?_
        refine ih (IntKind.i64.wrap (q_12 + 1)) _ _ ⟨hm, hs.go [2, 3, 5] [0, 1] 2 (by kernel_rfl) (by kernel_rfl) (by kernel_rfl)⟩
    · replace hm := bif_f hm hb
      refine wp_exit ?_
      exact hx11 (Option.some.inj hm).symm _ _ (hs.go [2, 3] [0, 1] 2 (by kernel_rfl) (by kernel_rfl) (by kernel_rfl))


def visorlaw20_Pair_Like.l1 (x0 : Tvisorlaw20_Pair) (v_6 : List Int) : Nat → Int → Option (Sum (Bool) (Unit))
  | 0, _ => none
  | k + 1, q_39 => (bif decide (q_39 < ((v_6.length : Nat) : Int)) then (if 0 ≤ q_39 then (v_6[q_39.toNat]?).bind fun e_52 => (if 0 ≤ q_39 then (x0.x.val[q_39.toNat]?).bind fun e_59 => (bif e_52 != e_59 then some (.inl false) else visorlaw20_Pair_Like.l1 x0 v_6 k (IntKind.i64.wrap (q_39 + 1))) else none) else none) else some (.inr ()))
def visorlaw20_Pair_Like.j1 (k : Nat) (x0 : Tvisorlaw20_Pair) (v_6 : List Int) (p_34 : Bool) : Option (Bool) := (bif p_34 then some false else (visorlaw20_Pair_Like.l1 x0 v_6 k 0).bind fun x => match x with | .inl v => some v | .inr () => some true)
abbrev visorlaw20_Pair_Like.R (κ : Ctx) (S : List HP) (x0 : Tvisorlaw20_Pair) (b_x0m : Nat) (g_x0m : Nat × Option Addr × Nat × Option Addr × Nat × Option Addr × Nat) (b_x0x : Nat) (g_x0x : Option Addr × Nat × Option Addr × Nat × Option Addr × Nat × Option Addr × Nat) (A_x0l : Option Addr) (c_x0l : Nat) (A_x0v : Option Addr) (c_x0v : Nat) (r : Bool) : Ending → World → Prop := fun e w' => e = .returned (.bool r) ∧ Own κ w' (bagL (Twire_Machine.parts b_x0m x0.m g_x0m) :: bagL (Tvisorref19_M.parts κ b_x0x x0.x g_x0x) :: S)
def visorlaw20_Pair_Like.m (k : Nat) (x0 : Tvisorlaw20_Pair) : Option Bool := (wire_Machine_Values.m k x0.m).bind fun v_6 => (bif ((v_6.length : Nat) : Int) != ((x0.x.val.length : Nat) : Int) then visorlaw20_Pair_Like.j1 k x0 v_6 true else (wire_Machine_Err.m k x0.m).bind fun v_18 => (bif v_18 != x0.x.e then visorlaw20_Pair_Like.j1 k x0 v_6 true else (wire_Machine_Trace.m k x0.m).bind fun v_21 => (visorref18_Same.m k v_21 (⟨x0.x.n, x0.x.ops, x0.x.blocks⟩ : Tapi_Trace)).bind fun v_33 => visorlaw20_Pair_Like.j1 k x0 v_6 (!v_33)))

set_option maxRecDepth 100000 in
set_option maxHeartbeats 4000000 in
theorem visorlaw20_Pair_Like.ok (k : Nat) (x0 : Tvisorlaw20_Pair) (r : Bool) (hm : visorlaw20_Pair_Like.m k x0 = some r) (κ : Ctx) (w : World) (S : List HP) (b_x0m : Nat) (g_x0m : Nat × Option Addr × Nat × Option Addr × Nat × Option Addr × Nat) (b_x0x : Nat) (g_x0x : Option Addr × Nat × Option Addr × Nat × Option Addr × Nat × Option Addr × Nat) (A_x0l : Option Addr) (c_x0l : Nat) (hx_x0l : Sl κ S A_x0l c_x0l 3 eC x0.l) (A_x0v : Option Addr) (c_x0v : Nat) (hx_x0v : Sl κ S A_x0v c_x0v 1 (eI .u64) x0.v) (ho : Own κ w (bagL (Twire_Machine.parts b_x0m x0.m g_x0m) :: bagL (Tvisorref19_M.parts κ b_x0x x0.x g_x0x) :: S)) :
    Calls Try.prog 26 #[.agg (vals [cp b_x0m, cp b_x0x, C.slc A_x0l x0.l.length c_x0l, C.slc A_x0v x0.v.length c_x0v])] w (visorlaw20_Pair_Like.R κ S x0 b_x0m g_x0m b_x0x g_x0x A_x0l c_x0l A_x0v c_x0v r) := by
  unfold visorlaw20_Pair_Like.m at hm
  generalize hRR : visorlaw20_Pair_Like.R κ S x0 b_x0m g_x0m b_x0x g_x0x A_x0l c_x0l A_x0v c_x0v r = RR
  refine qen [(0, .agg (vals [cp b_x0m, cp b_x0x, C.slc A_x0l x0.l.length c_x0l, C.slc A_x0v x0.v.length c_x0v]))] Try.func26 Try.ntmps26 ho fun a hs => ?_
  refine qsr fun K1 hK1 => ?_
  refine Vk.step (Vk.box (x := (.tmp 0)) 1 45 [cp b_x0m, cp b_x0x, C.slc A_x0l x0.l.length c_x0l, C.slc A_x0v x0.v.length c_x0v] hs (by kernel_rfl) (by kernel_rfl) (by kernel_rfl) fun b_2 w a hs => ?_)
  refine qpe 1 [(1, pp b_2)] hs fun a hs => hK1 _ _ ?_
  clear hK1
  refine qsr fun K3 hK3 => ?_
  refine qpu 1 hs fun a hs => ?_
  refine qld 0 (cp b_x0m) hs rfl fun a hs => ?_
  obtain ⟨v_6, h_5, hm⟩ := bind_t hm
  refine Vk.step (Vk.call (some 7) 22 #[pp b_x0m] hs (by kernel_rfl) (by kernel_rfl) (by kernel_rfl) ?_)
  refine (wire_Machine_Values.ok k x0.m v_6 h_5 κ w (pt b_2 (blk (Tvisorlaw20_Pair.obj x0 b_x0m b_x0x A_x0l c_x0l A_x0v c_x0v) 45) :: bagL (Tvisorref19_M.parts κ b_x0x x0.x g_x0x) :: S) b_x0m g_x0m (Own.to hs.own [1, 0, 2] 3 (by kernel_rfl) (by kernel_rfl))).mono ?_
  rintro _ w ⟨Ar4x0_7, cr4x0_8, rfl, how⟩
  refine ⟨_, _, _, rfl, how, fun a hs => ?_⟩
  refine qpe 1 [(1, pp b_2), (3, .slice Ar4x0_7 v_6.length cr4x0_8)] hs fun a hs => hK3 _ _ ?_
  clear hK3
  refine Vk.seq fun K9 hK9 => ?_
  refine Vk.seq fun K10 hK10 => ?_
  have hj10 : ∀ (p_34 : Bool), visorlaw20_Pair_Like.j1 k x0 v_6 p_34 = some r → ∀ (a : Act) (w : World), St 57 a w κ [(1, pp b_2), (3, .slice Ar4x0_7 v_6.length cr4x0_8), (37, .bool p_34)] (pt b_2 (blk (Tvisorlaw20_Pair.obj x0 b_x0m b_x0x A_x0l c_x0l A_x0v c_x0v) 45) :: bagL (Twire_Machine.parts b_x0m x0.m g_x0m) :: bagL (Tvisorref19_M.parts κ b_x0x x0.x g_x0x) :: rowp Ar4x0_7 cr4x0_8 32 1 (eI .u64) v_6 :: S) → K10 a w := by
    intro p_34 hm a w hs
    unfold visorlaw20_Pair_Like.j1 at hm
    refine hK10 _ _ ?_
    refine qcs (p_34) hs (fun hb => ?_) fun hb => ?_
    · replace hm := bif_t hm hb
      refine qsr fun K35 hK35 => ?_
      refine qpe 1 [(2, .bool false)] hs fun a hs => hK35 _ _ ?_
      clear hK35
      refine wp_ret ?_
      exact Vk.ret1 (P := Try.prog) (fn := Try.f26) (R := RR) (.bool false) hs rfl (by kernel_rfl) (by obtain rfl := Option.some.inj hm; subst hRR; exact ⟨rfl, (Own.to hs.own [1, 2] 4 (by kernel_rfl) (by kernel_rfl))⟩)
    · replace hm := bif_f hm hb
      refine wp_skip ?_
      refine hK9 _ _ ?_
      clear hK9
      refine Vk.seq fun K36 hK36 => ?_
      refine qsr fun K37 hK37 => ?_
      refine qpe 1 [(1, pp b_2), (3, .slice Ar4x0_7 v_6.length cr4x0_8), (4, vi 0)] hs fun a hs => hK37 _ _ ?_
      clear hK37
      refine wp_block ?_
      obtain ⟨r38, hl38, hm⟩ := bind_t hm
      have hx38 : r38 = Sum.inr () → ∀ (a : Act) (w : World), St 57 a w κ [] (bagL (Twire_Machine.parts b_x0m x0.m g_x0m) :: bagL (Tvisorref19_M.parts κ b_x0x x0.x g_x0x) :: S) → K36 a w := by
        intro he a w hs
        subst r38
        refine hK36 _ _ ?_
        clear hK36
        refine qsr fun K65 hK65 => ?_
        refine qpe 1 [(2, .bool true)] hs fun a hs => hK65 _ _ ?_
        clear hK65
        refine wp_ret ?_
        exact Vk.ret1 (P := Try.prog) (fn := Try.f26) (R := RR) (.bool true) hs rfl (by kernel_rfl) (by obtain rfl := Option.some.inj hm; subst hRR; exact ⟨rfl, (Own.to hs.own [0, 1] 2 (by kernel_rfl) (by kernel_rfl))⟩)
      have hret38 : ∀ v, r38 = Sum.inl v → v = r := by intro v he; subst r38; exact Option.some.inj hm
      refine Vk.loopBy (fun k (s : Int) a w => visorlaw20_Pair_Like.l1 x0 v_6 k s = some r38 ∧ St 57 a w κ [(1, pp b_2), (3, .slice Ar4x0_7 v_6.length cr4x0_8), (4, vi s)] (pt b_2 (blk (Tvisorlaw20_Pair.obj x0 b_x0m b_x0x A_x0l c_x0l A_x0v c_x0v) 45) :: bagL (Twire_Machine.parts b_x0m x0.m g_x0m) :: bagL (Tvisorref19_M.parts κ b_x0x x0.x g_x0x) :: rowp Ar4x0_7 cr4x0_8 32 1 (eI .u64) v_6 :: S)) k 0 ⟨hl38, hs.go [1, 3, 4] [0, 1, 2, 3] 4 (by kernel_rfl) (by kernel_rfl) (by kernel_rfl)⟩ (fun s a w h => by obtain ⟨h1, _⟩ := h; simp [visorlaw20_Pair_Like.l1] at h1) (fun k KL38 ih q_39 a w h => ?_)
      obtain ⟨hm, hs⟩ := h
      try dsimp only at hm hs
      rw [visorlaw20_Pair_Like.l1] at hm
      refine Vk.seq fun K40 hK40 => ?_
      refine qsr fun K41 hK41 => ?_
      refine qpe 4 [(1, pp b_2), (3, .slice Ar4x0_7 v_6.length cr4x0_8), (4, vi q_39), (41, .bool (decide (q_39 < ((v_6.length : Nat) : Int))))] hs fun a hs => hK41 _ _ ?_
      clear hK41
      refine qcs (decide (q_39 < ((v_6.length : Nat) : Int))) hs (fun hb => ?_) fun hb => ?_
      · replace hm := bif_t hm hb
        refine wp_skip ?_
        refine hK40 _ _ ?_
        clear hK40
        refine Vk.seq fun K42 hK42 => ?_
        refine wp_block ?_
        refine Vk.seq fun K43 hK43 => ?_
        replace hs := hs.unbagAt 2 rfl
        obtain ⟨C_48, hC_48⟩ : ∃ X0 : List HP, X0 = (pt b_x0x (blk (Tvisorref19_M.obj x0.x g_x0x.1 g_x0x.2.1 g_x0x.2.2.1 g_x0x.2.2.2.1 g_x0x.2.2.2.2.1 g_x0x.2.2.2.2.2.1 g_x0x.2.2.2.2.2.2.1 g_x0x.2.2.2.2.2.2.2) 64) :: rowp g_x0x.1 g_x0x.2.1 93 6 Tapi_Op.cells x0.x.ops :: rowp g_x0x.2.2.1 g_x0x.2.2.2.1 175 3 Tapi_Span.cells x0.x.blocks :: rowp g_x0x.2.2.2.2.1 g_x0x.2.2.2.2.2.1 32 1 (eI .u64) x0.x.val :: rdp κ g_x0x.2.2.2.2.2.2.1 g_x0x.2.2.2.2.2.2.2 1 (eI .u64) x0.x.tape.l :: pt b_2 (blk (Tvisorlaw20_Pair.obj x0 b_x0m b_x0x A_x0l c_x0l A_x0v c_x0v) 45) :: bagL (Twire_Machine.parts b_x0m x0.m g_x0m) :: rowp Ar4x0_7 cr4x0_8 32 1 (eI .u64) v_6 :: S) := ⟨_, rfl⟩
        refine qdr 13 κ C_48 hs fun w hs hqC_48 => ?_
        have hcz : Own κ w (pt b_x0x (blk (Tvisorref19_M.obj x0.x g_x0x.1 g_x0x.2.1 g_x0x.2.2.1 g_x0x.2.2.2.1 g_x0x.2.2.2.2.1 g_x0x.2.2.2.2.2.1 g_x0x.2.2.2.2.2.2.1 g_x0x.2.2.2.2.2.2.2) 64) :: rowp g_x0x.1 g_x0x.2.1 93 6 Tapi_Op.cells x0.x.ops :: rowp g_x0x.2.2.1 g_x0x.2.2.2.1 175 3 Tapi_Span.cells x0.x.blocks :: rowp g_x0x.2.2.2.2.1 g_x0x.2.2.2.2.2.1 32 1 (eI .u64) x0.x.val :: rdp κ g_x0x.2.2.2.2.2.2.1 g_x0x.2.2.2.2.2.2.2 1 (eI .u64) x0.x.tape.l :: pt b_2 (blk (Tvisorlaw20_Pair.obj x0 b_x0m b_x0x A_x0l c_x0l A_x0v c_x0v) 45) :: bagL (Twire_Machine.parts b_x0m x0.m g_x0m) :: rowp Ar4x0_7 cr4x0_8 32 1 (eI .u64) v_6 :: S) := (Own.to hs.own [0, 1, 2, 3, 4, 5, 6, 7] 8 (by kernel_rfl) (by kernel_rfl))
        have hcl : Own κ w C_48 := by rw [hC_48]; exact hcz
        refine qdp (fuel := 9) [0, 1, 4, 9] hs hcl hqC_48 fun a hs => ?_
        obtain ⟨h_49, hm⟩ := ite_t hm
        obtain ⟨e_52, h_50, hm⟩ := bind_t hm
        obtain ⟨b_53, o_54, hA_55, h_51⟩ := Sl.elem (Own.rowSl 0 hcz.drop.drop.drop.drop.drop.drop.drop rfl) h_50
        refine Vk.dTakeT (i := 2) (some 46) (.pointer (some ⟨b_53, o_54 + q_39.toNat * 1, none⟩)) hs (by kernel_rfl) hqC_48 hcl (by kernel_rfl) (by kernel_rfl) (op := (.indexAddr 25 (.tmp 44) (.tmp 45))) (by kernel_rfl) (by kernel_rfl) (fun w hw o ho => by rw [hC_48] at hw; exact run_idxSlc (k := .i64) ho (cap := cr4x0_8) (len := v_6.length) ((congrArg (fun A => Value.slice A (v_6.length) (cr4x0_8)) hA_55) ▸ (by kernel_rfl)) (by kernel_rfl) (by kernel_rfl) (idx_ok h_49 h_50) _) fun a hs => ?_
        refine Vk.dTakeT (i := 3) (some 47) (vw e_52) hs (by kernel_rfl) hqC_48 hcl (by kernel_rfl) (by kernel_rfl) (op := (.load 32 (.tmp 46))) (by kernel_rfl) (by kernel_rfl) (fun w hw o ho => by rw [hC_48] at hw; exact run_load1 (c := cw e_52) ho (by kernel_rfl) (by kernel_rfl) (fun w ho => h_51 w ho 0 _ rfl) _ hw.drop.drop.drop.drop.drop.drop.drop) fun a hs => ?_
        refine qdl 5 5 (cp b_x0x) hs hcl hqC_48 hC_48 rfl fun a hs => ?_
        refine qdp (fuel := 4) [6, 7] hs hcl hqC_48 fun a hs => ?_
        refine qdl 8 0 (C.slc g_x0x.2.2.2.2.1 x0.x.val.length g_x0x.2.2.2.2.2.1) hs hcl hqC_48 hC_48 rfl fun a hs => ?_
        obtain ⟨h_56, hm⟩ := ite_t hm
        obtain ⟨e_59, h_57, hm⟩ := bind_t hm
        obtain ⟨b_60, o_61, hA_62, h_58⟩ := Sl.elem (Own.rowSl 0 (Own.to (S' := rowp g_x0x.2.2.2.2.1 g_x0x.2.2.2.2.2.1 32 1 (eI .u64) x0.x.val :: S) hcz [3] 8 (by kernel_rfl) (by kernel_rfl)) rfl) h_57
        refine Vk.dTakeT (i := 10) (some 54) (.pointer (some ⟨b_60, o_61 + q_39.toNat * 1, none⟩)) hs (by kernel_rfl) hqC_48 hcl (by kernel_rfl) (by kernel_rfl) (op := (.indexAddr 25 (.tmp 52) (.tmp 53))) (by kernel_rfl) (by kernel_rfl) (fun w hw o ho => by rw [hC_48] at hw; exact run_idxSlc (k := .i64) ho (cap := g_x0x.2.2.2.2.2.1) (len := x0.x.val.length) ((congrArg (fun A => Value.slice A (x0.x.val.length) (g_x0x.2.2.2.2.2.1)) hA_62) ▸ (by kernel_rfl)) (by kernel_rfl) (by kernel_rfl) (idx_ok h_56 h_57) _) fun a hs => ?_
        refine Vk.dTakeT (i := 11) (some 55) (vw e_59) hs (by kernel_rfl) hqC_48 hcl (by kernel_rfl) (by kernel_rfl) (op := (.load 32 (.tmp 54))) (by kernel_rfl) (by kernel_rfl) (fun w hw o ho => by rw [hC_48] at hw; exact run_load1 (c := cw e_59) ho (by kernel_rfl) (by kernel_rfl) (fun w ho => h_58 w ho 0 _ rfl) _ (Own.to (S' := rowp g_x0x.2.2.2.2.1 g_x0x.2.2.2.2.2.1 32 1 (eI .u64) x0.x.val :: S) hw [3] 8 (by kernel_rfl) (by kernel_rfl))) fun a hs => ?_
        refine qdp (fuel := 0) [12] hs hcl hqC_48 fun a hs => ?_
        replace hs := hs.pick [1, 3, 4, 56] (L' := [(1, pp b_2), (3, .slice Ar4x0_7 v_6.length cr4x0_8), (4, vi q_39), (56, .bool (e_52 != e_59))]) (by kernel_rfl)
        refine Vk.dDone (by kernel_rfl) ?_
        refine hK43 _ _ ?_
        clear hK43
        refine qcs (e_52 != e_59) hs (fun hb => ?_) fun hb => ?_
        · replace hm := bif_t hm hb
          refine qsr fun K63 hK63 => ?_
          refine qpe 1 [(2, .bool false)] hs fun a hs => hK63 _ _ ?_
          clear hK63
          refine wp_ret ?_
          replace hs := hs.bagG (l := Tvisorref19_M.parts κ b_x0x x0.x g_x0x) (S' := pt b_2 (blk (Tvisorlaw20_Pair.obj x0 b_x0m b_x0x A_x0l c_x0l A_x0v c_x0v) 45) :: bagL (Twire_Machine.parts b_x0m x0.m g_x0m) :: rowp Ar4x0_7 cr4x0_8 32 1 (eI .u64) v_6 :: S) (Own.to hs.own [0, 1, 2, 3, 4, 5, 6, 7] 8 (by kernel_rfl) (by kernel_rfl))
          exact Vk.ret1 (P := Try.prog) (fn := Try.f26) (R := RR) (.bool false) hs rfl (by kernel_rfl) (by obtain rfl := hret38 _ ((Option.some.inj hm).symm); subst hRR; exact ⟨rfl, (Own.to hs.own [2, 0] 4 (by kernel_rfl) (by kernel_rfl))⟩)
        · replace hm := bif_f hm hb
          refine wp_skip ?_
          refine hK42 _ _ ?_
          clear hK42
          refine Vk.region ?_
          refine qpe 3 [(1, pp b_2), (3, .slice Ar4x0_7 v_6.length cr4x0_8), (4, vi (IntKind.i64.wrap (q_39 + 1)))] hs fun a hs => ?_
          replace hs := hs.bagG (l := Tvisorref19_M.parts κ b_x0x x0.x g_x0x) (S' := pt b_2 (blk (Tvisorlaw20_Pair.obj x0 b_x0m b_x0x A_x0l c_x0l A_x0v c_x0v) 45) :: bagL (Twire_Machine.parts b_x0m x0.m g_x0m) :: rowp Ar4x0_7 cr4x0_8 32 1 (eI .u64) v_6 :: S) (Own.to hs.own [0, 1, 2, 3, 4, 5, 6, 7] 8 (by kernel_rfl) (by kernel_rfl))
          refine ih (IntKind.i64.wrap (q_39 + 1)) _ _ ⟨hm, hs.go [1, 3, 4] [1, 2, 0, 3] 4 (by kernel_rfl) (by kernel_rfl) (by kernel_rfl)⟩
      · replace hm := bif_f hm hb
        refine wp_exit ?_
        exact hx38 (Option.some.inj hm).symm _ _ (hs.go [] [1, 2] 4 (by kernel_rfl) (by kernel_rfl) (by kernel_rfl))
  replace hs := hs.unbagAt 3 rfl
  obtain ⟨C_15, hC_15⟩ : ∃ X0 : List HP, X0 = (pt b_x0x (blk (Tvisorref19_M.obj x0.x g_x0x.1 g_x0x.2.1 g_x0x.2.2.1 g_x0x.2.2.2.1 g_x0x.2.2.2.2.1 g_x0x.2.2.2.2.2.1 g_x0x.2.2.2.2.2.2.1 g_x0x.2.2.2.2.2.2.2) 64) :: rowp g_x0x.1 g_x0x.2.1 93 6 Tapi_Op.cells x0.x.ops :: rowp g_x0x.2.2.1 g_x0x.2.2.2.1 175 3 Tapi_Span.cells x0.x.blocks :: rowp g_x0x.2.2.2.2.1 g_x0x.2.2.2.2.2.1 32 1 (eI .u64) x0.x.val :: rdp κ g_x0x.2.2.2.2.2.2.1 g_x0x.2.2.2.2.2.2.2 1 (eI .u64) x0.x.tape.l :: rowp Ar4x0_7 cr4x0_8 32 1 (eI .u64) v_6 :: bagL (Twire_Machine.parts b_x0m x0.m g_x0m) :: pt b_2 (blk (Tvisorlaw20_Pair.obj x0 b_x0m b_x0x A_x0l c_x0l A_x0v c_x0v) 45) :: S) := ⟨_, rfl⟩
  refine qdr 30 κ C_15 hs fun w hs hqC_15 => ?_
  have hcz : Own κ w (pt b_x0x (blk (Tvisorref19_M.obj x0.x g_x0x.1 g_x0x.2.1 g_x0x.2.2.1 g_x0x.2.2.2.1 g_x0x.2.2.2.2.1 g_x0x.2.2.2.2.2.1 g_x0x.2.2.2.2.2.2.1 g_x0x.2.2.2.2.2.2.2) 64) :: rowp g_x0x.1 g_x0x.2.1 93 6 Tapi_Op.cells x0.x.ops :: rowp g_x0x.2.2.1 g_x0x.2.2.2.1 175 3 Tapi_Span.cells x0.x.blocks :: rowp g_x0x.2.2.2.2.1 g_x0x.2.2.2.2.2.1 32 1 (eI .u64) x0.x.val :: rdp κ g_x0x.2.2.2.2.2.2.1 g_x0x.2.2.2.2.2.2.2 1 (eI .u64) x0.x.tape.l :: rowp Ar4x0_7 cr4x0_8 32 1 (eI .u64) v_6 :: bagL (Twire_Machine.parts b_x0m x0.m g_x0m) :: pt b_2 (blk (Tvisorlaw20_Pair.obj x0 b_x0m b_x0x A_x0l c_x0l A_x0v c_x0v) 45) :: S) := (Own.to hs.own [0, 1, 2, 3, 4, 5, 6, 7] 8 (by kernel_rfl) (by kernel_rfl))
  have hcl : Own κ w C_15 := by rw [hC_15]; exact hcz
  refine qdp (fuel := 27) [0, 1, 2] hs hcl hqC_15 fun a hs => ?_
  refine qdl 3 7 (cp b_x0x) hs hcl hqC_15 hC_15 rfl fun a hs => ?_
  refine qdp (fuel := 24) [4, 5] hs hcl hqC_15 fun a hs => ?_
  refine qdl 6 0 (C.slc g_x0x.2.2.2.2.1 x0.x.val.length g_x0x.2.2.2.2.2.1) hs hcl hqC_15 hC_15 rfl fun a hs => ?_
  refine qdp (fuel := 20) [7, 8, 9] hs hcl hqC_15 fun a hs => ?_
  rcases Bool.eq_false_or_eq_true (((v_6.length : Nat) : Int) != ((x0.x.val.length : Nat) : Int)) with hb | hb
  · replace hm := bif_t hm hb
    replace hs := hs.known (t := 17) hb (by kernel_rfl)
    refine qdp (fuel := 0) [10, 11, 12, 13, 14, 15, 16, 17, 18, 19, 20, 21, 22, 23, 24, 25, 26, 27, 28, 29] hs hcl hqC_15 fun a hs => ?_
    replace hs := hs.pick [1, 3, 37] (L' := [(1, pp b_2), (3, .slice Ar4x0_7 v_6.length cr4x0_8), (37, .bool true)]) (by kernel_rfl)
    refine Vk.dDone (by kernel_rfl) ?_
    replace hs := hs.bagG (l := Tvisorref19_M.parts κ b_x0x x0.x g_x0x) (S' := rowp Ar4x0_7 cr4x0_8 32 1 (eI .u64) v_6 :: bagL (Twire_Machine.parts b_x0m x0.m g_x0m) :: pt b_2 (blk (Tvisorlaw20_Pair.obj x0 b_x0m b_x0x A_x0l c_x0l A_x0v c_x0v) 45) :: S) (Own.to hs.own [0, 1, 2, 3, 4, 5, 6, 7] 8 (by kernel_rfl) (by kernel_rfl))
    exact hj10 true hm _ _ (hs.go [1, 3, 37] [3, 2, 0, 1] 4 (by kernel_rfl) (by kernel_rfl) (by kernel_rfl))
  · replace hm := bif_f hm hb
    replace hs := hs.known (t := 17) hb (by kernel_rfl)
    refine qdp (fuel := 18) [10, 13] hs hcl hqC_15 fun a hs => ?_
    refine qdl 11 7 (cp b_x0m) hs hcl hqC_15 hC_15 rfl fun a hs => ?_
    refine qdl 14 7 (cp b_x0x) hs hcl hqC_15 hC_15 rfl fun a hs => ?_
    refine qdp (fuel := 14) [15, 16] hs hcl hqC_15 fun a hs => ?_
    refine qdl 17 0 (ci x0.x.e) hs hcl hqC_15 hC_15 rfl fun a hs => ?_
    obtain ⟨v_18, h_17, hm⟩ := bind_t hm
    refine Vk.dOnly (i := 12) (by kernel_rfl) (Vk.call (some 20) 23 #[pp b_x0m] hs (by kernel_rfl) (by kernel_rfl) (by kernel_rfl) ?_)
    refine (wire_Machine_Err.ok k x0.m v_18 h_17 κ w (pt b_x0x (blk (Tvisorref19_M.obj x0.x g_x0x.1 g_x0x.2.1 g_x0x.2.2.1 g_x0x.2.2.2.1 g_x0x.2.2.2.2.1 g_x0x.2.2.2.2.2.1 g_x0x.2.2.2.2.2.2.1 g_x0x.2.2.2.2.2.2.2) 64) :: rowp g_x0x.1 g_x0x.2.1 93 6 Tapi_Op.cells x0.x.ops :: rowp g_x0x.2.2.1 g_x0x.2.2.2.1 175 3 Tapi_Span.cells x0.x.blocks :: rowp g_x0x.2.2.2.2.1 g_x0x.2.2.2.2.2.1 32 1 (eI .u64) x0.x.val :: rdp κ g_x0x.2.2.2.2.2.2.1 g_x0x.2.2.2.2.2.2.2 1 (eI .u64) x0.x.tape.l :: rowp Ar4x0_7 cr4x0_8 32 1 (eI .u64) v_6 :: pt b_2 (blk (Tvisorlaw20_Pair.obj x0 b_x0m b_x0x A_x0l c_x0l A_x0v c_x0v) 45) :: S) b_x0m g_x0m (Own.to hs.own [6, 0, 1, 2, 3, 4, 5, 7] 8 (by kernel_rfl) (by kernel_rfl))).mono ?_
    rintro _ w ⟨rfl, how⟩
    refine ⟨_, _, _, rfl, how, fun a hs => ?_⟩
    replace hcl : Own κ w C_15 := by rw [hC_15]; exact (Own.to hs.own [1, 2, 3, 4, 5, 6, 0, 7] 8 (by kernel_rfl) (by kernel_rfl))
    refine ⟨fun _ => hcl, ?_⟩
    refine qdp (fuel := 9) [18, 19, 20] hs hcl hqC_15 fun a hs => ?_
    rcases Bool.eq_false_or_eq_true (v_18 != x0.x.e) with hb | hb
    · replace hm := bif_t hm hb
      replace hs := hs.known (t := 28) hb (by kernel_rfl)
      refine qdp (fuel := 0) [21, 22, 23, 24, 25, 26, 27, 28, 29] hs hcl hqC_15 fun a hs => ?_
      replace hs := hs.pick [1, 3, 37] (L' := [(1, pp b_2), (3, .slice Ar4x0_7 v_6.length cr4x0_8), (37, .bool true)]) (by kernel_rfl)
      refine Vk.dDone (by kernel_rfl) ?_
      replace hs := hs.bagG (l := Tvisorref19_M.parts κ b_x0x x0.x g_x0x) (S' := bagL (Twire_Machine.parts b_x0m x0.m g_x0m) :: rowp Ar4x0_7 cr4x0_8 32 1 (eI .u64) v_6 :: pt b_2 (blk (Tvisorlaw20_Pair.obj x0 b_x0m b_x0x A_x0l c_x0l A_x0v c_x0v) 45) :: S) (Own.to hs.own [1, 2, 3, 4, 5, 0, 6, 7] 8 (by kernel_rfl) (by kernel_rfl))
      exact hj10 true hm _ _ (hs.go [1, 3, 37] [3, 1, 0, 2] 4 (by kernel_rfl) (by kernel_rfl) (by kernel_rfl))
    · replace hm := bif_f hm hb
      replace hs := hs.known (t := 28) hb (by kernel_rfl)
      refine qdp (fuel := 7) [21, 24] hs hcl hqC_15 fun a hs => ?_
      refine qdl 22 7 (cp b_x0m) hs hcl hqC_15 hC_15 rfl fun a hs => ?_
      refine qdl 25 7 (cp b_x0x) hs hcl hqC_15 hC_15 rfl fun a hs => ?_
      obtain ⟨v_21, h_20, hm⟩ := bind_t hm
      refine Vk.dOnly (i := 23) (by kernel_rfl) (Vk.call (some 31) 62 #[pp b_x0m] hs (by kernel_rfl) (by kernel_rfl) (by kernel_rfl) ?_)
      refine (wire_Machine_Trace.ok k x0.m v_21 h_20 κ w (pt b_x0x (blk (Tvisorref19_M.obj x0.x g_x0x.1 g_x0x.2.1 g_x0x.2.2.1 g_x0x.2.2.2.1 g_x0x.2.2.2.2.1 g_x0x.2.2.2.2.2.1 g_x0x.2.2.2.2.2.2.1 g_x0x.2.2.2.2.2.2.2) 64) :: rowp g_x0x.1 g_x0x.2.1 93 6 Tapi_Op.cells x0.x.ops :: rowp g_x0x.2.2.1 g_x0x.2.2.2.1 175 3 Tapi_Span.cells x0.x.blocks :: rowp g_x0x.2.2.2.2.1 g_x0x.2.2.2.2.2.1 32 1 (eI .u64) x0.x.val :: rdp κ g_x0x.2.2.2.2.2.2.1 g_x0x.2.2.2.2.2.2.2 1 (eI .u64) x0.x.tape.l :: rowp Ar4x0_7 cr4x0_8 32 1 (eI .u64) v_6 :: pt b_2 (blk (Tvisorlaw20_Pair.obj x0 b_x0m b_x0x A_x0l c_x0l A_x0v c_x0v) 45) :: S) b_x0m g_x0m (Own.to hs.own [0, 1, 2, 3, 4, 5, 6, 7] 8 (by kernel_rfl) (by kernel_rfl))).mono ?_
      rintro _ w ⟨Ar19x0ops_22, cr19x0ops_23, Ar19x0blocks_24, cr19x0blocks_25, rfl, how⟩
      refine ⟨_, _, _, rfl, how, fun a hs => ?_⟩
      replace hcl : Own κ w C_15 := by rw [hC_15]; exact (Own.to hs.own [3, 4, 5, 6, 7, 8, 2, 9] 10 (by kernel_rfl) (by kernel_rfl))
      refine ⟨fun _ => hcl, ?_⟩
      refine Vk.dOnly (i := 26) (by kernel_rfl) (Vk.call (some 34) 110 #[pp b_x0x] hs (by kernel_rfl) (by kernel_rfl) (by kernel_rfl) ?_)
      refine Vk.enterI [(0, pp b_x0x)] Try.func110 rfl Try.ntmps110 (by kernel_rfl) (Nat.le_of_ble_eq_true (by kernel_rfl)) hs.own fun KR26 hKR26 hKP26 a hs => ?_
      refine qsr fun K27 hK27 => ?_
      refine Vk.step (Vk.alloc 2 102 [ci 0, C.slc none 0 0, C.slc none 0 0] hs (by kernel_rfl) (by kernel_rfl) (by kernel_rfl) fun b_28 w a hs => ?_)
      refine qpe 0 [(0, pp b_x0x), (2, pp b_28)] hs fun a hs => hK27 _ _ ?_
      clear hK27
      refine Vk.seq fun K29 hK29 => ?_
      obtain ⟨C_30, hC_30⟩ : ∃ X0 : List HP, X0 = (pt b_28 (blk [ci 0, C.slc none 0 0, C.slc none 0 0] 102) :: rowp Ar19x0ops_22 cr19x0ops_23 93 6 Tapi_Op.cells v_21.ops :: rowp Ar19x0blocks_24 cr19x0blocks_25 175 3 Tapi_Span.cells v_21.blocks :: bagL (Twire_Machine.parts b_x0m x0.m g_x0m) :: pt b_x0x (blk (Tvisorref19_M.obj x0.x g_x0x.1 g_x0x.2.1 g_x0x.2.2.1 g_x0x.2.2.2.1 g_x0x.2.2.2.2.1 g_x0x.2.2.2.2.2.1 g_x0x.2.2.2.2.2.2.1 g_x0x.2.2.2.2.2.2.2) 64) :: rowp g_x0x.1 g_x0x.2.1 93 6 Tapi_Op.cells x0.x.ops :: rowp g_x0x.2.2.1 g_x0x.2.2.2.1 175 3 Tapi_Span.cells x0.x.blocks :: rowp g_x0x.2.2.2.2.1 g_x0x.2.2.2.2.2.1 32 1 (eI .u64) x0.x.val :: rdp κ g_x0x.2.2.2.2.2.2.1 g_x0x.2.2.2.2.2.2.2 1 (eI .u64) x0.x.tape.l :: rowp Ar4x0_7 cr4x0_8 32 1 (eI .u64) v_6 :: pt b_2 (blk (Tvisorlaw20_Pair.obj x0 b_x0m b_x0x A_x0l c_x0l A_x0v c_x0v) 45) :: S) := ⟨_, rfl⟩
      refine qdr 13 κ C_30 hs fun w hs hqC_30 => ?_
      have hcz : Own κ w (pt b_28 (blk [ci 0, C.slc none 0 0, C.slc none 0 0] 102) :: rowp Ar19x0ops_22 cr19x0ops_23 93 6 Tapi_Op.cells v_21.ops :: rowp Ar19x0blocks_24 cr19x0blocks_25 175 3 Tapi_Span.cells v_21.blocks :: bagL (Twire_Machine.parts b_x0m x0.m g_x0m) :: pt b_x0x (blk (Tvisorref19_M.obj x0.x g_x0x.1 g_x0x.2.1 g_x0x.2.2.1 g_x0x.2.2.2.1 g_x0x.2.2.2.2.1 g_x0x.2.2.2.2.2.1 g_x0x.2.2.2.2.2.2.1 g_x0x.2.2.2.2.2.2.2) 64) :: rowp g_x0x.1 g_x0x.2.1 93 6 Tapi_Op.cells x0.x.ops :: rowp g_x0x.2.2.1 g_x0x.2.2.2.1 175 3 Tapi_Span.cells x0.x.blocks :: rowp g_x0x.2.2.2.2.1 g_x0x.2.2.2.2.2.1 32 1 (eI .u64) x0.x.val :: rdp κ g_x0x.2.2.2.2.2.2.1 g_x0x.2.2.2.2.2.2.2 1 (eI .u64) x0.x.tape.l :: rowp Ar4x0_7 cr4x0_8 32 1 (eI .u64) v_6 :: pt b_2 (blk (Tvisorlaw20_Pair.obj x0 b_x0m b_x0x A_x0l c_x0l A_x0v c_x0v) 45) :: S) := (Own.to hs.own [0, 1, 2, 3, 4, 5, 6, 7, 8, 9, 10] 11 (by kernel_rfl) (by kernel_rfl))
      have hcl : Own κ w C_30 := by rw [hC_30]; exact hcz
      refine qdp (fuel := 5) [0, 1, 2, 4, 5, 6, 8, 9, 10] hs hcl hqC_30 fun a hs => ?_
      refine qdl 3 4 (ci x0.x.n) hs hcl hqC_30 hC_30 rfl fun a hs => ?_
      refine qdl 7 4 (C.slc g_x0x.1 x0.x.ops.length g_x0x.2.1) hs hcl hqC_30 hC_30 rfl fun a hs => ?_
      refine qdl 11 4 (C.slc g_x0x.2.2.1 x0.x.blocks.length g_x0x.2.2.2.1) hs hcl hqC_30 hC_30 rfl fun a hs => ?_
      refine qdp (fuel := 1) [12] hs hcl hqC_30 fun a hs => ?_
      refine Vk.dOnly (i := 13) (by kernel_rfl) (Vk.storeA (b := b_28) (ty := 102) (x := (.tmp 2)) (y := (.tmp 15)) (sz := 3) [ci x0.x.n, C.slc g_x0x.1 x0.x.ops.length g_x0x.2.1, C.slc g_x0x.2.2.1 x0.x.blocks.length g_x0x.2.2.2.1] 0 hs (by kernel_rfl) (by kernel_rfl) (by kernel_rfl) (by kernel_rfl) (by kernel_rfl) rfl (by kernel_rfl) rfl (Eq.trans (b := 3) rfl (Eq.symm rfl)) fun a w hs => ?_)
      refine ⟨fun h => absurd h (by decide), ?_⟩
      replace hs := hs.pick [2] (L' := [(2, pp b_28)]) (by kernel_rfl)
      refine Vk.dDone (by kernel_rfl) ?_
      refine hK29 _ _ ?_
      clear hK29
      refine wp_ret ?_
      refine hKP26 _ _ ?_
      refine hKR26 _ _ ?_
      refine Vk.retC (P := Try.prog) (fn := Try.f110) [ci x0.x.n, C.slc g_x0x.1 x0.x.ops.length g_x0x.2.1, C.slc g_x0x.2.2.1 x0.x.blocks.length g_x0x.2.2.2.1] hs rfl (by kernel_rfl) (sz := 3) (by kernel_rfl) rfl (CellsAt.all 0 rfl) ⟨_, _, _, rfl, hs.own, fun a hs => ?_⟩
      replace hcl : Own κ w C_15 := by rw [hC_15]; exact (Own.to hs.own [4, 5, 6, 7, 8, 9, 3, 10] 11 (by kernel_rfl) (by kernel_rfl))
      refine ⟨fun _ => hcl, ?_⟩
      obtain ⟨v_33, h_32, hm⟩ := bind_t hm
      refine Vk.dOnly (i := 27) (by kernel_rfl) (Vk.call (some 35) 109 #[.agg (vals [ci v_21.n, C.slc Ar19x0ops_22 v_21.ops.length cr19x0ops_23, C.slc Ar19x0blocks_24 v_21.blocks.length cr19x0blocks_25]), .agg (vals [ci x0.x.n, C.slc g_x0x.1 x0.x.ops.length g_x0x.2.1, C.slc g_x0x.2.2.1 x0.x.blocks.length g_x0x.2.2.2.1])] hs (by kernel_rfl) (by kernel_rfl) (by kernel_rfl) ?_)
      refine (visorref18_Same.ok k v_21 (⟨x0.x.n, x0.x.ops, x0.x.blocks⟩ : Tapi_Trace) v_33 h_32 κ w (pt b_28 (blk [ci x0.x.n, C.slc g_x0x.1 x0.x.ops.length g_x0x.2.1, C.slc g_x0x.2.2.1 x0.x.blocks.length g_x0x.2.2.2.1] 102) :: rowp Ar19x0ops_22 cr19x0ops_23 93 6 Tapi_Op.cells v_21.ops :: rowp Ar19x0blocks_24 cr19x0blocks_25 175 3 Tapi_Span.cells v_21.blocks :: bagL (Twire_Machine.parts b_x0m x0.m g_x0m) :: pt b_x0x (blk (Tvisorref19_M.obj x0.x g_x0x.1 g_x0x.2.1 g_x0x.2.2.1 g_x0x.2.2.2.1 g_x0x.2.2.2.2.1 g_x0x.2.2.2.2.2.1 g_x0x.2.2.2.2.2.2.1 g_x0x.2.2.2.2.2.2.2) 64) :: rowp g_x0x.1 g_x0x.2.1 93 6 Tapi_Op.cells x0.x.ops :: rowp g_x0x.2.2.1 g_x0x.2.2.2.1 175 3 Tapi_Span.cells x0.x.blocks :: rowp g_x0x.2.2.2.2.1 g_x0x.2.2.2.2.2.1 32 1 (eI .u64) x0.x.val :: rdp κ g_x0x.2.2.2.2.2.2.1 g_x0x.2.2.2.2.2.2.2 1 (eI .u64) x0.x.tape.l :: rowp Ar4x0_7 cr4x0_8 32 1 (eI .u64) v_6 :: pt b_2 (blk (Tvisorlaw20_Pair.obj x0 b_x0m b_x0x A_x0l c_x0l A_x0v c_x0v) 45) :: S) Ar19x0ops_22 cr19x0ops_23 (Sl.lift (fun w ho => (Own.to (S' := rowp Ar19x0ops_22 cr19x0ops_23 93 6 Tapi_Op.cells v_21.ops :: S) ho [1] 11 (by kernel_rfl) (by kernel_rfl))) (Own.rowSl 0 (Own.to (S' := rowp Ar19x0ops_22 cr19x0ops_23 93 6 Tapi_Op.cells v_21.ops :: S) hs.own [1] 11 (by kernel_rfl) (by kernel_rfl)) rfl)) Ar19x0blocks_24 cr19x0blocks_25 (Sl.lift (fun w ho => (Own.to (S' := rowp Ar19x0blocks_24 cr19x0blocks_25 175 3 Tapi_Span.cells v_21.blocks :: S) ho [2] 11 (by kernel_rfl) (by kernel_rfl))) (Own.rowSl 0 (Own.to (S' := rowp Ar19x0blocks_24 cr19x0blocks_25 175 3 Tapi_Span.cells v_21.blocks :: S) hs.own [2] 11 (by kernel_rfl) (by kernel_rfl)) rfl)) g_x0x.1 g_x0x.2.1 (Sl.lift (fun w ho => (Own.to (S' := rowp g_x0x.1 g_x0x.2.1 93 6 Tapi_Op.cells x0.x.ops :: S) ho [5] 11 (by kernel_rfl) (by kernel_rfl))) (Own.rowSl 0 (Own.to (S' := rowp g_x0x.1 g_x0x.2.1 93 6 Tapi_Op.cells x0.x.ops :: S) hs.own [5] 11 (by kernel_rfl) (by kernel_rfl)) rfl)) g_x0x.2.2.1 g_x0x.2.2.2.1 (Sl.lift (fun w ho => (Own.to (S' := rowp g_x0x.2.2.1 g_x0x.2.2.2.1 175 3 Tapi_Span.cells x0.x.blocks :: S) ho [6] 11 (by kernel_rfl) (by kernel_rfl))) (Own.rowSl 0 (Own.to (S' := rowp g_x0x.2.2.1 g_x0x.2.2.2.1 175 3 Tapi_Span.cells x0.x.blocks :: S) hs.own [6] 11 (by kernel_rfl) (by kernel_rfl)) rfl)) hs.own).mono ?_
      rintro _ w ⟨rfl, how⟩
      refine ⟨_, _, _, rfl, how, fun a hs => ?_⟩
      replace hcl : Own κ w C_15 := by rw [hC_15]; exact (Own.to hs.own [4, 5, 6, 7, 8, 9, 3, 10] 11 (by kernel_rfl) (by kernel_rfl))
      refine ⟨fun _ => hcl, ?_⟩
      refine qdp (fuel := 0) [28, 29] hs hcl hqC_15 fun a hs => ?_
      replace hs := hs.pick [1, 3, 37] (L' := [(1, pp b_2), (3, .slice Ar4x0_7 v_6.length cr4x0_8), (37, .bool (!v_33))]) (by kernel_rfl)
      refine Vk.dDone (by kernel_rfl) ?_
      replace hs := hs.bagG (l := Tvisorref19_M.parts κ b_x0x x0.x g_x0x) (S' := pt b_28 (blk [ci x0.x.n, C.slc g_x0x.1 x0.x.ops.length g_x0x.2.1, C.slc g_x0x.2.2.1 x0.x.blocks.length g_x0x.2.2.2.1] 102) :: rowp Ar19x0ops_22 cr19x0ops_23 93 6 Tapi_Op.cells v_21.ops :: rowp Ar19x0blocks_24 cr19x0blocks_25 175 3 Tapi_Span.cells v_21.blocks :: bagL (Twire_Machine.parts b_x0m x0.m g_x0m) :: rowp Ar4x0_7 cr4x0_8 32 1 (eI .u64) v_6 :: pt b_2 (blk (Tvisorlaw20_Pair.obj x0 b_x0m b_x0x A_x0l c_x0l A_x0v c_x0v) 45) :: S) (Own.to hs.own [4, 5, 6, 7, 8, 0, 1, 2, 3, 9, 10] 11 (by kernel_rfl) (by kernel_rfl))
      exact hj10 (!v_33) hm _ _ (hs.go [1, 3, 37] [6, 4, 0, 5] 7 (by kernel_rfl) (by kernel_rfl) (by kernel_rfl))

end Go.Proofs.Ytflgefjocjpjaaa
