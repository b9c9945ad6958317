/- Of each Go function that SlicePlays comes to: a model in plain Lean, and that the program's call does what the model says; no condition. -/
import Derived.Test.YtflgefjocjpjaaaGreatProg
import Derived.Test.YtflgefjocjpjaaaGreatVokkakgfh
import Derived.Test.YtflgefjocjpjaaaGreatMSlicePlays1
namespace Go.Proofs.YtflgefjocjpjaaaGreat
open Go Go.Vk
set_option linter.unusedVariables false


def visorref33_One.l1 (x1 : Int) (x3 : Int) : Nat → Tvisorref19_M → Cells → Int → Option (Cells × Tvisorref19_M)
 | 0, _, _, _ => none
 | k + 1, q_7, q_8, q_9 => (bif decide (q_9 < 8) then (if 0 ≤ q_9 ∧ q_9 < 8 then (part? q_8 (0 + q_9.toNat * 3) 3).bind fun v_15 => (visorref20_One.m k q_7 x1 v_15 x3).bind fun v_18 => (if 0 ≤ q_9 ∧ q_9 < 8 then (if v_18.1.length = 3 then (if 0 + q_9.toNat * 3 + v_18.1.length ≤ q_8.length then visorref33_One.l1 x1 x3 k v_18.2 (splice q_8 (0 + q_9.toNat * 3) v_18.1) (IntKind.i64.wrap (q_9 + 1)) else none) else none) else none) else none) else some (q_8, q_7))
abbrev visorref33_One.R (κ : Ctx) (S : List HP) (x0 : Tvisorref19_M) (x1 : Int) (x2 : Cells) (x3 : Int) (b_x0 : Nat) (r : (Cells × Tvisorref19_M)) : Ending → World → Prop := fun e w' => e = .returned (.agg (vals r.1)) ∧ Ow κ w' (Tvisorref19_M.own κ b_x0 r.2 :: S)
def visorref33_One.m (k : Nat) (x0 : Tvisorref19_M) (x1 : Int) (x2 : Cells) (x3 : Int) : Option (Cells × Tvisorref19_M) := (visorref33_One.l1 x1 x3 k x0 x2 0).bind fun x => match x with | (p_22, p_23) => (if p_22.length = 24 then some (p_22, p_23) else none)

set_option maxRecDepth 100000 in
set_option maxHeartbeats 4000000 in
theorem visorref33_One.ok (k : Nat) (x0 : Tvisorref19_M) (x1 : Int) (x2 : Cells) (x3 : Int) (r : (Cells × Tvisorref19_M)) (hm : visorref33_One.m k x0 x1 x2 x3 = some r) (κ : Ctx) (w : World) (S : List HP) (b_x0 : Nat) (ho : Ow κ w (Tvisorref19_M.own κ b_x0 x0 :: S)) :
  Calls Tryz.prog 18 #[pp b_x0, vi x1, .agg (vals x2), vw x3] w (visorref33_One.R κ S x0 x1 x2 x3 b_x0 r) := by
 unfold visorref33_One.m at hm
 generalize hRR : visorref33_One.R κ S x0 x1 x2 x3 b_x0 r = RR
 refine qen [(0, pp b_x0), (1, vi x1), (2, .agg (vals x2)), (3, vw x3)] Tryz.func18 Tryz.ntmps18 ho fun a hs => ?_
 refine qsr fun K1 hK1 => ?_
 refine qbx 2 37 x2 6 hs fun b_2 w a hs => ?_
 refine qal 37 [ci 0, ci 0, ci 0, ci 0, ci 0, ci 0, ci 0, ci 0, ci 0, ci 0, ci 0, ci 0, ci 0, ci 0, ci 0, ci 0, ci 0, ci 0, ci 0, ci 0, ci 0, ci 0, ci 0, ci 0] 8 hs fun b_3 w a hs => ?_
 refine qpk 0 [0, 1, 3, 6, 8] hs fun a hs => hK1 _ _ ?_
 clear hK1
 refine Vk.seq fun K4 hK4 => ?_
 refine qsk 1 [0, 1, 3, 6, 8, 9] hs fun a hs => ?_
 refine wp_block ?_
 obtain ⟨r6, hl6, hm⟩ := bind_t hm
 have hx6 : ∀ (p_22 : Cells) (p_23 : Tvisorref19_M), r6 = (p_22, p_23) → ∀ (a : Act) (w : World), St 24 a w κ [(6, pp b_2), (8, pp b_3)] (pt b_2 (blk p_22 37) :: pt b_3 (blk [ci 0, ci 0, ci 0, ci 0, ci 0, ci 0, ci 0, ci 0, ci 0, ci 0, ci 0, ci 0, ci 0, ci 0, ci 0, ci 0, ci 0, ci 0, ci 0, ci 0, ci 0, ci 0, ci 0, ci 0] 37) :: Tvisorref19_M.own κ b_x0 p_23 :: S) → K4 a w := by
  intro p_22 p_23 he a w hs
  subst r6
  refine hK4 _ _ ?_
  clear hK4
  refine qsr fun K27 hK27 => ?_
  obtain ⟨h_28, hm⟩ := ite_t hm
  refine qlw 0 hs rfl h_28 fun a hs => ?_
  refine qsb 1 p_22 hs rfl h_28 rfl fun a w hs => ?_
  refine qpe 0 [(8, pp b_3)] hs fun a hs => hK27 _ _ ?_
  clear hK27
  refine wp_ret ?_
  exact Vk.retC p_22 hs rfl (by kernel_rfl) (sz := 24) (by kernel_rfl) h_28 (CellsAt.all 1 rfl) (hRR ▸ by cases hm; exact ⟨rfl, hs.own.f1.drop.drop⟩)
 refine Vk.loopBy (fun k (s : Tvisorref19_M × Cells × Int) a w => visorref33_One.l1 x1 x3 k s.1 s.2.1 s.2.2 = some r6 ∧ St 24 a w κ [(0, pp b_x0), (1, vi x1), (3, vw x3), (6, pp b_2), (8, pp b_3), (9, vi s.2.2)] (Tvisorref19_M.own κ b_x0 s.1 :: pt b_2 (blk s.2.1 37) :: pt b_3 (blk [ci 0, ci 0, ci 0, ci 0, ci 0, ci 0, ci 0, ci 0, ci 0, ci 0, ci 0, ci 0, ci 0, ci 0, ci 0, ci 0, ci 0, ci 0, ci 0, ci 0, ci 0, ci 0, ci 0, ci 0] 37) :: S)) k (x0, x2, 0) ⟨hl6, hs.go [0, 1, 3, 6, 8, 9] [2, 1, 0] 3 (by kernel_rfl) (by kernel_rfl) (by kernel_rfl)⟩ (fun s a w h => by obtain ⟨h1, _⟩ := h; simp [visorref33_One.l1] at h1) (fun k KL6 ih s a w h => ?_)
 obtain ⟨q_7, q_8, q_9⟩ := s
 obtain ⟨hm, hs⟩ := h
 try dsimp only at hm hs
 rw [visorref33_One.l1] at hm
 refine Vk.seq fun K10 hK10 => ?_
 refine qsk 2 [0, 1, 3, 6, 8, 9, 11] hs fun a hs => ?_
 refine qcs (decide (q_9 < 8)) hs (fun hb => ?_) fun hb => ?_
 ·replace hm := bif_t hm hb
  refine wp_skip ?_
  refine hK10 _ _ ?_
  clear hK10
  refine Vk.seq fun K12 hK12 => ?_
  refine wp_block ?_
  refine Vk.region ?_
  refine qpu 4 hs fun a hs => ?_
  obtain ⟨h_13, hm⟩ := ite_t hm
  refine qix b_2 0 3 hs h_13 fun a hs => ?_
  obtain ⟨v_15, h_14, hm⟩ := bind_t hm
  refine qva (.agg (vals v_15)) (op := (.load 35 (.tmp 18))) hs (fun o ho => run_loadN (cs := v_15) ho (by kernel_rfl) (by kernel_rfl) (part?_some h_14).2.2 (CellsAt.own (off := 0 + q_9.toNat * 3) 1 rfl h_14) _ hs.own) fun a hs => ?_
  refine qpu 1 hs fun a hs => ?_
  obtain ⟨v_18, h_17, hm⟩ := bind_t hm
  refine qcl (visorref20_One.ok _ _ _ _ _ _ h_17 _ _ _ b_x0 hs.own) hs fun w a hs => ?_
  obtain ⟨h_19, hm⟩ := ite_t hm
  refine qix b_2 0 3 hs h_19 fun a hs => ?_
  obtain ⟨h_20, hm⟩ := ite_t hm
  obtain ⟨h_21, hm⟩ := ite_t hm
  refine Vk.step (Vk.storeN (b := b_2) (ty := 35) (x := (.tmp 22)) (y := (.tmp 21)) (off := 0 + q_9.toNat * 3) (sz := 3) v_18.1 1 hs (by kernel_rfl) (by kernel_rfl) (by kernel_rfl) (by kernel_rfl) (by kernel_rfl) h_20 (by kernel_rfl) rfl h_21 fun a w hs => ?_)
  refine qpk 0 [0, 1, 3, 6, 8, 9] hs fun a hs => hK12 _ _ ?_
  clear hK12
  refine Vk.region ?_
  refine qpk 3 [0, 1, 3, 6, 8, 9] hs fun a hs => ?_
  refine ih (v_18.2, (splice q_8 (0 + q_9.toNat * 3) v_18.1), (IntKind.i64.wrap (q_9 + 1))) _ _ ⟨hm, hs.go [0, 1, 3, 6, 8, 9] [0, 1, 2] 3 (by kernel_rfl) (by kernel_rfl) (by kernel_rfl)⟩
 ·replace hm := bif_f hm hb
  refine wp_exit ?_
  exact hx6 q_8 q_7 (Option.some.inj hm).symm _ _ (hs.go [6, 8] [1, 2, 0] 3 (by kernel_rfl) (by kernel_rfl) (by kernel_rfl))


abbrev wire_Machine_Values.R (κ : Ctx) (S : List HP) (x0 : Twire_Machine) (b_x0 : Nat) (g_x0 : Nat × Option Addr × Nat × Option Addr × Nat × Option Addr × Nat) (r : List Int) : Ending → World → Prop := fun e w' => ∃ (A_r0 : Option Addr), ∃ (c_r0 : Nat), e = .returned (.slice A_r0 r.length c_r0) ∧ Ow κ w' (rowp A_r0 c_r0 23 1 (eI .u64) r :: bagL (Twire_Machine.parts b_x0 x0 g_x0) :: S)
def wire_Machine_Values.m (k : Nat) (x0 : Twire_Machine) : Option (List Int) := (slices_Clone_uint64_uint64.m k x0.values).bind fun v_10 => some v_10

set_option maxRecDepth 100000 in
set_option maxHeartbeats 4000000 in
theorem wire_Machine_Values.ok (k : Nat) (x0 : Twire_Machine) (r : List Int) (hm : wire_Machine_Values.m k x0 = some r) (κ : Ctx) (w : World) (S : List HP) (b_x0 : Nat) (g_x0 : Nat × Option Addr × Nat × Option Addr × Nat × Option Addr × Nat) (ho : Ow κ w (bagL (Twire_Machine.parts b_x0 x0 g_x0) :: S)) :
  Calls Tryz.prog 20 #[pp b_x0] w (wire_Machine_Values.R κ S x0 b_x0 g_x0 r) := by
 unfold wire_Machine_Values.m at hm
 generalize hRR : wire_Machine_Values.R κ S x0 b_x0 g_x0 r = RR
 refine qen [(0, pp b_x0)] Tryz.func20 Tryz.ntmps20 ho fun a hs => ?_
 refine qse 1 [(0, pp b_x0)] hs fun a hs => ?_
 refine Vk.seq fun K2 hK2 => ?_
 refine qsk 2 [0, 4] hs fun a hs => ?_
 refine qcf hs ?_
 refine wp_skip ?_
 refine hK2 _ _ ?_
 clear hK2
 refine qsr fun K4 hK4 => ?_
 refine qpu 3 hs fun a hs => ?_
 replace hs := hs.unbagAt 0 rfl
 refine qld 0 (C.slc g_x0.2.2.2.1 x0.values.length g_x0.2.2.2.2.1) hs rfl fun a hs => ?_
 obtain ⟨v_10, h_9, hm⟩ := bind_t hm
 refine Vk.step (Vk.call (some 9) 71 #[.slice g_x0.2.2.2.1 x0.values.length g_x0.2.2.2.2.1] hs (by kernel_rfl) (by kernel_rfl) (by kernel_rfl) ?_)
 refine (slices_Clone_uint64_uint64.ok k x0.values v_10 h_9 κ w (pt b_x0 (blk (Twire_Machine.obj x0 g_x0.1 g_x0.2.1 g_x0.2.2.1 g_x0.2.2.2.1 g_x0.2.2.2.2.1 g_x0.2.2.2.2.2.1 g_x0.2.2.2.2.2.2) 95) :: opto x0.dry (Ttape_Tape.own g_x0.1 x0.tape) :: rowp g_x0.2.1 g_x0.2.2.1 103 6 Tapi_Op.cells x0.ops :: rowp g_x0.2.2.2.1 g_x0.2.2.2.2.1 23 1 (eI .u64) x0.values :: rowp g_x0.2.2.2.2.2.1 g_x0.2.2.2.2.2.2 119 3 Tapi_Span.cells x0.blocks :: S) g_x0.2.2.2.1 g_x0.2.2.2.2.1 (Sl.lift (fun w ho => (Ow.to (S' := rowp g_x0.2.2.2.1 g_x0.2.2.2.2.1 23 1 (eI .u64) x0.values :: S) ho [3] 5 (by kernel_rfl) (by kernel_rfl))) (Ow.rowSl 0 (Ow.to (S' := rowp g_x0.2.2.2.1 g_x0.2.2.2.2.1 23 1 (eI .u64) x0.values :: S) hs.own [3] 5 (by kernel_rfl) (by kernel_rfl)) rfl)) hs.own).mono ?_
 rintro _ w ⟨Ar8x0_11, cr8x0_12, rfl, how⟩
 refine ⟨_, _, _, rfl, how, fun a hs => ?_⟩
 refine qpk 1 [2] hs fun a hs => hK4 _ _ ?_
 clear hK4
 refine wp_ret ?_
 replace hs := hs.bagG (l := Twire_Machine.parts b_x0 x0 g_x0) (S' := rowp Ar8x0_11 cr8x0_12 23 1 (eI .u64) v_10 :: S) hs.own.f5.f5.f5.f5.f5
 exact qr1 (.slice Ar8x0_11 v_10.length cr8x0_12) hs rfl hRR (by cases hm; exact ⟨Ar8x0_11, cr8x0_12, rfl, hs.own.f1⟩)


abbrev wire_Machine_Err.R (κ : Ctx) (S : List HP) (x0 : Twire_Machine) (b_x0 : Nat) (g_x0 : Nat × Option Addr × Nat × Option Addr × Nat × Option Addr × Nat) (r : Int) : Ending → World → Prop := fun e w' => e = .returned (vi r) ∧ Ow κ w' (bagL (Twire_Machine.parts b_x0 x0 g_x0) :: S)
def wire_Machine_Err.m (k : Nat) (x0 : Twire_Machine) : Option Int := some x0.bad

set_option maxRecDepth 100000 in
set_option maxHeartbeats 4000000 in
theorem wire_Machine_Err.ok (k : Nat) (x0 : Twire_Machine) (r : Int) (hm : wire_Machine_Err.m k x0 = some r) (κ : Ctx) (w : World) (S : List HP) (b_x0 : Nat) (g_x0 : Nat × Option Addr × Nat × Option Addr × Nat × Option Addr × Nat) (ho : Ow κ w (bagL (Twire_Machine.parts b_x0 x0 g_x0) :: S)) :
  Calls Tryz.prog 67 #[pp b_x0] w (wire_Machine_Err.R κ S x0 b_x0 g_x0 r) := by
 unfold wire_Machine_Err.m at hm
 generalize hRR : wire_Machine_Err.R κ S x0 b_x0 g_x0 r = RR
 refine qen [(0, pp b_x0)] Tryz.func67 Tryz.ntmps67 ho fun a hs => ?_
 refine qse 1 [(0, pp b_x0)] hs fun a hs => ?_
 refine Vk.seq fun K2 hK2 => ?_
 refine qsk 2 [0, 4] hs fun a hs => ?_
 refine qcf hs ?_
 refine wp_skip ?_
 refine hK2 _ _ ?_
 clear hK2
 refine qsr fun K4 hK4 => ?_
 refine qpu 3 hs fun a hs => ?_
 replace hs := hs.unbagAt 0 rfl
 refine qld 0 (ci x0.bad) hs rfl fun a hs => ?_
 refine qpe 1 [(2, vi x0.bad)] hs fun a hs => hK4 _ _ ?_
 clear hK4
 refine wp_ret ?_
 replace hs := hs.bagG (l := Twire_Machine.parts b_x0 x0 g_x0) (S' := S) hs.own
 exact qr1 (vi x0.bad) hs rfl hRR (by cases hm; exact ⟨rfl, hs.own⟩)


abbrev slices_Clone_api_Op_api_Op.R (κ : Ctx) (S : List HP) (x0 : List Tapi_Op) (A_x0 : Option Addr) (c_x0 : Nat) (r : List Tapi_Op) : Ending → World → Prop := fun e w' => ∃ (A_r0 : Option Addr), ∃ (c_r0 : Nat), e = .returned (.slice A_r0 r.length c_r0) ∧ Ow κ w' (rowp A_r0 c_r0 103 6 Tapi_Op.cells r :: S)
def slices_Clone_api_Op_api_Op.m (k : Nat) (x0 : List Tapi_Op) : Option (List Tapi_Op) := (if (([] : List Tapi_Op).length + x0.length) * 48 ≤ 140737488355328 then some (([] : List Tapi_Op) ++ x0) else none)

set_option maxRecDepth 100000 in
set_option maxHeartbeats 4000000 in
theorem slices_Clone_api_Op_api_Op.ok (k : Nat) (x0 : List Tapi_Op) (r : List Tapi_Op) (hm : slices_Clone_api_Op_api_Op.m k x0 = some r) (κ : Ctx) (w : World) (S : List HP) (A_x0 : Option Addr) (c_x0 : Nat) (hx_x0 : Sl κ S A_x0 c_x0 6 Tapi_Op.cells x0) (ho : Ow κ w (S)) :
  Calls Tryz.prog 105 #[.slice A_x0 x0.length c_x0] w (slices_Clone_api_Op_api_Op.R κ S x0 A_x0 c_x0 r) := by
 unfold slices_Clone_api_Op_api_Op.m at hm
 rcases A_x0 with _ | p_x0
 ·obtain rfl : c_x0 = 0 := hx_x0.none rfl
  obtain rfl : x0 = [] := List.length_eq_zero_iff.1 (Nat.le_zero.1 hx_x0.le)
  replace hm : some ([] : List Tapi_Op) = some r := by simpa using hm
  refine Vk.enter [(0, .slice none 0 0)] Tryz.func105 rfl Tryz.ntmps105 (by kernel_rfl) (Nat.le_of_ble_eq_true (by kernel_rfl)) ho fun a hs => ?_
  refine Vk.seq fun K1 hK1 => ?_
  refine Vk.region ?_
  refine Vk.pures 1 [(2, .slice none 0 0)] hs (by kernel_rfl) fun a hs => ?_
  replace hs := hs.pick [0] (L' := [(0, .slice none 0 0)]) (by kernel_rfl)
  refine Vk.done (by kernel_rfl) ?_
  refine hK1 _ _ ?_
  clear hK1
  refine Vk.seq fun K2 hK2 => ?_
  refine Vk.seq fun K3 hK3 => ?_
  refine Vk.region ?_
  refine Vk.pures 2 [(4, .bool true), (3, .slice none 0 0)] hs (by kernel_rfl) fun a hs => ?_
  replace hs := hs.pick [0, 4] (L' := [(0, .slice none 0 0), (4, .bool true)]) (by kernel_rfl)
  refine Vk.done (by kernel_rfl) ?_
  refine hK3 _ _ ?_
  clear hK3
  refine Vk.condT hs (by kernel_rfl) (by kernel_rfl) ?_
  refine Vk.seq fun K4 hK4 => ?_
  refine Vk.region ?_
  refine Vk.pures 1 [(2, .slice none 0 0)] hs (by kernel_rfl) fun a hs => ?_
  replace hs := hs.pick [2] (L' := [(2, .slice none 0 0)]) (by kernel_rfl)
  refine Vk.done (by kernel_rfl) ?_
  refine hK4 _ _ ?_
  clear hK4
  refine wp_ret ?_
  replace hs := hs.addRow none 103 6 Tapi_Op.cells
  exact Vk.ret1 (P := Tryz.prog) (fn := Tryz.f105) (R := slices_Clone_api_Op_api_Op.R κ S [] none 0 r) (.slice none (([] : List Tapi_Op).length) 0) hs rfl (by kernel_rfl) (by obtain rfl := Option.some.inj hm; exact ⟨none, 0, rfl, hs.own⟩)
 ·skip
  refine Vk.enter [(0, .slice (some p_x0) x0.length c_x0)] Tryz.func105 rfl Tryz.ntmps105 (by kernel_rfl) (Nat.le_of_ble_eq_true (by kernel_rfl)) ho fun a hs => ?_
  refine Vk.seq fun K1 hK1 => ?_
  refine Vk.region ?_
  refine Vk.pures 1 [(2, .slice none 0 0)] hs (by kernel_rfl) fun a hs => ?_
  replace hs := hs.pick [0] (L' := [(0, .slice (some p_x0) x0.length c_x0)]) (by kernel_rfl)
  refine Vk.done (by kernel_rfl) ?_
  refine hK1 _ _ ?_
  clear hK1
  refine Vk.seq fun K2 hK2 => ?_
  refine Vk.seq fun K3 hK3 => ?_
  refine Vk.region ?_
  refine Vk.pures 2 [(4, .bool false), (3, .slice (some p_x0) x0.length c_x0)] hs (by kernel_rfl) fun a hs => ?_
  replace hs := hs.pick [0, 4] (L' := [(0, .slice (some p_x0) x0.length c_x0), (4, .bool false)]) (by kernel_rfl)
  refine Vk.done (by kernel_rfl) ?_
  refine hK3 _ _ ?_
  clear hK3
  refine Vk.condF hs (by kernel_rfl) (by kernel_rfl) ?_
  refine wp_skip ?_
  refine hK2 _ _ ?_
  clear hK2
  refine Vk.seq fun K4 hK4 => ?_
  refine Vk.region ?_
  refine Vk.step (Vk.buildOp (sz := 6) (by_ := 48) (t := 49) (e := 103) (parts := #[]) (zs := vals [C.int .i64 0, C.int .i64 0, C.int .i64 0, C.int .i64 0, C.int .i64 0, C.int .u64 0]) ([] : List Tapi_Op) Tapi_Op.cells (some 5) hs (by kernel_rfl) (by kernel_rfl) (by kernel_rfl) (by kernel_rfl) (by decide) rfl (fun x _ => rfl) (Nat.le_of_ble_eq_true (by kernel_rfl)) (by kernel_rfl) fun A_5 w a hs => ?_)
  refine Vk.pures 1 [(6, .slice (some p_x0) x0.length c_x0)] hs (by kernel_rfl) fun a hs => ?_
  obtain ⟨h_7, hm⟩ := ite_t hm
  refine Vk.step (Vk.appendOp (x := (.tmp 5)) (y := (.tmp 6)) (e := 103) (t := 49) (by_ := 48) (sz := 6) (enc := Tapi_Op.cells) (A := A_5) (cap := 0) (xs := ([] : List Tapi_Op)) (ys := x0) (B := (some p_x0)) (c2 := c_x0) 0 (some 7) hs (by kernel_rfl) (by kernel_rfl) (by kernel_rfl) (by kernel_rfl) rfl hx_x0.less (by kernel_rfl) (by kernel_rfl) (by decide) (by decide) h_7 fun A_8 c_9 w a hs => ?_)
  refine Vk.pures 1 [(2, .slice A_8 ((([] : List Tapi_Op) ++ x0).length) c_9)] hs (by kernel_rfl) fun a hs => ?_
  replace hs := hs.pick [2] (L' := [(2, .slice A_8 ((([] : List Tapi_Op) ++ x0).length) c_9)]) (by kernel_rfl)
  refine Vk.done (by kernel_rfl) ?_
  refine hK4 _ _ ?_
  clear hK4
  refine wp_ret ?_
  exact Vk.ret1 (P := Tryz.prog) (fn := Tryz.f105) (R := slices_Clone_api_Op_api_Op.R κ S x0 (some p_x0) c_x0 r) (.slice A_8 ((([] : List Tapi_Op) ++ x0).length) c_9) hs rfl (by kernel_rfl) (by obtain rfl := Option.some.inj hm; exact ⟨A_8, c_9, rfl, hs.own⟩)


abbrev slices_Clone_api_Span_api_Span.R (κ : Ctx) (S : List HP) (x0 : List Tapi_Span) (A_x0 : Option Addr) (c_x0 : Nat) (r : List Tapi_Span) : Ending → World → Prop := fun e w' => ∃ (A_r0 : Option Addr), ∃ (c_r0 : Nat), e = .returned (.slice A_r0 r.length c_r0) ∧ Ow κ w' (rowp A_r0 c_r0 119 3 Tapi_Span.cells r :: S)
def slices_Clone_api_Span_api_Span.m (k : Nat) (x0 : List Tapi_Span) : Option (List Tapi_Span) := (if (([] : List Tapi_Span).length + x0.length) * 24 ≤ 140737488355328 then some (([] : List Tapi_Span) ++ x0) else none)

set_option maxRecDepth 100000 in
set_option maxHeartbeats 4000000 in
theorem slices_Clone_api_Span_api_Span.ok (k : Nat) (x0 : List Tapi_Span) (r : List Tapi_Span) (hm : slices_Clone_api_Span_api_Span.m k x0 = some r) (κ : Ctx) (w : World) (S : List HP) (A_x0 : Option Addr) (c_x0 : Nat) (hx_x0 : Sl κ S A_x0 c_x0 3 Tapi_Span.cells x0) (ho : Ow κ w (S)) :
  Calls Tryz.prog 106 #[.slice A_x0 x0.length c_x0] w (slices_Clone_api_Span_api_Span.R κ S x0 A_x0 c_x0 r) := by
 unfold slices_Clone_api_Span_api_Span.m at hm
 rcases A_x0 with _ | p_x0
 ·obtain rfl : c_x0 = 0 := hx_x0.none rfl
  obtain rfl : x0 = [] := List.length_eq_zero_iff.1 (Nat.le_zero.1 hx_x0.le)
  replace hm : some ([] : List Tapi_Span) = some r := by simpa using hm
  refine Vk.enter [(0, .slice none 0 0)] Tryz.func106 rfl Tryz.ntmps106 (by kernel_rfl) (Nat.le_of_ble_eq_true (by kernel_rfl)) ho fun a hs => ?_
  refine Vk.seq fun K1 hK1 => ?_
  refine Vk.region ?_
  refine Vk.pures 1 [(2, .slice none 0 0)] hs (by kernel_rfl) fun a hs => ?_
  replace hs := hs.pick [0] (L' := [(0, .slice none 0 0)]) (by kernel_rfl)
  refine Vk.done (by kernel_rfl) ?_
  refine hK1 _ _ ?_
  clear hK1
  refine Vk.seq fun K2 hK2 => ?_
  refine Vk.seq fun K3 hK3 => ?_
  refine Vk.region ?_
  refine Vk.pures 2 [(4, .bool true), (3, .slice none 0 0)] hs (by kernel_rfl) fun a hs => ?_
  replace hs := hs.pick [0, 4] (L' := [(0, .slice none 0 0), (4, .bool true)]) (by kernel_rfl)
  refine Vk.done (by kernel_rfl) ?_
  refine hK3 _ _ ?_
  clear hK3
  refine Vk.condT hs (by kernel_rfl) (by kernel_rfl) ?_
  refine Vk.seq fun K4 hK4 => ?_
  refine Vk.region ?_
  refine Vk.pures 1 [(2, .slice none 0 0)] hs (by kernel_rfl) fun a hs => ?_
  replace hs := hs.pick [2] (L' := [(2, .slice none 0 0)]) (by kernel_rfl)
  refine Vk.done (by kernel_rfl) ?_
  refine hK4 _ _ ?_
  clear hK4
  refine wp_ret ?_
  replace hs := hs.addRow none 119 3 Tapi_Span.cells
  exact Vk.ret1 (P := Tryz.prog) (fn := Tryz.f106) (R := slices_Clone_api_Span_api_Span.R κ S [] none 0 r) (.slice none (([] : List Tapi_Span).length) 0) hs rfl (by kernel_rfl) (by obtain rfl := Option.some.inj hm; exact ⟨none, 0, rfl, hs.own⟩)
 ·skip
  refine Vk.enter [(0, .slice (some p_x0) x0.length c_x0)] Tryz.func106 rfl Tryz.ntmps106 (by kernel_rfl) (Nat.le_of_ble_eq_true (by kernel_rfl)) ho fun a hs => ?_
  refine Vk.seq fun K1 hK1 => ?_
  refine Vk.region ?_
  refine Vk.pures 1 [(2, .slice none 0 0)] hs (by kernel_rfl) fun a hs => ?_
  replace hs := hs.pick [0] (L' := [(0, .slice (some p_x0) x0.length c_x0)]) (by kernel_rfl)
  refine Vk.done (by kernel_rfl) ?_
  refine hK1 _ _ ?_
  clear hK1
  refine Vk.seq fun K2 hK2 => ?_
  refine Vk.seq fun K3 hK3 => ?_
  refine Vk.region ?_
  refine Vk.pures 2 [(4, .bool false), (3, .slice (some p_x0) x0.length c_x0)] hs (by kernel_rfl) fun a hs => ?_
  replace hs := hs.pick [0, 4] (L' := [(0, .slice (some p_x0) x0.length c_x0), (4, .bool false)]) (by kernel_rfl)
  refine Vk.done (by kernel_rfl) ?_
  refine hK3 _ _ ?_
  clear hK3
  refine Vk.condF hs (by kernel_rfl) (by kernel_rfl) ?_
  refine wp_skip ?_
  refine hK2 _ _ ?_
  clear hK2
  refine Vk.seq fun K4 hK4 => ?_
  refine Vk.region ?_
  refine Vk.step (Vk.buildOp (sz := 3) (by_ := 24) (t := 50) (e := 119) (parts := #[]) (zs := vals [C.int .i64 0, C.int .i64 0, C.int .i64 0]) ([] : List Tapi_Span) Tapi_Span.cells (some 5) hs (by kernel_rfl) (by kernel_rfl) (by kernel_rfl) (by kernel_rfl) (by decide) rfl (fun x _ => rfl) (Nat.le_of_ble_eq_true (by kernel_rfl)) (by kernel_rfl) fun A_5 w a hs => ?_)
  refine Vk.pures 1 [(6, .slice (some p_x0) x0.length c_x0)] hs (by kernel_rfl) fun a hs => ?_
  obtain ⟨h_7, hm⟩ := ite_t hm
  refine Vk.step (Vk.appendOp (x := (.tmp 5)) (y := (.tmp 6)) (e := 119) (t := 50) (by_ := 24) (sz := 3) (enc := Tapi_Span.cells) (A := A_5) (cap := 0) (xs := ([] : List Tapi_Span)) (ys := x0) (B := (some p_x0)) (c2 := c_x0) 0 (some 7) hs (by kernel_rfl) (by kernel_rfl) (by kernel_rfl) (by kernel_rfl) rfl hx_x0.less (by kernel_rfl) (by kernel_rfl) (by decide) (by decide) h_7 fun A_8 c_9 w a hs => ?_)
  refine Vk.pures 1 [(2, .slice A_8 ((([] : List Tapi_Span) ++ x0).length) c_9)] hs (by kernel_rfl) fun a hs => ?_
  replace hs := hs.pick [2] (L' := [(2, .slice A_8 ((([] : List Tapi_Span) ++ x0).length) c_9)]) (by kernel_rfl)
  refine Vk.done (by kernel_rfl) ?_
  refine hK4 _ _ ?_
  clear hK4
  refine wp_ret ?_
  exact Vk.ret1 (P := Tryz.prog) (fn := Tryz.f106) (R := slices_Clone_api_Span_api_Span.R κ S x0 (some p_x0) c_x0 r) (.slice A_8 ((([] : List Tapi_Span) ++ x0).length) c_9) hs rfl (by kernel_rfl) (by obtain rfl := Option.some.inj hm; exact ⟨A_8, c_9, rfl, hs.own⟩)

structure Tapi_Trace where
 n : Int
 ops : List Tapi_Op
 blocks : List Tapi_Span
 deriving Inhabited
def Tapi_Trace.obj (x : Tapi_Trace) (Aops : Option Addr) (cops : Nat) (Ablocks : Option Addr) (cblocks : Nat) : Cells := [C.int .i64 x.n, C.slc Aops x.ops.length cops, C.slc Ablocks x.blocks.length cblocks]

abbrev wire_Machine_Trace.R (κ : Ctx) (S : List HP) (x0 : Twire_Machine) (b_x0 : Nat) (g_x0 : Nat × Option Addr × Nat × Option Addr × Nat × Option Addr × Nat) (r : Tapi_Trace) : Ending → World → Prop := fun e w' => ∃ (A_r0ops : Option Addr), ∃ (c_r0ops : Nat), ∃ (A_r0blocks : Option Addr), ∃ (c_r0blocks : Nat), e = .returned (.agg (vals [ci r.n, C.slc A_r0ops r.ops.length c_r0ops, C.slc A_r0blocks r.blocks.length c_r0blocks])) ∧ Ow κ w' (rowp A_r0ops c_r0ops 103 6 Tapi_Op.cells r.ops :: rowp A_r0blocks c_r0blocks 119 3 Tapi_Span.cells r.blocks :: bagL (Twire_Machine.parts b_x0 x0 g_x0) :: S)
def wire_Machine_Trace.m (k : Nat) (x0 : Twire_Machine) : Option Tapi_Trace := (slices_Clone_api_Op_api_Op.m k x0.ops).bind fun v_12 => (slices_Clone_api_Span_api_Span.m k x0.blocks).bind fun v_17 => some (⟨x0.n, v_12, v_17⟩ : Tapi_Trace)

set_option maxRecDepth 100000 in
set_option maxHeartbeats 4000000 in
theorem wire_Machine_Trace.ok (k : Nat) (x0 : Twire_Machine) (r : Tapi_Trace) (hm : wire_Machine_Trace.m k x0 = some r) (κ : Ctx) (w : World) (S : List HP) (b_x0 : Nat) (g_x0 : Nat × Option Addr × Nat × Option Addr × Nat × Option Addr × Nat) (ho : Ow κ w (bagL (Twire_Machine.parts b_x0 x0 g_x0) :: S)) :
  Calls Tryz.prog 69 #[pp b_x0] w (wire_Machine_Trace.R κ S x0 b_x0 g_x0 r) := by
 unfold wire_Machine_Trace.m at hm
 generalize hRR : wire_Machine_Trace.R κ S x0 b_x0 g_x0 r = RR
 refine qen [(0, pp b_x0)] Tryz.func69 Tryz.ntmps69 ho fun a hs => ?_
 refine qsr fun K1 hK1 => ?_
 refine qal 91 [ci 0, C.slc none 0 0, C.slc none 0 0] 2 hs fun b_2 w a hs => ?_
 refine qpe 0 [(0, pp b_x0), (2, pp b_2)] hs fun a hs => hK1 _ _ ?_
 clear hK1
 refine Vk.seq fun K3 hK3 => ?_
 refine qsk 2 [0, 2, 4] hs fun a hs => ?_
 refine qcf hs ?_
 refine wp_skip ?_
 refine hK3 _ _ ?_
 clear hK3
 refine Vk.seq fun K5 hK5 => ?_
 replace hs := hs.unbagAt 1 rfl
 obtain ⟨C_9, hC_9⟩ := qC hs.own
 refine qdr 15 κ C_9 hs fun w hs hqC_9 => ?_
 have hcl := qO hC_9 hs.own
 refine qdp (fuel := 7) [0, 1, 2, 4, 5, 6, 9, 10, 11] hs hcl hqC_9 fun a hs => ?_
 refine qdl 3 0 (ci x0.n) hs hcl hqC_9 hC_9 rfl fun a hs => ?_
 refine qdl 7 0 (C.slc g_x0.2.1 x0.ops.length g_x0.2.2.1) hs hcl hqC_9 hC_9 rfl fun a hs => ?_
 refine qdl 12 0 (C.slc g_x0.2.2.2.2.2.1 x0.blocks.length g_x0.2.2.2.2.2.2) hs hcl hqC_9 hC_9 rfl fun a hs => ?_
 obtain ⟨v_12, h_11, hm⟩ := bind_t hm
 refine Vk.dOnly (i := 8) (by kernel_rfl) (Vk.call (some 14) 105 #[.slice g_x0.2.1 x0.ops.length g_x0.2.2.1] hs (by kernel_rfl) (by kernel_rfl) (by kernel_rfl) ?_)
 refine (slices_Clone_api_Op_api_Op.ok k x0.ops v_12 h_11 κ w (pt b_x0 (blk (Twire_Machine.obj x0 g_x0.1 g_x0.2.1 g_x0.2.2.1 g_x0.2.2.2.1 g_x0.2.2.2.2.1 g_x0.2.2.2.2.2.1 g_x0.2.2.2.2.2.2) 95) :: opto x0.dry (Ttape_Tape.own g_x0.1 x0.tape) :: rowp g_x0.2.1 g_x0.2.2.1 103 6 Tapi_Op.cells x0.ops :: rowp g_x0.2.2.2.1 g_x0.2.2.2.2.1 23 1 (eI .u64) x0.values :: rowp g_x0.2.2.2.2.2.1 g_x0.2.2.2.2.2.2 119 3 Tapi_Span.cells x0.blocks :: pt b_2 (blk [ci 0, C.slc none 0 0, C.slc none 0 0] 91) :: S) g_x0.2.1 g_x0.2.2.1 (Sl.lift (fun w ho => (Ow.to (S' := rowp g_x0.2.1 g_x0.2.2.1 103 6 Tapi_Op.cells x0.ops :: S) ho [2] 6 (by kernel_rfl) (by kernel_rfl))) (Ow.rowSl 0 (Ow.to (S' := rowp g_x0.2.1 g_x0.2.2.1 103 6 Tapi_Op.cells x0.ops :: S) hs.own [2] 6 (by kernel_rfl) (by kernel_rfl)) rfl)) hs.own).mono ?_
 rintro _ w ⟨Ar10x0_13, cr10x0_14, rfl, how⟩
 refine ⟨_, _, _, rfl, how, fun a hs => ?_⟩
 replace hcl := qO hC_9 hs.own.drop
 refine ⟨fun _ => hcl, ?_⟩
 obtain ⟨v_17, h_16, hm⟩ := bind_t hm
 refine Vk.dOnly (i := 13) (by kernel_rfl) (Vk.call (some 19) 106 #[.slice g_x0.2.2.2.2.2.1 x0.blocks.length g_x0.2.2.2.2.2.2] hs (by kernel_rfl) (by kernel_rfl) (by kernel_rfl) ?_)
 refine (slices_Clone_api_Span_api_Span.ok k x0.blocks v_17 h_16 κ w (rowp Ar10x0_13 cr10x0_14 103 6 Tapi_Op.cells v_12 :: pt b_x0 (blk (Twire_Machine.obj x0 g_x0.1 g_x0.2.1 g_x0.2.2.1 g_x0.2.2.2.1 g_x0.2.2.2.2.1 g_x0.2.2.2.2.2.1 g_x0.2.2.2.2.2.2) 95) :: opto x0.dry (Ttape_Tape.own g_x0.1 x0.tape) :: rowp g_x0.2.1 g_x0.2.2.1 103 6 Tapi_Op.cells x0.ops :: rowp g_x0.2.2.2.1 g_x0.2.2.2.2.1 23 1 (eI .u64) x0.values :: rowp g_x0.2.2.2.2.2.1 g_x0.2.2.2.2.2.2 119 3 Tapi_Span.cells x0.blocks :: pt b_2 (blk [ci 0, C.slc none 0 0, C.slc none 0 0] 91) :: S) g_x0.2.2.2.2.2.1 g_x0.2.2.2.2.2.2 (Sl.lift (fun w ho => (Ow.to (S' := rowp g_x0.2.2.2.2.2.1 g_x0.2.2.2.2.2.2 119 3 Tapi_Span.cells x0.blocks :: S) ho [5] 7 (by kernel_rfl) (by kernel_rfl))) (Ow.rowSl 0 (Ow.to (S' := rowp g_x0.2.2.2.2.2.1 g_x0.2.2.2.2.2.2 119 3 Tapi_Span.cells x0.blocks :: S) hs.own [5] 7 (by kernel_rfl) (by kernel_rfl)) rfl)) hs.own).mono ?_
 rintro _ w ⟨Ar15x0_18, cr15x0_19, rfl, how⟩
 refine ⟨_, _, _, rfl, how, fun a hs => ?_⟩
 replace hcl := qO hC_9 hs.own.f1.drop.drop
 refine ⟨fun _ => hcl, ?_⟩
 refine qdp (fuel := 1) [14] hs hcl hqC_9 fun a hs => ?_
 refine qsA 15 7 [ci x0.n, C.slc Ar10x0_13 v_12.length cr10x0_14, C.slc Ar15x0_18 v_17.length cr15x0_19] hs rfl rfl rfl fun a w hs => ?_
 refine ⟨fun h => absurd h (by decide), ?_⟩
 replace hs := hs.pick [2] (L' := [(2, pp b_2)]) (by kernel_rfl)
 refine Vk.dDone (by kernel_rfl) ?_
 refine hK5 _ _ ?_
 clear hK5
 refine wp_ret ?_
 replace hs := hs.bagG (l := Twire_Machine.parts b_x0 x0 g_x0) (S' := rowp Ar15x0_18 cr15x0_19 119 3 Tapi_Span.cells v_17 :: rowp Ar10x0_13 cr10x0_14 103 6 Tapi_Op.cells v_12 :: pt b_2 (blk [ci x0.n, C.slc Ar10x0_13 v_12.length cr10x0_14, C.slc Ar15x0_18 v_17.length cr15x0_19] 91) :: S) hs.own.f6.f6.f6.f6.f6
 exact Vk.retC [ci x0.n, C.slc Ar10x0_13 v_12.length cr10x0_14, C.slc Ar15x0_18 v_17.length cr15x0_19] hs rfl (by kernel_rfl) (sz := 3) (by kernel_rfl) rfl (CellsAt.all 3 rfl) (hRR ▸ by cases hm; exact ⟨Ar10x0_13, cr10x0_14, Ar15x0_18, cr15x0_19, rfl, hs.own.f3.drop.f1.f2⟩)


def visorref18_Same.j2 (k : Nat) (rec36 : Int → Option (Sum (Bool) (Unit))) (q_37 : Int) (p_62 : Tapi_Op) (p_66 : Tapi_Op) : Option (Sum (Bool) (Unit)) := (bif !(((p_66.kind == p_62.kind) && ((p_66.dom == p_62.dom) && ((p_66.a == p_62.a) && ((p_66.b == p_62.b) && ((p_66.d == p_62.d) && ((p_66.c == p_62.c) && true))))))) then some (.inl false) else rec36 (IntKind.i64.wrap (q_37 + 1)))
def visorref18_Same.j1 (k : Nat) (rec36 : Int → Option (Sum (Bool) (Unit))) (q_37 : Int) (p_60 : Tapi_Op) (p_62 : Tapi_Op) : Option (Sum (Bool) (Unit)) := (bif (p_60.kind == 4) && (p_62.kind == 4) then visorref18_Same.j2 k (rec36) q_37 p_62 (⟨p_60.kind, p_60.dom, p_60.a, p_60.b, p_60.d, p_62.c⟩ : Tapi_Op) else visorref18_Same.j2 k (rec36) q_37 p_62 p_60)
def visorref18_Same.l2 (x0 : Tapi_Trace) (x1 : Tapi_Trace) : Nat → Int → Option (Sum (Bool) (Unit))
 | 0, _ => none
 | k + 1, q_37 => (bif decide (q_37 < ((x0.ops.length : Nat) : Int)) then (if 0 ≤ q_37 then (x0.ops[q_37.toNat]?).bind fun e_46 => (if 0 ≤ q_37 then (x1.ops[q_37.toNat]?).bind fun e_53 => visorref18_Same.j1 k (visorref18_Same.l2 x0 x1 k) q_37 e_46 e_53 else none) else none) else some (.inr ()))
def visorref18_Same.l1 (x0 : Tapi_Trace) (x1 : Tapi_Trace) : Nat → Int → Option (Sum (Bool) (Unit))
 | 0, _ => none
 | k + 1, q_12 => (bif decide (q_12 < ((x0.blocks.length : Nat) : Int)) then (if 0 ≤ q_12 then (x0.blocks[q_12.toNat]?).bind fun e_21 => (if 0 ≤ q_12 then (x1.blocks[q_12.toNat]?).bind fun e_28 => (bif !(((e_21.kind == e_28.kind) && ((e_21.fromF == e_28.fromF) && ((e_21.to == e_28.to) && true)))) then some (.inl false) else visorref18_Same.l1 x0 x1 k (IntKind.i64.wrap (q_12 + 1))) else none) else none) else some (.inr ()))
abbrev visorref18_Same.R (κ : Ctx) (S : List HP) (x0 : Tapi_Trace) (x1 : Tapi_Trace) (A_x0ops : Option Addr) (c_x0ops : Nat) (A_x0blocks : Option Addr) (c_x0blocks : Nat) (A_x1ops : Option Addr) (c_x1ops : Nat) (A_x1blocks : Option Addr) (c_x1blocks : Nat) (r : Bool) : Ending → World → Prop := fun e w' => e = .returned (.bool r) ∧ Ow κ w' (S)
def visorref18_Same.m (k : Nat) (x0 : Tapi_Trace) (x1 : Tapi_Trace) : Option Bool := (bif ((x0.n != x1.n) || (((x0.ops.length : Nat) : Int) != ((x1.ops.length : Nat) : Int))) || (((x0.blocks.length : Nat) : Int) != ((x1.blocks.length : Nat) : Int)) then some false else (visorref18_Same.l1 x0 x1 k 0).bind fun x => match x with | .inl v => some v | .inr () => (visorref18_Same.l2 x0 x1 k 0).bind fun x => match x with | .inl v => some v | .inr () => some true)

set_option maxRecDepth 100000 in
set_option maxHeartbeats 4000000 in
theorem visorref18_Same.ok (k : Nat) (x0 : Tapi_Trace) (x1 : Tapi_Trace) (r : Bool) (hm : visorref18_Same.m k x0 x1 = some r) (κ : Ctx) (w : World) (S : List HP) (A_x0ops : Option Addr) (c_x0ops : Nat) (hx_x0ops : Sl κ S A_x0ops c_x0ops 6 Tapi_Op.cells x0.ops) (A_x0blocks : Option Addr) (c_x0blocks : Nat) (hx_x0blocks : Sl κ S A_x0blocks c_x0blocks 3 Tapi_Span.cells x0.blocks) (A_x1ops : Option Addr) (c_x1ops : Nat) (hx_x1ops : Sl κ S A_x1ops c_x1ops 6 Tapi_Op.cells x1.ops) (A_x1blocks : Option Addr) (c_x1blocks : Nat) (hx_x1blocks : Sl κ S A_x1blocks c_x1blocks 3 Tapi_Span.cells x1.blocks) (ho : Ow κ w (S)) :
  Calls Tryz.prog 68 #[.agg (vals [ci x0.n, C.slc A_x0ops x0.ops.length c_x0ops, C.slc A_x0blocks x0.blocks.length c_x0blocks]), .agg (vals [ci x1.n, C.slc A_x1ops x1.ops.length c_x1ops, C.slc A_x1blocks x1.blocks.length c_x1blocks])] w (visorref18_Same.R κ S x0 x1 A_x0ops c_x0ops A_x0blocks c_x0blocks A_x1ops c_x1ops A_x1blocks c_x1blocks r) := by
 unfold visorref18_Same.m at hm
 generalize hRR : visorref18_Same.R κ S x0 x1 A_x0ops c_x0ops A_x0blocks c_x0blocks A_x1ops c_x1ops A_x1blocks c_x1blocks r = RR
 refine qen [(0, .agg (vals [ci x0.n, C.slc A_x0ops x0.ops.length c_x0ops, C.slc A_x0blocks x0.blocks.length c_x0blocks])), (1, .agg (vals [ci x1.n, C.slc A_x1ops x1.ops.length c_x1ops, C.slc A_x1blocks x1.blocks.length c_x1blocks]))] Tryz.func68 Tryz.ntmps68 ho fun a hs => ?_
 refine qsr fun K1 hK1 => ?_
 refine qbx 0 91 [ci x0.n, C.slc A_x0ops x0.ops.length c_x0ops, C.slc A_x0blocks x0.blocks.length c_x0blocks] 2 hs fun b_2 w a hs => ?_
 refine qbx 1 91 [ci x1.n, C.slc A_x1ops x1.ops.length c_x1ops, C.slc A_x1blocks x1.blocks.length c_x1blocks] 3 hs fun b_3 w a hs => ?_
 refine qpe 1 [(2, pp b_2), (3, pp b_3)] hs fun a hs => hK1 _ _ ?_
 clear hK1
 refine Vk.seq fun K4 hK4 => ?_
 refine qsr fun K5 hK5 => ?_
 refine qpu 1 hs fun a hs => ?_
 refine qld 1 (ci x0.n) hs rfl fun a hs => ?_
 refine qpu 1 hs fun a hs => ?_
 refine qld 0 (ci x1.n) hs rfl fun a hs => ?_
 refine qpu 2 hs fun a hs => ?_
 suffices hj_6 : ∀ a, St 81 a w κ [(2, pp b_2), (3, pp b_3), (9, pp b_2), (10, vi x0.n), (11, pp b_3), (12, vi x1.n), (13, .bool (x0.n != x1.n)), (14, .bool (x0.n != x1.n)), (22, .bool ((x0.n != x1.n) || (((x0.ops.length : Nat) : Int) != ((x1.ops.length : Nat) : Int))))] (pt b_3 (blk (Tapi_Trace.obj x1 A_x1ops c_x1ops A_x1blocks c_x1blocks) 91) :: pt b_2 (blk (Tapi_Trace.obj x0 A_x0ops c_x0ops A_x0blocks c_x0blocks) 91) :: S) → wpFrom Tryz.prog _ _ 14 a w by
  rcases Bool.eq_false_or_eq_true (x0.n != x1.n) with hb | hb
  ·replace hs := hs.known (t := 14) hb (by kernel_rfl)
   refine qpu 8 hs fun a hs => ?_
   have hq := hs.pick [2, 3, 9, 10, 11, 12, 13, 14, 22] (L' := [(2, pp b_2), (3, pp b_3), (9, pp b_2), (10, vi x0.n), (11, pp b_3), (12, vi x1.n), (13, .bool (x0.n != x1.n)), (14, .bool true), (22, .bool true)]) (by kernel_rfl)
   exact hj_6 _ (hq.conv (by first | (rw [hb] <;> rfl) | rfl))
  ·replace hs := hs.known (t := 14) hb (by kernel_rfl)
   refine qpu 1 hs fun a hs => ?_
   refine qld 1 (C.slc A_x0ops x0.ops.length c_x0ops) hs rfl fun a hs => ?_
   refine qpu 2 hs fun a hs => ?_
   refine qld 0 (C.slc A_x1ops x1.ops.length c_x1ops) hs rfl fun a hs => ?_
   refine qpu 3 hs fun a hs => ?_
   have hq := hs.pick [2, 3, 9, 10, 11, 12, 13, 14, 22] (L' := [(2, pp b_2), (3, pp b_3), (9, pp b_2), (10, vi x0.n), (11, pp b_3), (12, vi x1.n), (13, .bool (x0.n != x1.n)), (14, .bool false), (22, .bool (((x0.ops.length : Nat) : Int) != ((x1.ops.length : Nat) : Int)))]) (by kernel_rfl)
   exact hj_6 _ (hq.conv (by first | (rw [hb] <;> rfl) | rfl))
 intro a hs
 refine qpu 1 hs fun a hs => ?_
 suffices hj_7 : ∀ a, St 81 a w κ [(2, pp b_2), (3, pp b_3), (9, pp b_2), (10, vi x0.n), (11, pp b_3), (12, vi x1.n), (13, .bool (x0.n != x1.n)), (14, .bool (x0.n != x1.n)), (22, .bool ((x0.n != x1.n) || (((x0.ops.length : Nat) : Int) != ((x1.ops.length : Nat) : Int)))), (23, .bool ((x0.n != x1.n) || (((x0.ops.length : Nat) : Int) != ((x1.ops.length : Nat) : Int)))), (31, .bool (((x0.n != x1.n) || (((x0.ops.length : Nat) : Int) != ((x1.ops.length : Nat) : Int))) || (((x0.blocks.length : Nat) : Int) != ((x1.blocks.length : Nat) : Int))))] (pt b_3 (blk (Tapi_Trace.obj x1 A_x1ops c_x1ops A_x1blocks c_x1blocks) 91) :: pt b_2 (blk (Tapi_Trace.obj x0 A_x0ops c_x0ops A_x0blocks c_x0blocks) 91) :: S) → wpFrom Tryz.prog _ _ 23 a w by
  rcases Bool.eq_false_or_eq_true ((x0.n != x1.n) || (((x0.ops.length : Nat) : Int) != ((x1.ops.length : Nat) : Int))) with hb | hb
  ·replace hs := hs.known (t := 23) hb (by kernel_rfl)
   refine qpu 8 hs fun a hs => ?_
   have hq := hs.pick [2, 3, 9, 10, 11, 12, 13, 14, 22, 23, 31] (L' := [(2, pp b_2), (3, pp b_3), (9, pp b_2), (10, vi x0.n), (11, pp b_3), (12, vi x1.n), (13, .bool (x0.n != x1.n)), (14, .bool (x0.n != x1.n)), (22, .bool ((x0.n != x1.n) || (((x0.ops.length : Nat) : Int) != ((x1.ops.length : Nat) : Int)))), (23, .bool true), (31, .bool true)]) (by kernel_rfl)
   exact hj_7 _ (hq.conv (by first | (rw [hb] <;> rfl) | rfl))
  ·replace hs := hs.known (t := 23) hb (by kernel_rfl)
   refine qpu 1 hs fun a hs => ?_
   refine qld 1 (C.slc A_x0blocks x0.blocks.length c_x0blocks) hs rfl fun a hs => ?_
   refine qpu 2 hs fun a hs => ?_
   refine qld 0 (C.slc A_x1blocks x1.blocks.length c_x1blocks) hs rfl fun a hs => ?_
   refine qpu 3 hs fun a hs => ?_
   have hq := hs.pick [2, 3, 9, 10, 11, 12, 13, 14, 22, 23, 31] (L' := [(2, pp b_2), (3, pp b_3), (9, pp b_2), (10, vi x0.n), (11, pp b_3), (12, vi x1.n), (13, .bool (x0.n != x1.n)), (14, .bool (x0.n != x1.n)), (22, .bool ((x0.n != x1.n) || (((x0.ops.length : Nat) : Int) != ((x1.ops.length : Nat) : Int)))), (23, .bool false), (31, .bool (((x0.blocks.length : Nat) : Int) != ((x1.blocks.length : Nat) : Int)))]) (by kernel_rfl)
   exact hj_7 _ (hq.conv (by first | (rw [hb] <;> rfl) | rfl))
 intro a hs
 refine qpk 0 [2, 3, 31] hs fun a hs => hK5 _ _ ?_
 clear hK5
 refine qcs (((x0.n != x1.n) || (((x0.ops.length : Nat) : Int) != ((x1.ops.length : Nat) : Int))) || (((x0.blocks.length : Nat) : Int) != ((x1.blocks.length : Nat) : Int))) hs (fun hb => ?_) fun hb => ?_
 ·replace hm := bif_t hm hb
  refine qse 1 [(4, .bool false)] hs fun a hs => ?_
  refine wp_ret ?_
  exact qr1 (.bool false) hs rfl hRR (by cases hm; exact ⟨rfl, hs.own.f1.drop.drop⟩)
 ·replace hm := bif_f hm hb
  refine wp_skip ?_
  refine hK4 _ _ ?_
  clear hK4
  refine Vk.seq fun K9 hK9 => ?_
  refine qsk 1 [2, 3, 5] hs fun a hs => ?_
  refine wp_block ?_
  obtain ⟨r11, hl11, hm⟩ := bind_t hm
  have hx11 : r11 = Sum.inr () → ∀ (a : Act) (w : World), St 81 a w κ [(2, pp b_2), (3, pp b_3)] (pt b_2 (blk (Tapi_Trace.obj x0 A_x0ops c_x0ops A_x0blocks c_x0blocks) 91) :: pt b_3 (blk (Tapi_Trace.obj x1 A_x1ops c_x1ops A_x1blocks c_x1blocks) 91) :: S) → K9 a w := by
   intro he a w hs
   subst r11
   refine hK9 _ _ ?_
   clear hK9
   refine Vk.seq fun K34 hK34 => ?_
   refine qsk 1 [2, 3, 6] hs fun a hs => ?_
   refine wp_block ?_
   obtain ⟨r36, hl36, hm⟩ := bind_t hm
   have hx36 : r36 = Sum.inr () → ∀ (a : Act) (w : World), St 81 a w κ [] (S) → K34 a w := by
    intro he a w hs
    subst r36
    refine hK34 _ _ ?_
    clear hK34
    refine qse 1 [(4, .bool true)] hs fun a hs => ?_
    refine wp_ret ?_
    exact qr1 (.bool true) hs rfl hRR (by cases hm; exact ⟨rfl, hs.own⟩)
   have hret36 : ∀ v, r36 = Sum.inl v → v = r := by intro v he; subst r36; exact Option.some.inj hm
   refine Vk.loopBy (fun k (s : Int) a w => visorref18_Same.l2 x0 x1 k s = some r36 ∧ St 81 a w κ [(2, pp b_2), (3, pp b_3), (6, vi s)] (pt b_2 (blk (Tapi_Trace.obj x0 A_x0ops c_x0ops A_x0blocks c_x0blocks) 91) :: pt b_3 (blk (Tapi_Trace.obj x1 A_x1ops c_x1ops A_x1blocks c_x1blocks) 91) :: S)) k 0 ⟨hl36, hs.go [2, 3, 6] [0, 1] 2 (by kernel_rfl) (by kernel_rfl) (by kernel_rfl)⟩ (fun s a w h => by obtain ⟨h1, _⟩ := h; simp [visorref18_Same.l2] at h1) (fun k KL36 ih q_37 a w h => ?_)
   obtain ⟨hm, hs⟩ := h
   try dsimp only at hm hs
   rw [visorref18_Same.l2] at hm
   refine Vk.seq fun K38 hK38 => ?_
   refine qsr fun K39 hK39 => ?_
   refine qpu 2 hs fun a hs => ?_
   refine qld 0 (C.slc A_x0ops x0.ops.length c_x0ops) hs rfl fun a hs => ?_
   refine qpk 2 [2, 3, 6, 54] hs fun a hs => hK39 _ _ ?_
   clear hK39
   refine qcs (decide (q_37 < ((x0.ops.length : Nat) : Int))) hs (fun hb => ?_) fun hb => ?_
   ·replace hm := bif_t hm hb
    refine wp_skip ?_
    refine hK38 _ _ ?_
    clear hK38
    refine Vk.seq fun K40 hK40 => ?_
    refine wp_block ?_
    refine Vk.seq fun K41 hK41 => ?_
    have hj41 : ∀ (p_60 : Tapi_Op) (p_62 : Tapi_Op), visorref18_Same.j1 k (visorref18_Same.l2 x0 x1 k) q_37 p_60 p_62 = some r36 → ∀ (b_59 : Nat) (b_61 : Nat) (a : Act) (w : World), St 81 a w κ [(2, pp b_2), (3, pp b_3), (6, vi q_37), (7, pp b_59), (8, pp b_61)] (pt b_2 (blk (Tapi_Trace.obj x0 A_x0ops c_x0ops A_x0blocks c_x0blocks) 91) :: pt b_3 (blk (Tapi_Trace.obj x1 A_x1ops c_x1ops A_x1blocks c_x1blocks) 91) :: pt b_59 (blk (Tapi_Op.cells p_60) 103) :: pt b_61 (blk (Tapi_Op.cells p_62) 103) :: S) → K41 a w := by
     intro p_60 p_62 hm b_59 b_61 a w hs
     unfold visorref18_Same.j1 at hm
     refine hK41 _ _ ?_
     refine Vk.seq fun K63 hK63 => ?_
     have hj63 : ∀ (p_66 : Tapi_Op), visorref18_Same.j2 k (visorref18_Same.l2 x0 x1 k) q_37 p_62 p_66 = some r36 → ∀ (a : Act) (w : World), St 81 a w κ [(2, pp b_2), (3, pp b_3), (6, vi q_37), (7, pp b_59), (8, pp b_61)] (pt b_2 (blk (Tapi_Trace.obj x0 A_x0ops c_x0ops A_x0blocks c_x0blocks) 91) :: pt b_3 (blk (Tapi_Trace.obj x1 A_x1ops c_x1ops A_x1blocks c_x1blocks) 91) :: pt b_59 (blk (Tapi_Op.cells p_66) 103) :: pt b_61 (blk (Tapi_Op.cells p_62) 103) :: S) → K63 a w := by
      intro p_66 hm a w hs
      unfold visorref18_Same.j2 at hm
      refine hK63 _ _ ?_
      refine qsr fun K67 hK67 => ?_
      refine qln 2 ([ci p_66.kind, ci p_66.dom, ci p_66.a, ci p_66.b, ci p_66.d, cw p_66.c]) hs rfl fun a hs => ?_
      refine qln 3 ([ci p_62.kind, ci p_62.dom, ci p_62.a, ci p_62.b, ci p_62.d, cw p_62.c]) hs rfl fun a hs => ?_
      refine qva (.bool (!(((p_66.kind == p_62.kind) && ((p_66.dom == p_62.dom) && ((p_66.a == p_62.a) && ((p_66.b == p_62.b) && ((p_66.d == p_62.d) && ((p_66.c == p_62.c) && true))))))))) (op := (.binOp .neq 103 (.tmp 78) (.tmp 79) 103)) hs (fun o ho => run_neqV (ks := ([LK.int .i64] ++ [LK.int .i64] ++ [LK.int .i64] ++ [LK.int .i64] ++ [LK.int .i64] ++ [LK.int .u64])) (cs := [ci p_66.kind, ci p_66.dom, ci p_66.a, ci p_66.b, ci p_66.d, cw p_66.c]) (us := [ci p_62.kind, ci p_62.dom, ci p_62.a, ci p_62.b, ci p_62.d, cw p_62.c]) ho (by kernel_rfl) (by kernel_rfl) (by kernel_rfl) rfl rfl _) fun a hs => ?_
      refine qpk 0 [2, 3, 6, 80] hs fun a hs => hK67 _ _ ?_
      clear hK67
      refine qcs (!(((p_66.kind == p_62.kind) && ((p_66.dom == p_62.dom) && ((p_66.a == p_62.a) && ((p_66.b == p_62.b) && ((p_66.d == p_62.d) && ((p_66.c == p_62.c) && true)))))))) hs (fun hb => ?_) fun hb => ?_
      ·replace hm := bif_t hm hb
       refine qse 1 [(4, .bool false)] hs fun a hs => ?_
       refine wp_ret ?_
       exact Vk.ret1 (P := Tryz.prog) (fn := Tryz.f68) (R := RR) (.bool false) hs rfl (by kernel_rfl) (by obtain rfl := hret36 _ ((Option.some.inj hm).symm); subst hRR; exact ⟨rfl, (hs.own.too [] 4)⟩)
      ·replace hm := bif_f hm hb
       refine wp_skip ?_
       refine hK40 _ _ ?_
       clear hK40
       refine Vk.region ?_
       refine qpe 3 [(2, pp b_2), (3, pp b_3), (6, vi (IntKind.i64.wrap (q_37 + 1)))] hs fun a hs => ?_
       refine ih (IntKind.i64.wrap (q_37 + 1)) _ _ ⟨hm, hs.go [2, 3, 6] [0, 1] 4 (by kernel_rfl) (by kernel_rfl) (by kernel_rfl)⟩
     refine qsr fun K64 hK64 => ?_
     refine qpu 1 hs fun a hs => ?_
     refine qld 2 (ci p_60.kind) hs rfl fun a hs => ?_
     refine qpu 2 hs fun a hs => ?_
     suffices hj_65 : ∀ a, St 81 a w κ [(2, pp b_2), (3, pp b_3), (6, vi q_37), (7, pp b_59), (8, pp b_61), (67, pp b_59), (68, vi p_60.kind), (69, .bool (p_60.kind == 4)), (70, .bool (p_60.kind == 4)), (74, .bool ((p_60.kind == 4) && (p_62.kind == 4)))] (pt b_2 (blk (Tapi_Trace.obj x0 A_x0ops c_x0ops A_x0blocks c_x0blocks) 91) :: pt b_3 (blk (Tapi_Trace.obj x1 A_x1ops c_x1ops A_x1blocks c_x1blocks) 91) :: pt b_59 (blk (Tapi_Op.cells p_60) 103) :: pt b_61 (blk (Tapi_Op.cells p_62) 103) :: S) → wpFrom Tryz.prog _ _ 8 a w by
      rcases Bool.eq_false_or_eq_true (p_60.kind == 4) with hb | hb
      ·replace hs := hs.known (t := 70) hb (by kernel_rfl)
       refine qpu 1 hs fun a hs => ?_
       refine qld 3 (ci p_62.kind) hs rfl fun a hs => ?_
       refine qpu 2 hs fun a hs => ?_
       have hq := hs.pick [2, 3, 6, 7, 8, 67, 68, 69, 70, 74] (L' := [(2, pp b_2), (3, pp b_3), (6, vi q_37), (7, pp b_59), (8, pp b_61), (67, pp b_59), (68, vi p_60.kind), (69, .bool (p_60.kind == 4)), (70, .bool true), (74, .bool (p_62.kind == 4))]) (by kernel_rfl)
       exact hj_65 _ (hq.conv (by first | (rw [hb] <;> rfl) | rfl))
      ·replace hs := hs.known (t := 70) hb (by kernel_rfl)
       refine qpu 4 hs fun a hs => ?_
       have hq := hs.pick [2, 3, 6, 7, 8, 67, 68, 69, 70, 74] (L' := [(2, pp b_2), (3, pp b_3), (6, vi q_37), (7, pp b_59), (8, pp b_61), (67, pp b_59), (68, vi p_60.kind), (69, .bool (p_60.kind == 4)), (70, .bool false), (74, .bool false)]) (by kernel_rfl)
       exact hj_65 _ (hq.conv (by first | (rw [hb] <;> rfl) | rfl))
     intro a hs
     refine qpk 0 [2, 3, 6, 7, 8, 74] hs fun a hs => hK64 _ _ ?_
     clear hK64
     refine qcs ((p_60.kind == 4) && (p_62.kind == 4)) hs (fun hb => ?_) fun hb => ?_
     ·replace hm := bif_t hm hb
      refine Vk.region ?_
      refine qpu 1 hs fun a hs => ?_
      refine qld 3 (cw p_62.c) hs rfl fun a hs => ?_
      refine qpu 1 hs fun a hs => ?_
      refine qst 2 5 (cw p_62.c) hs rfl fun a w hs => ?_
      refine qpe 0 [(2, pp b_2), (3, pp b_3), (6, vi q_37), (7, pp b_59), (8, pp b_61)] hs fun a hs => ?_
      exact hj63 (⟨p_60.kind, p_60.dom, p_60.a, p_60.b, p_60.d, p_62.c⟩ : Tapi_Op) hm _ _ (hs.go [2, 3, 6, 7, 8] [0, 1, 2, 3] 4 (by kernel_rfl) (by kernel_rfl) (by kernel_rfl))
     ·replace hm := bif_f hm hb
      refine wp_skip ?_
      exact hj63 p_60 hm _ _ (hs.go [2, 3, 6, 7, 8] [0, 1, 2, 3] 4 (by kernel_rfl) (by kernel_rfl) (by kernel_rfl))
    obtain ⟨C_42, hC_42⟩ := qC hs.own
    refine qdr 13 κ C_42 hs fun w hs hqC_42 => ?_
    have hcl := qO hC_42 hs.own
    refine qdp (fuel := 10) [0, 2, 5, 7] hs hcl hqC_42 fun a hs => ?_
    refine qdl 1 0 (C.slc A_x0ops x0.ops.length c_x0ops) hs hcl hqC_42 hC_42 rfl fun a hs => ?_
    obtain ⟨h_43, hm⟩ := ite_t hm
    obtain ⟨e_46, h_44, hm⟩ := bind_t hm
    obtain ⟨b_47, o_48, hA_49, h_45⟩ := Sl.elem hx_x0ops h_44
    refine qdt 3 (.pointer (some ⟨b_47, o_48 + q_37.toNat * 6, none⟩)) (op := (.indexAddr 49 (.tmp 58) (.tmp 59))) hs hcl hqC_42 (fun w hw o ho => by rw [hC_42] at hw; exact run_idxSlc (k := .i64) ho (cap := c_x0ops) (len := x0.ops.length) ((congrArg (fun A => Value.slice A (x0.ops.length) (c_x0ops)) hA_49) ▸ (by kernel_rfl)) (by kernel_rfl) (by kernel_rfl) (idx_ok h_43 h_44) _) fun a hs => ?_
    refine qdt 4 (.agg (vals [ci e_46.kind, ci e_46.dom, ci e_46.a, ci e_46.b, ci e_46.d, cw e_46.c])) (op := (.load 103 (.tmp 60))) hs hcl hqC_42 (fun w hw o ho => by rw [hC_42] at hw; exact run_loadN (cs := [ci e_46.kind, ci e_46.dom, ci e_46.a, ci e_46.b, ci e_46.d, cw e_46.c]) ho (by kernel_rfl) (by kernel_rfl) rfl h_45 _ hw.drop.drop) fun a hs => ?_
    refine qdl 6 1 (C.slc A_x1ops x1.ops.length c_x1ops) hs hcl hqC_42 hC_42 rfl fun a hs => ?_
    obtain ⟨h_50, hm⟩ := ite_t hm
    obtain ⟨e_53, h_51, hm⟩ := bind_t hm
    obtain ⟨b_54, o_55, hA_56, h_52⟩ := Sl.elem hx_x1ops h_51
    refine qdt 8 (.pointer (some ⟨b_54, o_55 + q_37.toNat * 6, none⟩)) (op := (.indexAddr 49 (.tmp 63) (.tmp 64))) hs hcl hqC_42 (fun w hw o ho => by rw [hC_42] at hw; exact run_idxSlc (k := .i64) ho (cap := c_x1ops) (len := x1.ops.length) ((congrArg (fun A => Value.slice A (x1.ops.length) (c_x1ops)) hA_56) ▸ (by kernel_rfl)) (by kernel_rfl) (by kernel_rfl) (idx_ok h_50 h_51) _) fun a hs => ?_
    refine qdt 9 (.agg (vals [ci e_53.kind, ci e_53.dom, ci e_53.a, ci e_53.b, ci e_53.d, cw e_53.c])) (op := (.load 103 (.tmp 65))) hs hcl hqC_42 (fun w hw o ho => by rw [hC_42] at hw; exact run_loadN (cs := [ci e_53.kind, ci e_53.dom, ci e_53.a, ci e_53.b, ci e_53.d, cw e_53.c]) ho (by kernel_rfl) (by kernel_rfl) rfl h_52 _ hw.drop.drop) fun a hs => ?_
    refine Vk.dMany2 (i0 := 10) (i1 := 11) (by kernel_rfl) ?_ ?_
    ·refine Vk.alloc 7 103 [ci 0, ci 0, ci 0, ci 0, ci 0, cw 0] hs (by kernel_rfl) (by kernel_rfl) (by kernel_rfl) fun b_57 w a hs => ?_
     replace hcl := qO hC_42 hs.own.drop
     refine ⟨fun _ => hcl, ?_⟩
     refine Vk.dOnly (i := 11) (by kernel_rfl) (Vk.alloc 8 103 [ci 0, ci 0, ci 0, ci 0, ci 0, cw 0] hs (by kernel_rfl) (by kernel_rfl) (by kernel_rfl) fun b_58 w a hs => ?_)
     replace hcl := qO hC_42 hs.own.f1.drop.drop
     refine ⟨fun _ => hcl, ?_⟩
     refine qsA 12 1 [ci e_46.kind, ci e_46.dom, ci e_46.a, ci e_46.b, ci e_46.d, cw e_46.c] hs rfl rfl rfl fun a w hs => ?_
     replace hcl := qO hC_42 hs.own.f1.drop.drop
     refine ⟨fun _ => hcl, ?_⟩
     refine qsA 13 0 [ci e_53.kind, ci e_53.dom, ci e_53.a, ci e_53.b, ci e_53.d, cw e_53.c] hs rfl rfl rfl fun a w hs => ?_
     refine ⟨fun h => absurd h (by decide), ?_⟩
     replace hs := hs.pick [2, 3, 6, 7, 8] (L' := [(2, pp b_2), (3, pp b_3), (6, vi q_37), (7, pp b_57), (8, pp b_58)]) (by kernel_rfl)
     refine Vk.dDone (by kernel_rfl) ?_
     exact hj41 e_46 e_53 hm b_57 b_58 _ _ (hs.go [2, 3, 6, 7, 8] [2, 3, 1, 0] 4 (by kernel_rfl) (by kernel_rfl) (by kernel_rfl))
    ·refine Vk.alloc 8 103 [ci 0, ci 0, ci 0, ci 0, ci 0, cw 0] hs (by kernel_rfl) (by kernel_rfl) (by kernel_rfl) fun b_57 w a hs => ?_
     replace hcl := qO hC_42 hs.own.drop
     refine ⟨fun _ => hcl, ?_⟩
     refine Vk.dOnly (i := 10) (by kernel_rfl) (Vk.alloc 7 103 [ci 0, ci 0, ci 0, ci 0, ci 0, cw 0] hs (by kernel_rfl) (by kernel_rfl) (by kernel_rfl) fun b_58 w a hs => ?_)
     replace hcl := qO hC_42 hs.own.f1.drop.drop
     refine ⟨fun _ => hcl, ?_⟩
     refine qsA 12 0 [ci e_46.kind, ci e_46.dom, ci e_46.a, ci e_46.b, ci e_46.d, cw e_46.c] hs rfl rfl rfl fun a w hs => ?_
     replace hcl := qO hC_42 hs.own.f1.drop.drop
     refine ⟨fun _ => hcl, ?_⟩
     refine qsA 13 1 [ci e_53.kind, ci e_53.dom, ci e_53.a, ci e_53.b, ci e_53.d, cw e_53.c] hs rfl rfl rfl fun a w hs => ?_
     refine ⟨fun h => absurd h (by decide), ?_⟩
     replace hs := hs.pick [2, 3, 6, 7, 8] (L' := [(2, pp b_2), (3, pp b_3), (6, vi q_37), (7, pp b_58), (8, pp b_57)]) (by kernel_rfl)
     refine Vk.dDone (by kernel_rfl) ?_
     exact hj41 e_46 e_53 hm b_58 b_57 _ _ (hs.go [2, 3, 6, 7, 8] [2, 3, 0, 1] 4 (by kernel_rfl) (by kernel_rfl) (by kernel_rfl))
   ·replace hm := bif_f hm hb
    refine wp_exit ?_
    exact hx36 (Option.some.inj hm).symm _ _ (hs.go [] [] 2 (by kernel_rfl) (by kernel_rfl) (by kernel_rfl))
  have hret11 : ∀ v, r11 = Sum.inl v → v = r := by intro v he; subst r11; exact Option.some.inj hm
  refine Vk.loopBy (fun k (s : Int) a w => visorref18_Same.l1 x0 x1 k s = some r11 ∧ St 81 a w κ [(2, pp b_2), (3, pp b_3), (5, vi s)] (pt b_2 (blk (Tapi_Trace.obj x0 A_x0ops c_x0ops A_x0blocks c_x0blocks) 91) :: pt b_3 (blk (Tapi_Trace.obj x1 A_x1ops c_x1ops A_x1blocks c_x1blocks) 91) :: S)) k 0 ⟨hl11, hs.go [2, 3, 5] [1, 0] 2 (by kernel_rfl) (by kernel_rfl) (by kernel_rfl)⟩ (fun s a w h => by obtain ⟨h1, _⟩ := h; simp [visorref18_Same.l1] at h1) (fun k KL11 ih q_12 a w h => ?_)
  obtain ⟨hm, hs⟩ := h
  try dsimp only at hm hs
  rw [visorref18_Same.l1] at hm
  refine Vk.seq fun K13 hK13 => ?_
  refine qsr fun K14 hK14 => ?_
  refine qpu 2 hs fun a hs => ?_
  refine qld 0 (C.slc A_x0blocks x0.blocks.length c_x0blocks) hs rfl fun a hs => ?_
  refine qpk 2 [2, 3, 5, 36] hs fun a hs => hK14 _ _ ?_
  clear hK14
  refine qcs (decide (q_12 < ((x0.blocks.length : Nat) : Int))) hs (fun hb => ?_) fun hb => ?_
  ·replace hm := bif_t hm hb
   refine wp_skip ?_
   refine hK13 _ _ ?_
   clear hK13
   refine Vk.seq fun K15 hK15 => ?_
   refine wp_block ?_
   refine Vk.seq fun K16 hK16 => ?_
   obtain ⟨C_17, hC_17⟩ := qC hs.own
   refine qdr 11 κ C_17 hs fun w hs hqC_17 => ?_
   have hcl := qO hC_17 hs.own
   refine qdp (fuel := 7) [0, 2, 5, 7] hs hcl hqC_17 fun a hs => ?_
   refine qdl 1 0 (C.slc A_x0blocks x0.blocks.length c_x0blocks) hs hcl hqC_17 hC_17 rfl fun a hs => ?_
   obtain ⟨h_18, hm⟩ := ite_t hm
   obtain ⟨e_21, h_19, hm⟩ := bind_t hm
   obtain ⟨b_22, o_23, hA_24, h_20⟩ := Sl.elem hx_x0blocks h_19
   refine qdt 3 (.pointer (some ⟨b_22, o_23 + q_12.toNat * 3, none⟩)) (op := (.indexAddr 50 (.tmp 40) (.tmp 41))) hs hcl hqC_17 (fun w hw o ho => by rw [hC_17] at hw; exact run_idxSlc (k := .i64) ho (cap := c_x0blocks) (len := x0.blocks.length) ((congrArg (fun A => Value.slice A (x0.blocks.length) (c_x0blocks)) hA_24) ▸ (by kernel_rfl)) (by kernel_rfl) (by kernel_rfl) (idx_ok h_18 h_19) _) fun a hs => ?_
   refine qdt 4 (.agg (vals [ci e_21.kind, ci e_21.fromF, ci e_21.to])) (op := (.load 119 (.tmp 42))) hs hcl hqC_17 (fun w hw o ho => by rw [hC_17] at hw; exact run_loadN (cs := [ci e_21.kind, ci e_21.fromF, ci e_21.to]) ho (by kernel_rfl) (by kernel_rfl) rfl h_20 _ hw.drop.drop) fun a hs => ?_
   refine qdl 6 1 (C.slc A_x1blocks x1.blocks.length c_x1blocks) hs hcl hqC_17 hC_17 rfl fun a hs => ?_
   obtain ⟨h_25, hm⟩ := ite_t hm
   obtain ⟨e_28, h_26, hm⟩ := bind_t hm
   obtain ⟨b_29, o_30, hA_31, h_27⟩ := Sl.elem hx_x1blocks h_26
   refine qdt 8 (.pointer (some ⟨b_29, o_30 + q_12.toNat * 3, none⟩)) (op := (.indexAddr 50 (.tmp 45) (.tmp 46))) hs hcl hqC_17 (fun w hw o ho => by rw [hC_17] at hw; exact run_idxSlc (k := .i64) ho (cap := c_x1blocks) (len := x1.blocks.length) ((congrArg (fun A => Value.slice A (x1.blocks.length) (c_x1blocks)) hA_31) ▸ (by kernel_rfl)) (by kernel_rfl) (by kernel_rfl) (idx_ok h_25 h_26) _) fun a hs => ?_
   refine qdt 9 (.agg (vals [ci e_28.kind, ci e_28.fromF, ci e_28.to])) (op := (.load 119 (.tmp 47))) hs hcl hqC_17 (fun w hw o ho => by rw [hC_17] at hw; exact run_loadN (cs := [ci e_28.kind, ci e_28.fromF, ci e_28.to]) ho (by kernel_rfl) (by kernel_rfl) rfl h_27 _ hw.drop.drop) fun a hs => ?_
   refine qdt 10 (.bool (!(((e_21.kind == e_28.kind) && ((e_21.fromF == e_28.fromF) && ((e_21.to == e_28.to) && true)))))) (op := (.binOp .neq 119 (.tmp 43) (.tmp 48) 119)) hs hcl hqC_17 (fun w hw o ho => by rw [hC_17] at hw; exact run_neqV (ks := ([LK.int .i64] ++ [LK.int .i64] ++ [LK.int .i64])) (cs := [ci e_21.kind, ci e_21.fromF, ci e_21.to]) (us := [ci e_28.kind, ci e_28.fromF, ci e_28.to]) ho (by kernel_rfl) (by kernel_rfl) (by kernel_rfl) rfl rfl _) fun a hs => ?_
   replace hs := hs.pick [2, 3, 5, 49] (L' := [(2, pp b_2), (3, pp b_3), (5, vi q_12), (49, .bool (!(((e_21.kind == e_28.kind) && ((e_21.fromF == e_28.fromF) && ((e_21.to == e_28.to) && true))))))]) (by kernel_rfl)
   refine Vk.dDone (by kernel_rfl) ?_
   refine hK16 _ _ ?_
   clear hK16
   refine qcs (!(((e_21.kind == e_28.kind) && ((e_21.fromF == e_28.fromF) && ((e_21.to == e_28.to) && true))))) hs (fun hb => ?_) fun hb => ?_
   ·replace hm := bif_t hm hb
    refine qse 1 [(4, .bool false)] hs fun a hs => ?_
    refine wp_ret ?_
    exact Vk.ret1 (P := Tryz.prog) (fn := Tryz.f68) (R := RR) (.bool false) hs rfl (by kernel_rfl) (by obtain rfl := hret11 _ ((Option.some.inj hm).symm); subst hRR; exact ⟨rfl, hs.own.f1.drop.drop⟩)
   ·replace hm := bif_f hm hb
    refine wp_skip ?_
    refine hK15 _ _ ?_
    clear hK15
    refine Vk.region ?_
    refine qpk 3 [2, 3, 5] hs fun a hs => ?_
    refine ih (IntKind.i64.wrap (q_12 + 1)) _ _ ⟨hm, hs.go [2, 3, 5] [0, 1] 2 (by kernel_rfl) (by kernel_rfl) (by kernel_rfl)⟩
  ·replace hm := bif_f hm hb
   refine wp_exit ?_
   exact hx11 (Option.some.inj hm).symm _ _ (hs.go [2, 3] [0, 1] 2 (by kernel_rfl) (by kernel_rfl) (by kernel_rfl))

structure Tvisorlaw20_Pair where
 m : Twire_Machine
 x : Tvisorref19_M
 l : List Cells
 v : List Int
 deriving Inhabited
def Tvisorlaw20_Pair.obj (x : Tvisorlaw20_Pair) (bm : Nat) (bx : Nat) (Al : Option Addr) (cl : Nat) (Av : Option Addr) (cv : Nat) : Cells := [C.ptr (some ⟨bm, 0, none⟩), C.ptr (some ⟨bx, 0, none⟩), C.slc Al x.l.length cl, C.slc Av x.v.length cv]

def visorlaw20_Pair_Like.l1 (x0 : Tvisorlaw20_Pair) (v_6 : List Int) : Nat → Int → Option (Sum (Bool) (Unit))
 | 0, _ => none
 | k + 1, q_39 => (bif decide (q_39 < ((v_6.length : Nat) : Int)) then (if 0 ≤ q_39 then (v_6[q_39.toNat]?).bind fun e_52 => (if 0 ≤ q_39 then (x0.x.val[q_39.toNat]?).bind fun e_59 => (bif e_52 != e_59 then some (.inl false) else visorlaw20_Pair_Like.l1 x0 v_6 k (IntKind.i64.wrap (q_39 + 1))) else none) else none) else some (.inr ()))
def visorlaw20_Pair_Like.j1 (k : Nat) (x0 : Tvisorlaw20_Pair) (v_6 : List Int) (p_34 : Bool) : Option (Bool) := (bif p_34 then some false else (visorlaw20_Pair_Like.l1 x0 v_6 k 0).bind fun x => match x with | .inl v => some v | .inr () => some true)
abbrev visorlaw20_Pair_Like.R (κ : Ctx) (S : List HP) (x0 : Tvisorlaw20_Pair) (b_x0m : Nat) (g_x0m : Nat × Option Addr × Nat × Option Addr × Nat × Option Addr × Nat) (b_x0x : Nat) (g_x0x : Option Addr × Nat × Option Addr × Nat × Option Addr × Nat × Option Addr × Nat) (A_x0l : Option Addr) (c_x0l : Nat) (A_x0v : Option Addr) (c_x0v : Nat) (r : Bool) : Ending → World → Prop := fun e w' => e = .returned (.bool r) ∧ Ow κ w' (bagL (Twire_Machine.parts b_x0m x0.m g_x0m) :: bagL (Tvisorref19_M.parts κ b_x0x x0.x g_x0x) :: S)
def visorlaw20_Pair_Like.m (k : Nat) (x0 : Tvisorlaw20_Pair) : Option Bool := (wire_Machine_Values.m k x0.m).bind fun v_6 => (bif ((v_6.length : Nat) : Int) != ((x0.x.val.length : Nat) : Int) then visorlaw20_Pair_Like.j1 k x0 v_6 true else (wire_Machine_Err.m k x0.m).bind fun v_18 => (bif v_18 != x0.x.e then visorlaw20_Pair_Like.j1 k x0 v_6 true else (wire_Machine_Trace.m k x0.m).bind fun v_21 => (visorref18_Same.m k v_21 (⟨x0.x.n, x0.x.ops, x0.x.blocks⟩ : Tapi_Trace)).bind fun v_33 => visorlaw20_Pair_Like.j1 k x0 v_6 (!v_33)))

set_option maxRecDepth 100000 in
set_option maxHeartbeats 4000000 in
theorem visorlaw20_Pair_Like.ok (k : Nat) (x0 : Tvisorlaw20_Pair) (r : Bool) (hm : visorlaw20_Pair_Like.m k x0 = some r) (κ : Ctx) (w : World) (S : List HP) (b_x0m : Nat) (g_x0m : Nat × Option Addr × Nat × Option Addr × Nat × Option Addr × Nat) (b_x0x : Nat) (g_x0x : Option Addr × Nat × Option Addr × Nat × Option Addr × Nat × Option Addr × Nat) (A_x0l : Option Addr) (c_x0l : Nat) (hx_x0l : Sl κ S A_x0l c_x0l 3 eC x0.l) (A_x0v : Option Addr) (c_x0v : Nat) (hx_x0v : Sl κ S A_x0v c_x0v 1 (eI .u64) x0.v) (ho : Ow κ w (bagL (Twire_Machine.parts b_x0m x0.m g_x0m) :: bagL (Tvisorref19_M.parts κ b_x0x x0.x g_x0x) :: S)) :
  Calls Tryz.prog 19 #[.agg (vals [cp b_x0m, cp b_x0x, C.slc A_x0l x0.l.length c_x0l, C.slc A_x0v x0.v.length c_x0v])] w (visorlaw20_Pair_Like.R κ S x0 b_x0m g_x0m b_x0x g_x0x A_x0l c_x0l A_x0v c_x0v r) := by
 unfold visorlaw20_Pair_Like.m at hm
 generalize hRR : visorlaw20_Pair_Like.R κ S x0 b_x0m g_x0m b_x0x g_x0x A_x0l c_x0l A_x0v c_x0v r = RR
 refine qen [(0, .agg (vals [cp b_x0m, cp b_x0x, C.slc A_x0l x0.l.length c_x0l, C.slc A_x0v x0.v.length c_x0v]))] Tryz.func19 Tryz.ntmps19 ho fun a hs => ?_
 refine qsr fun K1 hK1 => ?_
 refine qbx 0 30 [cp b_x0m, cp b_x0x, C.slc A_x0l x0.l.length c_x0l, C.slc A_x0v x0.v.length c_x0v] 1 hs fun b_2 w a hs => ?_
 refine qpe 1 [(1, pp b_2)] hs fun a hs => hK1 _ _ ?_
 clear hK1
 refine qsr fun K3 hK3 => ?_
 refine qpu 1 hs fun a hs => ?_
 refine qld 0 (cp b_x0m) hs rfl fun a hs => ?_
 obtain ⟨v_6, h_5, hm⟩ := bind_t hm
 refine Vk.step (Vk.call (some 7) 20 #[pp b_x0m] hs (by kernel_rfl) (by kernel_rfl) (by kernel_rfl) ?_)
 refine (wire_Machine_Values.ok k x0.m v_6 h_5 κ w (pt b_2 (blk (Tvisorlaw20_Pair.obj x0 b_x0m b_x0x A_x0l c_x0l A_x0v c_x0v) 30) :: bagL (Tvisorref19_M.parts κ b_x0x x0.x g_x0x) :: S) b_x0m g_x0m hs.own.f1).mono ?_
 rintro _ w ⟨Ar4x0_7, cr4x0_8, rfl, how⟩
 refine ⟨_, _, _, rfl, how, fun a hs => ?_⟩
 refine qpk 1 [1, 3] hs fun a hs => hK3 _ _ ?_
 clear hK3
 refine Vk.seq fun K9 hK9 => ?_
 refine Vk.seq fun K10 hK10 => ?_
 have hj10 : ∀ (p_34 : Bool), visorlaw20_Pair_Like.j1 k x0 v_6 p_34 = some r → ∀ (a : Act) (w : World), St 57 a w κ [(1, pp b_2), (3, .slice Ar4x0_7 v_6.length cr4x0_8), (37, .bool p_34)] (pt b_2 (blk (Tvisorlaw20_Pair.obj x0 b_x0m b_x0x A_x0l c_x0l A_x0v c_x0v) 30) :: bagL (Twire_Machine.parts b_x0m x0.m g_x0m) :: bagL (Tvisorref19_M.parts κ b_x0x x0.x g_x0x) :: rowp Ar4x0_7 cr4x0_8 23 1 (eI .u64) v_6 :: S) → K10 a w := by
  intro p_34 hm a w hs
  unfold visorlaw20_Pair_Like.j1 at hm
  refine hK10 _ _ ?_
  refine qcs (p_34) hs (fun hb => ?_) fun hb => ?_
  ·replace hm := bif_t hm hb
   refine qse 1 [(2, .bool false)] hs fun a hs => ?_
   refine wp_ret ?_
   exact qr1 (.bool false) hs rfl hRR (by cases hm; exact ⟨rfl, hs.own.f3.drop.drop⟩)
  ·replace hm := bif_f hm hb
   refine wp_skip ?_
   refine hK9 _ _ ?_
   clear hK9
   refine Vk.seq fun K36 hK36 => ?_
   refine qsk 1 [1, 3, 4] hs fun a hs => ?_
   refine wp_block ?_
   obtain ⟨r38, hl38, hm⟩ := bind_t hm
   have hx38 : r38 = Sum.inr () → ∀ (a : Act) (w : World), St 57 a w κ [] (bagL (Twire_Machine.parts b_x0m x0.m g_x0m) :: bagL (Tvisorref19_M.parts κ b_x0x x0.x g_x0x) :: S) → K36 a w := by
    intro he a w hs
    subst r38
    refine hK36 _ _ ?_
    clear hK36
    refine qse 1 [(2, .bool true)] hs fun a hs => ?_
    refine wp_ret ?_
    exact qr1 (.bool true) hs rfl hRR (by cases hm; exact ⟨rfl, hs.own⟩)
   have hret38 : ∀ v, r38 = Sum.inl v → v = r := by intro v he; subst r38; exact Option.some.inj hm
   refine Vk.loopBy (fun k (s : Int) a w => visorlaw20_Pair_Like.l1 x0 v_6 k s = some r38 ∧ St 57 a w κ [(1, pp b_2), (3, .slice Ar4x0_7 v_6.length cr4x0_8), (4, vi s)] (pt b_2 (blk (Tvisorlaw20_Pair.obj x0 b_x0m b_x0x A_x0l c_x0l A_x0v c_x0v) 30) :: bagL (Twire_Machine.parts b_x0m x0.m g_x0m) :: bagL (Tvisorref19_M.parts κ b_x0x x0.x g_x0x) :: rowp Ar4x0_7 cr4x0_8 23 1 (eI .u64) v_6 :: S)) k 0 ⟨hl38, hs.go [1, 3, 4] [0, 1, 2, 3] 4 (by kernel_rfl) (by kernel_rfl) (by kernel_rfl)⟩ (fun s a w h => by obtain ⟨h1, _⟩ := h; simp [visorlaw20_Pair_Like.l1] at h1) (fun k KL38 ih q_39 a w h => ?_)
   obtain ⟨hm, hs⟩ := h
   try dsimp only at hm hs
   rw [visorlaw20_Pair_Like.l1] at hm
   refine Vk.seq fun K40 hK40 => ?_
   refine qsk 4 [1, 3, 4, 41] hs fun a hs => ?_
   refine qcs (decide (q_39 < ((v_6.length : Nat) : Int))) hs (fun hb => ?_) fun hb => ?_
   ·replace hm := bif_t hm hb
    refine wp_skip ?_
    refine hK40 _ _ ?_
    clear hK40
    refine Vk.seq fun K42 hK42 => ?_
    refine wp_block ?_
    refine Vk.seq fun K43 hK43 => ?_
    replace hs := hs.unbagAt 2 rfl
    obtain ⟨C_48, hC_48⟩ : ∃ X0 : List HP, X0 = (pt b_x0x (blk (Tvisorref19_M.obj x0.x g_x0x.1 g_x0x.2.1 g_x0x.2.2.1 g_x0x.2.2.2.1 g_x0x.2.2.2.2.1 g_x0x.2.2.2.2.2.1 g_x0x.2.2.2.2.2.2.1 g_x0x.2.2.2.2.2.2.2) 54) :: rowp g_x0x.1 g_x0x.2.1 103 6 Tapi_Op.cells x0.x.ops :: rowp g_x0x.2.2.1 g_x0x.2.2.2.1 119 3 Tapi_Span.cells x0.x.blocks :: rowp g_x0x.2.2.2.2.1 g_x0x.2.2.2.2.2.1 23 1 (eI .u64) x0.x.val :: rdp κ g_x0x.2.2.2.2.2.2.1 g_x0x.2.2.2.2.2.2.2 1 (eI .u64) x0.x.tape.l :: pt b_2 (blk (Tvisorlaw20_Pair.obj x0 b_x0m b_x0x A_x0l c_x0l A_x0v c_x0v) 30) :: bagL (Twire_Machine.parts b_x0m x0.m g_x0m) :: rowp Ar4x0_7 cr4x0_8 23 1 (eI .u64) v_6 :: S) := ⟨_, rfl⟩
    refine qdr 13 κ C_48 hs fun w hs hqC_48 => ?_
    have hcz : Ow κ w (pt b_x0x (blk (Tvisorref19_M.obj x0.x g_x0x.1 g_x0x.2.1 g_x0x.2.2.1 g_x0x.2.2.2.1 g_x0x.2.2.2.2.1 g_x0x.2.2.2.2.2.1 g_x0x.2.2.2.2.2.2.1 g_x0x.2.2.2.2.2.2.2) 54) :: rowp g_x0x.1 g_x0x.2.1 103 6 Tapi_Op.cells x0.x.ops :: rowp g_x0x.2.2.1 g_x0x.2.2.2.1 119 3 Tapi_Span.cells x0.x.blocks :: rowp g_x0x.2.2.2.2.1 g_x0x.2.2.2.2.2.1 23 1 (eI .u64) x0.x.val :: rdp κ g_x0x.2.2.2.2.2.2.1 g_x0x.2.2.2.2.2.2.2 1 (eI .u64) x0.x.tape.l :: pt b_2 (blk (Tvisorlaw20_Pair.obj x0 b_x0m b_x0x A_x0l c_x0l A_x0v c_x0v) 30) :: bagL (Twire_Machine.parts b_x0m x0.m g_x0m) :: rowp Ar4x0_7 cr4x0_8 23 1 (eI .u64) v_6 :: S) := hs.own
    have hcl : Ow κ w C_48 := by rw [hC_48]; exact hcz
    refine qdp (fuel := 9) [0, 1, 4, 9] hs hcl hqC_48 fun a hs => ?_
    obtain ⟨h_49, hm⟩ := ite_t hm
    obtain ⟨e_52, h_50, hm⟩ := bind_t hm
    obtain ⟨b_53, o_54, hA_55, h_51⟩ := Sl.elem (Ow.rowSl 0 hcz.drop.drop.drop.drop.drop.drop.drop rfl) h_50
    refine qdt 2 (.pointer (some ⟨b_53, o_54 + q_39.toNat * 1, none⟩)) (op := (.indexAddr 24 (.tmp 44) (.tmp 45))) hs hcl hqC_48 (fun w hw o ho => by rw [hC_48] at hw; exact run_idxSlc (k := .i64) ho (cap := cr4x0_8) (len := v_6.length) ((congrArg (fun A => Value.slice A (v_6.length) (cr4x0_8)) hA_55) ▸ (by kernel_rfl)) (by kernel_rfl) (by kernel_rfl) (idx_ok h_49 h_50) _) fun a hs => ?_
    refine qdt 3 (vw e_52) (op := (.load 23 (.tmp 46))) hs hcl hqC_48 (fun w hw o ho => by rw [hC_48] at hw; exact run_load1 (c := cw e_52) ho (by kernel_rfl) (by kernel_rfl) (fun w ho => h_51 w ho 0 _ rfl) _ hw.drop.drop.drop.drop.drop.drop.drop) fun a hs => ?_
    refine qdl 5 5 (cp b_x0x) hs hcl hqC_48 hC_48 rfl fun a hs => ?_
    refine qdp (fuel := 4) [6, 7] hs hcl hqC_48 fun a hs => ?_
    refine qdl 8 0 (C.slc g_x0x.2.2.2.2.1 x0.x.val.length g_x0x.2.2.2.2.2.1) hs hcl hqC_48 hC_48 rfl fun a hs => ?_
    obtain ⟨h_56, hm⟩ := ite_t hm
    obtain ⟨e_59, h_57, hm⟩ := bind_t hm
    obtain ⟨b_60, o_61, hA_62, h_58⟩ := Sl.elem (Ow.rowSl 0 (Ow.to (S' := rowp g_x0x.2.2.2.2.1 g_x0x.2.2.2.2.2.1 23 1 (eI .u64) x0.x.val :: S) hcz [3] 8 (by kernel_rfl) (by kernel_rfl)) rfl) h_57
    refine qdt 10 (.pointer (some ⟨b_60, o_61 + q_39.toNat * 1, none⟩)) (op := (.indexAddr 24 (.tmp 52) (.tmp 53))) hs hcl hqC_48 (fun w hw o ho => by rw [hC_48] at hw; exact run_idxSlc (k := .i64) ho (cap := g_x0x.2.2.2.2.2.1) (len := x0.x.val.length) ((congrArg (fun A => Value.slice A (x0.x.val.length) (g_x0x.2.2.2.2.2.1)) hA_62) ▸ (by kernel_rfl)) (by kernel_rfl) (by kernel_rfl) (idx_ok h_56 h_57) _) fun a hs => ?_
    refine qdt 11 (vw e_59) (op := (.load 23 (.tmp 54))) hs hcl hqC_48 (fun w hw o ho => by rw [hC_48] at hw; exact run_load1 (c := cw e_59) ho (by kernel_rfl) (by kernel_rfl) (fun w ho => h_58 w ho 0 _ rfl) _ (Ow.to (S' := rowp g_x0x.2.2.2.2.1 g_x0x.2.2.2.2.2.1 23 1 (eI .u64) x0.x.val :: S) hw [3] 8 (by kernel_rfl) (by kernel_rfl))) fun a hs => ?_
    refine qdp (fuel := 0) [12] hs hcl hqC_48 fun a hs => ?_
    replace hs := hs.pick [1, 3, 4, 56] (L' := [(1, pp b_2), (3, .slice Ar4x0_7 v_6.length cr4x0_8), (4, vi q_39), (56, .bool (e_52 != e_59))]) (by kernel_rfl)
    refine Vk.dDone (by kernel_rfl) ?_
    refine hK43 _ _ ?_
    clear hK43
    refine qcs (e_52 != e_59) hs (fun hb => ?_) fun hb => ?_
    ·replace hm := bif_t hm hb
     refine qse 1 [(2, .bool false)] hs fun a hs => ?_
     refine wp_ret ?_
     replace hs := hs.bagG (l := Tvisorref19_M.parts κ b_x0x x0.x g_x0x) (S' := pt b_2 (blk (Tvisorlaw20_Pair.obj x0 b_x0m b_x0x A_x0l c_x0l A_x0v c_x0v) 30) :: bagL (Twire_Machine.parts b_x0m x0.m g_x0m) :: rowp Ar4x0_7 cr4x0_8 23 1 (eI .u64) v_6 :: S) hs.own
     exact Vk.ret1 (P := Tryz.prog) (fn := Tryz.f19) (R := RR) (.bool false) hs rfl (by kernel_rfl) (by obtain rfl := hret38 _ ((Option.some.inj hm).symm); subst hRR; exact ⟨rfl, hs.own.f3.drop.f1.drop.f1⟩)
    ·replace hm := bif_f hm hb
     refine wp_skip ?_
     refine hK42 _ _ ?_
     clear hK42
     refine Vk.region ?_
     refine qpe 3 [(1, pp b_2), (3, .slice Ar4x0_7 v_6.length cr4x0_8), (4, vi (IntKind.i64.wrap (q_39 + 1)))] hs fun a hs => ?_
     replace hs := hs.bagG (l := Tvisorref19_M.parts κ b_x0x x0.x g_x0x) (S' := pt b_2 (blk (Tvisorlaw20_Pair.obj x0 b_x0m b_x0x A_x0l c_x0l A_x0v c_x0v) 30) :: bagL (Twire_Machine.parts b_x0m x0.m g_x0m) :: rowp Ar4x0_7 cr4x0_8 23 1 (eI .u64) v_6 :: S) hs.own
     refine ih (IntKind.i64.wrap (q_39 + 1)) _ _ ⟨hm, hs.go [1, 3, 4] [1, 2, 0, 3] 4 (by kernel_rfl) (by kernel_rfl) (by kernel_rfl)⟩
   ·replace hm := bif_f hm hb
    refine wp_exit ?_
    exact hx38 (Option.some.inj hm).symm _ _ (hs.go [] [1, 2] 4 (by kernel_rfl) (by kernel_rfl) (by kernel_rfl))
 replace hs := hs.unbagAt 3 rfl
 obtain ⟨C_15, hC_15⟩ := qC hs.own
 refine qdr 30 κ C_15 hs fun w hs hqC_15 => ?_
 have hcl := qO hC_15 hs.own
 refine qdp (fuel := 27) [0, 1, 2] hs hcl hqC_15 fun a hs => ?_
 refine qdl 3 7 (cp b_x0x) hs hcl hqC_15 hC_15 rfl fun a hs => ?_
 refine qdp (fuel := 24) [4, 5] hs hcl hqC_15 fun a hs => ?_
 refine qdl 6 0 (C.slc g_x0x.2.2.2.2.1 x0.x.val.length g_x0x.2.2.2.2.2.1) hs hcl hqC_15 hC_15 rfl fun a hs => ?_
 refine qdp (fuel := 20) [7, 8, 9] hs hcl hqC_15 fun a hs => ?_
 rcases Bool.eq_false_or_eq_true (((v_6.length : Nat) : Int) != ((x0.x.val.length : Nat) : Int)) with hb | hb
 ·replace hm := bif_t hm hb
  replace hs := hs.known (t := 17) hb (by kernel_rfl)
  refine qdp (fuel := 0) [10, 11, 12, 13, 14, 15, 16, 17, 18, 19, 20, 21, 22, 23, 24, 25, 26, 27, 28, 29] hs hcl hqC_15 fun a hs => ?_
  replace hs := hs.pick [1, 3, 37] (L' := [(1, pp b_2), (3, .slice Ar4x0_7 v_6.length cr4x0_8), (37, .bool true)]) (by kernel_rfl)
  refine Vk.dDone (by kernel_rfl) ?_
  replace hs := hs.bagG (l := Tvisorref19_M.parts κ b_x0x x0.x g_x0x) (S' := rowp Ar4x0_7 cr4x0_8 23 1 (eI .u64) v_6 :: bagL (Twire_Machine.parts b_x0m x0.m g_x0m) :: pt b_2 (blk (Tvisorlaw20_Pair.obj x0 b_x0m b_x0x A_x0l c_x0l A_x0v c_x0v) 30) :: S) hs.own
  exact hj10 true hm _ _ (hs.go [1, 3, 37] [3, 2, 0, 1] 4 (by kernel_rfl) (by kernel_rfl) (by kernel_rfl))
 ·replace hm := bif_f hm hb
  replace hs := hs.known (t := 17) hb (by kernel_rfl)
  refine qdp (fuel := 18) [10, 13] hs hcl hqC_15 fun a hs => ?_
  refine qdl 11 7 (cp b_x0m) hs hcl hqC_15 hC_15 rfl fun a hs => ?_
  refine qdl 14 7 (cp b_x0x) hs hcl hqC_15 hC_15 rfl fun a hs => ?_
  refine qdp (fuel := 14) [15, 16] hs hcl hqC_15 fun a hs => ?_
  refine qdl 17 0 (ci x0.x.e) hs hcl hqC_15 hC_15 rfl fun a hs => ?_
  obtain ⟨v_18, h_17, hm⟩ := bind_t hm
  refine qdc 12 (wire_Machine_Err.ok _ _ _ h_17 _ _ _ b_x0m g_x0m hs.own.f6) hs fun w a hs => ?_
  replace hcl : Ow κ w C_15 := by rw [hC_15]; exact (hs.own.too [1, 2, 3, 4, 5, 6, 0, 7] 8)
  refine ⟨fun _ => hcl, ?_⟩
  refine qdp (fuel := 9) [18, 19, 20] hs hcl hqC_15 fun a hs => ?_
  rcases Bool.eq_false_or_eq_true (v_18 != x0.x.e) with hb | hb
  ·replace hm := bif_t hm hb
   replace hs := hs.known (t := 28) hb (by kernel_rfl)
   refine qdp (fuel := 0) [21, 22, 23, 24, 25, 26, 27, 28, 29] hs hcl hqC_15 fun a hs => ?_
   replace hs := hs.pick [1, 3, 37] (L' := [(1, pp b_2), (3, .slice Ar4x0_7 v_6.length cr4x0_8), (37, .bool true)]) (by kernel_rfl)
   refine Vk.dDone (by kernel_rfl) ?_
   replace hs := hs.bagG (l := Tvisorref19_M.parts κ b_x0x x0.x g_x0x) (S' := bagL (Twire_Machine.parts b_x0m x0.m g_x0m) :: rowp Ar4x0_7 cr4x0_8 23 1 (eI .u64) v_6 :: pt b_2 (blk (Tvisorlaw20_Pair.obj x0 b_x0m b_x0x A_x0l c_x0l A_x0v c_x0v) 30) :: S) hs.own.f5.f5.f5.f5.f5
   exact hj10 true hm _ _ (hs.go [1, 3, 37] [3, 1, 0, 2] 4 (by kernel_rfl) (by kernel_rfl) (by kernel_rfl))
  ·replace hm := bif_f hm hb
   replace hs := hs.known (t := 28) hb (by kernel_rfl)
   refine qdp (fuel := 7) [21, 24] hs hcl hqC_15 fun a hs => ?_
   refine qdl 22 7 (cp b_x0m) hs hcl hqC_15 hC_15 rfl fun a hs => ?_
   refine qdl 25 7 (cp b_x0x) hs hcl hqC_15 hC_15 rfl fun a hs => ?_
   obtain ⟨v_21, h_20, hm⟩ := bind_t hm
   refine Vk.dOnly (i := 23) (by kernel_rfl) (Vk.call (some 31) 69 #[pp b_x0m] hs (by kernel_rfl) (by kernel_rfl) (by kernel_rfl) ?_)
   refine (wire_Machine_Trace.ok k x0.m v_21 h_20 κ w (pt b_x0x (blk (Tvisorref19_M.obj x0.x g_x0x.1 g_x0x.2.1 g_x0x.2.2.1 g_x0x.2.2.2.1 g_x0x.2.2.2.2.1 g_x0x.2.2.2.2.2.1 g_x0x.2.2.2.2.2.2.1 g_x0x.2.2.2.2.2.2.2) 54) :: rowp g_x0x.1 g_x0x.2.1 103 6 Tapi_Op.cells x0.x.ops :: rowp g_x0x.2.2.1 g_x0x.2.2.2.1 119 3 Tapi_Span.cells x0.x.blocks :: rowp g_x0x.2.2.2.2.1 g_x0x.2.2.2.2.2.1 23 1 (eI .u64) x0.x.val :: rdp κ g_x0x.2.2.2.2.2.2.1 g_x0x.2.2.2.2.2.2.2 1 (eI .u64) x0.x.tape.l :: rowp Ar4x0_7 cr4x0_8 23 1 (eI .u64) v_6 :: pt b_2 (blk (Tvisorlaw20_Pair.obj x0 b_x0m b_x0x A_x0l c_x0l A_x0v c_x0v) 30) :: S) b_x0m g_x0m hs.own).mono ?_
   rintro _ w ⟨Ar19x0ops_22, cr19x0ops_23, Ar19x0blocks_24, cr19x0blocks_25, rfl, how⟩
   refine ⟨_, _, _, rfl, how, fun a hs => ?_⟩
   replace hcl : Ow κ w C_15 := by rw [hC_15]; exact (hs.own.too [3, 4, 5, 6, 7, 8, 2, 9] 10)
   refine ⟨fun _ => hcl, ?_⟩
   refine Vk.dOnly (i := 26) (by kernel_rfl) (Vk.call (some 34) 70 #[pp b_x0x] hs (by kernel_rfl) (by kernel_rfl) (by kernel_rfl) ?_)
   refine Vk.enterI [(0, pp b_x0x)] Tryz.func70 rfl Tryz.ntmps70 (by kernel_rfl) (Nat.le_of_ble_eq_true (by kernel_rfl)) hs.own fun KR26 hKR26 hKP26 a hs => ?_
   refine qsr fun K27 hK27 => ?_
   refine qal 91 [ci 0, C.slc none 0 0, C.slc none 0 0] 2 hs fun b_28 w a hs => ?_
   refine qpe 0 [(0, pp b_x0x), (2, pp b_28)] hs fun a hs => hK27 _ _ ?_
   clear hK27
   refine Vk.seq fun K29 hK29 => ?_
   obtain ⟨C_30, hC_30⟩ := qC hs.own
   refine qdr 13 κ C_30 hs fun w hs hqC_30 => ?_
   have hcl := qO hC_30 hs.own
   refine qdp (fuel := 5) [0, 1, 2, 4, 5, 6, 8, 9, 10] hs hcl hqC_30 fun a hs => ?_
   refine qdl 3 4 (ci x0.x.n) hs hcl hqC_30 hC_30 rfl fun a hs => ?_
   refine qdl 7 4 (C.slc g_x0x.1 x0.x.ops.length g_x0x.2.1) hs hcl hqC_30 hC_30 rfl fun a hs => ?_
   refine qdl 11 4 (C.slc g_x0x.2.2.1 x0.x.blocks.length g_x0x.2.2.2.1) hs hcl hqC_30 hC_30 rfl fun a hs => ?_
   refine qdp (fuel := 1) [12] hs hcl hqC_30 fun a hs => ?_
   refine qsA 13 0 [ci x0.x.n, C.slc g_x0x.1 x0.x.ops.length g_x0x.2.1, C.slc g_x0x.2.2.1 x0.x.blocks.length g_x0x.2.2.2.1] hs rfl rfl rfl fun a w hs => ?_
   refine ⟨fun h => absurd h (by decide), ?_⟩
   replace hs := hs.pick [2] (L' := [(2, pp b_28)]) (by kernel_rfl)
   refine Vk.dDone (by kernel_rfl) ?_
   refine hK29 _ _ ?_
   clear hK29
   refine wp_ret ?_
   refine hKP26 _ _ ?_
   refine hKR26 _ _ ?_
   refine Vk.retC (P := Tryz.prog) (fn := Tryz.f70) [ci x0.x.n, C.slc g_x0x.1 x0.x.ops.length g_x0x.2.1, C.slc g_x0x.2.2.1 x0.x.blocks.length g_x0x.2.2.2.1] hs rfl (by kernel_rfl) (sz := 3) (by kernel_rfl) rfl (CellsAt.all 0 rfl) ⟨_, _, _, rfl, hs.own, fun a hs => ?_⟩
   replace hcl : Ow κ w C_15 := by rw [hC_15]; exact (hs.own.too [4, 5, 6, 7, 8, 9, 3, 10] 11)
   refine ⟨fun _ => hcl, ?_⟩
   obtain ⟨v_33, h_32, hm⟩ := bind_t hm
   refine qdc 27 (visorref18_Same.ok _ _ _ _ h_32 _ _ (pt b_28 (blk [ci x0.x.n, C.slc g_x0x.1 x0.x.ops.length g_x0x.2.1, C.slc g_x0x.2.2.1 x0.x.blocks.length g_x0x.2.2.2.1] 91) :: rowp Ar19x0ops_22 cr19x0ops_23 103 6 Tapi_Op.cells v_21.ops :: rowp Ar19x0blocks_24 cr19x0blocks_25 119 3 Tapi_Span.cells v_21.blocks :: bagL (Twire_Machine.parts b_x0m x0.m g_x0m) :: pt b_x0x (blk (Tvisorref19_M.obj x0.x g_x0x.1 g_x0x.2.1 g_x0x.2.2.1 g_x0x.2.2.2.1 g_x0x.2.2.2.2.1 g_x0x.2.2.2.2.2.1 g_x0x.2.2.2.2.2.2.1 g_x0x.2.2.2.2.2.2.2) 54) :: rowp g_x0x.1 g_x0x.2.1 103 6 Tapi_Op.cells x0.x.ops :: rowp g_x0x.2.2.1 g_x0x.2.2.2.1 119 3 Tapi_Span.cells x0.x.blocks :: rowp g_x0x.2.2.2.2.1 g_x0x.2.2.2.2.2.1 23 1 (eI .u64) x0.x.val :: rdp κ g_x0x.2.2.2.2.2.2.1 g_x0x.2.2.2.2.2.2.2 1 (eI .u64) x0.x.tape.l :: rowp Ar4x0_7 cr4x0_8 23 1 (eI .u64) v_6 :: pt b_2 (blk (Tvisorlaw20_Pair.obj x0 b_x0m b_x0x A_x0l c_x0l A_x0v c_x0v) 30) :: S) Ar19x0ops_22 cr19x0ops_23 (Sl.lift (fun w ho => (Ow.to (S' := rowp Ar19x0ops_22 cr19x0ops_23 103 6 Tapi_Op.cells v_21.ops :: S) ho [1] 11 (by kernel_rfl) (by kernel_rfl))) (Ow.rowSl 0 (Ow.to (S' := rowp Ar19x0ops_22 cr19x0ops_23 103 6 Tapi_Op.cells v_21.ops :: S) hs.own [1] 11 (by kernel_rfl) (by kernel_rfl)) rfl)) Ar19x0blocks_24 cr19x0blocks_25 (Sl.lift (fun w ho => (Ow.to (S' := rowp Ar19x0blocks_24 cr19x0blocks_25 119 3 Tapi_Span.cells v_21.blocks :: S) ho [2] 11 (by kernel_rfl) (by kernel_rfl))) (Ow.rowSl 0 (Ow.to (S' := rowp Ar19x0blocks_24 cr19x0blocks_25 119 3 Tapi_Span.cells v_21.blocks :: S) hs.own [2] 11 (by kernel_rfl) (by kernel_rfl)) rfl)) g_x0x.1 g_x0x.2.1 (Sl.lift (fun w ho => (Ow.to (S' := rowp g_x0x.1 g_x0x.2.1 103 6 Tapi_Op.cells x0.x.ops :: S) ho [5] 11 (by kernel_rfl) (by kernel_rfl))) (Ow.rowSl 0 (Ow.to (S' := rowp g_x0x.1 g_x0x.2.1 103 6 Tapi_Op.cells x0.x.ops :: S) hs.own [5] 11 (by kernel_rfl) (by kernel_rfl)) rfl)) g_x0x.2.2.1 g_x0x.2.2.2.1 (Sl.lift (fun w ho => (Ow.to (S' := rowp g_x0x.2.2.1 g_x0x.2.2.2.1 119 3 Tapi_Span.cells x0.x.blocks :: S) ho [6] 11 (by kernel_rfl) (by kernel_rfl))) (Ow.rowSl 0 (Ow.to (S' := rowp g_x0x.2.2.1 g_x0x.2.2.2.1 119 3 Tapi_Span.cells x0.x.blocks :: S) hs.own [6] 11 (by kernel_rfl) (by kernel_rfl)) rfl)) hs.own) hs fun w a hs => ?_
   replace hcl : Ow κ w C_15 := by rw [hC_15]; exact (hs.own.too [4, 5, 6, 7, 8, 9, 3, 10] 11)
   refine ⟨fun _ => hcl, ?_⟩
   refine qdp (fuel := 0) [28, 29] hs hcl hqC_15 fun a hs => ?_
   replace hs := hs.pick [1, 3, 37] (L' := [(1, pp b_2), (3, .slice Ar4x0_7 v_6.length cr4x0_8), (37, .bool (!v_33))]) (by kernel_rfl)
   refine Vk.dDone (by kernel_rfl) ?_
   replace hs := hs.bagG (l := Tvisorref19_M.parts κ b_x0x x0.x g_x0x) (S' := pt b_28 (blk [ci x0.x.n, C.slc g_x0x.1 x0.x.ops.length g_x0x.2.1, C.slc g_x0x.2.2.1 x0.x.blocks.length g_x0x.2.2.2.1] 91) :: rowp Ar19x0ops_22 cr19x0ops_23 103 6 Tapi_Op.cells v_21.ops :: rowp Ar19x0blocks_24 cr19x0blocks_25 119 3 Tapi_Span.cells v_21.blocks :: bagL (Twire_Machine.parts b_x0m x0.m g_x0m) :: rowp Ar4x0_7 cr4x0_8 23 1 (eI .u64) v_6 :: pt b_2 (blk (Tvisorlaw20_Pair.obj x0 b_x0m b_x0x A_x0l c_x0l A_x0v c_x0v) 30) :: S) hs.own.f8.f8.f8.f8.f8
   exact hj10 (!v_33) hm _ _ (hs.go [1, 3, 37] [6, 4, 0, 5] 7 (by kernel_rfl) (by kernel_rfl) (by kernel_rfl))


def share_Value.j1 (k : Nat) (rec7 : Int → Int → Option (Int)) (q_9 : Int) (p_26 : Int) : Option (Int) := rec7 p_26 (IntKind.i64.wrap (q_9 + 1))
def share_Value.l1 (x0 : List Int) (x1 : Cells) : Nat → Int → Int → Option (Int)
 | 0, _, _ => none
 | k + 1, q_8, q_9 => (bif decide (q_9 < 3) then (if 0 ≤ q_9 ∧ q_9 < 3 then (getI .i64 x1 q_9.toNat).bind fun v_16 => (bif (decide (v_16 ≥ 0)) && (decide (v_16 < ((x0.length : Nat) : Int))) then (if 0 ≤ v_16 then (x0[v_16.toNat]?).bind fun e_22 => share_Value.j1 k (share_Value.l1 x0 x1 k) q_9 (bxor .u64 q_8 e_22) else none) else share_Value.j1 k (share_Value.l1 x0 x1 k) q_9 q_8) else none) else some q_8)
abbrev share_Value.R (κ : Ctx) (S : List HP) (x0 : List Int) (x1 : Cells) (A_x0 : Option Addr) (c_x0 : Nat) (r : Int) : Ending → World → Prop := fun e w' => e = .returned (vw r) ∧ Ow κ w' (S)
def share_Value.m (k : Nat) (x0 : List Int) (x1 : Cells) : Option Int := (if x1.length = 3 then (share_Value.l1 x0 x1 k 0 0).bind fun p_27 => some p_27 else none)

set_option maxRecDepth 100000 in
set_option maxHeartbeats 4000000 in
theorem share_Value.ok (k : Nat) (x0 : List Int) (x1 : Cells) (r : Int) (hm : share_Value.m k x0 x1 = some r) (κ : Ctx) (w : World) (S : List HP) (A_x0 : Option Addr) (c_x0 : Nat) (hx_x0 : Sl κ S A_x0 c_x0 1 (eI .u64) x0) (ho : Ow κ w (S)) :
  Calls Tryz.prog 42 #[.slice A_x0 x0.length c_x0, .agg (vals x1)] w (share_Value.R κ S x0 x1 A_x0 c_x0 r) := by
 unfold share_Value.m at hm
 generalize hRR : share_Value.R κ S x0 x1 A_x0 c_x0 r = RR
 refine qen [(0, .slice A_x0 x0.length c_x0), (1, .agg (vals x1))] Tryz.func42 Tryz.ntmps42 ho fun a hs => ?_
 refine qsr fun K1 hK1 => ?_
 refine qbx 1 35 x1 3 hs fun b_2 w a hs => ?_
 refine qpk 1 [0, 3] hs fun a hs => hK1 _ _ ?_
 clear hK1
 refine qsk 1 [0, 3, 5] hs fun a hs => ?_
 refine Vk.seq fun K4 hK4 => ?_
 refine qsr fun K5 hK5 => ?_
 refine qpu 1 hs fun a hs => ?_
 obtain ⟨h_6, hm⟩ := ite_t hm
 refine qlw 0 hs rfl h_6 fun a hs => ?_
 refine qpk 1 [0, 5, 9, 10] hs fun a hs => hK5 _ _ ?_
 clear hK5
 refine wp_block ?_
 obtain ⟨r7, hl7, hm⟩ := bind_t hm
 have hx7 : ∀ (p_27 : Int), r7 = p_27 → ∀ (a : Act) (w : World), St 29 a w κ [(5, vw p_27)] (S) → K4 a w := by
  intro p_27 he a w hs
  subst r7
  refine hK4 _ _ ?_
  clear hK4
  refine qse 2 [(4, vw p_27)] hs fun a hs => ?_
  refine wp_ret ?_
  exact qr1 (vw p_27) hs rfl hRR (by cases hm; exact ⟨rfl, hs.own⟩)
 refine Vk.loopBy (fun k (s : Int × Int) a w => share_Value.l1 x0 x1 k s.1 s.2 = some r7 ∧ St 29 a w κ [(0, .slice A_x0 x0.length c_x0), (5, vw s.1), (9, .agg (vals x1)), (10, vi s.2)] (S)) k (0, 0) ⟨hl7, hs.go [0, 5, 9, 10] [] 1 (by kernel_rfl) (by kernel_rfl) (by kernel_rfl)⟩ (fun s a w h => by obtain ⟨h1, _⟩ := h; simp [share_Value.l1] at h1) (fun k KL7 ih s a w h => ?_)
 obtain ⟨q_8, q_9⟩ := s
 obtain ⟨hm, hs⟩ := h
 try dsimp only at hm hs
 rw [share_Value.l1] at hm
 refine qsk 1 [0, 5, 9, 10, 11] hs fun a hs => ?_
 refine Vk.seq fun K11 hK11 => ?_
 refine qcs (decide (q_9 < 3)) hs (fun hb => ?_) fun hb => ?_
 ·replace hm := bif_t hm hb
  refine wp_skip ?_
  refine hK11 _ _ ?_
  clear hK11
  refine Vk.seq fun K12 hK12 => ?_
  have hj12 : ∀ (p_26 : Int), share_Value.j1 k (share_Value.l1 x0 x1 k) q_9 p_26 = some r7 → ∀ (a : Act) (w : World), St 29 a w κ [(0, .slice A_x0 x0.length c_x0), (5, vw p_26), (9, .agg (vals x1)), (10, vi q_9)] (S) → K12 a w := by
   intro p_26 hm a w hs
   unfold share_Value.j1 at hm
   refine hK12 _ _ ?_
   refine Vk.region ?_
   refine qpk 2 [0, 5, 9, 10] hs fun a hs => ?_
   refine ih (p_26, (IntKind.i64.wrap (q_9 + 1))) _ _ ⟨hm, hs.go [0, 5, 9, 10] [] 0 (by kernel_rfl) (by kernel_rfl) (by kernel_rfl)⟩
  refine wp_block ?_
  refine qsr fun K13 hK13 => ?_
  obtain ⟨h_14, hm⟩ := ite_t hm
  obtain ⟨v_16, h_15, hm⟩ := bind_t hm
  refine qva (vi v_16) (op := (.index 33 (.tmp 9) (.tmp 10))) hs (fun o ho => run_idxVal (k := .i64) (cs := x1) (c := ci v_16) ho (by kernel_rfl) (by kernel_rfl) (len := 3) (et := 3) (by kernel_rfl) (by kernel_rfl) (by kernel_rfl) (by kernel_rfl) h_14 (getI_some h_15) _) fun a hs => ?_
  refine qpk 1 [0, 5, 7, 9, 10] hs fun a hs => hK13 _ _ ?_
  clear hK13
  refine qsr fun K17 hK17 => ?_
  refine qpu 3 hs fun a hs => ?_
  refine qsc 15 5 hs fun a hs => ?_
  refine qpk 0 [0, 5, 7, 9, 10, 20] hs fun a hs => hK17 _ _ ?_
  clear hK17
  refine qcs ((decide (v_16 ≥ 0)) && (decide (v_16 < ((x0.length : Nat) : Int)))) hs (fun hb => ?_) fun hb => ?_
  ·replace hm := bif_t hm hb
   refine Vk.region ?_
   refine qpu 3 hs fun a hs => ?_
   obtain ⟨h_19, hm⟩ := ite_t hm
   obtain ⟨e_22, h_20, hm⟩ := bind_t hm
   obtain ⟨b_23, o_24, hA_25, h_21⟩ := Sl.elem hx_x0 h_20
   refine qva (.pointer (some ⟨b_23, o_24 + v_16.toNat * 1, none⟩)) (op := (.indexAddr 24 (.tmp 22) (.tmp 23))) hs (fun o ho => run_idxSlc (k := .i64) ho (cap := c_x0) (len := x0.length) ((congrArg (fun A => Value.slice A (x0.length) (c_x0)) hA_25) ▸ (by kernel_rfl)) (by kernel_rfl) (by kernel_rfl) (idx_ok h_19 h_20) _) fun a hs => ?_
   refine qva (vw e_22) (op := (.load 23 (.tmp 24))) hs (fun o ho => run_load1 (c := cw e_22) ho (by kernel_rfl) (by kernel_rfl) (fun w ho => h_21 w ho 0 _ rfl) _ hs.own) fun a hs => ?_
   refine qpe 2 [(0, .slice A_x0 x0.length c_x0), (5, vw (bxor .u64 q_8 e_22)), (9, .agg (vals x1)), (10, vi q_9)] hs fun a hs => ?_
   exact hj12 (bxor .u64 q_8 e_22) hm _ _ (hs.go [0, 5, 9, 10] [] 0 (by kernel_rfl) (by kernel_rfl) (by kernel_rfl))
  ·replace hm := bif_f hm hb
   refine wp_skip ?_
   exact hj12 q_8 hm _ _ (hs.go [0, 5, 9, 10] [] 0 (by kernel_rfl) (by kernel_rfl) (by kernel_rfl))
 ·replace hm := bif_f hm hb
  refine wp_exit ?_
  exact hx7 q_8 (Option.some.inj hm).symm _ _ (hs.go [5] [] 0 (by kernel_rfl) (by kernel_rfl) (by kernel_rfl))


def slice_Value.l1 (x0 : List Int) (x1 : Cells) : Nat → Cells → Int → Option (Cells)
 | 0, _, _ => none
 | k + 1, q_10, q_11 => (bif decide (q_11 < 8) then (if 0 ≤ q_11 ∧ q_11 < 8 then (part? x1 (q_11.toNat * 3) 3).bind fun v_18 => (share_Value.m k x0 v_18).bind fun v_22 => (if 0 ≤ q_11 ∧ q_11 < 8 then (if 0 + q_11.toNat * 1 < q_10.length then slice_Value.l1 x0 x1 k (q_10.set (0 + q_11.toNat * 1) (cw v_22)) (IntKind.i64.wrap (q_11 + 1)) else none) else none) else none) else some q_10)
abbrev slice_Value.R (κ : Ctx) (S : List HP) (x0 : List Int) (x1 : Cells) (A_x0 : Option Addr) (c_x0 : Nat) (r : Cells) : Ending → World → Prop := fun e w' => e = .returned (.agg (vals r)) ∧ Ow κ w' (S)
def slice_Value.m (k : Nat) (x0 : List Int) (x1 : Cells) : Option Cells := (if x1.length = 24 then (slice_Value.l1 x0 x1 k [cw 0, cw 0, cw 0, cw 0, cw 0, cw 0, cw 0, cw 0] 0).bind fun p_25 => (if p_25.length = 8 then some p_25 else none) else none)

set_option maxRecDepth 100000 in
set_option maxHeartbeats 4000000 in
theorem slice_Value.ok (k : Nat) (x0 : List Int) (x1 : Cells) (r : Cells) (hm : slice_Value.m k x0 x1 = some r) (κ : Ctx) (w : World) (S : List HP) (A_x0 : Option Addr) (c_x0 : Nat) (hx_x0 : Sl κ S A_x0 c_x0 1 (eI .u64) x0) (ho : Ow κ w (S)) :
  Calls Tryz.prog 21 #[.slice A_x0 x0.length c_x0, .agg (vals x1)] w (slice_Value.R κ S x0 x1 A_x0 c_x0 r) := by
 unfold slice_Value.m at hm
 generalize hRR : slice_Value.R κ S x0 x1 A_x0 c_x0 r = RR
 refine qen [(0, .slice A_x0 x0.length c_x0), (1, .agg (vals x1))] Tryz.func21 Tryz.ntmps21 ho fun a hs => ?_
 refine qsr fun K1 hK1 => ?_
 refine qbx 1 37 x1 3 hs fun b_2 w a hs => ?_
 refine qal 55 [cw 0, cw 0, cw 0, cw 0, cw 0, cw 0, cw 0, cw 0] 4 hs fun b_3 w a hs => ?_
 refine qpk 0 [0, 3, 4] hs fun a hs => hK1 _ _ ?_
 clear hK1
 refine qsr fun K4 hK4 => ?_
 refine qal 55 [cw 0, cw 0, cw 0, cw 0, cw 0, cw 0, cw 0, cw 0] 5 hs fun b_5 w a hs => ?_
 refine qpk 0 [0, 3, 4, 5] hs fun a hs => hK4 _ _ ?_
 clear hK4
 refine Vk.seq fun K6 hK6 => ?_
 refine qsr fun K7 hK7 => ?_
 obtain ⟨h_8, hm⟩ := ite_t hm
 refine qlw 2 hs rfl h_8 fun a hs => ?_
 refine qpk 1 [0, 4, 5, 8, 9] hs fun a hs => hK7 _ _ ?_
 clear hK7
 refine wp_block ?_
 obtain ⟨r9, hl9, hm⟩ := bind_t hm
 have hx9 : ∀ (p_25 : Cells), r9 = p_25 → ∀ (a : Act) (w : World), St 20 a w κ [(4, pp b_3), (5, pp b_5)] (pt b_3 (blk [cw 0, cw 0, cw 0, cw 0, cw 0, cw 0, cw 0, cw 0] 55) :: pt b_5 (blk p_25 55) :: S) → K6 a w := by
  intro p_25 he a w hs
  subst r9
  refine hK6 _ _ ?_
  clear hK6
  refine qsr fun K28 hK28 => ?_
  obtain ⟨h_29, hm⟩ := ite_t hm
  refine qlw 1 hs rfl h_29 fun a hs => ?_
  refine qsb 0 p_25 hs rfl h_29 rfl fun a w hs => ?_
  refine qpe 0 [(4, pp b_3)] hs fun a hs => hK28 _ _ ?_
  clear hK28
  refine wp_ret ?_
  exact Vk.retC p_25 hs rfl (by kernel_rfl) (sz := 8) (by kernel_rfl) h_29 (CellsAt.all 0 rfl) (hRR ▸ by cases hm; exact ⟨rfl, hs.own.f1.drop.drop⟩)
 refine Vk.loopBy (fun k (s : Cells × Int) a w => slice_Value.l1 x0 x1 k s.1 s.2 = some r9 ∧ St 20 a w κ [(0, .slice A_x0 x0.length c_x0), (4, pp b_3), (5, pp b_5), (8, .agg (vals x1)), (9, vi s.2)] (pt b_3 (blk [cw 0, cw 0, cw 0, cw 0, cw 0, cw 0, cw 0, cw 0] 55) :: pt b_5 (blk s.1 55) :: S)) k ([cw 0, cw 0, cw 0, cw 0, cw 0, cw 0, cw 0, cw 0], 0) ⟨hl9, hs.go [0, 4, 5, 8, 9] [1, 0] 3 (by kernel_rfl) (by kernel_rfl) (by kernel_rfl)⟩ (fun s a w h => by obtain ⟨h1, _⟩ := h; simp [slice_Value.l1] at h1) (fun k KL9 ih s a w h => ?_)
 obtain ⟨q_10, q_11⟩ := s
 obtain ⟨hm, hs⟩ := h
 try dsimp only at hm hs
 rw [slice_Value.l1] at hm
 refine qsk 1 [0, 4, 5, 8, 9, 10] hs fun a hs => ?_
 refine Vk.seq fun K13 hK13 => ?_
 refine qcs (decide (q_11 < 8)) hs (fun hb => ?_) fun hb => ?_
 ·replace hm := bif_t hm hb
  refine wp_skip ?_
  refine hK13 _ _ ?_
  clear hK13
  refine Vk.seq fun K14 hK14 => ?_
  refine wp_block ?_
  refine qsr fun K15 hK15 => ?_
  refine qpu 1 hs fun a hs => ?_
  obtain ⟨h_16, hm⟩ := ite_t hm
  obtain ⟨v_18, h_17, hm⟩ := bind_t hm
  refine qva (.agg (vals v_18)) (op := (.index 37 (.tmp 8) (.tmp 9))) hs (fun o ho => run_idxValN (k := .i64) (cs := x1) ho (by kernel_rfl) (by kernel_rfl) (len := 8) (et := 35) (by kernel_rfl) (sz := 3) (by kernel_rfl) h_16 h_17 _) fun a hs => ?_
  refine qal 35 [ci 0, ci 0, ci 0] 7 hs fun b_19 w a hs => ?_
  refine qpu 1 hs fun a hs => ?_
  refine Vk.step (Vk.storeA (b := b_19) (ty := 35) (x := (.tmp 7)) (y := (.tmp 12)) (sz := 3) v_18 0 hs (by kernel_rfl) (by kernel_rfl) (by kernel_rfl) (by kernel_rfl) (by kernel_rfl) (part?_some h_17).2.2 (by kernel_rfl) rfl (Eq.trans (b := 3) (part?_some h_17).2.2 (Eq.symm rfl)) fun a w hs => ?_)
  refine qpk 0 [0, 4, 5, 6, 7, 8, 9] hs fun a hs => hK15 _ _ ?_
  clear hK15
  refine Vk.region ?_
  refine qpu 2 hs fun a hs => ?_
  refine qva (.agg (vals v_18)) (op := (.load 35 (.tmp 7))) hs (fun o ho => run_loadN (cs := v_18) ho (by kernel_rfl) (by kernel_rfl) (part?_some h_17).2.2 (CellsAt.all 0 rfl) _ hs.own) fun a hs => ?_
  obtain ⟨v_22, h_21, hm⟩ := bind_t hm
  refine qcl (share_Value.ok _ _ _ _ h_21 _ _ (pt b_19 (blk v_18 35) :: pt b_3 (blk [cw 0, cw 0, cw 0, cw 0, cw 0, cw 0, cw 0, cw 0] 55) :: pt b_5 (blk q_10 55) :: S) A_x0 c_x0 hx_x0.less.less.less hs.own) hs fun w a hs => ?_
  obtain ⟨h_23, hm⟩ := ite_t hm
  refine qix b_5 0 1 hs h_23 fun a hs => ?_
  obtain ⟨h_24, hm⟩ := ite_t hm
  refine Vk.step (Vk.store1 (b := b_5) (ty := 23) (x := (.tmp 17)) (y := (.tmp 16)) (off := 0 + q_11.toNat * 1) (cw v_22) 2 hs (by kernel_rfl) (by kernel_rfl) (by kernel_rfl) (by kernel_rfl) (by kernel_rfl) (by kernel_rfl) rfl h_24 fun a w hs => ?_)
  refine qpk 0 [0, 4, 5, 8, 9] hs fun a hs => hK14 _ _ ?_
  clear hK14
  refine Vk.region ?_
  refine qpk 2 [0, 4, 5, 8, 9] hs fun a hs => ?_
  refine ih ((q_10.set (0 + q_11.toNat * 1) (cw v_22)), (IntKind.i64.wrap (q_11 + 1))) _ _ ⟨hm, hs.go [0, 4, 5, 8, 9] [1, 2] 3 (by kernel_rfl) (by kernel_rfl) (by kernel_rfl)⟩
 ·replace hm := bif_f hm hb
  refine wp_exit ?_
  exact hx9 q_10 (Option.some.inj hm).symm _ _ (hs.go [4, 5] [0, 1] 2 (by kernel_rfl) (by kernel_rfl) (by kernel_rfl))


def visorref20_Value.j1 (k : Nat) (rec6 : Int → Int → Option (Int)) (q_8 : Int) (p_30 : Int) (p_31 : Int) (p_32 : Bool) : Option (Int) := rec6 p_30 (IntKind.i64.wrap (q_8 + 1))
def visorref20_Value.l1 (x0 : List Int) (x1 : Cells) : Nat → Int → Int → Option (Int)
 | 0, _, _ => none
 | k + 1, q_7, q_8 => (bif decide (q_8 < 3) then (if 0 ≤ q_8 ∧ q_8 < 3 then (getI .i64 x1 (0 + q_8.toNat * 1)).bind fun v_15 => (bif decide (v_15 ≥ 0) then (if 0 ≤ q_8 ∧ q_8 < 3 then (getI .i64 x1 (0 + q_8.toNat * 1)).bind fun v_19 => (bif decide (v_19 < ((x0.length : Nat) : Int)) then (if 0 ≤ q_8 ∧ q_8 < 3 then (getI .i64 x1 (0 + q_8.toNat * 1)).bind fun v_22 => (if 0 ≤ v_22 then (x0[v_22.toNat]?).bind fun e_26 => visorref20_Value.j1 k (visorref20_Value.l1 x0 x1 k) q_8 (bxor .u64 q_7 e_26) v_19 (decide (v_19 < ((x0.length : Nat) : Int))) else none) else none) else visorref20_Value.j1 k (visorref20_Value.l1 x0 x1 k) q_8 q_7 v_19 (decide (v_19 < ((x0.length : Nat) : Int)))) else none) else visorref20_Value.l1 x0 x1 k q_7 (IntKind.i64.wrap (q_8 + 1))) else none) else some q_7)
abbrev visorref20_Value.R (κ : Ctx) (S : List HP) (x0 : List Int) (x1 : Cells) (A_x0 : Option Addr) (c_x0 : Nat) (r : Int) : Ending → World → Prop := fun e w' => e = .returned (vw r) ∧ Ow κ w' (S)
def visorref20_Value.m (k : Nat) (x0 : List Int) (x1 : Cells) : Option Int := (visorref20_Value.l1 x0 x1 k 0 0).bind fun p_34 => some p_34

set_option maxRecDepth 100000 in
set_option maxHeartbeats 4000000 in
theorem visorref20_Value.ok (k : Nat) (x0 : List Int) (x1 : Cells) (r : Int) (hm : visorref20_Value.m k x0 x1 = some r) (κ : Ctx) (w : World) (S : List HP) (A_x0 : Option Addr) (c_x0 : Nat) (hx_x0 : Sl κ S A_x0 c_x0 1 (eI .u64) x0) (ho : Ow κ w (S)) :
  Calls Tryz.prog 72 #[.slice A_x0 x0.length c_x0, .agg (vals x1)] w (visorref20_Value.R κ S x0 x1 A_x0 c_x0 r) := by
 unfold visorref20_Value.m at hm
 generalize hRR : visorref20_Value.R κ S x0 x1 A_x0 c_x0 r = RR
 refine qen [(0, .slice A_x0 x0.length c_x0), (1, .agg (vals x1))] Tryz.func72 Tryz.ntmps72 ho fun a hs => ?_
 refine qsr fun K1 hK1 => ?_
 refine qbx 1 35 x1 3 hs fun b_2 w a hs => ?_
 refine qpk 1 [0, 3] hs fun a hs => hK1 _ _ ?_
 clear hK1
 refine qsk 1 [0, 3, 5] hs fun a hs => ?_
 refine Vk.seq fun K4 hK4 => ?_
 refine qsk 1 [0, 3, 5, 6] hs fun a hs => ?_
 refine wp_block ?_
 obtain ⟨r6, hl6, hm⟩ := bind_t hm
 have hx6 : ∀ (p_34 : Int), r6 = p_34 → ∀ (a : Act) (w : World), St 35 a w κ [(5, vw p_34)] (S) → K4 a w := by
  intro p_34 he a w hs
  subst r6
  refine hK4 _ _ ?_
  clear hK4
  refine qse 2 [(4, vw p_34)] hs fun a hs => ?_
  refine wp_ret ?_
  exact qr1 (vw p_34) hs rfl hRR (by cases hm; exact ⟨rfl, hs.own⟩)
 refine Vk.loopBy (fun k (s : Int × Int) a w => visorref20_Value.l1 x0 x1 k s.1 s.2 = some r6 ∧ St 35 a w κ [(0, .slice A_x0 x0.length c_x0), (3, pp b_2), (5, vw s.1), (6, vi s.2)] (pt b_2 (blk x1 35) :: S)) k (0, 0) ⟨hl6, hs.go [0, 3, 5, 6] [0] 1 (by kernel_rfl) (by kernel_rfl) (by kernel_rfl)⟩ (fun s a w h => by obtain ⟨h1, _⟩ := h; simp [visorref20_Value.l1] at h1) (fun k KL6 ih s a w h => ?_)
 obtain ⟨q_7, q_8⟩ := s
 obtain ⟨hm, hs⟩ := h
 try dsimp only at hm hs
 rw [visorref20_Value.l1] at hm
 refine Vk.seq fun K9 hK9 => ?_
 refine qsk 2 [0, 3, 5, 6, 8] hs fun a hs => ?_
 refine qcs (decide (q_8 < 3)) hs (fun hb => ?_) fun hb => ?_
 ·replace hm := bif_t hm hb
  refine wp_skip ?_
  refine hK9 _ _ ?_
  clear hK9
  refine Vk.seq fun K11 hK11 => ?_
  have hj33 : ∀ (p_30 : Int) (p_31 : Int) (p_32 : Bool), visorref20_Value.j1 k (visorref20_Value.l1 x0 x1 k) q_8 p_30 p_31 p_32 = some r6 → ∀ (a : Act) (w : World), St 35 a w κ [(0, .slice A_x0 x0.length c_x0), (3, pp b_2), (5, vw p_30), (6, vi q_8), (17, vi q_8), (18, pp b_2), (19, .pointer (some ⟨b_2, 0 + q_8.toNat * 1, none⟩)), (20, vi p_31), (21, .slice A_x0 x0.length c_x0), (22, vi ((x0.length : Nat) : Int)), (23, .bool p_32)] (pt b_2 (blk x1 35) :: S) → K11 a w := by
   intro p_30 p_31 p_32 hm a w hs
   unfold visorref20_Value.j1 at hm
   refine hK11 _ _ ?_
   refine Vk.region ?_
   refine qpk 3 [0, 3, 5, 6, 17, 18, 19, 20, 21, 22, 23] hs fun a hs => ?_
   refine ih (p_30, (IntKind.i64.wrap (q_8 + 1))) _ _ ⟨hm, hs.go [0, 3, 5, 6] [0] 1 (by kernel_rfl) (by kernel_rfl) (by kernel_rfl)⟩
  refine wp_block ?_
  refine qsr fun K12 hK12 => ?_
  refine qpu 2 hs fun a hs => ?_
  obtain ⟨h_13, hm⟩ := ite_t hm
  refine qix b_2 0 1 hs h_13 fun a hs => ?_
  obtain ⟨v_15, h_14, hm⟩ := bind_t hm
  refine qli 0 hs rfl h_14 fun a hs => ?_
  refine qpu 2 hs fun a hs => ?_
  rcases Bool.eq_false_or_eq_true (decide (v_15 ≥ 0)) with hb | hb
  ·replace hm := bif_t hm hb
   replace hs := hs.known (t := 16) hb (by kernel_rfl)
   refine qpu 2 hs fun a hs => ?_
   obtain ⟨h_17, hm⟩ := ite_t hm
   refine qix b_2 0 1 hs h_17 fun a hs => ?_
   obtain ⟨v_19, h_18, hm⟩ := bind_t hm
   refine qli 0 hs rfl h_18 fun a hs => ?_
   refine qpk 4 [0, 3, 5, 6, 17, 18, 19, 20, 21, 22, 23, 24] hs fun a hs => hK12 _ _ ?_
   refine qcs (decide (v_19 < ((x0.length : Nat) : Int))) hs (fun hb => ?_) fun hb => ?_
   ·replace hm := bif_t hm hb
    refine Vk.region ?_
    refine qpu 4 hs fun a hs => ?_
    obtain ⟨h_20, hm⟩ := ite_t hm
    refine qix b_2 0 1 hs h_20 fun a hs => ?_
    obtain ⟨v_22, h_21, hm⟩ := bind_t hm
    refine qli 0 hs rfl h_21 fun a hs => ?_
    obtain ⟨h_23, hm⟩ := ite_t hm
    obtain ⟨e_26, h_24, hm⟩ := bind_t hm
    obtain ⟨b_27, o_28, hA_29, h_25⟩ := Sl.elem hx_x0 h_24
    refine qva (.pointer (some ⟨b_27, o_28 + v_22.toNat * 1, none⟩)) (op := (.indexAddr 24 (.tmp 26) (.tmp 30))) hs (fun o ho => run_idxSlc (k := .i64) ho (cap := c_x0) (len := x0.length) ((congrArg (fun A => Value.slice A (x0.length) (c_x0)) hA_29) ▸ (by kernel_rfl)) (by kernel_rfl) (by kernel_rfl) (idx_ok h_23 h_24) _) fun a hs => ?_
    refine qva (vw e_26) (op := (.load 23 (.tmp 31))) hs (fun o ho => run_load1 (c := cw e_26) ho (by kernel_rfl) (by kernel_rfl) (fun w ho => h_25 w ho 0 _ rfl) _ hs.own.drop) fun a hs => ?_
    refine qpe 2 [(0, .slice A_x0 x0.length c_x0), (3, pp b_2), (5, vw (bxor .u64 q_7 e_26)), (6, vi q_8), (17, vi q_8), (18, pp b_2), (19, .pointer (some ⟨b_2, 0 + q_8.toNat * 1, none⟩)), (20, vi v_19), (21, .slice A_x0 x0.length c_x0), (22, vi ((x0.length : Nat) : Int)), (23, .bool (decide (v_19 < ((x0.length : Nat) : Int))))] hs fun a hs => ?_
    exact hj33 (bxor .u64 q_7 e_26) v_19 (decide (v_19 < ((x0.length : Nat) : Int))) hm _ _ (hs.go [0, 3, 5, 6, 17, 18, 19, 20, 21, 22, 23] [0] 1 (by kernel_rfl) (by kernel_rfl) (by kernel_rfl))
   ·replace hm := bif_f hm hb
    refine wp_skip ?_
    exact hj33 q_7 v_19 (decide (v_19 < ((x0.length : Nat) : Int))) hm _ _ (hs.go [0, 3, 5, 6, 17, 18, 19, 20, 21, 22, 23] [0] 1 (by kernel_rfl) (by kernel_rfl) (by kernel_rfl))
  ·replace hm := bif_f hm hb
   replace hs := hs.known (t := 16) hb (by kernel_rfl)
   refine qpk 8 [0, 3, 5, 6, 24] hs fun a hs => hK12 _ _ ?_
   refine qcf hs ?_
   refine wp_skip ?_
   refine hK11 _ _ ?_
   refine Vk.region ?_
   refine qpk 3 [0, 3, 5, 6] hs fun a hs => ?_
   refine ih (q_7, (IntKind.i64.wrap (q_8 + 1))) _ _ ⟨hm, hs.go [0, 3, 5, 6] [0] 1 (by kernel_rfl) (by kernel_rfl) (by kernel_rfl)⟩
 ·replace hm := bif_f hm hb
  refine wp_exit ?_
  exact hx6 q_7 (Option.some.inj hm).symm _ _ (hs.go [5] [] 1 (by kernel_rfl) (by kernel_rfl) (by kernel_rfl))


def visorref33_Value.l1 (x0 : List Int) (x1 : Cells) : Nat → Cells → Int → Option (Cells)
 | 0, _, _ => none
 | k + 1, q_9, q_10 => (bif decide (q_10 < 8) then (if 0 ≤ q_10 ∧ q_10 < 8 then (part? x1 (0 + q_10.toNat * 3) 3).bind fun v_16 => (visorref20_Value.m k x0 v_16).bind fun v_19 => (if 0 ≤ q_10 ∧ q_10 < 8 then (if 0 + q_10.toNat * 1 < q_9.length then visorref33_Value.l1 x0 x1 k (q_9.set (0 + q_10.toNat * 1) (cw v_19)) (IntKind.i64.wrap (q_10 + 1)) else none) else none) else none) else some q_9)
abbrev visorref33_Value.R (κ : Ctx) (S : List HP) (x0 : List Int) (x1 : Cells) (A_x0 : Option Addr) (c_x0 : Nat) (r : Cells) : Ending → World → Prop := fun e w' => e = .returned (.agg (vals r)) ∧ Ow κ w' (S)
def visorref33_Value.m (k : Nat) (x0 : List Int) (x1 : Cells) : Option Cells := (visorref33_Value.l1 x0 x1 k [cw 0, cw 0, cw 0, cw 0, cw 0, cw 0, cw 0, cw 0] 0).bind fun p_22 => (if p_22.length = 8 then some p_22 else none)

set_option maxRecDepth 100000 in
set_option maxHeartbeats 4000000 in
theorem visorref33_Value.ok (k : Nat) (x0 : List Int) (x1 : Cells) (r : Cells) (hm : visorref33_Value.m k x0 x1 = some r) (κ : Ctx) (w : World) (S : List HP) (A_x0 : Option Addr) (c_x0 : Nat) (hx_x0 : Sl κ S A_x0 c_x0 1 (eI .u64) x0) (ho : Ow κ w (S)) :
  Calls Tryz.prog 22 #[.slice A_x0 x0.length c_x0, .agg (vals x1)] w (visorref33_Value.R κ S x0 x1 A_x0 c_x0 r) := by
 unfold visorref33_Value.m at hm
 generalize hRR : visorref33_Value.R κ S x0 x1 A_x0 c_x0 r = RR
 refine qen [(0, .slice A_x0 x0.length c_x0), (1, .agg (vals x1))] Tryz.func22 Tryz.ntmps22 ho fun a hs => ?_
 refine qsr fun K1 hK1 => ?_
 refine qbx 1 37 x1 3 hs fun b_2 w a hs => ?_
 refine qal 55 [cw 0, cw 0, cw 0, cw 0, cw 0, cw 0, cw 0, cw 0] 4 hs fun b_3 w a hs => ?_
 refine qpk 0 [0, 3, 4] hs fun a hs => hK1 _ _ ?_
 clear hK1
 refine qsr fun K4 hK4 => ?_
 refine qpu 1 hs fun a hs => ?_
 refine qal 55 [cw 0, cw 0, cw 0, cw 0, cw 0, cw 0, cw 0, cw 0] 5 hs fun b_5 w a hs => ?_
 refine qsa 0 [cw 0, cw 0, cw 0, cw 0, cw 0, cw 0, cw 0, cw 0] hs rfl fun a w hs => ?_
 refine qpk 0 [0, 3, 4, 5] hs fun a hs => hK4 _ _ ?_
 clear hK4
 refine Vk.seq fun K6 hK6 => ?_
 refine qsk 1 [0, 3, 4, 5, 6] hs fun a hs => ?_
 refine wp_block ?_
 obtain ⟨r8, hl8, hm⟩ := bind_t hm
 have hx8 : ∀ (p_22 : Cells), r8 = p_22 → ∀ (a : Act) (w : World), St 20 a w κ [(4, pp b_3), (5, pp b_5)] (pt b_3 (blk [cw 0, cw 0, cw 0, cw 0, cw 0, cw 0, cw 0, cw 0] 55) :: pt b_5 (blk p_22 55) :: S) → K6 a w := by
  intro p_22 he a w hs
  subst r8
  refine hK6 _ _ ?_
  clear hK6
  refine qsr fun K25 hK25 => ?_
  obtain ⟨h_26, hm⟩ := ite_t hm
  refine qlw 1 hs rfl h_26 fun a hs => ?_
  refine qsb 0 p_22 hs rfl h_26 rfl fun a w hs => ?_
  refine qpe 0 [(4, pp b_3)] hs fun a hs => hK25 _ _ ?_
  clear hK25
  refine wp_ret ?_
  exact Vk.retC p_22 hs rfl (by kernel_rfl) (sz := 8) (by kernel_rfl) h_26 (CellsAt.all 0 rfl) (hRR ▸ by cases hm; exact ⟨rfl, hs.own.f1.drop.drop⟩)
 refine Vk.loopBy (fun k (s : Cells × Int) a w => visorref33_Value.l1 x0 x1 k s.1 s.2 = some r8 ∧ St 20 a w κ [(0, .slice A_x0 x0.length c_x0), (3, pp b_2), (4, pp b_3), (5, pp b_5), (6, vi s.2)] (pt b_2 (blk x1 37) :: pt b_3 (blk [cw 0, cw 0, cw 0, cw 0, cw 0, cw 0, cw 0, cw 0] 55) :: pt b_5 (blk s.1 55) :: S)) k ([cw 0, cw 0, cw 0, cw 0, cw 0, cw 0, cw 0, cw 0], 0) ⟨hl8, hs.go [0, 3, 4, 5, 6] [2, 1, 0] 3 (by kernel_rfl) (by kernel_rfl) (by kernel_rfl)⟩ (fun s a w h => by obtain ⟨h1, _⟩ := h; simp [visorref33_Value.l1] at h1) (fun k KL8 ih s a w h => ?_)
 obtain ⟨q_9, q_10⟩ := s
 obtain ⟨hm, hs⟩ := h
 try dsimp only at hm hs
 rw [visorref33_Value.l1] at hm
 refine Vk.seq fun K11 hK11 => ?_
 refine qsk 2 [0, 3, 4, 5, 6, 9] hs fun a hs => ?_
 refine qcs (decide (q_10 < 8)) hs (fun hb => ?_) fun hb => ?_
 ·replace hm := bif_t hm hb
  refine wp_skip ?_
  refine hK11 _ _ ?_
  clear hK11
  refine Vk.seq fun K13 hK13 => ?_
  refine wp_block ?_
  refine Vk.region ?_
  refine qpu 3 hs fun a hs => ?_
  obtain ⟨h_14, hm⟩ := ite_t hm
  refine qix b_2 0 3 hs h_14 fun a hs => ?_
  obtain ⟨v_16, h_15, hm⟩ := bind_t hm
  refine qva (.agg (vals v_16)) (op := (.load 35 (.tmp 15))) hs (fun o ho => run_loadN (cs := v_16) ho (by kernel_rfl) (by kernel_rfl) (part?_some h_15).2.2 (CellsAt.own (off := 0 + q_10.toNat * 3) 0 rfl h_15) _ hs.own) fun a hs => ?_
  obtain ⟨v_19, h_18, hm⟩ := bind_t hm
  refine qcl (visorref20_Value.ok _ _ _ _ h_18 _ _ (pt b_2 (blk x1 37) :: pt b_3 (blk [cw 0, cw 0, cw 0, cw 0, cw 0, cw 0, cw 0, cw 0] 55) :: pt b_5 (blk q_9 55) :: S) A_x0 c_x0 hx_x0.less.less.less hs.own) hs fun w a hs => ?_
  obtain ⟨h_20, hm⟩ := ite_t hm
  refine qix b_5 0 1 hs h_20 fun a hs => ?_
  obtain ⟨h_21, hm⟩ := ite_t hm
  refine Vk.step (Vk.store1 (b := b_5) (ty := 23) (x := (.tmp 18)) (y := (.tmp 17)) (off := 0 + q_10.toNat * 1) (cw v_19) 2 hs (by kernel_rfl) (by kernel_rfl) (by kernel_rfl) (by kernel_rfl) (by kernel_rfl) (by kernel_rfl) rfl h_21 fun a w hs => ?_)
  refine qpk 0 [0, 3, 4, 5, 6] hs fun a hs => hK13 _ _ ?_
  clear hK13
  refine Vk.region ?_
  refine qpk 3 [0, 3, 4, 5, 6] hs fun a hs => ?_
  refine ih ((q_9.set (0 + q_10.toNat * 1) (cw v_19)), (IntKind.i64.wrap (q_10 + 1))) _ _ ⟨hm, hs.go [0, 3, 4, 5, 6] [0, 1, 2] 3 (by kernel_rfl) (by kernel_rfl) (by kernel_rfl)⟩
 ·replace hm := bif_f hm hb
  refine wp_exit ?_
  exact hx8 q_9 (Option.some.inj hm).symm _ _ (hs.go [4, 5] [1, 2] 3 (by kernel_rfl) (by kernel_rfl) (by kernel_rfl))

end Go.Proofs.YtflgefjocjpjaaaGreat
