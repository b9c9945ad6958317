/- Of each Go function that SlicePlays comes to: a model in plain Lean, and that the program's call does what the model says; no condition. -/
import Derived.Test.YtflgefjocjpjaaaGreatProg
import Derived.Test.YtflgefjocjpjaaaGreatVokkakgfh
namespace Go.Proofs.YtflgefjocjpjaaaGreat
open Go Go.Vk
set_option linter.unusedVariables false


def slice_Cut.l2 (q_15 : Int) (e_23 : Int) : Nat → Cells → Int → Option (Cells)
 | 0, _, _ => none
 | k + 1, q_29, q_30 => (bif decide (q_30 < 8) then (if 0 ≤ q_30 ∧ q_30 < 8 then (getI .u64 q_29 (0 + q_30.toNat * 1)).bind fun v_38 => (if 0 ≤ q_30 then (if 0 ≤ q_15 then (if 0 ≤ q_30 ∧ q_30 < 8 then (if 0 + q_30.toNat * 1 < q_29.length then slice_Cut.l2 q_15 e_23 k (q_29.set (0 + q_30.toNat * 1) (cw (bor .u64 v_38 (shl .u64 (IntKind.u64.wrap (band .u8 (shr .u8 e_23 q_30) 1)) q_15)))) (IntKind.i64.wrap (q_30 + 1)) else none) else none) else none) else none) else none) else some q_29)
def slice_Cut.l1 (x0 : List Int) : Nat → Cells → Int → Option (Cells)
 | 0, _, _ => none
 | k + 1, q_14, q_15 => (bif decide (q_15 < (((cut x0 (0) ((mn ((x0.length : Nat) : Int) 64).toNat)).length : Nat) : Int)) then (if 0 ≤ q_15 then ((cut x0 (0) ((mn ((x0.length : Nat) : Int) 64).toNat))[q_15.toNat]?).bind fun e_23 => (slice_Cut.l2 q_15 e_23 k q_14 0).bind fun p_43 => slice_Cut.l1 x0 k p_43 (IntKind.i64.wrap (q_15 + 1)) else none) else some q_14)
abbrev slice_Cut.R (κ : Ctx) (S : List HP) (x0 : List Int) (A_x0 : Option Addr) (c_x0 : Nat) (r : Cells) : Ending → World → Prop := fun e w' => e = .returned (.agg (vals r)) ∧ Ow κ w' (S)
def slice_Cut.m (k : Nat) (x0 : List Int) : Option Cells := (if ((0 : Int) ≤ mn ((x0.length : Nat) : Int) 64) ∧ 0 ≤ (mn ((x0.length : Nat) : Int) 64).toNat ∧ (mn ((x0.length : Nat) : Int) 64).toNat ≤ x0.length then (slice_Cut.l1 x0 k [cw 0, cw 0, cw 0, cw 0, cw 0, cw 0, cw 0, cw 0] 0).bind fun p_46 => (if p_46.length = 8 then some p_46 else none) else none)

set_option maxRecDepth 100000 in
set_option maxHeartbeats 4000000 in
theorem slice_Cut.ok (k : Nat) (x0 : List Int) (r : Cells) (hm : slice_Cut.m k x0 = some r) (κ : Ctx) (w : World) (S : List HP) (A_x0 : Option Addr) (c_x0 : Nat) (hx_x0 : Sl κ S A_x0 c_x0 1 (eI .u8) x0) (ho : Ow κ w (S)) :
  Calls Tryz.prog 44 #[.slice A_x0 x0.length c_x0] w (slice_Cut.R κ S x0 A_x0 c_x0 r) := by
 unfold slice_Cut.m at hm
 generalize hRR : slice_Cut.R κ S x0 A_x0 c_x0 r = RR
 refine qen [(0, .slice A_x0 x0.length c_x0)] Tryz.func44 Tryz.ntmps44 ho fun a hs => ?_
 refine qsr fun K1 hK1 => ?_
 refine qal 55 [cw 0, cw 0, cw 0, cw 0, cw 0, cw 0, cw 0, cw 0] 2 hs fun b_2 w a hs => ?_
 refine qpk 0 [0, 2] hs fun a hs => hK1 _ _ ?_
 clear hK1
 refine qsr fun K3 hK3 => ?_
 refine qal 55 [cw 0, cw 0, cw 0, cw 0, cw 0, cw 0, cw 0, cw 0] 3 hs fun b_4 w a hs => ?_
 refine qpk 0 [0, 2, 3] hs fun a hs => hK3 _ _ ?_
 clear hK3
 refine Vk.seq fun K5 hK5 => ?_
 refine qsr fun K6 hK6 => ?_
 refine qpu 4 hs fun a hs => ?_
 obtain ⟨h_7, hm⟩ := ite_t hm
 obtain ⟨A_8, c_9, eA_10, ec_11, hx_12⟩ := Sl.sub hx_x0 h_7.2
 refine qva (.slice A_8 ((cut x0 (0) ((mn ((x0.length : Nat) : Int) 64).toNat)).length) c_9) (op := (.slice 22 (.tmp 7) none (some (.tmp 10)) none)) hs (fun o ho => run_sub (sz := 1) (e := 5) h_7.2 eA_10 ec_11 (Sl.le hx_x0) ho (by kernel_rfl) (by kernel_rfl) (by kernel_rfl) rfl ⟨.i64, (mn ((x0.length : Nat) : Int) 64), by kernel_rfl, h_7.1, rfl⟩ _) fun a hs => ?_
 refine qpk 2 [2, 3, 11, 12, 13] hs fun a hs => hK6 _ _ ?_
 clear hK6
 refine wp_block ?_
 obtain ⟨r13, hl13, hm⟩ := bind_t hm
 have hx13 : ∀ (p_46 : Cells), r13 = p_46 → ∀ (a : Act) (w : World), St 36 a w κ [(2, pp b_2), (3, pp b_4)] (pt b_2 (blk [cw 0, cw 0, cw 0, cw 0, cw 0, cw 0, cw 0, cw 0] 55) :: pt b_4 (blk p_46 55) :: S) → K5 a w := by
  intro p_46 he a w hs
  subst r13
  refine hK5 _ _ ?_
  clear hK5
  refine qsr fun K49 hK49 => ?_
  obtain ⟨h_50, hm⟩ := ite_t hm
  refine qlw 1 hs rfl h_50 fun a hs => ?_
  refine qsb 0 p_46 hs rfl h_50 rfl fun a w hs => ?_
  refine qpe 0 [(2, pp b_2)] hs fun a hs => hK49 _ _ ?_
  clear hK49
  refine wp_ret ?_
  exact Vk.retC p_46 hs rfl (by kernel_rfl) (sz := 8) (by kernel_rfl) h_50 (CellsAt.all 0 rfl) (hRR ▸ by cases hm; exact ⟨rfl, hs.own.f1.drop.drop⟩)
 refine Vk.loopBy (fun k (s : Cells × Int) a w => slice_Cut.l1 x0 k s.1 s.2 = some r13 ∧ St 36 a w κ [(2, pp b_2), (3, pp b_4), (11, .slice A_8 ((cut x0 (0) ((mn ((x0.length : Nat) : Int) 64).toNat)).length) c_9), (12, vi (((cut x0 (0) ((mn ((x0.length : Nat) : Int) 64).toNat)).length : Nat) : Int)), (13, vi s.2)] (pt b_2 (blk [cw 0, cw 0, cw 0, cw 0, cw 0, cw 0, cw 0, cw 0] 55) :: pt b_4 (blk s.1 55) :: S)) k ([cw 0, cw 0, cw 0, cw 0, cw 0, cw 0, cw 0, cw 0], 0) ⟨hl13, hs.go [2, 3, 11, 12, 13] [1, 0] 2 (by kernel_rfl) (by kernel_rfl) (by kernel_rfl)⟩ (fun s a w h => by obtain ⟨h1, _⟩ := h; simp [slice_Cut.l1] at h1) (fun k KL13 ih s a w h => ?_)
 obtain ⟨q_14, q_15⟩ := s
 obtain ⟨hm, hs⟩ := h
 try dsimp only at hm hs
 rw [slice_Cut.l1] at hm
 refine qsk 1 [2, 3, 11, 12, 13, 14] hs fun a hs => ?_
 refine Vk.seq fun K17 hK17 => ?_
 refine qcs (decide (q_15 < (((cut x0 (0) ((mn ((x0.length : Nat) : Int) 64).toNat)).length : Nat) : Int))) hs (fun hb => ?_) fun hb => ?_
 ·replace hm := bif_t hm hb
  refine wp_skip ?_
  refine hK17 _ _ ?_
  clear hK17
  refine Vk.seq fun K18 hK18 => ?_
  refine wp_block ?_
  refine qsr fun K19 hK19 => ?_
  refine qpu 1 hs fun a hs => ?_
  obtain ⟨h_20, hm⟩ := ite_t hm
  obtain ⟨e_23, h_21, hm⟩ := bind_t hm
  obtain ⟨b_24, o_25, hA_26, h_22⟩ := Sl.elem hx_12 h_21
  refine qva (.pointer (some ⟨b_24, o_25 + q_15.toNat * 1, none⟩)) (op := (.indexAddr 22 (.tmp 11) (.tmp 13))) hs (fun o ho => run_idxSlc (k := .i64) ho (cap := c_9) (len := (cut x0 (0) ((mn ((x0.length : Nat) : Int) 64).toNat)).length) ((congrArg (fun A => Value.slice A ((cut x0 (0) ((mn ((x0.length : Nat) : Int) 64).toNat)).length) (c_9)) hA_26) ▸ (by kernel_rfl)) (by kernel_rfl) (by kernel_rfl) (idx_ok h_20 h_21) _) fun a hs => ?_
  refine qva (.int .u8 e_23) (op := (.load 5 (.tmp 16))) hs (fun o ho => run_load1 (c := C.int .u8 e_23) ho (by kernel_rfl) (by kernel_rfl) (fun w ho => h_22 w ho 0 _ rfl) _ hs.own.drop.drop) fun a hs => ?_
  refine qpk 2 [2, 3, 4, 5, 11, 12, 13] hs fun a hs => hK19 _ _ ?_
  clear hK19
  refine qsk 1 [2, 3, 4, 5, 11, 12, 13, 18] hs fun a hs => ?_
  refine wp_block ?_
  obtain ⟨r28, hl28, hm⟩ := bind_t hm
  have hx28 : ∀ (p_43 : Cells), r28 = p_43 → ∀ (a : Act) (w : World), St 36 a w κ [(2, pp b_2), (3, pp b_4), (11, .slice A_8 ((cut x0 (0) ((mn ((x0.length : Nat) : Int) 64).toNat)).length) c_9), (12, vi (((cut x0 (0) ((mn ((x0.length : Nat) : Int) 64).toNat)).length : Nat) : Int)), (13, vi q_15)] (pt b_2 (blk [cw 0, cw 0, cw 0, cw 0, cw 0, cw 0, cw 0, cw 0] 55) :: pt b_4 (blk p_43 55) :: S) → K18 a w := by
   intro p_43 he a w hs
   subst r28
   refine hK18 _ _ ?_
   clear hK18
   refine Vk.region ?_
   refine qpe 2 [(2, pp b_2), (3, pp b_4), (11, .slice A_8 ((cut x0 (0) ((mn ((x0.length : Nat) : Int) 64).toNat)).length) c_9), (12, vi (((cut x0 (0) ((mn ((x0.length : Nat) : Int) 64).toNat)).length : Nat) : Int)), (13, vi (IntKind.i64.wrap (q_15 + 1)))] hs fun a hs => ?_
   refine ih (p_43, (IntKind.i64.wrap (q_15 + 1))) _ _ ⟨hm, hs.go [2, 3, 11, 12, 13] [0, 1] 2 (by kernel_rfl) (by kernel_rfl) (by kernel_rfl)⟩
  refine Vk.loopBy (fun k (s : Cells × Int) a w => slice_Cut.l2 q_15 e_23 k s.1 s.2 = some r28 ∧ St 36 a w κ [(2, pp b_2), (3, pp b_4), (4, vi q_15), (5, .int .u8 e_23), (11, .slice A_8 ((cut x0 (0) ((mn ((x0.length : Nat) : Int) 64).toNat)).length) c_9), (12, vi (((cut x0 (0) ((mn ((x0.length : Nat) : Int) 64).toNat)).length : Nat) : Int)), (13, vi q_15), (18, vi s.2)] (pt b_2 (blk [cw 0, cw 0, cw 0, cw 0, cw 0, cw 0, cw 0, cw 0] 55) :: pt b_4 (blk s.1 55) :: S)) k (q_14, 0) ⟨hl28, hs.go [2, 3, 4, 5, 11, 12, 13, 18] [0, 1] 2 (by kernel_rfl) (by kernel_rfl) (by kernel_rfl)⟩ (fun s a w h => by obtain ⟨h1, _⟩ := h; simp [slice_Cut.l2] at h1) (fun k KL28 ih s a w h => ?_)
  obtain ⟨q_29, q_30⟩ := s
  obtain ⟨hm, hs⟩ := h
  try dsimp only at hm hs
  rw [slice_Cut.l2] at hm
  refine qsk 1 [2, 3, 4, 5, 11, 12, 13, 18, 19] hs fun a hs => ?_
  refine Vk.seq fun K32 hK32 => ?_
  refine qcs (decide (q_30 < 8)) hs (fun hb => ?_) fun hb => ?_
  ·replace hm := bif_t hm hb
   refine wp_skip ?_
   refine hK32 _ _ ?_
   clear hK32
   refine Vk.seq fun K33 hK33 => ?_
   refine wp_block ?_
   refine qsk 2 [2, 3, 4, 5, 6, 11, 12, 13, 18] hs fun a hs => ?_
   obtain ⟨C_35, hC_35⟩ := qC hs.own
   refine qdr 12 κ C_35 hs fun w hs hqC_35 => ?_
   have hcl := qO hC_35 hs.own
   refine qdp (fuel := 9) [0, 3, 4, 8] hs hcl hqC_35 fun a hs => ?_
   obtain ⟨h_36, hm⟩ := ite_t hm
   refine qdx 1 b_4 0 1 hs hcl hqC_35 h_36 fun a hs => ?_
   obtain ⟨v_38, h_37, hm⟩ := bind_t hm
   refine qdi 2 1 hs hcl hqC_35 hC_35 rfl h_37 fun a hs => ?_
   obtain ⟨h_39, hm⟩ := ite_t hm
   refine qdt 5 (.int .u8 (shr .u8 e_23 q_30)) (op := (.binOp .shr 5 (.tmp 24) (.tmp 25) 3)) hs hcl hqC_35 (fun w hw o ho => by rw [hC_35] at hw; exact run_shr (k' := .i64) ho (by kernel_rfl) (by kernel_rfl) h_39 _) fun a hs => ?_
   refine qdp (fuel := 4) [6, 7] hs hcl hqC_35 fun a hs => ?_
   obtain ⟨h_40, hm⟩ := ite_t hm
   refine qdt 9 (vw (shl .u64 (IntKind.u64.wrap (band .u8 (shr .u8 e_23 q_30) 1)) q_15)) (op := (.binOp .shl 23 (.tmp 28) (.tmp 29) 3)) hs hcl hqC_35 (fun w hw o ho => by rw [hC_35] at hw; exact run_shl (k' := .i64) ho (by kernel_rfl) (by kernel_rfl) h_40 _) fun a hs => ?_
   refine qdp (fuel := 2) [10] hs hcl hqC_35 fun a hs => ?_
   obtain ⟨h_41, hm⟩ := ite_t hm
   refine qdx 11 b_4 0 1 hs hcl hqC_35 h_41 fun a hs => ?_
   obtain ⟨h_42, hm⟩ := ite_t hm
   refine Vk.dOnly (i := 12) (by kernel_rfl) (Vk.store1 (b := b_4) (ty := 23) (x := (.tmp 32)) (y := (.tmp 31)) (off := 0 + q_30.toNat * 1) (cw (bor .u64 v_38 (shl .u64 (IntKind.u64.wrap (band .u8 (shr .u8 e_23 q_30) 1)) q_15))) 1 hs (by kernel_rfl) (by kernel_rfl) (by kernel_rfl) (by kernel_rfl) (by kernel_rfl) (by kernel_rfl) rfl h_42 fun a w hs => ?_)
   refine ⟨fun h => absurd h (by decide), ?_⟩
   replace hs := hs.pick [2, 3, 4, 5, 11, 12, 13, 18] (L' := [(2, pp b_2), (3, pp b_4), (4, vi q_15), (5, .int .u8 e_23), (11, .slice A_8 ((cut x0 (0) ((mn ((x0.length : Nat) : Int) 64).toNat)).length) c_9), (12, vi (((cut x0 (0) ((mn ((x0.length : Nat) : Int) 64).toNat)).length : Nat) : Int)), (13, vi q_15), (18, vi q_30)]) (by kernel_rfl)
   refine Vk.dDone (by kernel_rfl) ?_
   refine hK33 _ _ ?_
   clear hK33
   refine Vk.region ?_
   refine qpk 2 [2, 3, 4, 5, 11, 12, 13, 18] hs fun a hs => ?_
   refine ih ((q_29.set (0 + q_30.toNat * 1) (cw (bor .u64 v_38 (shl .u64 (IntKind.u64.wrap (band .u8 (shr .u8 e_23 q_30) 1)) q_15)))), (IntKind.i64.wrap (q_30 + 1))) _ _ ⟨hm, hs.go [2, 3, 4, 5, 11, 12, 13, 18] [0, 1] 2 (by kernel_rfl) (by kernel_rfl) (by kernel_rfl)⟩
  ·replace hm := bif_f hm hb
   refine wp_exit ?_
   exact hx28 q_29 (Option.some.inj hm).symm _ _ (hs.go [2, 3, 11, 12, 13] [0, 1] 2 (by kernel_rfl) (by kernel_rfl) (by kernel_rfl))
 ·replace hm := bif_f hm hb
  refine wp_exit ?_
  exact hx13 q_14 (Option.some.inj hm).symm _ _ (hs.go [2, 3] [0, 1] 2 (by kernel_rfl) (by kernel_rfl) (by kernel_rfl))


abbrev visorlaw33_awake.R (κ : Ctx) (S : List HP) (r : Bool) : Ending → World → Prop := fun e w' => e = .returned (.bool r) ∧ Ow κ w' (S)
def visorlaw33_awake.m (k : Nat) : Option Bool := (slice_Cut.m k ([5] : List Int)).bind fun v_7 => (if Kinds ((List.replicate 8 [LK.int .u64]).flatten) v_7 then some (ceq v_7 [cw 1, cw 0, cw 1, cw 0, cw 0, cw 0, cw 0, cw 0]) else none)

set_option maxRecDepth 100000 in
set_option maxHeartbeats 4000000 in
theorem visorlaw33_awake.ok (k : Nat) (r : Bool) (hm : visorlaw33_awake.m k = some r) (κ : Ctx) (w : World) (S : List HP) (ho : Ow κ w (S)) :
  Calls Tryz.prog 5 #[] w (visorlaw33_awake.R κ S r) := by
 unfold visorlaw33_awake.m at hm
 generalize hRR : visorlaw33_awake.R κ S r = RR
 refine qen [] Tryz.func5 Tryz.ntmps5 ho fun a hs => ?_
 refine qse 1 [] hs fun a hs => ?_
 refine qsr fun K2 hK2 => ?_
 refine Vk.step (Vk.buildOp (sz := 1) (by_ := 1) (t := 22) (e := 5) (parts := #[(0, (.const (.int .u8 5)))]) (zs := vals [C.int .u8 0]) ([5] : List Int) (eI .u8) (some 1) hs (by kernel_rfl) (by kernel_rfl) (by kernel_rfl) (by kernel_rfl) (by decide) rfl (fun x _ => rfl) (Nat.le_of_ble_eq_true (by kernel_rfl)) (by kernel_rfl) fun A_3 w a hs => ?_)
 obtain ⟨v_7, h_6, hm⟩ := bind_t hm
 refine qcl (slice_Cut.ok _ _ _ h_6 _ _ (rowp A_3 1 5 1 (eI .u8) ([5] : List Int) :: S) A_3 1 (Ow.rowSl 0 hs.own rfl) hs.own) hs fun w a hs => ?_
 refine qpu 1 hs fun a hs => ?_
 obtain ⟨h_8, hm⟩ := ite_t hm
 refine qva (.bool (ceq v_7 [cw 1, cw 0, cw 1, cw 0, cw 0, cw 0, cw 0, cw 0])) (op := (.binOp .eql 55 (.tmp 2) (.tmp 3) 55)) hs (fun o ho => run_eqV (ks := (List.replicate 8 [LK.int .u64]).flatten) (cs := v_7) (us := [cw 1, cw 0, cw 1, cw 0, cw 0, cw 0, cw 0, cw 0]) ho (by kernel_rfl) (by kernel_rfl) (by kernel_rfl) h_8 rfl _) fun a hs => ?_
 refine qpk 1 [0] hs fun a hs => hK2 _ _ ?_
 clear hK2
 refine wp_ret ?_
 exact qr1 (.bool (ceq v_7 [cw 1, cw 0, cw 1, cw 0, cw 0, cw 0, cw 0, cw 0])) hs rfl hRR (by cases hm; exact ⟨rfl, hs.own.drop⟩)


abbrev slices_Clone_uint64_uint64.R (κ : Ctx) (S : List HP) (x0 : List Int) (A_x0 : Option Addr) (c_x0 : Nat) (r : List Int) : Ending → World → Prop := fun e w' => ∃ (A_r0 : Option Addr), ∃ (c_r0 : Nat), e = .returned (.slice A_r0 r.length c_r0) ∧ Ow κ w' (rowp A_r0 c_r0 23 1 (eI .u64) r :: S)
def slices_Clone_uint64_uint64.m (k : Nat) (x0 : List Int) : Option (List Int) := (if (([] : List Int).length + x0.length) * 8 ≤ 140737488355328 then some (([] : List Int) ++ x0) else none)

set_option maxRecDepth 100000 in
set_option maxHeartbeats 4000000 in
theorem slices_Clone_uint64_uint64.ok (k : Nat) (x0 : List Int) (r : List Int) (hm : slices_Clone_uint64_uint64.m k x0 = some r) (κ : Ctx) (w : World) (S : List HP) (A_x0 : Option Addr) (c_x0 : Nat) (hx_x0 : Sl κ S A_x0 c_x0 1 (eI .u64) x0) (ho : Ow κ w (S)) :
  Calls Tryz.prog 71 #[.slice A_x0 x0.length c_x0] w (slices_Clone_uint64_uint64.R κ S x0 A_x0 c_x0 r) := by
 unfold slices_Clone_uint64_uint64.m at hm
 rcases A_x0 with _ | p_x0
 ·obtain rfl : c_x0 = 0 := hx_x0.none rfl
  obtain rfl : x0 = [] := List.length_eq_zero_iff.1 (Nat.le_zero.1 hx_x0.le)
  replace hm : some ([] : List Int) = some r := by simpa using hm
  refine Vk.enter [(0, .slice none 0 0)] Tryz.func71 rfl Tryz.ntmps71 (by kernel_rfl) (Nat.le_of_ble_eq_true (by kernel_rfl)) ho fun a hs => ?_
  refine Vk.seq fun K1 hK1 => ?_
  refine Vk.region ?_
  refine Vk.pures 1 [(2, .slice none 0 0)] hs (by kernel_rfl) fun a hs => ?_
  replace hs := hs.pick [0] (L' := [(0, .slice none 0 0)]) (by kernel_rfl)
  refine Vk.done (by kernel_rfl) ?_
  refine hK1 _ _ ?_
  clear hK1
  refine Vk.seq fun K2 hK2 => ?_
  refine Vk.seq fun K3 hK3 => ?_
  refine Vk.region ?_
  refine Vk.pures 2 [(4, .bool true), (3, .slice none 0 0)] hs (by kernel_rfl) fun a hs => ?_
  replace hs := hs.pick [0, 4] (L' := [(0, .slice none 0 0), (4, .bool true)]) (by kernel_rfl)
  refine Vk.done (by kernel_rfl) ?_
  refine hK3 _ _ ?_
  clear hK3
  refine Vk.condT hs (by kernel_rfl) (by kernel_rfl) ?_
  refine Vk.seq fun K4 hK4 => ?_
  refine Vk.region ?_
  refine Vk.pures 1 [(2, .slice none 0 0)] hs (by kernel_rfl) fun a hs => ?_
  replace hs := hs.pick [2] (L' := [(2, .slice none 0 0)]) (by kernel_rfl)
  refine Vk.done (by kernel_rfl) ?_
  refine hK4 _ _ ?_
  clear hK4
  refine wp_ret ?_
  replace hs := hs.addRow none 23 1 (eI .u64)
  exact Vk.ret1 (P := Tryz.prog) (fn := Tryz.f71) (R := slices_Clone_uint64_uint64.R κ S [] none 0 r) (.slice none (([] : List Int).length) 0) hs rfl (by kernel_rfl) (by obtain rfl := Option.some.inj hm; exact ⟨none, 0, rfl, hs.own⟩)
 ·skip
  refine Vk.enter [(0, .slice (some p_x0) x0.length c_x0)] Tryz.func71 rfl Tryz.ntmps71 (by kernel_rfl) (Nat.le_of_ble_eq_true (by kernel_rfl)) ho fun a hs => ?_
  refine Vk.seq fun K1 hK1 => ?_
  refine Vk.region ?_
  refine Vk.pures 1 [(2, .slice none 0 0)] hs (by kernel_rfl) fun a hs => ?_
  replace hs := hs.pick [0] (L' := [(0, .slice (some p_x0) x0.length c_x0)]) (by kernel_rfl)
  refine Vk.done (by kernel_rfl) ?_
  refine hK1 _ _ ?_
  clear hK1
  refine Vk.seq fun K2 hK2 => ?_
  refine Vk.seq fun K3 hK3 => ?_
  refine Vk.region ?_
  refine Vk.pures 2 [(4, .bool false), (3, .slice (some p_x0) x0.length c_x0)] hs (by kernel_rfl) fun a hs => ?_
  replace hs := hs.pick [0, 4] (L' := [(0, .slice (some p_x0) x0.length c_x0), (4, .bool false)]) (by kernel_rfl)
  refine Vk.done (by kernel_rfl) ?_
  refine hK3 _ _ ?_
  clear hK3
  refine Vk.condF hs (by kernel_rfl) (by kernel_rfl) ?_
  refine wp_skip ?_
  refine hK2 _ _ ?_
  clear hK2
  refine Vk.seq fun K4 hK4 => ?_
  refine Vk.region ?_
  refine Vk.step (Vk.buildOp (sz := 1) (by_ := 8) (t := 24) (e := 23) (parts := #[]) (zs := vals [C.int .u64 0]) ([] : List Int) (eI .u64) (some 5) hs (by kernel_rfl) (by kernel_rfl) (by kernel_rfl) (by kernel_rfl) (by decide) rfl (fun x _ => rfl) (Nat.le_of_ble_eq_true (by kernel_rfl)) (by kernel_rfl) fun A_5 w a hs => ?_)
  refine Vk.pures 1 [(6, .slice (some p_x0) x0.length c_x0)] hs (by kernel_rfl) fun a hs => ?_
  obtain ⟨h_7, hm⟩ := ite_t hm
  refine Vk.step (Vk.appendOp (x := (.tmp 5)) (y := (.tmp 6)) (e := 23) (t := 24) (by_ := 8) (sz := 1) (enc := (eI .u64)) (A := A_5) (cap := 0) (xs := ([] : List Int)) (ys := x0) (B := (some p_x0)) (c2 := c_x0) 0 (some 7) hs (by kernel_rfl) (by kernel_rfl) (by kernel_rfl) (by kernel_rfl) rfl hx_x0.less (by kernel_rfl) (by kernel_rfl) (by decide) (by decide) h_7 fun A_8 c_9 w a hs => ?_)
  refine Vk.pures 1 [(2, .slice A_8 ((([] : List Int) ++ x0).length) c_9)] hs (by kernel_rfl) fun a hs => ?_
  replace hs := hs.pick [2] (L' := [(2, .slice A_8 ((([] : List Int) ++ x0).length) c_9)]) (by kernel_rfl)
  refine Vk.done (by kernel_rfl) ?_
  refine hK4 _ _ ?_
  clear hK4
  refine wp_ret ?_
  exact Vk.ret1 (P := Tryz.prog) (fn := Tryz.f71) (R := slices_Clone_uint64_uint64.R κ S x0 (some p_x0) c_x0 r) (.slice A_8 ((([] : List Int) ++ x0).length) c_9) hs rfl (by kernel_rfl) (by obtain rfl := Option.some.inj hm; exact ⟨A_8, c_9, rfl, hs.own⟩)

structure Tatomic_Int64 where
 v : Int
 deriving Inhabited
def Tatomic_Int64.cells (x : Tatomic_Int64) : Cells := [C.int .i64 x.v]

structure Ttape_Tape where
 words : List Int
 used : Tatomic_Int64
 free : Int
 deriving Inhabited
def Ttape_Tape.obj (x : Ttape_Tape) (Awords : Option Addr) (cwords : Nat) : Cells := [C.slc Awords x.words.length cwords, C.int .i64 x.used.v, C.int .i64 x.free]
def Ttape_Tape.parts (b : Nat) (x : Ttape_Tape) (g : Option Addr × Nat) : List HP := [pt b (blk (Ttape_Tape.obj x g.1 g.2) 113), rowp g.1 g.2 23 1 (eI .u64) x.words]
def Ttape_Tape.own (b : Nat) (x : Ttape_Tape) : HP := exBag (Ttape_Tape.parts b x)

abbrev tape_New.R (κ : Ctx) (S : List HP) (x0 : List Int) (A_x0 : Option Addr) (c_x0 : Nat) (r : Ttape_Tape) : Ending → World → Prop := fun e w' => ∃ (b_r0 : Nat), e = .returned (pp b_r0) ∧ Ow κ w' (Ttape_Tape.own b_r0 r :: S)
def tape_New.m (k : Nat) (x0 : List Int) : Option Ttape_Tape := (slices_Clone_uint64_uint64.m k x0).bind fun v_5 => some (⟨v_5, (⟨0⟩ : Tatomic_Int64), 0⟩ : Ttape_Tape)

set_option maxRecDepth 100000 in
set_option maxHeartbeats 4000000 in
theorem tape_New.ok (k : Nat) (x0 : List Int) (r : Ttape_Tape) (hm : tape_New.m k x0 = some r) (κ : Ctx) (w : World) (S : List HP) (A_x0 : Option Addr) (c_x0 : Nat) (hx_x0 : Sl κ S A_x0 c_x0 1 (eI .u64) x0) (ho : Ow κ w (S)) :
  Calls Tryz.prog 45 #[.slice A_x0 x0.length c_x0] w (tape_New.R κ S x0 A_x0 c_x0 r) := by
 unfold tape_New.m at hm
 generalize hRR : tape_New.R κ S x0 A_x0 c_x0 r = RR
 refine qen [(0, .slice A_x0 x0.length c_x0)] Tryz.func45 Tryz.ntmps45 ho fun a hs => ?_
 refine qsk 1 [0] hs fun a hs => ?_
 refine qsr fun K2 hK2 => ?_
 refine qpu 1 hs fun a hs => ?_
 obtain ⟨v_5, h_4, hm⟩ := bind_t hm
 refine Vk.step (Vk.call (some 4) 71 #[.slice A_x0 x0.length c_x0] hs (by kernel_rfl) (by kernel_rfl) (by kernel_rfl) ?_)
 refine (slices_Clone_uint64_uint64.ok k x0 v_5 h_4 κ w (S) A_x0 c_x0 hx_x0 hs.own).mono ?_
 rintro _ w ⟨Ar3x0_6, cr3x0_7, rfl, how⟩
 refine ⟨_, _, _, rfl, how, fun a hs => ?_⟩
 refine qpu 1 hs fun a hs => ?_
 refine qbx 5 113 [C.slc Ar3x0_6 v_5.length cr3x0_7, ci 0, ci 0] 6 hs fun b_8 w a hs => ?_
 refine qpe 1 [(2, pp b_8)] hs fun a hs => hK2 _ _ ?_
 clear hK2
 refine wp_ret ?_
 replace hs := hs.bagG (l := Ttape_Tape.parts b_8 (⟨v_5, (⟨0⟩ : Tatomic_Int64), 0⟩ : Ttape_Tape) (Ar3x0_6, cr3x0_7)) (S' := S) hs.own
 replace hs := hs.toEx (Ttape_Tape.parts b_8 (⟨v_5, (⟨0⟩ : Tatomic_Int64), 0⟩ : Ttape_Tape)) (Ar3x0_6, cr3x0_7) 0 rfl
 exact qr1 (pp b_8) hs rfl hRR (by cases hm; exact ⟨b_8, rfl, hs.own⟩)


abbrev sync_atomic_Int64_Load.R (κ : Ctx) (S : List HP) (x0 : Tatomic_Int64) (b_x0 : Nat) (r : Int) : Ending → World → Prop := fun e w' => e = .returned (vi r) ∧ Ow κ w' (pt b_x0 (blk [ci x0.v] 111) :: S)
def sync_atomic_Int64_Load.m (k : Nat) (x0 : Tatomic_Int64) : Option Int := some x0.v

set_option maxRecDepth 100000 in
set_option maxHeartbeats 4000000 in
theorem sync_atomic_Int64_Load.ok (k : Nat) (x0 : Tatomic_Int64) (r : Int) (hm : sync_atomic_Int64_Load.m k x0 = some r) (κ : Ctx) (w : World) (S : List HP) (b_x0 : Nat) (ho : Ow κ w (pt b_x0 (blk [ci x0.v] 111) :: S)) :
  Calls Tryz.prog 134 #[pp b_x0] w (sync_atomic_Int64_Load.R κ S x0 b_x0 r) := by
 unfold sync_atomic_Int64_Load.m at hm
 generalize hRR : sync_atomic_Int64_Load.R κ S x0 b_x0 r = RR
 refine qen [(0, pp b_x0)] Tryz.func134 Tryz.ntmps134 ho fun a hs => ?_
 refine qse 1 [(0, pp b_x0)] hs fun a hs => ?_
 refine qsr fun K2 hK2 => ?_
 refine qpu 3 hs fun a hs => ?_
 refine Vk.step (Vk.atomLoad (k := .i64) (b := b_x0) (off := 0) (x := x0.v) (some 6) 140 Tryz.f140 hs (by kernel_rfl) (by kernel_rfl) Tryz.func140 (by kernel_rfl) (by kernel_rfl) (Cell.own 0 rfl (by kernel_rfl)) fun a hs => ?_)
 refine qpe 1 [(2, vi x0.v)] hs fun a hs => hK2 _ _ ?_
 clear hK2
 refine wp_ret ?_
 exact qr1 (vi x0.v) hs rfl hRR (by cases hm; exact ⟨rfl, hs.own⟩)


abbrev tape_Tape_Used.R (κ : Ctx) (S : List HP) (x0 : Ttape_Tape) (b_x0 : Nat) (g_x0 : Option Addr × Nat) (r : Int) : Ending → World → Prop := fun e w' => e = .returned (vi r) ∧ Ow κ w' (bagL (Ttape_Tape.parts b_x0 x0 g_x0) :: S)
def tape_Tape_Used.m (k : Nat) (x0 : Ttape_Tape) : Option Int := some x0.used.v

set_option maxRecDepth 100000 in
set_option maxHeartbeats 4000000 in
theorem tape_Tape_Used.ok (k : Nat) (x0 : Ttape_Tape) (r : Int) (hm : tape_Tape_Used.m k x0 = some r) (κ : Ctx) (w : World) (S : List HP) (b_x0 : Nat) (g_x0 : Option Addr × Nat) (ho : Ow κ w (bagL (Ttape_Tape.parts b_x0 x0 g_x0) :: S)) :
  Calls Tryz.prog 117 #[pp b_x0] w (tape_Tape_Used.R κ S x0 b_x0 g_x0 r) := by
 unfold tape_Tape_Used.m at hm
 generalize hRR : tape_Tape_Used.R κ S x0 b_x0 g_x0 r = RR
 refine qen [(0, pp b_x0)] Tryz.func117 Tryz.ntmps117 ho fun a hs => ?_
 refine qse 1 [(0, pp b_x0)] hs fun a hs => ?_
 refine Vk.seq fun K2 hK2 => ?_
 refine qsk 2 [0, 4] hs fun a hs => ?_
 refine qcf hs ?_
 refine wp_skip ?_
 refine hK2 _ _ ?_
 clear hK2
 refine qsr fun K4 hK4 => ?_
 refine qpu 3 hs fun a hs => ?_
 refine Vk.step (Vk.call (some 8) 134 #[.pointer (some ⟨b_x0, 1, none⟩)] hs (by kernel_rfl) (by kernel_rfl) (by kernel_rfl) ?_)
 refine Vk.enterI [(0, .pointer (some ⟨b_x0, 1, none⟩))] Tryz.func134 rfl Tryz.ntmps134 (by kernel_rfl) (Nat.le_of_ble_eq_true (by kernel_rfl)) hs.own fun KR5 hKR5 hKP5 a hs => ?_
 refine qsk 1 [0] hs fun a hs => ?_
 refine qsr fun K7 hK7 => ?_
 refine qpu 3 hs fun a hs => ?_
 replace hs := hs.unbagAt 0 rfl
 refine Vk.step (Vk.atomLoad (k := .i64) (b := b_x0) (off := 1) (x := x0.used.v) (some 6) 140 Tryz.f140 hs (by kernel_rfl) (by kernel_rfl) Tryz.func140 (by kernel_rfl) (by kernel_rfl) (Cell.own 0 rfl (by kernel_rfl)) fun a hs => ?_)
 refine qpe 1 [(2, vi x0.used.v)] hs fun a hs => hK7 _ _ ?_
 clear hK7
 refine wp_ret ?_
 refine hKP5 _ _ ?_
 refine hKR5 _ _ ?_
 refine Vk.ret1 (P := Tryz.prog) (fn := Tryz.f134) (vi x0.used.v) hs rfl (by kernel_rfl) ⟨_, _, _, rfl, hs.own, fun a hs => ?_⟩
 refine qpe 1 [(2, vi x0.used.v)] hs fun a hs => hK4 _ _ ?_
 clear hK4
 refine wp_ret ?_
 replace hs := hs.bagG (l := Ttape_Tape.parts b_x0 x0 g_x0) (S' := S) hs.own
 exact qr1 (vi x0.used.v) hs rfl hRR (by cases hm; exact ⟨rfl, hs.own⟩)


abbrev tape_Tape_Left.R (κ : Ctx) (S : List HP) (x0 : Ttape_Tape) (b_x0 : Nat) (g_x0 : Option Addr × Nat) (r : Int) : Ending → World → Prop := fun e w' => e = .returned (vi r) ∧ Ow κ w' (bagL (Ttape_Tape.parts b_x0 x0 g_x0) :: S)
def tape_Tape_Left.m (k : Nat) (x0 : Ttape_Tape) : Option Int := (tape_Tape_Used.m k x0).bind fun v_9 => some (IntKind.i64.wrap (((x0.words.length : Nat) : Int) - v_9))

set_option maxRecDepth 100000 in
set_option maxHeartbeats 4000000 in
theorem tape_Tape_Left.ok (k : Nat) (x0 : Ttape_Tape) (r : Int) (hm : tape_Tape_Left.m k x0 = some r) (κ : Ctx) (w : World) (S : List HP) (b_x0 : Nat) (g_x0 : Option Addr × Nat) (ho : Ow κ w (bagL (Ttape_Tape.parts b_x0 x0 g_x0) :: S)) :
  Calls Tryz.prog 90 #[pp b_x0] w (tape_Tape_Left.R κ S x0 b_x0 g_x0 r) := by
 unfold tape_Tape_Left.m at hm
 generalize hRR : tape_Tape_Left.R κ S x0 b_x0 g_x0 r = RR
 refine qen [(0, pp b_x0)] Tryz.func90 Tryz.ntmps90 ho fun a hs => ?_
 refine qse 1 [(0, pp b_x0)] hs fun a hs => ?_
 refine Vk.seq fun K2 hK2 => ?_
 refine qsk 2 [0, 4] hs fun a hs => ?_
 refine qcf hs ?_
 refine wp_skip ?_
 refine hK2 _ _ ?_
 clear hK2
 refine Vk.seq fun K4 hK4 => ?_
 replace hs := hs.unbagAt 0 rfl
 obtain ⟨C_6, hC_6⟩ := qC hs.own
 refine qdr 9 κ C_6 hs fun w hs hqC_6 => ?_
 have hcl := qO hC_6 hs.own
 refine qdp (fuel := 5) [0, 1, 2, 5] hs hcl hqC_6 fun a hs => ?_
 refine qdl 3 0 (C.slc g_x0.1 x0.words.length g_x0.2) hs hcl hqC_6 hC_6 rfl fun a hs => ?_
 refine qdp (fuel := 3) [4] hs hcl hqC_6 fun a hs => ?_
 replace hs := hs.bagG (l := Ttape_Tape.parts b_x0 x0 g_x0) (S' := S) hs.own
 obtain ⟨v_9, h_8, hm⟩ := bind_t hm
 refine qdc 6 (tape_Tape_Used.ok _ _ _ h_8 _ _ _ b_x0 g_x0 hs.own) hs fun w a hs => ?_
 replace hs := hs.unbagAt 0 rfl
 replace hcl := qO hC_6 hs.own
 refine ⟨fun _ => hcl, ?_⟩
 refine qdp (fuel := 0) [7, 8] hs hcl hqC_6 fun a hs => ?_
 replace hs := hs.pick [2] (L' := [(2, vi (IntKind.i64.wrap (((x0.words.length : Nat) : Int) - v_9)))]) (by kernel_rfl)
 refine Vk.dDone (by kernel_rfl) ?_
 refine hK4 _ _ ?_
 clear hK4
 refine wp_ret ?_
 replace hs := hs.bagG (l := Ttape_Tape.parts b_x0 x0 g_x0) (S' := S) hs.own
 exact qr1 (vi (IntKind.i64.wrap (((x0.words.length : Nat) : Int) - v_9))) hs rfl hRR (by cases hm; exact ⟨rfl, hs.own⟩)


abbrev tape_Tape_Reserve.R (κ : Ctx) (S : List HP) (x0 : Ttape_Tape) (x1 : Int) (b_x0 : Nat) (r : (Int × Ttape_Tape)) : Ending → World → Prop := fun e w' => e = .returned (vi r.1) ∧ Ow κ w' (Ttape_Tape.own b_x0 r.2 :: S)
def tape_Tape_Reserve.m (k : Nat) (x0 : Ttape_Tape) (x1 : Int) : Option (Int × Ttape_Tape) := (bif decide (x1 < 0) then some (1, x0) else (tape_Tape_Left.m k x0).bind fun v_9 => (bif decide (x1 > v_9) then some (2, x0) else some (0, (⟨x0.words, x0.used, x1⟩ : Ttape_Tape))))

set_option maxRecDepth 100000 in
set_option maxHeartbeats 4000000 in
theorem tape_Tape_Reserve.ok (k : Nat) (x0 : Ttape_Tape) (x1 : Int) (r : (Int × Ttape_Tape)) (hm : tape_Tape_Reserve.m k x0 x1 = some r) (κ : Ctx) (w : World) (S : List HP) (b_x0 : Nat) (ho : Ow κ w (Ttape_Tape.own b_x0 x0 :: S)) :
  Calls Tryz.prog 46 #[pp b_x0, vi x1] w (tape_Tape_Reserve.R κ S x0 x1 b_x0 r) := by
 unfold tape_Tape_Reserve.m at hm
 generalize hRR : tape_Tape_Reserve.R κ S x0 x1 b_x0 r = RR
 refine qen [(0, pp b_x0), (1, vi x1)] Tryz.func46 Tryz.ntmps46 ho fun a hs => ?_
 refine qse 1 [(0, pp b_x0), (1, vi x1)] hs fun a hs => ?_
 refine Vk.seq fun K2 hK2 => ?_
 refine wp_block ?_
 refine qsk 7 [0, 1, 5] hs fun a hs => ?_
 refine qcs (decide (x1 < 0)) hs (fun hb => ?_) fun hb => ?_
 ·replace hm := bif_t hm hb
  refine qse 1 [(4, vi 1)] hs fun a hs => ?_
  refine wp_ret ?_
  exact qr1 (vi 1) hs rfl hRR (by cases hm; exact ⟨rfl, hs.own⟩)
 ·replace hm := bif_f hm hb
  refine qsr fun K5 hK5 => ?_
  refine qpu 2 hs fun a hs => ?_
  obtain ⟨g_6, hs⟩ := hs.unex 0 rfl
  obtain ⟨v_9, h_8, hm⟩ := bind_t hm
  refine qcl (tape_Tape_Left.ok _ _ _ h_8 _ _ _ b_x0 g_6 hs.own) hs fun w a hs => ?_
  refine qpk 2 [0, 1, 12] hs fun a hs => hK5 _ _ ?_
  clear hK5
  refine qcs (decide (x1 > v_9)) hs (fun hb => ?_) fun hb => ?_
  ·replace hm := bif_t hm hb
   refine qse 1 [(4, vi 2)] hs fun a hs => ?_
   refine wp_ret ?_
   replace hs := hs.toEx (Ttape_Tape.parts b_x0 x0) g_6 0 rfl
   exact qr1 (vi 2) hs rfl hRR (by cases hm; exact ⟨rfl, hs.own⟩)
  ·replace hm := bif_f hm hb
   refine wp_skip ?_
   refine hK2 _ _ ?_
   clear hK2
   refine qsr fun K11 hK11 => ?_
   refine qpu 4 hs fun a hs => ?_
   replace hs := hs.unbagAt 0 rfl
   refine qst 0 2 (ci x1) hs rfl fun a w hs => ?_
   refine qpe 0 [] hs fun a hs => hK11 _ _ ?_
   clear hK11
   refine qse 1 [(4, vi 0)] hs fun a hs => ?_
   refine wp_ret ?_
   replace hs := hs.bagG (l := Ttape_Tape.parts b_x0 (⟨x0.words, x0.used, x1⟩ : Ttape_Tape) g_6) (S' := S) hs.own
   replace hs := hs.toEx (Ttape_Tape.parts b_x0 (⟨x0.words, x0.used, x1⟩ : Ttape_Tape)) g_6 0 rfl
   exact qr1 (vi 0) hs rfl hRR (by cases hm; exact ⟨rfl, hs.own⟩)

structure Tapi_Op where
 kind : Int
 dom : Int
 a : Int
 b : Int
 d : Int
 c : Int
 deriving Inhabited
def Tapi_Op.cells (x : Tapi_Op) : Cells := [C.int .i64 x.kind, C.int .i64 x.dom, C.int .i64 x.a, C.int .i64 x.b, C.int .i64 x.d, C.int .u64 x.c]

structure Tapi_Span where
 kind : Int
 fromF : Int
 to : Int
 deriving Inhabited
def Tapi_Span.cells (x : Tapi_Span) : Cells := [C.int .i64 x.kind, C.int .i64 x.fromF, C.int .i64 x.to]

structure Twire_Machine where
 n : Int
 most : Int
 base : Int
 words : Int
 draws : Int
 dry : Bool
 openF : Int
 fromF : Int
 bad : Int
 tape : Ttape_Tape
 ops : List Tapi_Op
 values : List Int
 blocks : List Tapi_Span
 deriving Inhabited
def Twire_Machine.obj (x : Twire_Machine) (btape : Nat) (Aops : Option Addr) (cops : Nat) (Avalues : Option Addr) (cvalues : Nat) (Ablocks : Option Addr) (cblocks : Nat) : Cells := [C.int .i64 x.n, C.int .i64 x.most, C.int .i64 x.base, C.int .i64 x.words, C.int .i64 x.draws, C.bool x.dry, C.int .i64 x.openF, C.int .i64 x.fromF, C.int .i64 x.bad, C.ptr (optA x.dry btape), C.slc Aops x.ops.length cops, C.slc Avalues x.values.length cvalues, C.slc Ablocks x.blocks.length cblocks]
def Twire_Machine.parts (b : Nat) (x : Twire_Machine) (g : Nat × Option Addr × Nat × Option Addr × Nat × Option Addr × Nat) : List HP := [pt b (blk (Twire_Machine.obj x g.1 g.2.1 g.2.2.1 g.2.2.2.1 g.2.2.2.2.1 g.2.2.2.2.2.1 g.2.2.2.2.2.2) 95), opto x.dry (Ttape_Tape.own g.1 x.tape), rowp g.2.1 g.2.2.1 103 6 Tapi_Op.cells x.ops, rowp g.2.2.2.1 g.2.2.2.2.1 23 1 (eI .u64) x.values, rowp g.2.2.2.2.2.1 g.2.2.2.2.2.2 119 3 Tapi_Span.cells x.blocks]
def Twire_Machine.own (b : Nat) (x : Twire_Machine) : HP := exBag (Twire_Machine.parts b x)

abbrev wire_New.R (κ : Ctx) (S : List HP) (x0 : Int) (x1 : Ttape_Tape) (x2 : Int) (b_x1 : Nat) (r : (Sum (Int × Ttape_Tape) (Twire_Machine × Int))) : Ending → World → Prop := fun e w' => (∃ r', r = (Sum.inl r') ∧ e = .returned (.tuple #[.pointer none, vi r'.1]) ∧ Ow κ w' (Ttape_Tape.own b_x1 r'.2 :: S)) ∨ (∃ r', r = (Sum.inr r') ∧ ∃ (b_r0 : Nat), e = .returned (.tuple #[pp b_r0, vi r'.2]) ∧ Ow κ w' (Twire_Machine.own b_r0 r'.1 :: S))
def wire_New.m (k : Nat) (x0 : Int) (x1 : Ttape_Tape) (x2 : Int) : Option (Sum (Int × Ttape_Tape) (Twire_Machine × Int)) := (bif (((x0 != 2) && (x0 != 3)) || (decide (x2 < 0))) || (decide (x2 > 1048576)) then some (Sum.inl (1, x1)) else some (Sum.inr ((⟨x0, x2, 0, 0, 0, false, 0, 0, 0, x1, ([] : List Tapi_Op), ([] : List Int), ([] : List Tapi_Span)⟩ : Twire_Machine), 0)))

set_option maxRecDepth 100000 in
set_option maxHeartbeats 4000000 in
theorem wire_New.ok (k : Nat) (x0 : Int) (x1 : Ttape_Tape) (x2 : Int) (r : (Sum (Int × Ttape_Tape) (Twire_Machine × Int))) (hm : wire_New.m k x0 x1 x2 = some r) (κ : Ctx) (w : World) (S : List HP) (b_x1 : Nat) (ho : Ow κ w (Ttape_Tape.own b_x1 x1 :: S)) :
  Calls Tryz.prog 47 #[vi x0, pp b_x1, vi x2] w (wire_New.R κ S x0 x1 x2 b_x1 r) := by
 unfold wire_New.m at hm
 generalize hRR : wire_New.R κ S x0 x1 x2 b_x1 r = RR
 refine qen [(0, vi x0), (1, pp b_x1), (2, vi x2)] Tryz.func47 Tryz.ntmps47 ho fun a hs => ?_
 refine qsk 2 [0, 1, 2] hs fun a hs => ?_
 refine Vk.seq fun K2 hK2 => ?_
 refine qsr fun K3 hK3 => ?_
 refine qpu 3 hs fun a hs => ?_
 refine qsc 10 3 hs fun a hs => ?_
 refine qpu 1 hs fun a hs => ?_
 refine qsq 14 3 hs fun a hs => ?_
 refine qpu 1 hs fun a hs => ?_
 refine qsc 18 3 hs fun a hs => ?_
 refine qpu 1 hs fun a hs => ?_
 refine qsc 22 3 hs fun a hs => ?_
 refine qpk 0 [0, 1, 2, 25] hs fun a hs => hK3 _ _ ?_
 clear hK3
 refine qcs ((((x0 != 2) && (x0 != 3)) || (decide (x2 < 0))) || (decide (x2 > 1048576))) hs (fun hb => ?_) fun hb => ?_
 ·replace hm := bif_t hm hb
  refine qsk 2 [6, 7] hs fun a hs => ?_
  refine wp_ret ?_
  exact Vk.ret2 (.pointer none) (vi 1) hs rfl (by kernel_rfl) (by kernel_rfl) (hRR ▸ by cases hm; exact (Or.inl ⟨_, rfl, rfl, hs.own⟩))
 ·replace hm := bif_f hm hb
  refine wp_skip ?_
  refine hK2 _ _ ?_
  clear hK2
  refine qsr fun K9 hK9 => ?_
  refine qpu 4 hs fun a hs => ?_
  refine qbx 29 95 [ci x0, ci x2, ci 0, ci 0, ci 0, C.bool false, ci 0, ci 0, ci 0, cp b_x1, C.slc none 0 0, C.slc none 0 0, C.slc none 0 0] 30 hs fun b_10 w a hs => ?_
  refine qpe 2 [(6, pp b_10), (7, vi 0)] hs fun a hs => hK9 _ _ ?_
  clear hK9
  refine wp_ret ?_
  replace hs := hs.addRow none 103 6 Tapi_Op.cells
  replace hs := hs.addRow none 23 1 (eI .u64)
  replace hs := hs.addRow none 119 3 Tapi_Span.cells
  replace hs := hs.bagG (l := Twire_Machine.parts b_10 (⟨x0, x2, 0, 0, 0, false, 0, 0, 0, x1, ([] : List Tapi_Op), ([] : List Int), ([] : List Tapi_Span)⟩ : Twire_Machine) (b_x1, none, 0, none, 0, none, 0)) (S' := S) hs.own.f1.f2.f4.f4
  replace hs := hs.toEx (Twire_Machine.parts b_10 (⟨x0, x2, 0, 0, 0, false, 0, 0, 0, x1, ([] : List Tapi_Op), ([] : List Int), ([] : List Tapi_Span)⟩ : Twire_Machine)) (b_x1, none, 0, none, 0, none, 0) 0 rfl
  exact Vk.ret2 (pp b_10) (vi 0) hs rfl (by kernel_rfl) (by kernel_rfl) (hRR ▸ by cases hm; exact (Or.inr ⟨_, rfl, b_10, rfl, hs.own⟩))

structure Tvisorref02_T where
 l : List Int
 used : Int
 free : Int
 deriving Inhabited
def Tvisorref02_T.obj (x : Tvisorref02_T) (Al : Option Addr) (cl : Nat) : Cells := [C.slc Al x.l.length cl, C.int .i64 x.used, C.int .i64 x.free]
def Tvisorref02_T.parts (κ : Ctx) (b : Nat) (x : Tvisorref02_T) (g : Option Addr × Nat) : List HP := [pt b (blk (Tvisorref02_T.obj x g.1 g.2) 52), rdp κ g.1 g.2 1 (eI .u64) x.l]
def Tvisorref02_T.own (κ : Ctx) (b : Nat) (x : Tvisorref02_T) : HP := exBag (Tvisorref02_T.parts κ b x)

structure Tvisorref19_M where
 n : Int
 most : Int
 words : Int
 draws : Int
 fromF : Int
 skip : Int
 kind : Int
 e : Int
 ops : List Tapi_Op
 blocks : List Tapi_Span
 val : List Int
 tape : Tvisorref02_T
 dry : Bool
 deriving Inhabited
def Tvisorref19_M.obj (x : Tvisorref19_M) (Aops : Option Addr) (cops : Nat) (Ablocks : Option Addr) (cblocks : Nat) (Aval : Option Addr) (cval : Nat) (Atapel : Option Addr) (ctapel : Nat) : Cells := [C.int .i64 x.n, C.int .i64 x.most, C.int .i64 x.words, C.int .i64 x.draws, C.int .i64 x.fromF, C.int .i64 x.skip, C.int .i64 x.kind, C.int .i64 x.e, C.slc Aops x.ops.length cops, C.slc Ablocks x.blocks.length cblocks, C.slc Aval x.val.length cval, C.slc Atapel x.tape.l.length ctapel, C.int .i64 x.tape.used, C.int .i64 x.tape.free, C.bool x.dry]
def Tvisorref19_M.parts (κ : Ctx) (b : Nat) (x : Tvisorref19_M) (g : Option Addr × Nat × Option Addr × Nat × Option Addr × Nat × Option Addr × Nat) : List HP := [pt b (blk (Tvisorref19_M.obj x g.1 g.2.1 g.2.2.1 g.2.2.2.1 g.2.2.2.2.1 g.2.2.2.2.2.1 g.2.2.2.2.2.2.1 g.2.2.2.2.2.2.2) 54), rowp g.1 g.2.1 103 6 Tapi_Op.cells x.ops, rowp g.2.2.1 g.2.2.2.1 119 3 Tapi_Span.cells x.blocks, rowp g.2.2.2.2.1 g.2.2.2.2.2.1 23 1 (eI .u64) x.val, rdp κ g.2.2.2.2.2.2.1 g.2.2.2.2.2.2.2 1 (eI .u64) x.tape.l]
def Tvisorref19_M.own (κ : Ctx) (b : Nat) (x : Tvisorref19_M) : HP := exBag (Tvisorref19_M.parts κ b x)

abbrev visorref19_New.R (κ : Ctx) (S : List HP) (x0 : Int) (x1 : List Int) (x2 : Int) (A_x1 : Option Addr) (c_x1 : Nat) (r : Tvisorref19_M) : Ending → World → Prop := fun e w' => ∃ (b_r0 : Nat), e = .returned (pp b_r0) ∧ Ow κ w' (Tvisorref19_M.own κ b_r0 r :: S)
def visorref19_New.m (k : Nat) (x0 : Int) (x1 : List Int) (x2 : Int) : Option Tvisorref19_M := some (⟨x0, x2, 0, 0, 0, 0, 0, 0, ([] : List Tapi_Op), ([] : List Tapi_Span), ([] : List Int), (⟨x1, 0, ((x1.length : Nat) : Int)⟩ : Tvisorref02_T), false⟩ : Tvisorref19_M)

set_option maxRecDepth 100000 in
set_option maxHeartbeats 4000000 in
theorem visorref19_New.ok (k : Nat) (x0 : Int) (x1 : List Int) (x2 : Int) (r : Tvisorref19_M) (hm : visorref19_New.m k x0 x1 x2 = some r) (κ : Ctx) (w : World) (S : List HP) (A_x1 : Option Addr) (c_x1 : Nat) (ho : Ow κ w (rdp κ A_x1 c_x1 1 (eI .u64) x1 :: S)) :
  Calls Tryz.prog 48 #[vi x0, .slice A_x1 x1.length c_x1, vi x2] w (visorref19_New.R κ S x0 x1 x2 A_x1 c_x1 r) := by
 unfold visorref19_New.m at hm
 generalize hRR : visorref19_New.R κ S x0 x1 x2 A_x1 c_x1 r = RR
 refine qen [(0, vi x0), (1, .slice A_x1 x1.length c_x1), (2, vi x2)] Tryz.func48 Tryz.ntmps48 ho fun a hs => ?_
 refine qsk 1 [0, 1, 2] hs fun a hs => ?_
 refine qsr fun K2 hK2 => ?_
 refine qpu 7 hs fun a hs => ?_
 refine qbx 13 54 [ci x0, ci x2, ci 0, ci 0, ci 0, ci 0, ci 0, ci 0, C.slc none 0 0, C.slc none 0 0, C.slc none 0 0, C.slc A_x1 x1.length c_x1, ci 0, ci ((x1.length : Nat) : Int), C.bool false] 14 hs fun b_3 w a hs => ?_
 refine qpe 1 [(6, pp b_3)] hs fun a hs => hK2 _ _ ?_
 clear hK2
 refine wp_ret ?_
 replace hs := hs.addRow none 103 6 Tapi_Op.cells
 replace hs := hs.addRow none 119 3 Tapi_Span.cells
 replace hs := hs.addRow none 23 1 (eI .u64)
 replace hs := hs.bagG (l := Tvisorref19_M.parts κ b_3 (⟨x0, x2, 0, 0, 0, 0, 0, 0, ([] : List Tapi_Op), ([] : List Tapi_Span), ([] : List Int), (⟨x1, 0, ((x1.length : Nat) : Int)⟩ : Tvisorref02_T), false⟩ : Tvisorref19_M) (none, 0, none, 0, none, 0, A_x1, c_x1)) (S' := S) hs.own.f1.f2.f3
 replace hs := hs.toEx (Tvisorref19_M.parts κ b_3 (⟨x0, x2, 0, 0, 0, 0, 0, 0, ([] : List Tapi_Op), ([] : List Tapi_Span), ([] : List Int), (⟨x1, 0, ((x1.length : Nat) : Int)⟩ : Tvisorref02_T), false⟩ : Tvisorref19_M)) (none, 0, none, 0, none, 0, A_x1, c_x1) 0 rfl
 exact qr1 (pp b_3) hs rfl hRR (by cases hm; exact ⟨b_3, rfl, hs.own⟩)


abbrev visorlaw20_Begins.R (κ : Ctx) (S : List HP) (x0 : Int) (x1 : List Int) (x2 : Int) (A_x1 : Option Addr) (c_x1 : Nat) (r : (Sum (Tvisorref19_M × List Cells × List Int) (Twire_Machine × Tvisorref19_M × List Cells × List Int × Bool))) : Ending → World → Prop := fun e w' => (∃ r', r = (Sum.inl r') ∧ ∃ (b_r0x : Nat), ∃ (A_r0l : Option Addr), ∃ (c_r0l : Nat), ∃ (A_r0v : Option Addr), ∃ (c_r0v : Nat), e = .returned (.tuple #[.agg (vals [C.ptr none, cp b_r0x, C.slc A_r0l r'.2.1.length c_r0l, C.slc A_r0v r'.2.2.length c_r0v]), .bool false]) ∧ Ow κ w' (Tvisorref19_M.own κ b_r0x r'.1 :: rowp A_r0l c_r0l 35 3 eC r'.2.1 :: rowp A_r0v c_r0v 23 1 (eI .u64) r'.2.2 :: S)) ∨ (∃ r', r = (Sum.inr r') ∧ ∃ (b_r0m : Nat), ∃ (b_r0x : Nat), ∃ (A_r0l : Option Addr), ∃ (c_r0l : Nat), ∃ (A_r0v : Option Addr), ∃ (c_r0v : Nat), e = .returned (.tuple #[.agg (vals [cp b_r0m, cp b_r0x, C.slc A_r0l r'.2.2.1.length c_r0l, C.slc A_r0v r'.2.2.2.1.length c_r0v]), .bool r'.2.2.2.2]) ∧ Ow κ w' (Twire_Machine.own b_r0m r'.1 :: Tvisorref19_M.own κ b_r0x r'.2.1 :: rowp A_r0l c_r0l 35 3 eC r'.2.2.1 :: rowp A_r0v c_r0v 23 1 (eI .u64) r'.2.2.2.1 :: S))
def visorlaw20_Begins.m (k : Nat) (x0 : Int) (x1 : List Int) (x2 : Int) : Option (Sum (Tvisorref19_M × List Cells × List Int) (Twire_Machine × Tvisorref19_M × List Cells × List Int × Bool)) := (tape_New.m k x1).bind fun v_6 => (tape_Tape_Reserve.m k v_6 ((x1.length : Nat) : Int)).bind fun v_11 => ((wire_New.m k x0 v_11.2 x2).bind fun v => match v with | (.inl v_16) => (visorref19_New.m k x0 x1 x2).bind fun v_22 => some (Sum.inl (v_22, ([] : List Cells), ([] : List Int))) | (.inr v_17) => (visorref19_New.m k x0 x1 x2).bind fun v_29 => some (Sum.inr (v_17.1, v_29, ([] : List Cells), ([] : List Int), (v_11.1 == 0) && (v_17.2 == 0))))

set_option maxRecDepth 100000 in
set_option maxHeartbeats 4000000 in
theorem visorlaw20_Begins.ok (k : Nat) (x0 : Int) (x1 : List Int) (x2 : Int) (r : (Sum (Tvisorref19_M × List Cells × List Int) (Twire_Machine × Tvisorref19_M × List Cells × List Int × Bool))) (hm : visorlaw20_Begins.m k x0 x1 x2 = some r) (κ : Ctx) (w : World) (S : List HP) (A_x1 : Option Addr) (c_x1 : Nat) (ho : Ow κ w (rdp κ A_x1 c_x1 1 (eI .u64) x1 :: S)) :
  Calls Tryz.prog 6 #[vi x0, .slice A_x1 x1.length c_x1, vi x2] w (visorlaw20_Begins.R κ S x0 x1 x2 A_x1 c_x1 r) := by
 unfold visorlaw20_Begins.m at hm
 generalize hRR : visorlaw20_Begins.R κ S x0 x1 x2 A_x1 c_x1 r = RR
 refine qen [(0, vi x0), (1, .slice A_x1 x1.length c_x1), (2, vi x2)] Tryz.func6 Tryz.ntmps6 ho fun a hs => ?_
 refine qsr fun K1 hK1 => ?_
 refine qal 30 [C.ptr none, C.ptr none, C.slc none 0 0, C.slc none 0 0] 6 hs fun b_2 w a hs => ?_
 refine qpk 1 [0, 1, 2, 6] hs fun a hs => hK1 _ _ ?_
 clear hK1
 refine qsr fun K3 hK3 => ?_
 refine qpu 1 hs fun a hs => ?_
 obtain ⟨v_6, h_5, hm⟩ := bind_t hm
 refine Vk.step (Vk.call (some 13) 45 #[.slice A_x1 x1.length c_x1] hs (by kernel_rfl) (by kernel_rfl) (by kernel_rfl) ?_)
 refine (tape_New.ok k x1 v_6 h_5 κ w (pt b_2 (blk [C.ptr none, C.ptr none, C.slc none 0 0, C.slc none 0 0] 30) :: rdp κ A_x1 c_x1 1 (eI .u64) x1 :: S) A_x1 c_x1 ((Ow.rdSl 0 hs.own.drop rfl).less) hs.own).mono ?_
 rintro _ w ⟨br4x0_7, rfl, how⟩
 refine ⟨_, _, _, rfl, how, fun a hs => ?_⟩
 refine qpk 1 [0, 1, 2, 6, 8] hs fun a hs => hK3 _ _ ?_
 clear hK3
 refine qsr fun K8 hK8 => ?_
 refine qpu 3 hs fun a hs => ?_
 obtain ⟨v_11, h_10, hm⟩ := bind_t hm
 refine qcl (tape_Tape_Reserve.ok _ _ _ _ h_10 _ _ _ br4x0_7 hs.own) hs fun w a hs => ?_
 refine qpk 1 [0, 1, 2, 6, 8, 9] hs fun a hs => hK8 _ _ ?_
 clear hK8
 refine qsr fun K12 hK12 => ?_
 refine qpu 3 hs fun a hs => ?_
 obtain ⟨v_15, h_14, hm⟩ := bind_t hm
 refine Vk.step (Vk.call (some 22) 47 #[vi x0, pp br4x0_7, vi x2] hs (by kernel_rfl) (by kernel_rfl) (by kernel_rfl) ?_)
 refine (wire_New.ok k x0 v_11.2 x2 v_15 h_14 κ w (pt b_2 (blk [C.ptr none, C.ptr none, C.slc none 0 0, C.slc none 0 0] 30) :: rdp κ A_x1 c_x1 1 (eI .u64) x1 :: S) br4x0_7 hs.own).mono ?_
 rintro _ w (⟨v_16, rfl, rfl, how⟩ | ⟨v_17, rfl, br13x0_18, rfl, how⟩)
 ·dsimp only at hm
  refine ⟨_, _, _, rfl, how, fun a hs => ?_⟩
  refine qpe 5 [(0, vi x0), (1, .slice A_x1 x1.length c_x1), (2, vi x2), (6, pp b_2), (9, vi v_11.1), (10, .pointer none), (11, vi v_16.1)] hs fun a hs => hK12 _ _ ?_
  refine qsr fun K19 hK19 => ?_
  refine qpu 4 hs fun a hs => ?_
  obtain ⟨v_22, h_21, hm⟩ := bind_t hm
  refine Vk.step (Vk.call (some 29) 48 #[vi x0, .slice A_x1 x1.length c_x1, vi x2] hs (by kernel_rfl) (by kernel_rfl) (by kernel_rfl) ?_)
  refine (visorref19_New.ok k x0 x1 x2 v_22 h_21 κ w (Ttape_Tape.own br4x0_7 v_16.2 :: pt b_2 (blk [C.ptr none, C.ptr none, C.slc none 0 0, C.slc none 0 0] 30) :: S) A_x1 c_x1 hs.own.f2).mono ?_
  rintro _ w ⟨br20x0_23, rfl, how⟩
  refine ⟨_, _, _, rfl, how, fun a hs => ?_⟩
  refine qpu 4 hs fun a hs => ?_
  refine qsc 33 3 hs fun a hs => ?_
  refine qpu 1 hs fun a hs => ?_
  suffices hj_25 : ∀ a, St 41 a w κ [(0, vi x0), (1, .slice A_x1 x1.length c_x1), (2, vi x2), (6, pp b_2), (9, vi v_11.1), (10, .pointer none), (11, vi v_16.1), (25, .pointer none), (26, vi x0), (27, .slice A_x1 x1.length c_x1), (28, vi x2), (29, pp br20x0_23), (30, .agg (vals [C.ptr none, cp br20x0_23, C.slc none 0 0, C.slc none 0 0])), (31, vi v_11.1), (32, .bool (v_11.1 == 0)), (33, .bool (v_11.1 == 0)), (36, .bool ((v_11.1 == 0) && (v_16.1 == 0))), (37, .bool ((v_11.1 == 0) && (v_16.1 == 0))), (40, .bool false)] (Tvisorref19_M.own κ br20x0_23 v_22 :: Ttape_Tape.own br4x0_7 v_16.2 :: pt b_2 (blk [C.ptr none, C.ptr none, C.slc none 0 0, C.slc none 0 0] 30) :: S) → wpFrom Tryz.prog _ _ 16 a w by
   rcases Bool.eq_false_or_eq_true ((v_11.1 == 0) && (v_16.1 == 0)) with hb | hb
   ·replace hs := hs.known (t := 37) hb (by kernel_rfl)
    refine qpu 3 hs fun a hs => ?_
    have hq := hs.pick [0, 1, 2, 6, 9, 10, 11, 25, 26, 27, 28, 29, 30, 31, 32, 33, 36, 37, 40] (L' := [(0, vi x0), (1, .slice A_x1 x1.length c_x1), (2, vi x2), (6, pp b_2), (9, vi v_11.1), (10, .pointer none), (11, vi v_16.1), (25, .pointer none), (26, vi x0), (27, .slice A_x1 x1.length c_x1), (28, vi x2), (29, pp br20x0_23), (30, .agg (vals [C.ptr none, cp br20x0_23, C.slc none 0 0, C.slc none 0 0])), (31, vi v_11.1), (32, .bool (v_11.1 == 0)), (33, .bool (v_11.1 == 0)), (36, .bool ((v_11.1 == 0) && (v_16.1 == 0))), (37, .bool true), (40, .bool false)]) (by kernel_rfl)
    exact hj_25 _ (hq.conv (by first | (rw [hb] <;> rfl) | rfl))
   ·replace hs := hs.known (t := 37) hb (by kernel_rfl)
    refine qpu 3 hs fun a hs => ?_
    have hq := hs.pick [0, 1, 2, 6, 9, 10, 11, 25, 26, 27, 28, 29, 30, 31, 32, 33, 36, 37, 40] (L' := [(0, vi x0), (1, .slice A_x1 x1.length c_x1), (2, vi x2), (6, pp b_2), (9, vi v_11.1), (10, .pointer none), (11, vi v_16.1), (25, .pointer none), (26, vi x0), (27, .slice A_x1 x1.length c_x1), (28, vi x2), (29, pp br20x0_23), (30, .agg (vals [C.ptr none, cp br20x0_23, C.slc none 0 0, C.slc none 0 0])), (31, vi v_11.1), (32, .bool (v_11.1 == 0)), (33, .bool (v_11.1 == 0)), (36, .bool ((v_11.1 == 0) && (v_16.1 == 0))), (37, .bool false), (40, .bool false)]) (by kernel_rfl)
    exact hj_25 _ (hq.conv (by first | (rw [hb] <;> rfl) | rfl))
  intro a hs
  refine qsa 2 [C.ptr none, cp br20x0_23, C.slc none 0 0, C.slc none 0 0] hs rfl fun a w hs => ?_
  refine qpk 1 [6, 7] hs fun a hs => hK19 _ _ ?_
  clear hK19
  refine wp_ret ?_
  replace hs := hs.addRow none 35 3 eC
  replace hs := hs.addRow none 23 1 (eI .u64)
  exact Vk.retCT ([C.ptr none, cp br20x0_23, C.slc none (([] : List Cells).length) 0, C.slc none (([] : List Int).length) 0]) (.bool false) hs rfl (by kernel_rfl) (sz := 4) (by kernel_rfl) rfl (CellsAt.all 4 rfl) (by kernel_rfl) (hRR ▸ by cases hm; exact (Or.inl ⟨_, rfl, br20x0_23, none, 0, none, 0, rfl, (hs.own.too [2, 1, 0] 5)⟩))
 ·dsimp only at hm
  refine ⟨_, _, _, rfl, how, fun a hs => ?_⟩
  refine qpk 5 [0, 1, 2, 6, 9, 10, 11] hs fun a hs => hK12 _ _ ?_
  refine qsr fun K26 hK26 => ?_
  refine qpu 4 hs fun a hs => ?_
  obtain ⟨v_29, h_28, hm⟩ := bind_t hm
  refine Vk.step (Vk.call (some 29) 48 #[vi x0, .slice A_x1 x1.length c_x1, vi x2] hs (by kernel_rfl) (by kernel_rfl) (by kernel_rfl) ?_)
  refine (visorref19_New.ok k x0 x1 x2 v_29 h_28 κ w (Twire_Machine.own br13x0_18 v_17.1 :: pt b_2 (blk [C.ptr none, C.ptr none, C.slc none 0 0, C.slc none 0 0] 30) :: S) A_x1 c_x1 hs.own.f2).mono ?_
  rintro _ w ⟨br27x0_30, rfl, how⟩
  refine ⟨_, _, _, rfl, how, fun a hs => ?_⟩
  refine qpu 4 hs fun a hs => ?_
  refine qsc 33 3 hs fun a hs => ?_
  refine qpu 1 hs fun a hs => ?_
  refine qsq 37 3 hs fun a hs => ?_
  refine qsa 2 [cp br13x0_18, cp br27x0_30, C.slc none 0 0, C.slc none 0 0] hs rfl fun a w hs => ?_
  refine qpk 1 [6, 7] hs fun a hs => hK26 _ _ ?_
  clear hK26
  refine wp_ret ?_
  replace hs := hs.addRow none 35 3 eC
  replace hs := hs.addRow none 23 1 (eI .u64)
  exact Vk.retCT ([cp br13x0_18, cp br27x0_30, C.slc none (([] : List Cells).length) 0, C.slc none (([] : List Int).length) 0]) (.bool ((v_11.1 == 0) && (v_17.2 == 0))) hs rfl (by kernel_rfl) (sz := 4) (by kernel_rfl) rfl (CellsAt.all 4 rfl) (by kernel_rfl) (hRR ▸ by cases hm; exact (Or.inr ⟨_, rfl, br13x0_18, br27x0_30, none, 0, none, 0, rfl, hs.own.f4.drop.f1.f2.f3⟩))


abbrev wire_Machine_Len.R (κ : Ctx) (S : List HP) (x0 : Twire_Machine) (b_x0 : Nat) (g_x0 : Nat × Option Addr × Nat × Option Addr × Nat × Option Addr × Nat) (r : Int) : Ending → World → Prop := fun e w' => e = .returned (vi r) ∧ Ow κ w' (bagL (Twire_Machine.parts b_x0 x0 g_x0) :: S)
def wire_Machine_Len.m (k : Nat) (x0 : Twire_Machine) : Option Int := some (IntKind.i64.wrap (x0.base + ((x0.ops.length : Nat) : Int)))

set_option maxRecDepth 100000 in
set_option maxHeartbeats 4000000 in
theorem wire_Machine_Len.ok (k : Nat) (x0 : Twire_Machine) (r : Int) (hm : wire_Machine_Len.m k x0 = some r) (κ : Ctx) (w : World) (S : List HP) (b_x0 : Nat) (g_x0 : Nat × Option Addr × Nat × Option Addr × Nat × Option Addr × Nat) (ho : Ow κ w (bagL (Twire_Machine.parts b_x0 x0 g_x0) :: S)) :
  Calls Tryz.prog 119 #[pp b_x0] w (wire_Machine_Len.R κ S x0 b_x0 g_x0 r) := by
 unfold wire_Machine_Len.m at hm
 generalize hRR : wire_Machine_Len.R κ S x0 b_x0 g_x0 r = RR
 refine qen [(0, pp b_x0)] Tryz.func119 Tryz.ntmps119 ho fun a hs => ?_
 refine qse 1 [(0, pp b_x0)] hs fun a hs => ?_
 refine Vk.seq fun K2 hK2 => ?_
 refine qsk 2 [0, 4] hs fun a hs => ?_
 refine qcf hs ?_
 refine wp_skip ?_
 refine hK2 _ _ ?_
 clear hK2
 refine Vk.seq fun K4 hK4 => ?_
 replace hs := hs.unbagAt 0 rfl
 obtain ⟨C_8, hC_8⟩ := qC hs.own
 refine qdr 11 κ C_8 hs fun w hs hqC_8 => ?_
 have hcl := qO hC_8 hs.own
 refine qdp (fuel := 5) [0, 1, 2, 4, 5, 6] hs hcl hqC_8 fun a hs => ?_
 refine qdl 3 0 (ci x0.base) hs hcl hqC_8 hC_8 rfl fun a hs => ?_
 refine qdl 7 0 (C.slc g_x0.2.1 x0.ops.length g_x0.2.2.1) hs hcl hqC_8 hC_8 rfl fun a hs => ?_
 refine qdp (fuel := 0) [8, 9, 10] hs hcl hqC_8 fun a hs => ?_
 replace hs := hs.pick [2] (L' := [(2, vi (IntKind.i64.wrap (x0.base + ((x0.ops.length : Nat) : Int))))]) (by kernel_rfl)
 refine Vk.dDone (by kernel_rfl) ?_
 refine hK4 _ _ ?_
 clear hK4
 refine wp_ret ?_
 replace hs := hs.bagG (l := Twire_Machine.parts b_x0 x0 g_x0) (S' := S) hs.own
 exact qr1 (vi (IntKind.i64.wrap (x0.base + ((x0.ops.length : Nat) : Int)))) hs rfl hRR (by cases hm; exact ⟨rfl, hs.own⟩)


abbrev op_is.R (κ : Ctx) (S : List HP) (x0 : Int) (r : Bool) : Ending → World → Prop := fun e w' => e = .returned (.bool r) ∧ Ow κ w' (S)
def op_is.m (k : Nat) (x0 : Int) : Option Bool := some ((decide (x0 ≥ 1)) && (decide (x0 ≤ 12)))

set_option maxRecDepth 100000 in
set_option maxHeartbeats 4000000 in
theorem op_is.ok (k : Nat) (x0 : Int) (r : Bool) (hm : op_is.m k x0 = some r) (κ : Ctx) (w : World) (S : List HP) (ho : Ow κ w (S)) :
  Calls Tryz.prog 141 #[vi x0] w (op_is.R κ S x0 r) := by
 unfold op_is.m at hm
 generalize hRR : op_is.R κ S x0 r = RR
 refine qen [(0, vi x0)] Tryz.func141 Tryz.ntmps141 ho fun a hs => ?_
 refine qse 1 [(0, vi x0)] hs fun a hs => ?_
 refine qsr fun K2 hK2 => ?_
 refine qpu 3 hs fun a hs => ?_
 refine qsc 5 3 hs fun a hs => ?_
 refine qpk 1 [2] hs fun a hs => hK2 _ _ ?_
 clear hK2
 refine wp_ret ?_
 exact qr1 (.bool ((decide (x0 ≥ 1)) && (decide (x0 ≤ 12)))) hs rfl hRR (by cases hm; exact ⟨rfl, hs.own⟩)


def op_Regs.j2 (k : Nat) (x0 : Int) (x1 : Int) (p_19 : Bool) : Option (Int) := (bif p_19 then some 1 else (bif x0 == 12 then some x1 else some 0))
def op_Regs.j1 (k : Nat) (x0 : Int) (x1 : Int) (p_12 : Bool) : Option (Int) := (bif p_12 then some 2 else (bif x0 == 6 then op_Regs.j2 k x0 x1 (x0 == 6) else (bif x0 == 8 then op_Regs.j2 k x0 x1 (x0 == 8) else (bif x0 == 9 then op_Regs.j2 k x0 x1 (x0 == 9) else (bif x0 == 10 then op_Regs.j2 k x0 x1 (x0 == 10) else op_Regs.j2 k x0 x1 (x0 == 11))))))
abbrev op_Regs.R (κ : Ctx) (S : List HP) (x0 : Int) (x1 : Int) (r : Int) : Ending → World → Prop := fun e w' => e = .returned (vi r) ∧ Ow κ w' (S)
def op_Regs.m (k : Nat) (x0 : Int) (x1 : Int) : Option Int := (bif (x1 != 2) && (x1 != 3) then some 0 else (bif x0 == 2 then some (IntKind.i64.wrap (x1 - 1)) else (bif x0 == 5 then op_Regs.j1 k x0 x1 (x0 == 5) else op_Regs.j1 k x0 x1 (x0 == 7))))

set_option maxRecDepth 100000 in
set_option maxHeartbeats 4000000 in
theorem op_Regs.ok (k : Nat) (x0 : Int) (x1 : Int) (r : Int) (hm : op_Regs.m k x0 x1 = some r) (κ : Ctx) (w : World) (S : List HP) (ho : Ow κ w (S)) :
  Calls Tryz.prog 142 #[vi x0, vi x1] w (op_Regs.R κ S x0 x1 r) := by
 unfold op_Regs.m at hm
 generalize hRR : op_Regs.R κ S x0 x1 r = RR
 refine qen [(0, vi x0), (1, vi x1)] Tryz.func142 Tryz.ntmps142 ho fun a hs => ?_
 refine qse 1 [(0, vi x0), (1, vi x1)] hs fun a hs => ?_
 refine Vk.seq fun K2 hK2 => ?_
 refine qsr fun K3 hK3 => ?_
 refine qpu 3 hs fun a hs => ?_
 refine qsc 7 3 hs fun a hs => ?_
 refine qpk 0 [0, 1, 10] hs fun a hs => hK3 _ _ ?_
 clear hK3
 refine qcs ((x1 != 2) && (x1 != 3)) hs (fun hb => ?_) fun hb => ?_
 ·replace hm := bif_t hm hb
  refine qse 1 [(4, vi 0)] hs fun a hs => ?_
  refine wp_ret ?_
  exact qr1 (vi 0) hs rfl hRR (by cases hm; exact ⟨rfl, hs.own⟩)
 ·replace hm := bif_f hm hb
  refine wp_skip ?_
  refine hK2 _ _ ?_
  clear hK2
  refine Vk.seq fun K6 hK6 => ?_
  refine qse 1 [(1, vi x1), (11, vi x0)] hs fun a hs => ?_
  refine wp_block ?_
  refine qsk 2 [1, 11, 12] hs fun a hs => ?_
  refine qcs (x0 == 2) hs (fun hb => ?_) fun hb => ?_
  ·replace hm := bif_t hm hb
   refine qsk 3 [4] hs fun a hs => ?_
   refine wp_ret ?_
   exact qr1 (vi (IntKind.i64.wrap (x1 - 1))) hs rfl hRR (by cases hm; exact ⟨rfl, hs.own⟩)
  ·replace hm := bif_f hm hb
   refine Vk.seq fun K10 hK10 => ?_
   have hj10 : ∀ (p_12 : Bool), op_Regs.j1 k x0 x1 p_12 = some r → ∀ (a : Act) (w : World), St 28 a w κ [(1, vi x1), (11, vi x0), (16, .bool p_12)] (S) → K10 a w := by
    intro p_12 hm a w hs
    unfold op_Regs.j1 at hm
    refine hK10 _ _ ?_
    refine qcs (p_12) hs (fun hb => ?_) fun hb => ?_
    ·replace hm := bif_t hm hb
     refine qse 1 [(4, vi 2)] hs fun a hs => ?_
     refine wp_ret ?_
     exact qr1 (vi 2) hs rfl hRR (by cases hm; exact ⟨rfl, hs.own⟩)
    ·replace hm := bif_f hm hb
     refine Vk.seq fun K14 hK14 => ?_
     have hj14 : ∀ (p_19 : Bool), op_Regs.j2 k x0 x1 p_19 = some r → ∀ (a : Act) (w : World), St 28 a w κ [(1, vi x1), (11, vi x0), (19, .bool p_19)] (S) → K14 a w := by
      intro p_19 hm a w hs
      unfold op_Regs.j2 at hm
      refine hK14 _ _ ?_
      refine qcs (p_19) hs (fun hb => ?_) fun hb => ?_
      ·replace hm := bif_t hm hb
       refine qse 1 [(4, vi 1)] hs fun a hs => ?_
       refine wp_ret ?_
       exact qr1 (vi 1) hs rfl hRR (by cases hm; exact ⟨rfl, hs.own⟩)
      ·replace hm := bif_f hm hb
       refine qsk 2 [1, 25] hs fun a hs => ?_
       refine qcs (x0 == 12) hs (fun hb => ?_) fun hb => ?_
       ·replace hm := bif_t hm hb
        refine qse 2 [(4, vi x1)] hs fun a hs => ?_
        refine wp_ret ?_
        exact qr1 (vi x1) hs rfl hRR (by cases hm; exact ⟨rfl, hs.own⟩)
       ·replace hm := bif_f hm hb
        refine wp_skip ?_
        refine hK6 _ _ ?_
        clear hK6
        refine qse 1 [(4, vi 0)] hs fun a hs => ?_
        refine wp_ret ?_
        exact qr1 (vi 0) hs rfl hRR (by cases hm; exact ⟨rfl, hs.own⟩)
     refine qse 2 [(1, vi x1), (11, vi x0), (19, .bool (x0 == 6))] hs fun a hs => ?_
     refine qcs (x0 == 6) hs (fun hb => ?_) fun hb => ?_
     ·replace hm := bif_t hm hb
      refine wp_skip ?_
      exact hj14 (x0 == 6) hm _ _ (hs.go [1, 11, 19] [] 0 (by kernel_rfl) (by kernel_rfl) (by kernel_rfl))
     ·replace hm := bif_f hm hb
      refine qse 2 [(1, vi x1), (11, vi x0), (19, .bool (x0 == 8))] hs fun a hs => ?_
      refine qcs (x0 == 8) hs (fun hb => ?_) fun hb => ?_
      ·replace hm := bif_t hm hb
       refine wp_skip ?_
       exact hj14 (x0 == 8) hm _ _ (hs.go [1, 11, 19] [] 0 (by kernel_rfl) (by kernel_rfl) (by kernel_rfl))
      ·replace hm := bif_f hm hb
       refine qse 2 [(1, vi x1), (11, vi x0), (19, .bool (x0 == 9))] hs fun a hs => ?_
       refine qcs (x0 == 9) hs (fun hb => ?_) fun hb => ?_
       ·replace hm := bif_t hm hb
        refine wp_skip ?_
        exact hj14 (x0 == 9) hm _ _ (hs.go [1, 11, 19] [] 0 (by kernel_rfl) (by kernel_rfl) (by kernel_rfl))
       ·replace hm := bif_f hm hb
        refine qse 2 [(1, vi x1), (11, vi x0), (19, .bool (x0 == 10))] hs fun a hs => ?_
        refine qcs (x0 == 10) hs (fun hb => ?_) fun hb => ?_
        ·replace hm := bif_t hm hb
         refine wp_skip ?_
         exact hj14 (x0 == 10) hm _ _ (hs.go [1, 11, 19] [] 0 (by kernel_rfl) (by kernel_rfl) (by kernel_rfl))
        ·replace hm := bif_f hm hb
         refine Vk.region ?_
         refine qpe 2 [(1, vi x1), (11, vi x0), (19, .bool (x0 == 11))] hs fun a hs => ?_
         exact hj14 (x0 == 11) hm _ _ (hs.go [1, 11, 19] [] 0 (by kernel_rfl) (by kernel_rfl) (by kernel_rfl))
   refine qse 2 [(1, vi x1), (11, vi x0), (16, .bool (x0 == 5))] hs fun a hs => ?_
   refine qcs (x0 == 5) hs (fun hb => ?_) fun hb => ?_
   ·replace hm := bif_t hm hb
    refine wp_skip ?_
    exact hj10 (x0 == 5) hm _ _ (hs.go [1, 11, 16] [] 0 (by kernel_rfl) (by kernel_rfl) (by kernel_rfl))
   ·replace hm := bif_f hm hb
    refine Vk.region ?_
    refine qpe 2 [(1, vi x1), (11, vi x0), (16, .bool (x0 == 7))] hs fun a hs => ?_
    exact hj10 (x0 == 7) hm _ _ (hs.go [1, 11, 16] [] 0 (by kernel_rfl) (by kernel_rfl) (by kernel_rfl))


def op_constant.j2 (k : Nat) (x0 : Tapi_Op) (p_15 : Bool) : Option (Bool) := (bif p_15 then some true else some (x0.c == 0))
def op_constant.j1 (k : Nat) (x0 : Tapi_Op) (p_8 : Bool) : Option (Bool) := (bif p_8 then some (decide (x0.c < 64)) else (bif x0.kind == 2 then some (decide (x0.c < 1048576)) else (bif x0.kind == 3 then op_constant.j2 k x0 (x0.kind == 3) else (bif x0.kind == 4 then op_constant.j2 k x0 (x0.kind == 4) else op_constant.j2 k x0 (x0.kind == 8)))))
abbrev op_constant.R (κ : Ctx) (S : List HP) (x0 : Tapi_Op) (r : Bool) : Ending → World → Prop := fun e w' => e = .returned (.bool r) ∧ Ow κ w' (S)
def op_constant.m (k : Nat) (x0 : Tapi_Op) : Option Bool := (bif x0.kind == 9 then op_constant.j1 k x0 (x0.kind == 9) else (bif x0.kind == 10 then op_constant.j1 k x0 (x0.kind == 10) else op_constant.j1 k x0 (x0.kind == 11)))

set_option maxRecDepth 100000 in
set_option maxHeartbeats 4000000 in
theorem op_constant.ok (k : Nat) (x0 : Tapi_Op) (r : Bool) (hm : op_constant.m k x0 = some r) (κ : Ctx) (w : World) (S : List HP) (ho : Ow κ w (S)) :
  Calls Tryz.prog 143 #[.agg (vals [ci x0.kind, ci x0.dom, ci x0.a, ci x0.b, ci x0.d, cw x0.c])] w (op_constant.R κ S x0 r) := by
 unfold op_constant.m at hm
 generalize hRR : op_constant.R κ S x0 r = RR
 refine qen [(0, .agg (vals [ci x0.kind, ci x0.dom, ci x0.a, ci x0.b, ci x0.d, cw x0.c]))] Tryz.func143 Tryz.ntmps143 ho fun a hs => ?_
 refine qsr fun K1 hK1 => ?_
 refine qbx 0 103 [ci x0.kind, ci x0.dom, ci x0.a, ci x0.b, ci x0.d, cw x0.c] 1 hs fun b_2 w a hs => ?_
 refine qpe 1 [(1, pp b_2)] hs fun a hs => hK1 _ _ ?_
 clear hK1
 refine Vk.seq fun K3 hK3 => ?_
 refine qsr fun K4 hK4 => ?_
 refine qpu 1 hs fun a hs => ?_
 refine qld 0 (ci x0.kind) hs rfl fun a hs => ?_
 refine qpk 0 [1, 4] hs fun a hs => hK4 _ _ ?_
 clear hK4
 refine wp_block ?_
 refine Vk.seq fun K5 hK5 => ?_
 have hj5 : ∀ (p_8 : Bool), op_constant.j1 k x0 p_8 = some r → ∀ (a : Act) (w : World), St 24 a w κ [(1, pp b_2), (4, vi x0.kind), (5, .bool p_8)] (pt b_2 (blk (Tapi_Op.cells x0) 103) :: S) → K5 a w := by
  intro p_8 hm a w hs
  unfold op_constant.j1 at hm
  refine hK5 _ _ ?_
  refine qcs (p_8) hs (fun hb => ?_) fun hb => ?_
  ·replace hm := bif_t hm hb
   refine qsr fun K9 hK9 => ?_
   refine qpu 1 hs fun a hs => ?_
   refine qld 0 (cw x0.c) hs rfl fun a hs => ?_
   refine qpk 2 [2] hs fun a hs => hK9 _ _ ?_
   clear hK9
   refine wp_ret ?_
   exact qr1 (.bool (decide (x0.c < 64))) hs rfl hRR (by cases hm; exact ⟨rfl, hs.own.drop⟩)
  ·replace hm := bif_f hm hb
   refine qsk 2 [1, 4, 12] hs fun a hs => ?_
   refine qcs (x0.kind == 2) hs (fun hb => ?_) fun hb => ?_
   ·replace hm := bif_t hm hb
    refine qsr fun K11 hK11 => ?_
    refine qpu 1 hs fun a hs => ?_
    refine qld 0 (cw x0.c) hs rfl fun a hs => ?_
    refine qpk 2 [2] hs fun a hs => hK11 _ _ ?_
    clear hK11
    refine wp_ret ?_
    exact qr1 (.bool (decide (x0.c < 1048576))) hs rfl hRR (by cases hm; exact ⟨rfl, hs.own.drop⟩)
   ·replace hm := bif_f hm hb
    refine Vk.seq fun K12 hK12 => ?_
    have hj12 : ∀ (p_15 : Bool), op_constant.j2 k x0 p_15 = some r → ∀ (a : Act) (w : World), St 24 a w κ [(1, pp b_2), (17, .bool p_15)] (pt b_2 (blk (Tapi_Op.cells x0) 103) :: S) → K12 a w := by
     intro p_15 hm a w hs
     unfold op_constant.j2 at hm
     refine hK12 _ _ ?_
     refine qcs (p_15) hs (fun hb => ?_) fun hb => ?_
     ·replace hm := bif_t hm hb
      refine qse 1 [(2, .bool true)] hs fun a hs => ?_
      refine wp_ret ?_
      exact qr1 (.bool true) hs rfl hRR (by cases hm; exact ⟨rfl, hs.own.drop⟩)
     ·replace hm := bif_f hm hb
      refine wp_skip ?_
      refine hK3 _ _ ?_
      clear hK3
      refine qsr fun K17 hK17 => ?_
      refine qpu 1 hs fun a hs => ?_
      refine qld 0 (cw x0.c) hs rfl fun a hs => ?_
      refine qpe 2 [(2, .bool (x0.c == 0))] hs fun a hs => hK17 _ _ ?_
      clear hK17
      refine wp_ret ?_
      exact qr1 (.bool (x0.c == 0)) hs rfl hRR (by cases hm; exact ⟨rfl, hs.own.drop⟩)
    refine qse 2 [(1, pp b_2), (4, vi x0.kind), (17, .bool (x0.kind == 3))] hs fun a hs => ?_
    refine qcs (x0.kind == 3) hs (fun hb => ?_) fun hb => ?_
    ·replace hm := bif_t hm hb
     refine wp_skip ?_
     exact hj12 (x0.kind == 3) hm _ _ (hs.go [1, 17] [0] 1 (by kernel_rfl) (by kernel_rfl) (by kernel_rfl))
    ·replace hm := bif_f hm hb
     refine qse 2 [(1, pp b_2), (4, vi x0.kind), (17, .bool (x0.kind == 4))] hs fun a hs => ?_
     refine qcs (x0.kind == 4) hs (fun hb => ?_) fun hb => ?_
     ·replace hm := bif_t hm hb
      refine wp_skip ?_
      exact hj12 (x0.kind == 4) hm _ _ (hs.go [1, 17] [0] 1 (by kernel_rfl) (by kernel_rfl) (by kernel_rfl))
     ·replace hm := bif_f hm hb
      refine Vk.region ?_
      refine qpe 2 [(1, pp b_2), (17, .bool (x0.kind == 8))] hs fun a hs => ?_
      exact hj12 (x0.kind == 8) hm _ _ (hs.go [1, 17] [0] 1 (by kernel_rfl) (by kernel_rfl) (by kernel_rfl))
 refine qse 2 [(1, pp b_2), (4, vi x0.kind), (5, .bool (x0.kind == 9))] hs fun a hs => ?_
 refine qcs (x0.kind == 9) hs (fun hb => ?_) fun hb => ?_
 ·replace hm := bif_t hm hb
  refine wp_skip ?_
  exact hj5 (x0.kind == 9) hm _ _ (hs.go [1, 4, 5] [0] 1 (by kernel_rfl) (by kernel_rfl) (by kernel_rfl))
 ·replace hm := bif_f hm hb
  refine qse 2 [(1, pp b_2), (4, vi x0.kind), (5, .bool (x0.kind == 10))] hs fun a hs => ?_
  refine qcs (x0.kind == 10) hs (fun hb => ?_) fun hb => ?_
  ·replace hm := bif_t hm hb
   refine wp_skip ?_
   exact hj5 (x0.kind == 10) hm _ _ (hs.go [1, 4, 5] [0] 1 (by kernel_rfl) (by kernel_rfl) (by kernel_rfl))
  ·replace hm := bif_f hm hb
   refine Vk.region ?_
   refine qpe 2 [(1, pp b_2), (4, vi x0.kind), (5, .bool (x0.kind == 11))] hs fun a hs => ?_
   exact hj5 (x0.kind == 11) hm _ _ (hs.go [1, 4, 5] [0] 1 (by kernel_rfl) (by kernel_rfl) (by kernel_rfl))


def op_Right.l1 (x0 : Tapi_Op) (x1 : Int) (v_16 : Int) : Nat → Int → Option (Sum (Bool) (Unit))
 | 0, _ => none
 | k + 1, q_20 => (bif decide (q_20 < 3) then (if 0 ≤ q_20 ∧ q_20 < 3 then (getI .i64 [ci x0.a, ci x0.b, ci x0.d] q_20.toNat).bind fun v_27 => (bif decide (q_20 < v_16) then (bif decide (v_27 < 0) then some (.inl false) else (bif decide (v_27 ≥ x1) then some (.inl false) else (bif decide (q_20 ≥ v_16) then (bif v_27 != (-1) then some (.inl false) else op_Right.l1 x0 x1 v_16 k (IntKind.i64.wrap (q_20 + 1))) else op_Right.l1 x0 x1 v_16 k (IntKind.i64.wrap (q_20 + 1))))) else (bif decide (q_20 ≥ v_16) then (bif v_27 != (-1) then some (.inl false) else op_Right.l1 x0 x1 v_16 k (IntKind.i64.wrap (q_20 + 1))) else op_Right.l1 x0 x1 v_16 k (IntKind.i64.wrap (q_20 + 1)))) else none) else some (.inr ()))
def op_Right.j1 (k : Nat) (x0 : Tapi_Op) (x1 : Int) (x2 : Int) (p_11 : Bool) : Option (Bool) := (bif p_11 then some false else (op_Regs.m k x0.kind x2).bind fun v_16 => (op_Right.l1 x0 x1 v_16 k 0).bind fun x => match x with | .inl v => some v | .inr () => (op_constant.m k x0).bind fun v_40 => some v_40)
abbrev op_Right.R (κ : Ctx) (S : List HP) (x0 : Tapi_Op) (x1 : Int) (x2 : Int) (r : Bool) : Ending → World → Prop := fun e w' => e = .returned (.bool r) ∧ Ow κ w' (S)
def op_Right.m (k : Nat) (x0 : Tapi_Op) (x1 : Int) (x2 : Int) : Option Bool := (bif (x2 != 2) && (x2 != 3) then op_Right.j1 k x0 x1 x2 true else (op_is.m k x0.kind).bind fun v_8 => (bif ((!v_8) || (decide (x0.dom < (-1)))) || (decide (x0.dom ≥ x2)) then op_Right.j1 k x0 x1 x2 true else (bif x0.kind == 12 then op_Right.j1 k x0 x1 x2 (decide (x0.dom ≥ 0)) else op_Right.j1 k x0 x1 x2 false)))

set_option maxRecDepth 100000 in
set_option maxHeartbeats 4000000 in
theorem op_Right.ok (k : Nat) (x0 : Tapi_Op) (x1 : Int) (x2 : Int) (r : Bool) (hm : op_Right.m k x0 x1 x2 = some r) (κ : Ctx) (w : World) (S : List HP) (ho : Ow κ w (S)) :
  Calls Tryz.prog 135 #[.agg (vals [ci x0.kind, ci x0.dom, ci x0.a, ci x0.b, ci x0.d, cw x0.c]), vi x1, vi x2] w (op_Right.R κ S x0 x1 x2 r) := by
 unfold op_Right.m at hm
 generalize hRR : op_Right.R κ S x0 x1 x2 r = RR
 refine qen [(0, .agg (vals [ci x0.kind, ci x0.dom, ci x0.a, ci x0.b, ci x0.d, cw x0.c])), (1, vi x1), (2, vi x2)] Tryz.func135 Tryz.ntmps135 ho fun a hs => ?_
 refine qsr fun K1 hK1 => ?_
 refine qbx 0 103 [ci x0.kind, ci x0.dom, ci x0.a, ci x0.b, ci x0.d, cw x0.c] 3 hs fun b_2 w a hs => ?_
 refine qpk 1 [1, 2, 3] hs fun a hs => hK1 _ _ ?_
 clear hK1
 refine Vk.seq fun K3 hK3 => ?_
 refine Vk.seq fun K4 hK4 => ?_
 have hj4 : ∀ (p_11 : Bool), op_Right.j1 k x0 x1 x2 p_11 = some r → ∀ (a : Act) (w : World), St 82 a w κ [(1, vi x1), (2, vi x2), (3, pp b_2), (42, .bool p_11)] (pt b_2 (blk (Tapi_Op.cells x0) 103) :: S) → K4 a w := by
  intro p_11 hm a w hs
  unfold op_Right.j1 at hm
  refine hK4 _ _ ?_
  refine qcs (p_11) hs (fun hb => ?_) fun hb => ?_
  ·replace hm := bif_t hm hb
   refine qse 1 [(6, .bool false)] hs fun a hs => ?_
   refine wp_ret ?_
   exact qr1 (.bool false) hs rfl hRR (by cases hm; exact ⟨rfl, hs.own.drop⟩)
  ·replace hm := bif_f hm hb
   refine wp_skip ?_
   refine hK3 _ _ ?_
   clear hK3
   refine qsr fun K13 hK13 => ?_
   refine qpu 1 hs fun a hs => ?_
   refine qld 0 (ci x0.kind) hs rfl fun a hs => ?_
   refine qpu 1 hs fun a hs => ?_
   obtain ⟨v_16, h_15, hm⟩ := bind_t hm
   refine qcl (op_Regs.ok _ _ _ _ h_15 _ _ (pt b_2 (blk (Tapi_Op.cells x0) 103) :: S) hs.own) hs fun w a hs => ?_
   refine qpk 1 [1, 3, 7] hs fun a hs => hK13 _ _ ?_
   clear hK13
   refine Vk.seq fun K17 hK17 => ?_
   refine qsr fun K18 hK18 => ?_
   refine qpu 1 hs fun a hs => ?_
   refine qld 0 (ci x0.a) hs rfl fun a hs => ?_
   refine qpu 1 hs fun a hs => ?_
   refine qld 0 (ci x0.b) hs rfl fun a hs => ?_
   refine qpu 1 hs fun a hs => ?_
   refine qld 0 (ci x0.d) hs rfl fun a hs => ?_
   refine qpk 2 [1, 3, 7, 53, 54] hs fun a hs => hK18 _ _ ?_
   clear hK18
   refine wp_block ?_
   obtain ⟨r19, hl19, hm⟩ := bind_t hm
   have hx19 : r19 = Sum.inr () → ∀ (a : Act) (w : World), St 82 a w κ [(3, pp b_2)] (pt b_2 (blk (Tapi_Op.cells x0) 103) :: S) → K17 a w := by
    intro he a w hs
    subst r19
    refine hK17 _ _ ?_
    clear hK17
    refine qsr fun K37 hK37 => ?_
    refine qln 0 ([ci x0.kind, ci x0.dom, ci x0.a, ci x0.b, ci x0.d, cw x0.c]) hs rfl fun a hs => ?_
    obtain ⟨v_40, h_39, hm⟩ := bind_t hm
    refine qcl (op_constant.ok _ _ _ h_39 _ _ (pt b_2 (blk (Tapi_Op.cells x0) 103) :: S) hs.own) hs fun w a hs => ?_
    refine qpe 1 [(6, .bool v_40)] hs fun a hs => hK37 _ _ ?_
    clear hK37
    refine wp_ret ?_
    exact qr1 (.bool v_40) hs rfl hRR (by cases hm; exact ⟨rfl, hs.own.drop⟩)
   have hret19 : ∀ v, r19 = Sum.inl v → v = r := by intro v he; subst r19; exact Option.some.inj hm
   refine Vk.loopBy (fun k (s : Int) a w => op_Right.l1 x0 x1 v_16 k s = some r19 ∧ St 82 a w κ [(1, vi x1), (3, pp b_2), (7, vi v_16), (53, .agg (vals [ci x0.a, ci x0.b, ci x0.d])), (54, vi s)] (pt b_2 (blk (Tapi_Op.cells x0) 103) :: S)) k 0 ⟨hl19, hs.go [1, 3, 7, 53, 54] [0] 1 (by kernel_rfl) (by kernel_rfl) (by kernel_rfl)⟩ (fun s a w h => by obtain ⟨h1, _⟩ := h; simp [op_Right.l1] at h1) (fun k KL19 ih q_20 a w h => ?_)
   obtain ⟨hm, hs⟩ := h
   try dsimp only at hm hs
   rw [op_Right.l1] at hm
   refine qsk 1 [1, 3, 7, 53, 54, 55] hs fun a hs => ?_
   refine Vk.seq fun K22 hK22 => ?_
   refine qcs (decide (q_20 < 3)) hs (fun hb => ?_) fun hb => ?_
   ·replace hm := bif_t hm hb
    refine wp_skip ?_
    refine hK22 _ _ ?_
    clear hK22
    refine Vk.seq fun K23 hK23 => ?_
    refine wp_block ?_
    refine qsr fun K24 hK24 => ?_
    refine qpu 1 hs fun a hs => ?_
    obtain ⟨h_25, hm⟩ := ite_t hm
    obtain ⟨v_27, h_26, hm⟩ := bind_t hm
    refine qva (vi v_27) (op := (.index 33 (.tmp 53) (.tmp 54))) hs (fun o ho => run_idxVal (k := .i64) (cs := [ci x0.a, ci x0.b, ci x0.d]) (c := ci v_27) ho (by kernel_rfl) (by kernel_rfl) (len := 3) (et := 3) (by kernel_rfl) (by kernel_rfl) (by kernel_rfl) (by kernel_rfl) h_25 (getI_some h_26) _) fun a hs => ?_
    refine qpk 2 [1, 3, 7, 8, 9, 53, 54] hs fun a hs => hK24 _ _ ?_
    clear hK24
    refine qsr fun K28 hK28 => ?_
    refine qpu 4 hs fun a hs => ?_
    rcases Bool.eq_false_or_eq_true (decide (q_20 < v_16)) with hb | hb
    ·replace hm := bif_t hm hb
     replace hs := hs.known (t := 61) hb (by kernel_rfl)
     refine qpu 3 hs fun a hs => ?_
     rcases Bool.eq_false_or_eq_true (decide (v_27 < 0)) with hb | hb
     ·replace hm := bif_t hm hb
      replace hs := hs.known (t := 64) hb (by kernel_rfl)
      refine qpk 14 [1, 3, 7, 53, 54, 62, 63, 64, 68, 78] hs fun a hs => hK28 _ _ ?_
      refine qct hs ?_
      refine qse 1 [(6, .bool false)] hs fun a hs => ?_
      refine wp_ret ?_
      exact Vk.ret1 (P := Tryz.prog) (fn := Tryz.f135) (R := RR) (.bool false) hs rfl (by kernel_rfl) (by obtain rfl := hret19 _ ((Option.some.inj hm).symm); subst hRR; exact ⟨rfl, hs.own.drop⟩)
     ·replace hm := bif_f hm hb
      replace hs := hs.known (t := 64) hb (by kernel_rfl)
      refine qpu 6 hs fun a hs => ?_
      rcases Bool.eq_false_or_eq_true (decide (v_27 ≥ x1)) with hb | hb
      ·replace hm := bif_t hm hb
       replace hs := hs.known (t := 70) hb (by kernel_rfl)
       refine qpk 8 [1, 3, 7, 53, 54, 62, 63, 64, 65, 66, 67, 68, 78] hs fun a hs => hK28 _ _ ?_
       refine qct hs ?_
       refine qse 1 [(6, .bool false)] hs fun a hs => ?_
       refine wp_ret ?_
       exact Vk.ret1 (P := Tryz.prog) (fn := Tryz.f135) (R := RR) (.bool false) hs rfl (by kernel_rfl) (by obtain rfl := hret19 _ ((Option.some.inj hm).symm); subst hRR; exact ⟨rfl, hs.own.drop⟩)
      ·replace hm := bif_f hm hb
       replace hs := hs.known (t := 70) hb (by kernel_rfl)
       refine qpu 4 hs fun a hs => ?_
       rcases Bool.eq_false_or_eq_true (decide (q_20 ≥ v_16)) with hb | hb
       ·replace hm := bif_t hm hb
        replace hs := hs.known (t := 74) hb (by kernel_rfl)
        refine qpk 4 [1, 3, 7, 53, 54, 62, 63, 64, 65, 66, 67, 68, 71, 72, 73, 74, 75, 76, 77, 78] hs fun a hs => hK28 _ _ ?_
        refine qcs (v_27 != (-1)) hs (fun hb => ?_) fun hb => ?_
        ·replace hm := bif_t hm hb
         refine qse 1 [(6, .bool false)] hs fun a hs => ?_
         refine wp_ret ?_
         exact Vk.ret1 (P := Tryz.prog) (fn := Tryz.f135) (R := RR) (.bool false) hs rfl (by kernel_rfl) (by obtain rfl := hret19 _ ((Option.some.inj hm).symm); subst hRR; exact ⟨rfl, hs.own.drop⟩)
        ·replace hm := bif_f hm hb
         refine wp_skip ?_
         refine hK23 _ _ ?_
         refine Vk.region ?_
         refine qpk 2 [1, 3, 7, 53, 54, 62, 63, 64, 65, 66, 67, 68, 71, 72, 73, 74, 75, 76, 77] hs fun a hs => ?_
         refine ih (IntKind.i64.wrap (q_20 + 1)) _ _ ⟨hm, hs.go [1, 3, 7, 53, 54] [0] 1 (by kernel_rfl) (by kernel_rfl) (by kernel_rfl)⟩
       ·replace hm := bif_f hm hb
        replace hs := hs.known (t := 74) hb (by kernel_rfl)
        refine qpk 4 [1, 3, 7, 53, 54, 62, 63, 64, 65, 66, 67, 68, 71, 72, 73, 74, 77, 78] hs fun a hs => hK28 _ _ ?_
        refine qcf hs ?_
        refine wp_skip ?_
        refine hK23 _ _ ?_
        refine Vk.region ?_
        refine qpk 2 [1, 3, 7, 53, 54, 62, 63, 64, 65, 66, 67, 68, 71, 72, 73, 74, 77] hs fun a hs => ?_
        refine ih (IntKind.i64.wrap (q_20 + 1)) _ _ ⟨hm, hs.go [1, 3, 7, 53, 54] [0] 1 (by kernel_rfl) (by kernel_rfl) (by kernel_rfl)⟩
    ·replace hm := bif_f hm hb
     replace hs := hs.known (t := 61) hb (by kernel_rfl)
     refine qpu 13 hs fun a hs => ?_
     rcases Bool.eq_false_or_eq_true (decide (q_20 ≥ v_16)) with hb | hb
     ·replace hm := bif_t hm hb
      replace hs := hs.known (t := 74) hb (by kernel_rfl)
      refine qpk 4 [1, 3, 7, 53, 54, 71, 72, 73, 74, 75, 76, 77, 78] hs fun a hs => hK28 _ _ ?_
      refine qcs (v_27 != (-1)) hs (fun hb => ?_) fun hb => ?_
      ·replace hm := bif_t hm hb
       refine qse 1 [(6, .bool false)] hs fun a hs => ?_
       refine wp_ret ?_
       exact Vk.ret1 (P := Tryz.prog) (fn := Tryz.f135) (R := RR) (.bool false) hs rfl (by kernel_rfl) (by obtain rfl := hret19 _ ((Option.some.inj hm).symm); subst hRR; exact ⟨rfl, hs.own.drop⟩)
      ·replace hm := bif_f hm hb
       refine wp_skip ?_
       refine hK23 _ _ ?_
       refine Vk.region ?_
       refine qpk 2 [1, 3, 7, 53, 54, 71, 72, 73, 74, 75, 76, 77] hs fun a hs => ?_
       refine ih (IntKind.i64.wrap (q_20 + 1)) _ _ ⟨hm, hs.go [1, 3, 7, 53, 54] [0] 1 (by kernel_rfl) (by kernel_rfl) (by kernel_rfl)⟩
     ·replace hm := bif_f hm hb
      replace hs := hs.known (t := 74) hb (by kernel_rfl)
      refine qpk 4 [1, 3, 7, 53, 54, 71, 72, 73, 74, 77, 78] hs fun a hs => hK28 _ _ ?_
      refine qcf hs ?_
      refine wp_skip ?_
      refine hK23 _ _ ?_
      refine Vk.region ?_
      refine qpk 2 [1, 3, 7, 53, 54, 71, 72, 73, 74, 77] hs fun a hs => ?_
      refine ih (IntKind.i64.wrap (q_20 + 1)) _ _ ⟨hm, hs.go [1, 3, 7, 53, 54] [0] 1 (by kernel_rfl) (by kernel_rfl) (by kernel_rfl)⟩
   ·replace hm := bif_f hm hb
    refine wp_exit ?_
    exact hx19 (Option.some.inj hm).symm _ _ (hs.go [3] [0] 1 (by kernel_rfl) (by kernel_rfl) (by kernel_rfl))
 refine Vk.region ?_
 refine qpu 3 hs fun a hs => ?_
 refine qsc 12 3 hs fun a hs => ?_
 refine qpu 1 hs fun a hs => ?_
 rcases Bool.eq_false_or_eq_true ((x2 != 2) && (x2 != 3)) with hb | hb
 ·replace hm := bif_t hm hb
  replace hs := hs.known (t := 16) hb (by kernel_rfl)
  refine qpe 26 [(1, vi x1), (2, vi x2), (3, pp b_2), (42, .bool true)] hs fun a hs => ?_
  exact hj4 true hm _ _ (hs.go [1, 2, 3, 42] [0] 1 (by kernel_rfl) (by kernel_rfl) (by kernel_rfl))
 ·replace hm := bif_f hm hb
  replace hs := hs.known (t := 16) hb (by kernel_rfl)
  refine qpu 1 hs fun a hs => ?_
  refine qld 0 (ci x0.kind) hs rfl fun a hs => ?_
  obtain ⟨v_8, h_7, hm⟩ := bind_t hm
  refine qcl (op_is.ok _ _ _ h_7 _ _ (pt b_2 (blk (Tapi_Op.cells x0) 103) :: S) hs.own) hs fun w a hs => ?_
  refine qpu 3 hs fun a hs => ?_
  suffices hj_9 : ∀ a, St 82 a w κ [(1, vi x1), (2, vi x2), (3, pp b_2), (10, vi x2), (11, .bool (x2 != 2)), (12, .bool (x2 != 2)), (15, .bool ((x2 != 2) && (x2 != 3))), (16, .bool false), (17, pp b_2), (18, vi x0.kind), (19, .bool v_8), (20, .bool (!v_8)), (21, .bool (!v_8)), (22, .bool (!v_8)), (26, .bool ((!v_8) || (decide (x0.dom < (-1)))))] (pt b_2 (blk (Tapi_Op.cells x0) 103) :: S) → wpFrom Tryz.prog _ _ 17 a w by
   rcases Bool.eq_false_or_eq_true (!v_8) with hb | hb
   ·replace hs := hs.known (t := 22) hb (by kernel_rfl)
    refine qpu 4 hs fun a hs => ?_
    have hq := hs.pick [1, 2, 3, 10, 11, 12, 15, 16, 17, 18, 19, 20, 21, 22, 26] (L' := [(1, vi x1), (2, vi x2), (3, pp b_2), (10, vi x2), (11, .bool (x2 != 2)), (12, .bool (x2 != 2)), (15, .bool ((x2 != 2) && (x2 != 3))), (16, .bool false), (17, pp b_2), (18, vi x0.kind), (19, .bool v_8), (20, .bool (!v_8)), (21, .bool (!v_8)), (22, .bool true), (26, .bool true)]) (by kernel_rfl)
    exact hj_9 _ (hq.conv (by first | (rw [hb] <;> rfl) | rfl))
   ·replace hs := hs.known (t := 22) hb (by kernel_rfl)
    refine qpu 1 hs fun a hs => ?_
    refine qld 0 (ci x0.dom) hs rfl fun a hs => ?_
    refine qpu 2 hs fun a hs => ?_
    have hq := hs.pick [1, 2, 3, 10, 11, 12, 15, 16, 17, 18, 19, 20, 21, 22, 26] (L' := [(1, vi x1), (2, vi x2), (3, pp b_2), (10, vi x2), (11, .bool (x2 != 2)), (12, .bool (x2 != 2)), (15, .bool ((x2 != 2) && (x2 != 3))), (16, .bool false), (17, pp b_2), (18, vi x0.kind), (19, .bool v_8), (20, .bool (!v_8)), (21, .bool (!v_8)), (22, .bool false), (26, .bool (decide (x0.dom < (-1))))]) (by kernel_rfl)
    exact hj_9 _ (hq.conv (by first | (rw [hb] <;> rfl) | rfl))
  intro a hs
  refine qpu 1 hs fun a hs => ?_
  suffices hj_10 : ∀ a, St 82 a w κ [(1, vi x1), (2, vi x2), (3, pp b_2), (10, vi x2), (11, .bool (x2 != 2)), (12, .bool (x2 != 2)), (15, .bool ((x2 != 2) && (x2 != 3))), (16, .bool false), (17, pp b_2), (18, vi x0.kind), (19, .bool v_8), (20, .bool (!v_8)), (21, .bool (!v_8)), (22, .bool (!v_8)), (26, .bool ((!v_8) || (decide (x0.dom < (-1))))), (27, .bool ((!v_8) || (decide (x0.dom < (-1))))), (32, .bool (((!v_8) || (decide (x0.dom < (-1)))) || (decide (x0.dom ≥ x2))))] (pt b_2 (blk (Tapi_Op.cells x0) 103) :: S) → wpFrom Tryz.prog _ _ 23 a w by
   rcases Bool.eq_false_or_eq_true ((!v_8) || (decide (x0.dom < (-1)))) with hb | hb
   ·replace hs := hs.known (t := 27) hb (by kernel_rfl)
    refine qpu 5 hs fun a hs => ?_
    have hq := hs.pick [1, 2, 3, 10, 11, 12, 15, 16, 17, 18, 19, 20, 21, 22, 26, 27, 32] (L' := [(1, vi x1), (2, vi x2), (3, pp b_2), (10, vi x2), (11, .bool (x2 != 2)), (12, .bool (x2 != 2)), (15, .bool ((x2 != 2) && (x2 != 3))), (16, .bool false), (17, pp b_2), (18, vi x0.kind), (19, .bool v_8), (20, .bool (!v_8)), (21, .bool (!v_8)), (22, .bool (!v_8)), (26, .bool ((!v_8) || (decide (x0.dom < (-1))))), (27, .bool true), (32, .bool true)]) (by kernel_rfl)
    exact hj_10 _ (hq.conv (by first | (rw [hb] <;> rfl) | rfl))
   ·replace hs := hs.known (t := 27) hb (by kernel_rfl)
    refine qpu 1 hs fun a hs => ?_
    refine qld 0 (ci x0.dom) hs rfl fun a hs => ?_
    refine qpu 3 hs fun a hs => ?_
    have hq := hs.pick [1, 2, 3, 10, 11, 12, 15, 16, 17, 18, 19, 20, 21, 22, 26, 27, 32] (L' := [(1, vi x1), (2, vi x2), (3, pp b_2), (10, vi x2), (11, .bool (x2 != 2)), (12, .bool (x2 != 2)), (15, .bool ((x2 != 2) && (x2 != 3))), (16, .bool false), (17, pp b_2), (18, vi x0.kind), (19, .bool v_8), (20, .bool (!v_8)), (21, .bool (!v_8)), (22, .bool (!v_8)), (26, .bool ((!v_8) || (decide (x0.dom < (-1))))), (27, .bool false), (32, .bool (decide (x0.dom ≥ x2)))]) (by kernel_rfl)
    exact hj_10 _ (hq.conv (by first | (rw [hb] <;> rfl) | rfl))
  intro a hs
  refine qpu 1 hs fun a hs => ?_
  rcases Bool.eq_false_or_eq_true (((!v_8) || (decide (x0.dom < (-1)))) || (decide (x0.dom ≥ x2))) with hb | hb
  ·replace hm := bif_t hm hb
   replace hs := hs.known (t := 33) hb (by kernel_rfl)
   refine qpe 9 [(1, vi x1), (2, vi x2), (3, pp b_2), (42, .bool true)] hs fun a hs => ?_
   exact hj4 true hm _ _ (hs.go [1, 2, 3, 42] [0] 1 (by kernel_rfl) (by kernel_rfl) (by kernel_rfl))
  ·replace hm := bif_f hm hb
   replace hs := hs.known (t := 33) hb (by kernel_rfl)
   refine qpu 1 hs fun a hs => ?_
   refine qld 0 (ci x0.kind) hs rfl fun a hs => ?_
   refine qpu 2 hs fun a hs => ?_
   rcases Bool.eq_false_or_eq_true (x0.kind == 12) with hb | hb
   ·replace hm := bif_t hm hb
    replace hs := hs.known (t := 37) hb (by kernel_rfl)
    refine qpu 1 hs fun a hs => ?_
    refine qld 0 (ci x0.dom) hs rfl fun a hs => ?_
    refine qpe 3 [(1, vi x1), (2, vi x2), (3, pp b_2), (42, .bool (decide (x0.dom ≥ 0)))] hs fun a hs => ?_
    exact hj4 (decide (x0.dom ≥ 0)) hm _ _ (hs.go [1, 2, 3, 42] [0] 1 (by kernel_rfl) (by kernel_rfl) (by kernel_rfl))
   ·replace hm := bif_f hm hb
    replace hs := hs.known (t := 37) hb (by kernel_rfl)
    refine qpe 5 [(1, vi x1), (2, vi x2), (3, pp b_2), (42, .bool false)] hs fun a hs => ?_
    exact hj4 false hm _ _ (hs.go [1, 2, 3, 42] [0] 1 (by kernel_rfl) (by kernel_rfl) (by kernel_rfl))


def wire_Machine_right.j1 (k : Nat) (p_14 : Bool) : Option (Bool) := some p_14
abbrev wire_Machine_right.R (κ : Ctx) (S : List HP) (x0 : Twire_Machine) (x1 : Tapi_Op) (b_x0 : Nat) (g_x0 : Nat × Option Addr × Nat × Option Addr × Nat × Option Addr × Nat) (r : Bool) : Ending → World → Prop := fun e w' => e = .returned (.bool r) ∧ Ow κ w' (bagL (Twire_Machine.parts b_x0 x0 g_x0) :: S)
def wire_Machine_right.m (k : Nat) (x0 : Twire_Machine) (x1 : Tapi_Op) : Option Bool := (wire_Machine_Len.m k x0).bind fun v_10 => (op_Right.m k x1 v_10 x0.n).bind fun v_13 => (bif v_13 then (bif x1.kind != 2 then wire_Machine_right.j1 k true else wire_Machine_right.j1 k (x1.c == (IntKind.u64.wrap x0.words))) else wire_Machine_right.j1 k false)

set_option maxRecDepth 100000 in
set_option maxHeartbeats 4000000 in
theorem wire_Machine_right.ok (k : Nat) (x0 : Twire_Machine) (x1 : Tapi_Op) (r : Bool) (hm : wire_Machine_right.m k x0 x1 = some r) (κ : Ctx) (w : World) (S : List HP) (b_x0 : Nat) (g_x0 : Nat × Option Addr × Nat × Option Addr × Nat × Option Addr × Nat) (ho : Ow κ w (bagL (Twire_Machine.parts b_x0 x0 g_x0) :: S)) :
  Calls Tryz.prog 121 #[pp b_x0, .agg (vals [ci x1.kind, ci x1.dom, ci x1.a, ci x1.b, ci x1.d, cw x1.c])] w (wire_Machine_right.R κ S x0 x1 b_x0 g_x0 r) := by
 unfold wire_Machine_right.m at hm
 generalize hRR : wire_Machine_right.R κ S x0 x1 b_x0 g_x0 r = RR
 refine qen [(0, pp b_x0), (1, .agg (vals [ci x1.kind, ci x1.dom, ci x1.a, ci x1.b, ci x1.d, cw x1.c]))] Tryz.func121 Tryz.ntmps121 ho fun a hs => ?_
 refine qsr fun K1 hK1 => ?_
 refine qbx 1 103 [ci x1.kind, ci x1.dom, ci x1.a, ci x1.b, ci x1.d, cw x1.c] 3 hs fun b_2 w a hs => ?_
 refine qpe 1 [(0, pp b_x0), (3, pp b_2)] hs fun a hs => hK1 _ _ ?_
 clear hK1
 refine Vk.seq fun K3 hK3 => ?_
 have hj3 : ∀ (p_14 : Bool), wire_Machine_right.j1 k p_14 = some r → ∀ (a : Act) (w : World), St 28 a w κ [(4, .bool p_14)] (bagL (Twire_Machine.parts b_x0 x0 g_x0) :: S) → K3 a w := by
  intro p_14 hm a w hs
  unfold wire_Machine_right.j1 at hm
  refine hK3 _ _ ?_
  refine wp_ret ?_
  exact qr1 (.bool p_14) hs rfl hRR (by cases hm; exact ⟨rfl, hs.own⟩)
 replace hs := hs.unbagAt 1 rfl
 obtain ⟨C_7, hC_7⟩ := qC hs.own
 refine qdr 24 κ C_7 hs fun w hs hqC_7 => ?_
 have hcl := qO hC_7 hs.own
 refine qdp (fuel := 20) [1, 3, 4, 5] hs hcl hqC_7 fun a hs => ?_
 refine qdn 0 5 ([ci x1.kind, ci x1.dom, ci x1.a, ci x1.b, ci x1.d, cw x1.c]) hs hcl hqC_7 hC_7 rfl fun a hs => ?_
 refine qdl 6 0 (ci x0.n) hs hcl hqC_7 hC_7 rfl fun a hs => ?_
 replace hs := hs.bagG (l := Twire_Machine.parts b_x0 x0 g_x0) (S' := pt b_2 (blk (Tapi_Op.cells x1) 103) :: S) hs.own
 obtain ⟨v_10, h_9, hm⟩ := bind_t hm
 refine qdc 2 (wire_Machine_Len.ok _ _ _ h_9 _ _ _ b_x0 g_x0 hs.own) hs fun w a hs => ?_
 replace hs := hs.unbagAt 0 rfl
 replace hcl := qO hC_7 hs.own
 refine ⟨fun _ => hcl, ?_⟩
 obtain ⟨v_13, h_12, hm⟩ := bind_t hm
 refine qdc 7 (op_Right.ok _ _ _ _ _ h_12 _ _ (pt b_x0 (blk (Twire_Machine.obj x0 g_x0.1 g_x0.2.1 g_x0.2.2.1 g_x0.2.2.2.1 g_x0.2.2.2.2.1 g_x0.2.2.2.2.2.1 g_x0.2.2.2.2.2.2) 95) :: opto x0.dry (Ttape_Tape.own g_x0.1 x0.tape) :: rowp g_x0.2.1 g_x0.2.2.1 103 6 Tapi_Op.cells x0.ops :: rowp g_x0.2.2.2.1 g_x0.2.2.2.2.1 23 1 (eI .u64) x0.values :: rowp g_x0.2.2.2.2.2.1 g_x0.2.2.2.2.2.2 119 3 Tapi_Span.cells x0.blocks :: pt b_2 (blk (Tapi_Op.cells x1) 103) :: S) hs.own) hs fun w a hs => ?_
 replace hcl := qO hC_7 hs.own
 refine ⟨fun _ => hcl, ?_⟩
 refine qdp (fuel := 15) [8] hs hcl hqC_7 fun a hs => ?_
 rcases Bool.eq_false_or_eq_true (v_13) with hb | hb
 ·replace hm := bif_t hm hb
  replace hs := hs.known (t := 13) hb (by kernel_rfl)
  refine qdp (fuel := 14) [9] hs hcl hqC_7 fun a hs => ?_
  refine qdl 10 5 (ci x1.kind) hs hcl hqC_7 hC_7 rfl fun a hs => ?_
  refine qdp (fuel := 11) [11, 12] hs hcl hqC_7 fun a hs => ?_
  rcases Bool.eq_false_or_eq_true (x1.kind != 2) with hb | hb
  ·replace hm := bif_t hm hb
   replace hs := hs.known (t := 17) hb (by kernel_rfl)
   refine qdp (fuel := 0) [13, 14, 15, 16, 17, 18, 19, 20, 21, 22, 23] hs hcl hqC_7 fun a hs => ?_
   replace hs := hs.pick [4] (L' := [(4, .bool true)]) (by kernel_rfl)
   refine Vk.dDone (by kernel_rfl) ?_
   replace hs := hs.bagG (l := Twire_Machine.parts b_x0 x0 g_x0) (S' := pt b_2 (blk (Tapi_Op.cells x1) 103) :: S) hs.own
   exact hj3 true hm _ _ (hs.go [4] [0] 2 (by kernel_rfl) (by kernel_rfl) (by kernel_rfl))
  ·replace hm := bif_f hm hb
   replace hs := hs.known (t := 17) hb (by kernel_rfl)
   refine qdp (fuel := 7) [13, 15, 16, 17] hs hcl hqC_7 fun a hs => ?_
   refine qdl 14 5 (cw x1.c) hs hcl hqC_7 hC_7 rfl fun a hs => ?_
   refine qdl 18 0 (ci x0.words) hs hcl hqC_7 hC_7 rfl fun a hs => ?_
   refine qdp (fuel := 0) [19, 20, 21, 22, 23] hs hcl hqC_7 fun a hs => ?_
   replace hs := hs.pick [4] (L' := [(4, .bool (x1.c == (IntKind.u64.wrap x0.words)))]) (by kernel_rfl)
   refine Vk.dDone (by kernel_rfl) ?_
   replace hs := hs.bagG (l := Twire_Machine.parts b_x0 x0 g_x0) (S' := pt b_2 (blk (Tapi_Op.cells x1) 103) :: S) hs.own
   exact hj3 (x1.c == (IntKind.u64.wrap x0.words)) hm _ _ (hs.go [4] [0] 2 (by kernel_rfl) (by kernel_rfl) (by kernel_rfl))
 ·replace hm := bif_f hm hb
  replace hs := hs.known (t := 13) hb (by kernel_rfl)
  refine qdp (fuel := 0) [9, 10, 11, 12, 13, 14, 15, 16, 17, 18, 19, 20, 21, 22, 23] hs hcl hqC_7 fun a hs => ?_
  replace hs := hs.pick [4] (L' := [(4, .bool false)]) (by kernel_rfl)
  refine Vk.dDone (by kernel_rfl) ?_
  replace hs := hs.bagG (l := Twire_Machine.parts b_x0 x0 g_x0) (S' := pt b_2 (blk (Tapi_Op.cells x1) 103) :: S) hs.own
  exact hj3 false hm _ _ (hs.go [4] [0] 2 (by kernel_rfl) (by kernel_rfl) (by kernel_rfl))


def wire_Machine_fail.j1 (k : Nat) (p_8 : Twire_Machine) : Option ((Int × Twire_Machine)) := some ((-1), p_8)
abbrev wire_Machine_fail.R (κ : Ctx) (S : List HP) (x0 : Twire_Machine) (x1 : Int) (b_x0 : Nat) (r : (Int × Twire_Machine)) : Ending → World → Prop := fun e w' => e = .returned (vi r.1) ∧ Ow κ w' (Twire_Machine.own b_x0 r.2 :: S)
def wire_Machine_fail.m (k : Nat) (x0 : Twire_Machine) (x1 : Int) : Option (Int × Twire_Machine) := (bif x0.bad == 0 then wire_Machine_fail.j1 k (⟨x0.n, x0.most, x0.base, x0.words, x0.draws, x0.dry, x0.openF, x0.fromF, x1, x0.tape, x0.ops, x0.values, x0.blocks⟩ : Twire_Machine) else wire_Machine_fail.j1 k x0)

set_option maxRecDepth 100000 in
set_option maxHeartbeats 4000000 in
theorem wire_Machine_fail.ok (k : Nat) (x0 : Twire_Machine) (x1 : Int) (r : (Int × Twire_Machine)) (hm : wire_Machine_fail.m k x0 x1 = some r) (κ : Ctx) (w : World) (S : List HP) (b_x0 : Nat) (ho : Ow κ w (Twire_Machine.own b_x0 x0 :: S)) :
  Calls Tryz.prog 118 #[pp b_x0, vi x1] w (wire_Machine_fail.R κ S x0 x1 b_x0 r) := by
 unfold wire_Machine_fail.m at hm
 generalize hRR : wire_Machine_fail.R κ S x0 x1 b_x0 r = RR
 refine qen [(0, pp b_x0), (1, vi x1)] Tryz.func118 Tryz.ntmps118 ho fun a hs => ?_
 refine qse 1 [(0, pp b_x0), (1, vi x1)] hs fun a hs => ?_
 refine Vk.seq fun K2 hK2 => ?_
 have hj2 : ∀ (p_8 : Twire_Machine), wire_Machine_fail.j1 k p_8 = some r → ∀ (a : Act) (w : World), St 14 a w κ [] (Twire_Machine.own b_x0 p_8 :: S) → K2 a w := by
  intro p_8 hm a w hs
  unfold wire_Machine_fail.j1 at hm
  refine hK2 _ _ ?_
  refine qse 1 [(4, vi (-1))] hs fun a hs => ?_
  refine wp_ret ?_
  exact qr1 (vi (-1)) hs rfl hRR (by cases hm; exact ⟨rfl, hs.own⟩)
 refine qsr fun K3 hK3 => ?_
 refine qpu 3 hs fun a hs => ?_
 obtain ⟨g_4, hs⟩ := hs.unbag 0 rfl
 refine qld 0 (ci x0.bad) hs rfl fun a hs => ?_
 refine qpk 1 [0, 1, 9] hs fun a hs => hK3 _ _ ?_
 clear hK3
 refine qcs (x0.bad == 0) hs (fun hb => ?_) fun hb => ?_
 ·replace hm := bif_t hm hb
  refine Vk.region ?_
  refine qpu 4 hs fun a hs => ?_
  refine qst 0 8 (ci x1) hs rfl fun a w hs => ?_
  refine qpe 0 [] hs fun a hs => ?_
  replace hs := hs.bagG (l := Twire_Machine.parts b_x0 (⟨x0.n, x0.most, x0.base, x0.words, x0.draws, x0.dry, x0.openF, x0.fromF, x1, x0.tape, x0.ops, x0.values, x0.blocks⟩ : Twire_Machine) g_4) (S' := S) hs.own
  replace hs := hs.toEx (Twire_Machine.parts b_x0 (⟨x0.n, x0.most, x0.base, x0.words, x0.draws, x0.dry, x0.openF, x0.fromF, x1, x0.tape, x0.ops, x0.values, x0.blocks⟩ : Twire_Machine)) g_4 0 rfl
  exact hj2 (⟨x0.n, x0.most, x0.base, x0.words, x0.draws, x0.dry, x0.openF, x0.fromF, x1, x0.tape, x0.ops, x0.values, x0.blocks⟩ : Twire_Machine) hm _ _ (hs.go [] [0] 1 (by kernel_rfl) (by kernel_rfl) (by kernel_rfl))
 ·replace hm := bif_f hm hb
  refine wp_skip ?_
  replace hs := hs.bagG (l := Twire_Machine.parts b_x0 x0 g_4) (S' := S) hs.own
  replace hs := hs.toEx (Twire_Machine.parts b_x0 x0) g_4 0 rfl
  exact hj2 x0 hm _ _ (hs.go [] [0] 1 (by kernel_rfl) (by kernel_rfl) (by kernel_rfl))


abbrev sync_atomic_Int64_Add.R (κ : Ctx) (S : List HP) (x0 : Tatomic_Int64) (x1 : Int) (b_x0 : Nat) (r : (Int × Tatomic_Int64)) : Ending → World → Prop := fun e w' => e = .returned (vi r.1) ∧ Ow κ w' (pt b_x0 (blk [ci r.2.v] 111) :: S)
def sync_atomic_Int64_Add.m (k : Nat) (x0 : Tatomic_Int64) (x1 : Int) : Option (Int × Tatomic_Int64) := some (IntKind.i64.wrap (x0.v + x1), (⟨IntKind.i64.wrap (x0.v + x1)⟩ : Tatomic_Int64))

set_option maxRecDepth 100000 in
set_option maxHeartbeats 4000000 in
theorem sync_atomic_Int64_Add.ok (k : Nat) (x0 : Tatomic_Int64) (x1 : Int) (r : (Int × Tatomic_Int64)) (hm : sync_atomic_Int64_Add.m k x0 x1 = some r) (κ : Ctx) (w : World) (S : List HP) (b_x0 : Nat) (ho : Ow κ w (pt b_x0 (blk [ci x0.v] 111) :: S)) :
  Calls Tryz.prog 136 #[pp b_x0, vi x1] w (sync_atomic_Int64_Add.R κ S x0 x1 b_x0 r) := by
 unfold sync_atomic_Int64_Add.m at hm
 generalize hRR : sync_atomic_Int64_Add.R κ S x0 x1 b_x0 r = RR
 refine qen [(0, pp b_x0), (1, vi x1)] Tryz.func136 Tryz.ntmps136 ho fun a hs => ?_
 refine qse 1 [(0, pp b_x0), (1, vi x1)] hs fun a hs => ?_
 refine qsr fun K2 hK2 => ?_
 refine qpu 4 hs fun a hs => ?_
 refine Vk.step (Vk.atomAdd (k := .i64) (b := b_x0) (off := 0) (x := x0.v) (y := x1) 0 (some 9) 144 Tryz.f144 hs (by kernel_rfl) (by kernel_rfl) Tryz.func144 (by kernel_rfl) (by kernel_rfl) rfl (by kernel_rfl) fun a w hs => ?_)
 refine qpk 1 [4] hs fun a hs => hK2 _ _ ?_
 clear hK2
 refine wp_ret ?_
 exact qr1 (vi (IntKind.i64.wrap (x0.v + x1))) hs rfl hRR (by cases hm; exact ⟨rfl, hs.own⟩)


def tape_Tape_Draw.j1 (k : Nat) (x0 : Ttape_Tape) (p_9 : Bool) : Option ((Int × Bool × Ttape_Tape)) := (bif p_9 then some (0, false, x0) else (if 0 ≤ IntKind.i64.wrap ((IntKind.i64.wrap (x0.used.v + 1)) - 1) then (x0.words[(IntKind.i64.wrap ((IntKind.i64.wrap (x0.used.v + 1)) - 1)).toNat]?).bind fun e_22 => some (e_22, true, (⟨x0.words, (⟨IntKind.i64.wrap (x0.used.v + 1)⟩ : Tatomic_Int64), IntKind.i64.wrap (x0.free - 1)⟩ : Ttape_Tape)) else none))
abbrev tape_Tape_Draw.R (κ : Ctx) (S : List HP) (x0 : Ttape_Tape) (b_x0 : Nat) (r : (Int × Bool × Ttape_Tape)) : Ending → World → Prop := fun e w' => e = .returned (.tuple #[vw r.1, .bool r.2.1]) ∧ Ow κ w' (Ttape_Tape.own b_x0 r.2.2 :: S)
def tape_Tape_Draw.m (k : Nat) (x0 : Ttape_Tape) : Option (Int × Bool × Ttape_Tape) := (bif decide (x0.free < 1) then tape_Tape_Draw.j1 k x0 true else (tape_Tape_Left.m k x0).bind fun v_8 => tape_Tape_Draw.j1 k x0 (decide (v_8 < 1)))

set_option maxRecDepth 100000 in
set_option maxHeartbeats 4000000 in
theorem tape_Tape_Draw.ok (k : Nat) (x0 : Ttape_Tape) (r : (Int × Bool × Ttape_Tape)) (hm : tape_Tape_Draw.m k x0 = some r) (κ : Ctx) (w : World) (S : List HP) (b_x0 : Nat) (ho : Ow κ w (Ttape_Tape.own b_x0 x0 :: S)) :
  Calls Tryz.prog 122 #[pp b_x0] w (tape_Tape_Draw.R κ S x0 b_x0 r) := by
 unfold tape_Tape_Draw.m at hm
 generalize hRR : tape_Tape_Draw.R κ S x0 b_x0 r = RR
 refine qen [(0, pp b_x0)] Tryz.func122 Tryz.ntmps122 ho fun a hs => ?_
 refine qse 2 [(0, pp b_x0)] hs fun a hs => ?_
 refine Vk.seq fun K2 hK2 => ?_
 refine Vk.seq fun K3 hK3 => ?_
 have hj3 : ∀ (p_9 : Bool), tape_Tape_Draw.j1 k x0 p_9 = some r → ∀ (a : Act) (w : World), St 36 a w κ [(0, pp b_x0), (17, .bool p_9)] (Ttape_Tape.own b_x0 x0 :: S) → K3 a w := by
  intro p_9 hm a w hs
  unfold tape_Tape_Draw.j1 at hm
  refine hK3 _ _ ?_
  refine qcs (p_9) hs (fun hb => ?_) fun hb => ?_
  ·replace hm := bif_t hm hb
   refine qse 2 [(2, vw 0), (3, .bool false)] hs fun a hs => ?_
   refine wp_ret ?_
   exact Vk.ret2 (vw 0) (.bool false) hs rfl (by kernel_rfl) (by kernel_rfl) (hRR ▸ by cases hm; exact ⟨rfl, hs.own⟩)
  ·replace hm := bif_f hm hb
   refine wp_skip ?_
   refine hK2 _ _ ?_
   clear hK2
   refine qsr fun K11 hK11 => ?_
   refine qpu 3 hs fun a hs => ?_
   obtain ⟨g_12, hs⟩ := hs.unbag 0 rfl
   refine qld 0 (ci x0.free) hs rfl fun a hs => ?_
   refine qpu 3 hs fun a hs => ?_
   refine qst 0 2 (ci (IntKind.i64.wrap (x0.free - 1))) hs rfl fun a w hs => ?_
   refine qpe 0 [(0, pp b_x0)] hs fun a hs => hK11 _ _ ?_
   clear hK11
   refine Vk.seq fun K14 hK14 => ?_
   obtain ⟨C_15, hC_15⟩ : ∃ X0 : List HP, X0 = (ptp b_x0 113 [C.slc g_12.1 x0.words.length g_12.2, ci x0.used.v, ci (IntKind.i64.wrap (x0.free - 1))] [0, 2] :: rowp g_12.1 g_12.2 23 1 (eI .u64) x0.words :: S) := ⟨_, rfl⟩
   refine qdr 13 κ C_15 hs fun w hs hqC_15 => ?_
   have hcz : Ow κ w (ptp b_x0 113 [C.slc g_12.1 x0.words.length g_12.2, ci x0.used.v, ci (IntKind.i64.wrap (x0.free - 1))] [0, 2] :: rowp g_12.1 g_12.2 23 1 (eI .u64) x0.words :: S) := Ow.part (cs0 := [C.slc g_12.1 x0.words.length g_12.2, ci x0.used.v, ci (IntKind.i64.wrap (x0.free - 1))]) (ks := [0, 2]) 0 ((Ow.to (S' := pt b_x0 (blk ((Ttape_Tape.obj x0 g_12.1 g_12.2).set 2 (ci (IntKind.i64.wrap (x0.free - 1)))) 113) :: rowp g_12.1 g_12.2 23 1 (eI .u64) x0.words :: S) hs.own [0, 1] 2 (by kernel_rfl) (by kernel_rfl))) rfl rfl
   have hcl : Ow κ w C_15 := by rw [hC_15]; exact hcz
   refine qdp (fuel := 7) [0, 1, 2, 4, 5, 6] hs hcl hqC_15 fun a hs => ?_
   refine qdt 3 (.slice g_12.1 x0.words.length g_12.2) (op := (.load 24 (.tmp 27))) hs hcl hqC_15 (fun w hw o ho => by rw [hC_15] at hw; exact run_load1 (b := b_x0) (off := 0) (c := C.slc g_12.1 x0.words.length g_12.2) ho (by kernel_rfl) (by kernel_rfl) (Cell.ownp 0 rfl (by decide) (by kernel_rfl)) _ hw) fun a hs => ?_
   refine Vk.dOnly (i := 7) (by kernel_rfl) (Vk.call (some 32) 136 #[.pointer (some ⟨b_x0, 1, none⟩), vi 1] hs (by kernel_rfl) (by kernel_rfl) (by kernel_rfl) ?_)
   refine Vk.enterI [(0, .pointer (some ⟨b_x0, 1, none⟩)), (1, vi 1)] Tryz.func136 rfl Tryz.ntmps136 (by kernel_rfl) (Nat.le_of_ble_eq_true (by kernel_rfl)) hs.own fun KR16 hKR16 hKP16 a hs => ?_
   refine qsk 1 [0, 1] hs fun a hs => ?_
   refine qsr fun K18 hK18 => ?_
   refine qpu 4 hs fun a hs => ?_
   refine Vk.step (Vk.atomAdd (k := .i64) (b := b_x0) (off := 1) (x := x0.used.v) (y := 1) 0 (some 9) 144 Tryz.f144 hs (by kernel_rfl) (by kernel_rfl) Tryz.func144 (by kernel_rfl) (by kernel_rfl) rfl (by kernel_rfl) fun a w hs => ?_)
   refine qpe 1 [(4, vi (IntKind.i64.wrap (x0.used.v + 1)))] hs fun a hs => hK18 _ _ ?_
   clear hK18
   refine wp_ret ?_
   refine hKP16 _ _ ?_
   refine hKR16 _ _ ?_
   refine Vk.ret1 (P := Tryz.prog) (fn := Tryz.f136) (vi (IntKind.i64.wrap (x0.used.v + 1))) hs rfl (by kernel_rfl) ⟨_, _, _, rfl, hs.own, fun a hs => ?_⟩
   replace hcl : Ow κ w C_15 := by rw [hC_15]; exact Ow.part (cs0 := [C.slc g_12.1 x0.words.length g_12.2, ci x0.used.v, ci (IntKind.i64.wrap (x0.free - 1))]) (ks := [0, 2]) 0 ((Ow.to (S' := pt b_x0 (blk [C.slc g_12.1 x0.words.length g_12.2, ci (IntKind.i64.wrap (x0.used.v + 1)), ci (IntKind.i64.wrap (x0.free - 1))] 113) :: rowp g_12.1 g_12.2 23 1 (eI .u64) x0.words :: S) hs.own [0, 1] 2 (by kernel_rfl) (by kernel_rfl))) rfl rfl
   refine ⟨fun _ => hcl, ?_⟩
   refine qdp (fuel := 4) [8] hs hcl hqC_15 fun a hs => ?_
   obtain ⟨h_19, hm⟩ := ite_t hm
   obtain ⟨e_22, h_20, hm⟩ := bind_t hm
   obtain ⟨b_23, o_24, hA_25, h_21⟩ := Sl.elem (Ow.rowSl 0 hcz.drop rfl) h_20
   refine qdt 9 (.pointer (some ⟨b_23, o_24 + (IntKind.i64.wrap ((IntKind.i64.wrap (x0.used.v + 1)) - 1)).toNat * 1, none⟩)) (op := (.indexAddr 24 (.tmp 28) (.tmp 33))) hs hcl hqC_15 (fun w hw o ho => by rw [hC_15] at hw; exact run_idxSlc (k := .i64) ho (cap := g_12.2) (len := x0.words.length) ((congrArg (fun A => Value.slice A (x0.words.length) (g_12.2)) hA_25) ▸ (by kernel_rfl)) (by kernel_rfl) (by kernel_rfl) (idx_ok h_19 h_20) _) fun a hs => ?_
   refine qdt 10 (vw e_22) (op := (.load 23 (.tmp 34))) hs hcl hqC_15 (fun w hw o ho => by rw [hC_15] at hw; exact run_load1 (c := cw e_22) ho (by kernel_rfl) (by kernel_rfl) (fun w ho => h_21 w ho 0 _ rfl) _ hw.drop) fun a hs => ?_
   refine qdp (fuel := 0) [11, 12] hs hcl hqC_15 fun a hs => ?_
   replace hs := hs.pick [2, 3] (L' := [(2, vw e_22), (3, .bool true)]) (by kernel_rfl)
   refine Vk.dDone (by kernel_rfl) ?_
   refine hK14 _ _ ?_
   clear hK14
   refine wp_ret ?_
   replace hs := hs.bagG (l := Ttape_Tape.parts b_x0 (⟨x0.words, (⟨IntKind.i64.wrap (x0.used.v + 1)⟩ : Tatomic_Int64), IntKind.i64.wrap (x0.free - 1)⟩ : Ttape_Tape) g_12) (S' := S) hs.own
   replace hs := hs.toEx (Ttape_Tape.parts b_x0 (⟨x0.words, (⟨IntKind.i64.wrap (x0.used.v + 1)⟩ : Tatomic_Int64), IntKind.i64.wrap (x0.free - 1)⟩ : Ttape_Tape)) g_12 0 rfl
   exact Vk.ret2 (vw e_22) (.bool true) hs rfl (by kernel_rfl) (by kernel_rfl) (hRR ▸ by cases hm; exact ⟨rfl, hs.own⟩)
 refine Vk.region ?_
 refine qpu 6 hs fun a hs => ?_
 obtain ⟨g_4, hs⟩ := hs.unbag 0 rfl
 refine qld 0 (ci x0.free) hs rfl fun a hs => ?_
 refine qpu 3 hs fun a hs => ?_
 rcases Bool.eq_false_or_eq_true (decide (x0.free < 1)) with hb | hb
 ·replace hm := bif_t hm hb
  replace hs := hs.known (t := 13) hb (by kernel_rfl)
  refine qpe 4 [(0, pp b_x0), (17, .bool true)] hs fun a hs => ?_
  replace hs := hs.bagG (l := Ttape_Tape.parts b_x0 x0 g_4) (S' := S) hs.own
  replace hs := hs.toEx (Ttape_Tape.parts b_x0 x0) g_4 0 rfl
  exact hj3 true hm _ _ (hs.go [0, 17] [0] 1 (by kernel_rfl) (by kernel_rfl) (by kernel_rfl))
 ·replace hm := bif_f hm hb
  replace hs := hs.known (t := 13) hb (by kernel_rfl)
  refine qpu 1 hs fun a hs => ?_
  replace hs := hs.bagG (l := Ttape_Tape.parts b_x0 x0 g_4) (S' := S) hs.own
  obtain ⟨v_8, h_7, hm⟩ := bind_t hm
  refine qcl (tape_Tape_Left.ok _ _ _ h_7 _ _ _ b_x0 g_4 hs.own) hs fun w a hs => ?_
  replace hs := hs.unbagAt 0 rfl
  refine qpe 2 [(0, pp b_x0), (17, .bool (decide (v_8 < 1)))] hs fun a hs => ?_
  replace hs := hs.bagG (l := Ttape_Tape.parts b_x0 x0 g_4) (S' := S) hs.own
  replace hs := hs.toEx (Ttape_Tape.parts b_x0 x0) g_4 0 rfl
  exact hj3 (decide (v_8 < 1)) hm _ _ (hs.go [0, 17] [0] 1 (by kernel_rfl) (by kernel_rfl) (by kernel_rfl))


abbrev wire_Machine_value.R (κ : Ctx) (S : List HP) (x0 : Twire_Machine) (x1 : Int) (b_x0 : Nat) (g_x0 : Nat × Option Addr × Nat × Option Addr × Nat × Option Addr × Nat) (r : Int) : Ending → World → Prop := fun e w' => e = .returned (vw r) ∧ Ow κ w' (bagL (Twire_Machine.parts b_x0 x0 g_x0) :: S)
def wire_Machine_value.m (k : Nat) (x0 : Twire_Machine) (x1 : Int) : Option Int := (bif decide (x1 < 0) then some 0 else (if 0 ≤ x1 then (x0.values[x1.toNat]?).bind fun e_12 => some e_12 else none))

set_option maxRecDepth 100000 in
set_option maxHeartbeats 4000000 in
theorem wire_Machine_value.ok (k : Nat) (x0 : Twire_Machine) (x1 : Int) (r : Int) (hm : wire_Machine_value.m k x0 x1 = some r) (κ : Ctx) (w : World) (S : List HP) (b_x0 : Nat) (g_x0 : Nat × Option Addr × Nat × Option Addr × Nat × Option Addr × Nat) (ho : Ow κ w (bagL (Twire_Machine.parts b_x0 x0 g_x0) :: S)) :
  Calls Tryz.prog 124 #[pp b_x0, vi x1] w (wire_Machine_value.R κ S x0 x1 b_x0 g_x0 r) := by
 unfold wire_Machine_value.m at hm
 generalize hRR : wire_Machine_value.R κ S x0 x1 b_x0 g_x0 r = RR
 refine qen [(0, pp b_x0), (1, vi x1)] Tryz.func124 Tryz.ntmps124 ho fun a hs => ?_
 refine qse 1 [(0, pp b_x0), (1, vi x1)] hs fun a hs => ?_
 refine Vk.seq fun K2 hK2 => ?_
 refine qsk 2 [0, 1, 6] hs fun a hs => ?_
 refine qcs (decide (x1 < 0)) hs (fun hb => ?_) fun hb => ?_
 ·replace hm := bif_t hm hb
  refine qse 1 [(4, vw 0)] hs fun a hs => ?_
  refine wp_ret ?_
  exact qr1 (vw 0) hs rfl hRR (by cases hm; exact ⟨rfl, hs.own⟩)
 ·replace hm := bif_f hm hb
  refine wp_skip ?_
  refine hK2 _ _ ?_
  clear hK2
  refine qsr fun K5 hK5 => ?_
  refine qpu 3 hs fun a hs => ?_
  replace hs := hs.unbagAt 0 rfl
  refine qld 0 (C.slc g_x0.2.2.2.1 x0.values.length g_x0.2.2.2.2.1) hs rfl fun a hs => ?_
  refine qpu 1 hs fun a hs => ?_
  obtain ⟨h_9, hm⟩ := ite_t hm
  obtain ⟨e_12, h_10, hm⟩ := bind_t hm
  obtain ⟨b_13, o_14, hA_15, h_11⟩ := Sl.elem (Ow.rowSl 0 (Ow.to (S' := rowp g_x0.2.2.2.1 g_x0.2.2.2.2.1 23 1 (eI .u64) x0.values :: S) hs.own [3] 5 (by kernel_rfl) (by kernel_rfl)) rfl) h_10
  refine qva (.pointer (some ⟨b_13, o_14 + x1.toNat * 1, none⟩)) (op := (.indexAddr 24 (.tmp 10) (.tmp 11))) hs (fun o ho => run_idxSlc (k := .i64) ho (cap := g_x0.2.2.2.2.1) (len := x0.values.length) ((congrArg (fun A => Value.slice A (x0.values.length) (g_x0.2.2.2.2.1)) hA_15) ▸ (by kernel_rfl)) (by kernel_rfl) (by kernel_rfl) (idx_ok h_9 h_10) _) fun a hs => ?_
  refine qva (vw e_12) (op := (.load 23 (.tmp 12))) hs (fun o ho => run_load1 (c := cw e_12) ho (by kernel_rfl) (by kernel_rfl) (fun w ho => h_11 w ho 0 _ rfl) _ (Ow.to (S' := rowp g_x0.2.2.2.1 g_x0.2.2.2.2.1 23 1 (eI .u64) x0.values :: S) hs.own [3] 5 (by kernel_rfl) (by kernel_rfl))) fun a hs => ?_
  refine qpe 1 [(4, vw e_12)] hs fun a hs => hK5 _ _ ?_
  clear hK5
  refine wp_ret ?_
  replace hs := hs.bagG (l := Twire_Machine.parts b_x0 x0 g_x0) (S' := S) hs.own
  exact qr1 (vw e_12) hs rfl hRR (by cases hm; exact ⟨rfl, hs.own⟩)


abbrev octet_Rot.R (κ : Ctx) (S : List HP) (x0 : Int) (x1 : Int) (r : Int) : Ending → World → Prop := fun e w' => e = .returned (vw r) ∧ Ow κ w' (S)
def octet_Rot.m (k : Nat) (x0 : Int) (x1 : Int) : Option Int := (if 0 ≤ band .i64 x1 63 then (if 0 ≤ IntKind.i64.wrap (64 - (band .i64 x1 63)) then some (bor .u64 (shl .u64 x0 (band .i64 x1 63)) (shr .u64 x0 (IntKind.i64.wrap (64 - (band .i64 x1 63))))) else none) else none)

set_option maxRecDepth 100000 in
set_option maxHeartbeats 4000000 in
theorem octet_Rot.ok (k : Nat) (x0 : Int) (x1 : Int) (r : Int) (hm : octet_Rot.m k x0 x1 = some r) (κ : Ctx) (w : World) (S : List HP) (ho : Ow κ w (S)) :
  Calls Tryz.prog 137 #[vw x0, vi x1] w (octet_Rot.R κ S x0 x1 r) := by
 unfold octet_Rot.m at hm
 generalize hRR : octet_Rot.R κ S x0 x1 r = RR
 refine qen [(0, vw x0), (1, vi x1)] Tryz.func137 Tryz.ntmps137 ho fun a hs => ?_
 refine qse 1 [(0, vw x0), (1, vi x1)] hs fun a hs => ?_
 refine qsk 3 [0, 1] hs fun a hs => ?_
 refine Vk.seq fun K3 hK3 => ?_
 obtain ⟨C_4, hC_4⟩ := qC hs.own
 refine qdr 9 κ C_4 hs fun w hs hqC_4 => ?_
 have hcl := qO hC_4 hs.own
 refine qdp (fuel := 4) [0, 1, 3, 4, 5] hs hcl hqC_4 fun a hs => ?_
 obtain ⟨h_5, hm⟩ := ite_t hm
 refine qdt 2 (vw (shl .u64 x0 (band .i64 x1 63))) (op := (.binOp .shl 23 (.tmp 7) (.tmp 8) 3)) hs hcl hqC_4 (fun w hw o ho => by rw [hC_4] at hw; exact run_shl (k' := .i64) ho (by kernel_rfl) (by kernel_rfl) h_5 _) fun a hs => ?_
 obtain ⟨h_6, hm⟩ := ite_t hm
 refine qdt 6 (vw (shr .u64 x0 (IntKind.i64.wrap (64 - (band .i64 x1 63))))) (op := (.binOp .shr 23 (.tmp 10) (.tmp 12) 3)) hs hcl hqC_4 (fun w hw o ho => by rw [hC_4] at hw; exact run_shr (k' := .i64) ho (by kernel_rfl) (by kernel_rfl) h_6 _) fun a hs => ?_
 refine qdp (fuel := 0) [7, 8] hs hcl hqC_4 fun a hs => ?_
 replace hs := hs.pick [4] (L' := [(4, vw (bor .u64 (shl .u64 x0 (band .i64 x1 63)) (shr .u64 x0 (IntKind.i64.wrap (64 - (band .i64 x1 63))))))]) (by kernel_rfl)
 refine Vk.dDone (by kernel_rfl) ?_
 refine hK3 _ _ ?_
 clear hK3
 refine wp_ret ?_
 exact qr1 (vw (bor .u64 (shl .u64 x0 (band .i64 x1 63)) (shr .u64 x0 (IntKind.i64.wrap (64 - (band .i64 x1 63)))))) hs rfl hRR (by cases hm; exact ⟨rfl, hs.own⟩)


def op_Eval.j1 (k : Nat) (x0 : Tapi_Op) (x1 : Int) (x2 : Int) (x3 : Int) (p_12 : Bool) : Option (Int) := (bif p_12 then some x0.c else (bif x0.kind == 5 then some (bxor .u64 x1 x2) else (bif x0.kind == 6 then some (bnot .u64 x1) else (bif x0.kind == 7 then some (band .u64 x1 x2) else (bif x0.kind == 8 then some (band .u64 x1 x0.c) else (bif x0.kind == 9 then (if 0 ≤ Int.tmod x0.c 64 then some (shl .u64 x1 (Int.tmod x0.c 64)) else none) else (bif x0.kind == 10 then (if 0 ≤ Int.tmod x0.c 64 then some (shr .u64 x1 (Int.tmod x0.c 64)) else none) else (bif x0.kind == 11 then (octet_Rot.m k x1 (IntKind.i64.wrap (Int.tmod x0.c 64))).bind fun v_32 => some v_32 else (bif x0.kind == 12 then some (bxor .u64 (bxor .u64 x1 x2) x3) else some 0)))))))))
abbrev op_Eval.R (κ : Ctx) (S : List HP) (x0 : Tapi_Op) (x1 : Int) (x2 : Int) (x3 : Int) (x4 : Int) (r : Int) : Ending → World → Prop := fun e w' => e = .returned (vw r) ∧ Ow κ w' (S)
def op_Eval.m (k : Nat) (x0 : Tapi_Op) (x1 : Int) (x2 : Int) (x3 : Int) (x4 : Int) : Option Int := (bif x0.kind == 1 then some x4 else (bif x0.kind == 2 then some (bxor .u64 (bxor .u64 x4 x1) x2) else (bif x0.kind == 3 then op_Eval.j1 k x0 x1 x2 x3 (x0.kind == 3) else op_Eval.j1 k x0 x1 x2 x3 (x0.kind == 4))))

set_option maxRecDepth 100000 in
set_option maxHeartbeats 4000000 in
theorem op_Eval.ok (k : Nat) (x0 : Tapi_Op) (x1 : Int) (x2 : Int) (x3 : Int) (x4 : Int) (r : Int) (hm : op_Eval.m k x0 x1 x2 x3 x4 = some r) (κ : Ctx) (w : World) (S : List HP) (ho : Ow κ w (S)) :
  Calls Tryz.prog 123 #[.agg (vals [ci x0.kind, ci x0.dom, ci x0.a, ci x0.b, ci x0.d, cw x0.c]), vw x1, vw x2, vw x3, vw x4] w (op_Eval.R κ S x0 x1 x2 x3 x4 r) := by
 unfold op_Eval.m at hm
 generalize hRR : op_Eval.R κ S x0 x1 x2 x3 x4 r = RR
 refine qen [(0, .agg (vals [ci x0.kind, ci x0.dom, ci x0.a, ci x0.b, ci x0.d, cw x0.c])), (1, vw x1), (2, vw x2), (3, vw x3), (4, vw x4)] Tryz.func123 Tryz.ntmps123 ho fun a hs => ?_
 refine qsr fun K1 hK1 => ?_
 refine qbx 0 103 [ci x0.kind, ci x0.dom, ci x0.a, ci x0.b, ci x0.d, cw x0.c] 5 hs fun b_2 w a hs => ?_
 refine qpk 1 [1, 2, 3, 4, 5] hs fun a hs => hK1 _ _ ?_
 clear hK1
 refine qsr fun K3 hK3 => ?_
 refine qpu 1 hs fun a hs => ?_
 refine qld 0 (cw x0.c) hs rfl fun a hs => ?_
 refine qpk 2 [1, 2, 3, 4, 5, 11] hs fun a hs => hK3 _ _ ?_
 clear hK3
 refine Vk.seq fun K4 hK4 => ?_
 refine qsr fun K5 hK5 => ?_
 refine qpu 1 hs fun a hs => ?_
 refine qld 0 (ci x0.kind) hs rfl fun a hs => ?_
 refine qpk 0 [1, 2, 3, 4, 5, 11, 16] hs fun a hs => hK5 _ _ ?_
 clear hK5
 refine wp_block ?_
 refine qsk 2 [1, 2, 3, 4, 5, 11, 16, 17] hs fun a hs => ?_
 refine qcs (x0.kind == 1) hs (fun hb => ?_) fun hb => ?_
 ·replace hm := bif_t hm hb
  refine qse 2 [(10, vw x4)] hs fun a hs => ?_
  refine wp_ret ?_
  exact qr1 (vw x4) hs rfl hRR (by cases hm; exact ⟨rfl, hs.own.drop⟩)
 ·replace hm := bif_f hm hb
  refine qsk 2 [1, 2, 3, 4, 5, 11, 16, 20] hs fun a hs => ?_
  refine qcs (x0.kind == 2) hs (fun hb => ?_) fun hb => ?_
  ·replace hm := bif_t hm hb
   refine qsk 6 [10] hs fun a hs => ?_
   refine wp_ret ?_
   exact qr1 (vw (bxor .u64 (bxor .u64 x4 x1) x2)) hs rfl hRR (by cases hm; exact ⟨rfl, hs.own.drop⟩)
  ·replace hm := bif_f hm hb
   refine Vk.seq fun K10 hK10 => ?_
   have hj10 : ∀ (p_12 : Bool), op_Eval.j1 k x0 x1 x2 x3 p_12 = some r → ∀ (a : Act) (w : World), St 75 a w κ [(1, vw x1), (2, vw x2), (3, vw x3), (5, pp b_2), (11, vw (Int.tmod x0.c 64)), (16, vi x0.kind), (27, .bool p_12)] (pt b_2 (blk (Tapi_Op.cells x0) 103) :: S) → K10 a w := by
    intro p_12 hm a w hs
    unfold op_Eval.j1 at hm
    refine hK10 _ _ ?_
    refine qcs (p_12) hs (fun hb => ?_) fun hb => ?_
    ·replace hm := bif_t hm hb
     refine qsr fun K13 hK13 => ?_
     refine qpu 1 hs fun a hs => ?_
     refine qld 0 (cw x0.c) hs rfl fun a hs => ?_
     refine qpe 1 [(10, vw x0.c)] hs fun a hs => hK13 _ _ ?_
     clear hK13
     refine wp_ret ?_
     exact qr1 (vw x0.c) hs rfl hRR (by cases hm; exact ⟨rfl, hs.own.drop⟩)
    ·replace hm := bif_f hm hb
     refine qsk 2 [1, 2, 3, 5, 11, 16, 32] hs fun a hs => ?_
     refine qcs (x0.kind == 5) hs (fun hb => ?_) fun hb => ?_
     ·replace hm := bif_t hm hb
      refine qsk 4 [10] hs fun a hs => ?_
      refine wp_ret ?_
      exact qr1 (vw (bxor .u64 x1 x2)) hs rfl hRR (by cases hm; exact ⟨rfl, hs.own.drop⟩)
     ·replace hm := bif_f hm hb
      refine qsk 2 [1, 2, 3, 5, 11, 16, 37] hs fun a hs => ?_
      refine qcs (x0.kind == 6) hs (fun hb => ?_) fun hb => ?_
      ·replace hm := bif_t hm hb
       refine qse 3 [(10, vw (bnot .u64 x1))] hs fun a hs => ?_
       refine wp_ret ?_
       exact qr1 (vw (bnot .u64 x1)) hs rfl hRR (by cases hm; exact ⟨rfl, hs.own.drop⟩)
      ·replace hm := bif_f hm hb
       refine qsk 2 [1, 2, 3, 5, 11, 16, 41] hs fun a hs => ?_
       refine qcs (x0.kind == 7) hs (fun hb => ?_) fun hb => ?_
       ·replace hm := bif_t hm hb
        refine qsk 4 [10] hs fun a hs => ?_
        refine wp_ret ?_
        exact qr1 (vw (band .u64 x1 x2)) hs rfl hRR (by cases hm; exact ⟨rfl, hs.own.drop⟩)
       ·replace hm := bif_f hm hb
        refine qsk 2 [1, 2, 3, 5, 11, 16, 46] hs fun a hs => ?_
        refine qcs (x0.kind == 8) hs (fun hb => ?_) fun hb => ?_
        ·replace hm := bif_t hm hb
         refine qsr fun K21 hK21 => ?_
         refine qpu 2 hs fun a hs => ?_
         refine qld 0 (cw x0.c) hs rfl fun a hs => ?_
         refine qpk 2 [10] hs fun a hs => hK21 _ _ ?_
         clear hK21
         refine wp_ret ?_
         exact qr1 (vw (band .u64 x1 x0.c)) hs rfl hRR (by cases hm; exact ⟨rfl, hs.own.drop⟩)
        ·replace hm := bif_f hm hb
         refine qsk 2 [1, 2, 3, 11, 16, 52] hs fun a hs => ?_
         refine qcs (x0.kind == 9) hs (fun hb => ?_) fun hb => ?_
         ·replace hm := bif_t hm hb
          refine qsr fun K23 hK23 => ?_
          refine qpu 2 hs fun a hs => ?_
          obtain ⟨h_24, hm⟩ := ite_t hm
          refine qva (vw (shl .u64 x1 (Int.tmod x0.c 64))) (op := (.binOp .shl 23 (.tmp 54) (.tmp 55) 23)) hs (fun o ho => run_shl (k' := .u64) ho (by kernel_rfl) (by kernel_rfl) h_24 _) fun a hs => ?_
          refine qpe 1 [(10, vw (shl .u64 x1 (Int.tmod x0.c 64)))] hs fun a hs => hK23 _ _ ?_
          clear hK23
          refine wp_ret ?_
          exact qr1 (vw (shl .u64 x1 (Int.tmod x0.c 64))) hs rfl hRR (by cases hm; exact ⟨rfl, hs.own.drop⟩)
         ·replace hm := bif_f hm hb
          refine qsk 2 [1, 2, 3, 11, 16, 57] hs fun a hs => ?_
          refine qcs (x0.kind == 10) hs (fun hb => ?_) fun hb => ?_
          ·replace hm := bif_t hm hb
           refine qsr fun K26 hK26 => ?_
           refine qpu 2 hs fun a hs => ?_
           obtain ⟨h_27, hm⟩ := ite_t hm
           refine qva (vw (shr .u64 x1 (Int.tmod x0.c 64))) (op := (.binOp .shr 23 (.tmp 59) (.tmp 60) 23)) hs (fun o ho => run_shr (k' := .u64) ho (by kernel_rfl) (by kernel_rfl) h_27 _) fun a hs => ?_
           refine qpk 1 [10] hs fun a hs => hK26 _ _ ?_
           clear hK26
           refine wp_ret ?_
           exact qr1 (vw (shr .u64 x1 (Int.tmod x0.c 64))) hs rfl hRR (by cases hm; exact ⟨rfl, hs.own.drop⟩)
          ·replace hm := bif_f hm hb
           refine qsk 2 [1, 2, 3, 11, 16, 62] hs fun a hs => ?_
           refine qcs (x0.kind == 11) hs (fun hb => ?_) fun hb => ?_
           ·replace hm := bif_t hm hb
            refine qsr fun K29 hK29 => ?_
            refine qpu 3 hs fun a hs => ?_
            obtain ⟨v_32, h_31, hm⟩ := bind_t hm
            refine qcl (octet_Rot.ok _ _ _ _ h_31 _ _ (pt b_2 (blk (Tapi_Op.cells x0) 103) :: S) hs.own) hs fun w a hs => ?_
            refine qpe 1 [(10, vw v_32)] hs fun a hs => hK29 _ _ ?_
            clear hK29
            refine wp_ret ?_
            exact qr1 (vw v_32) hs rfl hRR (by cases hm; exact ⟨rfl, hs.own.drop⟩)
           ·replace hm := bif_f hm hb
            refine qsk 2 [1, 2, 3, 68] hs fun a hs => ?_
            refine qcs (x0.kind == 12) hs (fun hb => ?_) fun hb => ?_
            ·replace hm := bif_t hm hb
             refine qsk 6 [10] hs fun a hs => ?_
             refine wp_ret ?_
             exact qr1 (vw (bxor .u64 (bxor .u64 x1 x2) x3)) hs rfl hRR (by cases hm; exact ⟨rfl, hs.own.drop⟩)
            ·replace hm := bif_f hm hb
             refine wp_skip ?_
             refine hK4 _ _ ?_
             clear hK4
             refine qse 1 [(10, vw 0)] hs fun a hs => ?_
             refine wp_ret ?_
             exact qr1 (vw 0) hs rfl hRR (by cases hm; exact ⟨rfl, hs.own.drop⟩)
   refine qse 2 [(1, vw x1), (2, vw x2), (3, vw x3), (5, pp b_2), (11, vw (Int.tmod x0.c 64)), (16, vi x0.kind), (27, .bool (x0.kind == 3))] hs fun a hs => ?_
   refine qcs (x0.kind == 3) hs (fun hb => ?_) fun hb => ?_
   ·replace hm := bif_t hm hb
    refine wp_skip ?_
    exact hj10 (x0.kind == 3) hm _ _ (hs.go [1, 2, 3, 5, 11, 16, 27] [0] 1 (by kernel_rfl) (by kernel_rfl) (by kernel_rfl))
   ·replace hm := bif_f hm hb
    refine Vk.region ?_
    refine qpe 2 [(1, vw x1), (2, vw x2), (3, vw x3), (5, pp b_2), (11, vw (Int.tmod x0.c 64)), (16, vi x0.kind), (27, .bool (x0.kind == 4))] hs fun a hs => ?_
    exact hj10 (x0.kind == 4) hm _ _ (hs.go [1, 2, 3, 5, 11, 16, 27] [0] 1 (by kernel_rfl) (by kernel_rfl) (by kernel_rfl))


def wire_Machine_Do.j3 (k : Nat) (x1 : Tapi_Op) (p_43 : Int) (p_56 : Twire_Machine) : Option ((Int × Twire_Machine)) := (bif p_56.dry then some (IntKind.i64.wrap ((IntKind.i64.wrap (p_56.base + 1)) - 1), (⟨p_56.n, p_56.most, IntKind.i64.wrap (p_56.base + 1), p_56.words, p_56.draws, p_56.dry, p_56.openF, p_56.fromF, p_56.bad, p_56.tape, p_56.ops, p_56.values, p_56.blocks⟩ : Twire_Machine)) else (wire_Machine_value.m k p_56 x1.a).bind fun v_69 => (wire_Machine_value.m k p_56 x1.b).bind fun v_72 => (wire_Machine_value.m k p_56 x1.d).bind fun v_75 => (op_Eval.m k x1 v_69 v_72 v_75 p_43).bind fun v_78 => (if (p_56.values.length + ([v_78] : List Int).length) * 8 ≤ 140737488355328 then (if (p_56.ops.length + ([x1] : List Tapi_Op).length) * 48 ≤ 140737488355328 then some (IntKind.i64.wrap ((((p_56.ops ++ ([x1] : List Tapi_Op)).length : Nat) : Int) - 1), (⟨p_56.n, p_56.most, p_56.base, p_56.words, p_56.draws, p_56.dry, p_56.openF, p_56.fromF, p_56.bad, p_56.tape, p_56.ops ++ ([x1] : List Tapi_Op), p_56.values ++ ([v_78] : List Int), p_56.blocks⟩ : Twire_Machine)) else none) else none))
def wire_Machine_Do.j2 (k : Nat) (x1 : Tapi_Op) (p_42 : Twire_Machine) (p_43 : Int) : Option ((Int × Twire_Machine)) := (bif x1.kind == 1 then wire_Machine_Do.j3 k x1 p_43 (⟨p_42.n, p_42.most, p_42.base, p_42.words, IntKind.i64.wrap (p_42.draws + 1), p_42.dry, p_42.openF, p_42.fromF, p_42.bad, p_42.tape, p_42.ops, p_42.values, p_42.blocks⟩ : Twire_Machine) else (bif x1.kind == 2 then wire_Machine_Do.j3 k x1 p_43 (⟨p_42.n, p_42.most, p_42.base, IntKind.i64.wrap (p_42.words + 1), p_42.draws, p_42.dry, p_42.openF, p_42.fromF, p_42.bad, p_42.tape, p_42.ops, p_42.values, p_42.blocks⟩ : Twire_Machine) else wire_Machine_Do.j3 k x1 p_43 p_42))
def wire_Machine_Do.j1 (k : Nat) (x0 : Twire_Machine) (x1 : Tapi_Op) (x2 : Int) (p_20 : Bool) : Option ((Int × Twire_Machine)) := (bif p_20 then (wire_Machine_fail.m k x0 3).bind fun v_24 => some (v_24.1, v_24.2) else (bif (x1.kind == 1) && (!x0.dry) then (bif x0.dry then none else (tape_Tape_Draw.m k x0.tape).bind fun v_35 => (bif !v_35.2.1 then (wire_Machine_fail.m k (⟨x0.n, x0.most, x0.base, x0.words, x0.draws, x0.dry, x0.openF, x0.fromF, x0.bad, v_35.2.2, x0.ops, x0.values, x0.blocks⟩ : Twire_Machine) 2).bind fun v_41 => some (v_41.1, v_41.2) else wire_Machine_Do.j2 k x1 (⟨x0.n, x0.most, x0.base, x0.words, x0.draws, x0.dry, x0.openF, x0.fromF, x0.bad, v_35.2.2, x0.ops, x0.values, x0.blocks⟩ : Twire_Machine) v_35.1)) else wire_Machine_Do.j2 k x1 x0 x2))
abbrev wire_Machine_Do.R (κ : Ctx) (S : List HP) (x0 : Twire_Machine) (x1 : Tapi_Op) (x2 : Int) (b_x0 : Nat) (r : (Int × Twire_Machine)) : Ending → World → Prop := fun e w' => e = .returned (vi r.1) ∧ Ow κ w' (Twire_Machine.own b_x0 r.2 :: S)
def wire_Machine_Do.m (k : Nat) (x0 : Twire_Machine) (x1 : Tapi_Op) (x2 : Int) : Option (Int × Twire_Machine) := (bif x0.bad != 0 then some ((-1), x0) else (wire_Machine_right.m k x0 x1).bind fun v_13 => (bif !v_13 then (wire_Machine_fail.m k x0 1).bind fun v_17 => some (v_17.1, v_17.2) else (bif !x0.dry then wire_Machine_Do.j1 k x0 x1 x2 (decide (((x0.ops.length : Nat) : Int) ≥ x0.most)) else wire_Machine_Do.j1 k x0 x1 x2 false)))

set_option maxRecDepth 100000 in
set_option maxHeartbeats 4000000 in
theorem wire_Machine_Do.ok (k : Nat) (x0 : Twire_Machine) (x1 : Tapi_Op) (x2 : Int) (r : (Int × Twire_Machine)) (hm : wire_Machine_Do.m k x0 x1 x2 = some r) (κ : Ctx) (w : World) (S : List HP) (b_x0 : Nat) (ho : Ow κ w (Twire_Machine.own b_x0 x0 :: S)) :
  Calls Tryz.prog 107 #[pp b_x0, .agg (vals [ci x1.kind, ci x1.dom, ci x1.a, ci x1.b, ci x1.d, cw x1.c]), vw x2] w (wire_Machine_Do.R κ S x0 x1 x2 b_x0 r) := by
 unfold wire_Machine_Do.m at hm
 generalize hRR : wire_Machine_Do.R κ S x0 x1 x2 b_x0 r = RR
 refine qen [(0, pp b_x0), (1, .agg (vals [ci x1.kind, ci x1.dom, ci x1.a, ci x1.b, ci x1.d, cw x1.c])), (2, vw x2)] Tryz.func107 Tryz.ntmps107 ho fun a hs => ?_
 refine qsr fun K1 hK1 => ?_
 refine qbx 1 103 [ci x1.kind, ci x1.dom, ci x1.a, ci x1.b, ci x1.d, cw x1.c] 4 hs fun b_2 w a hs => ?_
 refine qpe 1 [(0, pp b_x0), (2, vw x2), (4, pp b_2)] hs fun a hs => hK1 _ _ ?_
 clear hK1
 refine Vk.seq fun K3 hK3 => ?_
 refine wp_block ?_
 refine qsr fun K4 hK4 => ?_
 refine qpu 6 hs fun a hs => ?_
 obtain ⟨g_5, hs⟩ := hs.unbag 1 rfl
 refine qld 0 (ci x0.bad) hs rfl fun a hs => ?_
 refine qpk 3 [0, 2, 4, 9] hs fun a hs => hK4 _ _ ?_
 clear hK4
 refine qcs (x0.bad != 0) hs (fun hb => ?_) fun hb => ?_
 ·replace hm := bif_t hm hb
  refine qse 1 [(6, vi (-1))] hs fun a hs => ?_
  refine wp_ret ?_
  replace hs := hs.bagG (l := Twire_Machine.parts b_x0 x0 g_5) (S' := pt b_2 (blk (Tapi_Op.cells x1) 103) :: S) hs.own
  replace hs := hs.toEx (Twire_Machine.parts b_x0 x0) g_5 0 rfl
  exact qr1 (vi (-1)) hs rfl hRR (by cases hm; exact ⟨rfl, hs.own.f1.drop⟩)
 ·replace hm := bif_f hm hb
  refine qsr fun K10 hK10 => ?_
  refine qpu 1 hs fun a hs => ?_
  refine qln 5 ([ci x1.kind, ci x1.dom, ci x1.a, ci x1.b, ci x1.d, cw x1.c]) hs rfl fun a hs => ?_
  replace hs := hs.bagG (l := Twire_Machine.parts b_x0 x0 g_5) (S' := pt b_2 (blk (Tapi_Op.cells x1) 103) :: S) hs.own
  obtain ⟨v_13, h_12, hm⟩ := bind_t hm
  refine qcl (wire_Machine_right.ok _ _ _ _ h_12 _ _ _ b_x0 g_5 hs.own) hs fun w a hs => ?_
  replace hs := hs.unbagAt 0 rfl
  refine qpk 2 [0, 2, 4, 19] hs fun a hs => hK10 _ _ ?_
  clear hK10
  refine qcs (!v_13) hs (fun hb => ?_) fun hb => ?_
  ·replace hm := bif_t hm hb
   refine qsr fun K14 hK14 => ?_
   refine qpu 1 hs fun a hs => ?_
   replace hs := hs.bagG (l := Twire_Machine.parts b_x0 x0 g_5) (S' := pt b_2 (blk (Tapi_Op.cells x1) 103) :: S) hs.own
   replace hs := hs.toEx (Twire_Machine.parts b_x0 x0) g_5 0 rfl
   obtain ⟨v_17, h_16, hm⟩ := bind_t hm
   refine qcl (wire_Machine_fail.ok _ _ _ _ h_16 _ _ _ b_x0 hs.own) hs fun w a hs => ?_
   refine qpe 1 [(6, vi v_17.1)] hs fun a hs => hK14 _ _ ?_
   clear hK14
   refine wp_ret ?_
   exact qr1 (vi v_17.1) hs rfl hRR (by cases hm; exact ⟨rfl, hs.own.f1.drop⟩)
  ·replace hm := bif_f hm hb
   refine Vk.seq fun K18 hK18 => ?_
   have hj18 : ∀ (p_20 : Bool), wire_Machine_Do.j1 k x0 x1 x2 p_20 = some r → ∀ (a : Act) (w : World), St 145 a w κ [(0, pp b_x0), (2, vw x2), (4, pp b_2), (26, .bool p_20)] (Twire_Machine.own b_x0 x0 :: pt b_2 (blk (Tapi_Op.cells x1) 103) :: S) → K18 a w := by
    intro p_20 hm a w hs
    unfold wire_Machine_Do.j1 at hm
    refine hK18 _ _ ?_
    refine qcs (p_20) hs (fun hb => ?_) fun hb => ?_
    ·replace hm := bif_t hm hb
     refine qsr fun K21 hK21 => ?_
     refine qpu 1 hs fun a hs => ?_
     obtain ⟨v_24, h_23, hm⟩ := bind_t hm
     refine qcl (wire_Machine_fail.ok _ _ _ _ h_23 _ _ _ b_x0 hs.own) hs fun w a hs => ?_
     refine qpe 1 [(6, vi v_24.1)] hs fun a hs => hK21 _ _ ?_
     clear hK21
     refine wp_ret ?_
     exact qr1 (vi v_24.1) hs rfl hRR (by cases hm; exact ⟨rfl, hs.own.f1.drop⟩)
    ·replace hm := bif_f hm hb
     refine wp_skip ?_
     refine hK3 _ _ ?_
     clear hK3
     refine Vk.seq fun K25 hK25 => ?_
     have hj25 : ∀ (p_42 : Twire_Machine) (p_43 : Int), wire_Machine_Do.j2 k x1 p_42 p_43 = some r → ∀ (a : Act) (w : World), St 145 a w κ [(0, pp b_x0), (2, vw p_43), (4, pp b_2)] (Twire_Machine.own b_x0 p_42 :: pt b_2 (blk (Tapi_Op.cells x1) 103) :: S) → K25 a w := by
      intro p_42 p_43 hm a w hs
      unfold wire_Machine_Do.j2 at hm
      refine hK25 _ _ ?_
      refine Vk.seq fun K44 hK44 => ?_
      have hj44 : ∀ (p_56 : Twire_Machine), wire_Machine_Do.j3 k x1 p_43 p_56 = some r → ∀ (a : Act) (w : World), St 145 a w κ [(0, pp b_x0), (2, vw p_43), (4, pp b_2)] (Twire_Machine.own b_x0 p_56 :: pt b_2 (blk (Tapi_Op.cells x1) 103) :: S) → K44 a w := by
       intro p_56 hm a w hs
       unfold wire_Machine_Do.j3 at hm
       refine hK44 _ _ ?_
       refine Vk.seq fun K57 hK57 => ?_
       refine qsr fun K58 hK58 => ?_
       refine qpu 3 hs fun a hs => ?_
       obtain ⟨g_59, hs⟩ := hs.unbag 0 rfl
       refine qld 0 (C.bool p_56.dry) hs rfl fun a hs => ?_
       refine qpk 0 [0, 2, 4, 92] hs fun a hs => hK58 _ _ ?_
       clear hK58
       refine qcs (p_56.dry) hs (fun hb => ?_) fun hb => ?_
       ·replace hm := bif_t hm hb
        refine qsr fun K63 hK63 => ?_
        refine qpu 3 hs fun a hs => ?_
        refine qld 0 (ci p_56.base) hs rfl fun a hs => ?_
        refine qpu 3 hs fun a hs => ?_
        refine qst 0 2 (ci (IntKind.i64.wrap (p_56.base + 1))) hs rfl fun a w hs => ?_
        refine qpe 0 [(0, pp b_x0)] hs fun a hs => hK63 _ _ ?_
        clear hK63
        refine qsr fun K64 hK64 => ?_
        refine qpu 3 hs fun a hs => ?_
        refine qld 0 (ci (IntKind.i64.wrap (p_56.base + 1))) hs rfl fun a hs => ?_
        refine qpk 2 [6] hs fun a hs => hK64 _ _ ?_
        clear hK64
        refine wp_ret ?_
        replace hs := hs.bagG (l := Twire_Machine.parts b_x0 (⟨p_56.n, p_56.most, IntKind.i64.wrap (p_56.base + 1), p_56.words, p_56.draws, p_56.dry, p_56.openF, p_56.fromF, p_56.bad, p_56.tape, p_56.ops, p_56.values, p_56.blocks⟩ : Twire_Machine) g_59) (S' := pt b_2 (blk (Tapi_Op.cells x1) 103) :: S) hs.own
        replace hs := hs.toEx (Twire_Machine.parts b_x0 (⟨p_56.n, p_56.most, IntKind.i64.wrap (p_56.base + 1), p_56.words, p_56.draws, p_56.dry, p_56.openF, p_56.fromF, p_56.bad, p_56.tape, p_56.ops, p_56.values, p_56.blocks⟩ : Twire_Machine)) g_59 0 rfl
        exact qr1 (vi (IntKind.i64.wrap ((IntKind.i64.wrap (p_56.base + 1)) - 1))) hs rfl hRR (by cases hm; exact ⟨rfl, hs.own.f1.drop⟩)
       ·replace hm := bif_f hm hb
        refine wp_skip ?_
        refine hK57 _ _ ?_
        clear hK57
        refine Vk.seq fun K65 hK65 => ?_
        obtain ⟨C_66, hC_66⟩ := qC hs.own.f3.drop
        refine qdr 22 κ C_66 hs fun w hs hqC_66 => ?_
        have hcl := qO hC_66 hs.own.f3.drop
        refine qdp (fuel := 14) [0, 1, 2, 3, 6, 7, 10, 11, 14, 15, 18] hs hcl hqC_66 fun a hs => ?_
        refine qdl 4 0 (C.slc g_59.2.2.2.1 p_56.values.length g_59.2.2.2.2.1) hs hcl hqC_66 hC_66 rfl fun a hs => ?_
        refine qdn 5 4 ([ci x1.kind, ci x1.dom, ci x1.a, ci x1.b, ci x1.d, cw x1.c]) hs hcl hqC_66 hC_66 rfl fun a hs => ?_
        refine qdl 8 4 (ci x1.a) hs hcl hqC_66 hC_66 rfl fun a hs => ?_
        refine qdl 12 4 (ci x1.b) hs hcl hqC_66 hC_66 rfl fun a hs => ?_
        refine qdl 16 4 (ci x1.d) hs hcl hqC_66 hC_66 rfl fun a hs => ?_
        replace hs := hs.bagG (l := Twire_Machine.parts b_x0 p_56 g_59) (S' := pt b_2 (blk (Tapi_Op.cells x1) 103) :: S) hs.own
        obtain ⟨v_69, h_68, hm⟩ := bind_t hm
        refine qdc 9 (wire_Machine_value.ok _ _ _ _ h_68 _ _ _ b_x0 g_59 hs.own) hs fun w a hs => ?_
        replace hs := hs.unbagAt 0 rfl
        replace hcl := qO hC_66 hs.own.f3.drop
        refine ⟨fun _ => hcl, ?_⟩
        replace hs := hs.bagG (l := Twire_Machine.parts b_x0 p_56 g_59) (S' := pt b_2 (blk (Tapi_Op.cells x1) 103) :: S) hs.own
        obtain ⟨v_72, h_71, hm⟩ := bind_t hm
        refine qdc 13 (wire_Machine_value.ok _ _ _ _ h_71 _ _ _ b_x0 g_59 hs.own) hs fun w a hs => ?_
        replace hs := hs.unbagAt 0 rfl
        replace hcl := qO hC_66 hs.own.f3.drop
        refine ⟨fun _ => hcl, ?_⟩
        replace hs := hs.bagG (l := Twire_Machine.parts b_x0 p_56 g_59) (S' := pt b_2 (blk (Tapi_Op.cells x1) 103) :: S) hs.own
        obtain ⟨v_75, h_74, hm⟩ := bind_t hm
        refine qdc 17 (wire_Machine_value.ok _ _ _ _ h_74 _ _ _ b_x0 g_59 hs.own) hs fun w a hs => ?_
        replace hs := hs.unbagAt 0 rfl
        replace hcl := qO hC_66 hs.own.f3.drop
        refine ⟨fun _ => hcl, ?_⟩
        obtain ⟨v_78, h_77, hm⟩ := bind_t hm
        refine qdc 19 (op_Eval.ok _ _ _ _ _ _ _ h_77 _ _ (pt b_x0 (blk (Twire_Machine.obj p_56 g_59.1 g_59.2.1 g_59.2.2.1 g_59.2.2.2.1 g_59.2.2.2.2.1 g_59.2.2.2.2.2.1 g_59.2.2.2.2.2.2) 95) :: opto p_56.dry (Ttape_Tape.own g_59.1 p_56.tape) :: rowp g_59.2.1 g_59.2.2.1 103 6 Tapi_Op.cells p_56.ops :: rowp g_59.2.2.2.1 g_59.2.2.2.2.1 23 1 (eI .u64) p_56.values :: rowp g_59.2.2.2.2.2.1 g_59.2.2.2.2.2.2 119 3 Tapi_Span.cells p_56.blocks :: pt b_2 (blk (Tapi_Op.cells x1) 103) :: S) hs.own) hs fun w a hs => ?_
        replace hcl := qO hC_66 hs.own.f3.drop
        refine ⟨fun _ => hcl, ?_⟩
        refine Vk.dOnly (i := 20) (by kernel_rfl) (Vk.buildOp (sz := 1) (by_ := 8) (t := 24) (e := 23) (parts := #[(0, (.tmp 124))]) (zs := vals [cw 0]) ([v_78] : List Int) (eI .u64) (some 125) hs (by kernel_rfl) (by kernel_rfl) (by kernel_rfl) (by kernel_rfl) (by decide) rfl (fun x _ => rfl) (Nat.le_of_ble_eq_true (by kernel_rfl)) (by kernel_rfl) fun A_79 w a hs => ?_)
        replace hcl := qO hC_66 hs.own.f4.drop.drop
        refine ⟨fun _ => hcl, ?_⟩
        obtain ⟨h_81, hm⟩ := ite_t hm
        refine Vk.dOnly (i := 21) (by kernel_rfl) (Vk.appendOp (x := (.tmp 109)) (y := (.tmp 125)) (e := 23) (t := 24) (by_ := 8) (sz := 1) (enc := (eI .u64)) (A := g_59.2.2.2.1) (cap := g_59.2.2.2.2.1) (xs := p_56.values) (ys := ([v_78] : List Int)) (B := A_79) (c2 := 1) 4 (some 126) hs (by kernel_rfl) (by kernel_rfl) (by kernel_rfl) (by kernel_rfl) rfl (Sl.lift (fun w ho => (Ow.to (S' := rowp A_79 1 23 1 (eI .u64) ([v_78] : List Int) :: S) ho [0] 7 (by kernel_rfl) (by kernel_rfl))) (Ow.rowSl 0 (Ow.to (S' := rowp A_79 1 23 1 (eI .u64) ([v_78] : List Int) :: S) hs.own [0] 7 (by kernel_rfl) (by kernel_rfl)) rfl)) (by kernel_rfl) (by kernel_rfl) (by decide) (by decide) h_81 fun A_82 c_83 w a hs => ?_)
        replace hcl := qO hC_66 hs.own.f4.drop.drop
        refine ⟨fun _ => hcl, ?_⟩
        refine Vk.dOnly (i := 22) (by kernel_rfl) (Vk.dPure1 [(127, pp b_x0)] hs (by kernel_rfl) fun a hs => ?_)
        refine ⟨fun h => absurd h (by decide), ?_⟩
        refine Vk.dOnly (i := 23) (by kernel_rfl) (Vk.dPure1 [(128, .pointer (some ⟨b_x0, 11, none⟩))] hs (by kernel_rfl) fun a hs => ?_)
        refine ⟨fun h => absurd h (by decide), ?_⟩
        refine qsd 24 1 11 (C.slc A_82 ((p_56.values ++ ([v_78] : List Int)).length) c_83) hs rfl fun a w hs => ?_
        refine ⟨fun h => absurd h (by decide), ?_⟩
        replace hs := hs.pick [0, 4] (L' := [(0, pp b_x0), (4, pp b_2)]) (by kernel_rfl)
        refine Vk.dDone (by kernel_rfl) ?_
        refine hK65 _ _ ?_
        clear hK65
        refine Vk.seq fun K84 hK84 => ?_
        obtain ⟨C_85, hC_85⟩ := qC hs.own.f3.drop
        refine qdr 8 κ C_85 hs fun w hs hqC_85 => ?_
        have hcl := qO hC_85 hs.own.f3.drop
        refine qdp (fuel := 7) [0, 1, 2, 3] hs hcl hqC_85 fun a hs => ?_
        refine qdl 4 1 (C.slc g_59.2.1 p_56.ops.length g_59.2.2.1) hs hcl hqC_85 hC_85 rfl fun a hs => ?_
        refine qdn 5 5 ([ci x1.kind, ci x1.dom, ci x1.a, ci x1.b, ci x1.d, cw x1.c]) hs hcl hqC_85 hC_85 rfl fun a hs => ?_
        refine Vk.dOnly (i := 6) (by kernel_rfl) (Vk.buildOp (sz := 6) (by_ := 48) (t := 49) (e := 103) (parts := #[(0, (.tmp 134))]) (zs := vals [ci 0, ci 0, ci 0, ci 0, ci 0, cw 0]) ([x1] : List Tapi_Op) Tapi_Op.cells (some 135) hs (by kernel_rfl) (by kernel_rfl) (by kernel_rfl) (by kernel_rfl) (by decide) rfl (fun x _ => rfl) (Nat.le_of_ble_eq_true (by kernel_rfl)) (by kernel_rfl) fun A_86 w a hs => ?_)
        replace hcl := qO hC_85 hs.own.f4.drop.drop
        refine ⟨fun _ => hcl, ?_⟩
        obtain ⟨h_88, hm⟩ := ite_t hm
        refine Vk.dOnly (i := 7) (by kernel_rfl) (Vk.appendOp (x := (.tmp 133)) (y := (.tmp 135)) (e := 103) (t := 49) (by_ := 48) (sz := 6) (enc := Tapi_Op.cells) (A := g_59.2.1) (cap := g_59.2.2.1) (xs := p_56.ops) (ys := ([x1] : List Tapi_Op)) (B := A_86) (c2 := 1) 4 (some 136) hs (by kernel_rfl) (by kernel_rfl) (by kernel_rfl) (by kernel_rfl) rfl (Sl.lift (fun w ho => (Ow.to (S' := rowp A_86 1 103 6 Tapi_Op.cells ([x1] : List Tapi_Op) :: S) ho [0] 8 (by kernel_rfl) (by kernel_rfl))) (Ow.rowSl 0 (Ow.to (S' := rowp A_86 1 103 6 Tapi_Op.cells ([x1] : List Tapi_Op) :: S) hs.own [0] 8 (by kernel_rfl) (by kernel_rfl)) rfl)) (by kernel_rfl) (by kernel_rfl) (by decide) (by decide) h_88 fun A_89 c_90 w a hs => ?_)
        replace hcl := qO hC_85 hs.own.f4.drop.drop
        refine ⟨fun _ => hcl, ?_⟩
        refine Vk.dOnly (i := 8) (by kernel_rfl) (Vk.dPure1 [(137, pp b_x0)] hs (by kernel_rfl) fun a hs => ?_)
        refine ⟨fun h => absurd h (by decide), ?_⟩
        refine Vk.dOnly (i := 9) (by kernel_rfl) (Vk.dPure1 [(138, .pointer (some ⟨b_x0, 10, none⟩))] hs (by kernel_rfl) fun a hs => ?_)
        refine ⟨fun h => absurd h (by decide), ?_⟩
        refine qsd 10 2 10 (C.slc A_89 ((p_56.ops ++ ([x1] : List Tapi_Op)).length) c_90) hs rfl fun a w hs => ?_
        refine ⟨fun h => absurd h (by decide), ?_⟩
        replace hs := hs.pick [0] (L' := [(0, pp b_x0)]) (by kernel_rfl)
        refine Vk.dDone (by kernel_rfl) ?_
        refine hK84 _ _ ?_
        clear hK84
        refine qsr fun K91 hK91 => ?_
        refine qpu 3 hs fun a hs => ?_
        refine qld 2 (C.slc A_89 ((p_56.ops ++ ([x1] : List Tapi_Op)).length) c_90) hs rfl fun a hs => ?_
        refine qpk 3 [6] hs fun a hs => hK91 _ _ ?_
        clear hK91
        refine wp_ret ?_
        replace hs := hs.bagG (l := Twire_Machine.parts b_x0 (⟨p_56.n, p_56.most, p_56.base, p_56.words, p_56.draws, p_56.dry, p_56.openF, p_56.fromF, p_56.bad, p_56.tape, p_56.ops ++ ([x1] : List Tapi_Op), p_56.values ++ ([v_78] : List Int), p_56.blocks⟩ : Twire_Machine) (g_59.1, A_89, c_90, A_82, c_83, g_59.2.2.2.2.2.1, g_59.2.2.2.2.2.2)) (S' := rowp A_86 1 103 6 Tapi_Op.cells ([x1] : List Tapi_Op) :: rowp A_79 1 23 1 (eI .u64) ([v_78] : List Int) :: pt b_2 (blk (Tapi_Op.cells x1) 103) :: S) hs.own.f6.f6.f6.f6.f6
        replace hs := hs.toEx (Twire_Machine.parts b_x0 (⟨p_56.n, p_56.most, p_56.base, p_56.words, p_56.draws, p_56.dry, p_56.openF, p_56.fromF, p_56.bad, p_56.tape, p_56.ops ++ ([x1] : List Tapi_Op), p_56.values ++ ([v_78] : List Int), p_56.blocks⟩ : Twire_Machine)) (g_59.1, A_89, c_90, A_82, c_83, g_59.2.2.2.2.2.1, g_59.2.2.2.2.2.2) 0 rfl
        exact qr1 (vi (IntKind.i64.wrap ((((p_56.ops ++ ([x1] : List Tapi_Op)).length : Nat) : Int) - 1))) hs rfl hRR (by cases hm; exact ⟨rfl, (hs.own.too [0] 4)⟩)
      refine qsr fun K45 hK45 => ?_
      refine qpu 1 hs fun a hs => ?_
      refine qld 1 (ci x1.kind) hs rfl fun a hs => ?_
      refine qpk 0 [0, 2, 4, 70] hs fun a hs => hK45 _ _ ?_
      clear hK45
      refine wp_block ?_
      refine qse 2 [(0, pp b_x0), (2, vw p_43), (4, pp b_2), (70, vi x1.kind), (71, .bool (x1.kind == 1))] hs fun a hs => ?_
      refine qcs (x1.kind == 1) hs (fun hb => ?_) fun hb => ?_
      ·replace hm := bif_t hm hb
       refine Vk.region ?_
       refine qpu 3 hs fun a hs => ?_
       obtain ⟨g_47, hs⟩ := hs.unbag 0 rfl
       refine qld 0 (ci p_42.draws) hs rfl fun a hs => ?_
       refine qpu 3 hs fun a hs => ?_
       refine qst 0 4 (ci (IntKind.i64.wrap (p_42.draws + 1))) hs rfl fun a w hs => ?_
       refine qpe 0 [(0, pp b_x0), (2, vw p_43), (4, pp b_2)] hs fun a hs => ?_
       replace hs := hs.bagG (l := Twire_Machine.parts b_x0 (⟨p_42.n, p_42.most, p_42.base, p_42.words, IntKind.i64.wrap (p_42.draws + 1), p_42.dry, p_42.openF, p_42.fromF, p_42.bad, p_42.tape, p_42.ops, p_42.values, p_42.blocks⟩ : Twire_Machine) g_47) (S' := pt b_2 (blk (Tapi_Op.cells x1) 103) :: S) hs.own
       replace hs := hs.toEx (Twire_Machine.parts b_x0 (⟨p_42.n, p_42.most, p_42.base, p_42.words, IntKind.i64.wrap (p_42.draws + 1), p_42.dry, p_42.openF, p_42.fromF, p_42.bad, p_42.tape, p_42.ops, p_42.values, p_42.blocks⟩ : Twire_Machine)) g_47 0 rfl
       exact hj44 (⟨p_42.n, p_42.most, p_42.base, p_42.words, IntKind.i64.wrap (p_42.draws + 1), p_42.dry, p_42.openF, p_42.fromF, p_42.bad, p_42.tape, p_42.ops, p_42.values, p_42.blocks⟩ : Twire_Machine) hm _ _ (hs.go [0, 2, 4] [0, 1] 2 (by kernel_rfl) (by kernel_rfl) (by kernel_rfl))
      ·replace hm := bif_f hm hb
       refine qse 2 [(0, pp b_x0), (2, vw p_43), (4, pp b_2), (80, .bool (x1.kind == 2))] hs fun a hs => ?_
       refine qcs (x1.kind == 2) hs (fun hb => ?_) fun hb => ?_
       ·replace hm := bif_t hm hb
        refine Vk.region ?_
        refine qpu 3 hs fun a hs => ?_
        obtain ⟨g_52, hs⟩ := hs.unbag 0 rfl
        refine qld 0 (ci p_42.words) hs rfl fun a hs => ?_
        refine qpu 3 hs fun a hs => ?_
        refine qst 0 3 (ci (IntKind.i64.wrap (p_42.words + 1))) hs rfl fun a w hs => ?_
        refine qpe 0 [(0, pp b_x0), (2, vw p_43), (4, pp b_2)] hs fun a hs => ?_
        replace hs := hs.bagG (l := Twire_Machine.parts b_x0 (⟨p_42.n, p_42.most, p_42.base, IntKind.i64.wrap (p_42.words + 1), p_42.draws, p_42.dry, p_42.openF, p_42.fromF, p_42.bad, p_42.tape, p_42.ops, p_42.values, p_42.blocks⟩ : Twire_Machine) g_52) (S' := pt b_2 (blk (Tapi_Op.cells x1) 103) :: S) hs.own
        replace hs := hs.toEx (Twire_Machine.parts b_x0 (⟨p_42.n, p_42.most, p_42.base, IntKind.i64.wrap (p_42.words + 1), p_42.draws, p_42.dry, p_42.openF, p_42.fromF, p_42.bad, p_42.tape, p_42.ops, p_42.values, p_42.blocks⟩ : Twire_Machine)) g_52 0 rfl
        exact hj44 (⟨p_42.n, p_42.most, p_42.base, IntKind.i64.wrap (p_42.words + 1), p_42.draws, p_42.dry, p_42.openF, p_42.fromF, p_42.bad, p_42.tape, p_42.ops, p_42.values, p_42.blocks⟩ : Twire_Machine) hm _ _ (hs.go [0, 2, 4] [0, 1] 2 (by kernel_rfl) (by kernel_rfl) (by kernel_rfl))
       ·replace hm := bif_f hm hb
        refine wp_skip ?_
        exact hj44 p_42 hm _ _ (hs.go [0, 2, 4] [0, 1] 2 (by kernel_rfl) (by kernel_rfl) (by kernel_rfl))
     refine qsr fun K26 hK26 => ?_
     refine qpu 1 hs fun a hs => ?_
     refine qld 1 (ci x1.kind) hs rfl fun a hs => ?_
     refine qpu 2 hs fun a hs => ?_
     obtain ⟨g_27, hs⟩ := hs.unbag 0 rfl
     suffices hj_31 : ∀ a, St 145 a w κ [(0, pp b_x0), (2, vw x2), (4, pp b_2), (26, .bool p_20), (46, pp b_2), (47, vi x1.kind), (48, .bool (x1.kind == 1)), (49, .bool (x1.kind == 1)), (55, .bool ((x1.kind == 1) && (!x0.dry)))] (pt b_x0 (blk (Twire_Machine.obj x0 g_27.1 g_27.2.1 g_27.2.2.1 g_27.2.2.2.1 g_27.2.2.2.2.1 g_27.2.2.2.2.2.1 g_27.2.2.2.2.2.2) 95) :: opto x0.dry (Ttape_Tape.own g_27.1 x0.tape) :: rowp g_27.2.1 g_27.2.2.1 103 6 Tapi_Op.cells x0.ops :: rowp g_27.2.2.2.1 g_27.2.2.2.2.1 23 1 (eI .u64) x0.values :: rowp g_27.2.2.2.2.2.1 g_27.2.2.2.2.2.2 119 3 Tapi_Span.cells x0.blocks :: pt b_2 (blk (Tapi_Op.cells x1) 103) :: S) → wpFrom Tryz.prog _ _ 10 a w by
      rcases Bool.eq_false_or_eq_true (x1.kind == 1) with hb | hb
      ·replace hs := hs.known (t := 49) hb (by kernel_rfl)
       refine qpu 3 hs fun a hs => ?_
       refine qld 0 (C.bool x0.dry) hs rfl fun a hs => ?_
       refine qpu 2 hs fun a hs => ?_
       have hq := hs.pick [0, 2, 4, 26, 46, 47, 48, 49, 55] (L' := [(0, pp b_x0), (2, vw x2), (4, pp b_2), (26, .bool p_20), (46, pp b_2), (47, vi x1.kind), (48, .bool (x1.kind == 1)), (49, .bool true), (55, .bool (!x0.dry))]) (by kernel_rfl)
       exact hj_31 _ (hq.conv (by first | (rw [hb] <;> rfl) | rfl))
      ·replace hs := hs.known (t := 49) hb (by kernel_rfl)
       refine qpu 6 hs fun a hs => ?_
       have hq := hs.pick [0, 2, 4, 26, 46, 47, 48, 49, 55] (L' := [(0, pp b_x0), (2, vw x2), (4, pp b_2), (26, .bool p_20), (46, pp b_2), (47, vi x1.kind), (48, .bool (x1.kind == 1)), (49, .bool false), (55, .bool false)]) (by kernel_rfl)
       exact hj_31 _ (hq.conv (by first | (rw [hb] <;> rfl) | rfl))
     intro a hs
     refine qpe 0 [(0, pp b_x0), (2, vw x2), (4, pp b_2), (55, .bool ((x1.kind == 1) && (!x0.dry)))] hs fun a hs => hK26 _ _ ?_
     clear hK26
     refine qcs ((x1.kind == 1) && (!x0.dry)) hs (fun hb => ?_) fun hb => ?_
     ·replace hm := bif_t hm hb
      refine qsr fun K32 hK32 => ?_
      refine qpu 3 hs fun a hs => ?_
      refine qld 0 (C.ptr (optA x0.dry g_27.1)) hs rfl fun a hs => ?_
      rcases Bool.eq_false_or_eq_true (x0.dry) with hb | hb
      ·replace hm := bif_t hm hb
       cases hm
      ·replace hm := bif_f hm hb
       replace hs := hs.pick [0, 2, 4, 55, 57, 58, 59, 60] (L' := [(0, pp b_x0), (2, vw x2), (4, pp b_2), (55, .bool ((x1.kind == 1) && (!x0.dry))), (57, pp b_x0), (58, pp b_x0), (59, .pointer (some ⟨b_x0, 9, none⟩)), (60, .pointer (optA x0.dry g_27.1))]) (by kernel_rfl)
       replace hs := hs.conv2 (L' := [(0, pp b_x0), (2, vw x2), (4, pp b_2), (55, .bool ((x1.kind == 1) && (!x0.dry))), (57, pp b_x0), (58, pp b_x0), (59, .pointer (some ⟨b_x0, 9, none⟩)), (60, pp g_27.1)]) (S' := pt b_x0 (blk (Twire_Machine.obj x0 g_27.1 g_27.2.1 g_27.2.2.1 g_27.2.2.2.1 g_27.2.2.2.2.1 g_27.2.2.2.2.2.1 g_27.2.2.2.2.2.2) 95) :: Ttape_Tape.own g_27.1 x0.tape :: rowp g_27.2.1 g_27.2.2.1 103 6 Tapi_Op.cells x0.ops :: rowp g_27.2.2.2.1 g_27.2.2.2.2.1 23 1 (eI .u64) x0.values :: rowp g_27.2.2.2.2.2.1 g_27.2.2.2.2.2.2 119 3 Tapi_Span.cells x0.blocks :: pt b_2 (blk (Tapi_Op.cells x1) 103) :: S) (by first | rfl | (rw [hb] <;> rfl)) (by first | rfl | (rw [hb] <;> rfl))
       obtain ⟨v_35, h_34, hm⟩ := bind_t hm
       refine qcl (tape_Tape_Draw.ok _ _ _ h_34 _ _ _ g_27.1 hs.own.f1) hs fun w a hs => ?_
       replace hs := hs.pick [0, 2, 4, 55, 57, 58, 59, 60, 61] (L' := [(0, pp b_x0), (2, vw x2), (4, pp b_2), (55, .bool ((x1.kind == 1) && (!x0.dry))), (57, pp b_x0), (58, pp b_x0), (59, .pointer (some ⟨b_x0, 9, none⟩)), (60, pp g_27.1), (61, .tuple #[vw v_35.1, .bool v_35.2.1])]) (by kernel_rfl)
       replace hs := hs.conv2 (L' := [(0, pp b_x0), (2, vw x2), (4, pp b_2), (55, .bool ((x1.kind == 1) && (!x0.dry))), (57, pp b_x0), (58, pp b_x0), (59, .pointer (some ⟨b_x0, 9, none⟩)), (60, pp g_27.1), (61, .tuple #[vw v_35.1, .bool v_35.2.1])]) (S' := opto x0.dry (Ttape_Tape.own g_27.1 v_35.2.2) :: pt b_x0 (blk (Twire_Machine.obj x0 g_27.1 g_27.2.1 g_27.2.2.1 g_27.2.2.2.1 g_27.2.2.2.2.1 g_27.2.2.2.2.2.1 g_27.2.2.2.2.2.2) 95) :: rowp g_27.2.1 g_27.2.2.1 103 6 Tapi_Op.cells x0.ops :: rowp g_27.2.2.2.1 g_27.2.2.2.2.1 23 1 (eI .u64) x0.values :: rowp g_27.2.2.2.2.2.1 g_27.2.2.2.2.2.2 119 3 Tapi_Span.cells x0.blocks :: pt b_2 (blk (Tapi_Op.cells x1) 103) :: S) rfl (by first | rfl | (rw [hb] <;> rfl))
       refine qpk 5 [0, 4, 7, 8] hs fun a hs => hK32 _ _ ?_
       clear hK32
       refine Vk.seq fun K36 hK36 => ?_
       refine qsk 2 [0, 4, 7, 65] hs fun a hs => ?_
       refine qcs (!v_35.2.1) hs (fun hb => ?_) fun hb => ?_
       ·replace hm := bif_t hm hb
        refine qsr fun K38 hK38 => ?_
        refine qpu 1 hs fun a hs => ?_
        replace hs := hs.bagG (l := Twire_Machine.parts b_x0 (⟨x0.n, x0.most, x0.base, x0.words, x0.draws, x0.dry, x0.openF, x0.fromF, x0.bad, v_35.2.2, x0.ops, x0.values, x0.blocks⟩ : Twire_Machine) g_27) (S' := pt b_2 (blk (Tapi_Op.cells x1) 103) :: S) hs.own.f1
        replace hs := hs.toEx (Twire_Machine.parts b_x0 (⟨x0.n, x0.most, x0.base, x0.words, x0.draws, x0.dry, x0.openF, x0.fromF, x0.bad, v_35.2.2, x0.ops, x0.values, x0.blocks⟩ : Twire_Machine)) g_27 0 rfl
        obtain ⟨v_41, h_40, hm⟩ := bind_t hm
        refine qcl (wire_Machine_fail.ok _ _ _ _ h_40 _ _ _ b_x0 hs.own) hs fun w a hs => ?_
        refine qpe 1 [(6, vi v_41.1)] hs fun a hs => hK38 _ _ ?_
        clear hK38
        refine wp_ret ?_
        exact qr1 (vi v_41.1) hs rfl hRR (by cases hm; exact ⟨rfl, hs.own.f1.drop⟩)
       ·replace hm := bif_f hm hb
        refine wp_skip ?_
        refine hK36 _ _ ?_
        clear hK36
        refine Vk.region ?_
        refine qpe 2 [(0, pp b_x0), (2, vw v_35.1), (4, pp b_2)] hs fun a hs => ?_
        replace hs := hs.bagG (l := Twire_Machine.parts b_x0 (⟨x0.n, x0.most, x0.base, x0.words, x0.draws, x0.dry, x0.openF, x0.fromF, x0.bad, v_35.2.2, x0.ops, x0.values, x0.blocks⟩ : Twire_Machine) g_27) (S' := pt b_2 (blk (Tapi_Op.cells x1) 103) :: S) hs.own.f1
        replace hs := hs.toEx (Twire_Machine.parts b_x0 (⟨x0.n, x0.most, x0.base, x0.words, x0.draws, x0.dry, x0.openF, x0.fromF, x0.bad, v_35.2.2, x0.ops, x0.values, x0.blocks⟩ : Twire_Machine)) g_27 0 rfl
        exact hj25 (⟨x0.n, x0.most, x0.base, x0.words, x0.draws, x0.dry, x0.openF, x0.fromF, x0.bad, v_35.2.2, x0.ops, x0.values, x0.blocks⟩ : Twire_Machine) v_35.1 hm _ _ (hs.go [0, 2, 4] [0, 1] 2 (by kernel_rfl) (by kernel_rfl) (by kernel_rfl))
     ·replace hm := bif_f hm hb
      refine wp_skip ?_
      replace hs := hs.bagG (l := Twire_Machine.parts b_x0 x0 g_27) (S' := pt b_2 (blk (Tapi_Op.cells x1) 103) :: S) hs.own
      replace hs := hs.toEx (Twire_Machine.parts b_x0 x0) g_27 0 rfl
      exact hj25 x0 x2 hm _ _ (hs.go [0, 2, 4] [0, 1] 2 (by kernel_rfl) (by kernel_rfl) (by kernel_rfl))
   obtain ⟨C_19, hC_19⟩ := qC hs.own
   refine qdr 18 κ C_19 hs fun w hs hqC_19 => ?_
   have hcl := qO hC_19 hs.own
   refine qdp (fuel := 15) [0, 1, 2] hs hcl hqC_19 fun a hs => ?_
   refine qdl 3 0 (C.bool x0.dry) hs hcl hqC_19 hC_19 rfl fun a hs => ?_
   refine qdp (fuel := 12) [4, 5] hs hcl hqC_19 fun a hs => ?_
   rcases Bool.eq_false_or_eq_true (!x0.dry) with hb | hb
   ·replace hm := bif_t hm hb
    replace hs := hs.known (t := 32) hb (by kernel_rfl)
    refine qdp (fuel := 6) [6, 7, 8, 11, 12, 13] hs hcl hqC_19 fun a hs => ?_
    refine qdl 9 0 (C.slc g_5.2.1 x0.ops.length g_5.2.2.1) hs hcl hqC_19 hC_19 rfl fun a hs => ?_
    refine qdp (fuel := 4) [10] hs hcl hqC_19 fun a hs => ?_
    refine qdl 14 0 (ci x0.most) hs hcl hqC_19 hC_19 rfl fun a hs => ?_
    refine qdp (fuel := 0) [15, 16, 17] hs hcl hqC_19 fun a hs => ?_
    replace hs := hs.pick [0, 2, 4, 26] (L' := [(0, pp b_x0), (2, vw x2), (4, pp b_2), (26, .bool (decide (((x0.ops.length : Nat) : Int) ≥ x0.most)))]) (by kernel_rfl)
    refine Vk.dDone (by kernel_rfl) ?_
    replace hs := hs.bagG (l := Twire_Machine.parts b_x0 x0 g_5) (S' := pt b_2 (blk (Tapi_Op.cells x1) 103) :: S) hs.own
    replace hs := hs.toEx (Twire_Machine.parts b_x0 x0) g_5 0 rfl
    exact hj18 (decide (((x0.ops.length : Nat) : Int) ≥ x0.most)) hm _ _ (hs.go [0, 2, 4, 26] [0, 1] 2 (by kernel_rfl) (by kernel_rfl) (by kernel_rfl))
   ·replace hm := bif_f hm hb
    replace hs := hs.known (t := 32) hb (by kernel_rfl)
    refine qdp (fuel := 0) [6, 7, 8, 9, 10, 11, 12, 13, 14, 15, 16, 17] hs hcl hqC_19 fun a hs => ?_
    replace hs := hs.pick [0, 2, 4, 26] (L' := [(0, pp b_x0), (2, vw x2), (4, pp b_2), (26, .bool false)]) (by kernel_rfl)
    refine Vk.dDone (by kernel_rfl) ?_
    replace hs := hs.bagG (l := Twire_Machine.parts b_x0 x0 g_5) (S' := pt b_2 (blk (Tapi_Op.cells x1) 103) :: S) hs.own
    replace hs := hs.toEx (Twire_Machine.parts b_x0 x0) g_5 0 rfl
    exact hj18 false hm _ _ (hs.go [0, 2, 4, 26] [0, 1] 2 (by kernel_rfl) (by kernel_rfl) (by kernel_rfl))


abbrev wire_Machine_Const.R (κ : Ctx) (S : List HP) (x0 : Twire_Machine) (x1 : Int) (x2 : Int) (b_x0 : Nat) (r : (Int × Twire_Machine)) : Ending → World → Prop := fun e w' => e = .returned (vi r.1) ∧ Ow κ w' (Twire_Machine.own b_x0 r.2 :: S)
def wire_Machine_Const.m (k : Nat) (x0 : Twire_Machine) (x1 : Int) (x2 : Int) : Option (Int × Twire_Machine) := (wire_Machine_Do.m k x0 (⟨3, x1, (-1), (-1), (-1), x2⟩ : Tapi_Op) 0).bind fun v_5 => some (v_5.1, v_5.2)

set_option maxRecDepth 100000 in
set_option maxHeartbeats 4000000 in
theorem wire_Machine_Const.ok (k : Nat) (x0 : Twire_Machine) (x1 : Int) (x2 : Int) (r : (Int × Twire_Machine)) (hm : wire_Machine_Const.m k x0 x1 x2 = some r) (κ : Ctx) (w : World) (S : List HP) (b_x0 : Nat) (ho : Ow κ w (Twire_Machine.own b_x0 x0 :: S)) :
  Calls Tryz.prog 80 #[pp b_x0, vi x1, vw x2] w (wire_Machine_Const.R κ S x0 x1 x2 b_x0 r) := by
 unfold wire_Machine_Const.m at hm
 generalize hRR : wire_Machine_Const.R κ S x0 x1 x2 b_x0 r = RR
 refine qen [(0, pp b_x0), (1, vi x1), (2, vw x2)] Tryz.func80 Tryz.ntmps80 ho fun a hs => ?_
 refine qsk 1 [0, 1, 2] hs fun a hs => ?_
 refine qsr fun K2 hK2 => ?_
 refine qpu 4 hs fun a hs => ?_
 obtain ⟨v_5, h_4, hm⟩ := bind_t hm
 refine qcl (wire_Machine_Do.ok _ _ _ _ _ h_4 _ _ _ b_x0 hs.own) hs fun w a hs => ?_
 refine qpe 1 [(6, vi v_5.1)] hs fun a hs => hK2 _ _ ?_
 clear hK2
 refine wp_ret ?_
 exact qr1 (vi v_5.1) hs rfl hRR (by cases hm; exact ⟨rfl, hs.own⟩)


abbrev share_none.R (κ : Ctx) (S : List HP) (r : Cells) : Ending → World → Prop := fun e w' => e = .returned (.agg (vals r)) ∧ Ow κ w' (S)
def share_none.m (k : Nat) : Option Cells := some [ci (-1), ci (-1), ci (-1)]

set_option maxRecDepth 100000 in
set_option maxHeartbeats 4000000 in
theorem share_none.ok (k : Nat) (r : Cells) (hm : share_none.m k = some r) (κ : Ctx) (w : World) (S : List HP) (ho : Ow κ w (S)) :
  Calls Tryz.prog 93 #[] w (share_none.R κ S r) := by
 unfold share_none.m at hm
 generalize hRR : share_none.R κ S r = RR
 refine qen [] Tryz.func93 Tryz.ntmps93 ho fun a hs => ?_
 refine qsr fun K1 hK1 => ?_
 refine qal 35 [ci 0, ci 0, ci 0] 0 hs fun b_2 w a hs => ?_
 refine qpe 0 [(0, pp b_2)] hs fun a hs => hK1 _ _ ?_
 clear hK1
 refine qsr fun K3 hK3 => ?_
 refine qpu 2 hs fun a hs => ?_
 refine qsa 0 [ci (-1), ci (-1), ci (-1)] hs rfl fun a w hs => ?_
 refine qpe 0 [(0, pp b_2)] hs fun a hs => hK3 _ _ ?_
 clear hK3
 refine wp_ret ?_
 exact Vk.retC [ci (-1), ci (-1), ci (-1)] hs rfl (by kernel_rfl) (sz := 3) (by kernel_rfl) rfl (CellsAt.all 0 rfl) (hRR ▸ by cases hm; exact ⟨rfl, hs.own.drop⟩)


abbrev wire_Machine_N.R (κ : Ctx) (S : List HP) (x0 : Twire_Machine) (b_x0 : Nat) (g_x0 : Nat × Option Addr × Nat × Option Addr × Nat × Option Addr × Nat) (r : Int) : Ending → World → Prop := fun e w' => e = .returned (vi r) ∧ Ow κ w' (bagL (Twire_Machine.parts b_x0 x0 g_x0) :: S)
def wire_Machine_N.m (k : Nat) (x0 : Twire_Machine) : Option Int := some x0.n

set_option maxRecDepth 100000 in
set_option maxHeartbeats 4000000 in
theorem wire_Machine_N.ok (k : Nat) (x0 : Twire_Machine) (r : Int) (hm : wire_Machine_N.m k x0 = some r) (κ : Ctx) (w : World) (S : List HP) (b_x0 : Nat) (g_x0 : Nat × Option Addr × Nat × Option Addr × Nat × Option Addr × Nat) (ho : Ow κ w (bagL (Twire_Machine.parts b_x0 x0 g_x0) :: S)) :
  Calls Tryz.prog 95 #[pp b_x0] w (wire_Machine_N.R κ S x0 b_x0 g_x0 r) := by
 unfold wire_Machine_N.m at hm
 generalize hRR : wire_Machine_N.R κ S x0 b_x0 g_x0 r = RR
 refine qen [(0, pp b_x0)] Tryz.func95 Tryz.ntmps95 ho fun a hs => ?_
 refine qse 1 [(0, pp b_x0)] hs fun a hs => ?_
 refine Vk.seq fun K2 hK2 => ?_
 refine qsk 2 [0, 4] hs fun a hs => ?_
 refine qcf hs ?_
 refine wp_skip ?_
 refine hK2 _ _ ?_
 clear hK2
 refine qsr fun K4 hK4 => ?_
 refine qpu 3 hs fun a hs => ?_
 replace hs := hs.unbagAt 0 rfl
 refine qld 0 (ci x0.n) hs rfl fun a hs => ?_
 refine qpe 1 [(2, vi x0.n)] hs fun a hs => hK4 _ _ ?_
 clear hK4
 refine wp_ret ?_
 replace hs := hs.bagG (l := Twire_Machine.parts b_x0 x0 g_x0) (S' := S) hs.own
 exact qr1 (vi x0.n) hs rfl hRR (by cases hm; exact ⟨rfl, hs.own⟩)


def share_Public.j1 (k : Nat) (rec21 : Twire_Machine → Cells → Int → Option (Cells × Twire_Machine)) (q_23 : Cells) (q_24 : Int) (p_41 : Int) (p_42 : Twire_Machine) : Option (Cells × Twire_Machine) := (if 0 ≤ q_24 ∧ q_24 < 3 then (if 0 + q_24.toNat * 1 < q_23.length then rec21 p_42 (q_23.set (0 + q_24.toNat * 1) (ci p_41)) (IntKind.i64.wrap (q_24 + 1)) else none) else none)
def share_Public.l1 (x1 : Int) (v_20 : Int) : Nat → Twire_Machine → Cells → Int → Option (Cells × Twire_Machine)
 | 0, _, _, _ => none
 | k + 1, q_22, q_23, q_24 => (bif decide (q_24 < v_20) then (bif decide (q_24 > 0) then (wire_Machine_Const.m k q_22 q_24 0).bind fun v_36 => share_Public.j1 k (share_Public.l1 x1 v_20 k) q_23 q_24 v_36.1 v_36.2 else (wire_Machine_Const.m k q_22 q_24 x1).bind fun v_40 => share_Public.j1 k (share_Public.l1 x1 v_20 k) q_23 q_24 v_40.1 v_40.2) else some (q_23, q_22))
abbrev share_Public.R (κ : Ctx) (S : List HP) (x0 : Twire_Machine) (x1 : Int) (b_x0 : Nat) (r : (Cells × Twire_Machine)) : Ending → World → Prop := fun e w' => e = .returned (.agg (vals r.1)) ∧ Ow κ w' (Twire_Machine.own b_x0 r.2 :: S)
def share_Public.m (k : Nat) (x0 : Twire_Machine) (x1 : Int) : Option (Cells × Twire_Machine) := (share_none.m k).bind fun v_12 => (if v_12.length = 3 then (wire_Machine_N.m k x0).bind fun v_20 => (share_Public.l1 x1 v_20 k x0 v_12 0).bind fun x => match x with | (p_45, p_46) => (if p_45.length = 3 then some (p_45, p_46) else none) else none)

set_option maxRecDepth 100000 in
set_option maxHeartbeats 4000000 in
theorem share_Public.ok (k : Nat) (x0 : Twire_Machine) (x1 : Int) (r : (Cells × Twire_Machine)) (hm : share_Public.m k x0 x1 = some r) (κ : Ctx) (w : World) (S : List HP) (b_x0 : Nat) (ho : Ow κ w (Twire_Machine.own b_x0 x0 :: S)) :
  Calls Tryz.prog 29 #[pp b_x0, vw x1] w (share_Public.R κ S x0 x1 b_x0 r) := by
 unfold share_Public.m at hm
 generalize hRR : share_Public.R κ S x0 x1 b_x0 r = RR
 refine qen [(0, pp b_x0), (1, vw x1)] Tryz.func29 Tryz.ntmps29 ho fun a hs => ?_
 refine qsr fun K1 hK1 => ?_
 refine qbx 0 26 [cp b_x0] 2 hs fun b_2 w a hs => ?_
 refine qbx 1 23 [cw x1] 3 hs fun b_3 w a hs => ?_
 refine qal 35 [ci 0, ci 0, ci 0] 4 hs fun b_4 w a hs => ?_
 refine qpk 0 [2, 3, 4] hs fun a hs => hK1 _ _ ?_
 clear hK1
 refine qsr fun K5 hK5 => ?_
 refine qld 2 (cp b_x0) hs rfl fun a hs => ?_
 refine qpu 1 hs fun a hs => ?_
 refine Vk.step (Vk.call (some 7) 78 #[pp b_x0, .func (.func 79) #[] #[pp b_2, pp b_3]] hs (by kernel_rfl) (by kernel_rfl) (by kernel_rfl) ?_)
 refine Vk.enterI [(0, pp b_x0), (1, .func (.func 79) #[] #[pp b_2, pp b_3])] Tryz.func78 rfl Tryz.ntmps78 (by kernel_rfl) (Nat.le_of_ble_eq_true (by kernel_rfl)) hs.own fun KR6 hKR6 hKP6 a hs => ?_
 refine qsr fun K7 hK7 => ?_
 refine qal 35 [ci 0, ci 0, ci 0] 4 hs fun b_8 w a hs => ?_
 refine qpk 0 [0, 1, 4] hs fun a hs => hK7 _ _ ?_
 clear hK7
 refine qsr fun K9 hK9 => ?_
 obtain ⟨v_12, h_11, hm⟩ := bind_t hm
 refine qcl (share_none.ok _ _ h_11 _ _ (pt b_8 (blk [ci 0, ci 0, ci 0] 35) :: pt b_4 (blk [ci 0, ci 0, ci 0] 35) :: pt b_3 (blk [cw x1] 23) :: pt b_2 (blk [cp b_x0] 26) :: Twire_Machine.own b_x0 x0 :: S) hs.own) hs fun w a hs => ?_
 refine qal 35 [ci 0, ci 0, ci 0] 5 hs fun b_13 w a hs => ?_
 obtain ⟨h_14, hm⟩ := ite_t hm
 refine qsb 0 v_12 hs rfl h_14 rfl fun a w hs => ?_
 refine qpe 0 [(0, pp b_x0), (1, .func (.func 79) #[] #[pp b_2, pp b_3]), (4, pp b_8), (5, pp b_13)] hs fun a hs => hK9 _ _ ?_
 clear hK9
 refine Vk.seq fun K15 hK15 => ?_
 refine qsr fun K16 hK16 => ?_
 refine qpu 1 hs fun a hs => ?_
 obtain ⟨g_17, hs⟩ := hs.unex 5 rfl
 obtain ⟨v_20, h_19, hm⟩ := bind_t hm
 refine qcl (wire_Machine_N.ok _ _ _ h_19 _ _ _ b_x0 g_17 hs.own.f5) hs fun w a hs => ?_
 refine qpk 1 [1, 4, 5, 9, 10] hs fun a hs => hK16 _ _ ?_
 clear hK16
 refine wp_block ?_
 replace hs := hs.toEx (Twire_Machine.parts b_x0 x0) g_17 0 rfl
 obtain ⟨r21, hl21, hm⟩ := bind_t hm
 have hx21 : ∀ (p_45 : Cells) (p_46 : Twire_Machine), r21 = (p_45, p_46) → ∀ (a : Act) (w : World), St 21 a w κ [(4, pp b_8), (5, pp b_13)] (pt b_8 (blk [ci 0, ci 0, ci 0] 35) :: pt b_13 (blk p_45 35) :: Twire_Machine.own b_x0 p_46 :: pt b_2 (blk [cp b_x0] 26) :: pt b_3 (blk [cw x1] 23) :: pt b_4 (blk [ci 0, ci 0, ci 0] 35) :: S) → K15 a w := by
  intro p_45 p_46 he a w hs
  subst r21
  refine hK15 _ _ ?_
  clear hK15
  refine qsr fun K50 hK50 => ?_
  obtain ⟨h_51, hm⟩ := ite_t hm
  refine qlw 1 hs rfl h_51 fun a hs => ?_
  refine qsb 0 p_45 hs rfl h_51 rfl fun a w hs => ?_
  refine qpe 0 [(4, pp b_8)] hs fun a hs => hK50 _ _ ?_
  clear hK50
  refine wp_ret ?_
  refine hKP6 _ _ ?_
  refine hKR6 _ _ ?_
  refine Vk.retC (P := Tryz.prog) (fn := Tryz.f78) p_45 hs rfl (by kernel_rfl) (sz := 3) (by kernel_rfl) h_51 (CellsAt.all 0 rfl) ⟨_, _, _, rfl, hs.own, fun a hs => ?_⟩
  refine qsb 5 p_45 hs rfl h_51 rfl fun a w hs => ?_
  refine qpe 0 [(4, pp b_4)] hs fun a hs => hK5 _ _ ?_
  clear hK5
  refine wp_ret ?_
  exact Vk.retC p_45 hs rfl (by kernel_rfl) (sz := 3) (by kernel_rfl) h_51 (CellsAt.all 5 rfl) (hRR ▸ by cases hm; exact ⟨rfl, (hs.own.too [2] 6)⟩)
 refine Vk.loopBy (fun k (s : Twire_Machine × Cells × Int) a w => share_Public.l1 x1 v_20 k s.1 s.2.1 s.2.2 = some r21 ∧ St 21 a w κ [(1, .func (.func 79) #[] #[pp b_2, pp b_3]), (4, pp b_8), (5, pp b_13), (9, vi v_20), (10, vi s.2.2)] (pt b_2 (blk [cp b_x0] 26) :: Twire_Machine.own b_x0 s.1 :: pt b_3 (blk [cw x1] 23) :: pt b_8 (blk [ci 0, ci 0, ci 0] 35) :: pt b_13 (blk s.2.1 35) :: pt b_4 (blk [ci 0, ci 0, ci 0] 35) :: S)) k (x0, v_12, 0) ⟨hl21, hs.go [1, 4, 5, 9, 10] [5, 0, 4, 2, 1, 3] 6 (by kernel_rfl) (by kernel_rfl) (by kernel_rfl)⟩ (fun s a w h => by obtain ⟨h1, _⟩ := h; simp [share_Public.l1] at h1) (fun k KL21 ih s a w h => ?_)
 obtain ⟨q_22, q_23, q_24⟩ := s
 obtain ⟨hm, hs⟩ := h
 try dsimp only at hm hs
 rw [share_Public.l1] at hm
 refine qsk 1 [1, 4, 5, 9, 10, 11] hs fun a hs => ?_
 refine Vk.seq fun K26 hK26 => ?_
 refine qcs (decide (q_24 < v_20)) hs (fun hb => ?_) fun hb => ?_
 ·replace hm := bif_t hm hb
  refine wp_skip ?_
  refine hK26 _ _ ?_
  clear hK26
  refine Vk.seq fun K27 hK27 => ?_
  refine wp_block ?_
  refine qsk 2 [1, 4, 5, 6, 9, 10] hs fun a hs => ?_
  refine Vk.region ?_
  refine qpu 3 hs fun a hs => ?_
  refine Vk.step (Vk.call (some 16) 79 #[vi q_24, pp b_2, pp b_3] hs (by kernel_rfl) (by kernel_rfl) (by kernel_rfl) ?_)
  refine Vk.enterI [(0, vi q_24), (1, pp b_2), (2, pp b_3)] Tryz.func79 rfl Tryz.ntmps79 (by kernel_rfl) (Nat.le_of_ble_eq_true (by kernel_rfl)) hs.own fun KR29 hKR29 hKP29 a hs => ?_
  have hj29 : ∀ (p_41 : Int) (p_42 : Twire_Machine), share_Public.j1 k (share_Public.l1 x1 v_20 k) q_23 q_24 p_41 p_42 = some r21 → ∀ (a : Act) (w : World), St 14 a w κ [(4, vi p_41)] (Twire_Machine.own b_x0 p_42 :: pt b_2 (blk [cp b_x0] 26) :: pt b_3 (blk [cw x1] 23) :: pt b_4 (blk [ci 0, ci 0, ci 0] 35) :: pt b_8 (blk [ci 0, ci 0, ci 0] 35) :: pt b_13 (blk q_23 35) :: S) → KR29 a w := by
   intro p_41 p_42 hm a w hs
   unfold share_Public.j1 at hm
   refine hKR29 _ _ ?_
   refine Vk.ret1 (P := Tryz.prog) (fn := Tryz.f79) (vi p_41) hs rfl (by kernel_rfl) ⟨_, _, _, rfl, hs.own, fun a hs => ?_⟩
   refine qpu 1 hs fun a hs => ?_
   obtain ⟨h_43, hm⟩ := ite_t hm
   refine qix b_13 0 1 hs h_43 fun a hs => ?_
   obtain ⟨h_44, hm⟩ := ite_t hm
   refine Vk.step (Vk.store1 (b := b_13) (ty := 3) (x := (.tmp 18)) (y := (.tmp 16)) (off := 0 + q_24.toNat * 1) (ci p_41) 5 hs (by kernel_rfl) (by kernel_rfl) (by kernel_rfl) (by kernel_rfl) (by kernel_rfl) (by kernel_rfl) rfl h_44 fun a w hs => ?_)
   refine qpk 0 [1, 4, 5, 9, 10] hs fun a hs => hK27 _ _ ?_
   clear hK27
   refine Vk.region ?_
   refine qpk 2 [1, 4, 5, 9, 10] hs fun a hs => ?_
   refine ih (p_42, (q_23.set (0 + q_24.toNat * 1) (ci p_41)), (IntKind.i64.wrap (q_24 + 1))) _ _ ⟨hm, hs.go [1, 4, 5, 9, 10] [1, 0, 2, 4, 5, 3] 6 (by kernel_rfl) (by kernel_rfl) (by kernel_rfl)⟩
  refine qsk 1 [0, 1, 2] hs fun a hs => ?_
  refine Vk.seq fun K31 hK31 => ?_
  refine qse 2 [(0, vi q_24), (1, pp b_2), (2, pp b_3), (6, .bool (decide (q_24 > 0)))] hs fun a hs => ?_
  refine qcs (decide (q_24 > 0)) hs (fun hb => ?_) fun hb => ?_
  ·replace hm := bif_t hm hb
   refine qsr fun K33 hK33 => ?_
   refine qld 0 (cp b_x0) hs rfl fun a hs => ?_
   refine qpu 1 hs fun a hs => ?_
   obtain ⟨v_36, h_35, hm⟩ := bind_t hm
   refine qcl (wire_Machine_Const.ok _ _ _ _ _ h_35 _ _ _ b_x0 hs.own.f1) hs fun w a hs => ?_
   refine qpe 1 [(4, vi v_36.1)] hs fun a hs => hK33 _ _ ?_
   clear hK33
   refine wp_ret ?_
   refine hKP29 _ _ ?_
   exact hj29 v_36.1 v_36.2 hm _ _ (hs.go [4] [0, 1, 2, 5, 3, 4] 6 (by kernel_rfl) (by kernel_rfl) (by kernel_rfl))
  ·replace hm := bif_f hm hb
   refine wp_skip ?_
   refine hK31 _ _ ?_
   clear hK31
   refine qsr fun K37 hK37 => ?_
   refine qld 0 (cp b_x0) hs rfl fun a hs => ?_
   refine qpu 1 hs fun a hs => ?_
   refine qld 2 (cw x1) hs rfl fun a hs => ?_
   obtain ⟨v_40, h_39, hm⟩ := bind_t hm
   refine qcl (wire_Machine_Const.ok _ _ _ _ _ h_39 _ _ _ b_x0 hs.own.f1) hs fun w a hs => ?_
   refine qpe 1 [(4, vi v_40.1)] hs fun a hs => hK37 _ _ ?_
   clear hK37
   refine wp_ret ?_
   refine hKP29 _ _ ?_
   exact hj29 v_40.1 v_40.2 hm _ _ (hs.go [4] [0, 1, 2, 5, 3, 4] 6 (by kernel_rfl) (by kernel_rfl) (by kernel_rfl))
 ·replace hm := bif_f hm hb
  refine wp_exit ?_
  exact hx21 q_23 q_22 (Option.some.inj hm).symm _ _ (hs.go [4, 5] [3, 4, 1, 0, 2, 5] 6 (by kernel_rfl) (by kernel_rfl) (by kernel_rfl))


def slice_Public.l1 (v_7 : Cells) : Nat → Twire_Machine → Cells → Int → Option (Cells × Twire_Machine)
 | 0, _, _, _ => none
 | k + 1, q_19, q_20, q_21 => (bif decide (q_21 < 8) then (if 0 ≤ q_21 ∧ q_21 < 8 then (getI .u64 v_7 (0 + q_21.toNat * 1)).bind fun v_33 => (share_Public.m k q_19 v_33).bind fun v_36 => (if v_36.1.length = 3 then (if 0 ≤ q_21 ∧ q_21 < 8 then (if 0 + q_21.toNat * 3 + v_36.1.length ≤ q_20.length then slice_Public.l1 v_7 k v_36.2 (splice q_20 (0 + q_21.toNat * 3) v_36.1) (IntKind.i64.wrap (q_21 + 1)) else none) else none) else none) else none) else some (q_20, q_19))
abbrev slice_Public.R (κ : Ctx) (S : List HP) (x0 : Twire_Machine) (x1 : List Int) (b_x0 : Nat) (A_x1 : Option Addr) (c_x1 : Nat) (r : (Cells × Twire_Machine)) : Ending → World → Prop := fun e w' => e = .returned (.agg (vals r.1)) ∧ Ow κ w' (Twire_Machine.own b_x0 r.2 :: S)
def slice_Public.m (k : Nat) (x0 : Twire_Machine) (x1 : List Int) : Option (Cells × Twire_Machine) := (slice_Cut.m k x1).bind fun v_7 => (if v_7.length = 8 then (slice_Public.l1 v_7 k x0 [ci 0, ci 0, ci 0, ci 0, ci 0, ci 0, ci 0, ci 0, ci 0, ci 0, ci 0, ci 0, ci 0, ci 0, ci 0, ci 0, ci 0, ci 0, ci 0, ci 0, ci 0, ci 0, ci 0, ci 0] 0).bind fun x => match x with | (p_40, p_41) => (if p_40.length = 24 then some (p_40, p_41) else none) else none)

set_option maxRecDepth 100000 in
set_option maxHeartbeats 4000000 in
theorem slice_Public.ok (k : Nat) (x0 : Twire_Machine) (x1 : List Int) (r : (Cells × Twire_Machine)) (hm : slice_Public.m k x0 x1 = some r) (κ : Ctx) (w : World) (S : List HP) (b_x0 : Nat) (A_x1 : Option Addr) (c_x1 : Nat) (hx_x1 : Sl κ S A_x1 c_x1 1 (eI .u8) x1) (ho : Ow κ w (Twire_Machine.own b_x0 x0 :: S)) :
  Calls Tryz.prog 7 #[pp b_x0, .slice A_x1 x1.length c_x1] w (slice_Public.R κ S x0 x1 b_x0 A_x1 c_x1 r) := by
 unfold slice_Public.m at hm
 generalize hRR : slice_Public.R κ S x0 x1 b_x0 A_x1 c_x1 r = RR
 refine qen [(0, pp b_x0), (1, .slice A_x1 x1.length c_x1)] Tryz.func7 Tryz.ntmps7 ho fun a hs => ?_
 refine qsr fun K1 hK1 => ?_
 refine qbx 0 26 [cp b_x0] 2 hs fun b_2 w a hs => ?_
 refine qal 37 [ci 0, ci 0, ci 0, ci 0, ci 0, ci 0, ci 0, ci 0, ci 0, ci 0, ci 0, ci 0, ci 0, ci 0, ci 0, ci 0, ci 0, ci 0, ci 0, ci 0, ci 0, ci 0, ci 0, ci 0] 4 hs fun b_3 w a hs => ?_
 refine qpk 0 [1, 2, 4] hs fun a hs => hK1 _ _ ?_
 clear hK1
 refine qsr fun K4 hK4 => ?_
 refine qpu 1 hs fun a hs => ?_
 obtain ⟨v_7, h_6, hm⟩ := bind_t hm
 refine qcl (slice_Cut.ok _ _ _ h_6 _ _ (pt b_3 (blk [ci 0, ci 0, ci 0, ci 0, ci 0, ci 0, ci 0, ci 0, ci 0, ci 0, ci 0, ci 0, ci 0, ci 0, ci 0, ci 0, ci 0, ci 0, ci 0, ci 0, ci 0, ci 0, ci 0, ci 0] 37) :: pt b_2 (blk [cp b_x0] 26) :: Twire_Machine.own b_x0 x0 :: S) A_x1 c_x1 hx_x1.less.less.less hs.own) hs fun w a hs => ?_
 refine qal 55 [cw 0, cw 0, cw 0, cw 0, cw 0, cw 0, cw 0, cw 0] 5 hs fun b_8 w a hs => ?_
 obtain ⟨h_9, hm⟩ := ite_t hm
 refine qsb 0 v_7 hs rfl h_9 rfl fun a w hs => ?_
 refine qpk 0 [2, 4, 5] hs fun a hs => hK4 _ _ ?_
 clear hK4
 refine qsr fun K10 hK10 => ?_
 refine qpu 1 hs fun a hs => ?_
 refine Vk.step (Vk.call (some 9) 49 #[.func (.func 50) #[] #[pp b_2, pp b_8]] hs (by kernel_rfl) (by kernel_rfl) (by kernel_rfl) ?_)
 refine Vk.enterI [(0, .func (.func 50) #[] #[pp b_2, pp b_8])] Tryz.func49 rfl Tryz.ntmps49 (by kernel_rfl) (Nat.le_of_ble_eq_true (by kernel_rfl)) hs.own fun KR11 hKR11 hKP11 a hs => ?_
 refine qsr fun K12 hK12 => ?_
 refine qal 37 [ci 0, ci 0, ci 0, ci 0, ci 0, ci 0, ci 0, ci 0, ci 0, ci 0, ci 0, ci 0, ci 0, ci 0, ci 0, ci 0, ci 0, ci 0, ci 0, ci 0, ci 0, ci 0, ci 0, ci 0] 2 hs fun b_13 w a hs => ?_
 refine qpk 0 [0, 2] hs fun a hs => hK12 _ _ ?_
 clear hK12
 refine qsr fun K14 hK14 => ?_
 refine qal 37 [ci 0, ci 0, ci 0, ci 0, ci 0, ci 0, ci 0, ci 0, ci 0, ci 0, ci 0, ci 0, ci 0, ci 0, ci 0, ci 0, ci 0, ci 0, ci 0, ci 0, ci 0, ci 0, ci 0, ci 0] 3 hs fun b_15 w a hs => ?_
 refine qpk 0 [0, 2, 3] hs fun a hs => hK14 _ _ ?_
 clear hK14
 refine Vk.seq fun K16 hK16 => ?_
 refine qsk 1 [0, 2, 3, 5] hs fun a hs => ?_
 refine wp_block ?_
 obtain ⟨r18, hl18, hm⟩ := bind_t hm
 have hx18 : ∀ (p_40 : Cells) (p_41 : Twire_Machine), r18 = (p_40, p_41) → ∀ (a : Act) (w : World), St 15 a w κ [(2, pp b_13), (3, pp b_15)] (pt b_13 (blk [ci 0, ci 0, ci 0, ci 0, ci 0, ci 0, ci 0, ci 0, ci 0, ci 0, ci 0, ci 0, ci 0, ci 0, ci 0, ci 0, ci 0, ci 0, ci 0, ci 0, ci 0, ci 0, ci 0, ci 0] 37) :: pt b_15 (blk p_40 37) :: Twire_Machine.own b_x0 p_41 :: pt b_2 (blk [cp b_x0] 26) :: pt b_3 (blk [ci 0, ci 0, ci 0, ci 0, ci 0, ci 0, ci 0, ci 0, ci 0, ci 0, ci 0, ci 0, ci 0, ci 0, ci 0, ci 0, ci 0, ci 0, ci 0, ci 0, ci 0, ci 0, ci 0, ci 0] 37) :: pt b_8 (blk v_7 55) :: S) → K16 a w := by
  intro p_40 p_41 he a w hs
  subst r18
  refine hK16 _ _ ?_
  clear hK16
  refine qsr fun K45 hK45 => ?_
  obtain ⟨h_46, hm⟩ := ite_t hm
  refine qlw 1 hs rfl h_46 fun a hs => ?_
  refine qsb 0 p_40 hs rfl h_46 rfl fun a w hs => ?_
  refine qpe 0 [(2, pp b_13)] hs fun a hs => hK45 _ _ ?_
  clear hK45
  refine wp_ret ?_
  refine hKP11 _ _ ?_
  refine hKR11 _ _ ?_
  refine Vk.retC (P := Tryz.prog) (fn := Tryz.f49) p_40 hs rfl (by kernel_rfl) (sz := 24) (by kernel_rfl) h_46 (CellsAt.all 0 rfl) ⟨_, _, _, rfl, hs.own, fun a hs => ?_⟩
  refine qsb 4 p_40 hs rfl h_46 rfl fun a w hs => ?_
  refine qpe 0 [(4, pp b_3)] hs fun a hs => hK10 _ _ ?_
  clear hK10
  refine wp_ret ?_
  exact Vk.retC p_40 hs rfl (by kernel_rfl) (sz := 24) (by kernel_rfl) h_46 (CellsAt.all 4 rfl) (hRR ▸ by cases hm; exact ⟨rfl, (hs.own.too [2] 6)⟩)
 refine Vk.loopBy (fun k (s : Twire_Machine × Cells × Int) a w => slice_Public.l1 v_7 k s.1 s.2.1 s.2.2 = some r18 ∧ St 15 a w κ [(0, .func (.func 50) #[] #[pp b_2, pp b_8]), (2, pp b_13), (3, pp b_15), (5, vi s.2.2)] (pt b_2 (blk [cp b_x0] 26) :: Twire_Machine.own b_x0 s.1 :: pt b_8 (blk v_7 55) :: pt b_13 (blk [ci 0, ci 0, ci 0, ci 0, ci 0, ci 0, ci 0, ci 0, ci 0, ci 0, ci 0, ci 0, ci 0, ci 0, ci 0, ci 0, ci 0, ci 0, ci 0, ci 0, ci 0, ci 0, ci 0, ci 0] 37) :: pt b_15 (blk s.2.1 37) :: pt b_3 (blk [ci 0, ci 0, ci 0, ci 0, ci 0, ci 0, ci 0, ci 0, ci 0, ci 0, ci 0, ci 0, ci 0, ci 0, ci 0, ci 0, ci 0, ci 0, ci 0, ci 0, ci 0, ci 0, ci 0, ci 0] 37) :: S)) k (x0, [ci 0, ci 0, ci 0, ci 0, ci 0, ci 0, ci 0, ci 0, ci 0, ci 0, ci 0, ci 0, ci 0, ci 0, ci 0, ci 0, ci 0, ci 0, ci 0, ci 0, ci 0, ci 0, ci 0, ci 0], 0) ⟨hl18, hs.go [0, 2, 3, 5] [4, 5, 2, 1, 0, 3] 6 (by kernel_rfl) (by kernel_rfl) (by kernel_rfl)⟩ (fun s a w h => by obtain ⟨h1, _⟩ := h; simp [slice_Public.l1] at h1) (fun k KL18 ih s a w h => ?_)
 obtain ⟨q_19, q_20, q_21⟩ := s
 obtain ⟨hm, hs⟩ := h
 try dsimp only at hm hs
 rw [slice_Public.l1] at hm
 refine qsk 1 [0, 2, 3, 5, 6] hs fun a hs => ?_
 refine Vk.seq fun K23 hK23 => ?_
 refine qcs (decide (q_21 < 8)) hs (fun hb => ?_) fun hb => ?_
 ·replace hm := bif_t hm hb
  refine wp_skip ?_
  refine hK23 _ _ ?_
  clear hK23
  refine Vk.seq fun K24 hK24 => ?_
  refine wp_block ?_
  refine qsk 2 [0, 2, 3, 4, 5] hs fun a hs => ?_
  refine Vk.region ?_
  refine qpu 3 hs fun a hs => ?_
  refine Vk.step (Vk.call (some 11) 50 #[vi q_21, pp b_2, pp b_8] hs (by kernel_rfl) (by kernel_rfl) (by kernel_rfl) ?_)
  refine Vk.enterI [(0, vi q_21), (1, pp b_2), (2, pp b_8)] Tryz.func50 rfl Tryz.ntmps50 (by kernel_rfl) (Nat.le_of_ble_eq_true (by kernel_rfl)) hs.own fun KR26 hKR26 hKP26 a hs => ?_
  refine qsr fun K27 hK27 => ?_
  refine qal 35 [ci 0, ci 0, ci 0] 4 hs fun b_28 w a hs => ?_
  refine qpk 0 [0, 1, 2, 4] hs fun a hs => hK27 _ _ ?_
  clear hK27
  refine Vk.seq fun K29 hK29 => ?_
  obtain ⟨C_30, hC_30⟩ := qC hs.own
  refine qdr 4 κ C_30 hs fun w hs hqC_30 => ?_
  have hcl := qO hC_30 hs.own
  refine qdp (fuel := 5) [1] hs hcl hqC_30 fun a hs => ?_
  refine qdl 0 1 (cp b_x0) hs hcl hqC_30 hC_30 rfl fun a hs => ?_
  obtain ⟨h_31, hm⟩ := ite_t hm
  refine qdx 2 b_8 0 1 hs hcl hqC_30 h_31 fun a hs => ?_
  obtain ⟨v_33, h_32, hm⟩ := bind_t hm
  refine qdi 3 3 hs hcl hqC_30 hC_30 rfl h_32 fun a hs => ?_
  obtain ⟨v_36, h_35, hm⟩ := bind_t hm
  refine qdc 4 (share_Public.ok _ _ _ _ h_35 _ _ _ b_x0 hs.own.f2) hs fun w a hs => ?_
  refine ⟨fun h => absurd h (by decide), ?_⟩
  obtain ⟨h_37, hm⟩ := ite_t hm
  refine qsA 5 1 v_36.1 hs rfl h_37 rfl fun a w hs => ?_
  refine ⟨fun h => absurd h (by decide), ?_⟩
  replace hs := hs.pick [4] (L' := [(4, pp b_28)]) (by kernel_rfl)
  refine Vk.dDone (by kernel_rfl) ?_
  refine hK29 _ _ ?_
  clear hK29
  refine wp_ret ?_
  refine hKP26 _ _ ?_
  refine hKR26 _ _ ?_
  refine Vk.retC (P := Tryz.prog) (fn := Tryz.f50) v_36.1 hs rfl (by kernel_rfl) (sz := 3) (by kernel_rfl) h_37 (CellsAt.all 1 rfl) ⟨_, _, _, rfl, hs.own, fun a hs => ?_⟩
  obtain ⟨h_38, hm⟩ := ite_t hm
  refine qix b_15 0 3 hs h_38 fun a hs => ?_
  obtain ⟨h_39, hm⟩ := ite_t hm
  refine Vk.step (Vk.storeN (b := b_15) (ty := 35) (x := (.tmp 12)) (y := (.tmp 11)) (off := 0 + q_21.toNat * 3) (sz := 3) v_36.1 5 hs (by kernel_rfl) (by kernel_rfl) (by kernel_rfl) (by kernel_rfl) (by kernel_rfl) h_37 (by kernel_rfl) rfl h_39 fun a w hs => ?_)
  refine qpk 0 [0, 2, 3, 5] hs fun a hs => hK24 _ _ ?_
  clear hK24
  refine Vk.region ?_
  refine qpk 2 [0, 2, 3, 5] hs fun a hs => ?_
  refine ih (v_36.2, (splice q_20 (0 + q_21.toNat * 3) v_36.1), (IntKind.i64.wrap (q_21 + 1))) _ _ ⟨hm, hs.go [0, 2, 3, 5] [2, 0, 3, 4, 5, 6] 7 (by kernel_rfl) (by kernel_rfl) (by kernel_rfl)⟩
 ·replace hm := bif_f hm hb
  refine wp_exit ?_
  exact hx18 q_20 q_19 (Option.some.inj hm).symm _ _ (hs.go [2, 3] [3, 4, 1, 0, 5, 2] 6 (by kernel_rfl) (by kernel_rfl) (by kernel_rfl))


def visorref33_Cut.l2 (x0 : List Int) (q_9 : Int) : Nat → Cells → Int → Option (Cells)
 | 0, _, _ => none
 | k + 1, q_16, q_17 => (bif decide (q_17 < 8) then (if 0 ≤ q_17 ∧ q_17 < 8 then (getI .u64 q_16 (0 + q_17.toNat * 1)).bind fun v_24 => (if 0 ≤ q_9 then (x0[q_9.toNat]?).bind fun e_28 => (if 0 ≤ IntKind.u64.wrap q_17 then (if 0 ≤ IntKind.u64.wrap q_9 then (if 0 ≤ q_17 ∧ q_17 < 8 then (if 0 + q_17.toNat * 1 < q_16.length then visorref33_Cut.l2 x0 q_9 k (q_16.set (0 + q_17.toNat * 1) (cw (IntKind.u64.wrap (v_24 + (shl .u64 (IntKind.u64.wrap (Int.tmod (shr .u8 e_28 (IntKind.u64.wrap q_17)) 2)) (IntKind.u64.wrap q_9)))))) (IntKind.i64.wrap (q_17 + 1)) else none) else none) else none) else none) else none) else none) else some q_16)
def visorref33_Cut.l1 (x0 : List Int) : Nat → Cells → Int → Option (Cells)
 | 0, _, _ => none
 | k + 1, q_8, q_9 => (bif (decide (q_9 < ((x0.length : Nat) : Int))) && (decide (q_9 < 64)) then (visorref33_Cut.l2 x0 q_9 k q_8 0).bind fun p_36 => visorref33_Cut.l1 x0 k p_36 (IntKind.i64.wrap (q_9 + 1)) else some q_8)
abbrev visorref33_Cut.R (κ : Ctx) (S : List HP) (x0 : List Int) (A_x0 : Option Addr) (c_x0 : Nat) (r : Cells) : Ending → World → Prop := fun e w' => e = .returned (.agg (vals r)) ∧ Ow κ w' (S)
def visorref33_Cut.m (k : Nat) (x0 : List Int) : Option Cells := (visorref33_Cut.l1 x0 k [cw 0, cw 0, cw 0, cw 0, cw 0, cw 0, cw 0, cw 0] 0).bind fun p_39 => (if p_39.length = 8 then some p_39 else none)

set_option maxRecDepth 100000 in
set_option maxHeartbeats 4000000 in
theorem visorref33_Cut.ok (k : Nat) (x0 : List Int) (r : Cells) (hm : visorref33_Cut.m k x0 = some r) (κ : Ctx) (w : World) (S : List HP) (A_x0 : Option Addr) (c_x0 : Nat) (hx_x0 : Sl κ S A_x0 c_x0 1 (eI .u8) x0) (ho : Ow κ w (S)) :
  Calls Tryz.prog 23 #[.slice A_x0 x0.length c_x0] w (visorref33_Cut.R κ S x0 A_x0 c_x0 r) := by
 unfold visorref33_Cut.m at hm
 generalize hRR : visorref33_Cut.R κ S x0 A_x0 c_x0 r = RR
 refine qen [(0, .slice A_x0 x0.length c_x0)] Tryz.func23 Tryz.ntmps23 ho fun a hs => ?_
 refine qsr fun K1 hK1 => ?_
 refine qal 55 [cw 0, cw 0, cw 0, cw 0, cw 0, cw 0, cw 0, cw 0] 2 hs fun b_2 w a hs => ?_
 refine qpk 0 [0, 2] hs fun a hs => hK1 _ _ ?_
 clear hK1
 refine qsr fun K3 hK3 => ?_
 refine qpu 1 hs fun a hs => ?_
 refine qal 55 [cw 0, cw 0, cw 0, cw 0, cw 0, cw 0, cw 0, cw 0] 3 hs fun b_4 w a hs => ?_
 refine qsa 0 [cw 0, cw 0, cw 0, cw 0, cw 0, cw 0, cw 0, cw 0] hs rfl fun a w hs => ?_
 refine qpk 0 [0, 2, 3] hs fun a hs => hK3 _ _ ?_
 clear hK3
 refine Vk.seq fun K5 hK5 => ?_
 refine qsk 1 [0, 2, 3, 4] hs fun a hs => ?_
 refine wp_block ?_
 obtain ⟨r7, hl7, hm⟩ := bind_t hm
 have hx7 : ∀ (p_39 : Cells), r7 = p_39 → ∀ (a : Act) (w : World), St 40 a w κ [(2, pp b_2), (3, pp b_4)] (pt b_2 (blk [cw 0, cw 0, cw 0, cw 0, cw 0, cw 0, cw 0, cw 0] 55) :: pt b_4 (blk p_39 55) :: S) → K5 a w := by
  intro p_39 he a w hs
  subst r7
  refine hK5 _ _ ?_
  clear hK5
  refine qsr fun K42 hK42 => ?_
  obtain ⟨h_43, hm⟩ := ite_t hm
  refine qlw 1 hs rfl h_43 fun a hs => ?_
  refine qsb 0 p_39 hs rfl h_43 rfl fun a w hs => ?_
  refine qpe 0 [(2, pp b_2)] hs fun a hs => hK42 _ _ ?_
  clear hK42
  refine wp_ret ?_
  exact Vk.retC p_39 hs rfl (by kernel_rfl) (sz := 8) (by kernel_rfl) h_43 (CellsAt.all 0 rfl) (hRR ▸ by cases hm; exact ⟨rfl, hs.own.f1.drop.drop⟩)
 refine Vk.loopBy (fun k (s : Cells × Int) a w => visorref33_Cut.l1 x0 k s.1 s.2 = some r7 ∧ St 40 a w κ [(0, .slice A_x0 x0.length c_x0), (2, pp b_2), (3, pp b_4), (4, vi s.2)] (pt b_2 (blk [cw 0, cw 0, cw 0, cw 0, cw 0, cw 0, cw 0, cw 0] 55) :: pt b_4 (blk s.1 55) :: S)) k ([cw 0, cw 0, cw 0, cw 0, cw 0, cw 0, cw 0, cw 0], 0) ⟨hl7, hs.go [0, 2, 3, 4] [1, 0] 2 (by kernel_rfl) (by kernel_rfl) (by kernel_rfl)⟩ (fun s a w h => by obtain ⟨h1, _⟩ := h; simp [visorref33_Cut.l1] at h1) (fun k KL7 ih s a w h => ?_)
 obtain ⟨q_8, q_9⟩ := s
 obtain ⟨hm, hs⟩ := h
 try dsimp only at hm hs
 rw [visorref33_Cut.l1] at hm
 refine Vk.seq fun K10 hK10 => ?_
 refine qsr fun K11 hK11 => ?_
 refine qpu 5 hs fun a hs => ?_
 refine qsc 11 3 hs fun a hs => ?_
 refine qpk 0 [0, 2, 3, 4, 14] hs fun a hs => hK11 _ _ ?_
 clear hK11
 refine qcs ((decide (q_9 < ((x0.length : Nat) : Int))) && (decide (q_9 < 64))) hs (fun hb => ?_) fun hb => ?_
 ·replace hm := bif_t hm hb
  refine wp_skip ?_
  refine hK10 _ _ ?_
  clear hK10
  refine Vk.seq fun K13 hK13 => ?_
  refine wp_block ?_
  refine qsk 1 [0, 2, 3, 4, 5] hs fun a hs => ?_
  refine wp_block ?_
  obtain ⟨r15, hl15, hm⟩ := bind_t hm
  have hx15 : ∀ (p_36 : Cells), r15 = p_36 → ∀ (a : Act) (w : World), St 40 a w κ [(0, .slice A_x0 x0.length c_x0), (2, pp b_2), (3, pp b_4), (4, vi q_9)] (pt b_2 (blk [cw 0, cw 0, cw 0, cw 0, cw 0, cw 0, cw 0, cw 0] 55) :: pt b_4 (blk p_36 55) :: S) → K13 a w := by
   intro p_36 he a w hs
   subst r15
   refine hK13 _ _ ?_
   clear hK13
   refine Vk.region ?_
   refine qpe 3 [(0, .slice A_x0 x0.length c_x0), (2, pp b_2), (3, pp b_4), (4, vi (IntKind.i64.wrap (q_9 + 1)))] hs fun a hs => ?_
   refine ih (p_36, (IntKind.i64.wrap (q_9 + 1))) _ _ ⟨hm, hs.go [0, 2, 3, 4] [0, 1] 2 (by kernel_rfl) (by kernel_rfl) (by kernel_rfl)⟩
  refine Vk.loopBy (fun k (s : Cells × Int) a w => visorref33_Cut.l2 x0 q_9 k s.1 s.2 = some r15 ∧ St 40 a w κ [(0, .slice A_x0 x0.length c_x0), (2, pp b_2), (3, pp b_4), (4, vi q_9), (5, vi s.2)] (pt b_2 (blk [cw 0, cw 0, cw 0, cw 0, cw 0, cw 0, cw 0, cw 0] 55) :: pt b_4 (blk s.1 55) :: S)) k (q_8, 0) ⟨hl15, hs.go [0, 2, 3, 4, 5] [0, 1] 2 (by kernel_rfl) (by kernel_rfl) (by kernel_rfl)⟩ (fun s a w h => by obtain ⟨h1, _⟩ := h; simp [visorref33_Cut.l2] at h1) (fun k KL15 ih s a w h => ?_)
  obtain ⟨q_16, q_17⟩ := s
  obtain ⟨hm, hs⟩ := h
  try dsimp only at hm hs
  rw [visorref33_Cut.l2] at hm
  refine Vk.seq fun K18 hK18 => ?_
  refine qsk 2 [0, 2, 3, 4, 5, 18] hs fun a hs => ?_
  refine qcs (decide (q_17 < 8)) hs (fun hb => ?_) fun hb => ?_
  ·replace hm := bif_t hm hb
   refine wp_skip ?_
   refine hK18 _ _ ?_
   clear hK18
   refine Vk.seq fun K20 hK20 => ?_
   refine wp_block ?_
   obtain ⟨C_21, hC_21⟩ := qC hs.own
   refine qdr 18 κ C_21 hs fun w hs hqC_21 => ?_
   have hcl := qO hC_21 hs.own
   refine qdp (fuel := 11) [0, 1, 4, 5, 8, 9, 13, 14] hs hcl hqC_21 fun a hs => ?_
   obtain ⟨h_22, hm⟩ := ite_t hm
   refine qdx 2 b_4 0 1 hs hcl hqC_21 h_22 fun a hs => ?_
   obtain ⟨v_24, h_23, hm⟩ := bind_t hm
   refine qdi 3 1 hs hcl hqC_21 hC_21 rfl h_23 fun a hs => ?_
   obtain ⟨h_25, hm⟩ := ite_t hm
   obtain ⟨e_28, h_26, hm⟩ := bind_t hm
   obtain ⟨b_29, o_30, hA_31, h_27⟩ := Sl.elem hx_x0 h_26
   refine qdt 6 (.pointer (some ⟨b_29, o_30 + q_9.toNat * 1, none⟩)) (op := (.indexAddr 22 (.tmp 25) (.tmp 26))) hs hcl hqC_21 (fun w hw o ho => by rw [hC_21] at hw; exact run_idxSlc (k := .i64) ho (cap := c_x0) (len := x0.length) ((congrArg (fun A => Value.slice A (x0.length) (c_x0)) hA_31) ▸ (by kernel_rfl)) (by kernel_rfl) (by kernel_rfl) (idx_ok h_25 h_26) _) fun a hs => ?_
   refine qdt 7 (.int .u8 e_28) (op := (.load 5 (.tmp 27))) hs hcl hqC_21 (fun w hw o ho => by rw [hC_21] at hw; exact run_load1 (c := C.int .u8 e_28) ho (by kernel_rfl) (by kernel_rfl) (fun w ho => h_27 w ho 0 _ rfl) _ hw.drop.drop) fun a hs => ?_
   obtain ⟨h_32, hm⟩ := ite_t hm
   refine qdt 10 (.int .u8 (shr .u8 e_28 (IntKind.u64.wrap q_17))) (op := (.binOp .shr 5 (.tmp 28) (.tmp 30) 96)) hs hcl hqC_21 (fun w hw o ho => by rw [hC_21] at hw; exact run_shr (k' := .u64) ho (by kernel_rfl) (by kernel_rfl) h_32 _) fun a hs => ?_
   refine qdp (fuel := 4) [11, 12] hs hcl hqC_21 fun a hs => ?_
   obtain ⟨h_33, hm⟩ := ite_t hm
   refine qdt 15 (vw (shl .u64 (IntKind.u64.wrap (Int.tmod (shr .u8 e_28 (IntKind.u64.wrap q_17)) 2)) (IntKind.u64.wrap q_9))) (op := (.binOp .shl 23 (.tmp 33) (.tmp 35) 96)) hs hcl hqC_21 (fun w hw o ho => by rw [hC_21] at hw; exact run_shl (k' := .u64) ho (by kernel_rfl) (by kernel_rfl) h_33 _) fun a hs => ?_
   refine qdp (fuel := 2) [16] hs hcl hqC_21 fun a hs => ?_
   obtain ⟨h_34, hm⟩ := ite_t hm
   refine qdx 17 b_4 0 1 hs hcl hqC_21 h_34 fun a hs => ?_
   obtain ⟨h_35, hm⟩ := ite_t hm
   refine Vk.dOnly (i := 18) (by kernel_rfl) (Vk.store1 (b := b_4) (ty := 23) (x := (.tmp 38)) (y := (.tmp 37)) (off := 0 + q_17.toNat * 1) (cw (IntKind.u64.wrap (v_24 + (shl .u64 (IntKind.u64.wrap (Int.tmod (shr .u8 e_28 (IntKind.u64.wrap q_17)) 2)) (IntKind.u64.wrap q_9))))) 1 hs (by kernel_rfl) (by kernel_rfl) (by kernel_rfl) (by kernel_rfl) (by kernel_rfl) (by kernel_rfl) rfl h_35 fun a w hs => ?_)
   refine ⟨fun h => absurd h (by decide), ?_⟩
   replace hs := hs.pick [0, 2, 3, 4, 5] (L' := [(0, .slice A_x0 x0.length c_x0), (2, pp b_2), (3, pp b_4), (4, vi q_9), (5, vi q_17)]) (by kernel_rfl)
   refine Vk.dDone (by kernel_rfl) ?_
   refine hK20 _ _ ?_
   clear hK20
   refine Vk.region ?_
   refine qpk 3 [0, 2, 3, 4, 5] hs fun a hs => ?_
   refine ih ((q_16.set (0 + q_17.toNat * 1) (cw (IntKind.u64.wrap (v_24 + (shl .u64 (IntKind.u64.wrap (Int.tmod (shr .u8 e_28 (IntKind.u64.wrap q_17)) 2)) (IntKind.u64.wrap q_9)))))), (IntKind.i64.wrap (q_17 + 1))) _ _ ⟨hm, hs.go [0, 2, 3, 4, 5] [0, 1] 2 (by kernel_rfl) (by kernel_rfl) (by kernel_rfl)⟩
  ·replace hm := bif_f hm hb
   refine wp_exit ?_
   exact hx15 q_16 (Option.some.inj hm).symm _ _ (hs.go [0, 2, 3, 4] [0, 1] 2 (by kernel_rfl) (by kernel_rfl) (by kernel_rfl))
 ·replace hm := bif_f hm hb
  refine wp_exit ?_
  exact hx7 q_8 (Option.some.inj hm).symm _ _ (hs.go [2, 3] [0, 1] 2 (by kernel_rfl) (by kernel_rfl) (by kernel_rfl))


abbrev visorref20_None.R (κ : Ctx) (S : List HP) (r : Cells) : Ending → World → Prop := fun e w' => e = .returned (.agg (vals r)) ∧ Ow κ w' (S)
def visorref20_None.m (k : Nat) : Option Cells := some [ci (-1), ci (-1), ci (-1)]

set_option maxRecDepth 100000 in
set_option maxHeartbeats 4000000 in
theorem visorref20_None.ok (k : Nat) (r : Cells) (hm : visorref20_None.m k = some r) (κ : Ctx) (w : World) (S : List HP) (ho : Ow κ w (S)) :
  Calls Tryz.prog 81 #[] w (visorref20_None.R κ S r) := by
 unfold visorref20_None.m at hm
 generalize hRR : visorref20_None.R κ S r = RR
 refine qen [] Tryz.func81 Tryz.ntmps81 ho fun a hs => ?_
 refine qsr fun K1 hK1 => ?_
 refine qal 35 [ci 0, ci 0, ci 0] 0 hs fun b_2 w a hs => ?_
 refine qpe 0 [(0, pp b_2)] hs fun a hs => hK1 _ _ ?_
 clear hK1
 refine qsr fun K3 hK3 => ?_
 refine qpu 2 hs fun a hs => ?_
 refine qsa 0 [ci (-1), ci (-1), ci (-1)] hs rfl fun a w hs => ?_
 refine qpe 0 [(0, pp b_2)] hs fun a hs => hK3 _ _ ?_
 clear hK3
 refine wp_ret ?_
 exact Vk.retC [ci (-1), ci (-1), ci (-1)] hs rfl (by kernel_rfl) (sz := 3) (by kernel_rfl) rfl (CellsAt.all 0 rfl) (hRR ▸ by cases hm; exact ⟨rfl, hs.own.drop⟩)


abbrev visorref19_Op.R (κ : Ctx) (S : List HP) (x0 : Int) (x1 : Int) (x2 : Int) (x3 : Int) (x4 : Int) (r : Tapi_Op) : Ending → World → Prop := fun e w' => e = .returned (.agg (vals [ci r.kind, ci r.dom, ci r.a, ci r.b, ci r.d, cw r.c])) ∧ Ow κ w' (S)
def visorref19_Op.m (k : Nat) (x0 : Int) (x1 : Int) (x2 : Int) (x3 : Int) (x4 : Int) : Option Tapi_Op := some (⟨x0, x1, x2, x3, (-1), x4⟩ : Tapi_Op)

set_option maxRecDepth 100000 in
set_option maxHeartbeats 4000000 in
theorem visorref19_Op.ok (k : Nat) (x0 : Int) (x1 : Int) (x2 : Int) (x3 : Int) (x4 : Int) (r : Tapi_Op) (hm : visorref19_Op.m k x0 x1 x2 x3 x4 = some r) (κ : Ctx) (w : World) (S : List HP) (ho : Ow κ w (S)) :
  Calls Tryz.prog 83 #[vi x0, vi x1, vi x2, vi x3, vw x4] w (visorref19_Op.R κ S x0 x1 x2 x3 x4 r) := by
 unfold visorref19_Op.m at hm
 generalize hRR : visorref19_Op.R κ S x0 x1 x2 x3 x4 r = RR
 refine qen [(0, vi x0), (1, vi x1), (2, vi x2), (3, vi x3), (4, vw x4)] Tryz.func83 Tryz.ntmps83 ho fun a hs => ?_
 refine qsr fun K1 hK1 => ?_
 refine qal 103 [ci 0, ci 0, ci 0, ci 0, ci 0, cw 0] 10 hs fun b_2 w a hs => ?_
 refine qpk 0 [0, 1, 2, 3, 4, 10] hs fun a hs => hK1 _ _ ?_
 clear hK1
 refine qsr fun K3 hK3 => ?_
 refine qpu 6 hs fun a hs => ?_
 refine qsa 0 [ci x0, ci x1, ci x2, ci x3, ci (-1), cw x4] hs rfl fun a w hs => ?_
 refine qpe 0 [(10, pp b_2)] hs fun a hs => hK3 _ _ ?_
 clear hK3
 refine wp_ret ?_
 exact Vk.retC [ci x0, ci x1, ci x2, ci x3, ci (-1), cw x4] hs rfl (by kernel_rfl) (sz := 6) (by kernel_rfl) rfl (CellsAt.all 0 rfl) (hRR ▸ by cases hm; exact ⟨rfl, hs.own.drop⟩)


abbrev visorref19_M_Len.R (κ : Ctx) (S : List HP) (x0 : Tvisorref19_M) (b_x0 : Nat) (g_x0 : Option Addr × Nat × Option Addr × Nat × Option Addr × Nat × Option Addr × Nat) (r : Int) : Ending → World → Prop := fun e w' => e = .returned (vi r) ∧ Ow κ w' (bagL (Tvisorref19_M.parts κ b_x0 x0 g_x0) :: S)
def visorref19_M_Len.m (k : Nat) (x0 : Tvisorref19_M) : Option Int := some (IntKind.i64.wrap (x0.skip + ((x0.ops.length : Nat) : Int)))

set_option maxRecDepth 100000 in
set_option maxHeartbeats 4000000 in
theorem visorref19_M_Len.ok (k : Nat) (x0 : Tvisorref19_M) (r : Int) (hm : visorref19_M_Len.m k x0 = some r) (κ : Ctx) (w : World) (S : List HP) (b_x0 : Nat) (g_x0 : Option Addr × Nat × Option Addr × Nat × Option Addr × Nat × Option Addr × Nat) (ho : Ow κ w (bagL (Tvisorref19_M.parts κ b_x0 x0 g_x0) :: S)) :
  Calls Tryz.prog 109 #[pp b_x0] w (visorref19_M_Len.R κ S x0 b_x0 g_x0 r) := by
 unfold visorref19_M_Len.m at hm
 generalize hRR : visorref19_M_Len.R κ S x0 b_x0 g_x0 r = RR
 refine qen [(0, pp b_x0)] Tryz.func109 Tryz.ntmps109 ho fun a hs => ?_
 refine qse 1 [(0, pp b_x0)] hs fun a hs => ?_
 refine Vk.seq fun K2 hK2 => ?_
 replace hs := hs.unbagAt 0 rfl
 obtain ⟨C_7, hC_7⟩ := qC hs.own
 refine qdr 11 κ C_7 hs fun w hs hqC_7 => ?_
 have hcl := qO hC_7 hs.own
 refine qdp (fuel := 5) [0, 1, 2, 4, 5, 6] hs hcl hqC_7 fun a hs => ?_
 refine qdl 3 0 (ci x0.skip) hs hcl hqC_7 hC_7 rfl fun a hs => ?_
 refine qdl 7 0 (C.slc g_x0.1 x0.ops.length g_x0.2.1) hs hcl hqC_7 hC_7 rfl fun a hs => ?_
 refine qdp (fuel := 0) [8, 9, 10] hs hcl hqC_7 fun a hs => ?_
 replace hs := hs.pick [2] (L' := [(2, vi (IntKind.i64.wrap (x0.skip + ((x0.ops.length : Nat) : Int))))]) (by kernel_rfl)
 refine Vk.dDone (by kernel_rfl) ?_
 refine hK2 _ _ ?_
 clear hK2
 refine wp_ret ?_
 replace hs := hs.bagG (l := Tvisorref19_M.parts κ b_x0 x0 g_x0) (S' := S) hs.own
 exact qr1 (vi (IntKind.i64.wrap (x0.skip + ((x0.ops.length : Nat) : Int)))) hs rfl hRR (by cases hm; exact ⟨rfl, hs.own⟩)


def visorref17_Regs.j2 (k : Nat) (x0 : Int) (x1 : Int) (p_19 : Bool) : Option (Int) := (bif p_19 then some 1 else (bif x0 == 12 then some x1 else some 0))
def visorref17_Regs.j1 (k : Nat) (x0 : Int) (x1 : Int) (p_12 : Bool) : Option (Int) := (bif p_12 then some 2 else (bif x0 == 6 then visorref17_Regs.j2 k x0 x1 (x0 == 6) else (bif x0 == 8 then visorref17_Regs.j2 k x0 x1 (x0 == 8) else (bif x0 == 9 then visorref17_Regs.j2 k x0 x1 (x0 == 9) else (bif x0 == 10 then visorref17_Regs.j2 k x0 x1 (x0 == 10) else visorref17_Regs.j2 k x0 x1 (x0 == 11))))))
abbrev visorref17_Regs.R (κ : Ctx) (S : List HP) (x0 : Int) (x1 : Int) (r : Int) : Ending → World → Prop := fun e w' => e = .returned (vi r) ∧ Ow κ w' (S)
def visorref17_Regs.m (k : Nat) (x0 : Int) (x1 : Int) : Option Int := (bif (x1 != 2) && (x1 != 3) then some 0 else (bif x0 == 2 then some (IntKind.i64.wrap (x1 - 1)) else (bif x0 == 5 then visorref17_Regs.j1 k x0 x1 (x0 == 5) else visorref17_Regs.j1 k x0 x1 (x0 == 7))))

set_option maxRecDepth 100000 in
set_option maxHeartbeats 4000000 in
theorem visorref17_Regs.ok (k : Nat) (x0 : Int) (x1 : Int) (r : Int) (hm : visorref17_Regs.m k x0 x1 = some r) (κ : Ctx) (w : World) (S : List HP) (ho : Ow κ w (S)) :
  Calls Tryz.prog 125 #[vi x0, vi x1] w (visorref17_Regs.R κ S x0 x1 r) := by
 unfold visorref17_Regs.m at hm
 generalize hRR : visorref17_Regs.R κ S x0 x1 r = RR
 refine qen [(0, vi x0), (1, vi x1)] Tryz.func125 Tryz.ntmps125 ho fun a hs => ?_
 refine qse 1 [(0, vi x0), (1, vi x1)] hs fun a hs => ?_
 refine Vk.seq fun K2 hK2 => ?_
 refine qsr fun K3 hK3 => ?_
 refine qpu 3 hs fun a hs => ?_
 refine qsc 7 3 hs fun a hs => ?_
 refine qpk 0 [0, 1, 10] hs fun a hs => hK3 _ _ ?_
 clear hK3
 refine qcs ((x1 != 2) && (x1 != 3)) hs (fun hb => ?_) fun hb => ?_
 ·replace hm := bif_t hm hb
  refine qse 1 [(4, vi 0)] hs fun a hs => ?_
  refine wp_ret ?_
  exact qr1 (vi 0) hs rfl hRR (by cases hm; exact ⟨rfl, hs.own⟩)
 ·replace hm := bif_f hm hb
  refine wp_skip ?_
  refine hK2 _ _ ?_
  clear hK2
  refine Vk.seq fun K6 hK6 => ?_
  refine qse 1 [(1, vi x1), (11, vi x0)] hs fun a hs => ?_
  refine wp_block ?_
  refine qsk 2 [1, 11, 12] hs fun a hs => ?_
  refine qcs (x0 == 2) hs (fun hb => ?_) fun hb => ?_
  ·replace hm := bif_t hm hb
   refine qsk 3 [4] hs fun a hs => ?_
   refine wp_ret ?_
   exact qr1 (vi (IntKind.i64.wrap (x1 - 1))) hs rfl hRR (by cases hm; exact ⟨rfl, hs.own⟩)
  ·replace hm := bif_f hm hb
   refine Vk.seq fun K10 hK10 => ?_
   have hj10 : ∀ (p_12 : Bool), visorref17_Regs.j1 k x0 x1 p_12 = some r → ∀ (a : Act) (w : World), St 28 a w κ [(1, vi x1), (11, vi x0), (16, .bool p_12)] (S) → K10 a w := by
    intro p_12 hm a w hs
    unfold visorref17_Regs.j1 at hm
    refine hK10 _ _ ?_
    refine qcs (p_12) hs (fun hb => ?_) fun hb => ?_
    ·replace hm := bif_t hm hb
     refine qse 1 [(4, vi 2)] hs fun a hs => ?_
     refine wp_ret ?_
     exact qr1 (vi 2) hs rfl hRR (by cases hm; exact ⟨rfl, hs.own⟩)
    ·replace hm := bif_f hm hb
     refine Vk.seq fun K14 hK14 => ?_
     have hj14 : ∀ (p_19 : Bool), visorref17_Regs.j2 k x0 x1 p_19 = some r → ∀ (a : Act) (w : World), St 28 a w κ [(1, vi x1), (11, vi x0), (19, .bool p_19)] (S) → K14 a w := by
      intro p_19 hm a w hs
      unfold visorref17_Regs.j2 at hm
      refine hK14 _ _ ?_
      refine qcs (p_19) hs (fun hb => ?_) fun hb => ?_
      ·replace hm := bif_t hm hb
       refine qse 1 [(4, vi 1)] hs fun a hs => ?_
       refine wp_ret ?_
       exact qr1 (vi 1) hs rfl hRR (by cases hm; exact ⟨rfl, hs.own⟩)
      ·replace hm := bif_f hm hb
       refine qsk 2 [1, 25] hs fun a hs => ?_
       refine qcs (x0 == 12) hs (fun hb => ?_) fun hb => ?_
       ·replace hm := bif_t hm hb
        refine qse 2 [(4, vi x1)] hs fun a hs => ?_
        refine wp_ret ?_
        exact qr1 (vi x1) hs rfl hRR (by cases hm; exact ⟨rfl, hs.own⟩)
       ·replace hm := bif_f hm hb
        refine wp_skip ?_
        refine hK6 _ _ ?_
        clear hK6
        refine qse 1 [(4, vi 0)] hs fun a hs => ?_
        refine wp_ret ?_
        exact qr1 (vi 0) hs rfl hRR (by cases hm; exact ⟨rfl, hs.own⟩)
     refine qse 2 [(1, vi x1), (11, vi x0), (19, .bool (x0 == 6))] hs fun a hs => ?_
     refine qcs (x0 == 6) hs (fun hb => ?_) fun hb => ?_
     ·replace hm := bif_t hm hb
      refine wp_skip ?_
      exact hj14 (x0 == 6) hm _ _ (hs.go [1, 11, 19] [] 0 (by kernel_rfl) (by kernel_rfl) (by kernel_rfl))
     ·replace hm := bif_f hm hb
      refine qse 2 [(1, vi x1), (11, vi x0), (19, .bool (x0 == 8))] hs fun a hs => ?_
      refine qcs (x0 == 8) hs (fun hb => ?_) fun hb => ?_
      ·replace hm := bif_t hm hb
       refine wp_skip ?_
       exact hj14 (x0 == 8) hm _ _ (hs.go [1, 11, 19] [] 0 (by kernel_rfl) (by kernel_rfl) (by kernel_rfl))
      ·replace hm := bif_f hm hb
       refine qse 2 [(1, vi x1), (11, vi x0), (19, .bool (x0 == 9))] hs fun a hs => ?_
       refine qcs (x0 == 9) hs (fun hb => ?_) fun hb => ?_
       ·replace hm := bif_t hm hb
        refine wp_skip ?_
        exact hj14 (x0 == 9) hm _ _ (hs.go [1, 11, 19] [] 0 (by kernel_rfl) (by kernel_rfl) (by kernel_rfl))
       ·replace hm := bif_f hm hb
        refine qse 2 [(1, vi x1), (11, vi x0), (19, .bool (x0 == 10))] hs fun a hs => ?_
        refine qcs (x0 == 10) hs (fun hb => ?_) fun hb => ?_
        ·replace hm := bif_t hm hb
         refine wp_skip ?_
         exact hj14 (x0 == 10) hm _ _ (hs.go [1, 11, 19] [] 0 (by kernel_rfl) (by kernel_rfl) (by kernel_rfl))
        ·replace hm := bif_f hm hb
         refine Vk.region ?_
         refine qpe 2 [(1, vi x1), (11, vi x0), (19, .bool (x0 == 11))] hs fun a hs => ?_
         exact hj14 (x0 == 11) hm _ _ (hs.go [1, 11, 19] [] 0 (by kernel_rfl) (by kernel_rfl) (by kernel_rfl))
   refine qse 2 [(1, vi x1), (11, vi x0), (16, .bool (x0 == 5))] hs fun a hs => ?_
   refine qcs (x0 == 5) hs (fun hb => ?_) fun hb => ?_
   ·replace hm := bif_t hm hb
    refine wp_skip ?_
    exact hj10 (x0 == 5) hm _ _ (hs.go [1, 11, 16] [] 0 (by kernel_rfl) (by kernel_rfl) (by kernel_rfl))
   ·replace hm := bif_f hm hb
    refine Vk.region ?_
    refine qpe 2 [(1, vi x1), (11, vi x0), (16, .bool (x0 == 7))] hs fun a hs => ?_
    exact hj10 (x0 == 7) hm _ _ (hs.go [1, 11, 16] [] 0 (by kernel_rfl) (by kernel_rfl) (by kernel_rfl))


def visorref17_Right.j3 (k : Nat) (x0 : Tapi_Op) (p_67 : Bool) : Option (Bool) := (bif p_67 then some true else some (x0.c == 0))
def visorref17_Right.j2 (k : Nat) (x0 : Tapi_Op) (p_60 : Bool) : Option (Bool) := (bif p_60 then some (decide (x0.c < 64)) else (bif x0.kind == 2 then some (decide (x0.c < 1048576)) else (bif x0.kind == 3 then visorref17_Right.j3 k x0 (x0.kind == 3) else (bif x0.kind == 4 then visorref17_Right.j3 k x0 (x0.kind == 4) else visorref17_Right.j3 k x0 (x0.kind == 8)))))
def visorref17_Right.l1 (x0 : Tapi_Op) (x1 : Int) (x2 : Int) : Nat → Int → Option (Sum (Bool) (Unit))
 | 0, _ => none
 | k + 1, q_17 => (bif decide (q_17 < 3) then (visorref17_Regs.m k x0.kind x2).bind fun v_24 => (bif decide (q_17 < v_24) then (if 0 ≤ q_17 ∧ q_17 < 3 then (getI .i64 [ci x0.a, ci x0.b, ci x0.d] (0 + q_17.toNat * 1)).bind fun v_28 => (bif decide (v_28 < 0) then some (.inl false) else (if 0 ≤ q_17 ∧ q_17 < 3 then (getI .i64 [ci x0.a, ci x0.b, ci x0.d] (0 + q_17.toNat * 1)).bind fun v_32 => (bif decide (v_32 ≥ x1) then some (.inl false) else (visorref17_Regs.m k x0.kind x2).bind fun v_35 => (bif decide (q_17 ≥ v_35) then (if 0 ≤ q_17 ∧ q_17 < 3 then (getI .i64 [ci x0.a, ci x0.b, ci x0.d] (0 + q_17.toNat * 1)).bind fun v_39 => (bif v_39 != (-1) then some (.inl false) else visorref17_Right.l1 x0 x1 x2 k (IntKind.i64.wrap (q_17 + 1))) else none) else visorref17_Right.l1 x0 x1 x2 k (IntKind.i64.wrap (q_17 + 1)))) else none)) else none) else (visorref17_Regs.m k x0.kind x2).bind fun v_42 => (bif decide (q_17 ≥ v_42) then (if 0 ≤ q_17 ∧ q_17 < 3 then (getI .i64 [ci x0.a, ci x0.b, ci x0.d] (0 + q_17.toNat * 1)).bind fun v_46 => (bif v_46 != (-1) then some (.inl false) else visorref17_Right.l1 x0 x1 x2 k (IntKind.i64.wrap (q_17 + 1))) else none) else visorref17_Right.l1 x0 x1 x2 k (IntKind.i64.wrap (q_17 + 1)))) else some (.inr ()))
def visorref17_Right.j1 (k : Nat) (x0 : Tapi_Op) (x1 : Int) (x2 : Int) (p_10 : Bool) : Option (Bool) := (bif p_10 then some false else (visorref17_Right.l1 x0 x1 x2 k 0).bind fun x => match x with | .inl v => some v | .inr () => (bif x0.kind == 9 then visorref17_Right.j2 k x0 (x0.kind == 9) else (bif x0.kind == 10 then visorref17_Right.j2 k x0 (x0.kind == 10) else visorref17_Right.j2 k x0 (x0.kind == 11))))
abbrev visorref17_Right.R (κ : Ctx) (S : List HP) (x0 : Tapi_Op) (x1 : Int) (x2 : Int) (r : Bool) : Ending → World → Prop := fun e w' => e = .returned (.bool r) ∧ Ow κ w' (S)
def visorref17_Right.m (k : Nat) (x0 : Tapi_Op) (x1 : Int) (x2 : Int) : Option Bool := (bif (((((x2 != 2) && (x2 != 3)) || (decide (x0.kind < 1))) || (decide (x0.kind > 12))) || (decide (x0.dom < (-1)))) || (decide (x0.dom ≥ x2)) then visorref17_Right.j1 k x0 x1 x2 true else (bif x0.kind == 12 then visorref17_Right.j1 k x0 x1 x2 (x0.dom != (-1)) else visorref17_Right.j1 k x0 x1 x2 false))

set_option maxRecDepth 100000 in
set_option maxHeartbeats 4000000 in
theorem visorref17_Right.ok (k : Nat) (x0 : Tapi_Op) (x1 : Int) (x2 : Int) (r : Bool) (hm : visorref17_Right.m k x0 x1 x2 = some r) (κ : Ctx) (w : World) (S : List HP) (ho : Ow κ w (S)) :
  Calls Tryz.prog 108 #[.agg (vals [ci x0.kind, ci x0.dom, ci x0.a, ci x0.b, ci x0.d, cw x0.c]), vi x1, vi x2] w (visorref17_Right.R κ S x0 x1 x2 r) := by
 unfold visorref17_Right.m at hm
 generalize hRR : visorref17_Right.R κ S x0 x1 x2 r = RR
 refine qen [(0, .agg (vals [ci x0.kind, ci x0.dom, ci x0.a, ci x0.b, ci x0.d, cw x0.c])), (1, vi x1), (2, vi x2)] Tryz.func108 Tryz.ntmps108 ho fun a hs => ?_
 refine qsr fun K1 hK1 => ?_
 refine qbx 0 103 [ci x0.kind, ci x0.dom, ci x0.a, ci x0.b, ci x0.d, cw x0.c] 3 hs fun b_2 w a hs => ?_
 refine qpk 1 [1, 2, 3] hs fun a hs => hK1 _ _ ?_
 clear hK1
 refine Vk.seq fun K3 hK3 => ?_
 refine Vk.seq fun K4 hK4 => ?_
 have hj4 : ∀ (p_10 : Bool), visorref17_Right.j1 k x0 x1 x2 p_10 = some r → ∀ (a : Act) (w : World), St 111 a w κ [(1, vi x1), (2, vi x2), (3, pp b_2), (45, .bool p_10)] (pt b_2 (blk (Tapi_Op.cells x0) 103) :: S) → K4 a w := by
  intro p_10 hm a w hs
  unfold visorref17_Right.j1 at hm
  refine hK4 _ _ ?_
  refine qcs (p_10) hs (fun hb => ?_) fun hb => ?_
  ·replace hm := bif_t hm hb
   refine qse 1 [(6, .bool false)] hs fun a hs => ?_
   refine wp_ret ?_
   exact qr1 (.bool false) hs rfl hRR (by cases hm; exact ⟨rfl, hs.own.drop⟩)
  ·replace hm := bif_f hm hb
   refine wp_skip ?_
   refine hK3 _ _ ?_
   clear hK3
   refine qsr fun K12 hK12 => ?_
   refine qpu 1 hs fun a hs => ?_
   refine qld 0 (ci x0.a) hs rfl fun a hs => ?_
   refine qpu 1 hs fun a hs => ?_
   refine qld 0 (ci x0.b) hs rfl fun a hs => ?_
   refine qpu 1 hs fun a hs => ?_
   refine qld 0 (ci x0.d) hs rfl fun a hs => ?_
   refine qpu 1 hs fun a hs => ?_
   refine qal 33 [ci 0, ci 0, ci 0] 7 hs fun b_13 w a hs => ?_
   refine qsa 0 [ci x0.a, ci x0.b, ci x0.d] hs rfl fun a w hs => ?_
   refine qpk 0 [1, 2, 3, 7] hs fun a hs => hK12 _ _ ?_
   clear hK12
   refine Vk.seq fun K14 hK14 => ?_
   refine qsk 1 [1, 2, 3, 7, 8] hs fun a hs => ?_
   refine wp_block ?_
   obtain ⟨r16, hl16, hm⟩ := bind_t hm
   have hx16 : r16 = Sum.inr () → ∀ (a : Act) (w : World), St 111 a w κ [(3, pp b_2)] (pt b_2 (blk (Tapi_Op.cells x0) 103) :: S) → K14 a w := by
    intro he a w hs
    subst r16
    refine hK14 _ _ ?_
    clear hK14
    refine Vk.seq fun K55 hK55 => ?_
    refine qsr fun K56 hK56 => ?_
    refine qpu 1 hs fun a hs => ?_
    refine qld 0 (ci x0.kind) hs rfl fun a hs => ?_
    refine qpk 0 [3, 91] hs fun a hs => hK56 _ _ ?_
    clear hK56
    refine wp_block ?_
    refine Vk.seq fun K57 hK57 => ?_
    have hj57 : ∀ (p_60 : Bool), visorref17_Right.j2 k x0 p_60 = some r → ∀ (a : Act) (w : World), St 111 a w κ [(3, pp b_2), (91, vi x0.kind), (92, .bool p_60)] (pt b_2 (blk (Tapi_Op.cells x0) 103) :: S) → K57 a w := by
     intro p_60 hm a w hs
     unfold visorref17_Right.j2 at hm
     refine hK57 _ _ ?_
     refine qcs (p_60) hs (fun hb => ?_) fun hb => ?_
     ·replace hm := bif_t hm hb
      refine qsr fun K61 hK61 => ?_
      refine qpu 1 hs fun a hs => ?_
      refine qld 0 (cw x0.c) hs rfl fun a hs => ?_
      refine qpk 2 [6] hs fun a hs => hK61 _ _ ?_
      clear hK61
      refine wp_ret ?_
      exact qr1 (.bool (decide (x0.c < 64))) hs rfl hRR (by cases hm; exact ⟨rfl, hs.own.drop⟩)
     ·replace hm := bif_f hm hb
      refine qsk 2 [3, 91, 99] hs fun a hs => ?_
      refine qcs (x0.kind == 2) hs (fun hb => ?_) fun hb => ?_
      ·replace hm := bif_t hm hb
       refine qsr fun K63 hK63 => ?_
       refine qpu 1 hs fun a hs => ?_
       refine qld 0 (cw x0.c) hs rfl fun a hs => ?_
       refine qpe 2 [(6, .bool (decide (x0.c < 1048576)))] hs fun a hs => hK63 _ _ ?_
       clear hK63
       refine wp_ret ?_
       exact qr1 (.bool (decide (x0.c < 1048576))) hs rfl hRR (by cases hm; exact ⟨rfl, hs.own.drop⟩)
      ·replace hm := bif_f hm hb
       refine Vk.seq fun K64 hK64 => ?_
       have hj64 : ∀ (p_67 : Bool), visorref17_Right.j3 k x0 p_67 = some r → ∀ (a : Act) (w : World), St 111 a w κ [(3, pp b_2), (104, .bool p_67)] (pt b_2 (blk (Tapi_Op.cells x0) 103) :: S) → K64 a w := by
        intro p_67 hm a w hs
        unfold visorref17_Right.j3 at hm
        refine hK64 _ _ ?_
        refine qcs (p_67) hs (fun hb => ?_) fun hb => ?_
        ·replace hm := bif_t hm hb
         refine qse 1 [(6, .bool true)] hs fun a hs => ?_
         refine wp_ret ?_
         exact qr1 (.bool true) hs rfl hRR (by cases hm; exact ⟨rfl, hs.own.drop⟩)
        ·replace hm := bif_f hm hb
         refine wp_skip ?_
         refine hK55 _ _ ?_
         clear hK55
         refine qsr fun K69 hK69 => ?_
         refine qpu 1 hs fun a hs => ?_
         refine qld 0 (cw x0.c) hs rfl fun a hs => ?_
         refine qpe 2 [(6, .bool (x0.c == 0))] hs fun a hs => hK69 _ _ ?_
         clear hK69
         refine wp_ret ?_
         exact qr1 (.bool (x0.c == 0)) hs rfl hRR (by cases hm; exact ⟨rfl, hs.own.drop⟩)
       refine qse 2 [(3, pp b_2), (91, vi x0.kind), (104, .bool (x0.kind == 3))] hs fun a hs => ?_
       refine qcs (x0.kind == 3) hs (fun hb => ?_) fun hb => ?_
       ·replace hm := bif_t hm hb
        refine wp_skip ?_
        exact hj64 (x0.kind == 3) hm _ _ (hs.go [3, 104] [0] 1 (by kernel_rfl) (by kernel_rfl) (by kernel_rfl))
       ·replace hm := bif_f hm hb
        refine qse 2 [(3, pp b_2), (91, vi x0.kind), (104, .bool (x0.kind == 4))] hs fun a hs => ?_
        refine qcs (x0.kind == 4) hs (fun hb => ?_) fun hb => ?_
        ·replace hm := bif_t hm hb
         refine wp_skip ?_
         exact hj64 (x0.kind == 4) hm _ _ (hs.go [3, 104] [0] 1 (by kernel_rfl) (by kernel_rfl) (by kernel_rfl))
        ·replace hm := bif_f hm hb
         refine Vk.region ?_
         refine qpe 2 [(3, pp b_2), (104, .bool (x0.kind == 8))] hs fun a hs => ?_
         exact hj64 (x0.kind == 8) hm _ _ (hs.go [3, 104] [0] 1 (by kernel_rfl) (by kernel_rfl) (by kernel_rfl))
    refine qse 2 [(3, pp b_2), (91, vi x0.kind), (92, .bool (x0.kind == 9))] hs fun a hs => ?_
    refine qcs (x0.kind == 9) hs (fun hb => ?_) fun hb => ?_
    ·replace hm := bif_t hm hb
     refine wp_skip ?_
     exact hj57 (x0.kind == 9) hm _ _ (hs.go [3, 91, 92] [0] 1 (by kernel_rfl) (by kernel_rfl) (by kernel_rfl))
    ·replace hm := bif_f hm hb
     refine qse 2 [(3, pp b_2), (91, vi x0.kind), (92, .bool (x0.kind == 10))] hs fun a hs => ?_
     refine qcs (x0.kind == 10) hs (fun hb => ?_) fun hb => ?_
     ·replace hm := bif_t hm hb
      refine wp_skip ?_
      exact hj57 (x0.kind == 10) hm _ _ (hs.go [3, 91, 92] [0] 1 (by kernel_rfl) (by kernel_rfl) (by kernel_rfl))
     ·replace hm := bif_f hm hb
      refine Vk.region ?_
      refine qpe 2 [(3, pp b_2), (91, vi x0.kind), (92, .bool (x0.kind == 11))] hs fun a hs => ?_
      exact hj57 (x0.kind == 11) hm _ _ (hs.go [3, 91, 92] [0] 1 (by kernel_rfl) (by kernel_rfl) (by kernel_rfl))
   have hret16 : ∀ v, r16 = Sum.inl v → v = r := by intro v he; subst r16; exact Option.some.inj hm
   refine Vk.loopBy (fun k (s : Int) a w => visorref17_Right.l1 x0 x1 x2 k s = some r16 ∧ St 111 a w κ [(1, vi x1), (2, vi x2), (3, pp b_2), (7, pp b_13), (8, vi s)] (pt b_2 (blk (Tapi_Op.cells x0) 103) :: pt b_13 (blk [ci x0.a, ci x0.b, ci x0.d] 33) :: S)) k 0 ⟨hl16, hs.go [1, 2, 3, 7, 8] [1, 0] 2 (by kernel_rfl) (by kernel_rfl) (by kernel_rfl)⟩ (fun s a w h => by obtain ⟨h1, _⟩ := h; simp [visorref17_Right.l1] at h1) (fun k KL16 ih q_17 a w h => ?_)
   obtain ⟨hm, hs⟩ := h
   try dsimp only at hm hs
   rw [visorref17_Right.l1] at hm
   refine Vk.seq fun K18 hK18 => ?_
   refine qsk 2 [1, 2, 3, 7, 8, 54] hs fun a hs => ?_
   refine qcs (decide (q_17 < 3)) hs (fun hb => ?_) fun hb => ?_
   ·replace hm := bif_t hm hb
    refine wp_skip ?_
    refine hK18 _ _ ?_
    clear hK18
    refine Vk.seq fun K20 hK20 => ?_
    refine wp_block ?_
    refine qsr fun K21 hK21 => ?_
    refine qpu 2 hs fun a hs => ?_
    refine qld 0 (ci x0.kind) hs rfl fun a hs => ?_
    refine qpu 1 hs fun a hs => ?_
    obtain ⟨v_24, h_23, hm⟩ := bind_t hm
    refine qcl (visorref17_Regs.ok _ _ _ _ h_23 _ _ (pt b_2 (blk (Tapi_Op.cells x0) 103) :: pt b_13 (blk [ci x0.a, ci x0.b, ci x0.d] 33) :: S) hs.own) hs fun w a hs => ?_
    refine qpu 2 hs fun a hs => ?_
    rcases Bool.eq_false_or_eq_true (decide (q_17 < v_24)) with hb | hb
    ·replace hm := bif_t hm hb
     replace hs := hs.known (t := 63) hb (by kernel_rfl)
     refine qpu 1 hs fun a hs => ?_
     obtain ⟨h_26, hm⟩ := ite_t hm
     refine qix b_13 0 1 hs h_26 fun a hs => ?_
     obtain ⟨v_28, h_27, hm⟩ := bind_t hm
     refine qli 1 hs rfl h_27 fun a hs => ?_
     refine qpu 2 hs fun a hs => ?_
     rcases Bool.eq_false_or_eq_true (decide (v_28 < 0)) with hb | hb
     ·replace hm := bif_t hm hb
      replace hs := hs.known (t := 68) hb (by kernel_rfl)
      refine qpk 21 [1, 2, 3, 7, 8, 64, 65, 66, 67, 68, 74, 89] hs fun a hs => hK21 _ _ ?_
      refine qct hs ?_
      refine qse 1 [(6, .bool false)] hs fun a hs => ?_
      refine wp_ret ?_
      exact Vk.ret1 (P := Tryz.prog) (fn := Tryz.f108) (R := RR) (.bool false) hs rfl (by kernel_rfl) (by obtain rfl := hret16 _ ((Option.some.inj hm).symm); subst hRR; exact ⟨rfl, hs.own.f1.drop.drop⟩)
     ·replace hm := bif_f hm hb
      replace hs := hs.known (t := 68) hb (by kernel_rfl)
      refine qpu 1 hs fun a hs => ?_
      obtain ⟨h_30, hm⟩ := ite_t hm
      refine qix b_13 0 1 hs h_30 fun a hs => ?_
      obtain ⟨v_32, h_31, hm⟩ := bind_t hm
      refine qli 1 hs rfl h_31 fun a hs => ?_
      refine qpu 5 hs fun a hs => ?_
      rcases Bool.eq_false_or_eq_true (decide (v_32 ≥ x1)) with hb | hb
      ·replace hm := bif_t hm hb
       replace hs := hs.known (t := 76) hb (by kernel_rfl)
       refine qpk 13 [1, 2, 3, 7, 8, 64, 65, 66, 67, 68, 69, 70, 71, 72, 73, 74, 89] hs fun a hs => hK21 _ _ ?_
       refine qct hs ?_
       refine qse 1 [(6, .bool false)] hs fun a hs => ?_
       refine wp_ret ?_
       exact Vk.ret1 (P := Tryz.prog) (fn := Tryz.f108) (R := RR) (.bool false) hs rfl (by kernel_rfl) (by obtain rfl := hret16 _ ((Option.some.inj hm).symm); subst hRR; exact ⟨rfl, hs.own.f1.drop.drop⟩)
      ·replace hm := bif_f hm hb
       replace hs := hs.known (t := 76) hb (by kernel_rfl)
       refine qpu 2 hs fun a hs => ?_
       refine qld 0 (ci x0.kind) hs rfl fun a hs => ?_
       refine qpu 1 hs fun a hs => ?_
       obtain ⟨v_35, h_34, hm⟩ := bind_t hm
       refine qcl (visorref17_Regs.ok _ _ _ _ h_34 _ _ (pt b_2 (blk (Tapi_Op.cells x0) 103) :: pt b_13 (blk [ci x0.a, ci x0.b, ci x0.d] 33) :: S) hs.own) hs fun w a hs => ?_
       refine qpu 2 hs fun a hs => ?_
       rcases Bool.eq_false_or_eq_true (decide (q_17 ≥ v_35)) with hb | hb
       ·replace hm := bif_t hm hb
        replace hs := hs.known (t := 83) hb (by kernel_rfl)
        refine qpu 1 hs fun a hs => ?_
        obtain ⟨h_37, hm⟩ := ite_t hm
        refine qix b_13 0 1 hs h_37 fun a hs => ?_
        obtain ⟨v_39, h_38, hm⟩ := bind_t hm
        refine qli 1 hs rfl h_38 fun a hs => ?_
        refine qpk 3 [1, 2, 3, 7, 8, 64, 65, 66, 67, 68, 69, 70, 71, 72, 73, 74, 77, 78, 79, 80, 81, 82, 83, 84, 85, 86, 87, 88, 89] hs fun a hs => hK21 _ _ ?_
        refine qcs (v_39 != (-1)) hs (fun hb => ?_) fun hb => ?_
        ·replace hm := bif_t hm hb
         refine qse 1 [(6, .bool false)] hs fun a hs => ?_
         refine wp_ret ?_
         exact Vk.ret1 (P := Tryz.prog) (fn := Tryz.f108) (R := RR) (.bool false) hs rfl (by kernel_rfl) (by obtain rfl := hret16 _ ((Option.some.inj hm).symm); subst hRR; exact ⟨rfl, hs.own.f1.drop.drop⟩)
        ·replace hm := bif_f hm hb
         refine wp_skip ?_
         refine hK20 _ _ ?_
         refine Vk.region ?_
         refine qpk 3 [1, 2, 3, 7, 8, 64, 65, 66, 67, 68, 69, 70, 71, 72, 73, 74, 77, 78, 79, 80, 81, 82, 83, 84, 85, 86, 87, 88] hs fun a hs => ?_
         refine ih (IntKind.i64.wrap (q_17 + 1)) _ _ ⟨hm, hs.go [1, 2, 3, 7, 8] [0, 1] 2 (by kernel_rfl) (by kernel_rfl) (by kernel_rfl)⟩
       ·replace hm := bif_f hm hb
        replace hs := hs.known (t := 83) hb (by kernel_rfl)
        refine qpk 6 [1, 2, 3, 7, 8, 64, 65, 66, 67, 68, 69, 70, 71, 72, 73, 74, 77, 78, 79, 80, 81, 82, 83, 88, 89] hs fun a hs => hK21 _ _ ?_
        refine qcf hs ?_
        refine wp_skip ?_
        refine hK20 _ _ ?_
        refine Vk.region ?_
        refine qpk 3 [1, 2, 3, 7, 8, 64, 65, 66, 67, 68, 69, 70, 71, 72, 73, 74, 77, 78, 79, 80, 81, 82, 83, 88] hs fun a hs => ?_
        refine ih (IntKind.i64.wrap (q_17 + 1)) _ _ ⟨hm, hs.go [1, 2, 3, 7, 8] [0, 1] 2 (by kernel_rfl) (by kernel_rfl) (by kernel_rfl)⟩
    ·replace hm := bif_f hm hb
     replace hs := hs.known (t := 63) hb (by kernel_rfl)
     refine qpu 15 hs fun a hs => ?_
     refine qld 0 (ci x0.kind) hs rfl fun a hs => ?_
     refine qpu 1 hs fun a hs => ?_
     obtain ⟨v_42, h_41, hm⟩ := bind_t hm
     refine qcl (visorref17_Regs.ok _ _ _ _ h_41 _ _ (pt b_2 (blk (Tapi_Op.cells x0) 103) :: pt b_13 (blk [ci x0.a, ci x0.b, ci x0.d] 33) :: S) hs.own) hs fun w a hs => ?_
     refine qpu 2 hs fun a hs => ?_
     rcases Bool.eq_false_or_eq_true (decide (q_17 ≥ v_42)) with hb | hb
     ·replace hm := bif_t hm hb
      replace hs := hs.known (t := 83) hb (by kernel_rfl)
      refine qpu 1 hs fun a hs => ?_
      obtain ⟨h_44, hm⟩ := ite_t hm
      refine qix b_13 0 1 hs h_44 fun a hs => ?_
      obtain ⟨v_46, h_45, hm⟩ := bind_t hm
      refine qli 1 hs rfl h_45 fun a hs => ?_
      refine qpk 3 [1, 2, 3, 7, 8, 77, 78, 79, 80, 81, 82, 83, 84, 85, 86, 87, 88, 89] hs fun a hs => hK21 _ _ ?_
      refine qcs (v_46 != (-1)) hs (fun hb => ?_) fun hb => ?_
      ·replace hm := bif_t hm hb
       refine qse 1 [(6, .bool false)] hs fun a hs => ?_
       refine wp_ret ?_
       exact Vk.ret1 (P := Tryz.prog) (fn := Tryz.f108) (R := RR) (.bool false) hs rfl (by kernel_rfl) (by obtain rfl := hret16 _ ((Option.some.inj hm).symm); subst hRR; exact ⟨rfl, hs.own.f1.drop.drop⟩)
      ·replace hm := bif_f hm hb
       refine wp_skip ?_
       refine hK20 _ _ ?_
       refine Vk.region ?_
       refine qpk 3 [1, 2, 3, 7, 8, 77, 78, 79, 80, 81, 82, 83, 84, 85, 86, 87, 88] hs fun a hs => ?_
       refine ih (IntKind.i64.wrap (q_17 + 1)) _ _ ⟨hm, hs.go [1, 2, 3, 7, 8] [0, 1] 2 (by kernel_rfl) (by kernel_rfl) (by kernel_rfl)⟩
     ·replace hm := bif_f hm hb
      replace hs := hs.known (t := 83) hb (by kernel_rfl)
      refine qpk 6 [1, 2, 3, 7, 8, 77, 78, 79, 80, 81, 82, 83, 88, 89] hs fun a hs => hK21 _ _ ?_
      refine qcf hs ?_
      refine wp_skip ?_
      refine hK20 _ _ ?_
      refine Vk.region ?_
      refine qpe 3 [(1, vi x1), (2, vi x2), (3, pp b_2), (7, pp b_13), (8, vi (IntKind.i64.wrap (q_17 + 1))), (77, vi q_17), (78, pp b_2), (79, vi x0.kind), (80, vi x2), (81, vi v_42), (82, .bool (decide (q_17 ≥ v_42))), (83, .bool false), (88, .bool false)] hs fun a hs => ?_
      refine ih (IntKind.i64.wrap (q_17 + 1)) _ _ ⟨hm, hs.go [1, 2, 3, 7, 8] [0, 1] 2 (by kernel_rfl) (by kernel_rfl) (by kernel_rfl)⟩
   ·replace hm := bif_f hm hb
    refine wp_exit ?_
    exact hx16 (Option.some.inj hm).symm _ _ (hs.go [3] [0] 2 (by kernel_rfl) (by kernel_rfl) (by kernel_rfl))
 refine Vk.region ?_
 refine qpu 3 hs fun a hs => ?_
 refine qsc 11 3 hs fun a hs => ?_
 refine qpu 1 hs fun a hs => ?_
 suffices hj_6 : ∀ a, St 111 a w κ [(1, vi x1), (2, vi x2), (3, pp b_2), (9, vi x2), (10, .bool (x2 != 2)), (11, .bool (x2 != 2)), (14, .bool ((x2 != 2) && (x2 != 3))), (15, .bool ((x2 != 2) && (x2 != 3))), (19, .bool (((x2 != 2) && (x2 != 3)) || (decide (x0.kind < 1))))] (pt b_2 (blk (Tapi_Op.cells x0) 103) :: S) → wpFrom Tryz.prog _ _ 11 a w by
  rcases Bool.eq_false_or_eq_true ((x2 != 2) && (x2 != 3)) with hb | hb
  ·replace hs := hs.known (t := 15) hb (by kernel_rfl)
   refine qpu 4 hs fun a hs => ?_
   have hq := hs.pick [1, 2, 3, 9, 10, 11, 14, 15, 19] (L' := [(1, vi x1), (2, vi x2), (3, pp b_2), (9, vi x2), (10, .bool (x2 != 2)), (11, .bool (x2 != 2)), (14, .bool ((x2 != 2) && (x2 != 3))), (15, .bool true), (19, .bool true)]) (by kernel_rfl)
   exact hj_6 _ (hq.conv (by first | (rw [hb] <;> rfl) | rfl))
  ·replace hs := hs.known (t := 15) hb (by kernel_rfl)
   refine qpu 1 hs fun a hs => ?_
   refine qld 0 (ci x0.kind) hs rfl fun a hs => ?_
   refine qpu 2 hs fun a hs => ?_
   have hq := hs.pick [1, 2, 3, 9, 10, 11, 14, 15, 19] (L' := [(1, vi x1), (2, vi x2), (3, pp b_2), (9, vi x2), (10, .bool (x2 != 2)), (11, .bool (x2 != 2)), (14, .bool ((x2 != 2) && (x2 != 3))), (15, .bool false), (19, .bool (decide (x0.kind < 1)))]) (by kernel_rfl)
   exact hj_6 _ (hq.conv (by first | (rw [hb] <;> rfl) | rfl))
 intro a hs
 refine qpu 1 hs fun a hs => ?_
 suffices hj_7 : ∀ a, St 111 a w κ [(1, vi x1), (2, vi x2), (3, pp b_2), (9, vi x2), (10, .bool (x2 != 2)), (11, .bool (x2 != 2)), (14, .bool ((x2 != 2) && (x2 != 3))), (15, .bool ((x2 != 2) && (x2 != 3))), (19, .bool (((x2 != 2) && (x2 != 3)) || (decide (x0.kind < 1)))), (20, .bool (((x2 != 2) && (x2 != 3)) || (decide (x0.kind < 1)))), (24, .bool ((((x2 != 2) && (x2 != 3)) || (decide (x0.kind < 1))) || (decide (x0.kind > 12))))] (pt b_2 (blk (Tapi_Op.cells x0) 103) :: S) → wpFrom Tryz.prog _ _ 16 a w by
  rcases Bool.eq_false_or_eq_true (((x2 != 2) && (x2 != 3)) || (decide (x0.kind < 1))) with hb | hb
  ·replace hs := hs.known (t := 20) hb (by kernel_rfl)
   refine qpu 4 hs fun a hs => ?_
   have hq := hs.pick [1, 2, 3, 9, 10, 11, 14, 15, 19, 20, 24] (L' := [(1, vi x1), (2, vi x2), (3, pp b_2), (9, vi x2), (10, .bool (x2 != 2)), (11, .bool (x2 != 2)), (14, .bool ((x2 != 2) && (x2 != 3))), (15, .bool ((x2 != 2) && (x2 != 3))), (19, .bool (((x2 != 2) && (x2 != 3)) || (decide (x0.kind < 1)))), (20, .bool true), (24, .bool true)]) (by kernel_rfl)
   exact hj_7 _ (hq.conv (by first | (rw [hb] <;> rfl) | rfl))
  ·replace hs := hs.known (t := 20) hb (by kernel_rfl)
   refine qpu 1 hs fun a hs => ?_
   refine qld 0 (ci x0.kind) hs rfl fun a hs => ?_
   refine qpu 2 hs fun a hs => ?_
   have hq := hs.pick [1, 2, 3, 9, 10, 11, 14, 15, 19, 20, 24] (L' := [(1, vi x1), (2, vi x2), (3, pp b_2), (9, vi x2), (10, .bool (x2 != 2)), (11, .bool (x2 != 2)), (14, .bool ((x2 != 2) && (x2 != 3))), (15, .bool ((x2 != 2) && (x2 != 3))), (19, .bool (((x2 != 2) && (x2 != 3)) || (decide (x0.kind < 1)))), (20, .bool false), (24, .bool (decide (x0.kind > 12)))]) (by kernel_rfl)
   exact hj_7 _ (hq.conv (by first | (rw [hb] <;> rfl) | rfl))
 intro a hs
 refine qpu 1 hs fun a hs => ?_
 suffices hj_8 : ∀ a, St 111 a w κ [(1, vi x1), (2, vi x2), (3, pp b_2), (9, vi x2), (10, .bool (x2 != 2)), (11, .bool (x2 != 2)), (14, .bool ((x2 != 2) && (x2 != 3))), (15, .bool ((x2 != 2) && (x2 != 3))), (19, .bool (((x2 != 2) && (x2 != 3)) || (decide (x0.kind < 1)))), (20, .bool (((x2 != 2) && (x2 != 3)) || (decide (x0.kind < 1)))), (24, .bool ((((x2 != 2) && (x2 != 3)) || (decide (x0.kind < 1))) || (decide (x0.kind > 12)))), (25, .bool ((((x2 != 2) && (x2 != 3)) || (decide (x0.kind < 1))) || (decide (x0.kind > 12)))), (29, .bool (((((x2 != 2) && (x2 != 3)) || (decide (x0.kind < 1))) || (decide (x0.kind > 12))) || (decide (x0.dom < (-1)))))] (pt b_2 (blk (Tapi_Op.cells x0) 103) :: S) → wpFrom Tryz.prog _ _ 21 a w by
  rcases Bool.eq_false_or_eq_true ((((x2 != 2) && (x2 != 3)) || (decide (x0.kind < 1))) || (decide (x0.kind > 12))) with hb | hb
  ·replace hs := hs.known (t := 25) hb (by kernel_rfl)
   refine qpu 4 hs fun a hs => ?_
   have hq := hs.pick [1, 2, 3, 9, 10, 11, 14, 15, 19, 20, 24, 25, 29] (L' := [(1, vi x1), (2, vi x2), (3, pp b_2), (9, vi x2), (10, .bool (x2 != 2)), (11, .bool (x2 != 2)), (14, .bool ((x2 != 2) && (x2 != 3))), (15, .bool ((x2 != 2) && (x2 != 3))), (19, .bool (((x2 != 2) && (x2 != 3)) || (decide (x0.kind < 1)))), (20, .bool (((x2 != 2) && (x2 != 3)) || (decide (x0.kind < 1)))), (24, .bool ((((x2 != 2) && (x2 != 3)) || (decide (x0.kind < 1))) || (decide (x0.kind > 12)))), (25, .bool true), (29, .bool true)]) (by kernel_rfl)
   exact hj_8 _ (hq.conv (by first | (rw [hb] <;> rfl) | rfl))
  ·replace hs := hs.known (t := 25) hb (by kernel_rfl)
   refine qpu 1 hs fun a hs => ?_
   refine qld 0 (ci x0.dom) hs rfl fun a hs => ?_
   refine qpu 2 hs fun a hs => ?_
   have hq := hs.pick [1, 2, 3, 9, 10, 11, 14, 15, 19, 20, 24, 25, 29] (L' := [(1, vi x1), (2, vi x2), (3, pp b_2), (9, vi x2), (10, .bool (x2 != 2)), (11, .bool (x2 != 2)), (14, .bool ((x2 != 2) && (x2 != 3))), (15, .bool ((x2 != 2) && (x2 != 3))), (19, .bool (((x2 != 2) && (x2 != 3)) || (decide (x0.kind < 1)))), (20, .bool (((x2 != 2) && (x2 != 3)) || (decide (x0.kind < 1)))), (24, .bool ((((x2 != 2) && (x2 != 3)) || (decide (x0.kind < 1))) || (decide (x0.kind > 12)))), (25, .bool false), (29, .bool (decide (x0.dom < (-1))))]) (by kernel_rfl)
   exact hj_8 _ (hq.conv (by first | (rw [hb] <;> rfl) | rfl))
 intro a hs
 refine qpu 1 hs fun a hs => ?_
 suffices hj_9 : ∀ a, St 111 a w κ [(1, vi x1), (2, vi x2), (3, pp b_2), (9, vi x2), (10, .bool (x2 != 2)), (11, .bool (x2 != 2)), (14, .bool ((x2 != 2) && (x2 != 3))), (15, .bool ((x2 != 2) && (x2 != 3))), (19, .bool (((x2 != 2) && (x2 != 3)) || (decide (x0.kind < 1)))), (20, .bool (((x2 != 2) && (x2 != 3)) || (decide (x0.kind < 1)))), (24, .bool ((((x2 != 2) && (x2 != 3)) || (decide (x0.kind < 1))) || (decide (x0.kind > 12)))), (25, .bool ((((x2 != 2) && (x2 != 3)) || (decide (x0.kind < 1))) || (decide (x0.kind > 12)))), (29, .bool (((((x2 != 2) && (x2 != 3)) || (decide (x0.kind < 1))) || (decide (x0.kind > 12))) || (decide (x0.dom < (-1))))), (30, .bool (((((x2 != 2) && (x2 != 3)) || (decide (x0.kind < 1))) || (decide (x0.kind > 12))) || (decide (x0.dom < (-1))))), (35, .bool ((((((x2 != 2) && (x2 != 3)) || (decide (x0.kind < 1))) || (decide (x0.kind > 12))) || (decide (x0.dom < (-1)))) || (decide (x0.dom ≥ x2))))] (pt b_2 (blk (Tapi_Op.cells x0) 103) :: S) → wpFrom Tryz.prog _ _ 27 a w by
  rcases Bool.eq_false_or_eq_true (((((x2 != 2) && (x2 != 3)) || (decide (x0.kind < 1))) || (decide (x0.kind > 12))) || (decide (x0.dom < (-1)))) with hb | hb
  ·replace hs := hs.known (t := 30) hb (by kernel_rfl)
   refine qpu 5 hs fun a hs => ?_
   have hq := hs.pick [1, 2, 3, 9, 10, 11, 14, 15, 19, 20, 24, 25, 29, 30, 35] (L' := [(1, vi x1), (2, vi x2), (3, pp b_2), (9, vi x2), (10, .bool (x2 != 2)), (11, .bool (x2 != 2)), (14, .bool ((x2 != 2) && (x2 != 3))), (15, .bool ((x2 != 2) && (x2 != 3))), (19, .bool (((x2 != 2) && (x2 != 3)) || (decide (x0.kind < 1)))), (20, .bool (((x2 != 2) && (x2 != 3)) || (decide (x0.kind < 1)))), (24, .bool ((((x2 != 2) && (x2 != 3)) || (decide (x0.kind < 1))) || (decide (x0.kind > 12)))), (25, .bool ((((x2 != 2) && (x2 != 3)) || (decide (x0.kind < 1))) || (decide (x0.kind > 12)))), (29, .bool (((((x2 != 2) && (x2 != 3)) || (decide (x0.kind < 1))) || (decide (x0.kind > 12))) || (decide (x0.dom < (-1))))), (30, .bool true), (35, .bool true)]) (by kernel_rfl)
   exact hj_9 _ (hq.conv (by first | (rw [hb] <;> rfl) | rfl))
  ·replace hs := hs.known (t := 30) hb (by kernel_rfl)
   refine qpu 1 hs fun a hs => ?_
   refine qld 0 (ci x0.dom) hs rfl fun a hs => ?_
   refine qpu 3 hs fun a hs => ?_
   have hq := hs.pick [1, 2, 3, 9, 10, 11, 14, 15, 19, 20, 24, 25, 29, 30, 35] (L' := [(1, vi x1), (2, vi x2), (3, pp b_2), (9, vi x2), (10, .bool (x2 != 2)), (11, .bool (x2 != 2)), (14, .bool ((x2 != 2) && (x2 != 3))), (15, .bool ((x2 != 2) && (x2 != 3))), (19, .bool (((x2 != 2) && (x2 != 3)) || (decide (x0.kind < 1)))), (20, .bool (((x2 != 2) && (x2 != 3)) || (decide (x0.kind < 1)))), (24, .bool ((((x2 != 2) && (x2 != 3)) || (decide (x0.kind < 1))) || (decide (x0.kind > 12)))), (25, .bool ((((x2 != 2) && (x2 != 3)) || (decide (x0.kind < 1))) || (decide (x0.kind > 12)))), (29, .bool (((((x2 != 2) && (x2 != 3)) || (decide (x0.kind < 1))) || (decide (x0.kind > 12))) || (decide (x0.dom < (-1))))), (30, .bool false), (35, .bool (decide (x0.dom ≥ x2)))]) (by kernel_rfl)
   exact hj_9 _ (hq.conv (by first | (rw [hb] <;> rfl) | rfl))
 intro a hs
 refine qpu 1 hs fun a hs => ?_
 rcases Bool.eq_false_or_eq_true ((((((x2 != 2) && (x2 != 3)) || (decide (x0.kind < 1))) || (decide (x0.kind > 12))) || (decide (x0.dom < (-1)))) || (decide (x0.dom ≥ x2))) with hb | hb
 ·replace hm := bif_t hm hb
  replace hs := hs.known (t := 36) hb (by kernel_rfl)
  refine qpe 9 [(1, vi x1), (2, vi x2), (3, pp b_2), (45, .bool true)] hs fun a hs => ?_
  exact hj4 true hm _ _ (hs.go [1, 2, 3, 45] [0] 1 (by kernel_rfl) (by kernel_rfl) (by kernel_rfl))
 ·replace hm := bif_f hm hb
  replace hs := hs.known (t := 36) hb (by kernel_rfl)
  refine qpu 1 hs fun a hs => ?_
  refine qld 0 (ci x0.kind) hs rfl fun a hs => ?_
  refine qpu 2 hs fun a hs => ?_
  rcases Bool.eq_false_or_eq_true (x0.kind == 12) with hb | hb
  ·replace hm := bif_t hm hb
   replace hs := hs.known (t := 40) hb (by kernel_rfl)
   refine qpu 1 hs fun a hs => ?_
   refine qld 0 (ci x0.dom) hs rfl fun a hs => ?_
   refine qpe 3 [(1, vi x1), (2, vi x2), (3, pp b_2), (45, .bool (x0.dom != (-1)))] hs fun a hs => ?_
   exact hj4 (x0.dom != (-1)) hm _ _ (hs.go [1, 2, 3, 45] [0] 1 (by kernel_rfl) (by kernel_rfl) (by kernel_rfl))
  ·replace hm := bif_f hm hb
   replace hs := hs.known (t := 40) hb (by kernel_rfl)
   refine qpe 5 [(1, vi x1), (2, vi x2), (3, pp b_2), (45, .bool false)] hs fun a hs => ?_
   exact hj4 false hm _ _ (hs.go [1, 2, 3, 45] [0] 1 (by kernel_rfl) (by kernel_rfl) (by kernel_rfl))


def visorref19_M_Fails.j1 (k : Nat) (p_9 : Tvisorref19_M) : Option ((Int × Tvisorref19_M)) := some ((-1), p_9)
abbrev visorref19_M_Fails.R (κ : Ctx) (S : List HP) (x0 : Tvisorref19_M) (x1 : Int) (b_x0 : Nat) (r : (Int × Tvisorref19_M)) : Ending → World → Prop := fun e w' => e = .returned (vi r.1) ∧ Ow κ w' (Tvisorref19_M.own κ b_x0 r.2 :: S)
def visorref19_M_Fails.m (k : Nat) (x0 : Tvisorref19_M) (x1 : Int) : Option (Int × Tvisorref19_M) := (bif x0.e == 0 then visorref19_M_Fails.j1 k (⟨x0.n, x0.most, x0.words, x0.draws, x0.fromF, x0.skip, x0.kind, x1, x0.ops, x0.blocks, x0.val, x0.tape, x0.dry⟩ : Tvisorref19_M) else visorref19_M_Fails.j1 k x0)

set_option maxRecDepth 100000 in
set_option maxHeartbeats 4000000 in
theorem visorref19_M_Fails.ok (k : Nat) (x0 : Tvisorref19_M) (x1 : Int) (r : (Int × Tvisorref19_M)) (hm : visorref19_M_Fails.m k x0 x1 = some r) (κ : Ctx) (w : World) (S : List HP) (b_x0 : Nat) (ho : Ow κ w (Tvisorref19_M.own κ b_x0 x0 :: S)) :
  Calls Tryz.prog 110 #[pp b_x0, vi x1] w (visorref19_M_Fails.R κ S x0 x1 b_x0 r) := by
 unfold visorref19_M_Fails.m at hm
 generalize hRR : visorref19_M_Fails.R κ S x0 x1 b_x0 r = RR
 refine qen [(0, pp b_x0), (1, vi x1)] Tryz.func110 Tryz.ntmps110 ho fun a hs => ?_
 refine qse 1 [(0, pp b_x0), (1, vi x1)] hs fun a hs => ?_
 refine Vk.seq fun K2 hK2 => ?_
 have hj2 : ∀ (p_9 : Tvisorref19_M), visorref19_M_Fails.j1 k p_9 = some r → ∀ (a : Act) (w : World), St 14 a w κ [] (Tvisorref19_M.own κ b_x0 p_9 :: S) → K2 a w := by
  intro p_9 hm a w hs
  unfold visorref19_M_Fails.j1 at hm
  refine hK2 _ _ ?_
  refine qse 1 [(4, vi (-1))] hs fun a hs => ?_
  refine wp_ret ?_
  exact qr1 (vi (-1)) hs rfl hRR (by cases hm; exact ⟨rfl, hs.own⟩)
 refine qsr fun K3 hK3 => ?_
 refine qpu 3 hs fun a hs => ?_
 obtain ⟨g_4, hs⟩ := hs.unbag 0 rfl
 refine qld 0 (ci x0.e) hs rfl fun a hs => ?_
 refine qpk 1 [0, 1, 9] hs fun a hs => hK3 _ _ ?_
 clear hK3
 refine qcs (x0.e == 0) hs (fun hb => ?_) fun hb => ?_
 ·replace hm := bif_t hm hb
  refine Vk.region ?_
  refine qpu 4 hs fun a hs => ?_
  refine qst 0 7 (ci x1) hs rfl fun a w hs => ?_
  refine qpe 0 [] hs fun a hs => ?_
  replace hs := hs.bagG (l := Tvisorref19_M.parts κ b_x0 (⟨x0.n, x0.most, x0.words, x0.draws, x0.fromF, x0.skip, x0.kind, x1, x0.ops, x0.blocks, x0.val, x0.tape, x0.dry⟩ : Tvisorref19_M) g_4) (S' := S) hs.own
  replace hs := hs.toEx (Tvisorref19_M.parts κ b_x0 (⟨x0.n, x0.most, x0.words, x0.draws, x0.fromF, x0.skip, x0.kind, x1, x0.ops, x0.blocks, x0.val, x0.tape, x0.dry⟩ : Tvisorref19_M)) g_4 0 rfl
  exact hj2 (⟨x0.n, x0.most, x0.words, x0.draws, x0.fromF, x0.skip, x0.kind, x1, x0.ops, x0.blocks, x0.val, x0.tape, x0.dry⟩ : Tvisorref19_M) hm _ _ (hs.go [] [0] 1 (by kernel_rfl) (by kernel_rfl) (by kernel_rfl))
 ·replace hm := bif_f hm hb
  refine wp_skip ?_
  replace hs := hs.bagG (l := Tvisorref19_M.parts κ b_x0 x0 g_4) (S' := S) hs.own
  replace hs := hs.toEx (Tvisorref19_M.parts κ b_x0 x0) g_4 0 rfl
  exact hj2 x0 hm _ _ (hs.go [] [0] 1 (by kernel_rfl) (by kernel_rfl) (by kernel_rfl))


abbrev visorref02_T_Draw.R (κ : Ctx) (S : List HP) (x0 : Tvisorref02_T) (b_x0 : Nat) (r : (Int × Bool × Tvisorref02_T)) : Ending → World → Prop := fun e w' => e = .returned (.tuple #[vw r.1, .bool r.2.1]) ∧ Ow κ w' (Tvisorref02_T.own κ b_x0 r.2.2 :: S)
def visorref02_T_Draw.m (k : Nat) (x0 : Tvisorref02_T) : Option (Int × Bool × Tvisorref02_T) := (bif (decide (x0.free < 1)) || (((x0.l.length : Nat) : Int) == 0) then some (0, false, x0) else (if 0 ≤ (0 : Int) then (x0.l[0]?).bind fun e_12 => (if ((0 : Int) ≤ 1) ∧ 1 ≤ x0.l.length ∧ x0.l.length ≤ x0.l.length then some (e_12, true, (⟨cut x0.l (1) (x0.l.length), IntKind.i64.wrap (x0.used + 1), IntKind.i64.wrap (x0.free - 1)⟩ : Tvisorref02_T)) else none) else none))

set_option maxRecDepth 100000 in
set_option maxHeartbeats 4000000 in
theorem visorref02_T_Draw.ok (k : Nat) (x0 : Tvisorref02_T) (r : (Int × Bool × Tvisorref02_T)) (hm : visorref02_T_Draw.m k x0 = some r) (κ : Ctx) (w : World) (S : List HP) (b_x0 : Nat) (ho : Ow κ w (Tvisorref02_T.own κ b_x0 x0 :: S)) :
  Calls Tryz.prog 111 #[pp b_x0] w (visorref02_T_Draw.R κ S x0 b_x0 r) := by
 unfold visorref02_T_Draw.m at hm
 generalize hRR : visorref02_T_Draw.R κ S x0 b_x0 r = RR
 refine qen [(0, pp b_x0)] Tryz.func111 Tryz.ntmps111 ho fun a hs => ?_
 refine qse 2 [(0, pp b_x0)] hs fun a hs => ?_
 refine Vk.seq fun K2 hK2 => ?_
 refine qsr fun K3 hK3 => ?_
 refine qpu 3 hs fun a hs => ?_
 obtain ⟨g_4, hs⟩ := hs.unbag 0 rfl
 refine qld 0 (ci x0.free) hs rfl fun a hs => ?_
 refine qpu 2 hs fun a hs => ?_
 suffices hj_6 : ∀ a, St 49 a w κ [(0, pp b_x0), (5, pp b_x0), (6, pp b_x0), (7, .pointer (some ⟨b_x0, 2, none⟩)), (8, vi x0.free), (9, .bool (decide (x0.free < 1))), (10, .bool (decide (x0.free < 1))), (17, .bool ((decide (x0.free < 1)) || (((x0.l.length : Nat) : Int) == 0)))] (pt b_x0 (blk (Tvisorref02_T.obj x0 g_4.1 g_4.2) 52) :: rdp κ g_4.1 g_4.2 1 (eI .u64) x0.l :: S) → wpFrom Tryz.prog _ _ 13 a w by
  rcases Bool.eq_false_or_eq_true (decide (x0.free < 1)) with hb | hb
  ·replace hs := hs.known (t := 10) hb (by kernel_rfl)
   refine qpu 7 hs fun a hs => ?_
   have hq := hs.pick [0, 5, 6, 7, 8, 9, 10, 17] (L' := [(0, pp b_x0), (5, pp b_x0), (6, pp b_x0), (7, .pointer (some ⟨b_x0, 2, none⟩)), (8, vi x0.free), (9, .bool (decide (x0.free < 1))), (10, .bool true), (17, .bool true)]) (by kernel_rfl)
   exact hj_6 _ (hq.conv (by first | (rw [hb] <;> rfl) | rfl))
  ·replace hs := hs.known (t := 10) hb (by kernel_rfl)
   refine qpu 3 hs fun a hs => ?_
   refine qld 0 (C.slc g_4.1 x0.l.length g_4.2) hs rfl fun a hs => ?_
   refine qpu 3 hs fun a hs => ?_
   have hq := hs.pick [0, 5, 6, 7, 8, 9, 10, 17] (L' := [(0, pp b_x0), (5, pp b_x0), (6, pp b_x0), (7, .pointer (some ⟨b_x0, 2, none⟩)), (8, vi x0.free), (9, .bool (decide (x0.free < 1))), (10, .bool false), (17, .bool (((x0.l.length : Nat) : Int) == 0))]) (by kernel_rfl)
   exact hj_6 _ (hq.conv (by first | (rw [hb] <;> rfl) | rfl))
 intro a hs
 refine qpk 0 [0, 17] hs fun a hs => hK3 _ _ ?_
 clear hK3
 refine qcs ((decide (x0.free < 1)) || (((x0.l.length : Nat) : Int) == 0)) hs (fun hb => ?_) fun hb => ?_
 ·replace hm := bif_t hm hb
  refine qsk 2 [2, 3] hs fun a hs => ?_
  refine wp_ret ?_
  replace hs := hs.bagG (l := Tvisorref02_T.parts κ b_x0 x0 g_4) (S' := S) hs.own
  replace hs := hs.toEx (Tvisorref02_T.parts κ b_x0 x0) g_4 0 rfl
  exact Vk.ret2 (vw 0) (.bool false) hs rfl (by kernel_rfl) (by kernel_rfl) (hRR ▸ by cases hm; exact ⟨rfl, hs.own⟩)
 ·replace hm := bif_f hm hb
  refine wp_skip ?_
  refine hK2 _ _ ?_
  clear hK2
  refine qsr fun K8 hK8 => ?_
  refine qpu 3 hs fun a hs => ?_
  refine qld 0 (C.slc g_4.1 x0.l.length g_4.2) hs rfl fun a hs => ?_
  obtain ⟨h_9, hm⟩ := ite_t hm
  obtain ⟨e_12, h_10, hm⟩ := bind_t hm
  obtain ⟨b_13, o_14, hA_15, h_11⟩ := Sl.elem (Ow.rdSl 0 hs.own.drop rfl) h_10
  refine qva (.pointer (some ⟨b_13, o_14 + 0 * 1, none⟩)) (op := (.indexAddr 24 (.tmp 21) (.const (vi 0)))) hs (fun o ho => run_idxSlc (k := .i64) ho (cap := g_4.2) (len := x0.l.length) ((congrArg (fun A => Value.slice A (x0.l.length) (g_4.2)) hA_15) ▸ (by kernel_rfl)) (by kernel_rfl) (by kernel_rfl) (idx_ok h_9 h_10) _) fun a hs => ?_
  refine qva (vw e_12) (op := (.load 23 (.tmp 22))) hs (fun o ho => run_load1 (c := cw e_12) ho (by kernel_rfl) (by kernel_rfl) (fun w ho => h_11 w ho 0 _ rfl) _ hs.own.drop) fun a hs => ?_
  refine qpe 1 [(0, pp b_x0), (4, vw e_12)] hs fun a hs => hK8 _ _ ?_
  clear hK8
  refine qsr fun K16 hK16 => ?_
  refine qpu 4 hs fun a hs => ?_
  refine qld 0 (C.slc g_4.1 x0.l.length g_4.2) hs rfl fun a hs => ?_
  obtain ⟨h_17, hm⟩ := ite_t hm
  obtain ⟨A_18, c_19, eA_20, ec_21, hx_22⟩ := Sl.sub (Ow.rdSl 0 hs.own.drop rfl) h_17.2
  refine qva (.slice A_18 ((cut x0.l (1) (x0.l.length)).length) c_19) (op := (.slice 24 (.tmp 28) (some (.const (vi 1))) none none)) hs (fun o ho => run_sub (sz := 1) (e := 23) h_17.2 eA_20 ec_21 (Sl.le (Ow.rdSl 0 hs.own.drop rfl)) ho (by kernel_rfl) (by kernel_rfl) (by kernel_rfl) ⟨.i64, 1, by kernel_rfl, h_17.1, rfl⟩ rfl _) fun a hs => ?_
  replace hs := hs.cutRd 1 rfl h_17.2 eA_20 ec_21
  refine qpu 2 hs fun a hs => ?_
  refine qst 0 0 (C.slc A_18 ((cut x0.l (1) (x0.l.length)).length) c_19) hs rfl fun a w hs => ?_
  refine qpe 0 [(0, pp b_x0), (4, vw e_12)] hs fun a hs => hK16 _ _ ?_
  clear hK16
  refine qsr fun K23 hK23 => ?_
  refine qpu 4 hs fun a hs => ?_
  refine qld 0 (ci x0.free) hs rfl fun a hs => ?_
  refine qpu 3 hs fun a hs => ?_
  refine qst 0 2 (ci (IntKind.i64.wrap (x0.free - 1))) hs rfl fun a w hs => ?_
  refine qpe 0 [(0, pp b_x0), (4, vw e_12)] hs fun a hs => hK23 _ _ ?_
  clear hK23
  refine qsr fun K24 hK24 => ?_
  refine qpu 4 hs fun a hs => ?_
  refine qld 0 (ci x0.used) hs rfl fun a hs => ?_
  refine qpu 3 hs fun a hs => ?_
  refine qst 0 1 (ci (IntKind.i64.wrap (x0.used + 1))) hs rfl fun a w hs => ?_
  refine qpe 0 [(4, vw e_12)] hs fun a hs => hK24 _ _ ?_
  clear hK24
  refine qsk 3 [2, 3] hs fun a hs => ?_
  refine wp_ret ?_
  replace hs := hs.bagG (l := Tvisorref02_T.parts κ b_x0 (⟨cut x0.l (1) (x0.l.length), IntKind.i64.wrap (x0.used + 1), IntKind.i64.wrap (x0.free - 1)⟩ : Tvisorref02_T) (A_18, c_19)) (S' := S) hs.own
  replace hs := hs.toEx (Tvisorref02_T.parts κ b_x0 (⟨cut x0.l (1) (x0.l.length), IntKind.i64.wrap (x0.used + 1), IntKind.i64.wrap (x0.free - 1)⟩ : Tvisorref02_T)) (A_18, c_19) 0 rfl
  exact Vk.ret2 (vw e_12) (.bool true) hs rfl (by kernel_rfl) (by kernel_rfl) (hRR ▸ by cases hm; exact ⟨rfl, hs.own⟩)


abbrev visorref19_M_At.R (κ : Ctx) (S : List HP) (x0 : Tvisorref19_M) (x1 : Int) (b_x0 : Nat) (g_x0 : Option Addr × Nat × Option Addr × Nat × Option Addr × Nat × Option Addr × Nat) (r : Int) : Ending → World → Prop := fun e w' => e = .returned (vw r) ∧ Ow κ w' (bagL (Tvisorref19_M.parts κ b_x0 x0 g_x0) :: S)
def visorref19_M_At.m (k : Nat) (x0 : Tvisorref19_M) (x1 : Int) : Option Int := (bif (decide (x1 < 0)) || (decide (x1 ≥ ((x0.val.length : Nat) : Int))) then some 0 else (if 0 ≤ x1 then (x0.val[x1.toNat]?).bind fun e_14 => some e_14 else none))

set_option maxRecDepth 100000 in
set_option maxHeartbeats 4000000 in
theorem visorref19_M_At.ok (k : Nat) (x0 : Tvisorref19_M) (x1 : Int) (r : Int) (hm : visorref19_M_At.m k x0 x1 = some r) (κ : Ctx) (w : World) (S : List HP) (b_x0 : Nat) (g_x0 : Option Addr × Nat × Option Addr × Nat × Option Addr × Nat × Option Addr × Nat) (ho : Ow κ w (bagL (Tvisorref19_M.parts κ b_x0 x0 g_x0) :: S)) :
  Calls Tryz.prog 113 #[pp b_x0, vi x1] w (visorref19_M_At.R κ S x0 x1 b_x0 g_x0 r) := by
 unfold visorref19_M_At.m at hm
 generalize hRR : visorref19_M_At.R κ S x0 x1 b_x0 g_x0 r = RR
 refine qen [(0, pp b_x0), (1, vi x1)] Tryz.func113 Tryz.ntmps113 ho fun a hs => ?_
 refine qse 1 [(0, pp b_x0), (1, vi x1)] hs fun a hs => ?_
 refine Vk.seq fun K2 hK2 => ?_
 refine qsr fun K3 hK3 => ?_
 refine qpu 3 hs fun a hs => ?_
 replace hs := hs.unbagAt 0 rfl
 suffices hj_8 : ∀ a, St 23 a w κ [(0, pp b_x0), (1, vi x1), (5, vi x1), (6, .bool (decide (x1 < 0))), (7, .bool (decide (x1 < 0))), (15, .bool ((decide (x1 < 0)) || (decide (x1 ≥ ((x0.val.length : Nat) : Int)))))] (pt b_x0 (blk (Tvisorref19_M.obj x0 g_x0.1 g_x0.2.1 g_x0.2.2.1 g_x0.2.2.2.1 g_x0.2.2.2.2.1 g_x0.2.2.2.2.2.1 g_x0.2.2.2.2.2.2.1 g_x0.2.2.2.2.2.2.2) 54) :: rowp g_x0.1 g_x0.2.1 103 6 Tapi_Op.cells x0.ops :: rowp g_x0.2.2.1 g_x0.2.2.2.1 119 3 Tapi_Span.cells x0.blocks :: rowp g_x0.2.2.2.2.1 g_x0.2.2.2.2.2.1 23 1 (eI .u64) x0.val :: rdp κ g_x0.2.2.2.2.2.2.1 g_x0.2.2.2.2.2.2.2 1 (eI .u64) x0.tape.l :: S) → wpFrom Tryz.prog _ _ 11 a w by
  rcases Bool.eq_false_or_eq_true (decide (x1 < 0)) with hb | hb
  ·replace hs := hs.known (t := 7) hb (by kernel_rfl)
   refine qpu 8 hs fun a hs => ?_
   have hq := hs.pick [0, 1, 5, 6, 7, 15] (L' := [(0, pp b_x0), (1, vi x1), (5, vi x1), (6, .bool (decide (x1 < 0))), (7, .bool true), (15, .bool true)]) (by kernel_rfl)
   exact hj_8 _ (hq.conv (by first | (rw [hb] <;> rfl) | rfl))
  ·replace hs := hs.known (t := 7) hb (by kernel_rfl)
   refine qpu 4 hs fun a hs => ?_
   refine qld 0 (C.slc g_x0.2.2.2.2.1 x0.val.length g_x0.2.2.2.2.2.1) hs rfl fun a hs => ?_
   refine qpu 3 hs fun a hs => ?_
   have hq := hs.pick [0, 1, 5, 6, 7, 15] (L' := [(0, pp b_x0), (1, vi x1), (5, vi x1), (6, .bool (decide (x1 < 0))), (7, .bool false), (15, .bool (decide (x1 ≥ ((x0.val.length : Nat) : Int))))]) (by kernel_rfl)
   exact hj_8 _ (hq.conv (by first | (rw [hb] <;> rfl) | rfl))
 intro a hs
 refine qpk 0 [0, 1, 15] hs fun a hs => hK3 _ _ ?_
 clear hK3
 refine qcs ((decide (x1 < 0)) || (decide (x1 ≥ ((x0.val.length : Nat) : Int)))) hs (fun hb => ?_) fun hb => ?_
 ·replace hm := bif_t hm hb
  refine qse 1 [(4, vw 0)] hs fun a hs => ?_
  refine wp_ret ?_
  replace hs := hs.bagG (l := Tvisorref19_M.parts κ b_x0 x0 g_x0) (S' := S) hs.own
  exact qr1 (vw 0) hs rfl hRR (by cases hm; exact ⟨rfl, hs.own⟩)
 ·replace hm := bif_f hm hb
  refine wp_skip ?_
  refine hK2 _ _ ?_
  clear hK2
  refine qsr fun K10 hK10 => ?_
  refine qpu 3 hs fun a hs => ?_
  refine qld 0 (C.slc g_x0.2.2.2.2.1 x0.val.length g_x0.2.2.2.2.2.1) hs rfl fun a hs => ?_
  refine qpu 1 hs fun a hs => ?_
  obtain ⟨h_11, hm⟩ := ite_t hm
  obtain ⟨e_14, h_12, hm⟩ := bind_t hm
  obtain ⟨b_15, o_16, hA_17, h_13⟩ := Sl.elem (Ow.rowSl 0 (Ow.to (S' := rowp g_x0.2.2.2.2.1 g_x0.2.2.2.2.2.1 23 1 (eI .u64) x0.val :: S) hs.own [3] 5 (by kernel_rfl) (by kernel_rfl)) rfl) h_12
  refine qva (.pointer (some ⟨b_15, o_16 + x1.toNat * 1, none⟩)) (op := (.indexAddr 24 (.tmp 19) (.tmp 20))) hs (fun o ho => run_idxSlc (k := .i64) ho (cap := g_x0.2.2.2.2.2.1) (len := x0.val.length) ((congrArg (fun A => Value.slice A (x0.val.length) (g_x0.2.2.2.2.2.1)) hA_17) ▸ (by kernel_rfl)) (by kernel_rfl) (by kernel_rfl) (idx_ok h_11 h_12) _) fun a hs => ?_
  refine qva (vw e_14) (op := (.load 23 (.tmp 21))) hs (fun o ho => run_load1 (c := cw e_14) ho (by kernel_rfl) (by kernel_rfl) (fun w ho => h_13 w ho 0 _ rfl) _ (Ow.to (S' := rowp g_x0.2.2.2.2.1 g_x0.2.2.2.2.2.1 23 1 (eI .u64) x0.val :: S) hs.own [3] 5 (by kernel_rfl) (by kernel_rfl))) fun a hs => ?_
  refine qpe 1 [(4, vw e_14)] hs fun a hs => hK10 _ _ ?_
  clear hK10
  refine wp_ret ?_
  replace hs := hs.bagG (l := Tvisorref19_M.parts κ b_x0 x0 g_x0) (S' := S) hs.own
  exact qr1 (vw e_14) hs rfl hRR (by cases hm; exact ⟨rfl, hs.own⟩)


def visorref01_Low.l1 (x0 : Int) : Nat → Int → Int → Option (Int)
 | 0, _, _ => none
 | k + 1, q_6, q_7 => (bif (decide (q_7 < x0)) && (decide (q_7 < 64)) then visorref01_Low.l1 x0 k (IntKind.u64.wrap ((IntKind.u64.wrap (q_6 * 2)) + 1)) (IntKind.i64.wrap (q_7 + 1)) else some q_6)
abbrev visorref01_Low.R (κ : Ctx) (S : List HP) (x0 : Int) (r : Int) : Ending → World → Prop := fun e w' => e = .returned (vw r) ∧ Ow κ w' (S)
def visorref01_Low.m (k : Nat) (x0 : Int) : Option Int := (visorref01_Low.l1 x0 k 0 0).bind fun p_12 => some p_12

set_option maxRecDepth 100000 in
set_option maxHeartbeats 4000000 in
theorem visorref01_Low.ok (k : Nat) (x0 : Int) (r : Int) (hm : visorref01_Low.m k x0 = some r) (κ : Ctx) (w : World) (S : List HP) (ho : Ow κ w (S)) :
  Calls Tryz.prog 127 #[vi x0] w (visorref01_Low.R κ S x0 r) := by
 unfold visorref01_Low.m at hm
 generalize hRR : visorref01_Low.R κ S x0 r = RR
 refine qen [(0, vi x0)] Tryz.func127 Tryz.ntmps127 ho fun a hs => ?_
 refine qse 1 [(0, vi x0)] hs fun a hs => ?_
 refine qse 1 [(0, vi x0), (3, vw 0)] hs fun a hs => ?_
 refine Vk.seq fun K3 hK3 => ?_
 refine qsk 1 [0, 3, 4] hs fun a hs => ?_
 refine wp_block ?_
 obtain ⟨r5, hl5, hm⟩ := bind_t hm
 have hx5 : ∀ (p_12 : Int), r5 = p_12 → ∀ (a : Act) (w : World), St 18 a w κ [(3, vw p_12)] (S) → K3 a w := by
  intro p_12 he a w hs
  subst r5
  refine hK3 _ _ ?_
  clear hK3
  refine qse 2 [(2, vw p_12)] hs fun a hs => ?_
  refine wp_ret ?_
  exact qr1 (vw p_12) hs rfl hRR (by cases hm; exact ⟨rfl, hs.own⟩)
 refine Vk.loopBy (fun k (s : Int × Int) a w => visorref01_Low.l1 x0 k s.1 s.2 = some r5 ∧ St 18 a w κ [(0, vi x0), (3, vw s.1), (4, vi s.2)] (S)) k (0, 0) ⟨hl5, hs.go [0, 3, 4] [] 0 (by kernel_rfl) (by kernel_rfl) (by kernel_rfl)⟩ (fun s a w h => by obtain ⟨h1, _⟩ := h; simp [visorref01_Low.l1] at h1) (fun k KL5 ih s a w h => ?_)
 obtain ⟨q_6, q_7⟩ := s
 obtain ⟨hm, hs⟩ := h
 try dsimp only at hm hs
 rw [visorref01_Low.l1] at hm
 refine Vk.seq fun K8 hK8 => ?_
 refine qsr fun K9 hK9 => ?_
 refine qpu 4 hs fun a hs => ?_
 refine qsc 8 3 hs fun a hs => ?_
 refine qpk 0 [0, 3, 4, 11] hs fun a hs => hK9 _ _ ?_
 clear hK9
 refine qcs ((decide (q_7 < x0)) && (decide (q_7 < 64))) hs (fun hb => ?_) fun hb => ?_
 ·replace hm := bif_t hm hb
  refine wp_skip ?_
  refine hK8 _ _ ?_
  clear hK8
  refine Vk.seq fun K11 hK11 => ?_
  refine wp_block ?_
  refine Vk.region ?_
  refine qpk 4 [0, 3, 4] hs fun a hs => hK11 _ _ ?_
  clear hK11
  refine Vk.region ?_
  refine qpk 3 [0, 3, 4] hs fun a hs => ?_
  refine ih ((IntKind.u64.wrap ((IntKind.u64.wrap (q_6 * 2)) + 1)), (IntKind.i64.wrap (q_7 + 1))) _ _ ⟨hm, hs.go [0, 3, 4] [] 0 (by kernel_rfl) (by kernel_rfl) (by kernel_rfl)⟩
 ·replace hm := bif_f hm hb
  refine wp_exit ?_
  exact hx5 q_6 (Option.some.inj hm).symm _ _ (hs.go [3] [] 0 (by kernel_rfl) (by kernel_rfl) (by kernel_rfl))


abbrev visorref01_Mod.R (κ : Ctx) (S : List HP) (x0 : Int) (x1 : Int) (r : Int) : Ending → World → Prop := fun e w' => e = .returned (vi r) ∧ Ow κ w' (S)
def visorref01_Mod.m (k : Nat) (x0 : Int) (x1 : Int) : Option Int := (if x1 ≠ 0 then (bif decide ((Int.tmod x0 x1) < 0) then (if x1 ≠ 0 then some (IntKind.i64.wrap ((Int.tmod x0 x1) + x1)) else none) else (if x1 ≠ 0 then some (Int.tmod x0 x1) else none)) else none)

set_option maxRecDepth 100000 in
set_option maxHeartbeats 4000000 in
theorem visorref01_Mod.ok (k : Nat) (x0 : Int) (x1 : Int) (r : Int) (hm : visorref01_Mod.m k x0 x1 = some r) (κ : Ctx) (w : World) (S : List HP) (ho : Ow κ w (S)) :
  Calls Tryz.prog 138 #[vi x0, vi x1] w (visorref01_Mod.R κ S x0 x1 r) := by
 unfold visorref01_Mod.m at hm
 generalize hRR : visorref01_Mod.R κ S x0 x1 r = RR
 refine qen [(0, vi x0), (1, vi x1)] Tryz.func138 Tryz.ntmps138 ho fun a hs => ?_
 refine qse 1 [(0, vi x0), (1, vi x1)] hs fun a hs => ?_
 refine Vk.seq fun K2 hK2 => ?_
 refine qsr fun K3 hK3 => ?_
 refine qpu 2 hs fun a hs => ?_
 obtain ⟨h_4, hm⟩ := ite_t hm
 refine qva (vi (Int.tmod x0 x1)) (op := (.binOp .rem 3 (.tmp 5) (.tmp 6) 3)) hs (fun o ho => run_rem ho (by kernel_rfl) (by kernel_rfl) h_4 _) fun a hs => ?_
 refine qpk 1 [0, 1, 8] hs fun a hs => hK3 _ _ ?_
 clear hK3
 refine qcs (decide ((Int.tmod x0 x1) < 0)) hs (fun hb => ?_) fun hb => ?_
 ·replace hm := bif_t hm hb
  refine qsr fun K5 hK5 => ?_
  refine qpu 2 hs fun a hs => ?_
  obtain ⟨h_6, hm⟩ := ite_t hm
  refine qva (vi (Int.tmod x0 x1)) (op := (.binOp .rem 3 (.tmp 9) (.tmp 10) 3)) hs (fun o ho => run_rem ho (by kernel_rfl) (by kernel_rfl) h_6 _) fun a hs => ?_
  refine qpk 3 [4] hs fun a hs => hK5 _ _ ?_
  clear hK5
  refine wp_ret ?_
  exact qr1 (vi (IntKind.i64.wrap ((Int.tmod x0 x1) + x1))) hs rfl hRR (by cases hm; exact ⟨rfl, hs.own⟩)
 ·replace hm := bif_f hm hb
  refine wp_skip ?_
  refine hK2 _ _ ?_
  clear hK2
  refine qsr fun K7 hK7 => ?_
  refine qpu 2 hs fun a hs => ?_
  obtain ⟨h_8, hm⟩ := ite_t hm
  refine qva (vi (Int.tmod x0 x1)) (op := (.binOp .rem 3 (.tmp 14) (.tmp 15) 3)) hs (fun o ho => run_rem ho (by kernel_rfl) (by kernel_rfl) h_8 _) fun a hs => ?_
  refine qpk 1 [4] hs fun a hs => hK7 _ _ ?_
  clear hK7
  refine wp_ret ?_
  exact qr1 (vi (Int.tmod x0 x1)) hs rfl hRR (by cases hm; exact ⟨rfl, hs.own⟩)


def visorref01_Rot.l1 (x1 : Int) : Nat → Int → Int → Option (Int)
 | 0, _, _ => none
 | k + 1, q_5, q_6 => (visorref01_Mod.m k x1 64).bind fun v_11 => (bif decide (q_6 < v_11) then visorref01_Rot.l1 x1 k (IntKind.u64.wrap ((IntKind.u64.wrap (q_5 * 2)) + (IntKind.u64.wrap (Int.tdiv q_5 9223372036854775808)))) (IntKind.i64.wrap (q_6 + 1)) else some q_5)
abbrev visorref01_Rot.R (κ : Ctx) (S : List HP) (x0 : Int) (x1 : Int) (r : Int) : Ending → World → Prop := fun e w' => e = .returned (vw r) ∧ Ow κ w' (S)
def visorref01_Rot.m (k : Nat) (x0 : Int) (x1 : Int) : Option Int := (visorref01_Rot.l1 x1 k x0 0).bind fun p_13 => some p_13

set_option maxRecDepth 100000 in
set_option maxHeartbeats 4000000 in
theorem visorref01_Rot.ok (k : Nat) (x0 : Int) (x1 : Int) (r : Int) (hm : visorref01_Rot.m k x0 x1 = some r) (κ : Ctx) (w : World) (S : List HP) (ho : Ow κ w (S)) :
  Calls Tryz.prog 126 #[vw x0, vi x1] w (visorref01_Rot.R κ S x0 x1 r) := by
 unfold visorref01_Rot.m at hm
 generalize hRR : visorref01_Rot.R κ S x0 x1 r = RR
 refine qen [(0, vw x0), (1, vi x1)] Tryz.func126 Tryz.ntmps126 ho fun a hs => ?_
 refine qse 1 [(0, vw x0), (1, vi x1)] hs fun a hs => ?_
 refine Vk.seq fun K2 hK2 => ?_
 refine qsk 1 [0, 1, 5] hs fun a hs => ?_
 refine wp_block ?_
 obtain ⟨r4, hl4, hm⟩ := bind_t hm
 have hx4 : ∀ (p_13 : Int), r4 = p_13 → ∀ (a : Act) (w : World), St 18 a w κ [(0, vw p_13)] (S) → K2 a w := by
  intro p_13 he a w hs
  subst r4
  refine hK2 _ _ ?_
  clear hK2
  refine qse 2 [(4, vw p_13)] hs fun a hs => ?_
  refine wp_ret ?_
  exact qr1 (vw p_13) hs rfl hRR (by cases hm; exact ⟨rfl, hs.own⟩)
 refine Vk.loopBy (fun k (s : Int × Int) a w => visorref01_Rot.l1 x1 k s.1 s.2 = some r4 ∧ St 18 a w κ [(0, vw s.1), (1, vi x1), (5, vi s.2)] (S)) k (x0, 0) ⟨hl4, hs.go [0, 1, 5] [] 0 (by kernel_rfl) (by kernel_rfl) (by kernel_rfl)⟩ (fun s a w h => by obtain ⟨h1, _⟩ := h; simp [visorref01_Rot.l1] at h1) (fun k KL4 ih s a w h => ?_)
 obtain ⟨q_5, q_6⟩ := s
 obtain ⟨hm, hs⟩ := h
 try dsimp only at hm hs
 rw [visorref01_Rot.l1] at hm
 refine Vk.seq fun K7 hK7 => ?_
 refine qsr fun K8 hK8 => ?_
 refine qpu 2 hs fun a hs => ?_
 obtain ⟨v_11, h_10, hm⟩ := bind_t hm
 refine qcl (visorref01_Mod.ok _ _ _ _ h_10 _ _ (S) hs.own) hs fun w a hs => ?_
 refine qpk 1 [0, 1, 5, 9] hs fun a hs => hK8 _ _ ?_
 clear hK8
 refine qcs (decide (q_6 < v_11)) hs (fun hb => ?_) fun hb => ?_
 ·replace hm := bif_t hm hb
  refine wp_skip ?_
  refine hK7 _ _ ?_
  clear hK7
  refine Vk.seq fun K12 hK12 => ?_
  refine wp_block ?_
  refine Vk.region ?_
  refine qpk 6 [0, 1, 5] hs fun a hs => hK12 _ _ ?_
  clear hK12
  refine Vk.region ?_
  refine qpk 3 [0, 1, 5] hs fun a hs => ?_
  refine ih ((IntKind.u64.wrap ((IntKind.u64.wrap (q_5 * 2)) + (IntKind.u64.wrap (Int.tdiv q_5 9223372036854775808)))), (IntKind.i64.wrap (q_6 + 1))) _ _ ⟨hm, hs.go [0, 1, 5] [] 0 (by kernel_rfl) (by kernel_rfl) (by kernel_rfl)⟩
 ·replace hm := bif_f hm hb
  refine wp_exit ?_
  exact hx4 q_5 (Option.some.inj hm).symm _ _ (hs.go [0] [] 0 (by kernel_rfl) (by kernel_rfl) (by kernel_rfl))


def visorref17_Eval.j1 (k : Nat) (x0 : Tapi_Op) (x1 : Int) (x2 : Int) (x3 : Int) (p_12 : Bool) : Option (Int) := (bif p_12 then some x0.c else (bif x0.kind == 5 then some (bxor .u64 x1 x2) else (bif x0.kind == 6 then some (IntKind.u64.wrap (18446744073709551615 - x1)) else (bif x0.kind == 7 then some (band .u64 x1 x2) else (bif x0.kind == 8 then some (band .u64 x1 x0.c) else (bif x0.kind == 9 then (visorref01_Low.m k (IntKind.i64.wrap (64 - (IntKind.i64.wrap (Int.tmod x0.c 64))))).bind fun v_26 => (visorref01_Rot.m k (band .u64 x1 v_26) (IntKind.i64.wrap (Int.tmod x0.c 64))).bind fun v_29 => some v_29 else (bif x0.kind == 10 then (visorref01_Rot.m k x1 (IntKind.i64.wrap (64 - (IntKind.i64.wrap (Int.tmod x0.c 64))))).bind fun v_34 => (visorref01_Low.m k (IntKind.i64.wrap (64 - (IntKind.i64.wrap (Int.tmod x0.c 64))))).bind fun v_37 => some (band .u64 v_34 v_37) else (bif x0.kind == 11 then (visorref01_Rot.m k x1 (IntKind.i64.wrap (Int.tmod x0.c 64))).bind fun v_42 => some v_42 else (bif x0.kind == 12 then some (bxor .u64 (bxor .u64 x1 x2) x3) else some 0)))))))))
abbrev visorref17_Eval.R (κ : Ctx) (S : List HP) (x0 : Tapi_Op) (x1 : Int) (x2 : Int) (x3 : Int) (x4 : Int) (r : Int) : Ending → World → Prop := fun e w' => e = .returned (vw r) ∧ Ow κ w' (S)
def visorref17_Eval.m (k : Nat) (x0 : Tapi_Op) (x1 : Int) (x2 : Int) (x3 : Int) (x4 : Int) : Option Int := (bif x0.kind == 1 then some x4 else (bif x0.kind == 2 then some (bxor .u64 (bxor .u64 x4 x1) x2) else (bif x0.kind == 3 then visorref17_Eval.j1 k x0 x1 x2 x3 (x0.kind == 3) else visorref17_Eval.j1 k x0 x1 x2 x3 (x0.kind == 4))))

set_option maxRecDepth 100000 in
set_option maxHeartbeats 4000000 in
theorem visorref17_Eval.ok (k : Nat) (x0 : Tapi_Op) (x1 : Int) (x2 : Int) (x3 : Int) (x4 : Int) (r : Int) (hm : visorref17_Eval.m k x0 x1 x2 x3 x4 = some r) (κ : Ctx) (w : World) (S : List HP) (ho : Ow κ w (S)) :
  Calls Tryz.prog 112 #[.agg (vals [ci x0.kind, ci x0.dom, ci x0.a, ci x0.b, ci x0.d, cw x0.c]), vw x1, vw x2, vw x3, vw x4] w (visorref17_Eval.R κ S x0 x1 x2 x3 x4 r) := by
 unfold visorref17_Eval.m at hm
 generalize hRR : visorref17_Eval.R κ S x0 x1 x2 x3 x4 r = RR
 refine qen [(0, .agg (vals [ci x0.kind, ci x0.dom, ci x0.a, ci x0.b, ci x0.d, cw x0.c])), (1, vw x1), (2, vw x2), (3, vw x3), (4, vw x4)] Tryz.func112 Tryz.ntmps112 ho fun a hs => ?_
 refine qsr fun K1 hK1 => ?_
 refine qbx 0 103 [ci x0.kind, ci x0.dom, ci x0.a, ci x0.b, ci x0.d, cw x0.c] 5 hs fun b_2 w a hs => ?_
 refine qpk 1 [1, 2, 3, 4, 5] hs fun a hs => hK1 _ _ ?_
 clear hK1
 refine qsr fun K3 hK3 => ?_
 refine qpu 1 hs fun a hs => ?_
 refine qld 0 (cw x0.c) hs rfl fun a hs => ?_
 refine qpk 3 [1, 2, 3, 4, 5, 11] hs fun a hs => hK3 _ _ ?_
 clear hK3
 refine Vk.seq fun K4 hK4 => ?_
 refine qsr fun K5 hK5 => ?_
 refine qpu 1 hs fun a hs => ?_
 refine qld 0 (ci x0.kind) hs rfl fun a hs => ?_
 refine qpk 0 [1, 2, 3, 4, 5, 11, 17] hs fun a hs => hK5 _ _ ?_
 clear hK5
 refine wp_block ?_
 refine qsk 2 [1, 2, 3, 4, 5, 11, 17, 18] hs fun a hs => ?_
 refine qcs (x0.kind == 1) hs (fun hb => ?_) fun hb => ?_
 ·replace hm := bif_t hm hb
  refine qse 2 [(10, vw x4)] hs fun a hs => ?_
  refine wp_ret ?_
  exact qr1 (vw x4) hs rfl hRR (by cases hm; exact ⟨rfl, hs.own.drop⟩)
 ·replace hm := bif_f hm hb
  refine qsk 2 [1, 2, 3, 4, 5, 11, 17, 21] hs fun a hs => ?_
  refine qcs (x0.kind == 2) hs (fun hb => ?_) fun hb => ?_
  ·replace hm := bif_t hm hb
   refine qsk 6 [10] hs fun a hs => ?_
   refine wp_ret ?_
   exact qr1 (vw (bxor .u64 (bxor .u64 x4 x1) x2)) hs rfl hRR (by cases hm; exact ⟨rfl, hs.own.drop⟩)
  ·replace hm := bif_f hm hb
   refine Vk.seq fun K10 hK10 => ?_
   have hj10 : ∀ (p_12 : Bool), visorref17_Eval.j1 k x0 x1 x2 x3 p_12 = some r → ∀ (a : Act) (w : World), St 84 a w κ [(1, vw x1), (2, vw x2), (3, vw x3), (5, pp b_2), (11, vi (IntKind.i64.wrap (Int.tmod x0.c 64))), (17, vi x0.kind), (28, .bool p_12)] (pt b_2 (blk (Tapi_Op.cells x0) 103) :: S) → K10 a w := by
    intro p_12 hm a w hs
    unfold visorref17_Eval.j1 at hm
    refine hK10 _ _ ?_
    refine qcs (p_12) hs (fun hb => ?_) fun hb => ?_
    ·replace hm := bif_t hm hb
     refine qsr fun K13 hK13 => ?_
     refine qpu 1 hs fun a hs => ?_
     refine qld 0 (cw x0.c) hs rfl fun a hs => ?_
     refine qpe 1 [(10, vw x0.c)] hs fun a hs => hK13 _ _ ?_
     clear hK13
     refine wp_ret ?_
     exact qr1 (vw x0.c) hs rfl hRR (by cases hm; exact ⟨rfl, hs.own.drop⟩)
    ·replace hm := bif_f hm hb
     refine qsk 2 [1, 2, 3, 5, 11, 17, 33] hs fun a hs => ?_
     refine qcs (x0.kind == 5) hs (fun hb => ?_) fun hb => ?_
     ·replace hm := bif_t hm hb
      refine qsk 4 [10] hs fun a hs => ?_
      refine wp_ret ?_
      exact qr1 (vw (bxor .u64 x1 x2)) hs rfl hRR (by cases hm; exact ⟨rfl, hs.own.drop⟩)
     ·replace hm := bif_f hm hb
      refine qsk 2 [1, 2, 3, 5, 11, 17, 38] hs fun a hs => ?_
      refine qcs (x0.kind == 6) hs (fun hb => ?_) fun hb => ?_
      ·replace hm := bif_t hm hb
       refine qsk 3 [10] hs fun a hs => ?_
       refine wp_ret ?_
       exact qr1 (vw (IntKind.u64.wrap (18446744073709551615 - x1))) hs rfl hRR (by cases hm; exact ⟨rfl, hs.own.drop⟩)
      ·replace hm := bif_f hm hb
       refine qsk 2 [1, 2, 3, 5, 11, 17, 42] hs fun a hs => ?_
       refine qcs (x0.kind == 7) hs (fun hb => ?_) fun hb => ?_
       ·replace hm := bif_t hm hb
        refine qse 4 [(10, vw (band .u64 x1 x2))] hs fun a hs => ?_
        refine wp_ret ?_
        exact qr1 (vw (band .u64 x1 x2)) hs rfl hRR (by cases hm; exact ⟨rfl, hs.own.drop⟩)
       ·replace hm := bif_f hm hb
        refine qsk 2 [1, 2, 3, 5, 11, 17, 47] hs fun a hs => ?_
        refine qcs (x0.kind == 8) hs (fun hb => ?_) fun hb => ?_
        ·replace hm := bif_t hm hb
         refine qsr fun K21 hK21 => ?_
         refine qpu 2 hs fun a hs => ?_
         refine qld 0 (cw x0.c) hs rfl fun a hs => ?_
         refine qpk 2 [10] hs fun a hs => hK21 _ _ ?_
         clear hK21
         refine wp_ret ?_
         exact qr1 (vw (band .u64 x1 x0.c)) hs rfl hRR (by cases hm; exact ⟨rfl, hs.own.drop⟩)
        ·replace hm := bif_f hm hb
         refine qsk 2 [1, 2, 3, 11, 17, 53] hs fun a hs => ?_
         refine qcs (x0.kind == 9) hs (fun hb => ?_) fun hb => ?_
         ·replace hm := bif_t hm hb
          refine qsr fun K23 hK23 => ?_
          refine qpu 3 hs fun a hs => ?_
          obtain ⟨v_26, h_25, hm⟩ := bind_t hm
          refine qcl (visorref01_Low.ok _ _ _ h_25 _ _ (pt b_2 (blk (Tapi_Op.cells x0) 103) :: S) hs.own) hs fun w a hs => ?_
          refine qpu 2 hs fun a hs => ?_
          obtain ⟨v_29, h_28, hm⟩ := bind_t hm
          refine qcl (visorref01_Rot.ok _ _ _ _ h_28 _ _ (pt b_2 (blk (Tapi_Op.cells x0) 103) :: S) hs.own) hs fun w a hs => ?_
          refine qpe 1 [(10, vw v_29)] hs fun a hs => hK23 _ _ ?_
          clear hK23
          refine wp_ret ?_
          exact qr1 (vw v_29) hs rfl hRR (by cases hm; exact ⟨rfl, hs.own.drop⟩)
         ·replace hm := bif_f hm hb
          refine qsk 2 [1, 2, 3, 11, 17, 62] hs fun a hs => ?_
          refine qcs (x0.kind == 10) hs (fun hb => ?_) fun hb => ?_
          ·replace hm := bif_t hm hb
           refine qsr fun K31 hK31 => ?_
           refine qpu 3 hs fun a hs => ?_
           obtain ⟨v_34, h_33, hm⟩ := bind_t hm
           refine qcl (visorref01_Rot.ok _ _ _ _ h_33 _ _ (pt b_2 (blk (Tapi_Op.cells x0) 103) :: S) hs.own) hs fun w a hs => ?_
           refine qpu 2 hs fun a hs => ?_
           obtain ⟨v_37, h_36, hm⟩ := bind_t hm
           refine qcl (visorref01_Low.ok _ _ _ h_36 _ _ (pt b_2 (blk (Tapi_Op.cells x0) 103) :: S) hs.own) hs fun w a hs => ?_
           refine qpk 2 [10] hs fun a hs => hK31 _ _ ?_
           clear hK31
           refine wp_ret ?_
           exact qr1 (vw (band .u64 v_34 v_37)) hs rfl hRR (by cases hm; exact ⟨rfl, hs.own.drop⟩)
          ·replace hm := bif_f hm hb
           refine qsk 2 [1, 2, 3, 11, 17, 72] hs fun a hs => ?_
           refine qcs (x0.kind == 11) hs (fun hb => ?_) fun hb => ?_
           ·replace hm := bif_t hm hb
            refine qsr fun K39 hK39 => ?_
            refine qpu 2 hs fun a hs => ?_
            obtain ⟨v_42, h_41, hm⟩ := bind_t hm
            refine qcl (visorref01_Rot.ok _ _ _ _ h_41 _ _ (pt b_2 (blk (Tapi_Op.cells x0) 103) :: S) hs.own) hs fun w a hs => ?_
            refine qpe 1 [(10, vw v_42)] hs fun a hs => hK39 _ _ ?_
            clear hK39
            refine wp_ret ?_
            exact qr1 (vw v_42) hs rfl hRR (by cases hm; exact ⟨rfl, hs.own.drop⟩)
           ·replace hm := bif_f hm hb
            refine qsk 2 [1, 2, 3, 77] hs fun a hs => ?_
            refine qcs (x0.kind == 12) hs (fun hb => ?_) fun hb => ?_
            ·replace hm := bif_t hm hb
             refine qsk 6 [10] hs fun a hs => ?_
             refine wp_ret ?_
             exact qr1 (vw (bxor .u64 (bxor .u64 x1 x2) x3)) hs rfl hRR (by cases hm; exact ⟨rfl, hs.own.drop⟩)
            ·replace hm := bif_f hm hb
             refine wp_skip ?_
             refine hK4 _ _ ?_
             clear hK4
             refine qse 1 [(10, vw 0)] hs fun a hs => ?_
             refine wp_ret ?_
             exact qr1 (vw 0) hs rfl hRR (by cases hm; exact ⟨rfl, hs.own.drop⟩)
   refine qse 2 [(1, vw x1), (2, vw x2), (3, vw x3), (5, pp b_2), (11, vi (IntKind.i64.wrap (Int.tmod x0.c 64))), (17, vi x0.kind), (28, .bool (x0.kind == 3))] hs fun a hs => ?_
   refine qcs (x0.kind == 3) hs (fun hb => ?_) fun hb => ?_
   ·replace hm := bif_t hm hb
    refine wp_skip ?_
    exact hj10 (x0.kind == 3) hm _ _ (hs.go [1, 2, 3, 5, 11, 17, 28] [0] 1 (by kernel_rfl) (by kernel_rfl) (by kernel_rfl))
   ·replace hm := bif_f hm hb
    refine Vk.region ?_
    refine qpe 2 [(1, vw x1), (2, vw x2), (3, vw x3), (5, pp b_2), (11, vi (IntKind.i64.wrap (Int.tmod x0.c 64))), (17, vi x0.kind), (28, .bool (x0.kind == 4))] hs fun a hs => ?_
    exact hj10 (x0.kind == 4) hm _ _ (hs.go [1, 2, 3, 5, 11, 17, 28] [0] 1 (by kernel_rfl) (by kernel_rfl) (by kernel_rfl))

end Go.Proofs.YtflgefjocjpjaaaGreat
