/- Of each Go function that MapsTells comes to: a model in plain Lean, and that the program's call does what the model says; no condition. -/
import Derived.Test.YtflgefjocjpjaaaProg
import Derived.Test.YtflgefjocjpjaaaVgldpnmel
import Derived.Test.YtflgefjocjpjaaaMMapsTells1
namespace Go.Proofs.Ytflgefjocjpjaaa
open Go Go.Vk
set_option linter.unusedVariables false


def visorref05_Apply.j2 (k : Nat) (rec6 : Int → Int → Option (Int)) (q_8 : Int) (p_37 : Int) : Option (Int) := rec6 p_37 (IntKind.i64.wrap (q_8 + 1))
def visorref05_Apply.j1 (k : Nat) (rec15 : Bool → Int → Option (Bool)) (q_17 : Int) (p_28 : Bool) : Option (Bool) := rec15 p_28 (IntKind.i64.wrap (q_17 + 1))
def visorref05_Apply.l2 (x0 : Cells) (x1 : Int) (q_8 : Int) : Nat → Bool → Int → Option (Bool)
 | 0, _, _ => none
 | k + 1, q_16, q_17 => (bif decide (q_17 < 8) then (if x0.length = 8 then (visorref05_Bit.m k x0 q_8 q_17).bind fun v_25 => (bif v_25 then (if 0 ≤ IntKind.u64.wrap q_17 then (bif (Int.tmod (shr .u8 x1 (IntKind.u64.wrap q_17)) 2) == 1 then visorref05_Apply.j1 k (visorref05_Apply.l2 x0 x1 q_8 k) q_17 (!q_16) else visorref05_Apply.j1 k (visorref05_Apply.l2 x0 x1 q_8 k) q_17 q_16) else none) else visorref05_Apply.l2 x0 x1 q_8 k q_16 (IntKind.i64.wrap (q_17 + 1))) else none) else some q_16)
def visorref05_Apply.l1 (x0 : Cells) (x1 : Int) : Nat → Int → Int → Option (Int)
 | 0, _, _ => none
 | k + 1, q_7, q_8 => (bif decide (q_8 < 8) then (visorref05_Apply.l2 x0 x1 q_8 k false 0).bind fun p_30 => (bif p_30 then (if 0 ≤ IntKind.u64.wrap q_8 then visorref05_Apply.j2 k (visorref05_Apply.l1 x0 x1 k) q_8 (IntKind.u8.wrap (q_7 + (shl .u8 1 (IntKind.u64.wrap q_8)))) else none) else visorref05_Apply.j2 k (visorref05_Apply.l1 x0 x1 k) q_8 q_7) else some q_7)
abbrev visorref05_Apply.R (κ : Ctx) (S : List HP) (x0 : Cells) (x1 : Int) (r : Int) : Ending → World → Prop := fun e w' => e = .returned (.int .u8 r) ∧ Ow κ w' (S)
def visorref05_Apply.m (k : Nat) (x0 : Cells) (x1 : Int) : Option Int := (visorref05_Apply.l1 x0 x1 k 0 0).bind fun p_38 => some p_38

set_option maxRecDepth 100000 in
set_option maxHeartbeats 4000000 in
theorem visorref05_Apply.ok (k : Nat) (x0 : Cells) (x1 : Int) (r : Int) (hm : visorref05_Apply.m k x0 x1 = some r) (κ : Ctx) (w : World) (S : List HP) (ho : Ow κ w (S)) :
  Calls Try.prog 41 #[.agg (vals x0), .int .u8 x1] w (visorref05_Apply.R κ S x0 x1 r) := by
 unfold visorref05_Apply.m at hm
 generalize hRR : visorref05_Apply.R κ S x0 x1 r = RR
 refine qen [(0, .agg (vals x0)), (1, .int .u8 x1)] Try.func41 Try.ntmps41 ho fun a hs => ?_
 refine qsr fun K1 hK1 => ?_
 refine qbx 0 68 x0 2 hs fun b_2 w a hs => ?_
 refine qpk 1 [1, 2] hs fun a hs => hK1 _ _ ?_
 clear hK1
 refine qsk 1 [1, 2, 5] hs fun a hs => ?_
 refine Vk.seq fun K4 hK4 => ?_
 refine qsk 1 [1, 2, 5, 6] hs fun a hs => ?_
 refine wp_block ?_
 obtain ⟨r6, hl6, hm⟩ := bind_t hm
 have hx6 : ∀ (p_38 : Int), r6 = p_38 → ∀ (a : Act) (w : World), St 38 a w κ [(5, .int .u8 p_38)] (S) → K4 a w := by
  intro p_38 he a w hs
  subst r6
  refine hK4 _ _ ?_
  clear hK4
  refine qse 2 [(4, .int .u8 p_38)] hs fun a hs => ?_
  refine wp_ret ?_
  exact qr1 (.int .u8 p_38) hs rfl hRR (by cases hm; exact ⟨rfl, hs.own⟩)
 refine Vk.loopBy (fun k (s : Int × Int) a w => visorref05_Apply.l1 x0 x1 k s.1 s.2 = some r6 ∧ St 38 a w κ [(1, .int .u8 x1), (2, pp b_2), (5, .int .u8 s.1), (6, vi s.2)] (pt b_2 (blk x0 68) :: S)) k (0, 0) ⟨hl6, hs.go [1, 2, 5, 6] [0] 1 (by kernel_rfl) (by kernel_rfl) (by kernel_rfl)⟩ (fun s a w h => by obtain ⟨h1, _⟩ := h; simp [visorref05_Apply.l1] at h1) (fun k KL6 ih s a w h => ?_)
 obtain ⟨q_7, q_8⟩ := s
 obtain ⟨hm, hs⟩ := h
 try dsimp only at hm hs
 rw [visorref05_Apply.l1] at hm
 refine Vk.seq fun K9 hK9 => ?_
 refine qsk 2 [1, 2, 5, 6, 10] hs fun a hs => ?_
 refine qcs (decide (q_8 < 8)) hs (fun hb => ?_) fun hb => ?_
 ·replace hm := bif_t hm hb
  refine wp_skip ?_
  refine hK9 _ _ ?_
  clear hK9
  refine Vk.seq fun K11 hK11 => ?_
  have hj11 : ∀ (p_37 : Int), visorref05_Apply.j2 k (visorref05_Apply.l1 x0 x1 k) q_8 p_37 = some r6 → ∀ (a : Act) (w : World), St 38 a w κ [(1, .int .u8 x1), (2, pp b_2), (5, .int .u8 p_37), (6, vi q_8)] (pt b_2 (blk x0 68) :: S) → K11 a w := by
   intro p_37 hm a w hs
   unfold visorref05_Apply.j2 at hm
   refine hK11 _ _ ?_
   refine Vk.region ?_
   refine qpk 3 [1, 2, 5, 6] hs fun a hs => ?_
   refine ih (p_37, (IntKind.i64.wrap (q_8 + 1))) _ _ ⟨hm, hs.go [1, 2, 5, 6] [0] 1 (by kernel_rfl) (by kernel_rfl) (by kernel_rfl)⟩
  refine wp_block ?_
  refine qsk 1 [1, 2, 5, 6, 7] hs fun a hs => ?_
  refine Vk.seq fun K13 hK13 => ?_
  refine qsk 1 [1, 2, 5, 6, 7, 8] hs fun a hs => ?_
  refine wp_block ?_
  obtain ⟨r15, hl15, hm⟩ := bind_t hm
  have hx15 : ∀ (p_30 : Bool), r15 = p_30 → ∀ (a : Act) (w : World), St 38 a w κ [(1, .int .u8 x1), (2, pp b_2), (5, .int .u8 q_7), (6, vi q_8), (7, .bool p_30)] (pt b_2 (blk x0 68) :: S) → K13 a w := by
   intro p_30 he a w hs
   subst r15
   refine hK13 _ _ ?_
   clear hK13
   refine qsk 1 [1, 2, 5, 6, 31] hs fun a hs => ?_
   refine qcs (p_30) hs (fun hb => ?_) fun hb => ?_
   ·replace hm := bif_t hm hb
    refine Vk.region ?_
    refine qpu 3 hs fun a hs => ?_
    obtain ⟨h_36, hm⟩ := ite_t hm
    refine qva (.int .u8 (shl .u8 1 (IntKind.u64.wrap q_8))) (op := (.binOp .shl 5 (.const (.int .u8 1)) (.tmp 34) 24)) hs (fun o ho => run_shl (k' := .u64) ho (by kernel_rfl) (by kernel_rfl) h_36 _) fun a hs => ?_
    refine qpe 2 [(1, .int .u8 x1), (2, pp b_2), (5, .int .u8 (IntKind.u8.wrap (q_7 + (shl .u8 1 (IntKind.u64.wrap q_8))))), (6, vi q_8)] hs fun a hs => ?_
    exact hj11 (IntKind.u8.wrap (q_7 + (shl .u8 1 (IntKind.u64.wrap q_8)))) hm _ _ (hs.go [1, 2, 5, 6] [0] 1 (by kernel_rfl) (by kernel_rfl) (by kernel_rfl))
   ·replace hm := bif_f hm hb
    refine wp_skip ?_
    exact hj11 q_7 hm _ _ (hs.go [1, 2, 5, 6] [0] 1 (by kernel_rfl) (by kernel_rfl) (by kernel_rfl))
  refine Vk.loopBy (fun k (s : Bool × Int) a w => visorref05_Apply.l2 x0 x1 q_8 k s.1 s.2 = some r15 ∧ St 38 a w κ [(1, .int .u8 x1), (2, pp b_2), (5, .int .u8 q_7), (6, vi q_8), (7, .bool s.1), (8, vi s.2)] (pt b_2 (blk x0 68) :: S)) k (false, 0) ⟨hl15, hs.go [1, 2, 5, 6, 7, 8] [0] 1 (by kernel_rfl) (by kernel_rfl) (by kernel_rfl)⟩ (fun s a w h => by obtain ⟨h1, _⟩ := h; simp [visorref05_Apply.l2] at h1) (fun k KL15 ih s a w h => ?_)
  obtain ⟨q_16, q_17⟩ := s
  obtain ⟨hm, hs⟩ := h
  try dsimp only at hm hs
  rw [visorref05_Apply.l2] at hm
  refine Vk.seq fun K18 hK18 => ?_
  refine qsk 2 [1, 2, 5, 6, 7, 8, 14] hs fun a hs => ?_
  refine qcs (decide (q_17 < 8)) hs (fun hb => ?_) fun hb => ?_
  ·replace hm := bif_t hm hb
   refine wp_skip ?_
   refine hK18 _ _ ?_
   clear hK18
   refine Vk.seq fun K20 hK20 => ?_
   have hj29 : ∀ (p_28 : Bool), visorref05_Apply.j1 k (visorref05_Apply.l2 x0 x1 q_8 k) q_17 p_28 = some r15 → ∀ (a : Act) (w : World), St 38 a w κ [(1, .int .u8 x1), (2, pp b_2), (5, .int .u8 q_7), (6, vi q_8), (7, .bool p_28), (8, vi q_17), (22, .int .u8 x1), (23, vi q_17), (24, vw (IntKind.u64.wrap q_17)), (25, .int .u8 (shr .u8 x1 (IntKind.u64.wrap q_17))), (26, .int .u8 (Int.tmod (shr .u8 x1 (IntKind.u64.wrap q_17)) 2)), (27, .bool ((Int.tmod (shr .u8 x1 (IntKind.u64.wrap q_17)) 2) == 1))] (pt b_2 (blk x0 68) :: S) → K20 a w := by
    intro p_28 hm a w hs
    unfold visorref05_Apply.j1 at hm
    refine hK20 _ _ ?_
    refine Vk.region ?_
    refine qpk 3 [1, 2, 5, 6, 7, 8, 22, 23, 24, 25, 26, 27] hs fun a hs => ?_
    refine ih (p_28, (IntKind.i64.wrap (q_17 + 1))) _ _ ⟨hm, hs.go [1, 2, 5, 6, 7, 8] [0] 1 (by kernel_rfl) (by kernel_rfl) (by kernel_rfl)⟩
   refine wp_block ?_
   refine qsr fun K21 hK21 => ?_
   obtain ⟨h_22, hm⟩ := ite_t hm
   refine qlw 0 hs rfl h_22 fun a hs => ?_
   refine qpu 2 hs fun a hs => ?_
   obtain ⟨v_25, h_24, hm⟩ := bind_t hm
   refine qcl (visorref05_Bit.ok _ _ _ _ _ h_24 _ _ (pt b_2 (blk x0 68) :: S) hs.own) hs fun w a hs => ?_
   refine qpu 1 hs fun a hs => ?_
   rcases Bool.eq_false_or_eq_true (v_25) with hb | hb
   ·replace hm := bif_t hm hb
    replace hs := hs.known (t := 21) hb (by kernel_rfl)
    refine qpu 3 hs fun a hs => ?_
    obtain ⟨h_27, hm⟩ := ite_t hm
    refine qva (.int .u8 (shr .u8 x1 (IntKind.u64.wrap q_17))) (op := (.binOp .shr 5 (.tmp 22) (.tmp 24) 24)) hs (fun o ho => run_shr (k' := .u64) ho (by kernel_rfl) (by kernel_rfl) h_27 _) fun a hs => ?_
    refine qpk 3 [1, 2, 5, 6, 7, 8, 22, 23, 24, 25, 26, 27, 28] hs fun a hs => hK21 _ _ ?_
    refine qcs ((Int.tmod (shr .u8 x1 (IntKind.u64.wrap q_17)) 2) == 1) hs (fun hb => ?_) fun hb => ?_
    ·replace hm := bif_t hm hb
     refine Vk.region ?_
     refine qpe 3 [(1, .int .u8 x1), (2, pp b_2), (5, .int .u8 q_7), (6, vi q_8), (7, .bool (!q_16)), (8, vi q_17), (22, .int .u8 x1), (23, vi q_17), (24, vw (IntKind.u64.wrap q_17)), (25, .int .u8 (shr .u8 x1 (IntKind.u64.wrap q_17))), (26, .int .u8 (Int.tmod (shr .u8 x1 (IntKind.u64.wrap q_17)) 2)), (27, .bool ((Int.tmod (shr .u8 x1 (IntKind.u64.wrap q_17)) 2) == 1))] hs fun a hs => ?_
     exact hj29 (!q_16) hm _ _ (hs.go [1, 2, 5, 6, 7, 8, 22, 23, 24, 25, 26, 27] [0] 1 (by kernel_rfl) (by kernel_rfl) (by kernel_rfl))
    ·replace hm := bif_f hm hb
     refine wp_skip ?_
     exact hj29 q_16 hm _ _ (hs.go [1, 2, 5, 6, 7, 8, 22, 23, 24, 25, 26, 27] [0] 1 (by kernel_rfl) (by kernel_rfl) (by kernel_rfl))
   ·replace hm := bif_f hm hb
    replace hs := hs.known (t := 21) hb (by kernel_rfl)
    refine qpk 7 [1, 2, 5, 6, 7, 8, 28] hs fun a hs => hK21 _ _ ?_
    refine qcf hs ?_
    refine wp_skip ?_
    refine hK20 _ _ ?_
    refine Vk.region ?_
    refine qpk 3 [1, 2, 5, 6, 7, 8] hs fun a hs => ?_
    refine ih (q_16, (IntKind.i64.wrap (q_17 + 1))) _ _ ⟨hm, hs.go [1, 2, 5, 6, 7, 8] [0] 1 (by kernel_rfl) (by kernel_rfl) (by kernel_rfl)⟩
  ·replace hm := bif_f hm hb
   refine wp_exit ?_
   exact hx15 q_16 (Option.some.inj hm).symm _ _ (hs.go [1, 2, 5, 6, 7] [0] 1 (by kernel_rfl) (by kernel_rfl) (by kernel_rfl))
 ·replace hm := bif_f hm hb
  refine wp_exit ?_
  exact hx6 q_7 (Option.some.inj hm).symm _ _ (hs.go [5] [] 1 (by kernel_rfl) (by kernel_rfl) (by kernel_rfl))


def visorlaw34_awake.j1 (k : Nat) (p_65 : Bool) : Option (Bool) := some p_65
abbrev visorlaw34_awake.R (κ : Ctx) (S : List HP) (r : Bool) : Ending → World → Prop := fun e w' => e = .returned (.bool r) ∧ Ow κ w' (S)
def visorlaw34_awake.m (k : Nat) : Option Bool := ((visorlaw20_Begins.m k 2 ([] : List Int) 99).bind fun v => match v with | (.inl v_7) => some false | (.inr v_14) => (bif !v_14.2.2.2.2 then some false else (slice_Public.m k v_14.1 ([7, 9] : List Int)).bind fun v_33 => (if v_33.1.length = 24 then (wire_Machine_Len.m k v_33.2).bind fun v_40 => (maps_Apply.m k v_33.2 [C.int .u8 1, C.int .u8 2, C.int .u8 4, C.int .u8 8, C.int .u8 16, C.int .u8 32, C.int .u8 64, C.int .u8 128] v_33.1).bind fun v_44 => (if v_44.1.length = 24 then (maps_Apply.m k v_44.2 [C.int .u8 3, C.int .u8 0, C.int .u8 0, C.int .u8 0, C.int .u8 0, C.int .u8 0, C.int .u8 0, C.int .u8 0] v_33.1).bind fun v_50 => (if v_50.1.length = 24 then (bif v_40 == 16 then (if Kinds ((List.replicate 8 ((List.replicate 3 [LK.int .i64]).flatten)).flatten) v_33.1 then (if Kinds ((List.replicate 8 ((List.replicate 3 [LK.int .i64]).flatten)).flatten) v_44.1 then (bif ceq v_33.1 v_44.1 then (if Kinds ((List.replicate 8 ((List.replicate 3 [LK.int .i64]).flatten)).flatten) v_33.1 then (if Kinds ((List.replicate 8 ((List.replicate 3 [LK.int .i64]).flatten)).flatten) v_50.1 then (bif !(ceq v_33.1 v_50.1) then (maps_Ops.m k [C.int .u8 3, C.int .u8 0, C.int .u8 0, C.int .u8 0, C.int .u8 0, C.int .u8 0, C.int .u8 0, C.int .u8 0] 2).bind fun v_64 => visorlaw34_awake.j1 k (v_64 == 16) else visorlaw34_awake.j1 k false) else none) else none) else visorlaw34_awake.j1 k false) else none) else none) else visorlaw34_awake.j1 k false) else none) else none) else none)))

set_option maxRecDepth 100000 in
set_option maxHeartbeats 4000000 in
theorem visorlaw34_awake.ok (k : Nat) (r : Bool) (hm : visorlaw34_awake.m k = some r) (κ : Ctx) (w : World) (S : List HP) (ho : Ow κ w (S)) :
  Calls Try.prog 42 #[] w (visorlaw34_awake.R κ S r) := by
 unfold visorlaw34_awake.m at hm
 generalize hRR : visorlaw34_awake.R κ S r = RR
 refine qen [] Try.func42 Try.ntmps42 ho fun a hs => ?_
 refine qse 1 [] hs fun a hs => ?_
 refine qsr fun K2 hK2 => ?_
 replace hs := hs.addRd (A := none) (cap := 0) (sz := 1) (enc := (eI .u64)) (xs := ([] : List Int)) Sl.nil
 obtain ⟨v_6, h_5, hm⟩ := bind_t hm
 refine Vk.step (Vk.call (some 8) 18 #[vi 2, .slice none 0 0, vi 99] hs (by kernel_rfl) (by kernel_rfl) (by kernel_rfl) ?_)
 refine (visorlaw20_Begins.ok k 2 ([] : List Int) 99 v_6 h_5 κ w (S) none 0 hs.own).mono ?_
 rintro _ w (⟨v_7, rfl, br4x0x_8, Ar4x0l_9, cr4x0l_10, Ar4x0v_11, cr4x0v_12, rfl, how⟩ | ⟨v_14, rfl, br4x0m_15, br4x0x_16, Ar4x0l_17, cr4x0l_18, Ar4x0v_19, cr4x0v_20, rfl, how⟩)
 ·dsimp only at hm
  refine ⟨_, _, _, rfl, how, fun a hs => ?_⟩
  refine qpu 3 hs fun a hs => ?_
  refine qal 45 [C.ptr none, C.ptr none, C.slc none 0 0, C.slc none 0 0] 1 hs fun b_13 w a hs => ?_
  refine qsa 0 [C.ptr none, cp br4x0x_8, C.slc Ar4x0l_9 v_7.2.1.length cr4x0l_10, C.slc Ar4x0v_11 v_7.2.2.length cr4x0v_12] hs rfl fun a w hs => ?_
  refine qpk 1 [1, 2] hs fun a hs => hK2 _ _ ?_
  refine Vk.seq fun K22 hK22 => ?_
  refine qsk 2 [1, 12] hs fun a hs => ?_
  refine qct hs ?_
  refine qse 1 [(0, .bool false)] hs fun a hs => ?_
  refine wp_ret ?_
  exact qr1 (.bool false) hs rfl hRR (by cases hm; exact ⟨rfl, (hs.own.too [] 4)⟩)
 ·dsimp only at hm
  refine ⟨_, _, _, rfl, how, fun a hs => ?_⟩
  refine qpu 3 hs fun a hs => ?_
  refine qal 45 [C.ptr none, C.ptr none, C.slc none 0 0, C.slc none 0 0] 1 hs fun b_21 w a hs => ?_
  refine qsa 0 [cp br4x0m_15, cp br4x0x_16, C.slc Ar4x0l_17 v_14.2.2.1.length cr4x0l_18, C.slc Ar4x0v_19 v_14.2.2.2.1.length cr4x0v_20] hs rfl fun a w hs => ?_
  refine qpk 1 [1, 2] hs fun a hs => hK2 _ _ ?_
  refine Vk.seq fun K25 hK25 => ?_
  refine qsk 2 [1, 12] hs fun a hs => ?_
  refine qcs (!v_14.2.2.2.2) hs (fun hb => ?_) fun hb => ?_
  ·replace hm := bif_t hm hb
   refine qse 1 [(0, .bool false)] hs fun a hs => ?_
   refine wp_ret ?_
   exact qr1 (.bool false) hs rfl hRR (by cases hm; exact ⟨rfl, (hs.own.too [] 5)⟩)
  ·replace hm := bif_f hm hb
   refine wp_skip ?_
   refine hK25 _ _ ?_
   clear hK25
   refine qsr fun K28 hK28 => ?_
   refine qpu 1 hs fun a hs => ?_
   refine qld 0 (cp br4x0m_15) hs rfl fun a hs => ?_
   refine Vk.step (Vk.buildOp (sz := 1) (by_ := 1) (t := 69) (e := 5) (parts := #[(0, (.const (.int .u8 7))), (1, (.const (.int .u8 9)))]) (zs := vals [C.int .u8 0]) ([7, 9] : List Int) (eI .u8) (some 15) hs (by kernel_rfl) (by kernel_rfl) (by kernel_rfl) (by kernel_rfl) (by decide) rfl (fun x _ => rfl) (Nat.le_of_ble_eq_true (by kernel_rfl)) (by kernel_rfl) fun A_29 w a hs => ?_)
   obtain ⟨v_33, h_32, hm⟩ := bind_t hm
   refine qcl (slice_Public.ok _ _ _ _ h_32 _ _ _ br4x0m_15 A_29 2 (Sl.lift (fun w ho => (Ow.to (S' := rowp A_29 2 5 1 (eI .u8) ([7, 9] : List Int) :: S) ho [0] 5 (by kernel_rfl) (by kernel_rfl))) (Ow.rowSl 0 (Ow.to (S' := rowp A_29 2 5 1 (eI .u8) ([7, 9] : List Int) :: S) hs.own [0] 6 (by kernel_rfl) (by kernel_rfl)) rfl)) hs.own.f2) hs fun w a hs => ?_
   refine qal 71 [ci 0, ci 0, ci 0, ci 0, ci 0, ci 0, ci 0, ci 0, ci 0, ci 0, ci 0, ci 0, ci 0, ci 0, ci 0, ci 0, ci 0, ci 0, ci 0, ci 0, ci 0, ci 0, ci 0, ci 0] 3 hs fun b_34 w a hs => ?_
   obtain ⟨h_35, hm⟩ := ite_t hm
   refine qsb 0 v_33.1 hs rfl h_35 rfl fun a w hs => ?_
   refine qpe 0 [(1, pp b_21), (3, pp b_34)] hs fun a hs => hK28 _ _ ?_
   clear hK28
   refine qsr fun K36 hK36 => ?_
   refine qpu 1 hs fun a hs => ?_
   refine qld 3 (cp br4x0m_15) hs rfl fun a hs => ?_
   obtain ⟨g_37, hs⟩ := hs.unex 1 rfl
   obtain ⟨v_40, h_39, hm⟩ := bind_t hm
   refine qcl (wire_Machine_Len.ok _ _ _ h_39 _ _ _ br4x0m_15 g_37 hs.own.f1) hs fun w a hs => ?_
   refine qpk 1 [1, 3, 4] hs fun a hs => hK36 _ _ ?_
   clear hK36
   refine qsr fun K41 hK41 => ?_
   refine qpu 1 hs fun a hs => ?_
   refine qld 3 (cp br4x0m_15) hs rfl fun a hs => ?_
   refine qpu 1 hs fun a hs => ?_
   refine qlw 1 hs rfl h_35 fun a hs => ?_
   replace hs := hs.toEx (Twire_Machine.parts br4x0m_15 v_33.2) g_37 0 rfl
   obtain ⟨v_44, h_43, hm⟩ := bind_t hm
   refine qcl (maps_Apply.ok _ _ _ _ _ h_43 _ _ _ br4x0m_15 hs.own) hs fun w a hs => ?_
   refine qal 71 [ci 0, ci 0, ci 0, ci 0, ci 0, ci 0, ci 0, ci 0, ci 0, ci 0, ci 0, ci 0, ci 0, ci 0, ci 0, ci 0, ci 0, ci 0, ci 0, ci 0, ci 0, ci 0, ci 0, ci 0] 5 hs fun b_45 w a hs => ?_
   obtain ⟨h_46, hm⟩ := ite_t hm
   refine qsb 0 v_44.1 hs rfl h_46 rfl fun a w hs => ?_
   refine qpk 0 [1, 3, 4, 5] hs fun a hs => hK41 _ _ ?_
   clear hK41
   refine qsr fun K47 hK47 => ?_
   refine qpu 1 hs fun a hs => ?_
   refine qld 4 (cp br4x0m_15) hs rfl fun a hs => ?_
   refine qpu 1 hs fun a hs => ?_
   refine qlw 2 hs rfl h_35 fun a hs => ?_
   obtain ⟨v_50, h_49, hm⟩ := bind_t hm
   refine qcl (maps_Apply.ok _ _ _ _ _ h_49 _ _ _ br4x0m_15 hs.own.f1) hs fun w a hs => ?_
   refine qal 71 [ci 0, ci 0, ci 0, ci 0, ci 0, ci 0, ci 0, ci 0, ci 0, ci 0, ci 0, ci 0, ci 0, ci 0, ci 0, ci 0, ci 0, ci 0, ci 0, ci 0, ci 0, ci 0, ci 0, ci 0] 6 hs fun b_51 w a hs => ?_
   obtain ⟨h_52, hm⟩ := ite_t hm
   refine qsb 0 v_50.1 hs rfl h_52 rfl fun a w hs => ?_
   refine qpk 0 [3, 4, 5, 6] hs fun a hs => hK47 _ _ ?_
   clear hK47
   refine Vk.seq fun K53 hK53 => ?_
   have hj53 : ∀ (p_65 : Bool), visorlaw34_awake.j1 k p_65 = some r → ∀ (a : Act) (w : World), St 47 a w κ [(0, .bool p_65)] (S) → K53 a w := by
    intro p_65 hm a w hs
    unfold visorlaw34_awake.j1 at hm
    refine hK53 _ _ ?_
    refine wp_ret ?_
    exact qr1 (.bool p_65) hs rfl hRR (by cases hm; exact ⟨rfl, hs.own⟩)
   refine Vk.region ?_
   refine qpu 3 hs fun a hs => ?_
   rcases Bool.eq_false_or_eq_true (v_40 == 16) with hb | hb
   ·replace hm := bif_t hm hb
    replace hs := hs.known (t := 32) hb (by kernel_rfl)
    refine qlw 3 hs rfl h_35 fun a hs => ?_
    refine qlw 2 hs rfl h_46 fun a hs => ?_
    obtain ⟨h_56, hm⟩ := ite_t hm
    obtain ⟨h_57, hm⟩ := ite_t hm
    refine qva (.bool (ceq v_33.1 v_44.1)) (op := (.binOp .eql 71 (.tmp 33) (.tmp 34) 71)) hs (fun o ho => run_eqV (ks := (List.replicate 8 ((List.replicate 3 [LK.int .i64]).flatten)).flatten) (cs := v_33.1) (us := v_44.1) ho (by kernel_rfl) (by kernel_rfl) (by kernel_rfl) h_56 h_57 _) fun a hs => ?_
    refine qpu 2 hs fun a hs => ?_
    rcases Bool.eq_false_or_eq_true (ceq v_33.1 v_44.1) with hb | hb
    ·replace hm := bif_t hm hb
     replace hs := hs.known (t := 37) hb (by kernel_rfl)
     refine qlw 3 hs rfl h_35 fun a hs => ?_
     refine qlw 0 hs rfl h_52 fun a hs => ?_
     obtain ⟨h_60, hm⟩ := ite_t hm
     obtain ⟨h_61, hm⟩ := ite_t hm
     refine qva (.bool (!(ceq v_33.1 v_50.1))) (op := (.binOp .neq 71 (.tmp 38) (.tmp 39) 71)) hs (fun o ho => run_neqV (ks := (List.replicate 8 ((List.replicate 3 [LK.int .i64]).flatten)).flatten) (cs := v_33.1) (us := v_50.1) ho (by kernel_rfl) (by kernel_rfl) (by kernel_rfl) h_60 h_61 _) fun a hs => ?_
     refine qpu 2 hs fun a hs => ?_
     rcases Bool.eq_false_or_eq_true (!(ceq v_33.1 v_50.1)) with hb | hb
     ·replace hm := bif_t hm hb
      replace hs := hs.known (t := 42) hb (by kernel_rfl)
      refine qpu 1 hs fun a hs => ?_
      obtain ⟨v_64, h_63, hm⟩ := bind_t hm
      refine qcl (maps_Ops.ok _ _ _ _ h_63 _ _ (pt b_51 (blk v_50.1 71) :: Twire_Machine.own br4x0m_15 v_50.2 :: pt b_45 (blk v_44.1 71) :: pt b_34 (blk v_33.1 71) :: rowp A_29 2 5 1 (eI .u8) ([7, 9] : List Int) :: pt b_21 (blk [cp br4x0m_15, cp br4x0x_16, C.slc Ar4x0l_17 v_14.2.2.1.length cr4x0l_18, C.slc Ar4x0v_19 v_14.2.2.2.1.length cr4x0v_20] 45) :: Tvisorref19_M.own κ br4x0x_16 v_14.2.1 :: rowp Ar4x0l_17 cr4x0l_18 28 3 eC v_14.2.2.1 :: rowp Ar4x0v_19 cr4x0v_20 32 1 (eI .u64) v_14.2.2.2.1 :: S) hs.own) hs fun w a hs => ?_
      refine qpe 3 [(0, .bool (v_64 == 16))] hs fun a hs => ?_
      exact hj53 (v_64 == 16) hm _ _ (hs.go [0] [] 9 (by kernel_rfl) (by kernel_rfl) (by kernel_rfl))
     ·replace hm := bif_f hm hb
      replace hs := hs.known (t := 42) hb (by kernel_rfl)
      refine qpe 5 [(0, .bool false)] hs fun a hs => ?_
      exact hj53 false hm _ _ (hs.go [0] [] 9 (by kernel_rfl) (by kernel_rfl) (by kernel_rfl))
    ·replace hm := bif_f hm hb
     replace hs := hs.known (t := 37) hb (by kernel_rfl)
     refine qpe 10 [(0, .bool false)] hs fun a hs => ?_
     exact hj53 false hm _ _ (hs.go [0] [] 9 (by kernel_rfl) (by kernel_rfl) (by kernel_rfl))
   ·replace hm := bif_f hm hb
    replace hs := hs.known (t := 32) hb (by kernel_rfl)
    refine qpe 15 [(0, .bool false)] hs fun a hs => ?_
    exact hj53 false hm _ _ (hs.go [0] [] 9 (by kernel_rfl) (by kernel_rfl) (by kernel_rfl))


def visorlaw34_MapsTells.j9 (k : Nat) (rec185 : Int → Option (Sum (Bool) (Unit))) (v_164 : List Int) (v_180 : List Int) (q_186 : Int) (p_205 : Int) (p_210 : Int) : Option (Sum (Bool) (Unit)) := (if 0 ≤ q_186 then (v_164[q_186.toNat]?).bind fun e_215 => (bif e_215 != p_205 then some (.inl false) else (if 0 ≤ q_186 then (v_180[q_186.toNat]?).bind fun e_229 => (bif e_229 != p_210 then some (.inl false) else rec185 (IntKind.i64.wrap (q_186 + 1))) else none)) else none)
def visorlaw34_MapsTells.j8 (k : Nat) (rec185 : Int → Option (Sum (Bool) (Unit))) (x3 : Int) (x4 : Int) (v_164 : List Int) (v_180 : List Int) (q_186 : Int) (p_205 : Int) : Option (Sum (Bool) (Unit)) := (if 0 ≤ IntKind.u64.wrap q_186 then (bif (Int.tmod (shr .u64 x4 (IntKind.u64.wrap q_186)) 2) == 1 then visorlaw34_MapsTells.j9 k (rec185) v_164 v_180 q_186 p_205 (bxor .u8 p_205 x3) else visorlaw34_MapsTells.j9 k (rec185) v_164 v_180 q_186 p_205 p_205) else none)
def visorlaw34_MapsTells.l1 (x1 : Cells) (x3 : Int) (x4 : Int) (p_17 : List Int) (v_164 : List Int) (v_180 : List Int) : Nat → Int → Option (Sum (Bool) (Unit))
 | 0, _ => none
 | k + 1, q_186 => (bif decide (q_186 < 64) then (bif decide (q_186 < ((p_17.length : Nat) : Int)) then (if x1.length = 8 then (if 0 ≤ q_186 then (p_17[q_186.toNat]?).bind fun e_198 => (visorref05_Apply.m k x1 e_198).bind fun v_204 => visorlaw34_MapsTells.j8 k (visorlaw34_MapsTells.l1 x1 x3 x4 p_17 v_164 v_180 k) x3 x4 v_164 v_180 q_186 v_204 else none) else none) else visorlaw34_MapsTells.j8 k (visorlaw34_MapsTells.l1 x1 x3 x4 p_17 v_164 v_180 k) x3 x4 v_164 v_180 q_186 0) else some (.inr ()))
def visorlaw34_MapsTells.j7 (k : Nat) (x1 : Cells) (x3 : Int) (x4 : Int) (p_17 : List Int) (p_86 : Cells) (p_126 : Twire_Machine) (p_129 : Cells) (p_148 : Bool) : Option (Bool) := (bif p_148 then some false else (if p_86.length = 24 then (wire_Machine_Values.m k p_126).bind fun v_156 => (slice_Value.m k v_156 p_86).bind fun v_161 => (visorref33_Join.m k v_161 64).bind fun v_164 => (if p_129.length = 24 then (wire_Machine_Values.m k p_126).bind fun v_172 => (slice_Value.m k v_172 p_129).bind fun v_177 => (visorref33_Join.m k v_177 64).bind fun v_180 => (visorlaw34_MapsTells.l1 x1 x3 x4 p_17 v_164 v_180 k 0).bind fun x => match x with | .inl v => some v | .inr () => (visorlaw34_awake.m k).bind fun v_239 => some v_239 else none) else none))
def visorlaw34_MapsTells.j6 (k : Nat) (x1 : Cells) (x3 : Int) (x4 : Int) (p_17 : List Int) (v_31 : Twire_Machine × Tvisorref19_M × List Cells × List Int × Bool) (p_86 : Cells) (p_126 : Twire_Machine) (p_127 : Tvisorref19_M) (p_129 : Cells) (p_131 : Cells) : Option (Bool) := (if p_129.length = 24 then (if p_131.length = 24 then (if Kinds ((List.replicate 8 ((List.replicate 3 [LK.int .i64]).flatten)).flatten) p_129 then (if Kinds ((List.replicate 8 ((List.replicate 3 [LK.int .i64]).flatten)).flatten) p_131 then (bif !(ceq p_129 p_131) then visorlaw34_MapsTells.j7 k x1 x3 x4 p_17 p_86 p_126 p_129 true else (visorlaw20_Pair_Like.m k (⟨p_126, p_127, v_31.2.2.1, v_31.2.2.2.1⟩ : Tvisorlaw20_Pair)).bind fun v_142 => visorlaw34_MapsTells.j7 k x1 x3 x4 p_17 p_86 p_126 p_129 ((!v_142) || (p_127.e != 0))) else none) else none) else none) else none)
def visorlaw34_MapsTells.j5 (k : Nat) (x1 : Cells) (x3 : Int) (x4 : Int) (p_17 : List Int) (v_31 : Twire_Machine × Tvisorref19_M × List Cells × List Int × Bool) (p_83 : Twire_Machine) (p_84 : Tvisorref19_M) (p_86 : Cells) (p_88 : Cells) (p_110 : Bool) : Option (Bool) := (bif p_110 then some false else (if p_86.length = 24 then (if p_88.length = 24 then (maps_Mark.m k p_83 p_86 x3 x4).bind fun v_118 => (visorref34_Mark.m k p_84 p_88 x3 x4).bind fun v_121 => (if v_118.1.length = 24 then (if v_121.1.length = 24 then visorlaw34_MapsTells.j6 k x1 x3 x4 p_17 v_31 p_86 v_118.2 v_121.2 v_118.1 v_121.1 else none) else none) else none) else none))
def visorlaw34_MapsTells.j4 (k : Nat) (x1 : Cells) (x3 : Int) (x4 : Int) (p_6 : Int) (p_17 : List Int) (v_31 : Twire_Machine × Tvisorref19_M × List Cells × List Int × Bool) (v_67 : Int) (p_83 : Twire_Machine) (p_84 : Tvisorref19_M) (p_86 : Cells) (p_88 : Cells) : Option (Bool) := (if p_86.length = 24 then (if p_88.length = 24 then (if Kinds ((List.replicate 8 ((List.replicate 3 [LK.int .i64]).flatten)).flatten) p_86 then (if Kinds ((List.replicate 8 ((List.replicate 3 [LK.int .i64]).flatten)).flatten) p_88 then (bif !(ceq p_86 p_88) then visorlaw34_MapsTells.j5 k x1 x3 x4 p_17 v_31 p_83 p_84 p_86 p_88 true else (if x1.length = 8 then (wire_Machine_Len.m k p_83).bind fun v_100 => (visorref34_Ops.m k x1 p_6).bind fun v_103 => (bif (IntKind.i64.wrap (v_100 - v_67)) != v_103 then visorlaw34_MapsTells.j5 k x1 x3 x4 p_17 v_31 p_83 p_84 p_86 p_88 true else (maps_Ops.m k x1 p_6).bind fun v_106 => (visorref34_Ops.m k x1 p_6).bind fun v_109 => visorlaw34_MapsTells.j5 k x1 x3 x4 p_17 v_31 p_83 p_84 p_86 p_88 (v_106 != v_109)) else none)) else none) else none) else none) else none)
def visorlaw34_MapsTells.j3 (k : Nat) (x1 : Cells) (x3 : Int) (x4 : Int) (p_6 : Int) (p_17 : List Int) (v_31 : Twire_Machine × Tvisorref19_M × List Cells × List Int × Bool) (p_57 : Twire_Machine) (p_58 : Tvisorref19_M) (p_60 : Cells) (p_62 : Cells) : Option (Bool) := (wire_Machine_Len.m k p_57).bind fun v_67 => (if x1.length = 8 then (if p_60.length = 24 then (if p_62.length = 24 then (maps_Apply.m k p_57 x1 p_60).bind fun v_75 => (visorref34_Apply.m k p_58 x1 p_62).bind fun v_78 => (if v_75.1.length = 24 then (if v_78.1.length = 24 then visorlaw34_MapsTells.j4 k x1 x3 x4 p_6 p_17 v_31 v_67 v_75.2 v_78.2 v_75.1 v_78.1 else none) else none) else none) else none) else none)
def visorlaw34_MapsTells.j2 (k : Nat) (x1 : Cells) (x3 : Int) (x4 : Int) (p_6 : Int) (p_17 : List Int) : Option (Bool) := ((visorlaw20_Begins.m k p_6 ([] : List Int) 2000).bind fun v => match v with | (.inl v_24) => some false | (.inr v_31) => (bif !v_31.2.2.2.2 then some false else (slice_Public.m k v_31.1 p_17).bind fun v_49 => (visorref33_Const.m k v_31.2.1 3 p_17).bind fun v_52 => (if v_49.1.length = 24 then (if v_52.1.length = 24 then visorlaw34_MapsTells.j3 k x1 x3 x4 p_6 p_17 v_31 v_49.2 v_52.2 v_49.1 v_52.1 else none) else none)))
def visorlaw34_MapsTells.j1 (k : Nat) (x1 : Cells) (x2 : List Int) (x3 : Int) (x4 : Int) (p_6 : Int) : Option (Bool) := (bif decide (((x2.length : Nat) : Int) > 64) then (if ((0 : Int) ≤ 64) ∧ 0 ≤ 64 ∧ 64 ≤ x2.length then visorlaw34_MapsTells.j2 k x1 x3 x4 p_6 (cut x2 (0) (64)) else none) else visorlaw34_MapsTells.j2 k x1 x3 x4 p_6 x2)
abbrev visorlaw34_MapsTells.R (κ : Ctx) (S : List HP) (x0 : Bool) (x1 : Cells) (x2 : List Int) (x3 : Int) (x4 : Int) (A_x2 : Option Addr) (c_x2 : Nat) (r : Bool) : Ending → World → Prop := fun e w' => e = .returned (.bool r) ∧ Ow κ w' (S)
def visorlaw34_MapsTells.m (k : Nat) (x0 : Bool) (x1 : Cells) (x2 : List Int) (x3 : Int) (x4 : Int) : Option Bool := (bif x0 then visorlaw34_MapsTells.j1 k x1 x2 x3 x4 3 else visorlaw34_MapsTells.j1 k x1 x2 x3 x4 2)

set_option maxRecDepth 100000 in
set_option maxHeartbeats 4000000 in
theorem visorlaw34_MapsTells.ok (k : Nat) (x0 : Bool) (x1 : Cells) (x2 : List Int) (x3 : Int) (x4 : Int) (r : Bool) (hm : visorlaw34_MapsTells.m k x0 x1 x2 x3 x4 = some r) (κ : Ctx) (w : World) (S : List HP) (A_x2 : Option Addr) (c_x2 : Nat) (hx_x2 : Sl κ [] A_x2 c_x2 1 (eI .u8) x2) (ho : Ow κ w (S)) :
  Calls Try.prog 6 #[.bool x0, .agg (vals x1), .slice A_x2 x2.length c_x2, .int .u8 x3, vw x4] w (visorlaw34_MapsTells.R κ S x0 x1 x2 x3 x4 A_x2 c_x2 r) := by
 have ht_x2 := hx_x2
 generalize hRR : visorlaw34_MapsTells.R κ S x0 x1 x2 x3 x4 A_x2 c_x2 r = RR
 replace hx_x2 := Sl.top (S := S) hx_x2
 unfold visorlaw34_MapsTells.m at hm
 refine qen [(0, .bool x0), (1, .agg (vals x1)), (2, .slice A_x2 x2.length c_x2), (3, .int .u8 x3), (4, vw x4)] Try.func6 Try.ntmps6 ho fun a hs => ?_
 refine qsr fun K1 hK1 => ?_
 refine qbx 1 68 x1 6 hs fun b_2 w a hs => ?_
 refine qpk 1 [0, 2, 3, 4, 6] hs fun a hs => hK1 _ _ ?_
 clear hK1
 refine qsk 1 [0, 2, 3, 4, 6, 11] hs fun a hs => ?_
 refine Vk.seq fun K4 hK4 => ?_
 have hj4 : ∀ (p_6 : Int), visorlaw34_MapsTells.j1 k x1 x2 x3 x4 p_6 = some r → ∀ (a : Act) (w : World), St 162 a w κ [(2, .slice A_x2 x2.length c_x2), (3, .int .u8 x3), (4, vw x4), (6, pp b_2), (11, vi p_6)] (pt b_2 (blk x1 68) :: S) → K4 a w := by
  intro p_6 hm a w hs
  unfold visorlaw34_MapsTells.j1 at hm
  refine hK4 _ _ ?_
  refine Vk.seq fun K7 hK7 => ?_
  have hj7 : ∀ (p_17 : List Int), visorlaw34_MapsTells.j2 k x1 x3 x4 p_6 p_17 = some r → ∀ (A_15 : Option Addr) (c_16 : Nat) (hx_18 : Sl κ S A_15 c_16 1 (eI .u8) p_17) (a : Act) (w : World), St 162 a w κ [(2, .slice A_15 p_17.length c_16), (3, .int .u8 x3), (4, vw x4), (6, pp b_2), (11, vi p_6)] (pt b_2 (blk x1 68) :: S) → K7 a w := by
   intro p_17 hm A_15 c_16 hx_18 a w hs
   unfold visorlaw34_MapsTells.j2 at hm
   refine hK7 _ _ ?_
   refine qsr fun K19 hK19 => ?_
   refine qpu 1 hs fun a hs => ?_
   replace hs := hs.addRd (A := none) (cap := 0) (sz := 1) (enc := (eI .u64)) (xs := ([] : List Int)) Sl.nil
   obtain ⟨v_23, h_22, hm⟩ := bind_t hm
   refine Vk.step (Vk.call (some 34) 18 #[vi p_6, .slice none 0 0, vi 2000] hs (by kernel_rfl) (by kernel_rfl) (by kernel_rfl) ?_)
   refine (visorlaw20_Begins.ok k p_6 ([] : List Int) 2000 v_23 h_22 κ w (pt b_2 (blk x1 68) :: S) none 0 hs.own).mono ?_
   rintro _ w (⟨v_24, rfl, br21x0x_25, Ar21x0l_26, cr21x0l_27, Ar21x0v_28, cr21x0v_29, rfl, how⟩ | ⟨v_31, rfl, br21x0m_32, br21x0x_33, Ar21x0l_34, cr21x0l_35, Ar21x0v_36, cr21x0v_37, rfl, how⟩)
   ·dsimp only at hm
    refine ⟨_, _, _, rfl, how, fun a hs => ?_⟩
    refine qpu 3 hs fun a hs => ?_
    refine qal 45 [C.ptr none, C.ptr none, C.slc none 0 0, C.slc none 0 0] 12 hs fun b_30 w a hs => ?_
    refine qsa 0 [C.ptr none, cp br21x0x_25, C.slc Ar21x0l_26 v_24.2.1.length cr21x0l_27, C.slc Ar21x0v_28 v_24.2.2.length cr21x0v_29] hs rfl fun a w hs => ?_
    refine qpk 1 [2, 3, 4, 6, 11, 12, 13] hs fun a hs => hK19 _ _ ?_
    refine Vk.seq fun K39 hK39 => ?_
    refine qsk 2 [2, 3, 4, 6, 11, 12, 38] hs fun a hs => ?_
    refine qct hs ?_
    refine qse 1 [(10, .bool false)] hs fun a hs => ?_
    refine wp_ret ?_
    exact qr1 (.bool false) hs rfl hRR (by cases hm; exact ⟨rfl, (hs.own.too [] 5)⟩)
   ·dsimp only at hm
    refine ⟨_, _, _, rfl, how, fun a hs => ?_⟩
    refine qpu 3 hs fun a hs => ?_
    refine qal 45 [C.ptr none, C.ptr none, C.slc none 0 0, C.slc none 0 0] 12 hs fun b_38 w a hs => ?_
    refine qsa 0 [cp br21x0m_32, cp br21x0x_33, C.slc Ar21x0l_34 v_31.2.2.1.length cr21x0l_35, C.slc Ar21x0v_36 v_31.2.2.2.1.length cr21x0v_37] hs rfl fun a w hs => ?_
    refine qpk 1 [2, 3, 4, 6, 11, 12, 13] hs fun a hs => hK19 _ _ ?_
    refine Vk.seq fun K42 hK42 => ?_
    refine qsk 2 [2, 3, 4, 6, 11, 12, 38] hs fun a hs => ?_
    refine qcs (!v_31.2.2.2.2) hs (fun hb => ?_) fun hb => ?_
    ·replace hm := bif_t hm hb
     refine qse 1 [(10, .bool false)] hs fun a hs => ?_
     refine wp_ret ?_
     exact qr1 (.bool false) hs rfl hRR (by cases hm; exact ⟨rfl, (hs.own.too [] 6)⟩)
    ·replace hm := bif_f hm hb
     refine wp_skip ?_
     refine hK42 _ _ ?_
     clear hK42
     refine Vk.seq fun K45 hK45 => ?_
     have hj45 : ∀ (p_57 : Twire_Machine) (p_58 : Tvisorref19_M) (p_60 : Cells) (p_62 : Cells), visorlaw34_MapsTells.j3 k x1 x3 x4 p_6 p_17 v_31 p_57 p_58 p_60 p_62 = some r → ∀ (b_59 : Nat) (b_61 : Nat) (a : Act) (w : World), St 162 a w κ [(2, .slice A_15 p_17.length c_16), (3, .int .u8 x3), (4, vw x4), (6, pp b_2), (11, vi p_6), (12, pp b_38), (14, pp b_59), (15, pp b_61)] (pt b_2 (blk x1 68) :: pt b_38 (blk [cp br21x0m_32, cp br21x0x_33, C.slc Ar21x0l_34 v_31.2.2.1.length cr21x0l_35, C.slc Ar21x0v_36 v_31.2.2.2.1.length cr21x0v_37] 45) :: Twire_Machine.own br21x0m_32 p_57 :: Tvisorref19_M.own κ br21x0x_33 p_58 :: rowp Ar21x0l_34 cr21x0l_35 28 3 eC v_31.2.2.1 :: rowp Ar21x0v_36 cr21x0v_37 32 1 (eI .u64) v_31.2.2.2.1 :: pt b_59 (blk p_60 71) :: pt b_61 (blk p_62 71) :: S) → K45 a w := by
      intro p_57 p_58 p_60 p_62 hm b_59 b_61 a w hs
      unfold visorlaw34_MapsTells.j3 at hm
      refine hK45 _ _ ?_
      refine qsr fun K63 hK63 => ?_
      refine qpu 1 hs fun a hs => ?_
      refine qld 1 (cp br21x0m_32) hs rfl fun a hs => ?_
      obtain ⟨g_64, hs⟩ := hs.unex 2 rfl
      obtain ⟨v_67, h_66, hm⟩ := bind_t hm
      refine qcl (wire_Machine_Len.ok _ _ _ h_66 _ _ _ br21x0m_32 g_64 hs.own.f2) hs fun w a hs => ?_
      refine qpk 1 [2, 3, 4, 6, 11, 12, 14, 15, 16] hs fun a hs => hK63 _ _ ?_
      clear hK63
      refine Vk.seq fun K68 hK68 => ?_
      have hj68 : ∀ (p_83 : Twire_Machine) (p_84 : Tvisorref19_M) (p_86 : Cells) (p_88 : Cells), visorlaw34_MapsTells.j4 k x1 x3 x4 p_6 p_17 v_31 v_67 p_83 p_84 p_86 p_88 = some r → ∀ (b_85 : Nat) (b_87 : Nat) (a : Act) (w : World), St 162 a w κ [(2, .slice A_15 p_17.length c_16), (3, .int .u8 x3), (4, vw x4), (6, pp b_2), (11, vi p_6), (12, pp b_38), (16, vi v_67), (17, pp b_85), (18, pp b_87)] (pt b_2 (blk x1 68) :: pt b_38 (blk [cp br21x0m_32, cp br21x0x_33, C.slc Ar21x0l_34 v_31.2.2.1.length cr21x0l_35, C.slc Ar21x0v_36 v_31.2.2.2.1.length cr21x0v_37] 45) :: Twire_Machine.own br21x0m_32 p_83 :: Tvisorref19_M.own κ br21x0x_33 p_84 :: rowp Ar21x0l_34 cr21x0l_35 28 3 eC v_31.2.2.1 :: rowp Ar21x0v_36 cr21x0v_37 32 1 (eI .u64) v_31.2.2.2.1 :: pt b_85 (blk p_86 71) :: pt b_87 (blk p_88 71) :: S) → K68 a w := by
       intro p_83 p_84 p_86 p_88 hm b_85 b_87 a w hs
       unfold visorlaw34_MapsTells.j4 at hm
       refine hK68 _ _ ?_
       refine Vk.seq fun K89 hK89 => ?_
       refine Vk.seq fun K90 hK90 => ?_
       have hj90 : ∀ (p_110 : Bool), visorlaw34_MapsTells.j5 k x1 x3 x4 p_17 v_31 p_83 p_84 p_86 p_88 p_110 = some r → ∀ (a : Act) (w : World), St 162 a w κ [(2, .slice A_15 p_17.length c_16), (3, .int .u8 x3), (4, vw x4), (6, pp b_2), (12, pp b_38), (17, pp b_85), (18, pp b_87), (82, .bool p_110)] (pt b_2 (blk x1 68) :: pt b_38 (blk [cp br21x0m_32, cp br21x0x_33, C.slc Ar21x0l_34 v_31.2.2.1.length cr21x0l_35, C.slc Ar21x0v_36 v_31.2.2.2.1.length cr21x0v_37] 45) :: Twire_Machine.own br21x0m_32 p_83 :: Tvisorref19_M.own κ br21x0x_33 p_84 :: rowp Ar21x0l_34 cr21x0l_35 28 3 eC v_31.2.2.1 :: rowp Ar21x0v_36 cr21x0v_37 32 1 (eI .u64) v_31.2.2.2.1 :: pt b_85 (blk p_86 71) :: pt b_87 (blk p_88 71) :: S) → K90 a w := by
        intro p_110 hm a w hs
        unfold visorlaw34_MapsTells.j5 at hm
        refine hK90 _ _ ?_
        refine qcs (p_110) hs (fun hb => ?_) fun hb => ?_
        ·replace hm := bif_t hm hb
         refine qse 1 [(10, .bool false)] hs fun a hs => ?_
         refine wp_ret ?_
         exact qr1 (.bool false) hs rfl hRR (by cases hm; exact ⟨rfl, (hs.own.too [] 8)⟩)
        ·replace hm := bif_f hm hb
         refine wp_skip ?_
         refine hK89 _ _ ?_
         clear hK89
         refine Vk.seq fun K112 hK112 => ?_
         have hj112 : ∀ (p_126 : Twire_Machine) (p_127 : Tvisorref19_M) (p_129 : Cells) (p_131 : Cells), visorlaw34_MapsTells.j6 k x1 x3 x4 p_17 v_31 p_86 p_126 p_127 p_129 p_131 = some r → ∀ (b_128 : Nat) (b_130 : Nat) (a : Act) (w : World), St 162 a w κ [(2, .slice A_15 p_17.length c_16), (3, .int .u8 x3), (4, vw x4), (6, pp b_2), (12, pp b_38), (17, pp b_85), (19, pp b_128), (20, pp b_130)] (pt b_2 (blk x1 68) :: pt b_38 (blk [cp br21x0m_32, cp br21x0x_33, C.slc Ar21x0l_34 v_31.2.2.1.length cr21x0l_35, C.slc Ar21x0v_36 v_31.2.2.2.1.length cr21x0v_37] 45) :: Twire_Machine.own br21x0m_32 p_126 :: Tvisorref19_M.own κ br21x0x_33 p_127 :: rowp Ar21x0l_34 cr21x0l_35 28 3 eC v_31.2.2.1 :: rowp Ar21x0v_36 cr21x0v_37 32 1 (eI .u64) v_31.2.2.2.1 :: pt b_85 (blk p_86 71) :: pt b_128 (blk p_129 71) :: pt b_130 (blk p_131 71) :: S) → K112 a w := by
          intro p_126 p_127 p_129 p_131 hm b_128 b_130 a w hs
          unfold visorlaw34_MapsTells.j6 at hm
          refine hK112 _ _ ?_
          refine Vk.seq fun K132 hK132 => ?_
          refine Vk.seq fun K133 hK133 => ?_
          have hj133 : ∀ (p_148 : Bool), visorlaw34_MapsTells.j7 k x1 x3 x4 p_17 p_86 p_126 p_129 p_148 = some r → ∀ (a : Act) (w : World), St 162 a w κ [(2, .slice A_15 p_17.length c_16), (3, .int .u8 x3), (4, vw x4), (6, pp b_2), (12, pp b_38), (17, pp b_85), (19, pp b_128), (110, .bool p_148)] (pt b_2 (blk x1 68) :: pt b_38 (blk [cp br21x0m_32, cp br21x0x_33, C.slc Ar21x0l_34 v_31.2.2.1.length cr21x0l_35, C.slc Ar21x0v_36 v_31.2.2.2.1.length cr21x0v_37] 45) :: Twire_Machine.own br21x0m_32 p_126 :: Tvisorref19_M.own κ br21x0x_33 p_127 :: rowp Ar21x0l_34 cr21x0l_35 28 3 eC v_31.2.2.1 :: rowp Ar21x0v_36 cr21x0v_37 32 1 (eI .u64) v_31.2.2.2.1 :: pt b_85 (blk p_86 71) :: pt b_128 (blk p_129 71) :: S) → K133 a w := by
           intro p_148 hm a w hs
           unfold visorlaw34_MapsTells.j7 at hm
           refine hK133 _ _ ?_
           refine qcs (p_148) hs (fun hb => ?_) fun hb => ?_
           ·replace hm := bif_t hm hb
            refine qse 1 [(10, .bool false)] hs fun a hs => ?_
            refine wp_ret ?_
            exact qr1 (.bool false) hs rfl hRR (by cases hm; exact ⟨rfl, (hs.own.too [] 8)⟩)
           ·replace hm := bif_f hm hb
            refine wp_skip ?_
            refine hK132 _ _ ?_
            clear hK132
            refine Vk.seq fun K150 hK150 => ?_
            obtain ⟨C_151, hC_151⟩ := qC hs.own.f2.drop
            refine qdr 7 κ C_151 hs fun w hs hqC_151 => ?_
            have hcl := qO hC_151 hs.own.f2.drop
            refine qdp (fuel := 6) [0] hs hcl hqC_151 fun a hs => ?_
            refine qdl 1 1 (cp br21x0m_32) hs hcl hqC_151 hC_151 rfl fun a hs => ?_
            obtain ⟨h_152, hm⟩ := ite_t hm
            refine qdw 3 5 hs hcl hqC_151 hC_151 rfl h_152 fun a hs => ?_
            obtain ⟨g_153, hs⟩ := hs.unex 2 rfl
            obtain ⟨v_156, h_155, hm⟩ := bind_t hm
            refine Vk.dOnly (i := 2) (by kernel_rfl) (Vk.call (some 113) 22 #[pp br21x0m_32] hs (by kernel_rfl) (by kernel_rfl) (by kernel_rfl) ?_)
            refine (wire_Machine_Values.ok k p_126 v_156 h_155 κ w (pt b_2 (blk x1 68) :: pt b_38 (blk [cp br21x0m_32, cp br21x0x_33, C.slc Ar21x0l_34 v_31.2.2.1.length cr21x0l_35, C.slc Ar21x0v_36 v_31.2.2.2.1.length cr21x0v_37] 45) :: Tvisorref19_M.own κ br21x0x_33 p_127 :: rowp Ar21x0l_34 cr21x0l_35 28 3 eC v_31.2.2.1 :: rowp Ar21x0v_36 cr21x0v_37 32 1 (eI .u64) v_31.2.2.2.1 :: pt b_85 (blk p_86 71) :: pt b_128 (blk p_129 71) :: S) br21x0m_32 g_153 hs.own.f2).mono ?_
            rintro _ w ⟨Ar154x0_157, cr154x0_158, rfl, how⟩
            refine ⟨_, _, _, rfl, how, fun a hs => ?_⟩
            replace hcl := qO hC_151 hs.own.f1.drop.drop
            refine ⟨fun _ => hcl, ?_⟩
            obtain ⟨v_161, h_160, hm⟩ := bind_t hm
            refine qdc 4 (slice_Value.ok _ _ _ _ h_160 _ _ (rowp Ar154x0_157 cr154x0_158 32 1 (eI .u64) v_156 :: bagL (Twire_Machine.parts br21x0m_32 p_126 g_153) :: pt b_2 (blk x1 68) :: pt b_38 (blk [cp br21x0m_32, cp br21x0x_33, C.slc Ar21x0l_34 v_31.2.2.1.length cr21x0l_35, C.slc Ar21x0v_36 v_31.2.2.2.1.length cr21x0v_37] 45) :: Tvisorref19_M.own κ br21x0x_33 p_127 :: rowp Ar21x0l_34 cr21x0l_35 28 3 eC v_31.2.2.1 :: rowp Ar21x0v_36 cr21x0v_37 32 1 (eI .u64) v_31.2.2.2.1 :: pt b_85 (blk p_86 71) :: pt b_128 (blk p_129 71) :: S) Ar154x0_157 cr154x0_158 (Sl.lift (fun w ho => (Ow.to (S' := rowp Ar154x0_157 cr154x0_158 32 1 (eI .u64) v_156 :: S) ho [0] 9 (by kernel_rfl) (by kernel_rfl))) (Ow.rowSl 0 (Ow.to (S' := rowp Ar154x0_157 cr154x0_158 32 1 (eI .u64) v_156 :: S) hs.own [0] 9 (by kernel_rfl) (by kernel_rfl)) rfl)) hs.own) hs fun w a hs => ?_
            replace hcl := qO hC_151 hs.own.f1.drop.drop
            refine ⟨fun _ => hcl, ?_⟩
            obtain ⟨v_164, h_163, hm⟩ := bind_t hm
            refine Vk.dOnly (i := 5) (by kernel_rfl) (Vk.call (some 116) 39 #[.agg (vals v_161), vi 64] hs (by kernel_rfl) (by kernel_rfl) (by kernel_rfl) ?_)
            refine (visorref33_Join.ok k v_161 64 v_164 h_163 κ w (rowp Ar154x0_157 cr154x0_158 32 1 (eI .u64) v_156 :: bagL (Twire_Machine.parts br21x0m_32 p_126 g_153) :: pt b_2 (blk x1 68) :: pt b_38 (blk [cp br21x0m_32, cp br21x0x_33, C.slc Ar21x0l_34 v_31.2.2.1.length cr21x0l_35, C.slc Ar21x0v_36 v_31.2.2.2.1.length cr21x0v_37] 45) :: Tvisorref19_M.own κ br21x0x_33 p_127 :: rowp Ar21x0l_34 cr21x0l_35 28 3 eC v_31.2.2.1 :: rowp Ar21x0v_36 cr21x0v_37 32 1 (eI .u64) v_31.2.2.2.1 :: pt b_85 (blk p_86 71) :: pt b_128 (blk p_129 71) :: S) hs.own).mono ?_
            rintro _ w ⟨Ar162x0_165, cr162x0_166, rfl, how⟩
            refine ⟨_, _, _, rfl, how, fun a hs => ?_⟩
            replace hcl := qO hC_151 hs.own.f2.drop.f1.drop.drop
            refine ⟨fun _ => hcl, ?_⟩
            refine qdp (fuel := 0) [6] hs hcl hqC_151 fun a hs => ?_
            replace hs := hs.pick [2, 3, 4, 6, 12, 19, 21] (L' := [(2, .slice A_15 p_17.length c_16), (3, .int .u8 x3), (4, vw x4), (6, pp b_2), (12, pp b_38), (19, pp b_128), (21, .slice Ar162x0_165 v_164.length cr162x0_166)]) (by kernel_rfl)
            refine Vk.dDone (by kernel_rfl) ?_
            refine hK150 _ _ ?_
            clear hK150
            refine Vk.seq fun K167 hK167 => ?_
            obtain ⟨C_168, hC_168⟩ := qC hs.own
            refine qdr 7 κ C_168 hs fun w hs hqC_168 => ?_
            have hcl := qO hC_168 hs.own
            refine qdp (fuel := 6) [0] hs hcl hqC_168 fun a hs => ?_
            refine qdl 1 4 (cp br21x0m_32) hs hcl hqC_168 hC_168 rfl fun a hs => ?_
            obtain ⟨h_169, hm⟩ := ite_t hm
            refine qdw 3 9 hs hcl hqC_168 hC_168 rfl h_169 fun a hs => ?_
            obtain ⟨v_172, h_171, hm⟩ := bind_t hm
            refine Vk.dOnly (i := 2) (by kernel_rfl) (Vk.call (some 119) 22 #[pp br21x0m_32] hs (by kernel_rfl) (by kernel_rfl) (by kernel_rfl) ?_)
            refine (wire_Machine_Values.ok k p_126 v_172 h_171 κ w (rowp Ar162x0_165 cr162x0_166 5 1 (eI .u8) v_164 :: rowp Ar154x0_157 cr154x0_158 32 1 (eI .u64) v_156 :: pt b_2 (blk x1 68) :: pt b_38 (blk [cp br21x0m_32, cp br21x0x_33, C.slc Ar21x0l_34 v_31.2.2.1.length cr21x0l_35, C.slc Ar21x0v_36 v_31.2.2.2.1.length cr21x0v_37] 45) :: Tvisorref19_M.own κ br21x0x_33 p_127 :: rowp Ar21x0l_34 cr21x0l_35 28 3 eC v_31.2.2.1 :: rowp Ar21x0v_36 cr21x0v_37 32 1 (eI .u64) v_31.2.2.2.1 :: pt b_85 (blk p_86 71) :: pt b_128 (blk p_129 71) :: S) br21x0m_32 g_153 hs.own.f2).mono ?_
            rintro _ w ⟨Ar170x0_173, cr170x0_174, rfl, how⟩
            refine ⟨_, _, _, rfl, how, fun a hs => ?_⟩
            replace hcl := qO hC_168 hs.own.drop.f2.f2
            refine ⟨fun _ => hcl, ?_⟩
            obtain ⟨v_177, h_176, hm⟩ := bind_t hm
            refine qdc 4 (slice_Value.ok _ _ _ _ h_176 _ _ (rowp Ar170x0_173 cr170x0_174 32 1 (eI .u64) v_172 :: bagL (Twire_Machine.parts br21x0m_32 p_126 g_153) :: rowp Ar162x0_165 cr162x0_166 5 1 (eI .u8) v_164 :: rowp Ar154x0_157 cr154x0_158 32 1 (eI .u64) v_156 :: pt b_2 (blk x1 68) :: pt b_38 (blk [cp br21x0m_32, cp br21x0x_33, C.slc Ar21x0l_34 v_31.2.2.1.length cr21x0l_35, C.slc Ar21x0v_36 v_31.2.2.2.1.length cr21x0v_37] 45) :: Tvisorref19_M.own κ br21x0x_33 p_127 :: rowp Ar21x0l_34 cr21x0l_35 28 3 eC v_31.2.2.1 :: rowp Ar21x0v_36 cr21x0v_37 32 1 (eI .u64) v_31.2.2.2.1 :: pt b_85 (blk p_86 71) :: pt b_128 (blk p_129 71) :: S) Ar170x0_173 cr170x0_174 (Sl.lift (fun w ho => (Ow.to (S' := rowp Ar170x0_173 cr170x0_174 32 1 (eI .u64) v_172 :: S) ho [0] 11 (by kernel_rfl) (by kernel_rfl))) (Ow.rowSl 0 (Ow.to (S' := rowp Ar170x0_173 cr170x0_174 32 1 (eI .u64) v_172 :: S) hs.own [0] 11 (by kernel_rfl) (by kernel_rfl)) rfl)) hs.own) hs fun w a hs => ?_
            replace hcl := qO hC_168 hs.own.drop.f2.f2
            refine ⟨fun _ => hcl, ?_⟩
            obtain ⟨v_180, h_179, hm⟩ := bind_t hm
            refine Vk.dOnly (i := 5) (by kernel_rfl) (Vk.call (some 122) 39 #[.agg (vals v_177), vi 64] hs (by kernel_rfl) (by kernel_rfl) (by kernel_rfl) ?_)
            refine (visorref33_Join.ok k v_177 64 v_180 h_179 κ w (rowp Ar170x0_173 cr170x0_174 32 1 (eI .u64) v_172 :: bagL (Twire_Machine.parts br21x0m_32 p_126 g_153) :: rowp Ar162x0_165 cr162x0_166 5 1 (eI .u8) v_164 :: rowp Ar154x0_157 cr154x0_158 32 1 (eI .u64) v_156 :: pt b_2 (blk x1 68) :: pt b_38 (blk [cp br21x0m_32, cp br21x0x_33, C.slc Ar21x0l_34 v_31.2.2.1.length cr21x0l_35, C.slc Ar21x0v_36 v_31.2.2.2.1.length cr21x0v_37] 45) :: Tvisorref19_M.own κ br21x0x_33 p_127 :: rowp Ar21x0l_34 cr21x0l_35 28 3 eC v_31.2.2.1 :: rowp Ar21x0v_36 cr21x0v_37 32 1 (eI .u64) v_31.2.2.2.1 :: pt b_85 (blk p_86 71) :: pt b_128 (blk p_129 71) :: S) hs.own).mono ?_
            rintro _ w ⟨Ar178x0_181, cr178x0_182, rfl, how⟩
            refine ⟨_, _, _, rfl, how, fun a hs => ?_⟩
            replace hcl := qO hC_168 hs.own.f1.drop.drop.f2.f2
            refine ⟨fun _ => hcl, ?_⟩
            refine qdp (fuel := 0) [6] hs hcl hqC_168 fun a hs => ?_
            replace hs := hs.pick [2, 3, 4, 6, 21, 22] (L' := [(2, .slice A_15 p_17.length c_16), (3, .int .u8 x3), (4, vw x4), (6, pp b_2), (21, .slice Ar162x0_165 v_164.length cr162x0_166), (22, .slice Ar178x0_181 v_180.length cr178x0_182)]) (by kernel_rfl)
            refine Vk.dDone (by kernel_rfl) ?_
            refine hK167 _ _ ?_
            clear hK167
            refine Vk.seq fun K183 hK183 => ?_
            refine qsk 1 [2, 3, 4, 6, 21, 22, 23] hs fun a hs => ?_
            refine wp_block ?_
            replace hs := hs.toEx (Twire_Machine.parts br21x0m_32 p_126) g_153 2 rfl
            obtain ⟨r185, hl185, hm⟩ := bind_t hm
            have hx185 : r185 = Sum.inr () → ∀ (a : Act) (w : World), St 162 a w κ [] (S) → K183 a w := by
             intro he a w hs
             subst r185
             refine hK183 _ _ ?_
             clear hK183
             refine qsr fun K236 hK236 => ?_
             obtain ⟨v_239, h_238, hm⟩ := bind_t hm
             refine qcl (visorlaw34_awake.ok _ _ h_238 _ _ (S) hs.own) hs fun w a hs => ?_
             refine qpe 1 [(10, .bool v_239)] hs fun a hs => hK236 _ _ ?_
             clear hK236
             refine wp_ret ?_
             exact qr1 (.bool v_239) hs rfl hRR (by cases hm; exact ⟨rfl, hs.own⟩)
            have hret185 : ∀ v, r185 = Sum.inl v → v = r := by intro v he; subst r185; exact Option.some.inj hm
            refine Vk.loopBy (fun k (s : Int) a w => visorlaw34_MapsTells.l1 x1 x3 x4 p_17 v_164 v_180 k s = some r185 ∧ St 162 a w κ [(2, .slice A_15 p_17.length c_16), (3, .int .u8 x3), (4, vw x4), (6, pp b_2), (21, .slice Ar162x0_165 v_164.length cr162x0_166), (22, .slice Ar178x0_181 v_180.length cr178x0_182), (23, vi s)] (pt b_2 (blk x1 68) :: rowp Ar162x0_165 cr162x0_166 5 1 (eI .u8) v_164 :: rowp Ar178x0_181 cr178x0_182 5 1 (eI .u8) v_180 :: S)) k 0 ⟨hl185, hs.go [2, 3, 4, 6, 21, 22, 23] [5, 3, 0] 12 (by kernel_rfl) (by kernel_rfl) (by kernel_rfl)⟩ (fun s a w h => by obtain ⟨h1, _⟩ := h; simp [visorlaw34_MapsTells.l1] at h1) (fun k KL185 ih q_186 a w h => ?_)
            obtain ⟨hm, hs⟩ := h
            try dsimp only at hm hs
            rw [visorlaw34_MapsTells.l1] at hm
            refine Vk.seq fun K187 hK187 => ?_
            refine qsk 2 [2, 3, 4, 6, 21, 22, 23, 124] hs fun a hs => ?_
            refine qcs (decide (q_186 < 64)) hs (fun hb => ?_) fun hb => ?_
            ·replace hm := bif_t hm hb
             refine wp_skip ?_
             refine hK187 _ _ ?_
             clear hK187
             refine Vk.seq fun K189 hK189 => ?_
             refine wp_block ?_
             refine qsk 1 [2, 3, 4, 6, 21, 22, 23, 24] hs fun a hs => ?_
             refine Vk.seq fun K191 hK191 => ?_
             have hj191 : ∀ (p_205 : Int), visorlaw34_MapsTells.j8 k (visorlaw34_MapsTells.l1 x1 x3 x4 p_17 v_164 v_180 k) x3 x4 v_164 v_180 q_186 p_205 = some r185 → ∀ (a : Act) (w : World), St 162 a w κ [(2, .slice A_15 p_17.length c_16), (3, .int .u8 x3), (4, vw x4), (6, pp b_2), (21, .slice Ar162x0_165 v_164.length cr162x0_166), (22, .slice Ar178x0_181 v_180.length cr178x0_182), (23, vi q_186), (24, .int .u8 p_205)] (pt b_2 (blk x1 68) :: rowp Ar162x0_165 cr162x0_166 5 1 (eI .u8) v_164 :: rowp Ar178x0_181 cr178x0_182 5 1 (eI .u8) v_180 :: S) → K191 a w := by
              intro p_205 hm a w hs
              unfold visorlaw34_MapsTells.j8 at hm
              refine hK191 _ _ ?_
              refine qsk 2 [2, 3, 4, 6, 21, 22, 23, 24, 25] hs fun a hs => ?_
              refine Vk.seq fun K207 hK207 => ?_
              have hj207 : ∀ (p_210 : Int), visorlaw34_MapsTells.j9 k (visorlaw34_MapsTells.l1 x1 x3 x4 p_17 v_164 v_180 k) v_164 v_180 q_186 p_205 p_210 = some r185 → ∀ (a : Act) (w : World), St 162 a w κ [(2, .slice A_15 p_17.length c_16), (3, .int .u8 x3), (4, vw x4), (6, pp b_2), (21, .slice Ar162x0_165 v_164.length cr162x0_166), (22, .slice Ar178x0_181 v_180.length cr178x0_182), (23, vi q_186), (24, .int .u8 p_205), (25, .int .u8 p_210)] (pt b_2 (blk x1 68) :: rowp Ar162x0_165 cr162x0_166 5 1 (eI .u8) v_164 :: rowp Ar178x0_181 cr178x0_182 5 1 (eI .u8) v_180 :: S) → K207 a w := by
               intro p_210 hm a w hs
               unfold visorlaw34_MapsTells.j9 at hm
               refine hK207 _ _ ?_
               refine qsr fun K211 hK211 => ?_
               refine qpu 2 hs fun a hs => ?_
               obtain ⟨h_212, hm⟩ := ite_t hm
               obtain ⟨e_215, h_213, hm⟩ := bind_t hm
               obtain ⟨b_216, o_217, hA_218, h_214⟩ := Sl.elem (Ow.rowSl 0 (Ow.to (S' := rowp Ar162x0_165 cr162x0_166 5 1 (eI .u8) v_164 :: S) hs.own [1] 3 (by kernel_rfl) (by kernel_rfl)) rfl) h_213
               refine qva (.pointer (some ⟨b_216, o_217 + q_186.toNat * 1, none⟩)) (op := (.indexAddr 69 (.tmp 147) (.tmp 148))) hs (fun o ho => run_idxSlc (k := .i64) ho (cap := cr162x0_166) (len := v_164.length) ((congrArg (fun A => Value.slice A (v_164.length) (cr162x0_166)) hA_218) ▸ (by kernel_rfl)) (by kernel_rfl) (by kernel_rfl) (idx_ok h_212 h_213) _) fun a hs => ?_
               refine qva (.int .u8 e_215) (op := (.load 5 (.tmp 149))) hs (fun o ho => run_load1 (c := C.int .u8 e_215) ho (by kernel_rfl) (by kernel_rfl) (fun w ho => h_214 w ho 0 _ rfl) _ (Ow.to (S' := rowp Ar162x0_165 cr162x0_166 5 1 (eI .u8) v_164 :: S) hs.own [1] 3 (by kernel_rfl) (by kernel_rfl))) fun a hs => ?_
               refine qpu 3 hs fun a hs => ?_
               rcases Bool.eq_false_or_eq_true (e_215 != p_205) with hb | hb
               ·replace hm := bif_t hm hb
                replace hs := hs.known (t := 153) hb (by kernel_rfl)
                refine qpk 7 [2, 3, 4, 6, 21, 22, 23, 160] hs fun a hs => hK211 _ _ ?_
                refine qct hs ?_
                refine qse 1 [(10, .bool false)] hs fun a hs => ?_
                refine wp_ret ?_
                exact Vk.ret1 (P := Try.prog) (fn := Try.f6) (R := RR) (.bool false) hs rfl (by kernel_rfl) (by obtain rfl := hret185 _ ((Option.some.inj hm).symm); subst hRR; exact ⟨rfl, hs.own.f2.drop.f1.drop.drop⟩)
               ·replace hm := bif_f hm hb
                replace hs := hs.known (t := 153) hb (by kernel_rfl)
                refine qpu 2 hs fun a hs => ?_
                obtain ⟨h_226, hm⟩ := ite_t hm
                obtain ⟨e_229, h_227, hm⟩ := bind_t hm
                obtain ⟨b_230, o_231, hA_232, h_228⟩ := Sl.elem (Ow.rowSl 0 hs.own.drop.drop rfl) h_227
                refine qva (.pointer (some ⟨b_230, o_231 + q_186.toNat * 1, none⟩)) (op := (.indexAddr 69 (.tmp 154) (.tmp 155))) hs (fun o ho => run_idxSlc (k := .i64) ho (cap := cr178x0_182) (len := v_180.length) ((congrArg (fun A => Value.slice A (v_180.length) (cr178x0_182)) hA_232) ▸ (by kernel_rfl)) (by kernel_rfl) (by kernel_rfl) (idx_ok h_226 h_227) _) fun a hs => ?_
                refine qva (.int .u8 e_229) (op := (.load 5 (.tmp 156))) hs (fun o ho => run_load1 (c := C.int .u8 e_229) ho (by kernel_rfl) (by kernel_rfl) (fun w ho => h_228 w ho 0 _ rfl) _ hs.own.drop.drop) fun a hs => ?_
                refine qpk 3 [2, 3, 4, 6, 21, 22, 23, 154, 155, 156, 157, 158, 159, 160] hs fun a hs => hK211 _ _ ?_
                refine qcs (e_229 != p_210) hs (fun hb => ?_) fun hb => ?_
                ·replace hm := bif_t hm hb
                 refine qse 1 [(10, .bool false)] hs fun a hs => ?_
                 refine wp_ret ?_
                 exact Vk.ret1 (P := Try.prog) (fn := Try.f6) (R := RR) (.bool false) hs rfl (by kernel_rfl) (by obtain rfl := hret185 _ ((Option.some.inj hm).symm); subst hRR; exact ⟨rfl, hs.own.f2.drop.f1.drop.drop⟩)
                ·replace hm := bif_f hm hb
                 refine wp_skip ?_
                 refine hK189 _ _ ?_
                 clear hK189
                 refine Vk.region ?_
                 refine qpk 3 [2, 3, 4, 6, 21, 22, 23, 154, 155, 156, 157, 158, 159] hs fun a hs => ?_
                 refine ih (IntKind.i64.wrap (q_186 + 1)) _ _ ⟨hm, hs.go [2, 3, 4, 6, 21, 22, 23] [0, 1, 2] 3 (by kernel_rfl) (by kernel_rfl) (by kernel_rfl)⟩
              refine qsr fun K208 hK208 => ?_
              refine qpu 3 hs fun a hs => ?_
              obtain ⟨h_209, hm⟩ := ite_t hm
              refine qva (vw (shr .u64 x4 (IntKind.u64.wrap q_186))) (op := (.binOp .shr 32 (.tmp 138) (.tmp 140) 24)) hs (fun o ho => run_shr (k' := .u64) ho (by kernel_rfl) (by kernel_rfl) h_209 _) fun a hs => ?_
              refine qpk 2 [2, 3, 4, 6, 21, 22, 23, 24, 25, 143] hs fun a hs => hK208 _ _ ?_
              clear hK208
              refine qcs ((Int.tmod (shr .u64 x4 (IntKind.u64.wrap q_186)) 2) == 1) hs (fun hb => ?_) fun hb => ?_
              ·replace hm := bif_t hm hb
               refine Vk.region ?_
               refine qpe 4 [(2, .slice A_15 p_17.length c_16), (3, .int .u8 x3), (4, vw x4), (6, pp b_2), (21, .slice Ar162x0_165 v_164.length cr162x0_166), (22, .slice Ar178x0_181 v_180.length cr178x0_182), (23, vi q_186), (24, .int .u8 p_205), (25, .int .u8 (bxor .u8 p_205 x3))] hs fun a hs => ?_
               exact hj207 (bxor .u8 p_205 x3) hm _ _ (hs.go [2, 3, 4, 6, 21, 22, 23, 24, 25] [0, 1, 2] 3 (by kernel_rfl) (by kernel_rfl) (by kernel_rfl))
              ·replace hm := bif_f hm hb
               refine wp_skip ?_
               exact hj207 p_205 hm _ _ (hs.go [2, 3, 4, 6, 21, 22, 23, 24, 25] [0, 1, 2] 3 (by kernel_rfl) (by kernel_rfl) (by kernel_rfl))
             refine qse 4 [(2, .slice A_15 p_17.length c_16), (3, .int .u8 x3), (4, vw x4), (6, pp b_2), (21, .slice Ar162x0_165 v_164.length cr162x0_166), (22, .slice Ar178x0_181 v_180.length cr178x0_182), (23, vi q_186), (24, .int .u8 0), (130, .bool (decide (q_186 < ((p_17.length : Nat) : Int))))] hs fun a hs => ?_
             refine qcs (decide (q_186 < ((p_17.length : Nat) : Int))) hs (fun hb => ?_) fun hb => ?_
             ·replace hm := bif_t hm hb
              obtain ⟨C_193, hC_193⟩ := qC hs.own
              refine qdr 7 κ C_193 hs fun w hs hqC_193 => ?_
              have hcl := qO hC_193 hs.own
              refine qdp (fuel := 5) [1, 2] hs hcl hqC_193 fun a hs => ?_
              obtain ⟨h_194, hm⟩ := ite_t hm
              refine qdw 0 0 hs hcl hqC_193 hC_193 rfl h_194 fun a hs => ?_
              obtain ⟨h_195, hm⟩ := ite_t hm
              obtain ⟨e_198, h_196, hm⟩ := bind_t hm
              obtain ⟨b_199, o_200, hA_201, h_197⟩ := Sl.elem hx_18 h_196
              refine qdt 3 (.pointer (some ⟨b_199, o_200 + q_186.toNat * 1, none⟩)) (op := (.indexAddr 69 (.tmp 132) (.tmp 133))) hs hcl hqC_193 (fun w hw o ho => by rw [hC_193] at hw; exact run_idxSlc (k := .i64) ho (cap := c_16) (len := p_17.length) ((congrArg (fun A => Value.slice A (p_17.length) (c_16)) hA_201) ▸ (by kernel_rfl)) (by kernel_rfl) (by kernel_rfl) (idx_ok h_195 h_196) _) fun a hs => ?_
              refine qdt 4 (.int .u8 e_198) (op := (.load 5 (.tmp 134))) hs hcl hqC_193 (fun w hw o ho => by rw [hC_193] at hw; exact run_load1 (c := C.int .u8 e_198) ho (by kernel_rfl) (by kernel_rfl) (fun w ho => h_197 w ho 0 _ rfl) _ hw.drop.drop.drop) fun a hs => ?_
              obtain ⟨v_204, h_203, hm⟩ := bind_t hm
              refine qdc 5 (visorref05_Apply.ok _ _ _ _ h_203 _ _ (pt b_2 (blk x1 68) :: rowp Ar162x0_165 cr162x0_166 5 1 (eI .u8) v_164 :: rowp Ar178x0_181 cr178x0_182 5 1 (eI .u8) v_180 :: S) hs.own) hs fun w a hs => ?_
              replace hcl := qO hC_193 hs.own
              refine ⟨fun _ => hcl, ?_⟩
              refine qdp (fuel := 0) [6] hs hcl hqC_193 fun a hs => ?_
              replace hs := hs.pick [2, 3, 4, 6, 21, 22, 23, 24] (L' := [(2, .slice A_15 p_17.length c_16), (3, .int .u8 x3), (4, vw x4), (6, pp b_2), (21, .slice Ar162x0_165 v_164.length cr162x0_166), (22, .slice Ar178x0_181 v_180.length cr178x0_182), (23, vi q_186), (24, .int .u8 v_204)]) (by kernel_rfl)
              refine Vk.dDone (by kernel_rfl) ?_
              exact hj191 v_204 hm _ _ (hs.go [2, 3, 4, 6, 21, 22, 23, 24] [0, 1, 2] 3 (by kernel_rfl) (by kernel_rfl) (by kernel_rfl))
             ·replace hm := bif_f hm hb
              refine wp_skip ?_
              exact hj191 0 hm _ _ (hs.go [2, 3, 4, 6, 21, 22, 23, 24] [0, 1, 2] 3 (by kernel_rfl) (by kernel_rfl) (by kernel_rfl))
            ·replace hm := bif_f hm hb
             refine wp_exit ?_
             exact hx185 (Option.some.inj hm).symm _ _ (hs.go [] [] 3 (by kernel_rfl) (by kernel_rfl) (by kernel_rfl))
          refine Vk.region ?_
          obtain ⟨h_134, hm⟩ := ite_t hm
          refine qlw 7 hs rfl h_134 fun a hs => ?_
          obtain ⟨h_135, hm⟩ := ite_t hm
          refine qlw 8 hs rfl h_135 fun a hs => ?_
          obtain ⟨h_136, hm⟩ := ite_t hm
          obtain ⟨h_137, hm⟩ := ite_t hm
          refine qva (.bool (!(ceq p_129 p_131))) (op := (.binOp .neq 71 (.tmp 95) (.tmp 96) 71)) hs (fun o ho => run_neqV (ks := (List.replicate 8 ((List.replicate 3 [LK.int .i64]).flatten)).flatten) (cs := p_129) (us := p_131) ho (by kernel_rfl) (by kernel_rfl) (by kernel_rfl) h_136 h_137 _) fun a hs => ?_
          refine qpu 1 hs fun a hs => ?_
          rcases Bool.eq_false_or_eq_true (!(ceq p_129 p_131)) with hb | hb
          ·replace hm := bif_t hm hb
           replace hs := hs.known (t := 98) hb (by kernel_rfl)
           refine qpe 12 [(2, .slice A_15 p_17.length c_16), (3, .int .u8 x3), (4, vw x4), (6, pp b_2), (12, pp b_38), (17, pp b_85), (19, pp b_128), (110, .bool true)] hs fun a hs => ?_
           exact hj133 true hm _ _ (hs.go [2, 3, 4, 6, 12, 17, 19, 110] [0, 1, 2, 3, 4, 5, 6, 7] 9 (by kernel_rfl) (by kernel_rfl) (by kernel_rfl))
          ·replace hm := bif_f hm hb
           replace hs := hs.known (t := 98) hb (by kernel_rfl)
           refine qln 1 ([cp br21x0m_32, cp br21x0x_33, C.slc Ar21x0l_34 v_31.2.2.1.length cr21x0l_35, C.slc Ar21x0v_36 v_31.2.2.2.1.length cr21x0v_37]) hs rfl fun a hs => ?_
           obtain ⟨g_138, hs⟩ := hs.unex 2 rfl
           obtain ⟨g_139, hs⟩ := hs.unex 3 rfl
           obtain ⟨v_142, h_141, hm⟩ := bind_t hm
           refine qcl (visorlaw20_Pair_Like.ok _ _ _ h_141 _ _ _ br21x0m_32 g_138 br21x0x_33 g_139 Ar21x0l_34 cr21x0l_35 (Sl.lift (fun w ho => (Ow.to (S' := rowp Ar21x0l_34 cr21x0l_35 28 3 eC v_31.2.2.1 :: S) ho [2] 7 (by kernel_rfl) (by kernel_rfl))) (Ow.rowSl 0 (Ow.to (S' := rowp Ar21x0l_34 cr21x0l_35 28 3 eC v_31.2.2.1 :: S) hs.own [4] 9 (by kernel_rfl) (by kernel_rfl)) rfl)) Ar21x0v_36 cr21x0v_37 (Sl.lift (fun w ho => (Ow.to (S' := rowp Ar21x0v_36 cr21x0v_37 32 1 (eI .u64) v_31.2.2.2.1 :: S) ho [3] 7 (by kernel_rfl) (by kernel_rfl))) (Ow.rowSl 0 (Ow.to (S' := rowp Ar21x0v_36 cr21x0v_37 32 1 (eI .u64) v_31.2.2.2.1 :: S) hs.own [5] 9 (by kernel_rfl) (by kernel_rfl)) rfl)) hs.own.f3.f3) hs fun w a hs => ?_
           refine qpu 3 hs fun a hs => ?_
           replace hs := hs.unbagAt 1 rfl
           suffices hj_147 : ∀ a, St 162 a w κ [(2, .slice A_15 p_17.length c_16), (3, .int .u8 x3), (4, vw x4), (6, pp b_2), (12, pp b_38), (17, pp b_85), (19, pp b_128), (20, pp b_130), (95, .agg (vals p_129)), (96, .agg (vals p_131)), (97, .bool (!(ceq p_129 p_131))), (98, .bool false), (99, .agg (vals [cp br21x0m_32, cp br21x0x_33, C.slc Ar21x0l_34 v_31.2.2.1.length cr21x0l_35, C.slc Ar21x0v_36 v_31.2.2.2.1.length cr21x0v_37])), (100, .bool v_142), (101, .bool (!v_142)), (102, .bool (!v_142)), (103, .bool (!v_142)), (110, .bool ((!v_142) || (p_127.e != 0)))] (pt br21x0x_33 (blk (Tvisorref19_M.obj p_127 g_139.1 g_139.2.1 g_139.2.2.1 g_139.2.2.2.1 g_139.2.2.2.2.1 g_139.2.2.2.2.2.1 g_139.2.2.2.2.2.2.1 g_139.2.2.2.2.2.2.2) 64) :: rowp g_139.1 g_139.2.1 93 6 Tapi_Op.cells p_127.ops :: rowp g_139.2.2.1 g_139.2.2.2.1 175 3 Tapi_Span.cells p_127.blocks :: rowp g_139.2.2.2.2.1 g_139.2.2.2.2.2.1 32 1 (eI .u64) p_127.val :: rdp κ g_139.2.2.2.2.2.2.1 g_139.2.2.2.2.2.2.2 1 (eI .u64) p_127.tape.l :: bagL (Twire_Machine.parts br21x0m_32 p_126 g_138) :: pt b_2 (blk x1 68) :: pt b_38 (blk [cp br21x0m_32, cp br21x0x_33, C.slc Ar21x0l_34 v_31.2.2.1.length cr21x0l_35, C.slc Ar21x0v_36 v_31.2.2.2.1.length cr21x0v_37] 45) :: rowp Ar21x0l_34 cr21x0l_35 28 3 eC v_31.2.2.1 :: rowp Ar21x0v_36 cr21x0v_37 32 1 (eI .u64) v_31.2.2.2.1 :: pt b_85 (blk p_86 71) :: pt b_128 (blk p_129 71) :: pt b_130 (blk p_131 71) :: S) → wpFrom Try.prog _ _ 16 a w by
            rcases Bool.eq_false_or_eq_true (!v_142) with hb | hb
            ·replace hs := hs.known (t := 103) hb (by kernel_rfl)
             refine qpu 7 hs fun a hs => ?_
             have hq := hs.pick [2, 3, 4, 6, 12, 17, 19, 20, 95, 96, 97, 98, 99, 100, 101, 102, 103, 110] (L' := [(2, .slice A_15 p_17.length c_16), (3, .int .u8 x3), (4, vw x4), (6, pp b_2), (12, pp b_38), (17, pp b_85), (19, pp b_128), (20, pp b_130), (95, .agg (vals p_129)), (96, .agg (vals p_131)), (97, .bool (!(ceq p_129 p_131))), (98, .bool false), (99, .agg (vals [cp br21x0m_32, cp br21x0x_33, C.slc Ar21x0l_34 v_31.2.2.1.length cr21x0l_35, C.slc Ar21x0v_36 v_31.2.2.2.1.length cr21x0v_37])), (100, .bool v_142), (101, .bool (!v_142)), (102, .bool (!v_142)), (103, .bool true), (110, .bool true)]) (by kernel_rfl)
             exact hj_147 _ (hq.conv (by first | (rw [hb] <;> rfl) | rfl))
            ·replace hs := hs.known (t := 103) hb (by kernel_rfl)
             refine qpu 1 hs fun a hs => ?_
             refine qld 7 (cp br21x0x_33) hs rfl fun a hs => ?_
             refine qpu 2 hs fun a hs => ?_
             refine qld 0 (ci p_127.e) hs rfl fun a hs => ?_
             refine qpu 2 hs fun a hs => ?_
             have hq := hs.pick [2, 3, 4, 6, 12, 17, 19, 20, 95, 96, 97, 98, 99, 100, 101, 102, 103, 110] (L' := [(2, .slice A_15 p_17.length c_16), (3, .int .u8 x3), (4, vw x4), (6, pp b_2), (12, pp b_38), (17, pp b_85), (19, pp b_128), (20, pp b_130), (95, .agg (vals p_129)), (96, .agg (vals p_131)), (97, .bool (!(ceq p_129 p_131))), (98, .bool false), (99, .agg (vals [cp br21x0m_32, cp br21x0x_33, C.slc Ar21x0l_34 v_31.2.2.1.length cr21x0l_35, C.slc Ar21x0v_36 v_31.2.2.2.1.length cr21x0v_37])), (100, .bool v_142), (101, .bool (!v_142)), (102, .bool (!v_142)), (103, .bool false), (110, .bool (p_127.e != 0))]) (by kernel_rfl)
             exact hj_147 _ (hq.conv (by first | (rw [hb] <;> rfl) | rfl))
           intro a hs
           refine qpe 0 [(2, .slice A_15 p_17.length c_16), (3, .int .u8 x3), (4, vw x4), (6, pp b_2), (12, pp b_38), (17, pp b_85), (19, pp b_128), (110, .bool ((!v_142) || (p_127.e != 0)))] hs fun a hs => ?_
           replace hs := hs.bagG (l := Tvisorref19_M.parts κ br21x0x_33 p_127 g_139) (S' := bagL (Twire_Machine.parts br21x0m_32 p_126 g_138) :: pt b_2 (blk x1 68) :: pt b_38 (blk [cp br21x0m_32, cp br21x0x_33, C.slc Ar21x0l_34 v_31.2.2.1.length cr21x0l_35, C.slc Ar21x0v_36 v_31.2.2.2.1.length cr21x0v_37] 45) :: rowp Ar21x0l_34 cr21x0l_35 28 3 eC v_31.2.2.1 :: rowp Ar21x0v_36 cr21x0v_37 32 1 (eI .u64) v_31.2.2.2.1 :: pt b_85 (blk p_86 71) :: pt b_128 (blk p_129 71) :: pt b_130 (blk p_131 71) :: S) hs.own
           replace hs := hs.toEx (Tvisorref19_M.parts κ br21x0x_33 p_127) g_139 0 rfl
           replace hs := hs.toEx (Twire_Machine.parts br21x0m_32 p_126) g_138 1 rfl
           exact hj133 ((!v_142) || (p_127.e != 0)) hm _ _ (hs.go [2, 3, 4, 6, 12, 17, 19, 110] [2, 3, 1, 0, 4, 5, 6, 7] 9 (by kernel_rfl) (by kernel_rfl) (by kernel_rfl))
         obtain ⟨C_113, hC_113⟩ := qC hs.own.f3.drop.f2.drop
         refine qdr 15 κ C_113 hs fun w hs hqC_113 => ?_
         have hcl := qO hC_113 hs.own.f3.drop.f2.drop
         refine qdp (fuel := 10) [0, 3, 4, 6, 9, 10] hs hcl hqC_113 fun a hs => ?_
         refine qdl 1 1 (cp br21x0m_32) hs hcl hqC_113 hC_113 rfl fun a hs => ?_
         obtain ⟨h_114, hm⟩ := ite_t hm
         refine qdw 2 4 hs hcl hqC_113 hC_113 rfl h_114 fun a hs => ?_
         refine qdl 7 1 (cp br21x0x_33) hs hcl hqC_113 hC_113 rfl fun a hs => ?_
         obtain ⟨h_115, hm⟩ := ite_t hm
         refine qdw 8 5 hs hcl hqC_113 hC_113 rfl h_115 fun a hs => ?_
         refine Vk.dMany3 (i0 := 5) (i1 := 12) (i2 := 13) (by kernel_rfl) ?_ ?_ ?_
         ·exact by
           obtain ⟨v_118, h_117, hm⟩ := bind_t hm
           refine qco (maps_Mark.ok _ _ _ _ _ _ h_117 _ _ _ br21x0m_32 hs.own.f2) hs fun w a hs => ?_
           replace hcl := qO hC_113 hs.own.f3.drop.drop
           refine ⟨fun _ => hcl, ?_⟩
           refine Vk.dMany3 (i0 := 11) (i1 := 12) (i2 := 13) (by kernel_rfl) ?_ ?_ ?_
           ·exact by
             obtain ⟨v_121, h_120, hm⟩ := bind_t hm
             refine qco (visorref34_Mark.ok _ _ _ _ _ _ h_120 _ _ _ br21x0x_33 hs.own.f3) hs fun w a hs => ?_
             replace hcl := qO hC_113 hs.own.f1.drop.drop
             refine ⟨fun _ => hcl, ?_⟩
             refine Vk.dMany2 (i0 := 12) (i1 := 13) (by kernel_rfl) ?_ ?_
             ·exact by
               refine Vk.alloc 19 71 [ci 0, ci 0, ci 0, ci 0, ci 0, ci 0, ci 0, ci 0, ci 0, ci 0, ci 0, ci 0, ci 0, ci 0, ci 0, ci 0, ci 0, ci 0, ci 0, ci 0, ci 0, ci 0, ci 0, ci 0] hs (by kernel_rfl) (by kernel_rfl) (by kernel_rfl) fun b_122 w a hs => ?_
               replace hcl := qO hC_113 hs.own.f2.drop.f1.drop.drop
               refine ⟨fun _ => hcl, ?_⟩
               refine Vk.dOnly (i := 13) (by kernel_rfl) (Vk.alloc 20 71 [ci 0, ci 0, ci 0, ci 0, ci 0, ci 0, ci 0, ci 0, ci 0, ci 0, ci 0, ci 0, ci 0, ci 0, ci 0, ci 0, ci 0, ci 0, ci 0, ci 0, ci 0, ci 0, ci 0, ci 0] hs (by kernel_rfl) (by kernel_rfl) (by kernel_rfl) fun b_123 w a hs => ?_)
               replace hcl : Ow κ w C_113 := by rw [hC_113]; exact (hs.own.too [4, 5, 6, 7, 8, 9] 10)
               refine ⟨fun _ => hcl, ?_⟩
               obtain ⟨h_124, hm⟩ := ite_t hm
               refine qsA 14 1 v_118.1 hs rfl h_124 rfl fun a w hs => ?_
               replace hcl : Ow κ w C_113 := by rw [hC_113]; exact (hs.own.too [4, 5, 6, 7, 8, 9] 10)
               refine ⟨fun _ => hcl, ?_⟩
               obtain ⟨h_125, hm⟩ := ite_t hm
               refine qsA 15 0 v_121.1 hs rfl h_125 rfl fun a w hs => ?_
               refine ⟨fun h => absurd h (by decide), ?_⟩
               replace hs := hs.pick [2, 3, 4, 6, 12, 17, 19, 20] (L' := [(2, .slice A_15 p_17.length c_16), (3, .int .u8 x3), (4, vw x4), (6, pp b_2), (12, pp b_38), (17, pp b_85), (19, pp b_122), (20, pp b_123)]) (by kernel_rfl)
               refine Vk.dDone (by kernel_rfl) ?_
               exact hj112 v_118.2 v_121.2 v_118.1 v_121.1 hm b_122 b_123 _ _ (hs.go [2, 3, 4, 6, 12, 17, 19, 20] [4, 5, 3, 2, 6, 7, 8, 1, 0] 10 (by kernel_rfl) (by kernel_rfl) (by kernel_rfl))
             ·exact by
               refine Vk.alloc 20 71 [ci 0, ci 0, ci 0, ci 0, ci 0, ci 0, ci 0, ci 0, ci 0, ci 0, ci 0, ci 0, ci 0, ci 0, ci 0, ci 0, ci 0, ci 0, ci 0, ci 0, ci 0, ci 0, ci 0, ci 0] hs (by kernel_rfl) (by kernel_rfl) (by kernel_rfl) fun b_122 w a hs => ?_
               replace hcl := qO hC_113 hs.own.f2.drop.f1.drop.drop
               refine ⟨fun _ => hcl, ?_⟩
               refine Vk.dOnly (i := 12) (by kernel_rfl) (Vk.alloc 19 71 [ci 0, ci 0, ci 0, ci 0, ci 0, ci 0, ci 0, ci 0, ci 0, ci 0, ci 0, ci 0, ci 0, ci 0, ci 0, ci 0, ci 0, ci 0, ci 0, ci 0, ci 0, ci 0, ci 0, ci 0] hs (by kernel_rfl) (by kernel_rfl) (by kernel_rfl) fun b_123 w a hs => ?_)
               replace hcl : Ow κ w C_113 := by rw [hC_113]; exact (hs.own.too [4, 5, 6, 7, 8, 9] 10)
               refine ⟨fun _ => hcl, ?_⟩
               obtain ⟨h_124, hm⟩ := ite_t hm
               refine qsA 14 0 v_118.1 hs rfl h_124 rfl fun a w hs => ?_
               replace hcl : Ow κ w C_113 := by rw [hC_113]; exact (hs.own.too [4, 5, 6, 7, 8, 9] 10)
               refine ⟨fun _ => hcl, ?_⟩
               obtain ⟨h_125, hm⟩ := ite_t hm
               refine qsA 15 1 v_121.1 hs rfl h_125 rfl fun a w hs => ?_
               refine ⟨fun h => absurd h (by decide), ?_⟩
               replace hs := hs.pick [2, 3, 4, 6, 12, 17, 19, 20] (L' := [(2, .slice A_15 p_17.length c_16), (3, .int .u8 x3), (4, vw x4), (6, pp b_2), (12, pp b_38), (17, pp b_85), (19, pp b_123), (20, pp b_122)]) (by kernel_rfl)
               refine Vk.dDone (by kernel_rfl) ?_
               exact hj112 v_118.2 v_121.2 v_118.1 v_121.1 hm b_123 b_122 _ _ (hs.go [2, 3, 4, 6, 12, 17, 19, 20] [4, 5, 3, 2, 6, 7, 8, 0, 1] 10 (by kernel_rfl) (by kernel_rfl) (by kernel_rfl))
           ·exact by
             refine Vk.alloc 19 71 [ci 0, ci 0, ci 0, ci 0, ci 0, ci 0, ci 0, ci 0, ci 0, ci 0, ci 0, ci 0, ci 0, ci 0, ci 0, ci 0, ci 0, ci 0, ci 0, ci 0, ci 0, ci 0, ci 0, ci 0] hs (by kernel_rfl) (by kernel_rfl) (by kernel_rfl) fun b_119 w a hs => ?_
             replace hcl := qO hC_113 hs.own.f4.drop.f1.drop.drop
             refine ⟨fun _ => hcl, ?_⟩
             refine Vk.dMany2 (i0 := 11) (i1 := 13) (by kernel_rfl) ?_ ?_
             ·exact by
               obtain ⟨v_122, h_121, hm⟩ := bind_t hm
               refine qco (visorref34_Mark.ok _ _ _ _ _ _ h_121 _ _ _ br21x0x_33 hs.own.f4) hs fun w a hs => ?_
               replace hcl := qO hC_113 hs.own.f2.drop.f1.drop.drop
               refine ⟨fun _ => hcl, ?_⟩
               refine Vk.dOnly (i := 13) (by kernel_rfl) (Vk.alloc 20 71 [ci 0, ci 0, ci 0, ci 0, ci 0, ci 0, ci 0, ci 0, ci 0, ci 0, ci 0, ci 0, ci 0, ci 0, ci 0, ci 0, ci 0, ci 0, ci 0, ci 0, ci 0, ci 0, ci 0, ci 0] hs (by kernel_rfl) (by kernel_rfl) (by kernel_rfl) fun b_123 w a hs => ?_)
               replace hcl : Ow κ w C_113 := by rw [hC_113]; exact (hs.own.too [4, 5, 6, 7, 8, 9] 10)
               refine ⟨fun _ => hcl, ?_⟩
               obtain ⟨h_124, hm⟩ := ite_t hm
               refine qsA 14 2 v_118.1 hs rfl h_124 rfl fun a w hs => ?_
               replace hcl : Ow κ w C_113 := by rw [hC_113]; exact (hs.own.too [4, 5, 6, 7, 8, 9] 10)
               refine ⟨fun _ => hcl, ?_⟩
               obtain ⟨h_125, hm⟩ := ite_t hm
               refine qsA 15 0 v_122.1 hs rfl h_125 rfl fun a w hs => ?_
               refine ⟨fun h => absurd h (by decide), ?_⟩
               replace hs := hs.pick [2, 3, 4, 6, 12, 17, 19, 20] (L' := [(2, .slice A_15 p_17.length c_16), (3, .int .u8 x3), (4, vw x4), (6, pp b_2), (12, pp b_38), (17, pp b_85), (19, pp b_119), (20, pp b_123)]) (by kernel_rfl)
               refine Vk.dDone (by kernel_rfl) ?_
               exact hj112 v_118.2 v_122.2 v_118.1 v_122.1 hm b_119 b_123 _ _ (hs.go [2, 3, 4, 6, 12, 17, 19, 20] [4, 5, 3, 1, 6, 7, 8, 2, 0] 10 (by kernel_rfl) (by kernel_rfl) (by kernel_rfl))
             ·exact by
               refine Vk.alloc 20 71 [ci 0, ci 0, ci 0, ci 0, ci 0, ci 0, ci 0, ci 0, ci 0, ci 0, ci 0, ci 0, ci 0, ci 0, ci 0, ci 0, ci 0, ci 0, ci 0, ci 0, ci 0, ci 0, ci 0, ci 0] hs (by kernel_rfl) (by kernel_rfl) (by kernel_rfl) fun b_120 w a hs => ?_
               replace hcl : Ow κ w C_113 := by rw [hC_113]; exact (hs.own.too [3, 4, 6, 7, 8, 9] 10)
               refine ⟨fun _ => hcl, ?_⟩
               obtain ⟨v_123, h_122, hm⟩ := bind_t hm
               refine qdc 11 (visorref34_Mark.ok _ _ _ _ _ _ h_122 _ _ _ br21x0x_33 hs.own.f5) hs fun w a hs => ?_
               replace hcl : Ow κ w C_113 := by rw [hC_113]; exact (hs.own.too [4, 5, 6, 7, 8, 9] 10)
               refine ⟨fun _ => hcl, ?_⟩
               obtain ⟨h_124, hm⟩ := ite_t hm
               refine qsA 14 2 v_118.1 hs rfl h_124 rfl fun a w hs => ?_
               replace hcl : Ow κ w C_113 := by rw [hC_113]; exact (hs.own.too [4, 5, 6, 7, 8, 9] 10)
               refine ⟨fun _ => hcl, ?_⟩
               obtain ⟨h_125, hm⟩ := ite_t hm
               refine qsA 15 1 v_123.1 hs rfl h_125 rfl fun a w hs => ?_
               refine ⟨fun h => absurd h (by decide), ?_⟩
               replace hs := hs.pick [2, 3, 4, 6, 12, 17, 19, 20] (L' := [(2, .slice A_15 p_17.length c_16), (3, .int .u8 x3), (4, vw x4), (6, pp b_2), (12, pp b_38), (17, pp b_85), (19, pp b_119), (20, pp b_120)]) (by kernel_rfl)
               refine Vk.dDone (by kernel_rfl) ?_
               exact hj112 v_118.2 v_123.2 v_118.1 v_123.1 hm b_119 b_120 _ _ (hs.go [2, 3, 4, 6, 12, 17, 19, 20] [4, 5, 3, 0, 6, 7, 8, 2, 1] 10 (by kernel_rfl) (by kernel_rfl) (by kernel_rfl))
           ·exact by
             refine Vk.alloc 20 71 [ci 0, ci 0, ci 0, ci 0, ci 0, ci 0, ci 0, ci 0, ci 0, ci 0, ci 0, ci 0, ci 0, ci 0, ci 0, ci 0, ci 0, ci 0, ci 0, ci 0, ci 0, ci 0, ci 0, ci 0] hs (by kernel_rfl) (by kernel_rfl) (by kernel_rfl) fun b_119 w a hs => ?_
             replace hcl := qO hC_113 hs.own.f4.drop.f1.drop.drop
             refine ⟨fun _ => hcl, ?_⟩
             refine Vk.dMany2 (i0 := 11) (i1 := 12) (by kernel_rfl) ?_ ?_
             ·exact by
               obtain ⟨v_122, h_121, hm⟩ := bind_t hm
               refine qco (visorref34_Mark.ok _ _ _ _ _ _ h_121 _ _ _ br21x0x_33 hs.own.f4) hs fun w a hs => ?_
               replace hcl := qO hC_113 hs.own.f2.drop.f1.drop.drop
               refine ⟨fun _ => hcl, ?_⟩
               refine Vk.dOnly (i := 12) (by kernel_rfl) (Vk.alloc 19 71 [ci 0, ci 0, ci 0, ci 0, ci 0, ci 0, ci 0, ci 0, ci 0, ci 0, ci 0, ci 0, ci 0, ci 0, ci 0, ci 0, ci 0, ci 0, ci 0, ci 0, ci 0, ci 0, ci 0, ci 0] hs (by kernel_rfl) (by kernel_rfl) (by kernel_rfl) fun b_123 w a hs => ?_)
               replace hcl : Ow κ w C_113 := by rw [hC_113]; exact (hs.own.too [4, 5, 6, 7, 8, 9] 10)
               refine ⟨fun _ => hcl, ?_⟩
               obtain ⟨h_124, hm⟩ := ite_t hm
               refine qsA 14 0 v_118.1 hs rfl h_124 rfl fun a w hs => ?_
               replace hcl : Ow κ w C_113 := by rw [hC_113]; exact (hs.own.too [4, 5, 6, 7, 8, 9] 10)
               refine ⟨fun _ => hcl, ?_⟩
               obtain ⟨h_125, hm⟩ := ite_t hm
               refine qsA 15 2 v_122.1 hs rfl h_125 rfl fun a w hs => ?_
               refine ⟨fun h => absurd h (by decide), ?_⟩
               replace hs := hs.pick [2, 3, 4, 6, 12, 17, 19, 20] (L' := [(2, .slice A_15 p_17.length c_16), (3, .int .u8 x3), (4, vw x4), (6, pp b_2), (12, pp b_38), (17, pp b_85), (19, pp b_123), (20, pp b_119)]) (by kernel_rfl)
               refine Vk.dDone (by kernel_rfl) ?_
               exact hj112 v_118.2 v_122.2 v_118.1 v_122.1 hm b_123 b_119 _ _ (hs.go [2, 3, 4, 6, 12, 17, 19, 20] [4, 5, 3, 1, 6, 7, 8, 0, 2] 10 (by kernel_rfl) (by kernel_rfl) (by kernel_rfl))
             ·exact by
               refine Vk.alloc 19 71 [ci 0, ci 0, ci 0, ci 0, ci 0, ci 0, ci 0, ci 0, ci 0, ci 0, ci 0, ci 0, ci 0, ci 0, ci 0, ci 0, ci 0, ci 0, ci 0, ci 0, ci 0, ci 0, ci 0, ci 0] hs (by kernel_rfl) (by kernel_rfl) (by kernel_rfl) fun b_120 w a hs => ?_
               replace hcl : Ow κ w C_113 := by rw [hC_113]; exact (hs.own.too [3, 4, 6, 7, 8, 9] 10)
               refine ⟨fun _ => hcl, ?_⟩
               obtain ⟨v_123, h_122, hm⟩ := bind_t hm
               refine qdc 11 (visorref34_Mark.ok _ _ _ _ _ _ h_122 _ _ _ br21x0x_33 hs.own.f5) hs fun w a hs => ?_
               replace hcl : Ow κ w C_113 := by rw [hC_113]; exact (hs.own.too [4, 5, 6, 7, 8, 9] 10)
               refine ⟨fun _ => hcl, ?_⟩
               obtain ⟨h_124, hm⟩ := ite_t hm
               refine qsA 14 1 v_118.1 hs rfl h_124 rfl fun a w hs => ?_
               replace hcl : Ow κ w C_113 := by rw [hC_113]; exact (hs.own.too [4, 5, 6, 7, 8, 9] 10)
               refine ⟨fun _ => hcl, ?_⟩
               obtain ⟨h_125, hm⟩ := ite_t hm
               refine qsA 15 2 v_123.1 hs rfl h_125 rfl fun a w hs => ?_
               refine ⟨fun h => absurd h (by decide), ?_⟩
               replace hs := hs.pick [2, 3, 4, 6, 12, 17, 19, 20] (L' := [(2, .slice A_15 p_17.length c_16), (3, .int .u8 x3), (4, vw x4), (6, pp b_2), (12, pp b_38), (17, pp b_85), (19, pp b_120), (20, pp b_119)]) (by kernel_rfl)
               refine Vk.dDone (by kernel_rfl) ?_
               exact hj112 v_118.2 v_123.2 v_118.1 v_123.1 hm b_120 b_119 _ _ (hs.go [2, 3, 4, 6, 12, 17, 19, 20] [4, 5, 3, 0, 6, 7, 8, 1, 2] 10 (by kernel_rfl) (by kernel_rfl) (by kernel_rfl))
         ·exact by
           refine Vk.alloc 19 71 [ci 0, ci 0, ci 0, ci 0, ci 0, ci 0, ci 0, ci 0, ci 0, ci 0, ci 0, ci 0, ci 0, ci 0, ci 0, ci 0, ci 0, ci 0, ci 0, ci 0, ci 0, ci 0, ci 0, ci 0] hs (by kernel_rfl) (by kernel_rfl) (by kernel_rfl) fun b_116 w a hs => ?_
           replace hcl := qO hC_113 hs.own.f4.drop.f3.drop.drop
           refine ⟨fun _ => hcl, ?_⟩
           refine Vk.dMany2 (i0 := 5) (i1 := 13) (by kernel_rfl) ?_ ?_
           ·exact by
             obtain ⟨v_119, h_118, hm⟩ := bind_t hm
             refine qco (maps_Mark.ok _ _ _ _ _ _ h_118 _ _ _ br21x0m_32 hs.own.f3) hs fun w a hs => ?_
             replace hcl := qO hC_113 hs.own.f4.drop.f1.drop.drop
             refine ⟨fun _ => hcl, ?_⟩
             refine Vk.dMany2 (i0 := 11) (i1 := 13) (by kernel_rfl) ?_ ?_
             ·exact by
               obtain ⟨v_122, h_121, hm⟩ := bind_t hm
               refine qco (visorref34_Mark.ok _ _ _ _ _ _ h_121 _ _ _ br21x0x_33 hs.own.f4) hs fun w a hs => ?_
               replace hcl := qO hC_113 hs.own.f2.drop.f1.drop.drop
               refine ⟨fun _ => hcl, ?_⟩
               refine Vk.dOnly (i := 13) (by kernel_rfl) (Vk.alloc 20 71 [ci 0, ci 0, ci 0, ci 0, ci 0, ci 0, ci 0, ci 0, ci 0, ci 0, ci 0, ci 0, ci 0, ci 0, ci 0, ci 0, ci 0, ci 0, ci 0, ci 0, ci 0, ci 0, ci 0, ci 0] hs (by kernel_rfl) (by kernel_rfl) (by kernel_rfl) fun b_123 w a hs => ?_)
               replace hcl : Ow κ w C_113 := by rw [hC_113]; exact (hs.own.too [4, 5, 6, 7, 8, 9] 10)
               refine ⟨fun _ => hcl, ?_⟩
               obtain ⟨h_124, hm⟩ := ite_t hm
               refine qsA 14 3 v_119.1 hs rfl h_124 rfl fun a w hs => ?_
               replace hcl : Ow κ w C_113 := by rw [hC_113]; exact (hs.own.too [4, 5, 6, 7, 8, 9] 10)
               refine ⟨fun _ => hcl, ?_⟩
               obtain ⟨h_125, hm⟩ := ite_t hm
               refine qsA 15 0 v_122.1 hs rfl h_125 rfl fun a w hs => ?_
               refine ⟨fun h => absurd h (by decide), ?_⟩
               replace hs := hs.pick [2, 3, 4, 6, 12, 17, 19, 20] (L' := [(2, .slice A_15 p_17.length c_16), (3, .int .u8 x3), (4, vw x4), (6, pp b_2), (12, pp b_38), (17, pp b_85), (19, pp b_116), (20, pp b_123)]) (by kernel_rfl)
               refine Vk.dDone (by kernel_rfl) ?_
               exact hj112 v_119.2 v_122.2 v_119.1 v_122.1 hm b_116 b_123 _ _ (hs.go [2, 3, 4, 6, 12, 17, 19, 20] [4, 5, 2, 1, 6, 7, 8, 3, 0] 10 (by kernel_rfl) (by kernel_rfl) (by kernel_rfl))
             ·exact by
               refine Vk.alloc 20 71 [ci 0, ci 0, ci 0, ci 0, ci 0, ci 0, ci 0, ci 0, ci 0, ci 0, ci 0, ci 0, ci 0, ci 0, ci 0, ci 0, ci 0, ci 0, ci 0, ci 0, ci 0, ci 0, ci 0, ci 0] hs (by kernel_rfl) (by kernel_rfl) (by kernel_rfl) fun b_120 w a hs => ?_
               replace hcl : Ow κ w C_113 := by rw [hC_113]; exact (hs.own.too [3, 4, 6, 7, 8, 9] 10)
               refine ⟨fun _ => hcl, ?_⟩
               obtain ⟨v_123, h_122, hm⟩ := bind_t hm
               refine qdc 11 (visorref34_Mark.ok _ _ _ _ _ _ h_122 _ _ _ br21x0x_33 hs.own.f5) hs fun w a hs => ?_
               replace hcl : Ow κ w C_113 := by rw [hC_113]; exact (hs.own.too [4, 5, 6, 7, 8, 9] 10)
               refine ⟨fun _ => hcl, ?_⟩
               obtain ⟨h_124, hm⟩ := ite_t hm
               refine qsA 14 3 v_119.1 hs rfl h_124 rfl fun a w hs => ?_
               replace hcl : Ow κ w C_113 := by rw [hC_113]; exact (hs.own.too [4, 5, 6, 7, 8, 9] 10)
               refine ⟨fun _ => hcl, ?_⟩
               obtain ⟨h_125, hm⟩ := ite_t hm
               refine qsA 15 1 v_123.1 hs rfl h_125 rfl fun a w hs => ?_
               refine ⟨fun h => absurd h (by decide), ?_⟩
               replace hs := hs.pick [2, 3, 4, 6, 12, 17, 19, 20] (L' := [(2, .slice A_15 p_17.length c_16), (3, .int .u8 x3), (4, vw x4), (6, pp b_2), (12, pp b_38), (17, pp b_85), (19, pp b_116), (20, pp b_120)]) (by kernel_rfl)
               refine Vk.dDone (by kernel_rfl) ?_
               exact hj112 v_119.2 v_123.2 v_119.1 v_123.1 hm b_116 b_120 _ _ (hs.go [2, 3, 4, 6, 12, 17, 19, 20] [4, 5, 2, 0, 6, 7, 8, 3, 1] 10 (by kernel_rfl) (by kernel_rfl) (by kernel_rfl))
           ·exact by
             refine Vk.alloc 20 71 [ci 0, ci 0, ci 0, ci 0, ci 0, ci 0, ci 0, ci 0, ci 0, ci 0, ci 0, ci 0, ci 0, ci 0, ci 0, ci 0, ci 0, ci 0, ci 0, ci 0, ci 0, ci 0, ci 0, ci 0] hs (by kernel_rfl) (by kernel_rfl) (by kernel_rfl) fun b_117 w a hs => ?_
             replace hcl : Ow κ w C_113 := by rw [hC_113]; exact (hs.own.too [2, 3, 6, 7, 8, 9] 10)
             refine ⟨fun _ => hcl, ?_⟩
             obtain ⟨v_120, h_119, hm⟩ := bind_t hm
             refine qdc 5 (maps_Mark.ok _ _ _ _ _ _ h_119 _ _ _ br21x0m_32 hs.own.f4) hs fun w a hs => ?_
             replace hcl : Ow κ w C_113 := by rw [hC_113]; exact (hs.own.too [3, 4, 6, 7, 8, 9] 10)
             refine ⟨fun _ => hcl, ?_⟩
             obtain ⟨v_123, h_122, hm⟩ := bind_t hm
             refine qdc 11 (visorref34_Mark.ok _ _ _ _ _ _ h_122 _ _ _ br21x0x_33 hs.own.f5) hs fun w a hs => ?_
             replace hcl : Ow κ w C_113 := by rw [hC_113]; exact (hs.own.too [4, 5, 6, 7, 8, 9] 10)
             refine ⟨fun _ => hcl, ?_⟩
             obtain ⟨h_124, hm⟩ := ite_t hm
             refine qsA 14 3 v_120.1 hs rfl h_124 rfl fun a w hs => ?_
             replace hcl : Ow κ w C_113 := by rw [hC_113]; exact (hs.own.too [4, 5, 6, 7, 8, 9] 10)
             refine ⟨fun _ => hcl, ?_⟩
             obtain ⟨h_125, hm⟩ := ite_t hm
             refine qsA 15 2 v_123.1 hs rfl h_125 rfl fun a w hs => ?_
             refine ⟨fun h => absurd h (by decide), ?_⟩
             replace hs := hs.pick [2, 3, 4, 6, 12, 17, 19, 20] (L' := [(2, .slice A_15 p_17.length c_16), (3, .int .u8 x3), (4, vw x4), (6, pp b_2), (12, pp b_38), (17, pp b_85), (19, pp b_116), (20, pp b_117)]) (by kernel_rfl)
             refine Vk.dDone (by kernel_rfl) ?_
             exact hj112 v_120.2 v_123.2 v_120.1 v_123.1 hm b_116 b_117 _ _ (hs.go [2, 3, 4, 6, 12, 17, 19, 20] [4, 5, 1, 0, 6, 7, 8, 3, 2] 10 (by kernel_rfl) (by kernel_rfl) (by kernel_rfl))
         ·exact by
           refine Vk.alloc 20 71 [ci 0, ci 0, ci 0, ci 0, ci 0, ci 0, ci 0, ci 0, ci 0, ci 0, ci 0, ci 0, ci 0, ci 0, ci 0, ci 0, ci 0, ci 0, ci 0, ci 0, ci 0, ci 0, ci 0, ci 0] hs (by kernel_rfl) (by kernel_rfl) (by kernel_rfl) fun b_116 w a hs => ?_
           replace hcl := qO hC_113 hs.own.f4.drop.f3.drop.drop
           refine ⟨fun _ => hcl, ?_⟩
           refine Vk.dMany2 (i0 := 5) (i1 := 12) (by kernel_rfl) ?_ ?_
           ·exact by
             obtain ⟨v_119, h_118, hm⟩ := bind_t hm
             refine qco (maps_Mark.ok _ _ _ _ _ _ h_118 _ _ _ br21x0m_32 hs.own.f3) hs fun w a hs => ?_
             replace hcl := qO hC_113 hs.own.f4.drop.f1.drop.drop
             refine ⟨fun _ => hcl, ?_⟩
             refine Vk.dMany2 (i0 := 11) (i1 := 12) (by kernel_rfl) ?_ ?_
             ·exact by
               obtain ⟨v_122, h_121, hm⟩ := bind_t hm
               refine qco (visorref34_Mark.ok _ _ _ _ _ _ h_121 _ _ _ br21x0x_33 hs.own.f4) hs fun w a hs => ?_
               replace hcl := qO hC_113 hs.own.f2.drop.f1.drop.drop
               refine ⟨fun _ => hcl, ?_⟩
               refine Vk.dOnly (i := 12) (by kernel_rfl) (Vk.alloc 19 71 [ci 0, ci 0, ci 0, ci 0, ci 0, ci 0, ci 0, ci 0, ci 0, ci 0, ci 0, ci 0, ci 0, ci 0, ci 0, ci 0, ci 0, ci 0, ci 0, ci 0, ci 0, ci 0, ci 0, ci 0] hs (by kernel_rfl) (by kernel_rfl) (by kernel_rfl) fun b_123 w a hs => ?_)
               replace hcl : Ow κ w C_113 := by rw [hC_113]; exact (hs.own.too [4, 5, 6, 7, 8, 9] 10)
               refine ⟨fun _ => hcl, ?_⟩
               obtain ⟨h_124, hm⟩ := ite_t hm
               refine qsA 14 0 v_119.1 hs rfl h_124 rfl fun a w hs => ?_
               replace hcl : Ow κ w C_113 := by rw [hC_113]; exact (hs.own.too [4, 5, 6, 7, 8, 9] 10)
               refine ⟨fun _ => hcl, ?_⟩
               obtain ⟨h_125, hm⟩ := ite_t hm
               refine qsA 15 3 v_122.1 hs rfl h_125 rfl fun a w hs => ?_
               refine ⟨fun h => absurd h (by decide), ?_⟩
               replace hs := hs.pick [2, 3, 4, 6, 12, 17, 19, 20] (L' := [(2, .slice A_15 p_17.length c_16), (3, .int .u8 x3), (4, vw x4), (6, pp b_2), (12, pp b_38), (17, pp b_85), (19, pp b_123), (20, pp b_116)]) (by kernel_rfl)
               refine Vk.dDone (by kernel_rfl) ?_
               exact hj112 v_119.2 v_122.2 v_119.1 v_122.1 hm b_123 b_116 _ _ (hs.go [2, 3, 4, 6, 12, 17, 19, 20] [4, 5, 2, 1, 6, 7, 8, 0, 3] 10 (by kernel_rfl) (by kernel_rfl) (by kernel_rfl))
             ·exact by
               refine Vk.alloc 19 71 [ci 0, ci 0, ci 0, ci 0, ci 0, ci 0, ci 0, ci 0, ci 0, ci 0, ci 0, ci 0, ci 0, ci 0, ci 0, ci 0, ci 0, ci 0, ci 0, ci 0, ci 0, ci 0, ci 0, ci 0] hs (by kernel_rfl) (by kernel_rfl) (by kernel_rfl) fun b_120 w a hs => ?_
               replace hcl : Ow κ w C_113 := by rw [hC_113]; exact (hs.own.too [3, 4, 6, 7, 8, 9] 10)
               refine ⟨fun _ => hcl, ?_⟩
               obtain ⟨v_123, h_122, hm⟩ := bind_t hm
               refine qdc 11 (visorref34_Mark.ok _ _ _ _ _ _ h_122 _ _ _ br21x0x_33 hs.own.f5) hs fun w a hs => ?_
               replace hcl : Ow κ w C_113 := by rw [hC_113]; exact (hs.own.too [4, 5, 6, 7, 8, 9] 10)
               refine ⟨fun _ => hcl, ?_⟩
               obtain ⟨h_124, hm⟩ := ite_t hm
               refine qsA 14 1 v_119.1 hs rfl h_124 rfl fun a w hs => ?_
               replace hcl : Ow κ w C_113 := by rw [hC_113]; exact (hs.own.too [4, 5, 6, 7, 8, 9] 10)
               refine ⟨fun _ => hcl, ?_⟩
               obtain ⟨h_125, hm⟩ := ite_t hm
               refine qsA 15 3 v_123.1 hs rfl h_125 rfl fun a w hs => ?_
               refine ⟨fun h => absurd h (by decide), ?_⟩
               replace hs := hs.pick [2, 3, 4, 6, 12, 17, 19, 20] (L' := [(2, .slice A_15 p_17.length c_16), (3, .int .u8 x3), (4, vw x4), (6, pp b_2), (12, pp b_38), (17, pp b_85), (19, pp b_120), (20, pp b_116)]) (by kernel_rfl)
               refine Vk.dDone (by kernel_rfl) ?_
               exact hj112 v_119.2 v_123.2 v_119.1 v_123.1 hm b_120 b_116 _ _ (hs.go [2, 3, 4, 6, 12, 17, 19, 20] [4, 5, 2, 0, 6, 7, 8, 1, 3] 10 (by kernel_rfl) (by kernel_rfl) (by kernel_rfl))
           ·exact by
             refine Vk.alloc 19 71 [ci 0, ci 0, ci 0, ci 0, ci 0, ci 0, ci 0, ci 0, ci 0, ci 0, ci 0, ci 0, ci 0, ci 0, ci 0, ci 0, ci 0, ci 0, ci 0, ci 0, ci 0, ci 0, ci 0, ci 0] hs (by kernel_rfl) (by kernel_rfl) (by kernel_rfl) fun b_117 w a hs => ?_
             replace hcl : Ow κ w C_113 := by rw [hC_113]; exact (hs.own.too [2, 3, 6, 7, 8, 9] 10)
             refine ⟨fun _ => hcl, ?_⟩
             obtain ⟨v_120, h_119, hm⟩ := bind_t hm
             refine qdc 5 (maps_Mark.ok _ _ _ _ _ _ h_119 _ _ _ br21x0m_32 hs.own.f4) hs fun w a hs => ?_
             replace hcl : Ow κ w C_113 := by rw [hC_113]; exact (hs.own.too [3, 4, 6, 7, 8, 9] 10)
             refine ⟨fun _ => hcl, ?_⟩
             obtain ⟨v_123, h_122, hm⟩ := bind_t hm
             refine qdc 11 (visorref34_Mark.ok _ _ _ _ _ _ h_122 _ _ _ br21x0x_33 hs.own.f5) hs fun w a hs => ?_
             replace hcl : Ow κ w C_113 := by rw [hC_113]; exact (hs.own.too [4, 5, 6, 7, 8, 9] 10)
             refine ⟨fun _ => hcl, ?_⟩
             obtain ⟨h_124, hm⟩ := ite_t hm
             refine qsA 14 2 v_120.1 hs rfl h_124 rfl fun a w hs => ?_
             replace hcl : Ow κ w C_113 := by rw [hC_113]; exact (hs.own.too [4, 5, 6, 7, 8, 9] 10)
             refine ⟨fun _ => hcl, ?_⟩
             obtain ⟨h_125, hm⟩ := ite_t hm
             refine qsA 15 3 v_123.1 hs rfl h_125 rfl fun a w hs => ?_
             refine ⟨fun h => absurd h (by decide), ?_⟩
             replace hs := hs.pick [2, 3, 4, 6, 12, 17, 19, 20] (L' := [(2, .slice A_15 p_17.length c_16), (3, .int .u8 x3), (4, vw x4), (6, pp b_2), (12, pp b_38), (17, pp b_85), (19, pp b_117), (20, pp b_116)]) (by kernel_rfl)
             refine Vk.dDone (by kernel_rfl) ?_
             exact hj112 v_120.2 v_123.2 v_120.1 v_123.1 hm b_117 b_116 _ _ (hs.go [2, 3, 4, 6, 12, 17, 19, 20] [4, 5, 1, 0, 6, 7, 8, 2, 3] 10 (by kernel_rfl) (by kernel_rfl) (by kernel_rfl))
       obtain ⟨C_91, hC_91⟩ := qC hs.own.f2.drop
       refine qdr 23 κ C_91 hs fun w hs hqC_91 => ?_
       have hcl := qO hC_91 hs.own.f2.drop
       obtain ⟨h_92, hm⟩ := ite_t hm
       refine qdw 0 5 hs hcl hqC_91 hC_91 rfl h_92 fun a hs => ?_
       obtain ⟨h_93, hm⟩ := ite_t hm
       refine qdw 1 6 hs hcl hqC_91 hC_91 rfl h_93 fun a hs => ?_
       obtain ⟨h_94, hm⟩ := ite_t hm
       obtain ⟨h_95, hm⟩ := ite_t hm
       refine qdt 2 (.bool (!(ceq p_86 p_88))) (op := (.binOp .neq 71 (.tmp 60) (.tmp 61) 71)) hs hcl hqC_91 (fun w hw o ho => by rw [hC_91] at hw; exact run_neqV (ks := (List.replicate 8 ((List.replicate 3 [LK.int .i64]).flatten)).flatten) (cs := p_86) (us := p_88) ho (by kernel_rfl) (by kernel_rfl) (by kernel_rfl) h_94 h_95 _) fun a hs => ?_
       refine qdp (fuel := 19) [3] hs hcl hqC_91 fun a hs => ?_
       rcases Bool.eq_false_or_eq_true (!(ceq p_86 p_88)) with hb | hb
       ·replace hm := bif_t hm hb
        replace hs := hs.known (t := 63) hb (by kernel_rfl)
        refine qdp (fuel := 0) [4, 5, 6, 7, 8, 9, 10, 11, 12, 13, 14, 15, 16, 17, 18, 19, 20, 21, 22] hs hcl hqC_91 fun a hs => ?_
        replace hs := hs.pick [2, 3, 4, 6, 12, 17, 18, 82] (L' := [(2, .slice A_15 p_17.length c_16), (3, .int .u8 x3), (4, vw x4), (6, pp b_2), (12, pp b_38), (17, pp b_85), (18, pp b_87), (82, .bool true)]) (by kernel_rfl)
        refine Vk.dDone (by kernel_rfl) ?_
        exact hj90 true hm _ _ (hs.go [2, 3, 4, 6, 12, 17, 18, 82] [0, 1, 2, 3, 4, 5, 6, 7] 8 (by kernel_rfl) (by kernel_rfl) (by kernel_rfl))
       ·replace hm := bif_f hm hb
        replace hs := hs.known (t := 63) hb (by kernel_rfl)
        refine qdp (fuel := 16) [4, 7, 10] hs hcl hqC_91 fun a hs => ?_
        refine qdl 5 1 (cp br21x0m_32) hs hcl hqC_91 hC_91 rfl fun a hs => ?_
        obtain ⟨h_96, hm⟩ := ite_t hm
        refine qdw 9 0 hs hcl hqC_91 hC_91 rfl h_96 fun a hs => ?_
        obtain ⟨g_97, hs⟩ := hs.unex 2 rfl
        obtain ⟨v_100, h_99, hm⟩ := bind_t hm
        refine qdc 6 (wire_Machine_Len.ok _ _ _ h_99 _ _ _ br21x0m_32 g_97 hs.own.f2) hs fun w a hs => ?_
        replace hcl := qO hC_91 hs.own.drop
        refine ⟨fun _ => hcl, ?_⟩
        refine qdp (fuel := 12) [8] hs hcl hqC_91 fun a hs => ?_
        obtain ⟨v_103, h_102, hm⟩ := bind_t hm
        refine qdc 11 (visorref34_Ops.ok _ _ _ _ h_102 _ _ (bagL (Twire_Machine.parts br21x0m_32 p_83 g_97) :: pt b_2 (blk x1 68) :: pt b_38 (blk [cp br21x0m_32, cp br21x0x_33, C.slc Ar21x0l_34 v_31.2.2.1.length cr21x0l_35, C.slc Ar21x0v_36 v_31.2.2.2.1.length cr21x0v_37] 45) :: Tvisorref19_M.own κ br21x0x_33 p_84 :: rowp Ar21x0l_34 cr21x0l_35 28 3 eC v_31.2.2.1 :: rowp Ar21x0v_36 cr21x0v_37 32 1 (eI .u64) v_31.2.2.2.1 :: pt b_85 (blk p_86 71) :: pt b_87 (blk p_88 71) :: S) hs.own) hs fun w a hs => ?_
        replace hcl := qO hC_91 hs.own.drop
        refine ⟨fun _ => hcl, ?_⟩
        refine qdp (fuel := 8) [12, 13, 14] hs hcl hqC_91 fun a hs => ?_
        rcases Bool.eq_false_or_eq_true ((IntKind.i64.wrap (v_100 - v_67)) != v_103) with hb | hb
        ·replace hm := bif_t hm hb
         replace hs := hs.known (t := 74) hb (by kernel_rfl)
         refine qdp (fuel := 0) [15, 16, 17, 18, 19, 20, 21, 22] hs hcl hqC_91 fun a hs => ?_
         replace hs := hs.pick [2, 3, 4, 6, 12, 17, 18, 82] (L' := [(2, .slice A_15 p_17.length c_16), (3, .int .u8 x3), (4, vw x4), (6, pp b_2), (12, pp b_38), (17, pp b_85), (18, pp b_87), (82, .bool true)]) (by kernel_rfl)
         refine Vk.dDone (by kernel_rfl) ?_
         replace hs := hs.toEx (Twire_Machine.parts br21x0m_32 p_83) g_97 0 rfl
         exact hj90 true hm _ _ (hs.go [2, 3, 4, 6, 12, 17, 18, 82] [1, 2, 0, 3, 4, 5, 6, 7] 8 (by kernel_rfl) (by kernel_rfl) (by kernel_rfl))
        ·replace hm := bif_f hm hb
         replace hs := hs.known (t := 74) hb (by kernel_rfl)
         refine qdp (fuel := 6) [16, 19] hs hcl hqC_91 fun a hs => ?_
         refine qdw 15 0 hs hcl hqC_91 hC_91 rfl h_96 fun a hs => ?_
         refine qdw 18 0 hs hcl hqC_91 hC_91 rfl h_96 fun a hs => ?_
         obtain ⟨v_106, h_105, hm⟩ := bind_t hm
         refine qdc 17 (maps_Ops.ok _ _ _ _ h_105 _ _ (bagL (Twire_Machine.parts br21x0m_32 p_83 g_97) :: pt b_2 (blk x1 68) :: pt b_38 (blk [cp br21x0m_32, cp br21x0x_33, C.slc Ar21x0l_34 v_31.2.2.1.length cr21x0l_35, C.slc Ar21x0v_36 v_31.2.2.2.1.length cr21x0v_37] 45) :: Tvisorref19_M.own κ br21x0x_33 p_84 :: rowp Ar21x0l_34 cr21x0l_35 28 3 eC v_31.2.2.1 :: rowp Ar21x0v_36 cr21x0v_37 32 1 (eI .u64) v_31.2.2.2.1 :: pt b_85 (blk p_86 71) :: pt b_87 (blk p_88 71) :: S) hs.own) hs fun w a hs => ?_
         replace hcl := qO hC_91 hs.own.drop
         refine ⟨fun _ => hcl, ?_⟩
         obtain ⟨v_109, h_108, hm⟩ := bind_t hm
         refine qdc 20 (visorref34_Ops.ok _ _ _ _ h_108 _ _ (bagL (Twire_Machine.parts br21x0m_32 p_83 g_97) :: pt b_2 (blk x1 68) :: pt b_38 (blk [cp br21x0m_32, cp br21x0x_33, C.slc Ar21x0l_34 v_31.2.2.1.length cr21x0l_35, C.slc Ar21x0v_36 v_31.2.2.2.1.length cr21x0v_37] 45) :: Tvisorref19_M.own κ br21x0x_33 p_84 :: rowp Ar21x0l_34 cr21x0l_35 28 3 eC v_31.2.2.1 :: rowp Ar21x0v_36 cr21x0v_37 32 1 (eI .u64) v_31.2.2.2.1 :: pt b_85 (blk p_86 71) :: pt b_87 (blk p_88 71) :: S) hs.own) hs fun w a hs => ?_
         replace hcl := qO hC_91 hs.own.drop
         refine ⟨fun _ => hcl, ?_⟩
         refine qdp (fuel := 0) [21, 22] hs hcl hqC_91 fun a hs => ?_
         replace hs := hs.pick [2, 3, 4, 6, 12, 17, 18, 82] (L' := [(2, .slice A_15 p_17.length c_16), (3, .int .u8 x3), (4, vw x4), (6, pp b_2), (12, pp b_38), (17, pp b_85), (18, pp b_87), (82, .bool (v_106 != v_109))]) (by kernel_rfl)
         refine Vk.dDone (by kernel_rfl) ?_
         replace hs := hs.toEx (Twire_Machine.parts br21x0m_32 p_83) g_97 0 rfl
         exact hj90 (v_106 != v_109) hm _ _ (hs.go [2, 3, 4, 6, 12, 17, 18, 82] [1, 2, 0, 3, 4, 5, 6, 7] 8 (by kernel_rfl) (by kernel_rfl) (by kernel_rfl))
      obtain ⟨C_69, hC_69⟩ := qC hs.own.f3.drop.drop
      refine qdr 13 κ C_69 hs fun w hs hqC_69 => ?_
      have hcl := qO hC_69 hs.own.f3.drop.drop
      refine qdp (fuel := 12) [0, 5] hs hcl hqC_69 fun a hs => ?_
      refine qdl 1 1 (cp br21x0m_32) hs hcl hqC_69 hC_69 rfl fun a hs => ?_
      obtain ⟨h_70, hm⟩ := ite_t hm
      refine qdw 2 0 hs hcl hqC_69 hC_69 rfl h_70 fun a hs => ?_
      obtain ⟨h_71, hm⟩ := ite_t hm
      refine qdw 3 4 hs hcl hqC_69 hC_69 rfl h_71 fun a hs => ?_
      refine qdl 6 1 (cp br21x0x_33) hs hcl hqC_69 hC_69 rfl fun a hs => ?_
      refine qdw 7 0 hs hcl hqC_69 hC_69 rfl h_70 fun a hs => ?_
      obtain ⟨h_72, hm⟩ := ite_t hm
      refine qdw 8 5 hs hcl hqC_69 hC_69 rfl h_72 fun a hs => ?_
      refine Vk.dMany3 (i0 := 4) (i1 := 10) (i2 := 11) (by kernel_rfl) ?_ ?_ ?_
      ·exact by
        replace hs := hs.toEx (Twire_Machine.parts br21x0m_32 p_57) g_64 0 rfl
        obtain ⟨v_75, h_74, hm⟩ := bind_t hm
        refine qco (maps_Apply.ok _ _ _ _ _ h_74 _ _ _ br21x0m_32 hs.own) hs fun w a hs => ?_
        replace hcl := qO hC_69 hs.own.f3.drop.drop
        refine ⟨fun _ => hcl, ?_⟩
        refine Vk.dMany3 (i0 := 9) (i1 := 10) (i2 := 11) (by kernel_rfl) ?_ ?_ ?_
        ·exact by
          obtain ⟨v_78, h_77, hm⟩ := bind_t hm
          refine qco (visorref34_Apply.ok _ _ _ _ _ h_77 _ _ _ br21x0x_33 hs.own.f3) hs fun w a hs => ?_
          replace hcl := qO hC_69 hs.own.f1.drop.drop
          refine ⟨fun _ => hcl, ?_⟩
          refine Vk.dMany2 (i0 := 10) (i1 := 11) (by kernel_rfl) ?_ ?_
          ·exact by
            refine Vk.alloc 17 71 [ci 0, ci 0, ci 0, ci 0, ci 0, ci 0, ci 0, ci 0, ci 0, ci 0, ci 0, ci 0, ci 0, ci 0, ci 0, ci 0, ci 0, ci 0, ci 0, ci 0, ci 0, ci 0, ci 0, ci 0] hs (by kernel_rfl) (by kernel_rfl) (by kernel_rfl) fun b_79 w a hs => ?_
            replace hcl := qO hC_69 hs.own.f2.drop.f1.drop.drop
            refine ⟨fun _ => hcl, ?_⟩
            refine Vk.dOnly (i := 11) (by kernel_rfl) (Vk.alloc 18 71 [ci 0, ci 0, ci 0, ci 0, ci 0, ci 0, ci 0, ci 0, ci 0, ci 0, ci 0, ci 0, ci 0, ci 0, ci 0, ci 0, ci 0, ci 0, ci 0, ci 0, ci 0, ci 0, ci 0, ci 0] hs (by kernel_rfl) (by kernel_rfl) (by kernel_rfl) fun b_80 w a hs => ?_)
            replace hcl : Ow κ w C_69 := by rw [hC_69]; exact (hs.own.too [4, 5, 6, 7, 8, 9] 10)
            refine ⟨fun _ => hcl, ?_⟩
            obtain ⟨h_81, hm⟩ := ite_t hm
            refine qsA 12 1 v_75.1 hs rfl h_81 rfl fun a w hs => ?_
            replace hcl : Ow κ w C_69 := by rw [hC_69]; exact (hs.own.too [4, 5, 6, 7, 8, 9] 10)
            refine ⟨fun _ => hcl, ?_⟩
            obtain ⟨h_82, hm⟩ := ite_t hm
            refine qsA 13 0 v_78.1 hs rfl h_82 rfl fun a w hs => ?_
            refine ⟨fun h => absurd h (by decide), ?_⟩
            replace hs := hs.pick [2, 3, 4, 6, 11, 12, 16, 17, 18] (L' := [(2, .slice A_15 p_17.length c_16), (3, .int .u8 x3), (4, vw x4), (6, pp b_2), (11, vi p_6), (12, pp b_38), (16, vi v_67), (17, pp b_79), (18, pp b_80)]) (by kernel_rfl)
            refine Vk.dDone (by kernel_rfl) ?_
            exact hj68 v_75.2 v_78.2 v_75.1 v_78.1 hm b_79 b_80 _ _ (hs.go [2, 3, 4, 6, 11, 12, 16, 17, 18] [4, 5, 3, 2, 6, 7, 1, 0] 10 (by kernel_rfl) (by kernel_rfl) (by kernel_rfl))
          ·exact by
            refine Vk.alloc 18 71 [ci 0, ci 0, ci 0, ci 0, ci 0, ci 0, ci 0, ci 0, ci 0, ci 0, ci 0, ci 0, ci 0, ci 0, ci 0, ci 0, ci 0, ci 0, ci 0, ci 0, ci 0, ci 0, ci 0, ci 0] hs (by kernel_rfl) (by kernel_rfl) (by kernel_rfl) fun b_79 w a hs => ?_
            replace hcl := qO hC_69 hs.own.f2.drop.f1.drop.drop
            refine ⟨fun _ => hcl, ?_⟩
            refine Vk.dOnly (i := 10) (by kernel_rfl) (Vk.alloc 17 71 [ci 0, ci 0, ci 0, ci 0, ci 0, ci 0, ci 0, ci 0, ci 0, ci 0, ci 0, ci 0, ci 0, ci 0, ci 0, ci 0, ci 0, ci 0, ci 0, ci 0, ci 0, ci 0, ci 0, ci 0] hs (by kernel_rfl) (by kernel_rfl) (by kernel_rfl) fun b_80 w a hs => ?_)
            replace hcl : Ow κ w C_69 := by rw [hC_69]; exact (hs.own.too [4, 5, 6, 7, 8, 9] 10)
            refine ⟨fun _ => hcl, ?_⟩
            obtain ⟨h_81, hm⟩ := ite_t hm
            refine qsA 12 0 v_75.1 hs rfl h_81 rfl fun a w hs => ?_
            replace hcl : Ow κ w C_69 := by rw [hC_69]; exact (hs.own.too [4, 5, 6, 7, 8, 9] 10)
            refine ⟨fun _ => hcl, ?_⟩
            obtain ⟨h_82, hm⟩ := ite_t hm
            refine qsA 13 1 v_78.1 hs rfl h_82 rfl fun a w hs => ?_
            refine ⟨fun h => absurd h (by decide), ?_⟩
            replace hs := hs.pick [2, 3, 4, 6, 11, 12, 16, 17, 18] (L' := [(2, .slice A_15 p_17.length c_16), (3, .int .u8 x3), (4, vw x4), (6, pp b_2), (11, vi p_6), (12, pp b_38), (16, vi v_67), (17, pp b_80), (18, pp b_79)]) (by kernel_rfl)
            refine Vk.dDone (by kernel_rfl) ?_
            exact hj68 v_75.2 v_78.2 v_75.1 v_78.1 hm b_80 b_79 _ _ (hs.go [2, 3, 4, 6, 11, 12, 16, 17, 18] [4, 5, 3, 2, 6, 7, 0, 1] 10 (by kernel_rfl) (by kernel_rfl) (by kernel_rfl))
        ·exact by
          refine Vk.alloc 17 71 [ci 0, ci 0, ci 0, ci 0, ci 0, ci 0, ci 0, ci 0, ci 0, ci 0, ci 0, ci 0, ci 0, ci 0, ci 0, ci 0, ci 0, ci 0, ci 0, ci 0, ci 0, ci 0, ci 0, ci 0] hs (by kernel_rfl) (by kernel_rfl) (by kernel_rfl) fun b_76 w a hs => ?_
          replace hcl := qO hC_69 hs.own.f4.drop.f1.drop.drop
          refine ⟨fun _ => hcl, ?_⟩
          refine Vk.dMany2 (i0 := 9) (i1 := 11) (by kernel_rfl) ?_ ?_
          ·exact by
            obtain ⟨v_79, h_78, hm⟩ := bind_t hm
            refine qco (visorref34_Apply.ok _ _ _ _ _ h_78 _ _ _ br21x0x_33 hs.own.f4) hs fun w a hs => ?_
            replace hcl := qO hC_69 hs.own.f2.drop.f1.drop.drop
            refine ⟨fun _ => hcl, ?_⟩
            refine Vk.dOnly (i := 11) (by kernel_rfl) (Vk.alloc 18 71 [ci 0, ci 0, ci 0, ci 0, ci 0, ci 0, ci 0, ci 0, ci 0, ci 0, ci 0, ci 0, ci 0, ci 0, ci 0, ci 0, ci 0, ci 0, ci 0, ci 0, ci 0, ci 0, ci 0, ci 0] hs (by kernel_rfl) (by kernel_rfl) (by kernel_rfl) fun b_80 w a hs => ?_)
            replace hcl : Ow κ w C_69 := by rw [hC_69]; exact (hs.own.too [4, 5, 6, 7, 8, 9] 10)
            refine ⟨fun _ => hcl, ?_⟩
            obtain ⟨h_81, hm⟩ := ite_t hm
            refine qsA 12 2 v_75.1 hs rfl h_81 rfl fun a w hs => ?_
            replace hcl : Ow κ w C_69 := by rw [hC_69]; exact (hs.own.too [4, 5, 6, 7, 8, 9] 10)
            refine ⟨fun _ => hcl, ?_⟩
            obtain ⟨h_82, hm⟩ := ite_t hm
            refine qsA 13 0 v_79.1 hs rfl h_82 rfl fun a w hs => ?_
            refine ⟨fun h => absurd h (by decide), ?_⟩
            replace hs := hs.pick [2, 3, 4, 6, 11, 12, 16, 17, 18] (L' := [(2, .slice A_15 p_17.length c_16), (3, .int .u8 x3), (4, vw x4), (6, pp b_2), (11, vi p_6), (12, pp b_38), (16, vi v_67), (17, pp b_76), (18, pp b_80)]) (by kernel_rfl)
            refine Vk.dDone (by kernel_rfl) ?_
            exact hj68 v_75.2 v_79.2 v_75.1 v_79.1 hm b_76 b_80 _ _ (hs.go [2, 3, 4, 6, 11, 12, 16, 17, 18] [4, 5, 3, 1, 6, 7, 2, 0] 10 (by kernel_rfl) (by kernel_rfl) (by kernel_rfl))
          ·exact by
            refine Vk.alloc 18 71 [ci 0, ci 0, ci 0, ci 0, ci 0, ci 0, ci 0, ci 0, ci 0, ci 0, ci 0, ci 0, ci 0, ci 0, ci 0, ci 0, ci 0, ci 0, ci 0, ci 0, ci 0, ci 0, ci 0, ci 0] hs (by kernel_rfl) (by kernel_rfl) (by kernel_rfl) fun b_77 w a hs => ?_
            replace hcl : Ow κ w C_69 := by rw [hC_69]; exact (hs.own.too [3, 4, 6, 7, 8, 9] 10)
            refine ⟨fun _ => hcl, ?_⟩
            obtain ⟨v_80, h_79, hm⟩ := bind_t hm
            refine qdc 9 (visorref34_Apply.ok _ _ _ _ _ h_79 _ _ _ br21x0x_33 hs.own.f5) hs fun w a hs => ?_
            replace hcl : Ow κ w C_69 := by rw [hC_69]; exact (hs.own.too [4, 5, 6, 7, 8, 9] 10)
            refine ⟨fun _ => hcl, ?_⟩
            obtain ⟨h_81, hm⟩ := ite_t hm
            refine qsA 12 2 v_75.1 hs rfl h_81 rfl fun a w hs => ?_
            replace hcl : Ow κ w C_69 := by rw [hC_69]; exact (hs.own.too [4, 5, 6, 7, 8, 9] 10)
            refine ⟨fun _ => hcl, ?_⟩
            obtain ⟨h_82, hm⟩ := ite_t hm
            refine qsA 13 1 v_80.1 hs rfl h_82 rfl fun a w hs => ?_
            refine ⟨fun h => absurd h (by decide), ?_⟩
            replace hs := hs.pick [2, 3, 4, 6, 11, 12, 16, 17, 18] (L' := [(2, .slice A_15 p_17.length c_16), (3, .int .u8 x3), (4, vw x4), (6, pp b_2), (11, vi p_6), (12, pp b_38), (16, vi v_67), (17, pp b_76), (18, pp b_77)]) (by kernel_rfl)
            refine Vk.dDone (by kernel_rfl) ?_
            exact hj68 v_75.2 v_80.2 v_75.1 v_80.1 hm b_76 b_77 _ _ (hs.go [2, 3, 4, 6, 11, 12, 16, 17, 18] [4, 5, 3, 0, 6, 7, 2, 1] 10 (by kernel_rfl) (by kernel_rfl) (by kernel_rfl))
        ·exact by
          refine Vk.alloc 18 71 [ci 0, ci 0, ci 0, ci 0, ci 0, ci 0, ci 0, ci 0, ci 0, ci 0, ci 0, ci 0, ci 0, ci 0, ci 0, ci 0, ci 0, ci 0, ci 0, ci 0, ci 0, ci 0, ci 0, ci 0] hs (by kernel_rfl) (by kernel_rfl) (by kernel_rfl) fun b_76 w a hs => ?_
          replace hcl := qO hC_69 hs.own.f4.drop.f1.drop.drop
          refine ⟨fun _ => hcl, ?_⟩
          refine Vk.dMany2 (i0 := 9) (i1 := 10) (by kernel_rfl) ?_ ?_
          ·exact by
            obtain ⟨v_79, h_78, hm⟩ := bind_t hm
            refine qco (visorref34_Apply.ok _ _ _ _ _ h_78 _ _ _ br21x0x_33 hs.own.f4) hs fun w a hs => ?_
            replace hcl := qO hC_69 hs.own.f2.drop.f1.drop.drop
            refine ⟨fun _ => hcl, ?_⟩
            refine Vk.dOnly (i := 10) (by kernel_rfl) (Vk.alloc 17 71 [ci 0, ci 0, ci 0, ci 0, ci 0, ci 0, ci 0, ci 0, ci 0, ci 0, ci 0, ci 0, ci 0, ci 0, ci 0, ci 0, ci 0, ci 0, ci 0, ci 0, ci 0, ci 0, ci 0, ci 0] hs (by kernel_rfl) (by kernel_rfl) (by kernel_rfl) fun b_80 w a hs => ?_)
            replace hcl : Ow κ w C_69 := by rw [hC_69]; exact (hs.own.too [4, 5, 6, 7, 8, 9] 10)
            refine ⟨fun _ => hcl, ?_⟩
            obtain ⟨h_81, hm⟩ := ite_t hm
            refine qsA 12 0 v_75.1 hs rfl h_81 rfl fun a w hs => ?_
            replace hcl : Ow κ w C_69 := by rw [hC_69]; exact (hs.own.too [4, 5, 6, 7, 8, 9] 10)
            refine ⟨fun _ => hcl, ?_⟩
            obtain ⟨h_82, hm⟩ := ite_t hm
            refine qsA 13 2 v_79.1 hs rfl h_82 rfl fun a w hs => ?_
            refine ⟨fun h => absurd h (by decide), ?_⟩
            replace hs := hs.pick [2, 3, 4, 6, 11, 12, 16, 17, 18] (L' := [(2, .slice A_15 p_17.length c_16), (3, .int .u8 x3), (4, vw x4), (6, pp b_2), (11, vi p_6), (12, pp b_38), (16, vi v_67), (17, pp b_80), (18, pp b_76)]) (by kernel_rfl)
            refine Vk.dDone (by kernel_rfl) ?_
            exact hj68 v_75.2 v_79.2 v_75.1 v_79.1 hm b_80 b_76 _ _ (hs.go [2, 3, 4, 6, 11, 12, 16, 17, 18] [4, 5, 3, 1, 6, 7, 0, 2] 10 (by kernel_rfl) (by kernel_rfl) (by kernel_rfl))
          ·exact by
            refine Vk.alloc 17 71 [ci 0, ci 0, ci 0, ci 0, ci 0, ci 0, ci 0, ci 0, ci 0, ci 0, ci 0, ci 0, ci 0, ci 0, ci 0, ci 0, ci 0, ci 0, ci 0, ci 0, ci 0, ci 0, ci 0, ci 0] hs (by kernel_rfl) (by kernel_rfl) (by kernel_rfl) fun b_77 w a hs => ?_
            replace hcl : Ow κ w C_69 := by rw [hC_69]; exact (hs.own.too [3, 4, 6, 7, 8, 9] 10)
            refine ⟨fun _ => hcl, ?_⟩
            obtain ⟨v_80, h_79, hm⟩ := bind_t hm
            refine qdc 9 (visorref34_Apply.ok _ _ _ _ _ h_79 _ _ _ br21x0x_33 hs.own.f5) hs fun w a hs => ?_
            replace hcl : Ow κ w C_69 := by rw [hC_69]; exact (hs.own.too [4, 5, 6, 7, 8, 9] 10)
            refine ⟨fun _ => hcl, ?_⟩
            obtain ⟨h_81, hm⟩ := ite_t hm
            refine qsA 12 1 v_75.1 hs rfl h_81 rfl fun a w hs => ?_
            replace hcl : Ow κ w C_69 := by rw [hC_69]; exact (hs.own.too [4, 5, 6, 7, 8, 9] 10)
            refine ⟨fun _ => hcl, ?_⟩
            obtain ⟨h_82, hm⟩ := ite_t hm
            refine qsA 13 2 v_80.1 hs rfl h_82 rfl fun a w hs => ?_
            refine ⟨fun h => absurd h (by decide), ?_⟩
            replace hs := hs.pick [2, 3, 4, 6, 11, 12, 16, 17, 18] (L' := [(2, .slice A_15 p_17.length c_16), (3, .int .u8 x3), (4, vw x4), (6, pp b_2), (11, vi p_6), (12, pp b_38), (16, vi v_67), (17, pp b_77), (18, pp b_76)]) (by kernel_rfl)
            refine Vk.dDone (by kernel_rfl) ?_
            exact hj68 v_75.2 v_80.2 v_75.1 v_80.1 hm b_77 b_76 _ _ (hs.go [2, 3, 4, 6, 11, 12, 16, 17, 18] [4, 5, 3, 0, 6, 7, 1, 2] 10 (by kernel_rfl) (by kernel_rfl) (by kernel_rfl))
      ·exact by
        refine Vk.alloc 17 71 [ci 0, ci 0, ci 0, ci 0, ci 0, ci 0, ci 0, ci 0, ci 0, ci 0, ci 0, ci 0, ci 0, ci 0, ci 0, ci 0, ci 0, ci 0, ci 0, ci 0, ci 0, ci 0, ci 0, ci 0] hs (by kernel_rfl) (by kernel_rfl) (by kernel_rfl) fun b_73 w a hs => ?_
        replace hcl := qO hC_69 hs.own.f4.drop.f1.drop.drop
        refine ⟨fun _ => hcl, ?_⟩
        refine Vk.dMany2 (i0 := 4) (i1 := 11) (by kernel_rfl) ?_ ?_
        ·exact by
          replace hs := hs.toEx (Twire_Machine.parts br21x0m_32 p_57) g_64 1 rfl
          obtain ⟨v_76, h_75, hm⟩ := bind_t hm
          refine qco (maps_Apply.ok _ _ _ _ _ h_75 _ _ _ br21x0m_32 hs.own.f1) hs fun w a hs => ?_
          replace hcl := qO hC_69 hs.own.f4.drop.f1.drop.drop
          refine ⟨fun _ => hcl, ?_⟩
          refine Vk.dMany2 (i0 := 9) (i1 := 11) (by kernel_rfl) ?_ ?_
          ·exact by
            obtain ⟨v_79, h_78, hm⟩ := bind_t hm
            refine qco (visorref34_Apply.ok _ _ _ _ _ h_78 _ _ _ br21x0x_33 hs.own.f4) hs fun w a hs => ?_
            replace hcl := qO hC_69 hs.own.f2.drop.f1.drop.drop
            refine ⟨fun _ => hcl, ?_⟩
            refine Vk.dOnly (i := 11) (by kernel_rfl) (Vk.alloc 18 71 [ci 0, ci 0, ci 0, ci 0, ci 0, ci 0, ci 0, ci 0, ci 0, ci 0, ci 0, ci 0, ci 0, ci 0, ci 0, ci 0, ci 0, ci 0, ci 0, ci 0, ci 0, ci 0, ci 0, ci 0] hs (by kernel_rfl) (by kernel_rfl) (by kernel_rfl) fun b_80 w a hs => ?_)
            replace hcl : Ow κ w C_69 := by rw [hC_69]; exact (hs.own.too [4, 5, 6, 7, 8, 9] 10)
            refine ⟨fun _ => hcl, ?_⟩
            obtain ⟨h_81, hm⟩ := ite_t hm
            refine qsA 12 3 v_76.1 hs rfl h_81 rfl fun a w hs => ?_
            replace hcl : Ow κ w C_69 := by rw [hC_69]; exact (hs.own.too [4, 5, 6, 7, 8, 9] 10)
            refine ⟨fun _ => hcl, ?_⟩
            obtain ⟨h_82, hm⟩ := ite_t hm
            refine qsA 13 0 v_79.1 hs rfl h_82 rfl fun a w hs => ?_
            refine ⟨fun h => absurd h (by decide), ?_⟩
            replace hs := hs.pick [2, 3, 4, 6, 11, 12, 16, 17, 18] (L' := [(2, .slice A_15 p_17.length c_16), (3, .int .u8 x3), (4, vw x4), (6, pp b_2), (11, vi p_6), (12, pp b_38), (16, vi v_67), (17, pp b_73), (18, pp b_80)]) (by kernel_rfl)
            refine Vk.dDone (by kernel_rfl) ?_
            exact hj68 v_76.2 v_79.2 v_76.1 v_79.1 hm b_73 b_80 _ _ (hs.go [2, 3, 4, 6, 11, 12, 16, 17, 18] [4, 5, 2, 1, 6, 7, 3, 0] 10 (by kernel_rfl) (by kernel_rfl) (by kernel_rfl))
          ·exact by
            refine Vk.alloc 18 71 [ci 0, ci 0, ci 0, ci 0, ci 0, ci 0, ci 0, ci 0, ci 0, ci 0, ci 0, ci 0, ci 0, ci 0, ci 0, ci 0, ci 0, ci 0, ci 0, ci 0, ci 0, ci 0, ci 0, ci 0] hs (by kernel_rfl) (by kernel_rfl) (by kernel_rfl) fun b_77 w a hs => ?_
            replace hcl : Ow κ w C_69 := by rw [hC_69]; exact (hs.own.too [3, 4, 6, 7, 8, 9] 10)
            refine ⟨fun _ => hcl, ?_⟩
            obtain ⟨v_80, h_79, hm⟩ := bind_t hm
            refine qdc 9 (visorref34_Apply.ok _ _ _ _ _ h_79 _ _ _ br21x0x_33 hs.own.f5) hs fun w a hs => ?_
            replace hcl : Ow κ w C_69 := by rw [hC_69]; exact (hs.own.too [4, 5, 6, 7, 8, 9] 10)
            refine ⟨fun _ => hcl, ?_⟩
            obtain ⟨h_81, hm⟩ := ite_t hm
            refine qsA 12 3 v_76.1 hs rfl h_81 rfl fun a w hs => ?_
            replace hcl : Ow κ w C_69 := by rw [hC_69]; exact (hs.own.too [4, 5, 6, 7, 8, 9] 10)
            refine ⟨fun _ => hcl, ?_⟩
            obtain ⟨h_82, hm⟩ := ite_t hm
            refine qsA 13 1 v_80.1 hs rfl h_82 rfl fun a w hs => ?_
            refine ⟨fun h => absurd h (by decide), ?_⟩
            replace hs := hs.pick [2, 3, 4, 6, 11, 12, 16, 17, 18] (L' := [(2, .slice A_15 p_17.length c_16), (3, .int .u8 x3), (4, vw x4), (6, pp b_2), (11, vi p_6), (12, pp b_38), (16, vi v_67), (17, pp b_73), (18, pp b_77)]) (by kernel_rfl)
            refine Vk.dDone (by kernel_rfl) ?_
            exact hj68 v_76.2 v_80.2 v_76.1 v_80.1 hm b_73 b_77 _ _ (hs.go [2, 3, 4, 6, 11, 12, 16, 17, 18] [4, 5, 2, 0, 6, 7, 3, 1] 10 (by kernel_rfl) (by kernel_rfl) (by kernel_rfl))
        ·exact by
          refine Vk.alloc 18 71 [ci 0, ci 0, ci 0, ci 0, ci 0, ci 0, ci 0, ci 0, ci 0, ci 0, ci 0, ci 0, ci 0, ci 0, ci 0, ci 0, ci 0, ci 0, ci 0, ci 0, ci 0, ci 0, ci 0, ci 0] hs (by kernel_rfl) (by kernel_rfl) (by kernel_rfl) fun b_74 w a hs => ?_
          replace hcl : Ow κ w C_69 := by rw [hC_69]; exact (hs.own.too [3, 4, 6, 7, 8, 9] 10)
          refine ⟨fun _ => hcl, ?_⟩
          replace hs := hs.toEx (Twire_Machine.parts br21x0m_32 p_57) g_64 2 rfl
          obtain ⟨v_77, h_76, hm⟩ := bind_t hm
          refine qdc 4 (maps_Apply.ok _ _ _ _ _ h_76 _ _ _ br21x0m_32 hs.own.f2) hs fun w a hs => ?_
          replace hcl : Ow κ w C_69 := by rw [hC_69]; exact (hs.own.too [3, 4, 6, 7, 8, 9] 10)
          refine ⟨fun _ => hcl, ?_⟩
          obtain ⟨v_80, h_79, hm⟩ := bind_t hm
          refine qdc 9 (visorref34_Apply.ok _ _ _ _ _ h_79 _ _ _ br21x0x_33 hs.own.f5) hs fun w a hs => ?_
          replace hcl : Ow κ w C_69 := by rw [hC_69]; exact (hs.own.too [4, 5, 6, 7, 8, 9] 10)
          refine ⟨fun _ => hcl, ?_⟩
          obtain ⟨h_81, hm⟩ := ite_t hm
          refine qsA 12 3 v_77.1 hs rfl h_81 rfl fun a w hs => ?_
          replace hcl : Ow κ w C_69 := by rw [hC_69]; exact (hs.own.too [4, 5, 6, 7, 8, 9] 10)
          refine ⟨fun _ => hcl, ?_⟩
          obtain ⟨h_82, hm⟩ := ite_t hm
          refine qsA 13 2 v_80.1 hs rfl h_82 rfl fun a w hs => ?_
          refine ⟨fun h => absurd h (by decide), ?_⟩
          replace hs := hs.pick [2, 3, 4, 6, 11, 12, 16, 17, 18] (L' := [(2, .slice A_15 p_17.length c_16), (3, .int .u8 x3), (4, vw x4), (6, pp b_2), (11, vi p_6), (12, pp b_38), (16, vi v_67), (17, pp b_73), (18, pp b_74)]) (by kernel_rfl)
          refine Vk.dDone (by kernel_rfl) ?_
          exact hj68 v_77.2 v_80.2 v_77.1 v_80.1 hm b_73 b_74 _ _ (hs.go [2, 3, 4, 6, 11, 12, 16, 17, 18] [4, 5, 1, 0, 6, 7, 3, 2] 10 (by kernel_rfl) (by kernel_rfl) (by kernel_rfl))
      ·exact by
        refine Vk.alloc 18 71 [ci 0, ci 0, ci 0, ci 0, ci 0, ci 0, ci 0, ci 0, ci 0, ci 0, ci 0, ci 0, ci 0, ci 0, ci 0, ci 0, ci 0, ci 0, ci 0, ci 0, ci 0, ci 0, ci 0, ci 0] hs (by kernel_rfl) (by kernel_rfl) (by kernel_rfl) fun b_73 w a hs => ?_
        replace hcl := qO hC_69 hs.own.f4.drop.f1.drop.drop
        refine ⟨fun _ => hcl, ?_⟩
        refine Vk.dMany2 (i0 := 4) (i1 := 10) (by kernel_rfl) ?_ ?_
        ·exact by
          replace hs := hs.toEx (Twire_Machine.parts br21x0m_32 p_57) g_64 1 rfl
          obtain ⟨v_76, h_75, hm⟩ := bind_t hm
          refine qco (maps_Apply.ok _ _ _ _ _ h_75 _ _ _ br21x0m_32 hs.own.f1) hs fun w a hs => ?_
          replace hcl := qO hC_69 hs.own.f4.drop.f1.drop.drop
          refine ⟨fun _ => hcl, ?_⟩
          refine Vk.dMany2 (i0 := 9) (i1 := 10) (by kernel_rfl) ?_ ?_
          ·exact by
            obtain ⟨v_79, h_78, hm⟩ := bind_t hm
            refine qco (visorref34_Apply.ok _ _ _ _ _ h_78 _ _ _ br21x0x_33 hs.own.f4) hs fun w a hs => ?_
            replace hcl := qO hC_69 hs.own.f2.drop.f1.drop.drop
            refine ⟨fun _ => hcl, ?_⟩
            refine Vk.dOnly (i := 10) (by kernel_rfl) (Vk.alloc 17 71 [ci 0, ci 0, ci 0, ci 0, ci 0, ci 0, ci 0, ci 0, ci 0, ci 0, ci 0, ci 0, ci 0, ci 0, ci 0, ci 0, ci 0, ci 0, ci 0, ci 0, ci 0, ci 0, ci 0, ci 0] hs (by kernel_rfl) (by kernel_rfl) (by kernel_rfl) fun b_80 w a hs => ?_)
            replace hcl : Ow κ w C_69 := by rw [hC_69]; exact (hs.own.too [4, 5, 6, 7, 8, 9] 10)
            refine ⟨fun _ => hcl, ?_⟩
            obtain ⟨h_81, hm⟩ := ite_t hm
            refine qsA 12 0 v_76.1 hs rfl h_81 rfl fun a w hs => ?_
            replace hcl : Ow κ w C_69 := by rw [hC_69]; exact (hs.own.too [4, 5, 6, 7, 8, 9] 10)
            refine ⟨fun _ => hcl, ?_⟩
            obtain ⟨h_82, hm⟩ := ite_t hm
            refine qsA 13 3 v_79.1 hs rfl h_82 rfl fun a w hs => ?_
            refine ⟨fun h => absurd h (by decide), ?_⟩
            replace hs := hs.pick [2, 3, 4, 6, 11, 12, 16, 17, 18] (L' := [(2, .slice A_15 p_17.length c_16), (3, .int .u8 x3), (4, vw x4), (6, pp b_2), (11, vi p_6), (12, pp b_38), (16, vi v_67), (17, pp b_80), (18, pp b_73)]) (by kernel_rfl)
            refine Vk.dDone (by kernel_rfl) ?_
            exact hj68 v_76.2 v_79.2 v_76.1 v_79.1 hm b_80 b_73 _ _ (hs.go [2, 3, 4, 6, 11, 12, 16, 17, 18] [4, 5, 2, 1, 6, 7, 0, 3] 10 (by kernel_rfl) (by kernel_rfl) (by kernel_rfl))
          ·exact by
            refine Vk.alloc 17 71 [ci 0, ci 0, ci 0, ci 0, ci 0, ci 0, ci 0, ci 0, ci 0, ci 0, ci 0, ci 0, ci 0, ci 0, ci 0, ci 0, ci 0, ci 0, ci 0, ci 0, ci 0, ci 0, ci 0, ci 0] hs (by kernel_rfl) (by kernel_rfl) (by kernel_rfl) fun b_77 w a hs => ?_
            replace hcl : Ow κ w C_69 := by rw [hC_69]; exact (hs.own.too [3, 4, 6, 7, 8, 9] 10)
            refine ⟨fun _ => hcl, ?_⟩
            obtain ⟨v_80, h_79, hm⟩ := bind_t hm
            refine qdc 9 (visorref34_Apply.ok _ _ _ _ _ h_79 _ _ _ br21x0x_33 hs.own.f5) hs fun w a hs => ?_
            replace hcl : Ow κ w C_69 := by rw [hC_69]; exact (hs.own.too [4, 5, 6, 7, 8, 9] 10)
            refine ⟨fun _ => hcl, ?_⟩
            obtain ⟨h_81, hm⟩ := ite_t hm
            refine qsA 12 1 v_76.1 hs rfl h_81 rfl fun a w hs => ?_
            replace hcl : Ow κ w C_69 := by rw [hC_69]; exact (hs.own.too [4, 5, 6, 7, 8, 9] 10)
            refine ⟨fun _ => hcl, ?_⟩
            obtain ⟨h_82, hm⟩ := ite_t hm
            refine qsA 13 3 v_80.1 hs rfl h_82 rfl fun a w hs => ?_
            refine ⟨fun h => absurd h (by decide), ?_⟩
            replace hs := hs.pick [2, 3, 4, 6, 11, 12, 16, 17, 18] (L' := [(2, .slice A_15 p_17.length c_16), (3, .int .u8 x3), (4, vw x4), (6, pp b_2), (11, vi p_6), (12, pp b_38), (16, vi v_67), (17, pp b_77), (18, pp b_73)]) (by kernel_rfl)
            refine Vk.dDone (by kernel_rfl) ?_
            exact hj68 v_76.2 v_80.2 v_76.1 v_80.1 hm b_77 b_73 _ _ (hs.go [2, 3, 4, 6, 11, 12, 16, 17, 18] [4, 5, 2, 0, 6, 7, 1, 3] 10 (by kernel_rfl) (by kernel_rfl) (by kernel_rfl))
        ·exact by
          refine Vk.alloc 17 71 [ci 0, ci 0, ci 0, ci 0, ci 0, ci 0, ci 0, ci 0, ci 0, ci 0, ci 0, ci 0, ci 0, ci 0, ci 0, ci 0, ci 0, ci 0, ci 0, ci 0, ci 0, ci 0, ci 0, ci 0] hs (by kernel_rfl) (by kernel_rfl) (by kernel_rfl) fun b_74 w a hs => ?_
          replace hcl : Ow κ w C_69 := by rw [hC_69]; exact (hs.own.too [3, 4, 6, 7, 8, 9] 10)
          refine ⟨fun _ => hcl, ?_⟩
          replace hs := hs.toEx (Twire_Machine.parts br21x0m_32 p_57) g_64 2 rfl
          obtain ⟨v_77, h_76, hm⟩ := bind_t hm
          refine qdc 4 (maps_Apply.ok _ _ _ _ _ h_76 _ _ _ br21x0m_32 hs.own.f2) hs fun w a hs => ?_
          replace hcl : Ow κ w C_69 := by rw [hC_69]; exact (hs.own.too [3, 4, 6, 7, 8, 9] 10)
          refine ⟨fun _ => hcl, ?_⟩
          obtain ⟨v_80, h_79, hm⟩ := bind_t hm
          refine qdc 9 (visorref34_Apply.ok _ _ _ _ _ h_79 _ _ _ br21x0x_33 hs.own.f5) hs fun w a hs => ?_
          replace hcl : Ow κ w C_69 := by rw [hC_69]; exact (hs.own.too [4, 5, 6, 7, 8, 9] 10)
          refine ⟨fun _ => hcl, ?_⟩
          obtain ⟨h_81, hm⟩ := ite_t hm
          refine qsA 12 2 v_77.1 hs rfl h_81 rfl fun a w hs => ?_
          replace hcl : Ow κ w C_69 := by rw [hC_69]; exact (hs.own.too [4, 5, 6, 7, 8, 9] 10)
          refine ⟨fun _ => hcl, ?_⟩
          obtain ⟨h_82, hm⟩ := ite_t hm
          refine qsA 13 3 v_80.1 hs rfl h_82 rfl fun a w hs => ?_
          refine ⟨fun h => absurd h (by decide), ?_⟩
          replace hs := hs.pick [2, 3, 4, 6, 11, 12, 16, 17, 18] (L' := [(2, .slice A_15 p_17.length c_16), (3, .int .u8 x3), (4, vw x4), (6, pp b_2), (11, vi p_6), (12, pp b_38), (16, vi v_67), (17, pp b_74), (18, pp b_73)]) (by kernel_rfl)
          refine Vk.dDone (by kernel_rfl) ?_
          exact hj68 v_77.2 v_80.2 v_77.1 v_80.1 hm b_74 b_73 _ _ (hs.go [2, 3, 4, 6, 11, 12, 16, 17, 18] [4, 5, 1, 0, 6, 7, 2, 3] 10 (by kernel_rfl) (by kernel_rfl) (by kernel_rfl))
     obtain ⟨C_46, hC_46⟩ := qC hs.own.f2.drop.f1.drop
     refine qdr 11 κ C_46 hs fun w hs hqC_46 => ?_
     have hcl := qO hC_46 hs.own.f2.drop.f1.drop
     refine qdp (fuel := 8) [0, 2, 4, 6] hs hcl hqC_46 fun a hs => ?_
     refine qdl 1 0 (cp br21x0m_32) hs hcl hqC_46 hC_46 rfl fun a hs => ?_
     refine qdl 5 0 (cp br21x0x_33) hs hcl hqC_46 hC_46 rfl fun a hs => ?_
     refine Vk.dMany3 (i0 := 3) (i1 := 8) (i2 := 9) (by kernel_rfl) ?_ ?_ ?_
     ·exact by
       obtain ⟨v_49, h_48, hm⟩ := bind_t hm
       refine qco (slice_Public.ok _ _ _ _ h_48 _ _ _ br21x0m_32 A_15 c_16 hx_18.less.less.less.less.less hs.own.f1) hs fun w a hs => ?_
       replace hcl := qO hC_46 hs.own.f2.drop.drop
       refine ⟨fun _ => hcl, ?_⟩
       refine Vk.dMany3 (i0 := 7) (i1 := 8) (i2 := 9) (by kernel_rfl) ?_ ?_ ?_
       ·exact by
         obtain ⟨v_52, h_51, hm⟩ := bind_t hm
         refine qco (visorref33_Const.ok _ _ _ _ _ h_51 _ _ _ br21x0x_33 A_15 c_16 hx_18.less.less.less.less.less hs.own.f2) hs fun w a hs => ?_
         replace hcl := qO hC_46 hs.own.f1.drop.drop
         refine ⟨fun _ => hcl, ?_⟩
         refine Vk.dMany2 (i0 := 8) (i1 := 9) (by kernel_rfl) ?_ ?_
         ·exact by
           refine Vk.alloc 14 71 [ci 0, ci 0, ci 0, ci 0, ci 0, ci 0, ci 0, ci 0, ci 0, ci 0, ci 0, ci 0, ci 0, ci 0, ci 0, ci 0, ci 0, ci 0, ci 0, ci 0, ci 0, ci 0, ci 0, ci 0] hs (by kernel_rfl) (by kernel_rfl) (by kernel_rfl) fun b_53 w a hs => ?_
           replace hcl := qO hC_46 hs.own.f2.drop.f1.drop.drop
           refine ⟨fun _ => hcl, ?_⟩
           refine Vk.dOnly (i := 9) (by kernel_rfl) (Vk.alloc 15 71 [ci 0, ci 0, ci 0, ci 0, ci 0, ci 0, ci 0, ci 0, ci 0, ci 0, ci 0, ci 0, ci 0, ci 0, ci 0, ci 0, ci 0, ci 0, ci 0, ci 0, ci 0, ci 0, ci 0, ci 0] hs (by kernel_rfl) (by kernel_rfl) (by kernel_rfl) fun b_54 w a hs => ?_)
           replace hcl : Ow κ w C_46 := by rw [hC_46]; exact (hs.own.too [4, 5, 6, 7] 8)
           refine ⟨fun _ => hcl, ?_⟩
           obtain ⟨h_55, hm⟩ := ite_t hm
           refine qsA 10 1 v_49.1 hs rfl h_55 rfl fun a w hs => ?_
           replace hcl : Ow κ w C_46 := by rw [hC_46]; exact (hs.own.too [4, 5, 6, 7] 8)
           refine ⟨fun _ => hcl, ?_⟩
           obtain ⟨h_56, hm⟩ := ite_t hm
           refine qsA 11 0 v_52.1 hs rfl h_56 rfl fun a w hs => ?_
           refine ⟨fun h => absurd h (by decide), ?_⟩
           replace hs := hs.pick [2, 3, 4, 6, 11, 12, 14, 15] (L' := [(2, .slice A_15 p_17.length c_16), (3, .int .u8 x3), (4, vw x4), (6, pp b_2), (11, vi p_6), (12, pp b_38), (14, pp b_53), (15, pp b_54)]) (by kernel_rfl)
           refine Vk.dDone (by kernel_rfl) ?_
           exact hj45 v_49.2 v_52.2 v_49.1 v_52.1 hm b_53 b_54 _ _ (hs.go [2, 3, 4, 6, 11, 12, 14, 15] [7, 4, 3, 2, 5, 6, 1, 0] 8 (by kernel_rfl) (by kernel_rfl) (by kernel_rfl))
         ·exact by
           refine Vk.alloc 15 71 [ci 0, ci 0, ci 0, ci 0, ci 0, ci 0, ci 0, ci 0, ci 0, ci 0, ci 0, ci 0, ci 0, ci 0, ci 0, ci 0, ci 0, ci 0, ci 0, ci 0, ci 0, ci 0, ci 0, ci 0] hs (by kernel_rfl) (by kernel_rfl) (by kernel_rfl) fun b_53 w a hs => ?_
           replace hcl := qO hC_46 hs.own.f2.drop.f1.drop.drop
           refine ⟨fun _ => hcl, ?_⟩
           refine Vk.dOnly (i := 8) (by kernel_rfl) (Vk.alloc 14 71 [ci 0, ci 0, ci 0, ci 0, ci 0, ci 0, ci 0, ci 0, ci 0, ci 0, ci 0, ci 0, ci 0, ci 0, ci 0, ci 0, ci 0, ci 0, ci 0, ci 0, ci 0, ci 0, ci 0, ci 0] hs (by kernel_rfl) (by kernel_rfl) (by kernel_rfl) fun b_54 w a hs => ?_)
           replace hcl : Ow κ w C_46 := by rw [hC_46]; exact (hs.own.too [4, 5, 6, 7] 8)
           refine ⟨fun _ => hcl, ?_⟩
           obtain ⟨h_55, hm⟩ := ite_t hm
           refine qsA 10 0 v_49.1 hs rfl h_55 rfl fun a w hs => ?_
           replace hcl : Ow κ w C_46 := by rw [hC_46]; exact (hs.own.too [4, 5, 6, 7] 8)
           refine ⟨fun _ => hcl, ?_⟩
           obtain ⟨h_56, hm⟩ := ite_t hm
           refine qsA 11 1 v_52.1 hs rfl h_56 rfl fun a w hs => ?_
           refine ⟨fun h => absurd h (by decide), ?_⟩
           replace hs := hs.pick [2, 3, 4, 6, 11, 12, 14, 15] (L' := [(2, .slice A_15 p_17.length c_16), (3, .int .u8 x3), (4, vw x4), (6, pp b_2), (11, vi p_6), (12, pp b_38), (14, pp b_54), (15, pp b_53)]) (by kernel_rfl)
           refine Vk.dDone (by kernel_rfl) ?_
           exact hj45 v_49.2 v_52.2 v_49.1 v_52.1 hm b_54 b_53 _ _ (hs.go [2, 3, 4, 6, 11, 12, 14, 15] [7, 4, 3, 2, 5, 6, 0, 1] 8 (by kernel_rfl) (by kernel_rfl) (by kernel_rfl))
       ·exact by
         refine Vk.alloc 14 71 [ci 0, ci 0, ci 0, ci 0, ci 0, ci 0, ci 0, ci 0, ci 0, ci 0, ci 0, ci 0, ci 0, ci 0, ci 0, ci 0, ci 0, ci 0, ci 0, ci 0, ci 0, ci 0, ci 0, ci 0] hs (by kernel_rfl) (by kernel_rfl) (by kernel_rfl) fun b_50 w a hs => ?_
         replace hcl := qO hC_46 hs.own.f3.drop.f1.drop.drop
         refine ⟨fun _ => hcl, ?_⟩
         refine Vk.dMany2 (i0 := 7) (i1 := 9) (by kernel_rfl) ?_ ?_
         ·exact by
           obtain ⟨v_53, h_52, hm⟩ := bind_t hm
           refine qco (visorref33_Const.ok _ _ _ _ _ h_52 _ _ _ br21x0x_33 A_15 c_16 hx_18.less.less.less.less.less.less hs.own.f3) hs fun w a hs => ?_
           replace hcl := qO hC_46 hs.own.f2.drop.f1.drop.drop
           refine ⟨fun _ => hcl, ?_⟩
           refine Vk.dOnly (i := 9) (by kernel_rfl) (Vk.alloc 15 71 [ci 0, ci 0, ci 0, ci 0, ci 0, ci 0, ci 0, ci 0, ci 0, ci 0, ci 0, ci 0, ci 0, ci 0, ci 0, ci 0, ci 0, ci 0, ci 0, ci 0, ci 0, ci 0, ci 0, ci 0] hs (by kernel_rfl) (by kernel_rfl) (by kernel_rfl) fun b_54 w a hs => ?_)
           replace hcl : Ow κ w C_46 := by rw [hC_46]; exact (hs.own.too [4, 5, 6, 7] 8)
           refine ⟨fun _ => hcl, ?_⟩
           obtain ⟨h_55, hm⟩ := ite_t hm
           refine qsA 10 2 v_49.1 hs rfl h_55 rfl fun a w hs => ?_
           replace hcl : Ow κ w C_46 := by rw [hC_46]; exact (hs.own.too [4, 5, 6, 7] 8)
           refine ⟨fun _ => hcl, ?_⟩
           obtain ⟨h_56, hm⟩ := ite_t hm
           refine qsA 11 0 v_53.1 hs rfl h_56 rfl fun a w hs => ?_
           refine ⟨fun h => absurd h (by decide), ?_⟩
           replace hs := hs.pick [2, 3, 4, 6, 11, 12, 14, 15] (L' := [(2, .slice A_15 p_17.length c_16), (3, .int .u8 x3), (4, vw x4), (6, pp b_2), (11, vi p_6), (12, pp b_38), (14, pp b_50), (15, pp b_54)]) (by kernel_rfl)
           refine Vk.dDone (by kernel_rfl) ?_
           exact hj45 v_49.2 v_53.2 v_49.1 v_53.1 hm b_50 b_54 _ _ (hs.go [2, 3, 4, 6, 11, 12, 14, 15] [7, 4, 3, 1, 5, 6, 2, 0] 8 (by kernel_rfl) (by kernel_rfl) (by kernel_rfl))
         ·exact by
           refine Vk.alloc 15 71 [ci 0, ci 0, ci 0, ci 0, ci 0, ci 0, ci 0, ci 0, ci 0, ci 0, ci 0, ci 0, ci 0, ci 0, ci 0, ci 0, ci 0, ci 0, ci 0, ci 0, ci 0, ci 0, ci 0, ci 0] hs (by kernel_rfl) (by kernel_rfl) (by kernel_rfl) fun b_51 w a hs => ?_
           replace hcl : Ow κ w C_46 := by rw [hC_46]; exact (hs.own.too [3, 5, 6, 7] 8)
           refine ⟨fun _ => hcl, ?_⟩
           obtain ⟨v_54, h_53, hm⟩ := bind_t hm
           refine qdc 7 (visorref33_Const.ok _ _ _ _ _ h_53 _ _ _ br21x0x_33 A_15 c_16 hx_18.less.less.less.less.less.less.less hs.own.f4) hs fun w a hs => ?_
           replace hcl : Ow κ w C_46 := by rw [hC_46]; exact (hs.own.too [4, 5, 6, 7] 8)
           refine ⟨fun _ => hcl, ?_⟩
           obtain ⟨h_55, hm⟩ := ite_t hm
           refine qsA 10 2 v_49.1 hs rfl h_55 rfl fun a w hs => ?_
           replace hcl : Ow κ w C_46 := by rw [hC_46]; exact (hs.own.too [4, 5, 6, 7] 8)
           refine ⟨fun _ => hcl, ?_⟩
           obtain ⟨h_56, hm⟩ := ite_t hm
           refine qsA 11 1 v_54.1 hs rfl h_56 rfl fun a w hs => ?_
           refine ⟨fun h => absurd h (by decide), ?_⟩
           replace hs := hs.pick [2, 3, 4, 6, 11, 12, 14, 15] (L' := [(2, .slice A_15 p_17.length c_16), (3, .int .u8 x3), (4, vw x4), (6, pp b_2), (11, vi p_6), (12, pp b_38), (14, pp b_50), (15, pp b_51)]) (by kernel_rfl)
           refine Vk.dDone (by kernel_rfl) ?_
           exact hj45 v_49.2 v_54.2 v_49.1 v_54.1 hm b_50 b_51 _ _ (hs.go [2, 3, 4, 6, 11, 12, 14, 15] [7, 4, 3, 0, 5, 6, 2, 1] 8 (by kernel_rfl) (by kernel_rfl) (by kernel_rfl))
       ·exact by
         refine Vk.alloc 15 71 [ci 0, ci 0, ci 0, ci 0, ci 0, ci 0, ci 0, ci 0, ci 0, ci 0, ci 0, ci 0, ci 0, ci 0, ci 0, ci 0, ci 0, ci 0, ci 0, ci 0, ci 0, ci 0, ci 0, ci 0] hs (by kernel_rfl) (by kernel_rfl) (by kernel_rfl) fun b_50 w a hs => ?_
         replace hcl := qO hC_46 hs.own.f3.drop.f1.drop.drop
         refine ⟨fun _ => hcl, ?_⟩
         refine Vk.dMany2 (i0 := 7) (i1 := 8) (by kernel_rfl) ?_ ?_
         ·exact by
           obtain ⟨v_53, h_52, hm⟩ := bind_t hm
           refine qco (visorref33_Const.ok _ _ _ _ _ h_52 _ _ _ br21x0x_33 A_15 c_16 hx_18.less.less.less.less.less.less hs.own.f3) hs fun w a hs => ?_
           replace hcl := qO hC_46 hs.own.f2.drop.f1.drop.drop
           refine ⟨fun _ => hcl, ?_⟩
           refine Vk.dOnly (i := 8) (by kernel_rfl) (Vk.alloc 14 71 [ci 0, ci 0, ci 0, ci 0, ci 0, ci 0, ci 0, ci 0, ci 0, ci 0, ci 0, ci 0, ci 0, ci 0, ci 0, ci 0, ci 0, ci 0, ci 0, ci 0, ci 0, ci 0, ci 0, ci 0] hs (by kernel_rfl) (by kernel_rfl) (by kernel_rfl) fun b_54 w a hs => ?_)
           replace hcl : Ow κ w C_46 := by rw [hC_46]; exact (hs.own.too [4, 5, 6, 7] 8)
           refine ⟨fun _ => hcl, ?_⟩
           obtain ⟨h_55, hm⟩ := ite_t hm
           refine qsA 10 0 v_49.1 hs rfl h_55 rfl fun a w hs => ?_
           replace hcl : Ow κ w C_46 := by rw [hC_46]; exact (hs.own.too [4, 5, 6, 7] 8)
           refine ⟨fun _ => hcl, ?_⟩
           obtain ⟨h_56, hm⟩ := ite_t hm
           refine qsA 11 2 v_53.1 hs rfl h_56 rfl fun a w hs => ?_
           refine ⟨fun h => absurd h (by decide), ?_⟩
           replace hs := hs.pick [2, 3, 4, 6, 11, 12, 14, 15] (L' := [(2, .slice A_15 p_17.length c_16), (3, .int .u8 x3), (4, vw x4), (6, pp b_2), (11, vi p_6), (12, pp b_38), (14, pp b_54), (15, pp b_50)]) (by kernel_rfl)
           refine Vk.dDone (by kernel_rfl) ?_
           exact hj45 v_49.2 v_53.2 v_49.1 v_53.1 hm b_54 b_50 _ _ (hs.go [2, 3, 4, 6, 11, 12, 14, 15] [7, 4, 3, 1, 5, 6, 0, 2] 8 (by kernel_rfl) (by kernel_rfl) (by kernel_rfl))
         ·exact by
           refine Vk.alloc 14 71 [ci 0, ci 0, ci 0, ci 0, ci 0, ci 0, ci 0, ci 0, ci 0, ci 0, ci 0, ci 0, ci 0, ci 0, ci 0, ci 0, ci 0, ci 0, ci 0, ci 0, ci 0, ci 0, ci 0, ci 0] hs (by kernel_rfl) (by kernel_rfl) (by kernel_rfl) fun b_51 w a hs => ?_
           replace hcl : Ow κ w C_46 := by rw [hC_46]; exact (hs.own.too [3, 5, 6, 7] 8)
           refine ⟨fun _ => hcl, ?_⟩
           obtain ⟨v_54, h_53, hm⟩ := bind_t hm
           refine qdc 7 (visorref33_Const.ok _ _ _ _ _ h_53 _ _ _ br21x0x_33 A_15 c_16 hx_18.less.less.less.less.less.less.less hs.own.f4) hs fun w a hs => ?_
           replace hcl : Ow κ w C_46 := by rw [hC_46]; exact (hs.own.too [4, 5, 6, 7] 8)
           refine ⟨fun _ => hcl, ?_⟩
           obtain ⟨h_55, hm⟩ := ite_t hm
           refine qsA 10 1 v_49.1 hs rfl h_55 rfl fun a w hs => ?_
           replace hcl : Ow κ w C_46 := by rw [hC_46]; exact (hs.own.too [4, 5, 6, 7] 8)
           refine ⟨fun _ => hcl, ?_⟩
           obtain ⟨h_56, hm⟩ := ite_t hm
           refine qsA 11 2 v_54.1 hs rfl h_56 rfl fun a w hs => ?_
           refine ⟨fun h => absurd h (by decide), ?_⟩
           replace hs := hs.pick [2, 3, 4, 6, 11, 12, 14, 15] (L' := [(2, .slice A_15 p_17.length c_16), (3, .int .u8 x3), (4, vw x4), (6, pp b_2), (11, vi p_6), (12, pp b_38), (14, pp b_51), (15, pp b_50)]) (by kernel_rfl)
           refine Vk.dDone (by kernel_rfl) ?_
           exact hj45 v_49.2 v_54.2 v_49.1 v_54.1 hm b_51 b_50 _ _ (hs.go [2, 3, 4, 6, 11, 12, 14, 15] [7, 4, 3, 0, 5, 6, 1, 2] 8 (by kernel_rfl) (by kernel_rfl) (by kernel_rfl))
     ·exact by
       refine Vk.alloc 14 71 [ci 0, ci 0, ci 0, ci 0, ci 0, ci 0, ci 0, ci 0, ci 0, ci 0, ci 0, ci 0, ci 0, ci 0, ci 0, ci 0, ci 0, ci 0, ci 0, ci 0, ci 0, ci 0, ci 0, ci 0] hs (by kernel_rfl) (by kernel_rfl) (by kernel_rfl) fun b_47 w a hs => ?_
       replace hcl := qO hC_46 hs.own.f3.drop.f2.drop.drop
       refine ⟨fun _ => hcl, ?_⟩
       refine Vk.dMany2 (i0 := 3) (i1 := 9) (by kernel_rfl) ?_ ?_
       ·exact by
         obtain ⟨v_50, h_49, hm⟩ := bind_t hm
         refine qco (slice_Public.ok _ _ _ _ h_49 _ _ _ br21x0m_32 A_15 c_16 hx_18.less.less.less.less.less.less hs.own.f2) hs fun w a hs => ?_
         replace hcl := qO hC_46 hs.own.f3.drop.f1.drop.drop
         refine ⟨fun _ => hcl, ?_⟩
         refine Vk.dMany2 (i0 := 7) (i1 := 9) (by kernel_rfl) ?_ ?_
         ·exact by
           obtain ⟨v_53, h_52, hm⟩ := bind_t hm
           refine qco (visorref33_Const.ok _ _ _ _ _ h_52 _ _ _ br21x0x_33 A_15 c_16 hx_18.less.less.less.less.less.less hs.own.f3) hs fun w a hs => ?_
           replace hcl := qO hC_46 hs.own.f2.drop.f1.drop.drop
           refine ⟨fun _ => hcl, ?_⟩
           refine Vk.dOnly (i := 9) (by kernel_rfl) (Vk.alloc 15 71 [ci 0, ci 0, ci 0, ci 0, ci 0, ci 0, ci 0, ci 0, ci 0, ci 0, ci 0, ci 0, ci 0, ci 0, ci 0, ci 0, ci 0, ci 0, ci 0, ci 0, ci 0, ci 0, ci 0, ci 0] hs (by kernel_rfl) (by kernel_rfl) (by kernel_rfl) fun b_54 w a hs => ?_)
           replace hcl : Ow κ w C_46 := by rw [hC_46]; exact (hs.own.too [4, 5, 6, 7] 8)
           refine ⟨fun _ => hcl, ?_⟩
           obtain ⟨h_55, hm⟩ := ite_t hm
           refine qsA 10 3 v_50.1 hs rfl h_55 rfl fun a w hs => ?_
           replace hcl : Ow κ w C_46 := by rw [hC_46]; exact (hs.own.too [4, 5, 6, 7] 8)
           refine ⟨fun _ => hcl, ?_⟩
           obtain ⟨h_56, hm⟩ := ite_t hm
           refine qsA 11 0 v_53.1 hs rfl h_56 rfl fun a w hs => ?_
           refine ⟨fun h => absurd h (by decide), ?_⟩
           replace hs := hs.pick [2, 3, 4, 6, 11, 12, 14, 15] (L' := [(2, .slice A_15 p_17.length c_16), (3, .int .u8 x3), (4, vw x4), (6, pp b_2), (11, vi p_6), (12, pp b_38), (14, pp b_47), (15, pp b_54)]) (by kernel_rfl)
           refine Vk.dDone (by kernel_rfl) ?_
           exact hj45 v_50.2 v_53.2 v_50.1 v_53.1 hm b_47 b_54 _ _ (hs.go [2, 3, 4, 6, 11, 12, 14, 15] [7, 4, 2, 1, 5, 6, 3, 0] 8 (by kernel_rfl) (by kernel_rfl) (by kernel_rfl))
         ·exact by
           refine Vk.alloc 15 71 [ci 0, ci 0, ci 0, ci 0, ci 0, ci 0, ci 0, ci 0, ci 0, ci 0, ci 0, ci 0, ci 0, ci 0, ci 0, ci 0, ci 0, ci 0, ci 0, ci 0, ci 0, ci 0, ci 0, ci 0] hs (by kernel_rfl) (by kernel_rfl) (by kernel_rfl) fun b_51 w a hs => ?_
           replace hcl : Ow κ w C_46 := by rw [hC_46]; exact (hs.own.too [3, 5, 6, 7] 8)
           refine ⟨fun _ => hcl, ?_⟩
           obtain ⟨v_54, h_53, hm⟩ := bind_t hm
           refine qdc 7 (visorref33_Const.ok _ _ _ _ _ h_53 _ _ _ br21x0x_33 A_15 c_16 hx_18.less.less.less.less.less.less.less hs.own.f4) hs fun w a hs => ?_
           replace hcl : Ow κ w C_46 := by rw [hC_46]; exact (hs.own.too [4, 5, 6, 7] 8)
           refine ⟨fun _ => hcl, ?_⟩
           obtain ⟨h_55, hm⟩ := ite_t hm
           refine qsA 10 3 v_50.1 hs rfl h_55 rfl fun a w hs => ?_
           replace hcl : Ow κ w C_46 := by rw [hC_46]; exact (hs.own.too [4, 5, 6, 7] 8)
           refine ⟨fun _ => hcl, ?_⟩
           obtain ⟨h_56, hm⟩ := ite_t hm
           refine qsA 11 1 v_54.1 hs rfl h_56 rfl fun a w hs => ?_
           refine ⟨fun h => absurd h (by decide), ?_⟩
           replace hs := hs.pick [2, 3, 4, 6, 11, 12, 14, 15] (L' := [(2, .slice A_15 p_17.length c_16), (3, .int .u8 x3), (4, vw x4), (6, pp b_2), (11, vi p_6), (12, pp b_38), (14, pp b_47), (15, pp b_51)]) (by kernel_rfl)
           refine Vk.dDone (by kernel_rfl) ?_
           exact hj45 v_50.2 v_54.2 v_50.1 v_54.1 hm b_47 b_51 _ _ (hs.go [2, 3, 4, 6, 11, 12, 14, 15] [7, 4, 2, 0, 5, 6, 3, 1] 8 (by kernel_rfl) (by kernel_rfl) (by kernel_rfl))
       ·exact by
         refine Vk.alloc 15 71 [ci 0, ci 0, ci 0, ci 0, ci 0, ci 0, ci 0, ci 0, ci 0, ci 0, ci 0, ci 0, ci 0, ci 0, ci 0, ci 0, ci 0, ci 0, ci 0, ci 0, ci 0, ci 0, ci 0, ci 0] hs (by kernel_rfl) (by kernel_rfl) (by kernel_rfl) fun b_48 w a hs => ?_
         replace hcl : Ow κ w C_46 := by rw [hC_46]; exact (hs.own.too [2, 5, 6, 7] 8)
         refine ⟨fun _ => hcl, ?_⟩
         obtain ⟨v_51, h_50, hm⟩ := bind_t hm
         refine qdc 3 (slice_Public.ok _ _ _ _ h_50 _ _ _ br21x0m_32 A_15 c_16 hx_18.less.less.less.less.less.less.less hs.own.f3) hs fun w a hs => ?_
         replace hcl : Ow κ w C_46 := by rw [hC_46]; exact (hs.own.too [3, 5, 6, 7] 8)
         refine ⟨fun _ => hcl, ?_⟩
         obtain ⟨v_54, h_53, hm⟩ := bind_t hm
         refine qdc 7 (visorref33_Const.ok _ _ _ _ _ h_53 _ _ _ br21x0x_33 A_15 c_16 hx_18.less.less.less.less.less.less.less hs.own.f4) hs fun w a hs => ?_
         replace hcl : Ow κ w C_46 := by rw [hC_46]; exact (hs.own.too [4, 5, 6, 7] 8)
         refine ⟨fun _ => hcl, ?_⟩
         obtain ⟨h_55, hm⟩ := ite_t hm
         refine qsA 10 3 v_51.1 hs rfl h_55 rfl fun a w hs => ?_
         replace hcl : Ow κ w C_46 := by rw [hC_46]; exact (hs.own.too [4, 5, 6, 7] 8)
         refine ⟨fun _ => hcl, ?_⟩
         obtain ⟨h_56, hm⟩ := ite_t hm
         refine qsA 11 2 v_54.1 hs rfl h_56 rfl fun a w hs => ?_
         refine ⟨fun h => absurd h (by decide), ?_⟩
         replace hs := hs.pick [2, 3, 4, 6, 11, 12, 14, 15] (L' := [(2, .slice A_15 p_17.length c_16), (3, .int .u8 x3), (4, vw x4), (6, pp b_2), (11, vi p_6), (12, pp b_38), (14, pp b_47), (15, pp b_48)]) (by kernel_rfl)
         refine Vk.dDone (by kernel_rfl) ?_
         exact hj45 v_51.2 v_54.2 v_51.1 v_54.1 hm b_47 b_48 _ _ (hs.go [2, 3, 4, 6, 11, 12, 14, 15] [7, 4, 1, 0, 5, 6, 3, 2] 8 (by kernel_rfl) (by kernel_rfl) (by kernel_rfl))
     ·exact by
       refine Vk.alloc 15 71 [ci 0, ci 0, ci 0, ci 0, ci 0, ci 0, ci 0, ci 0, ci 0, ci 0, ci 0, ci 0, ci 0, ci 0, ci 0, ci 0, ci 0, ci 0, ci 0, ci 0, ci 0, ci 0, ci 0, ci 0] hs (by kernel_rfl) (by kernel_rfl) (by kernel_rfl) fun b_47 w a hs => ?_
       replace hcl := qO hC_46 hs.own.f3.drop.f2.drop.drop
       refine ⟨fun _ => hcl, ?_⟩
       refine Vk.dMany2 (i0 := 3) (i1 := 8) (by kernel_rfl) ?_ ?_
       ·exact by
         obtain ⟨v_50, h_49, hm⟩ := bind_t hm
         refine qco (slice_Public.ok _ _ _ _ h_49 _ _ _ br21x0m_32 A_15 c_16 hx_18.less.less.less.less.less.less hs.own.f2) hs fun w a hs => ?_
         replace hcl := qO hC_46 hs.own.f3.drop.f1.drop.drop
         refine ⟨fun _ => hcl, ?_⟩
         refine Vk.dMany2 (i0 := 7) (i1 := 8) (by kernel_rfl) ?_ ?_
         ·exact by
           obtain ⟨v_53, h_52, hm⟩ := bind_t hm
           refine qco (visorref33_Const.ok _ _ _ _ _ h_52 _ _ _ br21x0x_33 A_15 c_16 hx_18.less.less.less.less.less.less hs.own.f3) hs fun w a hs => ?_
           replace hcl := qO hC_46 hs.own.f2.drop.f1.drop.drop
           refine ⟨fun _ => hcl, ?_⟩
           refine Vk.dOnly (i := 8) (by kernel_rfl) (Vk.alloc 14 71 [ci 0, ci 0, ci 0, ci 0, ci 0, ci 0, ci 0, ci 0, ci 0, ci 0, ci 0, ci 0, ci 0, ci 0, ci 0, ci 0, ci 0, ci 0, ci 0, ci 0, ci 0, ci 0, ci 0, ci 0] hs (by kernel_rfl) (by kernel_rfl) (by kernel_rfl) fun b_54 w a hs => ?_)
           replace hcl : Ow κ w C_46 := by rw [hC_46]; exact (hs.own.too [4, 5, 6, 7] 8)
           refine ⟨fun _ => hcl, ?_⟩
           obtain ⟨h_55, hm⟩ := ite_t hm
           refine qsA 10 0 v_50.1 hs rfl h_55 rfl fun a w hs => ?_
           replace hcl : Ow κ w C_46 := by rw [hC_46]; exact (hs.own.too [4, 5, 6, 7] 8)
           refine ⟨fun _ => hcl, ?_⟩
           obtain ⟨h_56, hm⟩ := ite_t hm
           refine qsA 11 3 v_53.1 hs rfl h_56 rfl fun a w hs => ?_
           refine ⟨fun h => absurd h (by decide), ?_⟩
           replace hs := hs.pick [2, 3, 4, 6, 11, 12, 14, 15] (L' := [(2, .slice A_15 p_17.length c_16), (3, .int .u8 x3), (4, vw x4), (6, pp b_2), (11, vi p_6), (12, pp b_38), (14, pp b_54), (15, pp b_47)]) (by kernel_rfl)
           refine Vk.dDone (by kernel_rfl) ?_
           exact hj45 v_50.2 v_53.2 v_50.1 v_53.1 hm b_54 b_47 _ _ (hs.go [2, 3, 4, 6, 11, 12, 14, 15] [7, 4, 2, 1, 5, 6, 0, 3] 8 (by kernel_rfl) (by kernel_rfl) (by kernel_rfl))
         ·exact by
           refine Vk.alloc 14 71 [ci 0, ci 0, ci 0, ci 0, ci 0, ci 0, ci 0, ci 0, ci 0, ci 0, ci 0, ci 0, ci 0, ci 0, ci 0, ci 0, ci 0, ci 0, ci 0, ci 0, ci 0, ci 0, ci 0, ci 0] hs (by kernel_rfl) (by kernel_rfl) (by kernel_rfl) fun b_51 w a hs => ?_
           replace hcl : Ow κ w C_46 := by rw [hC_46]; exact (hs.own.too [3, 5, 6, 7] 8)
           refine ⟨fun _ => hcl, ?_⟩
           obtain ⟨v_54, h_53, hm⟩ := bind_t hm
           refine qdc 7 (visorref33_Const.ok _ _ _ _ _ h_53 _ _ _ br21x0x_33 A_15 c_16 hx_18.less.less.less.less.less.less.less hs.own.f4) hs fun w a hs => ?_
           replace hcl : Ow κ w C_46 := by rw [hC_46]; exact (hs.own.too [4, 5, 6, 7] 8)
           refine ⟨fun _ => hcl, ?_⟩
           obtain ⟨h_55, hm⟩ := ite_t hm
           refine qsA 10 1 v_50.1 hs rfl h_55 rfl fun a w hs => ?_
           replace hcl : Ow κ w C_46 := by rw [hC_46]; exact (hs.own.too [4, 5, 6, 7] 8)
           refine ⟨fun _ => hcl, ?_⟩
           obtain ⟨h_56, hm⟩ := ite_t hm
           refine qsA 11 3 v_54.1 hs rfl h_56 rfl fun a w hs => ?_
           refine ⟨fun h => absurd h (by decide), ?_⟩
           replace hs := hs.pick [2, 3, 4, 6, 11, 12, 14, 15] (L' := [(2, .slice A_15 p_17.length c_16), (3, .int .u8 x3), (4, vw x4), (6, pp b_2), (11, vi p_6), (12, pp b_38), (14, pp b_51), (15, pp b_47)]) (by kernel_rfl)
           refine Vk.dDone (by kernel_rfl) ?_
           exact hj45 v_50.2 v_54.2 v_50.1 v_54.1 hm b_51 b_47 _ _ (hs.go [2, 3, 4, 6, 11, 12, 14, 15] [7, 4, 2, 0, 5, 6, 1, 3] 8 (by kernel_rfl) (by kernel_rfl) (by kernel_rfl))
       ·exact by
         refine Vk.alloc 14 71 [ci 0, ci 0, ci 0, ci 0, ci 0, ci 0, ci 0, ci 0, ci 0, ci 0, ci 0, ci 0, ci 0, ci 0, ci 0, ci 0, ci 0, ci 0, ci 0, ci 0, ci 0, ci 0, ci 0, ci 0] hs (by kernel_rfl) (by kernel_rfl) (by kernel_rfl) fun b_48 w a hs => ?_
         replace hcl : Ow κ w C_46 := by rw [hC_46]; exact (hs.own.too [2, 5, 6, 7] 8)
         refine ⟨fun _ => hcl, ?_⟩
         obtain ⟨v_51, h_50, hm⟩ := bind_t hm
         refine qdc 3 (slice_Public.ok _ _ _ _ h_50 _ _ _ br21x0m_32 A_15 c_16 hx_18.less.less.less.less.less.less.less hs.own.f3) hs fun w a hs => ?_
         replace hcl : Ow κ w C_46 := by rw [hC_46]; exact (hs.own.too [3, 5, 6, 7] 8)
         refine ⟨fun _ => hcl, ?_⟩
         obtain ⟨v_54, h_53, hm⟩ := bind_t hm
         refine qdc 7 (visorref33_Const.ok _ _ _ _ _ h_53 _ _ _ br21x0x_33 A_15 c_16 hx_18.less.less.less.less.less.less.less hs.own.f4) hs fun w a hs => ?_
         replace hcl : Ow κ w C_46 := by rw [hC_46]; exact (hs.own.too [4, 5, 6, 7] 8)
         refine ⟨fun _ => hcl, ?_⟩
         obtain ⟨h_55, hm⟩ := ite_t hm
         refine qsA 10 2 v_51.1 hs rfl h_55 rfl fun a w hs => ?_
         replace hcl : Ow κ w C_46 := by rw [hC_46]; exact (hs.own.too [4, 5, 6, 7] 8)
         refine ⟨fun _ => hcl, ?_⟩
         obtain ⟨h_56, hm⟩ := ite_t hm
         refine qsA 11 3 v_54.1 hs rfl h_56 rfl fun a w hs => ?_
         refine ⟨fun h => absurd h (by decide), ?_⟩
         replace hs := hs.pick [2, 3, 4, 6, 11, 12, 14, 15] (L' := [(2, .slice A_15 p_17.length c_16), (3, .int .u8 x3), (4, vw x4), (6, pp b_2), (11, vi p_6), (12, pp b_38), (14, pp b_48), (15, pp b_47)]) (by kernel_rfl)
         refine Vk.dDone (by kernel_rfl) ?_
         exact hj45 v_51.2 v_54.2 v_51.1 v_54.1 hm b_48 b_47 _ _ (hs.go [2, 3, 4, 6, 11, 12, 14, 15] [7, 4, 1, 0, 5, 6, 2, 3] 8 (by kernel_rfl) (by kernel_rfl) (by kernel_rfl))
  refine qsk 3 [2, 3, 4, 6, 11, 29] hs fun a hs => ?_
  refine qcs (decide (((x2.length : Nat) : Int) > 64)) hs (fun hb => ?_) fun hb => ?_
  ·replace hm := bif_t hm hb
   refine Vk.region ?_
   refine qpu 1 hs fun a hs => ?_
   obtain ⟨h_9, hm⟩ := ite_t hm
   obtain ⟨A_10, c_11, eA_12, ec_13, hx_14⟩ := Sl.sub hx_x2 h_9.2
   refine qva (.slice A_10 ((cut x2 (0) (64)).length) c_11) (op := (.slice 69 (.tmp 30) none (some (.const (vi 64))) none)) hs (fun o ho => run_sub (sz := 1) (e := 5) h_9.2 eA_12 ec_13 (Sl.le hx_x2) ho (by kernel_rfl) (by kernel_rfl) (by kernel_rfl) rfl ⟨.i64, 64, by kernel_rfl, h_9.1, rfl⟩ _) fun a hs => ?_
   refine qpe 1 [(2, .slice A_10 ((cut x2 (0) (64)).length) c_11), (3, .int .u8 x3), (4, vw x4), (6, pp b_2), (11, vi p_6)] hs fun a hs => ?_
   exact hj7 (cut x2 (0) (64)) hm A_10 c_11 hx_14 _ _ (hs.go [2, 3, 4, 6, 11] [0] 1 (by kernel_rfl) (by kernel_rfl) (by kernel_rfl))
  ·replace hm := bif_f hm hb
   refine wp_skip ?_
   exact hj7 x2 hm A_x2 c_x2 hx_x2 _ _ (hs.go [2, 3, 4, 6, 11] [0] 1 (by kernel_rfl) (by kernel_rfl) (by kernel_rfl))
 refine qsk 1 [2, 3, 4, 6, 11, 26] hs fun a hs => ?_
 refine qcs (x0) hs (fun hb => ?_) fun hb => ?_
 ·replace hm := bif_t hm hb
  refine Vk.region ?_
  refine qpe 1 [(2, .slice A_x2 x2.length c_x2), (3, .int .u8 x3), (4, vw x4), (6, pp b_2), (11, vi 3)] hs fun a hs => ?_
  exact hj4 3 hm _ _ (hs.go [2, 3, 4, 6, 11] [0] 1 (by kernel_rfl) (by kernel_rfl) (by kernel_rfl))
 ·replace hm := bif_f hm hb
  refine wp_skip ?_
  exact hj4 2 hm _ _ (hs.go [2, 3, 4, 6, 11] [0] 1 (by kernel_rfl) (by kernel_rfl) (by kernel_rfl))

end Go.Proofs.Ytflgefjocjpjaaa
