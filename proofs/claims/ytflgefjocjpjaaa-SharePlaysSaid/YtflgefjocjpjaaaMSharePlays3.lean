/- Of each Go function that SharePlays comes to: a model in plain Lean, and that the program's call does what the model says; no condition. -/
import Derived.Test.YtflgefjocjpjaaaProg
import Derived.Test.YtflgefjocjpjaaaVipblhand
import Derived.Test.YtflgefjocjpjaaaMSharePlays2
namespace Go.Proofs.Ytflgefjocjpjaaa
open Go Go.Vk
set_option linter.unusedVariables false


def share_Value.j1 (k : Nat) (rec7 : Int → Int → Option (Int)) (q_9 : Int) (p_26 : Int) : Option (Int) := rec7 p_26 (IntKind.i64.wrap (q_9 + 1))
def share_Value.l1 (x0 : List Int) (x1 : Cells) : Nat → Int → Int → Option (Int)
  | 0, _, _ => none
  | k + 1, q_8, q_9 => (bif decide (q_9 < 3) then (if 0 ≤ q_9 ∧ q_9 < 3 then (getI .i64 x1 q_9.toNat).bind fun v_16 => (bif (decide (v_16 ≥ 0)) && (decide (v_16 < ((x0.length : Nat) : Int))) then (if 0 ≤ v_16 then (x0[v_16.toNat]?).bind fun e_22 => share_Value.j1 k (share_Value.l1 x0 x1 k) q_9 (bxor .u64 q_8 e_22) else none) else share_Value.j1 k (share_Value.l1 x0 x1 k) q_9 q_8) else none) else some q_8)
abbrev share_Value.R (κ : Ctx) (S : List HP) (x0 : List Int) (x1 : Cells) (A_x0 : Option Addr) (c_x0 : Nat) (r : Int) : Ending → World → Prop := fun e w' => e = .returned (vw r) ∧ Own κ w' (S)
def share_Value.m (k : Nat) (x0 : List Int) (x1 : Cells) : Option Int := (if x1.length = 3 then (share_Value.l1 x0 x1 k 0 0).bind fun p_27 => some p_27 else none)

set_option maxRecDepth 100000 in
set_option maxHeartbeats 4000000 in
theorem share_Value.ok (k : Nat) (x0 : List Int) (x1 : Cells) (r : Int) (hm : share_Value.m k x0 x1 = some r) (κ : Ctx) (w : World) (S : List HP) (A_x0 : Option Addr) (c_x0 : Nat) (hx_x0 : Sl κ S A_x0 c_x0 1 (eI .u64) x0) (ho : Own κ w (S)) :
    Calls Try.prog 28 #[.slice A_x0 x0.length c_x0, .agg (vals x1)] w (share_Value.R κ S x0 x1 A_x0 c_x0 r) := by
  unfold share_Value.m at hm
  generalize hRR : share_Value.R κ S x0 x1 A_x0 c_x0 r = RR
  refine qen [(0, .slice A_x0 x0.length c_x0), (1, .agg (vals x1))] Try.func28 Try.ntmps28 ho fun a hs => ?_
  refine qsr fun K1 hK1 => ?_
  refine Vk.step (Vk.box (x := (.tmp 1)) 3 28 x1 hs (by kernel_rfl) (by kernel_rfl) (by kernel_rfl) fun b_2 w a hs => ?_)
  refine qpe 1 [(0, .slice A_x0 x0.length c_x0), (3, pp b_2)] hs fun a hs => hK1 _ _ ?_
  clear hK1
  refine qsr fun K3 hK3 => ?_
  refine qpe 1 [(0, .slice A_x0 x0.length c_x0), (3, pp b_2), (5, vw 0)] hs fun a hs => hK3 _ _ ?_
  clear hK3
  refine Vk.seq fun K4 hK4 => ?_
  refine qsr fun K5 hK5 => ?_
  refine qpu 1 hs fun a hs => ?_
  obtain ⟨h_6, hm⟩ := ite_t hm
  refine Vk.step (Vk.value (some 9) (.agg (vals x1)) hs (by kernel_rfl) (op := (.load 26 (.tmp 8))) (by kernel_rfl) (fun o ho => run_loadN (cs := x1) ho (by kernel_rfl) (by kernel_rfl) h_6 (CellsAt.all 0 rfl) _ hs.own) fun a hs => ?_)
  refine qpe 1 [(0, .slice A_x0 x0.length c_x0), (5, vw 0), (9, .agg (vals x1)), (10, vi 0)] hs fun a hs => hK5 _ _ ?_
  clear hK5
  refine wp_block ?_
  obtain ⟨r7, hl7, hm⟩ := bind_t hm
  have hx7 : ∀ (p_27 : Int), r7 = p_27 → ∀ (a : Act) (w : World), St 29 a w κ [(5, vw p_27)] (S) → K4 a w := by
    intro p_27 he a w hs
    subst r7
    refine hK4 _ _ ?_
    clear hK4
    refine qsr fun K30 hK30 => ?_
    refine qpe 2 [(4, vw p_27)] hs fun a hs => hK30 _ _ ?_
    clear hK30
    refine wp_ret ?_
    exact Vk.ret1 (P := Try.prog) (fn := Try.f28) (R := RR) (vw p_27) hs rfl (by kernel_rfl) (by obtain rfl := Option.some.inj hm; subst hRR; exact ⟨rfl, (Own.to hs.own [] 0 (by kernel_rfl) (by kernel_rfl))⟩)
  refine Vk.loopBy (fun k (s : Int × Int) a w => share_Value.l1 x0 x1 k s.1 s.2 = some r7 ∧ St 29 a w κ [(0, .slice A_x0 x0.length c_x0), (5, vw s.1), (9, .agg (vals x1)), (10, vi s.2)] (S)) k (0, 0) ⟨hl7, hs.go [0, 5, 9, 10] [] 1 (by kernel_rfl) (by kernel_rfl) (by kernel_rfl)⟩ (fun s a w h => by obtain ⟨h1, _⟩ := h; simp [share_Value.l1] at h1) (fun k KL7 ih s a w h => ?_)
  obtain ⟨q_8, q_9⟩ := s
  obtain ⟨hm, hs⟩ := h
  try dsimp only at hm hs
  rw [share_Value.l1] at hm
  refine qsr fun K10 hK10 => ?_
  refine qpe 1 [(0, .slice A_x0 x0.length c_x0), (5, vw q_8), (9, .agg (vals x1)), (10, vi q_9), (11, .bool (decide (q_9 < 3)))] hs fun a hs => hK10 _ _ ?_
  clear hK10
  refine Vk.seq fun K11 hK11 => ?_
  refine qcs (decide (q_9 < 3)) hs (fun hb => ?_) fun hb => ?_
  · replace hm := bif_t hm hb
    refine wp_skip ?_
    refine hK11 _ _ ?_
    clear hK11
    refine Vk.seq fun K12 hK12 => ?_
    have hj12 : ∀ (p_26 : Int), share_Value.j1 k (share_Value.l1 x0 x1 k) q_9 p_26 = some r7 → ∀ (a : Act) (w : World), St 29 a w κ [(0, .slice A_x0 x0.length c_x0), (5, vw p_26), (9, .agg (vals x1)), (10, vi q_9)] (S) → K12 a w := by
      intro p_26 hm a w hs
      unfold share_Value.j1 at hm
      refine hK12 _ _ ?_
      refine Vk.region ?_
      refine qpe 2 [(0, .slice A_x0 x0.length c_x0), (5, vw p_26), (9, .agg (vals x1)), (10, vi (IntKind.i64.wrap (q_9 + 1)))] hs fun a hs => ?_
      refine ih (p_26, (IntKind.i64.wrap (q_9 + 1))) _ _ ⟨hm, hs.go [0, 5, 9, 10] [] 0 (by kernel_rfl) (by kernel_rfl) (by kernel_rfl)⟩
    refine wp_block ?_
    refine qsr fun K13 hK13 => ?_
    obtain ⟨h_14, hm⟩ := ite_t hm
    obtain ⟨v_16, h_15, hm⟩ := bind_t hm
    refine Vk.step (Vk.value (some 12) (vi v_16) hs (by kernel_rfl) (op := (.index 26 (.tmp 9) (.tmp 10))) (by kernel_rfl) (fun o ho => run_idxVal (k := .i64) (cs := x1) (c := ci v_16) ho (by kernel_rfl) (by kernel_rfl) (len := 3) (et := 3) (by kernel_rfl) (by kernel_rfl) (by kernel_rfl) (by kernel_rfl) h_14 (getI_some h_15) _) fun a hs => ?_)
    refine qpe 1 [(0, .slice A_x0 x0.length c_x0), (5, vw q_8), (7, vi v_16), (9, .agg (vals x1)), (10, vi q_9)] hs fun a hs => hK13 _ _ ?_
    clear hK13
    refine qsr fun K17 hK17 => ?_
    refine qpu 3 hs fun a hs => ?_
    suffices hj_18 : ∀ a, St 29 a w κ [(0, .slice A_x0 x0.length c_x0), (5, vw q_8), (7, vi v_16), (9, .agg (vals x1)), (10, vi q_9), (13, vi v_16), (14, .bool (decide (v_16 ≥ 0))), (15, .bool (decide (v_16 ≥ 0))), (20, .bool ((decide (v_16 ≥ 0)) && (decide (v_16 < ((x0.length : Nat) : Int)))))] (S) → wpFrom Try.prog _ _ 8 a w by
      rcases Bool.eq_false_or_eq_true (decide (v_16 ≥ 0)) with hb | hb
      · replace hs := hs.known (t := 15) hb (by kernel_rfl)
        refine qpu 5 hs fun a hs => ?_
        have hq := hs.pick [0, 5, 7, 9, 10, 13, 14, 15, 20] (L' := [(0, .slice A_x0 x0.length c_x0), (5, vw q_8), (7, vi v_16), (9, .agg (vals x1)), (10, vi q_9), (13, vi v_16), (14, .bool (decide (v_16 ≥ 0))), (15, .bool true), (20, .bool (decide (v_16 < ((x0.length : Nat) : Int))))]) (by kernel_rfl)
        exact hj_18 _ (hq.conv (by first | (rw [hb] <;> rfl) | rfl))
      · replace hs := hs.known (t := 15) hb (by kernel_rfl)
        refine qpu 5 hs fun a hs => ?_
        have hq := hs.pick [0, 5, 7, 9, 10, 13, 14, 15, 20] (L' := [(0, .slice A_x0 x0.length c_x0), (5, vw q_8), (7, vi v_16), (9, .agg (vals x1)), (10, vi q_9), (13, vi v_16), (14, .bool (decide (v_16 ≥ 0))), (15, .bool false), (20, .bool false)]) (by kernel_rfl)
        exact hj_18 _ (hq.conv (by first | (rw [hb] <;> rfl) | rfl))
    intro a hs
    refine qpe 0 [(0, .slice A_x0 x0.length c_x0), (5, vw q_8), (7, vi v_16), (9, .agg (vals x1)), (10, vi q_9), (20, .bool ((decide (v_16 ≥ 0)) && (decide (v_16 < ((x0.length : Nat) : Int)))))] hs fun a hs => hK17 _ _ ?_
    clear hK17
    refine qcs ((decide (v_16 ≥ 0)) && (decide (v_16 < ((x0.length : Nat) : Int)))) hs (fun hb => ?_) fun hb => ?_
    · replace hm := bif_t hm hb
      refine Vk.region ?_
      refine qpu 3 hs fun a hs => ?_
      obtain ⟨h_19, hm⟩ := ite_t hm
      obtain ⟨e_22, h_20, hm⟩ := bind_t hm
      obtain ⟨b_23, o_24, hA_25, h_21⟩ := Sl.elem hx_x0 h_20
      refine Vk.step (Vk.value (some 24) (.pointer (some ⟨b_23, o_24 + v_16.toNat * 1, none⟩)) hs (by kernel_rfl) (op := (.indexAddr 25 (.tmp 22) (.tmp 23))) (by kernel_rfl) (fun o ho => run_idxSlc (k := .i64) ho (cap := c_x0) (len := x0.length) ((congrArg (fun A => Value.slice A (x0.length) (c_x0)) hA_25) ▸ (by kernel_rfl)) (by kernel_rfl) (by kernel_rfl) (idx_ok h_19 h_20) _) fun a hs => ?_)
      refine Vk.step (Vk.value (some 25) (vw e_22) hs (by kernel_rfl) (op := (.load 32 (.tmp 24))) (by kernel_rfl) (fun o ho => run_load1 (c := cw e_22) ho (by kernel_rfl) (by kernel_rfl) (fun w ho => h_21 w ho 0 _ rfl) _ hs.own) fun a hs => ?_)
      refine qpe 2 [(0, .slice A_x0 x0.length c_x0), (5, vw (bxor .u64 q_8 e_22)), (9, .agg (vals x1)), (10, vi q_9)] hs fun a hs => ?_
      exact hj12 (bxor .u64 q_8 e_22) hm _ _ (hs.go [0, 5, 9, 10] [] 0 (by kernel_rfl) (by kernel_rfl) (by kernel_rfl))
    · replace hm := bif_f hm hb
      refine wp_skip ?_
      exact hj12 q_8 hm _ _ (hs.go [0, 5, 9, 10] [] 0 (by kernel_rfl) (by kernel_rfl) (by kernel_rfl))
  · replace hm := bif_f hm hb
    refine wp_exit ?_
    exact hx7 q_8 (Option.some.inj hm).symm _ _ (hs.go [5] [] 0 (by kernel_rfl) (by kernel_rfl) (by kernel_rfl))


def visorlaw20_awake.j1 (k : Nat) (p_48 : Bool) : Option (Bool) := some p_48
abbrev visorlaw20_awake.R (κ : Ctx) (S : List HP) (r : Bool) : Ending → World → Prop := fun e w' => e = .returned (.bool r) ∧ Own κ w' (S)
def visorlaw20_awake.m (k : Nat) : Option Bool := ((visorlaw20_Begins.m k 2 ([] : List Int) 9).bind fun v => match v with | (.inl v_7) => some false | (.inr v_14) => (bif !v_14.2.2.2.2 then some false else (share_Public.m k v_14.1 7).bind fun v_31 => (if v_31.1.length = 3 then (wire_Machine_Len.m k v_31.2).bind fun v_39 => (bif v_39 == 2 then (wire_Machine_Values.m k v_31.2).bind fun v_42 => (share_Value.m k v_42 v_31.1).bind fun v_47 => visorlaw20_awake.j1 k (v_47 == 7) else visorlaw20_awake.j1 k false) else none)))

set_option maxRecDepth 100000 in
set_option maxHeartbeats 4000000 in
theorem visorlaw20_awake.ok (k : Nat) (r : Bool) (hm : visorlaw20_awake.m k = some r) (κ : Ctx) (w : World) (S : List HP) (ho : Own κ w (S)) :
    Calls Try.prog 27 #[] w (visorlaw20_awake.R κ S r) := by
  unfold visorlaw20_awake.m at hm
  generalize hRR : visorlaw20_awake.R κ S r = RR
  refine qen [] Try.func27 Try.ntmps27 ho fun a hs => ?_
  refine qsr fun K1 hK1 => ?_
  refine qpe 1 [] hs fun a hs => hK1 _ _ ?_
  clear hK1
  refine qsr fun K2 hK2 => ?_
  replace hs := hs.addRd (A := none) (cap := 0) (sz := 1) (enc := (eI .u64)) (xs := ([] : List Int)) Sl.nil
  obtain ⟨v_6, h_5, hm⟩ := bind_t hm
  refine Vk.step (Vk.call (some 5) 18 #[vi 2, .slice none 0 0, vi 9] hs (by kernel_rfl) (by kernel_rfl) (by kernel_rfl) ?_)
  refine (visorlaw20_Begins.ok k 2 ([] : List Int) 9 v_6 h_5 κ w (S) none 0 (Own.to hs.own [0] 1 (by kernel_rfl) (by kernel_rfl))).mono ?_
  rintro _ w (⟨v_7, rfl, br4x0x_8, Ar4x0l_9, cr4x0l_10, Ar4x0v_11, cr4x0v_12, rfl, how⟩ | ⟨v_14, rfl, br4x0m_15, br4x0x_16, Ar4x0l_17, cr4x0l_18, Ar4x0v_19, cr4x0v_20, rfl, how⟩)
  · dsimp only at hm
    refine ⟨_, _, _, rfl, how, fun a hs => ?_⟩
    refine qpu 3 hs fun a hs => ?_
    refine Vk.step (Vk.alloc 1 45 [C.ptr none, C.ptr none, C.slc none 0 0, C.slc none 0 0] hs (by kernel_rfl) (by kernel_rfl) (by kernel_rfl) fun b_13 w a hs => ?_)
    refine Vk.step (Vk.storeA (b := b_13) (ty := 45) (x := (.tmp 1)) (y := (.tmp 6)) (sz := 4) [C.ptr none, cp br4x0x_8, C.slc Ar4x0l_9 v_7.2.1.length cr4x0l_10, C.slc Ar4x0v_11 v_7.2.2.length cr4x0v_12] 0 hs (by kernel_rfl) (by kernel_rfl) (by kernel_rfl) (by kernel_rfl) (by kernel_rfl) rfl (by kernel_rfl) rfl (Eq.trans (b := 4) rfl (Eq.symm rfl)) fun a w hs => ?_)
    refine qpe 1 [(1, pp b_13), (2, .bool false)] hs fun a hs => hK2 _ _ ?_
    refine Vk.seq fun K22 hK22 => ?_
    refine qsr fun K23 hK23 => ?_
    refine qpe 2 [(1, pp b_13), (9, .bool true)] hs fun a hs => hK23 _ _ ?_
    clear hK23
    refine qct hs ?_
    refine qsr fun K24 hK24 => ?_
    refine qpe 1 [(0, .bool false)] hs fun a hs => hK24 _ _ ?_
    clear hK24
    refine wp_ret ?_
    exact Vk.ret1 (P := Try.prog) (fn := Try.f27) (R := RR) (.bool false) hs rfl (by kernel_rfl) (by obtain rfl := Option.some.inj hm; subst hRR; exact ⟨rfl, (Own.to hs.own [] 4 (by kernel_rfl) (by kernel_rfl))⟩)
  · dsimp only at hm
    refine ⟨_, _, _, rfl, how, fun a hs => ?_⟩
    refine qpu 3 hs fun a hs => ?_
    refine Vk.step (Vk.alloc 1 45 [C.ptr none, C.ptr none, C.slc none 0 0, C.slc none 0 0] hs (by kernel_rfl) (by kernel_rfl) (by kernel_rfl) fun b_21 w a hs => ?_)
    refine Vk.step (Vk.storeA (b := b_21) (ty := 45) (x := (.tmp 1)) (y := (.tmp 6)) (sz := 4) [cp br4x0m_15, cp br4x0x_16, C.slc Ar4x0l_17 v_14.2.2.1.length cr4x0l_18, C.slc Ar4x0v_19 v_14.2.2.2.1.length cr4x0v_20] 0 hs (by kernel_rfl) (by kernel_rfl) (by kernel_rfl) (by kernel_rfl) (by kernel_rfl) rfl (by kernel_rfl) rfl (Eq.trans (b := 4) rfl (Eq.symm rfl)) fun a w hs => ?_)
    refine qpe 1 [(1, pp b_21), (2, .bool v_14.2.2.2.2)] hs fun a hs => hK2 _ _ ?_
    refine Vk.seq fun K25 hK25 => ?_
    refine qsr fun K26 hK26 => ?_
    refine qpe 2 [(1, pp b_21), (9, .bool (!v_14.2.2.2.2))] hs fun a hs => hK26 _ _ ?_
    clear hK26
    refine qcs (!v_14.2.2.2.2) hs (fun hb => ?_) fun hb => ?_
    · replace hm := bif_t hm hb
      refine qsr fun K27 hK27 => ?_
      refine qpe 1 [(0, .bool false)] hs fun a hs => hK27 _ _ ?_
      clear hK27
      refine wp_ret ?_
      exact Vk.ret1 (P := Try.prog) (fn := Try.f27) (R := RR) (.bool false) hs rfl (by kernel_rfl) (by obtain rfl := Option.some.inj hm; subst hRR; exact ⟨rfl, (Own.to hs.own [] 5 (by kernel_rfl) (by kernel_rfl))⟩)
    · replace hm := bif_f hm hb
      refine wp_skip ?_
      refine hK25 _ _ ?_
      clear hK25
      refine qsr fun K28 hK28 => ?_
      refine qpu 1 hs fun a hs => ?_
      refine qld 0 (cp br4x0m_15) hs rfl fun a hs => ?_
      obtain ⟨v_31, h_30, hm⟩ := bind_t hm
      refine Vk.step (Vk.call (some 12) 59 #[pp br4x0m_15, vw 7] hs (by kernel_rfl) (by kernel_rfl) (by kernel_rfl) ?_)
      refine (share_Public.ok k v_14.1 7 v_31 h_30 κ w (pt b_21 (blk [cp br4x0m_15, cp br4x0x_16, C.slc Ar4x0l_17 v_14.2.2.1.length cr4x0l_18, C.slc Ar4x0v_19 v_14.2.2.2.1.length cr4x0v_20] 45) :: Tvisorref19_M.own κ br4x0x_16 v_14.2.1 :: rowp Ar4x0l_17 cr4x0l_18 28 3 eC v_14.2.2.1 :: rowp Ar4x0v_19 cr4x0v_20 32 1 (eI .u64) v_14.2.2.2.1 :: S) br4x0m_15 (Own.to hs.own [1, 0, 2, 3, 4] 5 (by kernel_rfl) (by kernel_rfl))).mono ?_
      rintro _ w ⟨rfl, how⟩
      refine ⟨_, _, _, rfl, how, fun a hs => ?_⟩
      refine Vk.step (Vk.alloc 3 28 [ci 0, ci 0, ci 0] hs (by kernel_rfl) (by kernel_rfl) (by kernel_rfl) fun b_32 w a hs => ?_)
      obtain ⟨h_33, hm⟩ := ite_t hm
      refine Vk.step (Vk.storeA (b := b_32) (ty := 28) (x := (.tmp 3)) (y := (.tmp 12)) (sz := 3) v_31.1 0 hs (by kernel_rfl) (by kernel_rfl) (by kernel_rfl) (by kernel_rfl) (by kernel_rfl) h_33 (by kernel_rfl) rfl (Eq.trans (b := 3) h_33 (Eq.symm rfl)) fun a w hs => ?_)
      refine qpe 0 [(1, pp b_21), (3, pp b_32)] hs fun a hs => hK28 _ _ ?_
      clear hK28
      refine Vk.seq fun K34 hK34 => ?_
      have hj34 : ∀ (p_48 : Bool), visorlaw20_awake.j1 k p_48 = some r → ∀ (a : Act) (w : World), St 25 a w κ [(0, .bool p_48)] (S) → K34 a w := by
        intro p_48 hm a w hs
        unfold visorlaw20_awake.j1 at hm
        refine hK34 _ _ ?_
        refine wp_ret ?_
        exact Vk.ret1 (P := Try.prog) (fn := Try.f27) (R := RR) (.bool p_48) hs rfl (by kernel_rfl) (by obtain rfl := Option.some.inj hm; subst hRR; exact ⟨rfl, (Own.to hs.own [] 0 (by kernel_rfl) (by kernel_rfl))⟩)
      obtain ⟨C_35, hC_35⟩ : ∃ X0 : List HP, X0 = (pt b_32 (blk v_31.1 28) :: pt b_21 (blk [cp br4x0m_15, cp br4x0x_16, C.slc Ar4x0l_17 v_14.2.2.1.length cr4x0l_18, C.slc Ar4x0v_19 v_14.2.2.2.1.length cr4x0v_20] 45) :: Tvisorref19_M.own κ br4x0x_16 v_14.2.1 :: rowp Ar4x0l_17 cr4x0l_18 28 3 eC v_14.2.2.1 :: rowp Ar4x0v_19 cr4x0v_20 32 1 (eI .u64) v_14.2.2.2.1 :: S) := ⟨_, rfl⟩
      refine qdr 13 κ C_35 hs fun w hs hqC_35 => ?_
      have hcz : Own κ w (pt b_32 (blk v_31.1 28) :: pt b_21 (blk [cp br4x0m_15, cp br4x0x_16, C.slc Ar4x0l_17 v_14.2.2.1.length cr4x0l_18, C.slc Ar4x0v_19 v_14.2.2.2.1.length cr4x0v_20] 45) :: Tvisorref19_M.own κ br4x0x_16 v_14.2.1 :: rowp Ar4x0l_17 cr4x0l_18 28 3 eC v_14.2.2.1 :: rowp Ar4x0v_19 cr4x0v_20 32 1 (eI .u64) v_14.2.2.2.1 :: S) := (Own.to hs.own [0, 2, 3, 4, 5] 6 (by kernel_rfl) (by kernel_rfl))
      have hcl : Own κ w C_35 := by rw [hC_35]; exact hcz
      refine qdp (fuel := 12) [0] hs hcl hqC_35 fun a hs => ?_
      refine qdl 1 1 (cp br4x0m_15) hs hcl hqC_35 hC_35 rfl fun a hs => ?_
      obtain ⟨g_36, hs⟩ := hs.unex 1 rfl
      obtain ⟨v_39, h_38, hm⟩ := bind_t hm
      refine Vk.dOnly (i := 2) (by kernel_rfl) (Vk.call (some 15) 32 #[pp br4x0m_15] hs (by kernel_rfl) (by kernel_rfl) (by kernel_rfl) ?_)
      refine (wire_Machine_Len.ok k v_31.2 v_39 h_38 κ w (pt b_32 (blk v_31.1 28) :: pt b_21 (blk [cp br4x0m_15, cp br4x0x_16, C.slc Ar4x0l_17 v_14.2.2.1.length cr4x0l_18, C.slc Ar4x0v_19 v_14.2.2.2.1.length cr4x0v_20] 45) :: Tvisorref19_M.own κ br4x0x_16 v_14.2.1 :: rowp Ar4x0l_17 cr4x0l_18 28 3 eC v_14.2.2.1 :: rowp Ar4x0v_19 cr4x0v_20 32 1 (eI .u64) v_14.2.2.2.1 :: S) br4x0m_15 g_36 (Own.to hs.own [1, 0, 2, 3, 4, 5] 6 (by kernel_rfl) (by kernel_rfl))).mono ?_
      rintro _ w ⟨rfl, how⟩
      refine ⟨_, _, _, rfl, how, fun a hs => ?_⟩
      replace hcl : Own κ w C_35 := by rw [hC_35]; exact (Own.to hs.own [1, 2, 3, 4, 5] 6 (by kernel_rfl) (by kernel_rfl))
      refine ⟨fun _ => hcl, ?_⟩
      refine qdp (fuel := 8) [3, 4] hs hcl hqC_35 fun a hs => ?_
      rcases Bool.eq_false_or_eq_true (v_39 == 2) with hb | hb
      · replace hm := bif_t hm hb
        replace hs := hs.known (t := 17) hb (by kernel_rfl)
        refine qdp (fuel := 7) [5] hs hcl hqC_35 fun a hs => ?_
        refine qdl 6 1 (cp br4x0m_15) hs hcl hqC_35 hC_35 rfl fun a hs => ?_
        refine Vk.dTakeT (i := 8) (some 21) (.agg (vals v_31.1)) hs (by kernel_rfl) hqC_35 hcl (by kernel_rfl) (by kernel_rfl) (op := (.load 28 (.tmp 3))) (by kernel_rfl) (by kernel_rfl) (fun w hw o ho => by rw [hC_35] at hw; exact run_loadN (cs := v_31.1) ho (by kernel_rfl) (by kernel_rfl) h_33 (CellsAt.all 0 rfl) _ hw) fun a hs => ?_
        obtain ⟨v_42, h_41, hm⟩ := bind_t hm
        refine Vk.dOnly (i := 7) (by kernel_rfl) (Vk.call (some 20) 22 #[pp br4x0m_15] hs (by kernel_rfl) (by kernel_rfl) (by kernel_rfl) ?_)
        refine (wire_Machine_Values.ok k v_31.2 v_42 h_41 κ w (pt b_32 (blk v_31.1 28) :: pt b_21 (blk [cp br4x0m_15, cp br4x0x_16, C.slc Ar4x0l_17 v_14.2.2.1.length cr4x0l_18, C.slc Ar4x0v_19 v_14.2.2.2.1.length cr4x0v_20] 45) :: Tvisorref19_M.own κ br4x0x_16 v_14.2.1 :: rowp Ar4x0l_17 cr4x0l_18 28 3 eC v_14.2.2.1 :: rowp Ar4x0v_19 cr4x0v_20 32 1 (eI .u64) v_14.2.2.2.1 :: S) br4x0m_15 g_36 (Own.to hs.own [0, 1, 2, 3, 4, 5] 6 (by kernel_rfl) (by kernel_rfl))).mono ?_
        rintro _ w ⟨Ar40x0_43, cr40x0_44, rfl, how⟩
        refine ⟨_, _, _, rfl, how, fun a hs => ?_⟩
        replace hcl : Own κ w C_35 := by rw [hC_35]; exact (Own.to hs.own [2, 3, 4, 5, 6] 7 (by kernel_rfl) (by kernel_rfl))
        refine ⟨fun _ => hcl, ?_⟩
        obtain ⟨v_47, h_46, hm⟩ := bind_t hm
        refine Vk.dOnly (i := 9) (by kernel_rfl) (Vk.call (some 22) 28 #[.slice Ar40x0_43 v_42.length cr40x0_44, .agg (vals v_31.1)] hs (by kernel_rfl) (by kernel_rfl) (by kernel_rfl) ?_)
        refine (share_Value.ok k v_42 v_31.1 v_47 h_46 κ w (rowp Ar40x0_43 cr40x0_44 32 1 (eI .u64) v_42 :: bagL (Twire_Machine.parts br4x0m_15 v_31.2 g_36) :: pt b_32 (blk v_31.1 28) :: pt b_21 (blk [cp br4x0m_15, cp br4x0x_16, C.slc Ar4x0l_17 v_14.2.2.1.length cr4x0l_18, C.slc Ar4x0v_19 v_14.2.2.2.1.length cr4x0v_20] 45) :: Tvisorref19_M.own κ br4x0x_16 v_14.2.1 :: rowp Ar4x0l_17 cr4x0l_18 28 3 eC v_14.2.2.1 :: rowp Ar4x0v_19 cr4x0v_20 32 1 (eI .u64) v_14.2.2.2.1 :: S) Ar40x0_43 cr40x0_44 (Sl.lift (fun w ho => (Own.to (S' := rowp Ar40x0_43 cr40x0_44 32 1 (eI .u64) v_42 :: S) ho [0] 7 (by kernel_rfl) (by kernel_rfl))) (Own.rowSl 0 (Own.to (S' := rowp Ar40x0_43 cr40x0_44 32 1 (eI .u64) v_42 :: S) hs.own [0] 7 (by kernel_rfl) (by kernel_rfl)) rfl)) hs.own).mono ?_
        rintro _ w ⟨rfl, how⟩
        refine ⟨_, _, _, rfl, how, fun a hs => ?_⟩
        replace hcl : Own κ w C_35 := by rw [hC_35]; exact (Own.to hs.own [2, 3, 4, 5, 6] 7 (by kernel_rfl) (by kernel_rfl))
        refine ⟨fun _ => hcl, ?_⟩
        refine qdp (fuel := 0) [10, 11, 12] hs hcl hqC_35 fun a hs => ?_
        replace hs := hs.pick [0] (L' := [(0, .bool (v_47 == 7))]) (by kernel_rfl)
        refine Vk.dDone (by kernel_rfl) ?_
        replace hs := hs.toEx (Twire_Machine.parts br4x0m_15 v_31.2) g_36 1 rfl
        exact hj34 (v_47 == 7) hm _ _ (hs.go [0] [] 7 (by kernel_rfl) (by kernel_rfl) (by kernel_rfl))
      · replace hm := bif_f hm hb
        replace hs := hs.known (t := 17) hb (by kernel_rfl)
        refine qdp (fuel := 0) [5, 6, 7, 8, 9, 10, 11, 12] hs hcl hqC_35 fun a hs => ?_
        replace hs := hs.pick [0] (L' := [(0, .bool false)]) (by kernel_rfl)
        refine Vk.dDone (by kernel_rfl) ?_
        replace hs := hs.toEx (Twire_Machine.parts br4x0m_15 v_31.2) g_36 0 rfl
        exact hj34 false hm _ _ (hs.go [0] [] 6 (by kernel_rfl) (by kernel_rfl) (by kernel_rfl))


def visorref20_Value.j1 (k : Nat) (rec6 : Int → Int → Option (Int)) (q_8 : Int) (p_30 : Int) (p_31 : Int) (p_32 : Bool) : Option (Int) := rec6 p_30 (IntKind.i64.wrap (q_8 + 1))
def visorref20_Value.l1 (x0 : List Int) (x1 : Cells) : Nat → Int → Int → Option (Int)
  | 0, _, _ => none
  | k + 1, q_7, q_8 => (bif decide (q_8 < 3) then (if 0 ≤ q_8 ∧ q_8 < 3 then (getI .i64 x1 (0 + q_8.toNat * 1)).bind fun v_15 => (bif decide (v_15 ≥ 0) then (if 0 ≤ q_8 ∧ q_8 < 3 then (getI .i64 x1 (0 + q_8.toNat * 1)).bind fun v_19 => (bif decide (v_19 < ((x0.length : Nat) : Int)) then (if 0 ≤ q_8 ∧ q_8 < 3 then (getI .i64 x1 (0 + q_8.toNat * 1)).bind fun v_22 => (if 0 ≤ v_22 then (x0[v_22.toNat]?).bind fun e_26 => visorref20_Value.j1 k (visorref20_Value.l1 x0 x1 k) q_8 (bxor .u64 q_7 e_26) v_19 (decide (v_19 < ((x0.length : Nat) : Int))) else none) else none) else visorref20_Value.j1 k (visorref20_Value.l1 x0 x1 k) q_8 q_7 v_19 (decide (v_19 < ((x0.length : Nat) : Int)))) else none) else visorref20_Value.l1 x0 x1 k q_7 (IntKind.i64.wrap (q_8 + 1))) else none) else some q_7)
abbrev visorref20_Value.R (κ : Ctx) (S : List HP) (x0 : List Int) (x1 : Cells) (A_x0 : Option Addr) (c_x0 : Nat) (r : Int) : Ending → World → Prop := fun e w' => e = .returned (vw r) ∧ Own κ w' (S)
def visorref20_Value.m (k : Nat) (x0 : List Int) (x1 : Cells) : Option Int := (visorref20_Value.l1 x0 x1 k 0 0).bind fun p_34 => some p_34

set_option maxRecDepth 100000 in
set_option maxHeartbeats 4000000 in
theorem visorref20_Value.ok (k : Nat) (x0 : List Int) (x1 : Cells) (r : Int) (hm : visorref20_Value.m k x0 x1 = some r) (κ : Ctx) (w : World) (S : List HP) (A_x0 : Option Addr) (c_x0 : Nat) (hx_x0 : Sl κ S A_x0 c_x0 1 (eI .u64) x0) (ho : Own κ w (S)) :
    Calls Try.prog 29 #[.slice A_x0 x0.length c_x0, .agg (vals x1)] w (visorref20_Value.R κ S x0 x1 A_x0 c_x0 r) := by
  unfold visorref20_Value.m at hm
  generalize hRR : visorref20_Value.R κ S x0 x1 A_x0 c_x0 r = RR
  refine qen [(0, .slice A_x0 x0.length c_x0), (1, .agg (vals x1))] Try.func29 Try.ntmps29 ho fun a hs => ?_
  refine qsr fun K1 hK1 => ?_
  refine Vk.step (Vk.box (x := (.tmp 1)) 3 28 x1 hs (by kernel_rfl) (by kernel_rfl) (by kernel_rfl) fun b_2 w a hs => ?_)
  refine qpe 1 [(0, .slice A_x0 x0.length c_x0), (3, pp b_2)] hs fun a hs => hK1 _ _ ?_
  clear hK1
  refine qsr fun K3 hK3 => ?_
  refine qpe 1 [(0, .slice A_x0 x0.length c_x0), (3, pp b_2), (5, vw 0)] hs fun a hs => hK3 _ _ ?_
  clear hK3
  refine Vk.seq fun K4 hK4 => ?_
  refine qsr fun K5 hK5 => ?_
  refine qpe 1 [(0, .slice A_x0 x0.length c_x0), (3, pp b_2), (5, vw 0), (6, vi 0)] hs fun a hs => hK5 _ _ ?_
  clear hK5
  refine wp_block ?_
  obtain ⟨r6, hl6, hm⟩ := bind_t hm
  have hx6 : ∀ (p_34 : Int), r6 = p_34 → ∀ (a : Act) (w : World), St 35 a w κ [(5, vw p_34)] (S) → K4 a w := by
    intro p_34 he a w hs
    subst r6
    refine hK4 _ _ ?_
    clear hK4
    refine qsr fun K39 hK39 => ?_
    refine qpe 2 [(4, vw p_34)] hs fun a hs => hK39 _ _ ?_
    clear hK39
    refine wp_ret ?_
    exact Vk.ret1 (P := Try.prog) (fn := Try.f29) (R := RR) (vw p_34) hs rfl (by kernel_rfl) (by obtain rfl := Option.some.inj hm; subst hRR; exact ⟨rfl, (Own.to hs.own [] 0 (by kernel_rfl) (by kernel_rfl))⟩)
  refine Vk.loopBy (fun k (s : Int × Int) a w => visorref20_Value.l1 x0 x1 k s.1 s.2 = some r6 ∧ St 35 a w κ [(0, .slice A_x0 x0.length c_x0), (3, pp b_2), (5, vw s.1), (6, vi s.2)] (pt b_2 (blk x1 28) :: S)) k (0, 0) ⟨hl6, hs.go [0, 3, 5, 6] [0] 1 (by kernel_rfl) (by kernel_rfl) (by kernel_rfl)⟩ (fun s a w h => by obtain ⟨h1, _⟩ := h; simp [visorref20_Value.l1] at h1) (fun k KL6 ih s a w h => ?_)
  obtain ⟨q_7, q_8⟩ := s
  obtain ⟨hm, hs⟩ := h
  try dsimp only at hm hs
  rw [visorref20_Value.l1] at hm
  refine Vk.seq fun K9 hK9 => ?_
  refine qsr fun K10 hK10 => ?_
  refine qpe 2 [(0, .slice A_x0 x0.length c_x0), (3, pp b_2), (5, vw q_7), (6, vi q_8), (8, .bool (decide (q_8 < 3)))] hs fun a hs => hK10 _ _ ?_
  clear hK10
  refine qcs (decide (q_8 < 3)) hs (fun hb => ?_) fun hb => ?_
  · replace hm := bif_t hm hb
    refine wp_skip ?_
    refine hK9 _ _ ?_
    clear hK9
    refine Vk.seq fun K11 hK11 => ?_
    have hj33 : ∀ (p_30 : Int) (p_31 : Int) (p_32 : Bool), visorref20_Value.j1 k (visorref20_Value.l1 x0 x1 k) q_8 p_30 p_31 p_32 = some r6 → ∀ (a : Act) (w : World), St 35 a w κ [(0, .slice A_x0 x0.length c_x0), (3, pp b_2), (5, vw p_30), (6, vi q_8), (17, vi q_8), (18, pp b_2), (19, .pointer (some ⟨b_2, 0 + q_8.toNat * 1, none⟩)), (20, vi p_31), (21, .slice A_x0 x0.length c_x0), (22, vi ((x0.length : Nat) : Int)), (23, .bool p_32)] (pt b_2 (blk x1 28) :: S) → K11 a w := by
      intro p_30 p_31 p_32 hm a w hs
      unfold visorref20_Value.j1 at hm
      refine hK11 _ _ ?_
      refine Vk.region ?_
      refine qpe 3 [(0, .slice A_x0 x0.length c_x0), (3, pp b_2), (5, vw p_30), (6, vi (IntKind.i64.wrap (q_8 + 1))), (17, vi q_8), (18, pp b_2), (19, .pointer (some ⟨b_2, 0 + q_8.toNat * 1, none⟩)), (20, vi p_31), (21, .slice A_x0 x0.length c_x0), (22, vi ((x0.length : Nat) : Int)), (23, .bool p_32)] hs fun a hs => ?_
      refine ih (p_30, (IntKind.i64.wrap (q_8 + 1))) _ _ ⟨hm, hs.go [0, 3, 5, 6] [0] 1 (by kernel_rfl) (by kernel_rfl) (by kernel_rfl)⟩
    refine wp_block ?_
    refine qsr fun K12 hK12 => ?_
    refine qpu 2 hs fun a hs => ?_
    obtain ⟨h_13, hm⟩ := ite_t hm
    refine Vk.step (Vk.value (some 13) (.pointer (some ⟨b_2, 0 + q_8.toNat * 1, none⟩)) hs (by kernel_rfl) (op := (.indexAddr 26 (.tmp 12) (.tmp 11))) (by kernel_rfl) (fun o ho => run_idxArr (k := .i64) ho (by kernel_rfl) (by kernel_rfl) (by kernel_rfl) h_13 _) fun a hs => ?_)
    obtain ⟨v_15, h_14, hm⟩ := bind_t hm
    refine Vk.step (Vk.value (some 14) (vi v_15) hs (by kernel_rfl) (op := (.load 3 (.tmp 13))) (by kernel_rfl) (fun o ho => run_load1 (c := ci v_15) ho (by kernel_rfl) (by kernel_rfl) (Cell.own 0 rfl (getI_some h_14)) _ hs.own) fun a hs => ?_)
    refine qpu 2 hs fun a hs => ?_
    rcases Bool.eq_false_or_eq_true (decide (v_15 ≥ 0)) with hb | hb
    · replace hm := bif_t hm hb
      replace hs := hs.known (t := 16) hb (by kernel_rfl)
      refine qpu 2 hs fun a hs => ?_
      obtain ⟨h_17, hm⟩ := ite_t hm
      refine Vk.step (Vk.value (some 19) (.pointer (some ⟨b_2, 0 + q_8.toNat * 1, none⟩)) hs (by kernel_rfl) (op := (.indexAddr 26 (.tmp 18) (.tmp 17))) (by kernel_rfl) (fun o ho => run_idxArr (k := .i64) ho (by kernel_rfl) (by kernel_rfl) (by kernel_rfl) h_17 _) fun a hs => ?_)
      obtain ⟨v_19, h_18, hm⟩ := bind_t hm
      refine Vk.step (Vk.value (some 20) (vi v_19) hs (by kernel_rfl) (op := (.load 3 (.tmp 19))) (by kernel_rfl) (fun o ho => run_load1 (c := ci v_19) ho (by kernel_rfl) (by kernel_rfl) (Cell.own 0 rfl (getI_some h_18)) _ hs.own) fun a hs => ?_)
      refine qpe 4 [(0, .slice A_x0 x0.length c_x0), (3, pp b_2), (5, vw q_7), (6, vi q_8), (17, vi q_8), (18, pp b_2), (19, .pointer (some ⟨b_2, 0 + q_8.toNat * 1, none⟩)), (20, vi v_19), (21, .slice A_x0 x0.length c_x0), (22, vi ((x0.length : Nat) : Int)), (23, .bool (decide (v_19 < ((x0.length : Nat) : Int)))), (24, .bool (decide (v_19 < ((x0.length : Nat) : Int))))] hs fun a hs => hK12 _ _ ?_
      refine qcs (decide (v_19 < ((x0.length : Nat) : Int))) hs (fun hb => ?_) fun hb => ?_
      · replace hm := bif_t hm hb
        refine Vk.region ?_
        refine qpu 4 hs fun a hs => ?_
        obtain ⟨h_20, hm⟩ := ite_t hm
        refine Vk.step (Vk.value (some 29) (.pointer (some ⟨b_2, 0 + q_8.toNat * 1, none⟩)) hs (by kernel_rfl) (op := (.indexAddr 26 (.tmp 28) (.tmp 27))) (by kernel_rfl) (fun o ho => run_idxArr (k := .i64) ho (by kernel_rfl) (by kernel_rfl) (by kernel_rfl) h_20 _) fun a hs => ?_)
        obtain ⟨v_22, h_21, hm⟩ := bind_t hm
        refine Vk.step (Vk.value (some 30) (vi v_22) hs (by kernel_rfl) (op := (.load 3 (.tmp 29))) (by kernel_rfl) (fun o ho => run_load1 (c := ci v_22) ho (by kernel_rfl) (by kernel_rfl) (Cell.own 0 rfl (getI_some h_21)) _ hs.own) fun a hs => ?_)
        obtain ⟨h_23, hm⟩ := ite_t hm
        obtain ⟨e_26, h_24, hm⟩ := bind_t hm
        obtain ⟨b_27, o_28, hA_29, h_25⟩ := Sl.elem hx_x0 h_24
        refine Vk.step (Vk.value (some 31) (.pointer (some ⟨b_27, o_28 + v_22.toNat * 1, none⟩)) hs (by kernel_rfl) (op := (.indexAddr 25 (.tmp 26) (.tmp 30))) (by kernel_rfl) (fun o ho => run_idxSlc (k := .i64) ho (cap := c_x0) (len := x0.length) ((congrArg (fun A => Value.slice A (x0.length) (c_x0)) hA_29) ▸ (by kernel_rfl)) (by kernel_rfl) (by kernel_rfl) (idx_ok h_23 h_24) _) fun a hs => ?_)
        refine Vk.step (Vk.value (some 32) (vw e_26) hs (by kernel_rfl) (op := (.load 32 (.tmp 31))) (by kernel_rfl) (fun o ho => run_load1 (c := cw e_26) ho (by kernel_rfl) (by kernel_rfl) (fun w ho => h_25 w ho 0 _ rfl) _ hs.own.drop) fun a hs => ?_)
        refine qpe 2 [(0, .slice A_x0 x0.length c_x0), (3, pp b_2), (5, vw (bxor .u64 q_7 e_26)), (6, vi q_8), (17, vi q_8), (18, pp b_2), (19, .pointer (some ⟨b_2, 0 + q_8.toNat * 1, none⟩)), (20, vi v_19), (21, .slice A_x0 x0.length c_x0), (22, vi ((x0.length : Nat) : Int)), (23, .bool (decide (v_19 < ((x0.length : Nat) : Int))))] hs fun a hs => ?_
        exact hj33 (bxor .u64 q_7 e_26) v_19 (decide (v_19 < ((x0.length : Nat) : Int))) hm _ _ (hs.go [0, 3, 5, 6, 17, 18, 19, 20, 21, 22, 23] [0] 1 (by kernel_rfl) (by kernel_rfl) (by kernel_rfl))
      · replace hm := bif_f hm hb
        refine wp_skip ?_
        exact hj33 q_7 v_19 (decide (v_19 < ((x0.length : Nat) : Int))) hm _ _ (hs.go [0, 3, 5, 6, 17, 18, 19, 20, 21, 22, 23] [0] 1 (by kernel_rfl) (by kernel_rfl) (by kernel_rfl))
    · replace hm := bif_f hm hb
      replace hs := hs.known (t := 16) hb (by kernel_rfl)
      refine qpe 8 [(0, .slice A_x0 x0.length c_x0), (3, pp b_2), (5, vw q_7), (6, vi q_8), (24, .bool false)] hs fun a hs => hK12 _ _ ?_
      refine qcf hs ?_
      refine wp_skip ?_
      refine hK11 _ _ ?_
      refine Vk.region ?_
      refine qpe 3 [(0, .slice A_x0 x0.length c_x0), (3, pp b_2), (5, vw q_7), (6, vi (IntKind.i64.wrap (q_8 + 1)))] hs fun a hs => ?_
      refine ih (q_7, (IntKind.i64.wrap (q_8 + 1))) _ _ ⟨hm, hs.go [0, 3, 5, 6] [0] 1 (by kernel_rfl) (by kernel_rfl) (by kernel_rfl)⟩
  · replace hm := bif_f hm hb
    refine wp_exit ?_
    exact hx6 q_7 (Option.some.inj hm).symm _ _ (hs.go [5] [] 1 (by kernel_rfl) (by kernel_rfl) (by kernel_rfl))


def visorlaw20_SharePlays.j2 (k : Nat) (rec34 : Twire_Machine → Tvisorref19_M → (List Cells) → (List Int) → Int → Option (Sum (Bool) (Unit))) (q_39 : List Cells) (q_42 : List Int) (q_43 : Int) (p_62 : Twire_Machine) (p_63 : Tvisorref19_M) (p_65 : Cells) (p_66 : Int) (p_67 : Bool) : Option (Sum (Bool) (Unit)) := (bif !p_67 then some (.inl false) else (visorlaw20_Pair_Like.m k (⟨p_62, p_63, q_39, q_42⟩ : Tvisorlaw20_Pair)).bind fun v_74 => (bif !v_74 then some (.inl false) else (bif p_63.e != 0 then (visorlaw20_awake.m k).bind fun v_86 => some (.inl v_86) else (if p_65.length = 3 then (wire_Machine_Values.m k p_62).bind fun v_93 => (share_Value.m k v_93 p_65).bind fun v_98 => (bif v_98 != p_66 then some (.inl false) else (visorref20_Value.m k p_63.val p_65).bind fun v_101 => (bif v_101 != p_66 then some (.inl false) else (if (q_39.length + ([p_65] : List Cells).length) * 24 ≤ 140737488355328 then (if (q_42.length + ([p_66] : List Int).length) * 8 ≤ 140737488355328 then rec34 p_62 p_63 (q_39 ++ ([p_65] : List Cells)) (q_42 ++ ([p_66] : List Int)) (IntKind.i64.wrap (q_43 + 1)) else none) else none))) else none))))
def visorlaw20_SharePlays.l1 (x2 : List Tvisorlaw20_Act) : Nat → Twire_Machine → Tvisorref19_M → (List Cells) → (List Int) → Int → Option (Sum (Bool) (Unit))
  | 0, _, _, _, _, _ => none
  | k + 1, q_35, q_36, q_39, q_42, q_43 => (bif (decide (q_43 < ((x2.length : Nat) : Int))) && (decide (q_43 < 100)) then (if 0 ≤ q_43 then (x2[q_43.toNat]?).bind fun e_53 => (visorlaw20_Pair_does.m k (⟨q_35, q_36, q_39, q_42⟩ : Tvisorlaw20_Pair) e_53).bind fun v_59 => (if v_59.1.length = 3 then visorlaw20_SharePlays.j2 k (visorlaw20_SharePlays.l1 x2 k) q_39 q_42 q_43 v_59.2.2.2.1 v_59.2.2.2.2 v_59.1 v_59.2.1 v_59.2.2.1 else none) else none) else some (.inr ()))
def visorlaw20_SharePlays.j1 (k : Nat) (x1 : List Int) (x2 : List Tvisorlaw20_Act) (p_5 : Int) : Option (Bool) := ((visorlaw20_Begins.m k p_5 x1 600).bind fun v => match v with | (.inl v_11) => some false | (.inr v_18) => (bif !v_18.2.2.2.2 then some false else (visorlaw20_SharePlays.l1 x2 k v_18.1 v_18.2.1 v_18.2.2.1 v_18.2.2.2.1 0).bind fun x => match x with | .inl v => some v | .inr () => (visorlaw20_awake.m k).bind fun v_127 => some v_127))
abbrev visorlaw20_SharePlays.R (κ : Ctx) (S : List HP) (x0 : Bool) (x1 : List Int) (x2 : List Tvisorlaw20_Act) (A_x1 : Option Addr) (c_x1 : Nat) (A_x2 : Option Addr) (c_x2 : Nat) (r : Bool) : Ending → World → Prop := fun e w' => e = .returned (.bool r) ∧ Own κ w' (S)
def visorlaw20_SharePlays.m (k : Nat) (x0 : Bool) (x1 : List Int) (x2 : List Tvisorlaw20_Act) : Option Bool := (bif x0 then visorlaw20_SharePlays.j1 k x1 x2 3 else visorlaw20_SharePlays.j1 k x1 x2 2)

set_option maxRecDepth 100000 in
set_option maxHeartbeats 4000000 in
theorem visorlaw20_SharePlays.ok (k : Nat) (x0 : Bool) (x1 : List Int) (x2 : List Tvisorlaw20_Act) (r : Bool) (hm : visorlaw20_SharePlays.m k x0 x1 x2 = some r) (κ : Ctx) (w : World) (S : List HP) (A_x1 : Option Addr) (c_x1 : Nat) (hx_x1 : Sl κ [] A_x1 c_x1 1 (eI .u64) x1) (A_x2 : Option Addr) (c_x2 : Nat) (hx_x2 : Sl κ [] A_x2 c_x2 5 Tvisorlaw20_Act.cells x2) (ho : Own κ w (S)) :
    Calls Try.prog 5 #[.bool x0, .slice A_x1 x1.length c_x1, .slice A_x2 x2.length c_x2] w (visorlaw20_SharePlays.R κ S x0 x1 x2 A_x1 c_x1 A_x2 c_x2 r) := by
  have ht_x1 := hx_x1
  generalize hRR : visorlaw20_SharePlays.R κ S x0 x1 x2 A_x1 c_x1 A_x2 c_x2 r = RR
  replace hx_x1 := Sl.top (S := S) hx_x1
  have ht_x2 := hx_x2
  replace hx_x2 := Sl.top (S := S) hx_x2
  unfold visorlaw20_SharePlays.m at hm
  refine qen [(0, .bool x0), (1, .slice A_x1 x1.length c_x1), (2, .slice A_x2 x2.length c_x2)] Try.func5 Try.ntmps5 ho fun a hs => ?_
  refine qsr fun K1 hK1 => ?_
  refine qpe 1 [(0, .bool x0), (1, .slice A_x1 x1.length c_x1), (2, .slice A_x2 x2.length c_x2)] hs fun a hs => hK1 _ _ ?_
  clear hK1
  refine qsr fun K2 hK2 => ?_
  refine qpe 1 [(0, .bool x0), (1, .slice A_x1 x1.length c_x1), (2, .slice A_x2 x2.length c_x2), (7, vi 2)] hs fun a hs => hK2 _ _ ?_
  clear hK2
  refine Vk.seq fun K3 hK3 => ?_
  have hj3 : ∀ (p_5 : Int), visorlaw20_SharePlays.j1 k x1 x2 p_5 = some r → ∀ (a : Act) (w : World), St 88 a w κ [(1, .slice A_x1 x1.length c_x1), (2, .slice A_x2 x2.length c_x2), (7, vi p_5)] (S) → K3 a w := by
    intro p_5 hm a w hs
    unfold visorlaw20_SharePlays.j1 at hm
    refine hK3 _ _ ?_
    refine qsr fun K6 hK6 => ?_
    refine qpu 2 hs fun a hs => ?_
    replace hs := hs.addRd ht_x1
    obtain ⟨v_10, h_9, hm⟩ := bind_t hm
    refine Vk.step (Vk.call (some 18) 18 #[vi p_5, .slice A_x1 x1.length c_x1, vi 600] hs (by kernel_rfl) (by kernel_rfl) (by kernel_rfl) ?_)
    refine (visorlaw20_Begins.ok k p_5 x1 600 v_10 h_9 κ w (S) A_x1 c_x1 (Own.to hs.own [0] 1 (by kernel_rfl) (by kernel_rfl))).mono ?_
    rintro _ w (⟨v_11, rfl, br8x0x_12, Ar8x0l_13, cr8x0l_14, Ar8x0v_15, cr8x0v_16, rfl, how⟩ | ⟨v_18, rfl, br8x0m_19, br8x0x_20, Ar8x0l_21, cr8x0l_22, Ar8x0v_23, cr8x0v_24, rfl, how⟩)
    · dsimp only at hm
      refine ⟨_, _, _, rfl, how, fun a hs => ?_⟩
      refine qpu 3 hs fun a hs => ?_
      refine Vk.step (Vk.alloc 8 45 [C.ptr none, C.ptr none, C.slc none 0 0, C.slc none 0 0] hs (by kernel_rfl) (by kernel_rfl) (by kernel_rfl) fun b_17 w a hs => ?_)
      refine Vk.step (Vk.storeA (b := b_17) (ty := 45) (x := (.tmp 8)) (y := (.tmp 19)) (sz := 4) [C.ptr none, cp br8x0x_12, C.slc Ar8x0l_13 v_11.2.1.length cr8x0l_14, C.slc Ar8x0v_15 v_11.2.2.length cr8x0v_16] 0 hs (by kernel_rfl) (by kernel_rfl) (by kernel_rfl) (by kernel_rfl) (by kernel_rfl) rfl (by kernel_rfl) rfl (Eq.trans (b := 4) rfl (Eq.symm rfl)) fun a w hs => ?_)
      refine qpe 1 [(2, .slice A_x2 x2.length c_x2), (8, pp b_17), (9, .bool false)] hs fun a hs => hK6 _ _ ?_
      refine Vk.seq fun K26 hK26 => ?_
      refine qsr fun K27 hK27 => ?_
      refine qpe 2 [(2, .slice A_x2 x2.length c_x2), (8, pp b_17), (22, .bool true)] hs fun a hs => hK27 _ _ ?_
      clear hK27
      refine qct hs ?_
      refine qsr fun K28 hK28 => ?_
      refine qpe 1 [(6, .bool false)] hs fun a hs => hK28 _ _ ?_
      clear hK28
      refine wp_ret ?_
      exact Vk.ret1 (P := Try.prog) (fn := Try.f5) (R := RR) (.bool false) hs rfl (by kernel_rfl) (by obtain rfl := Option.some.inj hm; subst hRR; exact ⟨rfl, (Own.to hs.own [] 4 (by kernel_rfl) (by kernel_rfl))⟩)
    · dsimp only at hm
      refine ⟨_, _, _, rfl, how, fun a hs => ?_⟩
      refine qpu 3 hs fun a hs => ?_
      refine Vk.step (Vk.alloc 8 45 [C.ptr none, C.ptr none, C.slc none 0 0, C.slc none 0 0] hs (by kernel_rfl) (by kernel_rfl) (by kernel_rfl) fun b_25 w a hs => ?_)
      refine Vk.step (Vk.storeA (b := b_25) (ty := 45) (x := (.tmp 8)) (y := (.tmp 19)) (sz := 4) [cp br8x0m_19, cp br8x0x_20, C.slc Ar8x0l_21 v_18.2.2.1.length cr8x0l_22, C.slc Ar8x0v_23 v_18.2.2.2.1.length cr8x0v_24] 0 hs (by kernel_rfl) (by kernel_rfl) (by kernel_rfl) (by kernel_rfl) (by kernel_rfl) rfl (by kernel_rfl) rfl (Eq.trans (b := 4) rfl (Eq.symm rfl)) fun a w hs => ?_)
      refine qpe 1 [(2, .slice A_x2 x2.length c_x2), (8, pp b_25), (9, .bool v_18.2.2.2.2)] hs fun a hs => hK6 _ _ ?_
      refine Vk.seq fun K29 hK29 => ?_
      refine qsr fun K30 hK30 => ?_
      refine qpe 2 [(2, .slice A_x2 x2.length c_x2), (8, pp b_25), (22, .bool (!v_18.2.2.2.2))] hs fun a hs => hK30 _ _ ?_
      clear hK30
      refine qcs (!v_18.2.2.2.2) hs (fun hb => ?_) fun hb => ?_
      · replace hm := bif_t hm hb
        refine qsr fun K31 hK31 => ?_
        refine qpe 1 [(6, .bool false)] hs fun a hs => hK31 _ _ ?_
        clear hK31
        refine wp_ret ?_
        exact Vk.ret1 (P := Try.prog) (fn := Try.f5) (R := RR) (.bool false) hs rfl (by kernel_rfl) (by obtain rfl := Option.some.inj hm; subst hRR; exact ⟨rfl, (Own.to hs.own [] 5 (by kernel_rfl) (by kernel_rfl))⟩)
      · replace hm := bif_f hm hb
        refine wp_skip ?_
        refine hK29 _ _ ?_
        clear hK29
        refine Vk.seq fun K32 hK32 => ?_
        refine qsr fun K33 hK33 => ?_
        refine qpe 1 [(2, .slice A_x2 x2.length c_x2), (8, pp b_25), (10, vi 0)] hs fun a hs => hK33 _ _ ?_
        clear hK33
        refine wp_block ?_
        obtain ⟨r34, hl34, hm⟩ := bind_t hm
        have hx34 : r34 = Sum.inr () → ∀ (a : Act) (w : World), St 88 a w κ [] (S) → K32 a w := by
          intro he a w hs
          subst r34
          refine hK32 _ _ ?_
          clear hK32
          refine qsr fun K124 hK124 => ?_
          obtain ⟨v_127, h_126, hm⟩ := bind_t hm
          refine Vk.step (Vk.call (some 87) 27 #[] hs (by kernel_rfl) (by kernel_rfl) (by kernel_rfl) ?_)
          refine (visorlaw20_awake.ok k v_127 h_126 κ w (S) hs.own).mono ?_
          rintro _ w ⟨rfl, how⟩
          refine ⟨_, _, _, rfl, how, fun a hs => ?_⟩
          refine qpe 1 [(6, .bool v_127)] hs fun a hs => hK124 _ _ ?_
          clear hK124
          refine wp_ret ?_
          exact Vk.ret1 (P := Try.prog) (fn := Try.f5) (R := RR) (.bool v_127) hs rfl (by kernel_rfl) (by obtain rfl := Option.some.inj hm; subst hRR; exact ⟨rfl, (Own.to hs.own [] 0 (by kernel_rfl) (by kernel_rfl))⟩)
        have hret34 : ∀ v, r34 = Sum.inl v → v = r := by intro v he; subst r34; exact Option.some.inj hm
        refine Vk.loopBy (fun k (s : Twire_Machine × Tvisorref19_M × List Cells × List Int × Int) a w => ∃ (A_37 : Option Addr), ∃ (c_38 : Nat), ∃ (A_40 : Option Addr), ∃ (c_41 : Nat), visorlaw20_SharePlays.l1 x2 k s.1 s.2.1 s.2.2.1 s.2.2.2.1 s.2.2.2.2 = some r34 ∧ St 88 a w κ [(2, .slice A_x2 x2.length c_x2), (8, pp b_25), (10, vi s.2.2.2.2)] (pt b_25 (blk [cp br8x0m_19, cp br8x0x_20, C.slc A_37 s.2.2.1.length c_38, C.slc A_40 s.2.2.2.1.length c_41] 45) :: Twire_Machine.own br8x0m_19 s.1 :: Tvisorref19_M.own κ br8x0x_20 s.2.1 :: rowp A_37 c_38 28 3 eC s.2.2.1 :: rowp A_40 c_41 32 1 (eI .u64) s.2.2.2.1 :: S)) k (v_18.1, v_18.2.1, v_18.2.2.1, v_18.2.2.2.1, 0) ⟨Ar8x0l_21, cr8x0l_22, Ar8x0v_23, cr8x0v_24, hl34, hs.go [2, 8, 10] [0, 1, 2, 3, 4] 5 (by kernel_rfl) (by kernel_rfl) (by kernel_rfl)⟩ (fun s a w h => by obtain ⟨_, _, _, _, h1, _⟩ := h; simp [visorlaw20_SharePlays.l1] at h1) (fun k KL34 ih s a w h => ?_)
        obtain ⟨q_35, q_36, q_39, q_42, q_43⟩ := s
        obtain ⟨A_37, c_38, A_40, c_41, hm, hs⟩ := h
        try dsimp only at hm hs
        rw [visorlaw20_SharePlays.l1] at hm
        refine Vk.seq fun K44 hK44 => ?_
        refine qsr fun K45 hK45 => ?_
        refine qpu 5 hs fun a hs => ?_
        suffices hj_46 : ∀ a, St 88 a w κ [(2, .slice A_x2 x2.length c_x2), (8, pp b_25), (10, vi q_43), (23, vi q_43), (24, .slice A_x2 x2.length c_x2), (25, vi ((x2.length : Nat) : Int)), (26, .bool (decide (q_43 < ((x2.length : Nat) : Int)))), (27, .bool (decide (q_43 < ((x2.length : Nat) : Int)))), (30, .bool ((decide (q_43 < ((x2.length : Nat) : Int))) && (decide (q_43 < 100))))] (pt b_25 (blk [cp br8x0m_19, cp br8x0x_20, C.slc A_37 q_39.length c_38, C.slc A_40 q_42.length c_41] 45) :: Twire_Machine.own br8x0m_19 q_35 :: Tvisorref19_M.own κ br8x0x_20 q_36 :: rowp A_37 c_38 28 3 eC q_39 :: rowp A_40 c_41 32 1 (eI .u64) q_42 :: S) → wpFrom Try.prog _ _ 8 a w by
          rcases Bool.eq_false_or_eq_true (decide (q_43 < ((x2.length : Nat) : Int))) with hb | hb
          · replace hs := hs.known (t := 27) hb (by kernel_rfl)
            refine qpu 3 hs fun a hs => ?_
            have hq := hs.pick [2, 8, 10, 23, 24, 25, 26, 27, 30] (L' := [(2, .slice A_x2 x2.length c_x2), (8, pp b_25), (10, vi q_43), (23, vi q_43), (24, .slice A_x2 x2.length c_x2), (25, vi ((x2.length : Nat) : Int)), (26, .bool (decide (q_43 < ((x2.length : Nat) : Int)))), (27, .bool true), (30, .bool (decide (q_43 < 100)))]) (by kernel_rfl)
            exact hj_46 _ (hq.conv (by first | (rw [hb] <;> rfl) | rfl))
          · replace hs := hs.known (t := 27) hb (by kernel_rfl)
            refine qpu 3 hs fun a hs => ?_
            have hq := hs.pick [2, 8, 10, 23, 24, 25, 26, 27, 30] (L' := [(2, .slice A_x2 x2.length c_x2), (8, pp b_25), (10, vi q_43), (23, vi q_43), (24, .slice A_x2 x2.length c_x2), (25, vi ((x2.length : Nat) : Int)), (26, .bool (decide (q_43 < ((x2.length : Nat) : Int)))), (27, .bool false), (30, .bool false)]) (by kernel_rfl)
            exact hj_46 _ (hq.conv (by first | (rw [hb] <;> rfl) | rfl))
        intro a hs
        refine qpe 0 [(2, .slice A_x2 x2.length c_x2), (8, pp b_25), (10, vi q_43), (30, .bool ((decide (q_43 < ((x2.length : Nat) : Int))) && (decide (q_43 < 100))))] hs fun a hs => hK45 _ _ ?_
        clear hK45
        refine qcs ((decide (q_43 < ((x2.length : Nat) : Int))) && (decide (q_43 < 100))) hs (fun hb => ?_) fun hb => ?_
        · replace hm := bif_t hm hb
          refine wp_skip ?_
          refine hK44 _ _ ?_
          clear hK44
          refine Vk.seq fun K47 hK47 => ?_
          refine wp_block ?_
          refine Vk.seq fun K48 hK48 => ?_
          have hj48 : ∀ (p_62 : Twire_Machine) (p_63 : Tvisorref19_M) (p_65 : Cells) (p_66 : Int) (p_67 : Bool), visorlaw20_SharePlays.j2 k (visorlaw20_SharePlays.l1 x2 k) q_39 q_42 q_43 p_62 p_63 p_65 p_66 p_67 = some r34 → ∀ (b_64 : Nat) (a : Act) (w : World), St 88 a w κ [(2, .slice A_x2 x2.length c_x2), (8, pp b_25), (10, vi q_43), (11, pp b_64), (12, vw p_66), (13, .bool p_67)] (pt b_25 (blk [cp br8x0m_19, cp br8x0x_20, C.slc A_37 q_39.length c_38, C.slc A_40 q_42.length c_41] 45) :: Twire_Machine.own br8x0m_19 p_62 :: Tvisorref19_M.own κ br8x0x_20 p_63 :: rowp A_37 c_38 28 3 eC q_39 :: rowp A_40 c_41 32 1 (eI .u64) q_42 :: pt b_64 (blk p_65 28) :: S) → K48 a w := by
            intro p_62 p_63 p_65 p_66 p_67 hm b_64 a w hs
            unfold visorlaw20_SharePlays.j2 at hm
            refine hK48 _ _ ?_
            refine Vk.seq fun K68 hK68 => ?_
            refine qsr fun K69 hK69 => ?_
            refine qpu 3 hs fun a hs => ?_
            rcases Bool.eq_false_or_eq_true (!p_67) with hb | hb
            · replace hm := bif_t hm hb
              replace hs := hs.known (t := 45) hb (by kernel_rfl)
              refine qpe 4 [(2, .slice A_x2 x2.length c_x2), (8, pp b_25), (10, vi q_43), (11, pp b_64), (12, vw p_66), (49, .bool true)] hs fun a hs => hK69 _ _ ?_
              refine qct hs ?_
              refine qsr fun K75 hK75 => ?_
              refine qpe 1 [(6, .bool false)] hs fun a hs => hK75 _ _ ?_
              clear hK75
              refine wp_ret ?_
              exact Vk.ret1 (P := Try.prog) (fn := Try.f5) (R := RR) (.bool false) hs rfl (by kernel_rfl) (by obtain rfl := hret34 _ ((Option.some.inj hm).symm); subst hRR; exact ⟨rfl, (Own.to hs.own [] 6 (by kernel_rfl) (by kernel_rfl))⟩)
            · replace hm := bif_f hm hb
              replace hs := hs.known (t := 45) hb (by kernel_rfl)
              refine qln 0 ([cp br8x0m_19, cp br8x0x_20, C.slc A_37 q_39.length c_38, C.slc A_40 q_42.length c_41]) hs rfl fun a hs => ?_
              obtain ⟨g_70, hs⟩ := hs.unex 1 rfl
              obtain ⟨g_71, hs⟩ := hs.unex 2 rfl
              obtain ⟨v_74, h_73, hm⟩ := bind_t hm
              refine Vk.step (Vk.call (some 47) 26 #[.agg (vals [cp br8x0m_19, cp br8x0x_20, C.slc A_37 q_39.length c_38, C.slc A_40 q_42.length c_41])] hs (by kernel_rfl) (by kernel_rfl) (by kernel_rfl) ?_)
              refine (visorlaw20_Pair_Like.ok k (⟨p_62, p_63, q_39, q_42⟩ : Tvisorlaw20_Pair) v_74 h_73 κ w (pt b_25 (blk [cp br8x0m_19, cp br8x0x_20, C.slc A_37 q_39.length c_38, C.slc A_40 q_42.length c_41] 45) :: rowp A_37 c_38 28 3 eC q_39 :: rowp A_40 c_41 32 1 (eI .u64) q_42 :: pt b_64 (blk p_65 28) :: S) br8x0m_19 g_70 br8x0x_20 g_71 A_37 c_38 (Sl.lift (fun w ho => (Own.to (S' := rowp A_37 c_38 28 3 eC q_39 :: S) ho [1] 4 (by kernel_rfl) (by kernel_rfl))) (Own.rowSl 0 (Own.to (S' := rowp A_37 c_38 28 3 eC q_39 :: S) hs.own [3] 6 (by kernel_rfl) (by kernel_rfl)) rfl)) A_40 c_41 (Sl.lift (fun w ho => (Own.to (S' := rowp A_40 c_41 32 1 (eI .u64) q_42 :: S) ho [2] 4 (by kernel_rfl) (by kernel_rfl))) (Own.rowSl 0 (Own.to (S' := rowp A_40 c_41 32 1 (eI .u64) q_42 :: S) hs.own [4] 6 (by kernel_rfl) (by kernel_rfl)) rfl)) (Own.to hs.own [1, 2, 0, 3, 4, 5] 6 (by kernel_rfl) (by kernel_rfl))).mono ?_
              rintro _ w ⟨rfl, how⟩
              refine ⟨_, _, _, rfl, how, fun a hs => ?_⟩
              refine qpe 2 [(2, .slice A_x2 x2.length c_x2), (8, pp b_25), (10, vi q_43), (11, pp b_64), (12, vw p_66), (46, .agg (vals [cp br8x0m_19, cp br8x0x_20, C.slc A_37 q_39.length c_38, C.slc A_40 q_42.length c_41])), (47, .bool v_74), (48, .bool (!v_74)), (49, .bool (!v_74))] hs fun a hs => hK69 _ _ ?_
              refine qcs (!v_74) hs (fun hb => ?_) fun hb => ?_
              · replace hm := bif_t hm hb
                refine qsr fun K76 hK76 => ?_
                refine qpe 1 [(6, .bool false)] hs fun a hs => hK76 _ _ ?_
                clear hK76
                refine wp_ret ?_
                replace hs := hs.toEx (Twire_Machine.parts br8x0m_19 p_62) g_70 0 rfl
                replace hs := hs.toEx (Tvisorref19_M.parts κ br8x0x_20 p_63) g_71 1 rfl
                exact Vk.ret1 (P := Try.prog) (fn := Try.f5) (R := RR) (.bool false) hs rfl (by kernel_rfl) (by obtain rfl := hret34 _ ((Option.some.inj hm).symm); subst hRR; exact ⟨rfl, (Own.to hs.own [] 6 (by kernel_rfl) (by kernel_rfl))⟩)
              · replace hm := bif_f hm hb
                refine wp_skip ?_
                refine hK68 _ _ ?_
                clear hK68
                refine Vk.seq fun K77 hK77 => ?_
                refine qsr fun K78 hK78 => ?_
                refine qpu 1 hs fun a hs => ?_
                refine qld 2 (cp br8x0x_20) hs rfl fun a hs => ?_
                refine qpu 2 hs fun a hs => ?_
                replace hs := hs.unbagAt 1 rfl
                refine qld 0 (ci p_63.e) hs rfl fun a hs => ?_
                refine qpe 1 [(2, .slice A_x2 x2.length c_x2), (8, pp b_25), (10, vi q_43), (11, pp b_64), (12, vw p_66), (46, .agg (vals [cp br8x0m_19, cp br8x0x_20, C.slc A_37 q_39.length c_38, C.slc A_40 q_42.length c_41])), (47, .bool v_74), (48, .bool (!v_74)), (55, .bool (p_63.e != 0))] hs fun a hs => hK78 _ _ ?_
                clear hK78
                refine qcs (p_63.e != 0) hs (fun hb => ?_) fun hb => ?_
                · replace hm := bif_t hm hb
                  refine qsr fun K83 hK83 => ?_
                  obtain ⟨v_86, h_85, hm⟩ := bind_t hm
                  refine Vk.step (Vk.call (some 56) 27 #[] hs (by kernel_rfl) (by kernel_rfl) (by kernel_rfl) ?_)
                  refine (visorlaw20_awake.ok k v_86 h_85 κ w (pt br8x0x_20 (blk (Tvisorref19_M.obj p_63 g_71.1 g_71.2.1 g_71.2.2.1 g_71.2.2.2.1 g_71.2.2.2.2.1 g_71.2.2.2.2.2.1 g_71.2.2.2.2.2.2.1 g_71.2.2.2.2.2.2.2) 64) :: rowp g_71.1 g_71.2.1 93 6 Tapi_Op.cells p_63.ops :: rowp g_71.2.2.1 g_71.2.2.2.1 175 3 Tapi_Span.cells p_63.blocks :: rowp g_71.2.2.2.2.1 g_71.2.2.2.2.2.1 32 1 (eI .u64) p_63.val :: rdp κ g_71.2.2.2.2.2.2.1 g_71.2.2.2.2.2.2.2 1 (eI .u64) p_63.tape.l :: bagL (Twire_Machine.parts br8x0m_19 p_62 g_70) :: pt b_25 (blk [cp br8x0m_19, cp br8x0x_20, C.slc A_37 q_39.length c_38, C.slc A_40 q_42.length c_41] 45) :: rowp A_37 c_38 28 3 eC q_39 :: rowp A_40 c_41 32 1 (eI .u64) q_42 :: pt b_64 (blk p_65 28) :: S) hs.own).mono ?_
                  rintro _ w ⟨rfl, how⟩
                  refine ⟨_, _, _, rfl, how, fun a hs => ?_⟩
                  refine qpe 1 [(6, .bool v_86)] hs fun a hs => hK83 _ _ ?_
                  clear hK83
                  refine wp_ret ?_
                  replace hs := hs.toEx (Twire_Machine.parts br8x0m_19 p_62) g_70 5 rfl
                  exact Vk.ret1 (P := Try.prog) (fn := Try.f5) (R := RR) (.bool v_86) hs rfl (by kernel_rfl) (by obtain rfl := hret34 _ ((Option.some.inj hm).symm); subst hRR; exact ⟨rfl, (Own.to hs.own [] 10 (by kernel_rfl) (by kernel_rfl))⟩)
                · replace hm := bif_f hm hb
                  refine wp_skip ?_
                  refine hK77 _ _ ?_
                  clear hK77
                  refine Vk.seq fun K87 hK87 => ?_
                  refine Vk.seq fun K88 hK88 => ?_
                  obtain ⟨C_89, hC_89⟩ : ∃ X0 : List HP, X0 = (pt br8x0x_20 (blk (Tvisorref19_M.obj p_63 g_71.1 g_71.2.1 g_71.2.2.1 g_71.2.2.2.1 g_71.2.2.2.2.1 g_71.2.2.2.2.2.1 g_71.2.2.2.2.2.2.1 g_71.2.2.2.2.2.2.2) 64) :: rowp g_71.1 g_71.2.1 93 6 Tapi_Op.cells p_63.ops :: rowp g_71.2.2.1 g_71.2.2.2.1 175 3 Tapi_Span.cells p_63.blocks :: rowp g_71.2.2.2.2.1 g_71.2.2.2.2.2.1 32 1 (eI .u64) p_63.val :: rdp κ g_71.2.2.2.2.2.2.1 g_71.2.2.2.2.2.2.2 1 (eI .u64) p_63.tape.l :: bagL (Twire_Machine.parts br8x0m_19 p_62 g_70) :: pt b_25 (blk [cp br8x0m_19, cp br8x0x_20, C.slc A_37 q_39.length c_38, C.slc A_40 q_42.length c_41] 45) :: rowp A_37 c_38 28 3 eC q_39 :: rowp A_40 c_41 32 1 (eI .u64) q_42 :: pt b_64 (blk p_65 28) :: S) := ⟨_, rfl⟩
                  refine qdr 18 κ C_89 hs fun w hs hqC_89 => ?_
                  have hcz : Own κ w (pt br8x0x_20 (blk (Tvisorref19_M.obj p_63 g_71.1 g_71.2.1 g_71.2.2.1 g_71.2.2.2.1 g_71.2.2.2.2.1 g_71.2.2.2.2.2.1 g_71.2.2.2.2.2.2.1 g_71.2.2.2.2.2.2.2) 64) :: rowp g_71.1 g_71.2.1 93 6 Tapi_Op.cells p_63.ops :: rowp g_71.2.2.1 g_71.2.2.2.1 175 3 Tapi_Span.cells p_63.blocks :: rowp g_71.2.2.2.2.1 g_71.2.2.2.2.2.1 32 1 (eI .u64) p_63.val :: rdp κ g_71.2.2.2.2.2.2.1 g_71.2.2.2.2.2.2.2 1 (eI .u64) p_63.tape.l :: bagL (Twire_Machine.parts br8x0m_19 p_62 g_70) :: pt b_25 (blk [cp br8x0m_19, cp br8x0x_20, C.slc A_37 q_39.length c_38, C.slc A_40 q_42.length c_41] 45) :: rowp A_37 c_38 28 3 eC q_39 :: rowp A_40 c_41 32 1 (eI .u64) q_42 :: pt b_64 (blk p_65 28) :: S) := (Own.to hs.own [0, 1, 2, 3, 4, 5, 6, 7, 8, 9] 10 (by kernel_rfl) (by kernel_rfl))
                  have hcl : Own κ w C_89 := by rw [hC_89]; exact hcz
                  refine qdp (fuel := 16) [0, 5] hs hcl hqC_89 fun a hs => ?_
                  refine qdl 1 6 (cp br8x0m_19) hs hcl hqC_89 hC_89 rfl fun a hs => ?_
                  obtain ⟨h_90, hm⟩ := ite_t hm
                  refine Vk.dTakeT (i := 3) (some 60) (.agg (vals p_65)) hs (by kernel_rfl) hqC_89 hcl (by kernel_rfl) (by kernel_rfl) (op := (.load 28 (.tmp 11))) (by kernel_rfl) (by kernel_rfl) (fun w hw o ho => by rw [hC_89] at hw; exact run_loadN (cs := p_65) ho (by kernel_rfl) (by kernel_rfl) h_90 (CellsAt.all 9 rfl) _ hw) fun a hs => ?_
                  obtain ⟨v_93, h_92, hm⟩ := bind_t hm
                  refine Vk.dOnly (i := 2) (by kernel_rfl) (Vk.call (some 59) 22 #[pp br8x0m_19] hs (by kernel_rfl) (by kernel_rfl) (by kernel_rfl) ?_)
                  refine (wire_Machine_Values.ok k p_62 v_93 h_92 κ w (pt br8x0x_20 (blk (Tvisorref19_M.obj p_63 g_71.1 g_71.2.1 g_71.2.2.1 g_71.2.2.2.1 g_71.2.2.2.2.1 g_71.2.2.2.2.2.1 g_71.2.2.2.2.2.2.1 g_71.2.2.2.2.2.2.2) 64) :: rowp g_71.1 g_71.2.1 93 6 Tapi_Op.cells p_63.ops :: rowp g_71.2.2.1 g_71.2.2.2.1 175 3 Tapi_Span.cells p_63.blocks :: rowp g_71.2.2.2.2.1 g_71.2.2.2.2.2.1 32 1 (eI .u64) p_63.val :: rdp κ g_71.2.2.2.2.2.2.1 g_71.2.2.2.2.2.2.2 1 (eI .u64) p_63.tape.l :: pt b_25 (blk [cp br8x0m_19, cp br8x0x_20, C.slc A_37 q_39.length c_38, C.slc A_40 q_42.length c_41] 45) :: rowp A_37 c_38 28 3 eC q_39 :: rowp A_40 c_41 32 1 (eI .u64) q_42 :: pt b_64 (blk p_65 28) :: S) br8x0m_19 g_70 (Own.to hs.own [5, 0, 1, 2, 3, 4, 6, 7, 8, 9] 10 (by kernel_rfl) (by kernel_rfl))).mono ?_
                  rintro _ w ⟨Ar91x0_94, cr91x0_95, rfl, how⟩
                  refine ⟨_, _, _, rfl, how, fun a hs => ?_⟩
                  replace hcl : Own κ w C_89 := by rw [hC_89]; exact (Own.to hs.own [2, 3, 4, 5, 6, 1, 7, 8, 9, 10] 11 (by kernel_rfl) (by kernel_rfl))
                  refine ⟨fun _ => hcl, ?_⟩
                  obtain ⟨v_98, h_97, hm⟩ := bind_t hm
                  refine Vk.dOnly (i := 4) (by kernel_rfl) (Vk.call (some 61) 28 #[.slice Ar91x0_94 v_93.length cr91x0_95, .agg (vals p_65)] hs (by kernel_rfl) (by kernel_rfl) (by kernel_rfl) ?_)
                  refine (share_Value.ok k v_93 p_65 v_98 h_97 κ w (rowp Ar91x0_94 cr91x0_95 32 1 (eI .u64) v_93 :: bagL (Twire_Machine.parts br8x0m_19 p_62 g_70) :: pt br8x0x_20 (blk (Tvisorref19_M.obj p_63 g_71.1 g_71.2.1 g_71.2.2.1 g_71.2.2.2.1 g_71.2.2.2.2.1 g_71.2.2.2.2.2.1 g_71.2.2.2.2.2.2.1 g_71.2.2.2.2.2.2.2) 64) :: rowp g_71.1 g_71.2.1 93 6 Tapi_Op.cells p_63.ops :: rowp g_71.2.2.1 g_71.2.2.2.1 175 3 Tapi_Span.cells p_63.blocks :: rowp g_71.2.2.2.2.1 g_71.2.2.2.2.2.1 32 1 (eI .u64) p_63.val :: rdp κ g_71.2.2.2.2.2.2.1 g_71.2.2.2.2.2.2.2 1 (eI .u64) p_63.tape.l :: pt b_25 (blk [cp br8x0m_19, cp br8x0x_20, C.slc A_37 q_39.length c_38, C.slc A_40 q_42.length c_41] 45) :: rowp A_37 c_38 28 3 eC q_39 :: rowp A_40 c_41 32 1 (eI .u64) q_42 :: pt b_64 (blk p_65 28) :: S) Ar91x0_94 cr91x0_95 (Sl.lift (fun w ho => (Own.to (S' := rowp Ar91x0_94 cr91x0_95 32 1 (eI .u64) v_93 :: S) ho [0] 11 (by kernel_rfl) (by kernel_rfl))) (Own.rowSl 0 (Own.to (S' := rowp Ar91x0_94 cr91x0_95 32 1 (eI .u64) v_93 :: S) hs.own [0] 11 (by kernel_rfl) (by kernel_rfl)) rfl)) hs.own).mono ?_
                  rintro _ w ⟨rfl, how⟩
                  refine ⟨_, _, _, rfl, how, fun a hs => ?_⟩
                  replace hcl : Own κ w C_89 := by rw [hC_89]; exact (Own.to hs.own [2, 3, 4, 5, 6, 1, 7, 8, 9, 10] 11 (by kernel_rfl) (by kernel_rfl))
                  refine ⟨fun _ => hcl, ?_⟩
                  refine qdp (fuel := 10) [6, 7] hs hcl hqC_89 fun a hs => ?_
                  rcases Bool.eq_false_or_eq_true (v_98 != p_66) with hb | hb
                  · replace hm := bif_t hm hb
                    replace hs := hs.known (t := 64) hb (by kernel_rfl)
                    refine qdp (fuel := 0) [8, 9, 10, 11, 12, 13, 14, 15, 16, 17] hs hcl hqC_89 fun a hs => ?_
                    replace hs := hs.pick [2, 8, 10, 11, 12, 46, 47, 48, 74] (L' := [(2, .slice A_x2 x2.length c_x2), (8, pp b_25), (10, vi q_43), (11, pp b_64), (12, vw p_66), (46, .agg (vals [cp br8x0m_19, cp br8x0x_20, C.slc A_37 q_39.length c_38, C.slc A_40 q_42.length c_41])), (47, .bool v_74), (48, .bool (!v_74)), (74, .bool true)]) (by kernel_rfl)
                    refine Vk.dDone (by kernel_rfl) ?_
                    refine hK88 _ _ ?_
                    refine qct hs ?_
                    refine qsr fun K102 hK102 => ?_
                    refine qpe 1 [(6, .bool false)] hs fun a hs => hK102 _ _ ?_
                    clear hK102
                    refine wp_ret ?_
                    replace hs := hs.toEx (Twire_Machine.parts br8x0m_19 p_62) g_70 1 rfl
                    exact Vk.ret1 (P := Try.prog) (fn := Try.f5) (R := RR) (.bool false) hs rfl (by kernel_rfl) (by obtain rfl := hret34 _ ((Option.some.inj hm).symm); subst hRR; exact ⟨rfl, (Own.to hs.own [] 11 (by kernel_rfl) (by kernel_rfl))⟩)
                  · replace hm := bif_f hm hb
                    replace hs := hs.known (t := 64) hb (by kernel_rfl)
                    refine qdp (fuel := 8) [8, 15] hs hcl hqC_89 fun a hs => ?_
                    refine qdl 9 6 (cp br8x0x_20) hs hcl hqC_89 hC_89 rfl fun a hs => ?_
                    refine qdp (fuel := 5) [10, 11] hs hcl hqC_89 fun a hs => ?_
                    refine qdl 12 0 (C.slc g_71.2.2.2.2.1 p_63.val.length g_71.2.2.2.2.2.1) hs hcl hqC_89 hC_89 rfl fun a hs => ?_
                    refine Vk.dTakeT (i := 13) (some 70) (.agg (vals p_65)) hs (by kernel_rfl) hqC_89 hcl (by kernel_rfl) (by kernel_rfl) (op := (.load 28 (.tmp 11))) (by kernel_rfl) (by kernel_rfl) (fun w hw o ho => by rw [hC_89] at hw; exact run_loadN (cs := p_65) ho (by kernel_rfl) (by kernel_rfl) h_90 (CellsAt.all 9 rfl) _ hw) fun a hs => ?_
                    obtain ⟨v_101, h_100, hm⟩ := bind_t hm
                    refine Vk.dOnly (i := 14) (by kernel_rfl) (Vk.call (some 71) 29 #[.slice g_71.2.2.2.2.1 p_63.val.length g_71.2.2.2.2.2.1, .agg (vals p_65)] hs (by kernel_rfl) (by kernel_rfl) (by kernel_rfl) ?_)
                    refine (visorref20_Value.ok k p_63.val p_65 v_101 h_100 κ w (rowp Ar91x0_94 cr91x0_95 32 1 (eI .u64) v_93 :: bagL (Twire_Machine.parts br8x0m_19 p_62 g_70) :: pt br8x0x_20 (blk (Tvisorref19_M.obj p_63 g_71.1 g_71.2.1 g_71.2.2.1 g_71.2.2.2.1 g_71.2.2.2.2.1 g_71.2.2.2.2.2.1 g_71.2.2.2.2.2.2.1 g_71.2.2.2.2.2.2.2) 64) :: rowp g_71.1 g_71.2.1 93 6 Tapi_Op.cells p_63.ops :: rowp g_71.2.2.1 g_71.2.2.2.1 175 3 Tapi_Span.cells p_63.blocks :: rowp g_71.2.2.2.2.1 g_71.2.2.2.2.2.1 32 1 (eI .u64) p_63.val :: rdp κ g_71.2.2.2.2.2.2.1 g_71.2.2.2.2.2.2.2 1 (eI .u64) p_63.tape.l :: pt b_25 (blk [cp br8x0m_19, cp br8x0x_20, C.slc A_37 q_39.length c_38, C.slc A_40 q_42.length c_41] 45) :: rowp A_37 c_38 28 3 eC q_39 :: rowp A_40 c_41 32 1 (eI .u64) q_42 :: pt b_64 (blk p_65 28) :: S) g_71.2.2.2.2.1 g_71.2.2.2.2.2.1 (Sl.lift (fun w ho => (Own.to (S' := rowp g_71.2.2.2.2.1 g_71.2.2.2.2.2.1 32 1 (eI .u64) p_63.val :: S) ho [5] 11 (by kernel_rfl) (by kernel_rfl))) (Own.rowSl 0 (Own.to (S' := rowp g_71.2.2.2.2.1 g_71.2.2.2.2.2.1 32 1 (eI .u64) p_63.val :: S) hs.own [5] 11 (by kernel_rfl) (by kernel_rfl)) rfl)) hs.own).mono ?_
                    rintro _ w ⟨rfl, how⟩
                    refine ⟨_, _, _, rfl, how, fun a hs => ?_⟩
                    replace hcl : Own κ w C_89 := by rw [hC_89]; exact (Own.to hs.own [2, 3, 4, 5, 6, 1, 7, 8, 9, 10] 11 (by kernel_rfl) (by kernel_rfl))
                    refine ⟨fun _ => hcl, ?_⟩
                    refine qdp (fuel := 0) [16, 17] hs hcl hqC_89 fun a hs => ?_
                    replace hs := hs.pick [2, 8, 10, 11, 12, 46, 47, 48, 65, 66, 67, 68, 69, 70, 71, 72, 73, 74] (L' := [(2, .slice A_x2 x2.length c_x2), (8, pp b_25), (10, vi q_43), (11, pp b_64), (12, vw p_66), (46, .agg (vals [cp br8x0m_19, cp br8x0x_20, C.slc A_37 q_39.length c_38, C.slc A_40 q_42.length c_41])), (47, .bool v_74), (48, .bool (!v_74)), (65, .pointer (some ⟨b_25, 1, none⟩)), (66, pp br8x0x_20), (67, pp br8x0x_20), (68, .pointer (some ⟨br8x0x_20, 10, none⟩)), (69, .slice g_71.2.2.2.2.1 p_63.val.length g_71.2.2.2.2.2.1), (70, .agg (vals p_65)), (71, vw v_101), (72, vw p_66), (73, .bool (v_101 != p_66)), (74, .bool (v_101 != p_66))]) (by kernel_rfl)
                    refine Vk.dDone (by kernel_rfl) ?_
                    refine hK88 _ _ ?_
                    refine qcs (v_101 != p_66) hs (fun hb => ?_) fun hb => ?_
                    · replace hm := bif_t hm hb
                      refine qsr fun K103 hK103 => ?_
                      refine qpe 1 [(6, .bool false)] hs fun a hs => hK103 _ _ ?_
                      clear hK103
                      refine wp_ret ?_
                      replace hs := hs.toEx (Twire_Machine.parts br8x0m_19 p_62) g_70 1 rfl
                      exact Vk.ret1 (P := Try.prog) (fn := Try.f5) (R := RR) (.bool false) hs rfl (by kernel_rfl) (by obtain rfl := hret34 _ ((Option.some.inj hm).symm); subst hRR; exact ⟨rfl, (Own.to hs.own [] 11 (by kernel_rfl) (by kernel_rfl))⟩)
                    · replace hm := bif_f hm hb
                      refine wp_skip ?_
                      refine hK87 _ _ ?_
                      clear hK87
                      refine qsr fun K104 hK104 => ?_
                      refine qpu 1 hs fun a hs => ?_
                      refine qld 7 (C.slc A_37 q_39.length c_38) hs rfl fun a hs => ?_
                      refine Vk.step (Vk.value (some 77) (.agg (vals p_65)) hs (by kernel_rfl) (op := (.load 28 (.tmp 11))) (by kernel_rfl) (fun o ho => run_loadN (cs := p_65) ho (by kernel_rfl) (by kernel_rfl) h_90 (CellsAt.all 10 rfl) _ hs.own) fun a hs => ?_)
                      refine Vk.step (Vk.buildOp (sz := 3) (by_ := 24) (t := 43) (e := 28) (parts := #[(0, (.tmp 77))]) (zs := vals [ci 0, ci 0, ci 0]) ([p_65] : List Cells) eC (some 78) hs (by kernel_rfl) (by kernel_rfl) (by kernel_rfl) (by kernel_rfl) (by decide) rfl (fun x _ => by obtain rfl := List.mem_singleton.1 ‹_›; first | assumption | rfl) (Nat.le_of_ble_eq_true (by kernel_rfl)) (fill3 (by assumption) (by kernel_rfl)) fun A_105 w a hs => ?_)
                      obtain ⟨h_107, hm⟩ := ite_t hm
                      refine Vk.step (Vk.appendOp (x := (.tmp 76)) (y := (.tmp 78)) (e := 28) (t := 43) (by_ := 24) (sz := 3) (enc := eC) (A := A_37) (cap := c_38) (xs := q_39) (ys := ([p_65] : List Cells)) (B := A_105) (c2 := 1) 9 (some 79) hs (by kernel_rfl) (by kernel_rfl) (by kernel_rfl) (by kernel_rfl) rfl (Sl.lift (fun w ho => (Own.to (S' := rowp A_105 1 28 3 eC ([p_65] : List Cells) :: S) ho [0] 12 (by kernel_rfl) (by kernel_rfl))) (Own.rowSl 0 (Own.to (S' := rowp A_105 1 28 3 eC ([p_65] : List Cells) :: S) hs.own [0] 12 (by kernel_rfl) (by kernel_rfl)) rfl)) (by kernel_rfl) (by kernel_rfl) (by decide) (by decide) h_107 fun A_108 c_109 w a hs => ?_)
                      refine qpu 1 hs fun a hs => ?_
                      refine Vk.step (Vk.store1 (b := b_25) (ty := 43) (x := (.tmp 80)) (y := (.tmp 79)) (off := 2) (C.slc A_108 ((q_39 ++ ([p_65] : List Cells)).length) c_109) 8 hs (by kernel_rfl) (by kernel_rfl) (by kernel_rfl) (by kernel_rfl) (by kernel_rfl) (by kernel_rfl) rfl (Nat.le_of_ble_eq_true (by kernel_rfl)) fun a w hs => ?_)
                      refine qpe 0 [(2, .slice A_x2 x2.length c_x2), (8, pp b_25), (10, vi q_43), (12, vw p_66), (46, .agg (vals [cp br8x0m_19, cp br8x0x_20, C.slc A_37 q_39.length c_38, C.slc A_40 q_42.length c_41])), (47, .bool v_74), (48, .bool (!v_74)), (65, .pointer (some ⟨b_25, 1, none⟩)), (66, pp br8x0x_20), (67, pp br8x0x_20), (68, .pointer (some ⟨br8x0x_20, 10, none⟩)), (69, .slice g_71.2.2.2.2.1 p_63.val.length g_71.2.2.2.2.2.1), (70, .agg (vals p_65)), (71, vw v_101), (72, vw p_66), (73, .bool (v_101 != p_66))] hs fun a hs => hK104 _ _ ?_
                      clear hK104
                      refine Vk.region ?_
                      refine qpu 1 hs fun a hs => ?_
                      refine qld 8 (C.slc A_40 q_42.length c_41) hs rfl fun a hs => ?_
                      refine qpu 1 hs fun a hs => ?_
                      refine Vk.step (Vk.buildOp (sz := 1) (by_ := 8) (t := 25) (e := 32) (parts := #[(0, (.tmp 83))]) (zs := vals [cw 0]) ([p_66] : List Int) (eI .u64) (some 84) hs (by kernel_rfl) (by kernel_rfl) (by kernel_rfl) (by kernel_rfl) (by decide) rfl (fun x _ => rfl) (Nat.le_of_ble_eq_true (by kernel_rfl)) (by kernel_rfl) fun A_110 w a hs => ?_)
                      obtain ⟨h_112, hm⟩ := ite_t hm
                      refine Vk.step (Vk.appendOp (x := (.tmp 82)) (y := (.tmp 84)) (e := 32) (t := 25) (by_ := 8) (sz := 1) (enc := (eI .u64)) (A := A_40) (cap := c_41) (xs := q_42) (ys := ([p_66] : List Int)) (B := A_110) (c2 := 1) 11 (some 85) hs (by kernel_rfl) (by kernel_rfl) (by kernel_rfl) (by kernel_rfl) rfl (Sl.lift (fun w ho => (Own.to (S' := rowp A_110 1 32 1 (eI .u64) ([p_66] : List Int) :: S) ho [0] 13 (by kernel_rfl) (by kernel_rfl))) (Own.rowSl 0 (Own.to (S' := rowp A_110 1 32 1 (eI .u64) ([p_66] : List Int) :: S) hs.own [0] 13 (by kernel_rfl) (by kernel_rfl)) rfl)) (by kernel_rfl) (by kernel_rfl) (by decide) (by decide) h_112 fun A_113 c_114 w a hs => ?_)
                      refine qpu 1 hs fun a hs => ?_
                      refine Vk.step (Vk.store1 (b := b_25) (ty := 25) (x := (.tmp 86)) (y := (.tmp 85)) (off := 3) (C.slc A_113 ((q_42 ++ ([p_66] : List Int)).length) c_114) 9 hs (by kernel_rfl) (by kernel_rfl) (by kernel_rfl) (by kernel_rfl) (by kernel_rfl) (by kernel_rfl) rfl (Nat.le_of_ble_eq_true (by kernel_rfl)) fun a w hs => ?_)
                      refine qpe 0 [(2, .slice A_x2 x2.length c_x2), (8, pp b_25), (10, vi q_43), (46, .agg (vals [cp br8x0m_19, cp br8x0x_20, C.slc A_37 q_39.length c_38, C.slc A_40 q_42.length c_41])), (47, .bool v_74), (48, .bool (!v_74)), (65, .pointer (some ⟨b_25, 1, none⟩)), (66, pp br8x0x_20), (67, pp br8x0x_20), (68, .pointer (some ⟨br8x0x_20, 10, none⟩)), (69, .slice g_71.2.2.2.2.1 p_63.val.length g_71.2.2.2.2.2.1), (70, .agg (vals p_65)), (71, vw v_101), (72, vw p_66), (73, .bool (v_101 != p_66))] hs fun a hs => hK47 _ _ ?_
                      clear hK47
                      refine Vk.region ?_
                      refine qpe 3 [(2, .slice A_x2 x2.length c_x2), (8, pp b_25), (10, vi (IntKind.i64.wrap (q_43 + 1))), (46, .agg (vals [cp br8x0m_19, cp br8x0x_20, C.slc A_37 q_39.length c_38, C.slc A_40 q_42.length c_41])), (47, .bool v_74), (48, .bool (!v_74)), (65, .pointer (some ⟨b_25, 1, none⟩)), (66, pp br8x0x_20), (67, pp br8x0x_20), (68, .pointer (some ⟨br8x0x_20, 10, none⟩)), (69, .slice g_71.2.2.2.2.1 p_63.val.length g_71.2.2.2.2.2.1), (70, .agg (vals p_65)), (71, vw v_101), (72, vw p_66), (73, .bool (v_101 != p_66))] hs fun a hs => ?_
                      replace hs := hs.bagG (l := Tvisorref19_M.parts κ br8x0x_20 p_63 g_71) (S' := rowp A_110 1 32 1 (eI .u64) ([p_66] : List Int) :: rowp A_105 1 28 3 eC ([p_65] : List Cells) :: rowp Ar91x0_94 cr91x0_95 32 1 (eI .u64) v_93 :: bagL (Twire_Machine.parts br8x0m_19 p_62 g_70) :: pt b_25 (blk ([cp br8x0m_19, cp br8x0x_20, C.slc A_108 ((q_39 ++ ([p_65] : List Cells)).length) c_109, C.slc A_113 ((q_42 ++ ([p_66] : List Int)).length) c_114]) 45) :: rowp A_108 c_109 28 3 eC (q_39 ++ ([p_65] : List Cells)) :: rowp A_113 c_114 32 1 (eI .u64) (q_42 ++ ([p_66] : List Int)) :: pt b_64 (blk p_65 28) :: S) (Own.to hs.own [4, 5, 6, 7, 8, 0, 1, 2, 3, 9, 10, 11, 12] 13 (by kernel_rfl) (by kernel_rfl))
                      replace hs := hs.toEx (Tvisorref19_M.parts κ br8x0x_20 p_63) g_71 0 rfl
                      replace hs := hs.toEx (Twire_Machine.parts br8x0m_19 p_62) g_70 4 rfl
                      refine ih (p_62, p_63, (q_39 ++ ([p_65] : List Cells)), (q_42 ++ ([p_66] : List Int)), (IntKind.i64.wrap (q_43 + 1))) _ _ ⟨A_108, c_109, A_113, c_114, hm, hs.go [2, 8, 10] [5, 4, 0, 6, 7] 9 (by kernel_rfl) (by kernel_rfl) (by kernel_rfl)⟩
          obtain ⟨C_49, hC_49⟩ : ∃ X0 : List HP, X0 = (pt b_25 (blk [cp br8x0m_19, cp br8x0x_20, C.slc A_37 q_39.length c_38, C.slc A_40 q_42.length c_41] 45) :: rowp A_37 c_38 28 3 eC q_39 :: rowp A_40 c_41 32 1 (eI .u64) q_42 :: S) := ⟨_, rfl⟩
          refine qdr 14 κ C_49 hs fun w hs hqC_49 => ?_
          have hcz : Own κ w (pt b_25 (blk [cp br8x0m_19, cp br8x0x_20, C.slc A_37 q_39.length c_38, C.slc A_40 q_42.length c_41] 45) :: rowp A_37 c_38 28 3 eC q_39 :: rowp A_40 c_41 32 1 (eI .u64) q_42 :: S) := (Own.to hs.own [0, 3, 4] 5 (by kernel_rfl) (by kernel_rfl))
          have hcl : Own κ w C_49 := by rw [hC_49]; exact hcz
          refine qdp (fuel := 12) [1, 2] hs hcl hqC_49 fun a hs => ?_
          refine qdn 0 0 ([cp br8x0m_19, cp br8x0x_20, C.slc A_37 q_39.length c_38, C.slc A_40 q_42.length c_41]) hs hcl hqC_49 hC_49 rfl fun a hs => ?_
          obtain ⟨h_50, hm⟩ := ite_t hm
          obtain ⟨e_53, h_51, hm⟩ := bind_t hm
          obtain ⟨b_54, o_55, hA_56, h_52⟩ := Sl.elem hx_x2 h_51
          refine Vk.dTakeT (i := 3) (some 37) (.pointer (some ⟨b_54, o_55 + q_43.toNat * 5, none⟩)) hs (by kernel_rfl) hqC_49 hcl (by kernel_rfl) (by kernel_rfl) (op := (.indexAddr 54 (.tmp 35) (.tmp 36))) (by kernel_rfl) (by kernel_rfl) (fun w hw o ho => by rw [hC_49] at hw; exact run_idxSlc (k := .i64) ho (cap := c_x2) (len := x2.length) ((congrArg (fun A => Value.slice A (x2.length) (c_x2)) hA_56) ▸ (by kernel_rfl)) (by kernel_rfl) (by kernel_rfl) (idx_ok h_50 h_51) _) fun a hs => ?_
          refine Vk.dTakeT (i := 4) (some 38) (.agg (vals [ci e_53.kind, ci e_53.a, ci e_53.b, ci e_53.k, cw e_53.c])) hs (by kernel_rfl) hqC_49 hcl (by kernel_rfl) (by kernel_rfl) (op := (.load 58 (.tmp 37))) (by kernel_rfl) (by kernel_rfl) (fun w hw o ho => by rw [hC_49] at hw; exact run_loadN (cs := [ci e_53.kind, ci e_53.a, ci e_53.b, ci e_53.k, cw e_53.c]) ho (by kernel_rfl) (by kernel_rfl) rfl h_52 _ hw.drop.drop.drop) fun a hs => ?_
          refine Vk.dMany2 (i0 := 5) (i1 := 10) (by kernel_rfl) ?_ ?_
          · obtain ⟨v_59, h_58, hm⟩ := bind_t hm
            refine Vk.call (some 39) 25 #[.agg (vals [cp br8x0m_19, cp br8x0x_20, C.slc A_37 q_39.length c_38, C.slc A_40 q_42.length c_41]), .agg (vals [ci e_53.kind, ci e_53.a, ci e_53.b, ci e_53.k, cw e_53.c])] hs (by kernel_rfl) (by kernel_rfl) (by kernel_rfl) ?_
            refine (visorlaw20_Pair_does.ok k (⟨q_35, q_36, q_39, q_42⟩ : Tvisorlaw20_Pair) e_53 v_59 h_58 κ w (pt b_25 (blk [cp br8x0m_19, cp br8x0x_20, C.slc A_37 q_39.length c_38, C.slc A_40 q_42.length c_41] 45) :: rowp A_37 c_38 28 3 eC q_39 :: rowp A_40 c_41 32 1 (eI .u64) q_42 :: S) br8x0m_19 br8x0x_20 A_37 c_38 (Sl.lift (fun w ho => (Own.to (S' := rowp A_37 c_38 28 3 eC q_39 :: S) ho [1] 3 (by kernel_rfl) (by kernel_rfl))) (Own.rowSl 0 (Own.to (S' := rowp A_37 c_38 28 3 eC q_39 :: S) hs.own [3] 5 (by kernel_rfl) (by kernel_rfl)) rfl)) A_40 c_41 ((Own.rowSl 0 hs.own.drop.drop.drop.drop rfl).less.less) (Own.to hs.own [1, 2, 0, 3, 4] 5 (by kernel_rfl) (by kernel_rfl))).mono ?_
            rintro _ w ⟨rfl, how⟩
            refine ⟨_, _, _, rfl, how, fun a hs => ?_⟩
            replace hcl : Own κ w C_49 := by rw [hC_49]; exact (Own.to hs.own [2, 3, 4] 5 (by kernel_rfl) (by kernel_rfl))
            refine ⟨fun _ => hcl, ?_⟩
            refine qdp (fuel := 4) [6, 7, 8, 9] hs hcl hqC_49 fun a hs => ?_
            refine Vk.dOnly (i := 10) (by kernel_rfl) (Vk.alloc 11 28 [ci 0, ci 0, ci 0] hs (by kernel_rfl) (by kernel_rfl) (by kernel_rfl) fun b_60 w a hs => ?_)
            replace hcl : Own κ w C_49 := by rw [hC_49]; exact (Own.to hs.own [3, 4, 5] 6 (by kernel_rfl) (by kernel_rfl))
            refine ⟨fun _ => hcl, ?_⟩
            obtain ⟨h_61, hm⟩ := ite_t hm
            refine Vk.dOnly (i := 11) (by kernel_rfl) (Vk.storeA (b := b_60) (ty := 28) (x := (.tmp 11)) (y := (.tmp 40)) (sz := 3) v_59.1 0 hs (by kernel_rfl) (by kernel_rfl) (by kernel_rfl) (by kernel_rfl) (by kernel_rfl) h_61 (by kernel_rfl) rfl (Eq.trans (b := 3) h_61 (Eq.symm rfl)) fun a w hs => ?_)
            replace hcl : Own κ w C_49 := by rw [hC_49]; exact (Own.to hs.own [3, 4, 5] 6 (by kernel_rfl) (by kernel_rfl))
            refine ⟨fun _ => hcl, ?_⟩
            refine qdp (fuel := 0) [12, 13] hs hcl hqC_49 fun a hs => ?_
            replace hs := hs.pick [2, 8, 10, 11, 12, 13] (L' := [(2, .slice A_x2 x2.length c_x2), (8, pp b_25), (10, vi q_43), (11, pp b_60), (12, vw v_59.2.1), (13, .bool v_59.2.2.1)]) (by kernel_rfl)
            refine Vk.dDone (by kernel_rfl) ?_
            exact hj48 v_59.2.2.2.1 v_59.2.2.2.2 v_59.1 v_59.2.1 v_59.2.2.1 hm b_60 _ _ (hs.go [2, 8, 10, 11, 12, 13] [3, 1, 2, 4, 5, 0] 6 (by kernel_rfl) (by kernel_rfl) (by kernel_rfl))
          · refine Vk.alloc 11 28 [ci 0, ci 0, ci 0] hs (by kernel_rfl) (by kernel_rfl) (by kernel_rfl) fun b_57 w a hs => ?_
            replace hcl : Own κ w C_49 := by rw [hC_49]; exact (Own.to hs.own [1, 4, 5] 6 (by kernel_rfl) (by kernel_rfl))
            refine ⟨fun _ => hcl, ?_⟩
            obtain ⟨v_60, h_59, hm⟩ := bind_t hm
            refine Vk.dOnly (i := 5) (by kernel_rfl) (Vk.call (some 39) 25 #[.agg (vals [cp br8x0m_19, cp br8x0x_20, C.slc A_37 q_39.length c_38, C.slc A_40 q_42.length c_41]), .agg (vals [ci e_53.kind, ci e_53.a, ci e_53.b, ci e_53.k, cw e_53.c])] hs (by kernel_rfl) (by kernel_rfl) (by kernel_rfl) ?_)
            refine (visorlaw20_Pair_does.ok k (⟨q_35, q_36, q_39, q_42⟩ : Tvisorlaw20_Pair) e_53 v_60 h_59 κ w (pt b_57 (blk [ci 0, ci 0, ci 0] 28) :: pt b_25 (blk [cp br8x0m_19, cp br8x0x_20, C.slc A_37 q_39.length c_38, C.slc A_40 q_42.length c_41] 45) :: rowp A_37 c_38 28 3 eC q_39 :: rowp A_40 c_41 32 1 (eI .u64) q_42 :: S) br8x0m_19 br8x0x_20 A_37 c_38 (Sl.lift (fun w ho => (Own.to (S' := rowp A_37 c_38 28 3 eC q_39 :: S) ho [2] 4 (by kernel_rfl) (by kernel_rfl))) (Own.rowSl 0 (Own.to (S' := rowp A_37 c_38 28 3 eC q_39 :: S) hs.own [4] 6 (by kernel_rfl) (by kernel_rfl)) rfl)) A_40 c_41 ((Own.rowSl 0 hs.own.drop.drop.drop.drop.drop rfl).less.less.less) (Own.to hs.own [2, 3, 0, 1, 4, 5] 6 (by kernel_rfl) (by kernel_rfl))).mono ?_
            rintro _ w ⟨rfl, how⟩
            refine ⟨_, _, _, rfl, how, fun a hs => ?_⟩
            replace hcl : Own κ w C_49 := by rw [hC_49]; exact (Own.to hs.own [3, 4, 5] 6 (by kernel_rfl) (by kernel_rfl))
            refine ⟨fun _ => hcl, ?_⟩
            refine qdp (fuel := 3) [6, 7, 8, 9] hs hcl hqC_49 fun a hs => ?_
            obtain ⟨h_61, hm⟩ := ite_t hm
            refine Vk.dOnly (i := 11) (by kernel_rfl) (Vk.storeA (b := b_57) (ty := 28) (x := (.tmp 11)) (y := (.tmp 40)) (sz := 3) v_60.1 2 hs (by kernel_rfl) (by kernel_rfl) (by kernel_rfl) (by kernel_rfl) (by kernel_rfl) h_61 (by kernel_rfl) rfl (Eq.trans (b := 3) h_61 (Eq.symm rfl)) fun a w hs => ?_)
            replace hcl : Own κ w C_49 := by rw [hC_49]; exact (Own.to hs.own [3, 4, 5] 6 (by kernel_rfl) (by kernel_rfl))
            refine ⟨fun _ => hcl, ?_⟩
            refine qdp (fuel := 0) [12, 13] hs hcl hqC_49 fun a hs => ?_
            replace hs := hs.pick [2, 8, 10, 11, 12, 13] (L' := [(2, .slice A_x2 x2.length c_x2), (8, pp b_25), (10, vi q_43), (11, pp b_57), (12, vw v_60.2.1), (13, .bool v_60.2.2.1)]) (by kernel_rfl)
            refine Vk.dDone (by kernel_rfl) ?_
            exact hj48 v_60.2.2.2.1 v_60.2.2.2.2 v_60.1 v_60.2.1 v_60.2.2.1 hm b_57 _ _ (hs.go [2, 8, 10, 11, 12, 13] [3, 0, 1, 4, 5, 2] 6 (by kernel_rfl) (by kernel_rfl) (by kernel_rfl))
        · replace hm := bif_f hm hb
          refine wp_exit ?_
          exact hx34 (Option.some.inj hm).symm _ _ (hs.go [] [] 5 (by kernel_rfl) (by kernel_rfl) (by kernel_rfl))
  refine qsr fun K4 hK4 => ?_
  refine qpe 1 [(1, .slice A_x1 x1.length c_x1), (2, .slice A_x2 x2.length c_x2), (7, vi 2), (14, .bool x0)] hs fun a hs => hK4 _ _ ?_
  clear hK4
  refine qcs (x0) hs (fun hb => ?_) fun hb => ?_
  · replace hm := bif_t hm hb
    refine Vk.region ?_
    refine qpe 1 [(1, .slice A_x1 x1.length c_x1), (2, .slice A_x2 x2.length c_x2), (7, vi 3)] hs fun a hs => ?_
    exact hj3 3 hm _ _ (hs.go [1, 2, 7] [] 0 (by kernel_rfl) (by kernel_rfl) (by kernel_rfl))
  · replace hm := bif_f hm hb
    refine wp_skip ?_
    exact hj3 2 hm _ _ (hs.go [1, 2, 7] [] 0 (by kernel_rfl) (by kernel_rfl) (by kernel_rfl))

end Go.Proofs.Ytflgefjocjpjaaa
