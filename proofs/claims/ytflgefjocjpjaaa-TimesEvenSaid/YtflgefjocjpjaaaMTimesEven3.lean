/- Of each Go function that TimesEven comes to: a model in plain Lean, and that the program's call does what the model says; no condition. -/
import Derived.Test.YtflgefjocjpjaaaProg
import Derived.Test.YtflgefjocjpjaaaVpeafiacm
import Derived.Test.YtflgefjocjpjaaaMTimesEven2
namespace Go.Proofs.Ytflgefjocjpjaaa
open Go Go.Vk
set_option linter.unusedVariables false

structure Tvisorlaw20_Pair where
  m : Twire_Machine
  x : Tvisorref19_M
  l : List Cells
  v : List Int
  deriving Inhabited
def Tvisorlaw20_Pair.obj (x : Tvisorlaw20_Pair) (bm : Nat) (bx : Nat) (Al : Option Addr) (cl : Nat) (Av : Option Addr) (cv : Nat) : Cells := [C.ptr (some ⟨bm, 0, none⟩), C.ptr (some ⟨bx, 0, none⟩), C.slc Al x.l.length cl, C.slc Av x.v.length cv]

def visorlaw22_awake.j1 (k : Nat) (p_42 : Twire_Machine) (p_44 : Cells) : Option (Bool) := (if p_44.length = 3 then (wire_Machine_Values.m k p_42).bind fun v_51 => (share_Value.m k v_51 p_44).bind fun v_56 => some (v_56 == 2) else none)
abbrev visorlaw22_awake.R (κ : Ctx) (S : List HP) (r : Bool) : Ending → World → Prop := fun e w' => e = .returned (.bool r) ∧ Own κ w' (S)
def visorlaw22_awake.m (k : Nat) : Option Bool := ((visorlaw20_Begins.m k 2 ([9] : List Int) 40).bind fun v => match v with | (.inl v_8) => some false | (.inr v_15) => (bif !v_15.2.2.2.2 then some false else (visorlaw22_laid.m k v_15.1 2 [cw 5, cw 3, cw 0]).bind fun v_33 => (visorlaw22_laid.m k v_33.2 2 [cw 1, cw 2, cw 0]).bind fun v_36 => (times_Dom.m k v_36.2 v_33.1 v_36.1).bind fun v_39 => (if v_39.1.length = 3 then visorlaw22_awake.j1 k v_39.2 v_39.1 else none)))

set_option maxRecDepth 100000 in
set_option maxHeartbeats 4000000 in
theorem visorlaw22_awake.ok (k : Nat) (r : Bool) (hm : visorlaw22_awake.m k = some r) (κ : Ctx) (w : World) (S : List HP) (ho : Own κ w (S)) :
    Calls Try.prog 24 #[] w (visorlaw22_awake.R κ S r) := by
  unfold visorlaw22_awake.m at hm
  generalize hRR : visorlaw22_awake.R κ S r = RR
  refine qen [] Try.func24 Try.ntmps24 ho fun a hs => ?_
  refine qsr fun K1 hK1 => ?_
  refine qpe 1 [] hs fun a hs => hK1 _ _ ?_
  clear hK1
  refine qsr fun K2 hK2 => ?_
  refine Vk.step (Vk.buildOp (sz := 1) (by_ := 8) (t := 25) (e := 32) (parts := #[(0, (.const (vw 9)))]) (zs := vals [cw 0]) ([9] : List Int) (eI .u64) (some 5) hs (by kernel_rfl) (by kernel_rfl) (by kernel_rfl) (by kernel_rfl) (by decide) rfl (fun x _ => rfl) (Nat.le_of_ble_eq_true (by kernel_rfl)) (by kernel_rfl) fun A_3 w a hs => ?_)
  replace hs := hs.toRd 0 rfl
  obtain ⟨v_7, h_6, hm⟩ := bind_t hm
  refine Vk.step (Vk.call (some 6) 18 #[vi 2, .slice A_3 (([9] : List Int).length) 1, vi 40] hs (by kernel_rfl) (by kernel_rfl) (by kernel_rfl) ?_)
  refine (visorlaw20_Begins.ok k 2 ([9] : List Int) 40 v_7 h_6 κ w (S) A_3 1 (Own.to hs.own [0] 1 (by kernel_rfl) (by kernel_rfl))).mono ?_
  rintro _ w (⟨v_8, rfl, br5x0x_9, Ar5x0l_10, cr5x0l_11, Ar5x0v_12, cr5x0v_13, rfl, how⟩ | ⟨v_15, rfl, br5x0m_16, br5x0x_17, Ar5x0l_18, cr5x0l_19, Ar5x0v_20, cr5x0v_21, rfl, how⟩)
  · dsimp only at hm
    refine ⟨_, _, _, rfl, how, fun a hs => ?_⟩
    refine qpu 3 hs fun a hs => ?_
    refine Vk.step (Vk.alloc 1 45 [C.ptr none, C.ptr none, C.slc none 0 0, C.slc none 0 0] hs (by kernel_rfl) (by kernel_rfl) (by kernel_rfl) fun b_14 w a hs => ?_)
    refine Vk.step (Vk.storeA (b := b_14) (ty := 45) (x := (.tmp 1)) (y := (.tmp 7)) (sz := 4) [C.ptr none, cp br5x0x_9, C.slc Ar5x0l_10 v_8.2.1.length cr5x0l_11, C.slc Ar5x0v_12 v_8.2.2.length cr5x0v_13] 0 hs (by kernel_rfl) (by kernel_rfl) (by kernel_rfl) (by kernel_rfl) (by kernel_rfl) rfl (by kernel_rfl) rfl (Eq.trans (b := 4) rfl (Eq.symm rfl)) fun a w hs => ?_)
    refine qpe 1 [(1, pp b_14), (2, .bool false)] hs fun a hs => hK2 _ _ ?_
    refine Vk.seq fun K23 hK23 => ?_
    refine qsr fun K24 hK24 => ?_
    refine qpe 2 [(1, pp b_14), (10, .bool true)] hs fun a hs => hK24 _ _ ?_
    clear hK24
    refine qct hs ?_
    refine qsr fun K25 hK25 => ?_
    refine qpe 1 [(0, .bool false)] hs fun a hs => hK25 _ _ ?_
    clear hK25
    refine wp_ret ?_
    exact Vk.ret1 (P := Try.prog) (fn := Try.f24) (R := RR) (.bool false) hs rfl (by kernel_rfl) (by obtain rfl := Option.some.inj hm; subst hRR; exact ⟨rfl, (Own.to hs.own [] 4 (by kernel_rfl) (by kernel_rfl))⟩)
  · dsimp only at hm
    refine ⟨_, _, _, rfl, how, fun a hs => ?_⟩
    refine qpu 3 hs fun a hs => ?_
    refine Vk.step (Vk.alloc 1 45 [C.ptr none, C.ptr none, C.slc none 0 0, C.slc none 0 0] hs (by kernel_rfl) (by kernel_rfl) (by kernel_rfl) fun b_22 w a hs => ?_)
    refine Vk.step (Vk.storeA (b := b_22) (ty := 45) (x := (.tmp 1)) (y := (.tmp 7)) (sz := 4) [cp br5x0m_16, cp br5x0x_17, C.slc Ar5x0l_18 v_15.2.2.1.length cr5x0l_19, C.slc Ar5x0v_20 v_15.2.2.2.1.length cr5x0v_21] 0 hs (by kernel_rfl) (by kernel_rfl) (by kernel_rfl) (by kernel_rfl) (by kernel_rfl) rfl (by kernel_rfl) rfl (Eq.trans (b := 4) rfl (Eq.symm rfl)) fun a w hs => ?_)
    refine qpe 1 [(1, pp b_22), (2, .bool v_15.2.2.2.2)] hs fun a hs => hK2 _ _ ?_
    refine Vk.seq fun K26 hK26 => ?_
    refine qsr fun K27 hK27 => ?_
    refine qpe 2 [(1, pp b_22), (10, .bool (!v_15.2.2.2.2))] hs fun a hs => hK27 _ _ ?_
    clear hK27
    refine qcs (!v_15.2.2.2.2) hs (fun hb => ?_) fun hb => ?_
    · replace hm := bif_t hm hb
      refine qsr fun K28 hK28 => ?_
      refine qpe 1 [(0, .bool false)] hs fun a hs => hK28 _ _ ?_
      clear hK28
      refine wp_ret ?_
      exact Vk.ret1 (P := Try.prog) (fn := Try.f24) (R := RR) (.bool false) hs rfl (by kernel_rfl) (by obtain rfl := Option.some.inj hm; subst hRR; exact ⟨rfl, (Own.to hs.own [] 5 (by kernel_rfl) (by kernel_rfl))⟩)
    · replace hm := bif_f hm hb
      refine wp_skip ?_
      refine hK26 _ _ ?_
      clear hK26
      refine Vk.seq fun K29 hK29 => ?_
      have hj29 : ∀ (p_42 : Twire_Machine) (p_44 : Cells), visorlaw22_awake.j1 k p_42 p_44 = some r → ∀ (b_43 : Nat) (a : Act) (w : World), St 28 a w κ [(1, pp b_22), (3, pp b_43)] (pt b_22 (blk [cp br5x0m_16, cp br5x0x_17, C.slc Ar5x0l_18 v_15.2.2.1.length cr5x0l_19, C.slc Ar5x0v_20 v_15.2.2.2.1.length cr5x0v_21] 45) :: Twire_Machine.own br5x0m_16 p_42 :: Tvisorref19_M.own κ br5x0x_17 v_15.2.1 :: rowp Ar5x0l_18 cr5x0l_19 28 3 eC v_15.2.2.1 :: rowp Ar5x0v_20 cr5x0v_21 32 1 (eI .u64) v_15.2.2.2.1 :: pt b_43 (blk p_44 28) :: S) → K29 a w := by
        intro p_42 p_44 hm b_43 a w hs
        unfold visorlaw22_awake.j1 at hm
        refine hK29 _ _ ?_
        refine Vk.seq fun K45 hK45 => ?_
        obtain ⟨C_46, hC_46⟩ : ∃ X0 : List HP, X0 = (pt b_22 (blk [cp br5x0m_16, cp br5x0x_17, C.slc Ar5x0l_18 v_15.2.2.1.length cr5x0l_19, C.slc Ar5x0v_20 v_15.2.2.2.1.length cr5x0v_21] 45) :: Tvisorref19_M.own κ br5x0x_17 v_15.2.1 :: rowp Ar5x0l_18 cr5x0l_19 28 3 eC v_15.2.2.1 :: rowp Ar5x0v_20 cr5x0v_21 32 1 (eI .u64) v_15.2.2.2.1 :: pt b_43 (blk p_44 28) :: S) := ⟨_, rfl⟩
        refine qdr 7 κ C_46 hs fun w hs hqC_46 => ?_
        have hcz : Own κ w (pt b_22 (blk [cp br5x0m_16, cp br5x0x_17, C.slc Ar5x0l_18 v_15.2.2.1.length cr5x0l_19, C.slc Ar5x0v_20 v_15.2.2.2.1.length cr5x0v_21] 45) :: Tvisorref19_M.own κ br5x0x_17 v_15.2.1 :: rowp Ar5x0l_18 cr5x0l_19 28 3 eC v_15.2.2.1 :: rowp Ar5x0v_20 cr5x0v_21 32 1 (eI .u64) v_15.2.2.2.1 :: pt b_43 (blk p_44 28) :: S) := (Own.to hs.own [0, 2, 3, 4, 5] 6 (by kernel_rfl) (by kernel_rfl))
        have hcl : Own κ w C_46 := by rw [hC_46]; exact hcz
        refine qdp (fuel := 6) [0] hs hcl hqC_46 fun a hs => ?_
        refine qdl 1 0 (cp br5x0m_16) hs hcl hqC_46 hC_46 rfl fun a hs => ?_
        obtain ⟨h_47, hm⟩ := ite_t hm
        refine Vk.dTakeT (i := 3) (some 25) (.agg (vals p_44)) hs (by kernel_rfl) hqC_46 hcl (by kernel_rfl) (by kernel_rfl) (op := (.load 28 (.tmp 3))) (by kernel_rfl) (by kernel_rfl) (fun w hw o ho => by rw [hC_46] at hw; exact run_loadN (cs := p_44) ho (by kernel_rfl) (by kernel_rfl) h_47 (CellsAt.all 4 rfl) _ hw) fun a hs => ?_
        obtain ⟨g_48, hs⟩ := hs.unex 1 rfl
        obtain ⟨v_51, h_50, hm⟩ := bind_t hm
        refine Vk.dOnly (i := 2) (by kernel_rfl) (Vk.call (some 24) 22 #[pp br5x0m_16] hs (by kernel_rfl) (by kernel_rfl) (by kernel_rfl) ?_)
        refine (wire_Machine_Values.ok k p_42 v_51 h_50 κ w (pt b_22 (blk [cp br5x0m_16, cp br5x0x_17, C.slc Ar5x0l_18 v_15.2.2.1.length cr5x0l_19, C.slc Ar5x0v_20 v_15.2.2.2.1.length cr5x0v_21] 45) :: Tvisorref19_M.own κ br5x0x_17 v_15.2.1 :: rowp Ar5x0l_18 cr5x0l_19 28 3 eC v_15.2.2.1 :: rowp Ar5x0v_20 cr5x0v_21 32 1 (eI .u64) v_15.2.2.2.1 :: pt b_43 (blk p_44 28) :: S) br5x0m_16 g_48 (Own.to hs.own [1, 0, 2, 3, 4, 5] 6 (by kernel_rfl) (by kernel_rfl))).mono ?_
        rintro _ w ⟨Ar49x0_52, cr49x0_53, rfl, how⟩
        refine ⟨_, _, _, rfl, how, fun a hs => ?_⟩
        replace hcl : Own κ w C_46 := by rw [hC_46]; exact (Own.to hs.own [2, 3, 4, 5, 6] 7 (by kernel_rfl) (by kernel_rfl))
        refine ⟨fun _ => hcl, ?_⟩
        obtain ⟨v_56, h_55, hm⟩ := bind_t hm
        refine Vk.dOnly (i := 4) (by kernel_rfl) (Vk.call (some 26) 28 #[.slice Ar49x0_52 v_51.length cr49x0_53, .agg (vals p_44)] hs (by kernel_rfl) (by kernel_rfl) (by kernel_rfl) ?_)
        refine (share_Value.ok k v_51 p_44 v_56 h_55 κ w (rowp Ar49x0_52 cr49x0_53 32 1 (eI .u64) v_51 :: bagL (Twire_Machine.parts br5x0m_16 p_42 g_48) :: pt b_22 (blk [cp br5x0m_16, cp br5x0x_17, C.slc Ar5x0l_18 v_15.2.2.1.length cr5x0l_19, C.slc Ar5x0v_20 v_15.2.2.2.1.length cr5x0v_21] 45) :: Tvisorref19_M.own κ br5x0x_17 v_15.2.1 :: rowp Ar5x0l_18 cr5x0l_19 28 3 eC v_15.2.2.1 :: rowp Ar5x0v_20 cr5x0v_21 32 1 (eI .u64) v_15.2.2.2.1 :: pt b_43 (blk p_44 28) :: S) Ar49x0_52 cr49x0_53 (Sl.lift (fun w ho => (Own.to (S' := rowp Ar49x0_52 cr49x0_53 32 1 (eI .u64) v_51 :: S) ho [0] 7 (by kernel_rfl) (by kernel_rfl))) (Own.rowSl 0 (Own.to (S' := rowp Ar49x0_52 cr49x0_53 32 1 (eI .u64) v_51 :: S) hs.own [0] 7 (by kernel_rfl) (by kernel_rfl)) rfl)) hs.own).mono ?_
        rintro _ w ⟨rfl, how⟩
        refine ⟨_, _, _, rfl, how, fun a hs => ?_⟩
        replace hcl : Own κ w C_46 := by rw [hC_46]; exact (Own.to hs.own [2, 3, 4, 5, 6] 7 (by kernel_rfl) (by kernel_rfl))
        refine ⟨fun _ => hcl, ?_⟩
        refine qdp (fuel := 0) [5, 6] hs hcl hqC_46 fun a hs => ?_
        replace hs := hs.pick [0] (L' := [(0, .bool (v_56 == 2))]) (by kernel_rfl)
        refine Vk.dDone (by kernel_rfl) ?_
        refine hK45 _ _ ?_
        clear hK45
        refine wp_ret ?_
        replace hs := hs.toEx (Twire_Machine.parts br5x0m_16 p_42) g_48 1 rfl
        exact Vk.ret1 (P := Try.prog) (fn := Try.f24) (R := RR) (.bool (v_56 == 2)) hs rfl (by kernel_rfl) (by obtain rfl := Option.some.inj hm; subst hRR; exact ⟨rfl, (Own.to hs.own [] 7 (by kernel_rfl) (by kernel_rfl))⟩)
      obtain ⟨C_30, hC_30⟩ : ∃ X0 : List HP, X0 = (pt b_22 (blk [cp br5x0m_16, cp br5x0x_17, C.slc Ar5x0l_18 v_15.2.2.1.length cr5x0l_19, C.slc Ar5x0v_20 v_15.2.2.2.1.length cr5x0v_21] 45) :: Tvisorref19_M.own κ br5x0x_17 v_15.2.1 :: rowp Ar5x0l_18 cr5x0l_19 28 3 eC v_15.2.2.1 :: rowp Ar5x0v_20 cr5x0v_21 32 1 (eI .u64) v_15.2.2.2.1 :: S) := ⟨_, rfl⟩
      refine qdr 12 κ C_30 hs fun w hs hqC_30 => ?_
      have hcz : Own κ w (pt b_22 (blk [cp br5x0m_16, cp br5x0x_17, C.slc Ar5x0l_18 v_15.2.2.1.length cr5x0l_19, C.slc Ar5x0v_20 v_15.2.2.2.1.length cr5x0v_21] 45) :: Tvisorref19_M.own κ br5x0x_17 v_15.2.1 :: rowp Ar5x0l_18 cr5x0l_19 28 3 eC v_15.2.2.1 :: rowp Ar5x0v_20 cr5x0v_21 32 1 (eI .u64) v_15.2.2.2.1 :: S) := (Own.to hs.own [0, 2, 3, 4] 5 (by kernel_rfl) (by kernel_rfl))
      have hcl : Own κ w C_30 := by rw [hC_30]; exact hcz
      refine qdp (fuel := 8) [0, 2, 4, 6, 8] hs hcl hqC_30 fun a hs => ?_
      refine qdl 1 0 (cp br5x0m_16) hs hcl hqC_30 hC_30 rfl fun a hs => ?_
      refine qdl 3 0 (cp br5x0m_16) hs hcl hqC_30 hC_30 rfl fun a hs => ?_
      refine qdl 7 0 (cp br5x0m_16) hs hcl hqC_30 hC_30 rfl fun a hs => ?_
      refine Vk.dMany2 (i0 := 5) (i1 := 11) (by kernel_rfl) ?_ ?_
      · obtain ⟨v_33, h_32, hm⟩ := bind_t hm
        refine Vk.call (some 16) 19 #[pp br5x0m_16, vi 2, .agg (vals [cw 5, cw 3, cw 0])] hs (by kernel_rfl) (by kernel_rfl) (by kernel_rfl) ?_
        refine (visorlaw22_laid.ok k v_15.1 2 [cw 5, cw 3, cw 0] v_33 h_32 κ w (pt b_22 (blk [cp br5x0m_16, cp br5x0x_17, C.slc Ar5x0l_18 v_15.2.2.1.length cr5x0l_19, C.slc Ar5x0v_20 v_15.2.2.2.1.length cr5x0v_21] 45) :: Tvisorref19_M.own κ br5x0x_17 v_15.2.1 :: rowp Ar5x0l_18 cr5x0l_19 28 3 eC v_15.2.2.1 :: rowp Ar5x0v_20 cr5x0v_21 32 1 (eI .u64) v_15.2.2.2.1 :: S) br5x0m_16 (Own.to hs.own [1, 0, 2, 3, 4] 5 (by kernel_rfl) (by kernel_rfl))).mono ?_
        rintro _ w ⟨rfl, how⟩
        refine ⟨_, _, _, rfl, how, fun a hs => ?_⟩
        replace hcl : Own κ w C_30 := by rw [hC_30]; exact (Own.to hs.own [1, 2, 3, 4] 5 (by kernel_rfl) (by kernel_rfl))
        refine ⟨fun _ => hcl, ?_⟩
        refine Vk.dMany2 (i0 := 9) (i1 := 11) (by kernel_rfl) ?_ ?_
        · obtain ⟨v_36, h_35, hm⟩ := bind_t hm
          refine Vk.call (some 20) 19 #[pp br5x0m_16, vi 2, .agg (vals [cw 1, cw 2, cw 0])] hs (by kernel_rfl) (by kernel_rfl) (by kernel_rfl) ?_
          refine (visorlaw22_laid.ok k v_33.2 2 [cw 1, cw 2, cw 0] v_36 h_35 κ w (pt b_22 (blk [cp br5x0m_16, cp br5x0x_17, C.slc Ar5x0l_18 v_15.2.2.1.length cr5x0l_19, C.slc Ar5x0v_20 v_15.2.2.2.1.length cr5x0v_21] 45) :: Tvisorref19_M.own κ br5x0x_17 v_15.2.1 :: rowp Ar5x0l_18 cr5x0l_19 28 3 eC v_15.2.2.1 :: rowp Ar5x0v_20 cr5x0v_21 32 1 (eI .u64) v_15.2.2.2.1 :: S) br5x0m_16 (Own.to hs.own [0, 1, 2, 3, 4] 5 (by kernel_rfl) (by kernel_rfl))).mono ?_
          rintro _ w ⟨rfl, how⟩
          refine ⟨_, _, _, rfl, how, fun a hs => ?_⟩
          replace hcl : Own κ w C_30 := by rw [hC_30]; exact (Own.to hs.own [1, 2, 3, 4] 5 (by kernel_rfl) (by kernel_rfl))
          refine ⟨fun _ => hcl, ?_⟩
          refine Vk.dMany2 (i0 := 10) (i1 := 11) (by kernel_rfl) ?_ ?_
          · obtain ⟨v_39, h_38, hm⟩ := bind_t hm
            refine Vk.call (some 21) 20 #[pp br5x0m_16, .agg (vals v_33.1), .agg (vals v_36.1)] hs (by kernel_rfl) (by kernel_rfl) (by kernel_rfl) ?_
            refine (times_Dom.ok k v_36.2 v_33.1 v_36.1 v_39 h_38 κ w (pt b_22 (blk [cp br5x0m_16, cp br5x0x_17, C.slc Ar5x0l_18 v_15.2.2.1.length cr5x0l_19, C.slc Ar5x0v_20 v_15.2.2.2.1.length cr5x0v_21] 45) :: Tvisorref19_M.own κ br5x0x_17 v_15.2.1 :: rowp Ar5x0l_18 cr5x0l_19 28 3 eC v_15.2.2.1 :: rowp Ar5x0v_20 cr5x0v_21 32 1 (eI .u64) v_15.2.2.2.1 :: S) br5x0m_16 (Own.to hs.own [0, 1, 2, 3, 4] 5 (by kernel_rfl) (by kernel_rfl))).mono ?_
            rintro _ w ⟨rfl, how⟩
            refine ⟨_, _, _, rfl, how, fun a hs => ?_⟩
            replace hcl : Own κ w C_30 := by rw [hC_30]; exact (Own.to hs.own [1, 2, 3, 4] 5 (by kernel_rfl) (by kernel_rfl))
            refine ⟨fun _ => hcl, ?_⟩
            refine Vk.dOnly (i := 11) (by kernel_rfl) (Vk.alloc 3 28 [ci 0, ci 0, ci 0] hs (by kernel_rfl) (by kernel_rfl) (by kernel_rfl) fun b_40 w a hs => ?_)
            replace hcl : Own κ w C_30 := by rw [hC_30]; exact (Own.to hs.own [2, 3, 4, 5] 6 (by kernel_rfl) (by kernel_rfl))
            refine ⟨fun _ => hcl, ?_⟩
            obtain ⟨h_41, hm⟩ := ite_t hm
            refine Vk.dOnly (i := 12) (by kernel_rfl) (Vk.storeA (b := b_40) (ty := 28) (x := (.tmp 3)) (y := (.tmp 21)) (sz := 3) v_39.1 0 hs (by kernel_rfl) (by kernel_rfl) (by kernel_rfl) (by kernel_rfl) (by kernel_rfl) h_41 (by kernel_rfl) rfl (Eq.trans (b := 3) h_41 (Eq.symm rfl)) fun a w hs => ?_)
            refine ⟨fun h => absurd h (by decide), ?_⟩
            replace hs := hs.pick [1, 3] (L' := [(1, pp b_22), (3, pp b_40)]) (by kernel_rfl)
            refine Vk.dDone (by kernel_rfl) ?_
            exact hj29 v_39.2 v_39.1 hm b_40 _ _ (hs.go [1, 3] [2, 1, 3, 4, 5, 0] 6 (by kernel_rfl) (by kernel_rfl) (by kernel_rfl))
          · refine Vk.alloc 3 28 [ci 0, ci 0, ci 0] hs (by kernel_rfl) (by kernel_rfl) (by kernel_rfl) fun b_37 w a hs => ?_
            replace hcl : Own κ w C_30 := by rw [hC_30]; exact (Own.to hs.own [2, 3, 4, 5] 6 (by kernel_rfl) (by kernel_rfl))
            refine ⟨fun _ => hcl, ?_⟩
            obtain ⟨v_40, h_39, hm⟩ := bind_t hm
            refine Vk.dOnly (i := 10) (by kernel_rfl) (Vk.call (some 21) 20 #[pp br5x0m_16, .agg (vals v_33.1), .agg (vals v_36.1)] hs (by kernel_rfl) (by kernel_rfl) (by kernel_rfl) ?_)
            refine (times_Dom.ok k v_36.2 v_33.1 v_36.1 v_40 h_39 κ w (pt b_37 (blk [ci 0, ci 0, ci 0] 28) :: pt b_22 (blk [cp br5x0m_16, cp br5x0x_17, C.slc Ar5x0l_18 v_15.2.2.1.length cr5x0l_19, C.slc Ar5x0v_20 v_15.2.2.2.1.length cr5x0v_21] 45) :: Tvisorref19_M.own κ br5x0x_17 v_15.2.1 :: rowp Ar5x0l_18 cr5x0l_19 28 3 eC v_15.2.2.1 :: rowp Ar5x0v_20 cr5x0v_21 32 1 (eI .u64) v_15.2.2.2.1 :: S) br5x0m_16 (Own.to hs.own [1, 0, 2, 3, 4, 5] 6 (by kernel_rfl) (by kernel_rfl))).mono ?_
            rintro _ w ⟨rfl, how⟩
            refine ⟨_, _, _, rfl, how, fun a hs => ?_⟩
            replace hcl : Own κ w C_30 := by rw [hC_30]; exact (Own.to hs.own [2, 3, 4, 5] 6 (by kernel_rfl) (by kernel_rfl))
            refine ⟨fun _ => hcl, ?_⟩
            obtain ⟨h_41, hm⟩ := ite_t hm
            refine Vk.dOnly (i := 12) (by kernel_rfl) (Vk.storeA (b := b_37) (ty := 28) (x := (.tmp 3)) (y := (.tmp 21)) (sz := 3) v_40.1 1 hs (by kernel_rfl) (by kernel_rfl) (by kernel_rfl) (by kernel_rfl) (by kernel_rfl) h_41 (by kernel_rfl) rfl (Eq.trans (b := 3) h_41 (Eq.symm rfl)) fun a w hs => ?_)
            refine ⟨fun h => absurd h (by decide), ?_⟩
            replace hs := hs.pick [1, 3] (L' := [(1, pp b_22), (3, pp b_37)]) (by kernel_rfl)
            refine Vk.dDone (by kernel_rfl) ?_
            exact hj29 v_40.2 v_40.1 hm b_37 _ _ (hs.go [1, 3] [2, 0, 3, 4, 5, 1] 6 (by kernel_rfl) (by kernel_rfl) (by kernel_rfl))
        · refine Vk.alloc 3 28 [ci 0, ci 0, ci 0] hs (by kernel_rfl) (by kernel_rfl) (by kernel_rfl) fun b_34 w a hs => ?_
          replace hcl : Own κ w C_30 := by rw [hC_30]; exact (Own.to hs.own [2, 3, 4, 5] 6 (by kernel_rfl) (by kernel_rfl))
          refine ⟨fun _ => hcl, ?_⟩
          obtain ⟨v_37, h_36, hm⟩ := bind_t hm
          refine Vk.dOnly (i := 9) (by kernel_rfl) (Vk.call (some 20) 19 #[pp br5x0m_16, vi 2, .agg (vals [cw 1, cw 2, cw 0])] hs (by kernel_rfl) (by kernel_rfl) (by kernel_rfl) ?_)
          refine (visorlaw22_laid.ok k v_33.2 2 [cw 1, cw 2, cw 0] v_37 h_36 κ w (pt b_34 (blk [ci 0, ci 0, ci 0] 28) :: pt b_22 (blk [cp br5x0m_16, cp br5x0x_17, C.slc Ar5x0l_18 v_15.2.2.1.length cr5x0l_19, C.slc Ar5x0v_20 v_15.2.2.2.1.length cr5x0v_21] 45) :: Tvisorref19_M.own κ br5x0x_17 v_15.2.1 :: rowp Ar5x0l_18 cr5x0l_19 28 3 eC v_15.2.2.1 :: rowp Ar5x0v_20 cr5x0v_21 32 1 (eI .u64) v_15.2.2.2.1 :: S) br5x0m_16 (Own.to hs.own [1, 0, 2, 3, 4, 5] 6 (by kernel_rfl) (by kernel_rfl))).mono ?_
          rintro _ w ⟨rfl, how⟩
          refine ⟨_, _, _, rfl, how, fun a hs => ?_⟩
          replace hcl : Own κ w C_30 := by rw [hC_30]; exact (Own.to hs.own [2, 3, 4, 5] 6 (by kernel_rfl) (by kernel_rfl))
          refine ⟨fun _ => hcl, ?_⟩
          obtain ⟨v_40, h_39, hm⟩ := bind_t hm
          refine Vk.dOnly (i := 10) (by kernel_rfl) (Vk.call (some 21) 20 #[pp br5x0m_16, .agg (vals v_33.1), .agg (vals v_37.1)] hs (by kernel_rfl) (by kernel_rfl) (by kernel_rfl) ?_)
          refine (times_Dom.ok k v_37.2 v_33.1 v_37.1 v_40 h_39 κ w (pt b_34 (blk [ci 0, ci 0, ci 0] 28) :: pt b_22 (blk [cp br5x0m_16, cp br5x0x_17, C.slc Ar5x0l_18 v_15.2.2.1.length cr5x0l_19, C.slc Ar5x0v_20 v_15.2.2.2.1.length cr5x0v_21] 45) :: Tvisorref19_M.own κ br5x0x_17 v_15.2.1 :: rowp Ar5x0l_18 cr5x0l_19 28 3 eC v_15.2.2.1 :: rowp Ar5x0v_20 cr5x0v_21 32 1 (eI .u64) v_15.2.2.2.1 :: S) br5x0m_16 (Own.to hs.own [0, 1, 2, 3, 4, 5] 6 (by kernel_rfl) (by kernel_rfl))).mono ?_
          rintro _ w ⟨rfl, how⟩
          refine ⟨_, _, _, rfl, how, fun a hs => ?_⟩
          replace hcl : Own κ w C_30 := by rw [hC_30]; exact (Own.to hs.own [2, 3, 4, 5] 6 (by kernel_rfl) (by kernel_rfl))
          refine ⟨fun _ => hcl, ?_⟩
          obtain ⟨h_41, hm⟩ := ite_t hm
          refine Vk.dOnly (i := 12) (by kernel_rfl) (Vk.storeA (b := b_34) (ty := 28) (x := (.tmp 3)) (y := (.tmp 21)) (sz := 3) v_40.1 1 hs (by kernel_rfl) (by kernel_rfl) (by kernel_rfl) (by kernel_rfl) (by kernel_rfl) h_41 (by kernel_rfl) rfl (Eq.trans (b := 3) h_41 (Eq.symm rfl)) fun a w hs => ?_)
          refine ⟨fun h => absurd h (by decide), ?_⟩
          replace hs := hs.pick [1, 3] (L' := [(1, pp b_22), (3, pp b_34)]) (by kernel_rfl)
          refine Vk.dDone (by kernel_rfl) ?_
          exact hj29 v_40.2 v_40.1 hm b_34 _ _ (hs.go [1, 3] [2, 0, 3, 4, 5, 1] 6 (by kernel_rfl) (by kernel_rfl) (by kernel_rfl))
      · refine Vk.alloc 3 28 [ci 0, ci 0, ci 0] hs (by kernel_rfl) (by kernel_rfl) (by kernel_rfl) fun b_31 w a hs => ?_
        replace hcl : Own κ w C_30 := by rw [hC_30]; exact (Own.to hs.own [1, 3, 4, 5] 6 (by kernel_rfl) (by kernel_rfl))
        refine ⟨fun _ => hcl, ?_⟩
        obtain ⟨v_34, h_33, hm⟩ := bind_t hm
        refine Vk.dOnly (i := 5) (by kernel_rfl) (Vk.call (some 16) 19 #[pp br5x0m_16, vi 2, .agg (vals [cw 5, cw 3, cw 0])] hs (by kernel_rfl) (by kernel_rfl) (by kernel_rfl) ?_)
        refine (visorlaw22_laid.ok k v_15.1 2 [cw 5, cw 3, cw 0] v_34 h_33 κ w (pt b_31 (blk [ci 0, ci 0, ci 0] 28) :: pt b_22 (blk [cp br5x0m_16, cp br5x0x_17, C.slc Ar5x0l_18 v_15.2.2.1.length cr5x0l_19, C.slc Ar5x0v_20 v_15.2.2.2.1.length cr5x0v_21] 45) :: Tvisorref19_M.own κ br5x0x_17 v_15.2.1 :: rowp Ar5x0l_18 cr5x0l_19 28 3 eC v_15.2.2.1 :: rowp Ar5x0v_20 cr5x0v_21 32 1 (eI .u64) v_15.2.2.2.1 :: S) br5x0m_16 (Own.to hs.own [2, 0, 1, 3, 4, 5] 6 (by kernel_rfl) (by kernel_rfl))).mono ?_
        rintro _ w ⟨rfl, how⟩
        refine ⟨_, _, _, rfl, how, fun a hs => ?_⟩
        replace hcl : Own κ w C_30 := by rw [hC_30]; exact (Own.to hs.own [2, 3, 4, 5] 6 (by kernel_rfl) (by kernel_rfl))
        refine ⟨fun _ => hcl, ?_⟩
        obtain ⟨v_37, h_36, hm⟩ := bind_t hm
        refine Vk.dOnly (i := 9) (by kernel_rfl) (Vk.call (some 20) 19 #[pp br5x0m_16, vi 2, .agg (vals [cw 1, cw 2, cw 0])] hs (by kernel_rfl) (by kernel_rfl) (by kernel_rfl) ?_)
        refine (visorlaw22_laid.ok k v_34.2 2 [cw 1, cw 2, cw 0] v_37 h_36 κ w (pt b_31 (blk [ci 0, ci 0, ci 0] 28) :: pt b_22 (blk [cp br5x0m_16, cp br5x0x_17, C.slc Ar5x0l_18 v_15.2.2.1.length cr5x0l_19, C.slc Ar5x0v_20 v_15.2.2.2.1.length cr5x0v_21] 45) :: Tvisorref19_M.own κ br5x0x_17 v_15.2.1 :: rowp Ar5x0l_18 cr5x0l_19 28 3 eC v_15.2.2.1 :: rowp Ar5x0v_20 cr5x0v_21 32 1 (eI .u64) v_15.2.2.2.1 :: S) br5x0m_16 (Own.to hs.own [0, 1, 2, 3, 4, 5] 6 (by kernel_rfl) (by kernel_rfl))).mono ?_
        rintro _ w ⟨rfl, how⟩
        refine ⟨_, _, _, rfl, how, fun a hs => ?_⟩
        replace hcl : Own κ w C_30 := by rw [hC_30]; exact (Own.to hs.own [2, 3, 4, 5] 6 (by kernel_rfl) (by kernel_rfl))
        refine ⟨fun _ => hcl, ?_⟩
        obtain ⟨v_40, h_39, hm⟩ := bind_t hm
        refine Vk.dOnly (i := 10) (by kernel_rfl) (Vk.call (some 21) 20 #[pp br5x0m_16, .agg (vals v_34.1), .agg (vals v_37.1)] hs (by kernel_rfl) (by kernel_rfl) (by kernel_rfl) ?_)
        refine (times_Dom.ok k v_37.2 v_34.1 v_37.1 v_40 h_39 κ w (pt b_31 (blk [ci 0, ci 0, ci 0] 28) :: pt b_22 (blk [cp br5x0m_16, cp br5x0x_17, C.slc Ar5x0l_18 v_15.2.2.1.length cr5x0l_19, C.slc Ar5x0v_20 v_15.2.2.2.1.length cr5x0v_21] 45) :: Tvisorref19_M.own κ br5x0x_17 v_15.2.1 :: rowp Ar5x0l_18 cr5x0l_19 28 3 eC v_15.2.2.1 :: rowp Ar5x0v_20 cr5x0v_21 32 1 (eI .u64) v_15.2.2.2.1 :: S) br5x0m_16 (Own.to hs.own [0, 1, 2, 3, 4, 5] 6 (by kernel_rfl) (by kernel_rfl))).mono ?_
        rintro _ w ⟨rfl, how⟩
        refine ⟨_, _, _, rfl, how, fun a hs => ?_⟩
        replace hcl : Own κ w C_30 := by rw [hC_30]; exact (Own.to hs.own [2, 3, 4, 5] 6 (by kernel_rfl) (by kernel_rfl))
        refine ⟨fun _ => hcl, ?_⟩
        obtain ⟨h_41, hm⟩ := ite_t hm
        refine Vk.dOnly (i := 12) (by kernel_rfl) (Vk.storeA (b := b_31) (ty := 28) (x := (.tmp 3)) (y := (.tmp 21)) (sz := 3) v_40.1 1 hs (by kernel_rfl) (by kernel_rfl) (by kernel_rfl) (by kernel_rfl) (by kernel_rfl) h_41 (by kernel_rfl) rfl (Eq.trans (b := 3) h_41 (Eq.symm rfl)) fun a w hs => ?_)
        refine ⟨fun h => absurd h (by decide), ?_⟩
        replace hs := hs.pick [1, 3] (L' := [(1, pp b_22), (3, pp b_31)]) (by kernel_rfl)
        refine Vk.dDone (by kernel_rfl) ?_
        exact hj29 v_40.2 v_40.1 hm b_31 _ _ (hs.go [1, 3] [2, 0, 3, 4, 5, 1] 6 (by kernel_rfl) (by kernel_rfl) (by kernel_rfl))


def visorlaw22_TimesEven.l4 (v_6 : Int) (p_162 : Cells) : Nat → Int → Option (Sum (Bool) (Unit))
  | 0, _ => none
  | k + 1, q_170 => (bif decide (q_170 < (shl .i64 1 (IntKind.u64.wrap (IntKind.i64.wrap (v_6 - 1))))) then (if 0 ≤ q_170 ∧ q_170 < 4 then (getI .i64 p_162 (0 + q_170.toNat * 1)).bind fun v_177 => (if 0 ≤ IntKind.u64.wrap (IntKind.i64.wrap (Int.tdiv (IntKind.i64.wrap (v_6 * (IntKind.i64.wrap (v_6 - 1)))) 2)) then (bif (IntKind.i64.wrap (v_177 * (shl .i64 1 (IntKind.u64.wrap (IntKind.i64.wrap (v_6 - 1)))))) != (shl .i64 1 (IntKind.u64.wrap (IntKind.i64.wrap (Int.tdiv (IntKind.i64.wrap (v_6 * (IntKind.i64.wrap (v_6 - 1)))) 2)))) then some (.inl false) else visorlaw22_TimesEven.l4 v_6 p_162 k (IntKind.i64.wrap (q_170 + 1))) else none) else none) else some (.inr ()))
def visorlaw22_TimesEven.l3 (x1 : Int) (v_6 : Int) (p_105 : Cells) (v_110 : List Int) : Nat → Int → Int → Option (Sum (Sum (Bool) (Cells)) (Int))
  | 0, _, _ => none
  | k + 1, q_123, q_124 => (bif decide (q_124 < v_6) then (if v_6 ≠ 0 then (bif q_124 == (Int.tmod (IntKind.i64.wrap x1) v_6) then visorlaw22_TimesEven.l3 x1 v_6 p_105 v_110 k q_123 (IntKind.i64.wrap (q_124 + 1)) else (if 0 ≤ q_124 ∧ q_124 < 3 then (getI .i64 p_105 (0 + q_124.toNat * 1)).bind fun v_135 => (bif decide (v_135 < 0) then some (.inl (.inl false)) else (if 0 ≤ q_124 ∧ q_124 < 3 then (getI .i64 p_105 (0 + q_124.toNat * 1)).bind fun v_139 => (bif decide (v_139 ≥ ((v_110.length : Nat) : Int)) then some (.inl (.inl false)) else (if 0 ≤ q_124 ∧ q_124 < 3 then (getI .i64 p_105 (0 + q_124.toNat * 1)).bind fun v_144 => (if 0 ≤ v_144 then (v_110[v_144.toNat]?).bind fun e_148 => visorlaw22_TimesEven.l3 x1 v_6 p_105 v_110 k (IntKind.i64.wrap ((IntKind.i64.wrap (q_123 * 2)) + (IntKind.i64.wrap (Int.tmod e_148 2)))) (IntKind.i64.wrap (q_124 + 1)) else none) else none)) else none)) else none)) else none) else some (.inr q_123))
def visorlaw22_TimesEven.j2 (k : Nat) (rec12 : Cells → Int → Option (Sum (Bool) (Cells))) (x1 : Int) (v_6 : Int) (q_13 : Cells) (q_14 : Int) (p_104 : Twire_Machine) (p_105 : Cells) : Option (Sum (Bool) (Cells)) := (wire_Machine_Values.m k p_104).bind fun v_110 => (wire_Machine_Err.m k p_104).bind fun v_117 => (bif v_117 != 0 then some (.inl false) else (visorlaw22_TimesEven.l3 x1 v_6 p_105 v_110 k 0 0).bind fun x => match x with | .inl v => some v | .inr p_152 => (if 0 ≤ p_152 ∧ p_152 < 4 then (getI .i64 q_13 (0 + p_152.toNat * 1)).bind fun v_159 => (if 0 ≤ p_152 ∧ p_152 < 4 then (if 0 + p_152.toNat * 1 < q_13.length then rec12 (q_13.set (0 + p_152.toNat * 1) (ci (IntKind.i64.wrap (v_159 + 1)))) (IntKind.i64.wrap (q_14 + 1)) else none) else none) else none))
def visorlaw22_TimesEven.j1 (k : Nat) (rec12 : Cells → Int → Option (Sum (Bool) (Cells))) (x0 : Tvisorlaw22_Asked) (x1 : Int) (v_6 : Int) (q_13 : Cells) (q_14 : Int) (p_83 : Twire_Machine) (p_85 : Cells) (p_87 : Cells) : Option (Sum (Bool) (Cells)) := (bif x0.kind == 2 then (if p_85.length = 3 then (if p_87.length = 3 then (times_Dom.m k p_83 p_85 p_87).bind fun v_96 => (if v_96.1.length = 3 then visorlaw22_TimesEven.j2 k (rec12) x1 v_6 q_13 q_14 v_96.2 v_96.1 else none) else none) else none) else (if p_85.length = 3 then (if p_87.length = 3 then (times_Isw.m k p_83 p_85 p_87).bind fun v_102 => (if v_102.1.length = 3 then visorlaw22_TimesEven.j2 k (rec12) x1 v_6 q_13 q_14 v_102.2 v_102.1 else none) else none) else none))
def visorlaw22_TimesEven.l2 (v_6 : Int) (q_14 : Int) : Nat → (List Int) → Int → Option (List Int)
  | 0, _, _ => none
  | k + 1, q_28, q_29 => (bif decide (q_29 < (IntKind.i64.wrap (Int.tdiv (IntKind.i64.wrap (v_6 * (IntKind.i64.wrap (v_6 - 1)))) 2))) then (if 0 ≤ IntKind.u64.wrap q_29 then (if (q_28.length + ([IntKind.u64.wrap (Int.tmod (shr .i64 q_14 (IntKind.u64.wrap q_29)) 2)] : List Int).length) * 8 ≤ 140737488355328 then visorlaw22_TimesEven.l2 v_6 q_14 k (q_28 ++ ([IntKind.u64.wrap (Int.tmod (shr .i64 q_14 (IntKind.u64.wrap q_29)) 2)] : List Int)) (IntKind.i64.wrap (q_29 + 1)) else none) else none) else some q_28)
def visorlaw22_TimesEven.l1 (x0 : Tvisorlaw22_Asked) (x1 : Int) (v_6 : Int) : Nat → Cells → Int → Option (Sum (Bool) (Cells))
  | 0, _, _ => none
  | k + 1, q_13, q_14 => (bif decide (q_14 < 8) then (if 0 ≤ IntKind.u64.wrap (IntKind.i64.wrap (Int.tdiv (IntKind.i64.wrap (v_6 * (IntKind.i64.wrap (v_6 - 1)))) 2)) then (bif decide (q_14 < (shl .i64 1 (IntKind.u64.wrap (IntKind.i64.wrap (Int.tdiv (IntKind.i64.wrap (v_6 * (IntKind.i64.wrap (v_6 - 1)))) 2))))) then (visorlaw22_TimesEven.l2 v_6 q_14 k ([] : List Int) 0).bind fun p_41 => ((visorlaw20_Begins.m k v_6 p_41 60).bind fun v => match v with | (.inl v_50) => some (.inl false) | (.inr v_57) => (bif !v_57.2.2.2.2 then some (.inl false) else (visorlaw22_laid.m k v_57.1 v_6 [cw x0.a0, cw x0.a1, cw x0.a2]).bind fun v_75 => (visorlaw22_laid.m k v_75.2 v_6 [cw x0.b0, cw x0.b1, cw x0.b2]).bind fun v_78 => (if v_75.1.length = 3 then (if v_78.1.length = 3 then visorlaw22_TimesEven.j1 k (visorlaw22_TimesEven.l1 x0 x1 v_6 k) x0 x1 v_6 q_13 q_14 v_78.2 v_75.1 v_78.1 else none) else none))) else some (.inr q_13)) else none) else some (.inr q_13))
abbrev visorlaw22_TimesEven.R (κ : Ctx) (S : List HP) (x0 : Tvisorlaw22_Asked) (x1 : Int) (A_x0masks : Option Addr) (c_x0masks : Nat) (r : Bool) : Ending → World → Prop := fun e w' => e = .returned (.bool r) ∧ Own κ w' (S)
def visorlaw22_TimesEven.m (k : Nat) (x0 : Tvisorlaw22_Asked) (x1 : Int) : Option Bool := (visorlaw22_Asked_n.m k x0).bind fun v_6 => (visorlaw22_TimesEven.l1 x0 x1 v_6 k [ci 0, ci 0, ci 0, ci 0] 0).bind fun x => match x with | .inl v => some v | .inr p_162 => (if 0 ≤ IntKind.u64.wrap (IntKind.i64.wrap (v_6 - 1)) then (visorlaw22_TimesEven.l4 v_6 p_162 k 0).bind fun x => match x with | .inl v => some v | .inr () => (visorlaw22_awake.m k).bind fun v_184 => some v_184 else none)

set_option maxRecDepth 100000 in
set_option maxHeartbeats 4000000 in
theorem visorlaw22_TimesEven.ok (k : Nat) (x0 : Tvisorlaw22_Asked) (x1 : Int) (r : Bool) (hm : visorlaw22_TimesEven.m k x0 x1 = some r) (κ : Ctx) (w : World) (S : List HP) (A_x0masks : Option Addr) (c_x0masks : Nat) (hx_x0masks : Sl κ [] A_x0masks c_x0masks 1 (eI .u64) x0.masks) (ho : Own κ w (S)) :
    Calls Try.prog 4 #[.agg (vals [C.bool x0.three, ci x0.kind, cw x0.a0, cw x0.a1, cw x0.a2, cw x0.b0, cw x0.b1, cw x0.b2, C.slc A_x0masks x0.masks.length c_x0masks]), .int .u8 x1] w (visorlaw22_TimesEven.R κ S x0 x1 A_x0masks c_x0masks r) := by
  have ht_x0masks := hx_x0masks
  generalize hRR : visorlaw22_TimesEven.R κ S x0 x1 A_x0masks c_x0masks r = RR
  replace hx_x0masks := Sl.top (S := S) hx_x0masks
  unfold visorlaw22_TimesEven.m at hm
  refine qen [(0, .agg (vals [C.bool x0.three, ci x0.kind, cw x0.a0, cw x0.a1, cw x0.a2, cw x0.b0, cw x0.b1, cw x0.b2, C.slc A_x0masks x0.masks.length c_x0masks])), (1, .int .u8 x1)] Try.func4 Try.ntmps4 ho fun a hs => ?_
  refine qsr fun K1 hK1 => ?_
  refine Vk.step (Vk.box (x := (.tmp 0)) 2 38 [C.bool x0.three, ci x0.kind, cw x0.a0, cw x0.a1, cw x0.a2, cw x0.b0, cw x0.b1, cw x0.b2, C.slc A_x0masks x0.masks.length c_x0masks] hs (by kernel_rfl) (by kernel_rfl) (by kernel_rfl) fun b_2 w a hs => ?_)
  refine qpe 1 [(1, .int .u8 x1), (2, pp b_2)] hs fun a hs => hK1 _ _ ?_
  clear hK1
  refine qsr fun K3 hK3 => ?_
  refine qln 0 ([C.bool x0.three, ci x0.kind, cw x0.a0, cw x0.a1, cw x0.a2, cw x0.b0, cw x0.b1, cw x0.b2, C.slc A_x0masks x0.masks.length c_x0masks]) hs rfl fun a hs => ?_
  obtain ⟨v_6, h_5, hm⟩ := bind_t hm
  refine Vk.step (Vk.call (some 22) 17 #[.agg (vals [C.bool x0.three, ci x0.kind, cw x0.a0, cw x0.a1, cw x0.a2, cw x0.b0, cw x0.b1, cw x0.b2, C.slc A_x0masks x0.masks.length c_x0masks])] hs (by kernel_rfl) (by kernel_rfl) (by kernel_rfl) ?_)
  refine (visorlaw22_Asked_n.ok k x0 v_6 h_5 κ w (pt b_2 (blk (Tvisorlaw22_Asked.obj x0 A_x0masks c_x0masks) 38) :: S) A_x0masks c_x0masks hx_x0masks.less hs.own).mono ?_
  rintro _ w ⟨rfl, how⟩
  refine ⟨_, _, _, rfl, how, fun a hs => ?_⟩
  refine qpe 1 [(1, .int .u8 x1), (2, pp b_2), (5, vi v_6)] hs fun a hs => hK3 _ _ ?_
  clear hK3
  refine qsr fun K7 hK7 => ?_
  refine qpe 6 [(1, .int .u8 x1), (2, pp b_2), (5, vi v_6), (6, vi (IntKind.i64.wrap (Int.tdiv (IntKind.i64.wrap (v_6 * (IntKind.i64.wrap (v_6 - 1)))) 2)))] hs fun a hs => hK7 _ _ ?_
  clear hK7
  refine qsr fun K8 hK8 => ?_
  refine qpu 1 hs fun a hs => ?_
  refine Vk.step (Vk.alloc 7 40 [ci 0, ci 0, ci 0, ci 0] hs (by kernel_rfl) (by kernel_rfl) (by kernel_rfl) fun b_9 w a hs => ?_)
  refine Vk.step (Vk.storeA (b := b_9) (ty := 40) (x := (.tmp 7)) (y := (.tmp 28)) (sz := 4) [ci 0, ci 0, ci 0, ci 0] 0 hs (by kernel_rfl) (by kernel_rfl) (by kernel_rfl) (by kernel_rfl) (by kernel_rfl) rfl (by kernel_rfl) rfl (Eq.trans (b := 4) rfl (Eq.symm rfl)) fun a w hs => ?_)
  refine qpe 0 [(1, .int .u8 x1), (2, pp b_2), (5, vi v_6), (6, vi (IntKind.i64.wrap (Int.tdiv (IntKind.i64.wrap (v_6 * (IntKind.i64.wrap (v_6 - 1)))) 2))), (7, pp b_9)] hs fun a hs => hK8 _ _ ?_
  clear hK8
  refine Vk.seq fun K10 hK10 => ?_
  refine qsr fun K11 hK11 => ?_
  refine qpe 1 [(1, .int .u8 x1), (2, pp b_2), (5, vi v_6), (6, vi (IntKind.i64.wrap (Int.tdiv (IntKind.i64.wrap (v_6 * (IntKind.i64.wrap (v_6 - 1)))) 2))), (7, pp b_9), (8, vi 0)] hs fun a hs => hK11 _ _ ?_
  clear hK11
  refine wp_block ?_
  obtain ⟨r12, hl12, hm⟩ := bind_t hm
  have hx12 : ∀ (p_162 : Cells), r12 = Sum.inr p_162 → ∀ (a : Act) (w : World), St 157 a w κ [(5, vi v_6), (6, vi (IntKind.i64.wrap (Int.tdiv (IntKind.i64.wrap (v_6 * (IntKind.i64.wrap (v_6 - 1)))) 2))), (7, pp b_9)] (pt b_9 (blk p_162 40) :: S) → K10 a w := by
    intro p_162 he a w hs
    subst r12
    refine hK10 _ _ ?_
    clear hK10
    refine qsr fun K165 hK165 => ?_
    refine qpu 3 hs fun a hs => ?_
    obtain ⟨h_166, hm⟩ := ite_t hm
    refine Vk.step (Vk.value (some 141) (vi (shl .i64 1 (IntKind.u64.wrap (IntKind.i64.wrap (v_6 - 1))))) hs (by kernel_rfl) (op := (.binOp .shl 3 (.const (vi 1)) (.tmp 140) 24)) (by kernel_rfl) (fun o ho => run_shl (k' := .u64) ho (by kernel_rfl) (by kernel_rfl) h_166 _) fun a hs => ?_)
    refine qpe 1 [(6, vi (IntKind.i64.wrap (Int.tdiv (IntKind.i64.wrap (v_6 * (IntKind.i64.wrap (v_6 - 1)))) 2))), (7, pp b_9), (19, vi (shl .i64 1 (IntKind.u64.wrap (IntKind.i64.wrap (v_6 - 1)))))] hs fun a hs => hK165 _ _ ?_
    clear hK165
    refine Vk.seq fun K167 hK167 => ?_
    refine qsr fun K168 hK168 => ?_
    refine qpe 1 [(6, vi (IntKind.i64.wrap (Int.tdiv (IntKind.i64.wrap (v_6 * (IntKind.i64.wrap (v_6 - 1)))) 2))), (7, pp b_9), (19, vi (shl .i64 1 (IntKind.u64.wrap (IntKind.i64.wrap (v_6 - 1))))), (20, vi 0)] hs fun a hs => hK168 _ _ ?_
    clear hK168
    refine wp_block ?_
    obtain ⟨r169, hl169, hm⟩ := bind_t hm
    have hx169 : r169 = Sum.inr () → ∀ (a : Act) (w : World), St 157 a w κ [] (S) → K167 a w := by
      intro he a w hs
      subst r169
      refine hK167 _ _ ?_
      clear hK167
      refine qsr fun K181 hK181 => ?_
      obtain ⟨v_184, h_183, hm⟩ := bind_t hm
      refine Vk.step (Vk.call (some 156) 24 #[] hs (by kernel_rfl) (by kernel_rfl) (by kernel_rfl) ?_)
      refine (visorlaw22_awake.ok k v_184 h_183 κ w (S) hs.own).mono ?_
      rintro _ w ⟨rfl, how⟩
      refine ⟨_, _, _, rfl, how, fun a hs => ?_⟩
      refine qpe 1 [(4, .bool v_184)] hs fun a hs => hK181 _ _ ?_
      clear hK181
      refine wp_ret ?_
      exact Vk.ret1 (P := Try.prog) (fn := Try.f4) (R := RR) (.bool v_184) hs rfl (by kernel_rfl) (by obtain rfl := Option.some.inj hm; subst hRR; exact ⟨rfl, (Own.to hs.own [] 0 (by kernel_rfl) (by kernel_rfl))⟩)
    have hret169 : ∀ v, r169 = Sum.inl v → v = r := by intro v he; subst r169; exact Option.some.inj hm
    refine Vk.loopBy (fun k (s : Int) a w => visorlaw22_TimesEven.l4 v_6 p_162 k s = some r169 ∧ St 157 a w κ [(6, vi (IntKind.i64.wrap (Int.tdiv (IntKind.i64.wrap (v_6 * (IntKind.i64.wrap (v_6 - 1)))) 2))), (7, pp b_9), (19, vi (shl .i64 1 (IntKind.u64.wrap (IntKind.i64.wrap (v_6 - 1))))), (20, vi s)] (pt b_9 (blk p_162 40) :: S)) k 0 ⟨hl169, hs.go [6, 7, 19, 20] [0] 1 (by kernel_rfl) (by kernel_rfl) (by kernel_rfl)⟩ (fun s a w h => by obtain ⟨h1, _⟩ := h; simp [visorlaw22_TimesEven.l4] at h1) (fun k KL169 ih q_170 a w h => ?_)
    obtain ⟨hm, hs⟩ := h
    try dsimp only at hm hs
    rw [visorlaw22_TimesEven.l4] at hm
    refine Vk.seq fun K171 hK171 => ?_
    refine qsr fun K172 hK172 => ?_
    refine qpe 3 [(6, vi (IntKind.i64.wrap (Int.tdiv (IntKind.i64.wrap (v_6 * (IntKind.i64.wrap (v_6 - 1)))) 2))), (7, pp b_9), (19, vi (shl .i64 1 (IntKind.u64.wrap (IntKind.i64.wrap (v_6 - 1))))), (20, vi q_170), (144, .bool (decide (q_170 < (shl .i64 1 (IntKind.u64.wrap (IntKind.i64.wrap (v_6 - 1)))))))] hs fun a hs => hK172 _ _ ?_
    clear hK172
    refine qcs (decide (q_170 < (shl .i64 1 (IntKind.u64.wrap (IntKind.i64.wrap (v_6 - 1)))))) hs (fun hb => ?_) fun hb => ?_
    · replace hm := bif_t hm hb
      refine wp_skip ?_
      refine hK171 _ _ ?_
      clear hK171
      refine Vk.seq fun K173 hK173 => ?_
      refine wp_block ?_
      refine qsr fun K174 hK174 => ?_
      refine qpu 1 hs fun a hs => ?_
      obtain ⟨h_175, hm⟩ := ite_t hm
      refine Vk.step (Vk.value (some 148) (.pointer (some ⟨b_9, 0 + q_170.toNat * 1, none⟩)) hs (by kernel_rfl) (op := (.indexAddr 40 (.tmp 7) (.tmp 147))) (by kernel_rfl) (fun o ho => run_idxArr (k := .i64) ho (by kernel_rfl) (by kernel_rfl) (by kernel_rfl) h_175 _) fun a hs => ?_)
      obtain ⟨v_177, h_176, hm⟩ := bind_t hm
      refine Vk.step (Vk.value (some 149) (vi v_177) hs (by kernel_rfl) (op := (.load 3 (.tmp 148))) (by kernel_rfl) (fun o ho => run_load1 (c := ci v_177) ho (by kernel_rfl) (by kernel_rfl) (Cell.own 0 rfl (getI_some h_176)) _ hs.own) fun a hs => ?_)
      refine qpu 4 hs fun a hs => ?_
      obtain ⟨h_178, hm⟩ := ite_t hm
      refine Vk.step (Vk.value (some 154) (vi (shl .i64 1 (IntKind.u64.wrap (IntKind.i64.wrap (Int.tdiv (IntKind.i64.wrap (v_6 * (IntKind.i64.wrap (v_6 - 1)))) 2))))) hs (by kernel_rfl) (op := (.binOp .shl 3 (.const (vi 1)) (.tmp 153) 24)) (by kernel_rfl) (fun o ho => run_shl (k' := .u64) ho (by kernel_rfl) (by kernel_rfl) h_178 _) fun a hs => ?_)
      refine qpe 1 [(6, vi (IntKind.i64.wrap (Int.tdiv (IntKind.i64.wrap (v_6 * (IntKind.i64.wrap (v_6 - 1)))) 2))), (7, pp b_9), (19, vi (shl .i64 1 (IntKind.u64.wrap (IntKind.i64.wrap (v_6 - 1))))), (20, vi q_170), (155, .bool ((IntKind.i64.wrap (v_177 * (shl .i64 1 (IntKind.u64.wrap (IntKind.i64.wrap (v_6 - 1)))))) != (shl .i64 1 (IntKind.u64.wrap (IntKind.i64.wrap (Int.tdiv (IntKind.i64.wrap (v_6 * (IntKind.i64.wrap (v_6 - 1)))) 2))))))] hs fun a hs => hK174 _ _ ?_
      clear hK174
      refine qcs ((IntKind.i64.wrap (v_177 * (shl .i64 1 (IntKind.u64.wrap (IntKind.i64.wrap (v_6 - 1)))))) != (shl .i64 1 (IntKind.u64.wrap (IntKind.i64.wrap (Int.tdiv (IntKind.i64.wrap (v_6 * (IntKind.i64.wrap (v_6 - 1)))) 2))))) hs (fun hb => ?_) fun hb => ?_
      · replace hm := bif_t hm hb
        refine qsr fun K179 hK179 => ?_
        refine qpe 1 [(4, .bool false)] hs fun a hs => hK179 _ _ ?_
        clear hK179
        refine wp_ret ?_
        exact Vk.ret1 (P := Try.prog) (fn := Try.f4) (R := RR) (.bool false) hs rfl (by kernel_rfl) (by obtain rfl := hret169 _ ((Option.some.inj hm).symm); subst hRR; exact ⟨rfl, (Own.to hs.own [] 1 (by kernel_rfl) (by kernel_rfl))⟩)
      · replace hm := bif_f hm hb
        refine wp_skip ?_
        refine hK173 _ _ ?_
        clear hK173
        refine Vk.region ?_
        refine qpe 3 [(6, vi (IntKind.i64.wrap (Int.tdiv (IntKind.i64.wrap (v_6 * (IntKind.i64.wrap (v_6 - 1)))) 2))), (7, pp b_9), (19, vi (shl .i64 1 (IntKind.u64.wrap (IntKind.i64.wrap (v_6 - 1))))), (20, vi (IntKind.i64.wrap (q_170 + 1)))] hs fun a hs => ?_
        refine ih (IntKind.i64.wrap (q_170 + 1)) _ _ ⟨hm, hs.go [6, 7, 19, 20] [0] 1 (by kernel_rfl) (by kernel_rfl) (by kernel_rfl)⟩
    · replace hm := bif_f hm hb
      refine wp_exit ?_
      exact hx169 (Option.some.inj hm).symm _ _ (hs.go [] [] 1 (by kernel_rfl) (by kernel_rfl) (by kernel_rfl))
  have hret12 : ∀ v, r12 = Sum.inl v → v = r := by intro v he; subst r12; exact Option.some.inj hm
  refine Vk.loopBy (fun k (s : Cells × Int) a w => visorlaw22_TimesEven.l1 x0 x1 v_6 k s.1 s.2 = some r12 ∧ St 157 a w κ [(1, .int .u8 x1), (2, pp b_2), (5, vi v_6), (6, vi (IntKind.i64.wrap (Int.tdiv (IntKind.i64.wrap (v_6 * (IntKind.i64.wrap (v_6 - 1)))) 2))), (7, pp b_9), (8, vi s.2)] (pt b_2 (blk (Tvisorlaw22_Asked.obj x0 A_x0masks c_x0masks) 38) :: pt b_9 (blk s.1 40) :: S)) k ([ci 0, ci 0, ci 0, ci 0], 0) ⟨hl12, hs.go [1, 2, 5, 6, 7, 8] [1, 0] 2 (by kernel_rfl) (by kernel_rfl) (by kernel_rfl)⟩ (fun s a w h => by obtain ⟨h1, _⟩ := h; simp [visorlaw22_TimesEven.l1] at h1) (fun k KL12 ih s a w h => ?_)
  obtain ⟨q_13, q_14⟩ := s
  obtain ⟨hm, hs⟩ := h
  try dsimp only at hm hs
  rw [visorlaw22_TimesEven.l1] at hm
  refine Vk.seq fun K15 hK15 => ?_
  refine qsr fun K16 hK16 => ?_
  refine qpu 3 hs fun a hs => ?_
  rcases Bool.eq_false_or_eq_true (decide (q_14 < 8)) with hb | hb
  · replace hm := bif_t hm hb
    replace hs := hs.known (t := 31) hb (by kernel_rfl)
    refine qpu 3 hs fun a hs => ?_
    obtain ⟨h_18, hm⟩ := ite_t hm
    refine Vk.step (Vk.value (some 35) (vi (shl .i64 1 (IntKind.u64.wrap (IntKind.i64.wrap (Int.tdiv (IntKind.i64.wrap (v_6 * (IntKind.i64.wrap (v_6 - 1)))) 2))))) hs (by kernel_rfl) (op := (.binOp .shl 3 (.const (vi 1)) (.tmp 34) 24)) (by kernel_rfl) (fun o ho => run_shl (k' := .u64) ho (by kernel_rfl) (by kernel_rfl) h_18 _) fun a hs => ?_)
    refine qpe 2 [(1, .int .u8 x1), (2, pp b_2), (5, vi v_6), (6, vi (IntKind.i64.wrap (Int.tdiv (IntKind.i64.wrap (v_6 * (IntKind.i64.wrap (v_6 - 1)))) 2))), (7, pp b_9), (8, vi q_14), (32, vi q_14), (33, vi (IntKind.i64.wrap (Int.tdiv (IntKind.i64.wrap (v_6 * (IntKind.i64.wrap (v_6 - 1)))) 2))), (34, vw (IntKind.u64.wrap (IntKind.i64.wrap (Int.tdiv (IntKind.i64.wrap (v_6 * (IntKind.i64.wrap (v_6 - 1)))) 2)))), (35, vi (shl .i64 1 (IntKind.u64.wrap (IntKind.i64.wrap (Int.tdiv (IntKind.i64.wrap (v_6 * (IntKind.i64.wrap (v_6 - 1)))) 2))))), (36, .bool (decide (q_14 < (shl .i64 1 (IntKind.u64.wrap (IntKind.i64.wrap (Int.tdiv (IntKind.i64.wrap (v_6 * (IntKind.i64.wrap (v_6 - 1)))) 2))))))), (37, .bool (decide (q_14 < (shl .i64 1 (IntKind.u64.wrap (IntKind.i64.wrap (Int.tdiv (IntKind.i64.wrap (v_6 * (IntKind.i64.wrap (v_6 - 1)))) 2)))))))] hs fun a hs => hK16 _ _ ?_
    refine qcs (decide (q_14 < (shl .i64 1 (IntKind.u64.wrap (IntKind.i64.wrap (Int.tdiv (IntKind.i64.wrap (v_6 * (IntKind.i64.wrap (v_6 - 1)))) 2)))))) hs (fun hb => ?_) fun hb => ?_
    · replace hm := bif_t hm hb
      refine wp_skip ?_
      refine hK15 _ _ ?_
      clear hK15
      refine Vk.seq fun K19 hK19 => ?_
      refine wp_block ?_
      refine qsr fun K20 hK20 => ?_
      refine Vk.step (Vk.buildOp (sz := 1) (by_ := 8) (t := 25) (e := 32) (parts := #[]) (zs := vals [cw 0]) ([] : List Int) (eI .u64) (some 40) hs (by kernel_rfl) (by kernel_rfl) (by kernel_rfl) (by kernel_rfl) (by decide) rfl (fun x _ => rfl) (Nat.le_of_ble_eq_true (by kernel_rfl)) (by kernel_rfl) fun A_21 w a hs => ?_)
      refine qpe 1 [(1, .int .u8 x1), (2, pp b_2), (5, vi v_6), (6, vi (IntKind.i64.wrap (Int.tdiv (IntKind.i64.wrap (v_6 * (IntKind.i64.wrap (v_6 - 1)))) 2))), (7, pp b_9), (8, vi q_14), (9, .slice A_21 (([] : List Int).length) 0), (32, vi q_14), (33, vi (IntKind.i64.wrap (Int.tdiv (IntKind.i64.wrap (v_6 * (IntKind.i64.wrap (v_6 - 1)))) 2))), (34, vw (IntKind.u64.wrap (IntKind.i64.wrap (Int.tdiv (IntKind.i64.wrap (v_6 * (IntKind.i64.wrap (v_6 - 1)))) 2)))), (35, vi (shl .i64 1 (IntKind.u64.wrap (IntKind.i64.wrap (Int.tdiv (IntKind.i64.wrap (v_6 * (IntKind.i64.wrap (v_6 - 1)))) 2))))), (36, .bool (decide (q_14 < (shl .i64 1 (IntKind.u64.wrap (IntKind.i64.wrap (Int.tdiv (IntKind.i64.wrap (v_6 * (IntKind.i64.wrap (v_6 - 1)))) 2)))))))] hs fun a hs => hK20 _ _ ?_
      clear hK20
      refine Vk.seq fun K23 hK23 => ?_
      refine qsr fun K24 hK24 => ?_
      refine qpe 1 [(1, .int .u8 x1), (2, pp b_2), (5, vi v_6), (6, vi (IntKind.i64.wrap (Int.tdiv (IntKind.i64.wrap (v_6 * (IntKind.i64.wrap (v_6 - 1)))) 2))), (7, pp b_9), (8, vi q_14), (9, .slice A_21 (([] : List Int).length) 0), (10, vi 0), (32, vi q_14), (33, vi (IntKind.i64.wrap (Int.tdiv (IntKind.i64.wrap (v_6 * (IntKind.i64.wrap (v_6 - 1)))) 2))), (34, vw (IntKind.u64.wrap (IntKind.i64.wrap (Int.tdiv (IntKind.i64.wrap (v_6 * (IntKind.i64.wrap (v_6 - 1)))) 2)))), (35, vi (shl .i64 1 (IntKind.u64.wrap (IntKind.i64.wrap (Int.tdiv (IntKind.i64.wrap (v_6 * (IntKind.i64.wrap (v_6 - 1)))) 2))))), (36, .bool (decide (q_14 < (shl .i64 1 (IntKind.u64.wrap (IntKind.i64.wrap (Int.tdiv (IntKind.i64.wrap (v_6 * (IntKind.i64.wrap (v_6 - 1)))) 2)))))))] hs fun a hs => hK24 _ _ ?_
      clear hK24
      refine wp_block ?_
      obtain ⟨r25, hl25, hm⟩ := bind_t hm
      have hx25 : ∀ (p_41 : List Int), r25 = p_41 → ∀ (A_39 : Option Addr) (c_40 : Nat) (a : Act) (w : World), St 157 a w κ [(1, .int .u8 x1), (2, pp b_2), (5, vi v_6), (6, vi (IntKind.i64.wrap (Int.tdiv (IntKind.i64.wrap (v_6 * (IntKind.i64.wrap (v_6 - 1)))) 2))), (7, pp b_9), (8, vi q_14), (9, .slice A_39 p_41.length c_40), (32, vi q_14), (33, vi (IntKind.i64.wrap (Int.tdiv (IntKind.i64.wrap (v_6 * (IntKind.i64.wrap (v_6 - 1)))) 2))), (34, vw (IntKind.u64.wrap (IntKind.i64.wrap (Int.tdiv (IntKind.i64.wrap (v_6 * (IntKind.i64.wrap (v_6 - 1)))) 2)))), (35, vi (shl .i64 1 (IntKind.u64.wrap (IntKind.i64.wrap (Int.tdiv (IntKind.i64.wrap (v_6 * (IntKind.i64.wrap (v_6 - 1)))) 2))))), (36, .bool (decide (q_14 < (shl .i64 1 (IntKind.u64.wrap (IntKind.i64.wrap (Int.tdiv (IntKind.i64.wrap (v_6 * (IntKind.i64.wrap (v_6 - 1)))) 2)))))))] (pt b_2 (blk (Tvisorlaw22_Asked.obj x0 A_x0masks c_x0masks) 38) :: pt b_9 (blk q_13 40) :: rowp A_39 c_40 32 1 (eI .u64) p_41 :: S) → K23 a w := by
        intro p_41 he A_39 c_40 a w hs
        subst r25
        refine hK23 _ _ ?_
        clear hK23
        refine qsr fun K46 hK46 => ?_
        refine qpu 2 hs fun a hs => ?_
        replace hs := hs.toRd 2 rfl
        obtain ⟨v_49, h_48, hm⟩ := bind_t hm
        refine Vk.step (Vk.call (some 58) 18 #[vi v_6, .slice A_39 p_41.length c_40, vi 60] hs (by kernel_rfl) (by kernel_rfl) (by kernel_rfl) ?_)
        refine (visorlaw20_Begins.ok k v_6 p_41 60 v_49 h_48 κ w (pt b_2 (blk (Tvisorlaw22_Asked.obj x0 A_x0masks c_x0masks) 38) :: pt b_9 (blk q_13 40) :: S) A_39 c_40 (Own.to hs.own [2, 0, 1] 3 (by kernel_rfl) (by kernel_rfl))).mono ?_
        rintro _ w (⟨v_50, rfl, br47x0x_51, Ar47x0l_52, cr47x0l_53, Ar47x0v_54, cr47x0v_55, rfl, how⟩ | ⟨v_57, rfl, br47x0m_58, br47x0x_59, Ar47x0l_60, cr47x0l_61, Ar47x0v_62, cr47x0v_63, rfl, how⟩)
        · dsimp only at hm
          refine ⟨_, _, _, rfl, how, fun a hs => ?_⟩
          refine qpu 3 hs fun a hs => ?_
          refine Vk.step (Vk.alloc 11 45 [C.ptr none, C.ptr none, C.slc none 0 0, C.slc none 0 0] hs (by kernel_rfl) (by kernel_rfl) (by kernel_rfl) fun b_56 w a hs => ?_)
          refine Vk.step (Vk.storeA (b := b_56) (ty := 45) (x := (.tmp 11)) (y := (.tmp 59)) (sz := 4) [C.ptr none, cp br47x0x_51, C.slc Ar47x0l_52 v_50.2.1.length cr47x0l_53, C.slc Ar47x0v_54 v_50.2.2.length cr47x0v_55] 0 hs (by kernel_rfl) (by kernel_rfl) (by kernel_rfl) (by kernel_rfl) (by kernel_rfl) rfl (by kernel_rfl) rfl (Eq.trans (b := 4) rfl (Eq.symm rfl)) fun a w hs => ?_)
          refine qpe 1 [(1, .int .u8 x1), (2, pp b_2), (5, vi v_6), (6, vi (IntKind.i64.wrap (Int.tdiv (IntKind.i64.wrap (v_6 * (IntKind.i64.wrap (v_6 - 1)))) 2))), (7, pp b_9), (8, vi q_14), (11, pp b_56), (12, .bool false), (32, vi q_14), (33, vi (IntKind.i64.wrap (Int.tdiv (IntKind.i64.wrap (v_6 * (IntKind.i64.wrap (v_6 - 1)))) 2))), (34, vw (IntKind.u64.wrap (IntKind.i64.wrap (Int.tdiv (IntKind.i64.wrap (v_6 * (IntKind.i64.wrap (v_6 - 1)))) 2)))), (35, vi (shl .i64 1 (IntKind.u64.wrap (IntKind.i64.wrap (Int.tdiv (IntKind.i64.wrap (v_6 * (IntKind.i64.wrap (v_6 - 1)))) 2))))), (36, .bool (decide (q_14 < (shl .i64 1 (IntKind.u64.wrap (IntKind.i64.wrap (Int.tdiv (IntKind.i64.wrap (v_6 * (IntKind.i64.wrap (v_6 - 1)))) 2)))))))] hs fun a hs => hK46 _ _ ?_
          refine Vk.seq fun K65 hK65 => ?_
          refine qsr fun K66 hK66 => ?_
          refine qpe 2 [(1, .int .u8 x1), (2, pp b_2), (5, vi v_6), (6, vi (IntKind.i64.wrap (Int.tdiv (IntKind.i64.wrap (v_6 * (IntKind.i64.wrap (v_6 - 1)))) 2))), (7, pp b_9), (8, vi q_14), (11, pp b_56), (32, vi q_14), (33, vi (IntKind.i64.wrap (Int.tdiv (IntKind.i64.wrap (v_6 * (IntKind.i64.wrap (v_6 - 1)))) 2))), (34, vw (IntKind.u64.wrap (IntKind.i64.wrap (Int.tdiv (IntKind.i64.wrap (v_6 * (IntKind.i64.wrap (v_6 - 1)))) 2)))), (35, vi (shl .i64 1 (IntKind.u64.wrap (IntKind.i64.wrap (Int.tdiv (IntKind.i64.wrap (v_6 * (IntKind.i64.wrap (v_6 - 1)))) 2))))), (36, .bool (decide (q_14 < (shl .i64 1 (IntKind.u64.wrap (IntKind.i64.wrap (Int.tdiv (IntKind.i64.wrap (v_6 * (IntKind.i64.wrap (v_6 - 1)))) 2))))))), (62, .bool true)] hs fun a hs => hK66 _ _ ?_
          clear hK66
          refine qct hs ?_
          refine qsr fun K67 hK67 => ?_
          refine qpe 1 [(4, .bool false)] hs fun a hs => hK67 _ _ ?_
          clear hK67
          refine wp_ret ?_
          exact Vk.ret1 (P := Try.prog) (fn := Try.f4) (R := RR) (.bool false) hs rfl (by kernel_rfl) (by obtain rfl := hret12 _ ((Option.some.inj hm).symm); subst hRR; exact ⟨rfl, (Own.to hs.own [] 6 (by kernel_rfl) (by kernel_rfl))⟩)
        · dsimp only at hm
          refine ⟨_, _, _, rfl, how, fun a hs => ?_⟩
          refine qpu 3 hs fun a hs => ?_
          refine Vk.step (Vk.alloc 11 45 [C.ptr none, C.ptr none, C.slc none 0 0, C.slc none 0 0] hs (by kernel_rfl) (by kernel_rfl) (by kernel_rfl) fun b_64 w a hs => ?_)
          refine Vk.step (Vk.storeA (b := b_64) (ty := 45) (x := (.tmp 11)) (y := (.tmp 59)) (sz := 4) [cp br47x0m_58, cp br47x0x_59, C.slc Ar47x0l_60 v_57.2.2.1.length cr47x0l_61, C.slc Ar47x0v_62 v_57.2.2.2.1.length cr47x0v_63] 0 hs (by kernel_rfl) (by kernel_rfl) (by kernel_rfl) (by kernel_rfl) (by kernel_rfl) rfl (by kernel_rfl) rfl (Eq.trans (b := 4) rfl (Eq.symm rfl)) fun a w hs => ?_)
          refine qpe 1 [(1, .int .u8 x1), (2, pp b_2), (5, vi v_6), (6, vi (IntKind.i64.wrap (Int.tdiv (IntKind.i64.wrap (v_6 * (IntKind.i64.wrap (v_6 - 1)))) 2))), (7, pp b_9), (8, vi q_14), (11, pp b_64), (12, .bool v_57.2.2.2.2), (32, vi q_14), (33, vi (IntKind.i64.wrap (Int.tdiv (IntKind.i64.wrap (v_6 * (IntKind.i64.wrap (v_6 - 1)))) 2))), (34, vw (IntKind.u64.wrap (IntKind.i64.wrap (Int.tdiv (IntKind.i64.wrap (v_6 * (IntKind.i64.wrap (v_6 - 1)))) 2)))), (35, vi (shl .i64 1 (IntKind.u64.wrap (IntKind.i64.wrap (Int.tdiv (IntKind.i64.wrap (v_6 * (IntKind.i64.wrap (v_6 - 1)))) 2))))), (36, .bool (decide (q_14 < (shl .i64 1 (IntKind.u64.wrap (IntKind.i64.wrap (Int.tdiv (IntKind.i64.wrap (v_6 * (IntKind.i64.wrap (v_6 - 1)))) 2)))))))] hs fun a hs => hK46 _ _ ?_
          refine Vk.seq fun K68 hK68 => ?_
          refine qsr fun K69 hK69 => ?_
          refine qpe 2 [(1, .int .u8 x1), (2, pp b_2), (5, vi v_6), (6, vi (IntKind.i64.wrap (Int.tdiv (IntKind.i64.wrap (v_6 * (IntKind.i64.wrap (v_6 - 1)))) 2))), (7, pp b_9), (8, vi q_14), (11, pp b_64), (32, vi q_14), (33, vi (IntKind.i64.wrap (Int.tdiv (IntKind.i64.wrap (v_6 * (IntKind.i64.wrap (v_6 - 1)))) 2))), (34, vw (IntKind.u64.wrap (IntKind.i64.wrap (Int.tdiv (IntKind.i64.wrap (v_6 * (IntKind.i64.wrap (v_6 - 1)))) 2)))), (35, vi (shl .i64 1 (IntKind.u64.wrap (IntKind.i64.wrap (Int.tdiv (IntKind.i64.wrap (v_6 * (IntKind.i64.wrap (v_6 - 1)))) 2))))), (36, .bool (decide (q_14 < (shl .i64 1 (IntKind.u64.wrap (IntKind.i64.wrap (Int.tdiv (IntKind.i64.wrap (v_6 * (IntKind.i64.wrap (v_6 - 1)))) 2))))))), (62, .bool (!v_57.2.2.2.2))] hs fun a hs => hK69 _ _ ?_
          clear hK69
          refine qcs (!v_57.2.2.2.2) hs (fun hb => ?_) fun hb => ?_
          · replace hm := bif_t hm hb
            refine qsr fun K70 hK70 => ?_
            refine qpe 1 [(4, .bool false)] hs fun a hs => hK70 _ _ ?_
            clear hK70
            refine wp_ret ?_
            exact Vk.ret1 (P := Try.prog) (fn := Try.f4) (R := RR) (.bool false) hs rfl (by kernel_rfl) (by obtain rfl := hret12 _ ((Option.some.inj hm).symm); subst hRR; exact ⟨rfl, (Own.to hs.own [] 7 (by kernel_rfl) (by kernel_rfl))⟩)
          · replace hm := bif_f hm hb
            refine wp_skip ?_
            refine hK68 _ _ ?_
            clear hK68
            refine Vk.seq fun K71 hK71 => ?_
            have hj71 : ∀ (p_83 : Twire_Machine) (p_85 : Cells) (p_87 : Cells), visorlaw22_TimesEven.j1 k (visorlaw22_TimesEven.l1 x0 x1 v_6 k) x0 x1 v_6 q_13 q_14 p_83 p_85 p_87 = some r12 → ∀ (b_84 : Nat) (b_86 : Nat) (a : Act) (w : World), St 157 a w κ [(1, .int .u8 x1), (2, pp b_2), (5, vi v_6), (6, vi (IntKind.i64.wrap (Int.tdiv (IntKind.i64.wrap (v_6 * (IntKind.i64.wrap (v_6 - 1)))) 2))), (7, pp b_9), (8, vi q_14), (11, pp b_64), (13, pp b_84), (14, pp b_86), (32, vi q_14), (33, vi (IntKind.i64.wrap (Int.tdiv (IntKind.i64.wrap (v_6 * (IntKind.i64.wrap (v_6 - 1)))) 2))), (34, vw (IntKind.u64.wrap (IntKind.i64.wrap (Int.tdiv (IntKind.i64.wrap (v_6 * (IntKind.i64.wrap (v_6 - 1)))) 2)))), (35, vi (shl .i64 1 (IntKind.u64.wrap (IntKind.i64.wrap (Int.tdiv (IntKind.i64.wrap (v_6 * (IntKind.i64.wrap (v_6 - 1)))) 2))))), (36, .bool (decide (q_14 < (shl .i64 1 (IntKind.u64.wrap (IntKind.i64.wrap (Int.tdiv (IntKind.i64.wrap (v_6 * (IntKind.i64.wrap (v_6 - 1)))) 2)))))))] (pt b_2 (blk (Tvisorlaw22_Asked.obj x0 A_x0masks c_x0masks) 38) :: pt b_9 (blk q_13 40) :: pt b_64 (blk [cp br47x0m_58, cp br47x0x_59, C.slc Ar47x0l_60 v_57.2.2.1.length cr47x0l_61, C.slc Ar47x0v_62 v_57.2.2.2.1.length cr47x0v_63] 45) :: Twire_Machine.own br47x0m_58 p_83 :: Tvisorref19_M.own κ br47x0x_59 v_57.2.1 :: rowp Ar47x0l_60 cr47x0l_61 28 3 eC v_57.2.2.1 :: rowp Ar47x0v_62 cr47x0v_63 32 1 (eI .u64) v_57.2.2.2.1 :: pt b_84 (blk p_85 28) :: pt b_86 (blk p_87 28) :: S) → K71 a w := by
              intro p_83 p_85 p_87 hm b_84 b_86 a w hs
              unfold visorlaw22_TimesEven.j1 at hm
              refine hK71 _ _ ?_
              refine qsr fun K88 hK88 => ?_
              refine qpu 1 hs fun a hs => ?_
              refine Vk.step (Vk.alloc 15 28 [ci 0, ci 0, ci 0] hs (by kernel_rfl) (by kernel_rfl) (by kernel_rfl) fun b_89 w a hs => ?_)
              refine Vk.step (Vk.storeA (b := b_89) (ty := 28) (x := (.tmp 15)) (y := (.tmp 75)) (sz := 3) [ci 0, ci 0, ci 0] 0 hs (by kernel_rfl) (by kernel_rfl) (by kernel_rfl) (by kernel_rfl) (by kernel_rfl) rfl (by kernel_rfl) rfl (Eq.trans (b := 3) rfl (Eq.symm rfl)) fun a w hs => ?_)
              refine qpe 0 [(1, .int .u8 x1), (2, pp b_2), (5, vi v_6), (6, vi (IntKind.i64.wrap (Int.tdiv (IntKind.i64.wrap (v_6 * (IntKind.i64.wrap (v_6 - 1)))) 2))), (7, pp b_9), (8, vi q_14), (11, pp b_64), (13, pp b_84), (14, pp b_86), (15, pp b_89), (32, vi q_14), (33, vi (IntKind.i64.wrap (Int.tdiv (IntKind.i64.wrap (v_6 * (IntKind.i64.wrap (v_6 - 1)))) 2))), (34, vw (IntKind.u64.wrap (IntKind.i64.wrap (Int.tdiv (IntKind.i64.wrap (v_6 * (IntKind.i64.wrap (v_6 - 1)))) 2)))), (35, vi (shl .i64 1 (IntKind.u64.wrap (IntKind.i64.wrap (Int.tdiv (IntKind.i64.wrap (v_6 * (IntKind.i64.wrap (v_6 - 1)))) 2))))), (36, .bool (decide (q_14 < (shl .i64 1 (IntKind.u64.wrap (IntKind.i64.wrap (Int.tdiv (IntKind.i64.wrap (v_6 * (IntKind.i64.wrap (v_6 - 1)))) 2)))))))] hs fun a hs => hK88 _ _ ?_
              clear hK88
              refine Vk.seq fun K90 hK90 => ?_
              have hj90 : ∀ (p_104 : Twire_Machine) (p_105 : Cells), visorlaw22_TimesEven.j2 k (visorlaw22_TimesEven.l1 x0 x1 v_6 k) x1 v_6 q_13 q_14 p_104 p_105 = some r12 → ∀ (a : Act) (w : World), St 157 a w κ [(1, .int .u8 x1), (2, pp b_2), (5, vi v_6), (6, vi (IntKind.i64.wrap (Int.tdiv (IntKind.i64.wrap (v_6 * (IntKind.i64.wrap (v_6 - 1)))) 2))), (7, pp b_9), (8, vi q_14), (11, pp b_64), (15, pp b_89), (32, vi q_14), (33, vi (IntKind.i64.wrap (Int.tdiv (IntKind.i64.wrap (v_6 * (IntKind.i64.wrap (v_6 - 1)))) 2))), (34, vw (IntKind.u64.wrap (IntKind.i64.wrap (Int.tdiv (IntKind.i64.wrap (v_6 * (IntKind.i64.wrap (v_6 - 1)))) 2)))), (35, vi (shl .i64 1 (IntKind.u64.wrap (IntKind.i64.wrap (Int.tdiv (IntKind.i64.wrap (v_6 * (IntKind.i64.wrap (v_6 - 1)))) 2))))), (36, .bool (decide (q_14 < (shl .i64 1 (IntKind.u64.wrap (IntKind.i64.wrap (Int.tdiv (IntKind.i64.wrap (v_6 * (IntKind.i64.wrap (v_6 - 1)))) 2)))))))] (pt b_2 (blk (Tvisorlaw22_Asked.obj x0 A_x0masks c_x0masks) 38) :: pt b_9 (blk q_13 40) :: pt b_64 (blk [cp br47x0m_58, cp br47x0x_59, C.slc Ar47x0l_60 v_57.2.2.1.length cr47x0l_61, C.slc Ar47x0v_62 v_57.2.2.2.1.length cr47x0v_63] 45) :: Twire_Machine.own br47x0m_58 p_104 :: Tvisorref19_M.own κ br47x0x_59 v_57.2.1 :: rowp Ar47x0l_60 cr47x0l_61 28 3 eC v_57.2.2.1 :: rowp Ar47x0v_62 cr47x0v_63 32 1 (eI .u64) v_57.2.2.2.1 :: pt b_89 (blk p_105 28) :: S) → K90 a w := by
                intro p_104 p_105 hm a w hs
                unfold visorlaw22_TimesEven.j2 at hm
                refine hK90 _ _ ?_
                refine qsr fun K106 hK106 => ?_
                refine qpu 1 hs fun a hs => ?_
                refine qld 2 (cp br47x0m_58) hs rfl fun a hs => ?_
                obtain ⟨g_107, hs⟩ := hs.unex 3 rfl
                obtain ⟨v_110, h_109, hm⟩ := bind_t hm
                refine Vk.step (Vk.call (some 91) 22 #[pp br47x0m_58] hs (by kernel_rfl) (by kernel_rfl) (by kernel_rfl) ?_)
                refine (wire_Machine_Values.ok k p_104 v_110 h_109 κ w (pt b_2 (blk (Tvisorlaw22_Asked.obj x0 A_x0masks c_x0masks) 38) :: pt b_9 (blk q_13 40) :: pt b_64 (blk [cp br47x0m_58, cp br47x0x_59, C.slc Ar47x0l_60 v_57.2.2.1.length cr47x0l_61, C.slc Ar47x0v_62 v_57.2.2.2.1.length cr47x0v_63] 45) :: Tvisorref19_M.own κ br47x0x_59 v_57.2.1 :: rowp Ar47x0l_60 cr47x0l_61 28 3 eC v_57.2.2.1 :: rowp Ar47x0v_62 cr47x0v_63 32 1 (eI .u64) v_57.2.2.2.1 :: pt b_89 (blk p_105 28) :: S) br47x0m_58 g_107 (Own.to hs.own [3, 0, 1, 2, 4, 5, 6, 7] 8 (by kernel_rfl) (by kernel_rfl))).mono ?_
                rintro _ w ⟨Ar108x0_111, cr108x0_112, rfl, how⟩
                refine ⟨_, _, _, rfl, how, fun a hs => ?_⟩
                refine qpe 1 [(1, .int .u8 x1), (2, pp b_2), (5, vi v_6), (6, vi (IntKind.i64.wrap (Int.tdiv (IntKind.i64.wrap (v_6 * (IntKind.i64.wrap (v_6 - 1)))) 2))), (7, pp b_9), (8, vi q_14), (11, pp b_64), (15, pp b_89), (16, .slice Ar108x0_111 v_110.length cr108x0_112), (32, vi q_14), (33, vi (IntKind.i64.wrap (Int.tdiv (IntKind.i64.wrap (v_6 * (IntKind.i64.wrap (v_6 - 1)))) 2))), (34, vw (IntKind.u64.wrap (IntKind.i64.wrap (Int.tdiv (IntKind.i64.wrap (v_6 * (IntKind.i64.wrap (v_6 - 1)))) 2)))), (35, vi (shl .i64 1 (IntKind.u64.wrap (IntKind.i64.wrap (Int.tdiv (IntKind.i64.wrap (v_6 * (IntKind.i64.wrap (v_6 - 1)))) 2))))), (36, .bool (decide (q_14 < (shl .i64 1 (IntKind.u64.wrap (IntKind.i64.wrap (Int.tdiv (IntKind.i64.wrap (v_6 * (IntKind.i64.wrap (v_6 - 1)))) 2)))))))] hs fun a hs => hK106 _ _ ?_
                clear hK106
                refine Vk.seq fun K113 hK113 => ?_
                refine qsr fun K114 hK114 => ?_
                refine qpu 1 hs fun a hs => ?_
                refine qld 4 (cp br47x0m_58) hs rfl fun a hs => ?_
                obtain ⟨v_117, h_116, hm⟩ := bind_t hm
                refine Vk.step (Vk.call (some 94) 23 #[pp br47x0m_58] hs (by kernel_rfl) (by kernel_rfl) (by kernel_rfl) ?_)
                refine (wire_Machine_Err.ok k p_104 v_117 h_116 κ w (rowp Ar108x0_111 cr108x0_112 32 1 (eI .u64) v_110 :: pt b_2 (blk (Tvisorlaw22_Asked.obj x0 A_x0masks c_x0masks) 38) :: pt b_9 (blk q_13 40) :: pt b_64 (blk [cp br47x0m_58, cp br47x0x_59, C.slc Ar47x0l_60 v_57.2.2.1.length cr47x0l_61, C.slc Ar47x0v_62 v_57.2.2.2.1.length cr47x0v_63] 45) :: Tvisorref19_M.own κ br47x0x_59 v_57.2.1 :: rowp Ar47x0l_60 cr47x0l_61 28 3 eC v_57.2.2.1 :: rowp Ar47x0v_62 cr47x0v_63 32 1 (eI .u64) v_57.2.2.2.1 :: pt b_89 (blk p_105 28) :: S) br47x0m_58 g_107 (Own.to hs.own [1, 0, 2, 3, 4, 5, 6, 7, 8] 9 (by kernel_rfl) (by kernel_rfl))).mono ?_
                rintro _ w ⟨rfl, how⟩
                refine ⟨_, _, _, rfl, how, fun a hs => ?_⟩
                refine qpe 1 [(1, .int .u8 x1), (2, pp b_2), (5, vi v_6), (6, vi (IntKind.i64.wrap (Int.tdiv (IntKind.i64.wrap (v_6 * (IntKind.i64.wrap (v_6 - 1)))) 2))), (7, pp b_9), (8, vi q_14), (15, pp b_89), (16, .slice Ar108x0_111 v_110.length cr108x0_112), (32, vi q_14), (33, vi (IntKind.i64.wrap (Int.tdiv (IntKind.i64.wrap (v_6 * (IntKind.i64.wrap (v_6 - 1)))) 2))), (34, vw (IntKind.u64.wrap (IntKind.i64.wrap (Int.tdiv (IntKind.i64.wrap (v_6 * (IntKind.i64.wrap (v_6 - 1)))) 2)))), (35, vi (shl .i64 1 (IntKind.u64.wrap (IntKind.i64.wrap (Int.tdiv (IntKind.i64.wrap (v_6 * (IntKind.i64.wrap (v_6 - 1)))) 2))))), (36, .bool (decide (q_14 < (shl .i64 1 (IntKind.u64.wrap (IntKind.i64.wrap (Int.tdiv (IntKind.i64.wrap (v_6 * (IntKind.i64.wrap (v_6 - 1)))) 2))))))), (95, .bool (v_117 != 0))] hs fun a hs => hK114 _ _ ?_
                clear hK114
                refine qcs (v_117 != 0) hs (fun hb => ?_) fun hb => ?_
                · replace hm := bif_t hm hb
                  refine qsr fun K118 hK118 => ?_
                  refine qpe 1 [(4, .bool false)] hs fun a hs => hK118 _ _ ?_
                  clear hK118
                  refine wp_ret ?_
                  replace hs := hs.toEx (Twire_Machine.parts br47x0m_58 p_104) g_107 0 rfl
                  exact Vk.ret1 (P := Try.prog) (fn := Try.f4) (R := RR) (.bool false) hs rfl (by kernel_rfl) (by obtain rfl := hret12 _ ((Option.some.inj hm).symm); subst hRR; exact ⟨rfl, (Own.to hs.own [] 9 (by kernel_rfl) (by kernel_rfl))⟩)
                · replace hm := bif_f hm hb
                  refine wp_skip ?_
                  refine hK113 _ _ ?_
                  clear hK113
                  refine qsr fun K119 hK119 => ?_
                  refine qpe 1 [(1, .int .u8 x1), (2, pp b_2), (5, vi v_6), (6, vi (IntKind.i64.wrap (Int.tdiv (IntKind.i64.wrap (v_6 * (IntKind.i64.wrap (v_6 - 1)))) 2))), (7, pp b_9), (8, vi q_14), (15, pp b_89), (16, .slice Ar108x0_111 v_110.length cr108x0_112), (17, vi 0), (32, vi q_14), (33, vi (IntKind.i64.wrap (Int.tdiv (IntKind.i64.wrap (v_6 * (IntKind.i64.wrap (v_6 - 1)))) 2))), (34, vw (IntKind.u64.wrap (IntKind.i64.wrap (Int.tdiv (IntKind.i64.wrap (v_6 * (IntKind.i64.wrap (v_6 - 1)))) 2)))), (35, vi (shl .i64 1 (IntKind.u64.wrap (IntKind.i64.wrap (Int.tdiv (IntKind.i64.wrap (v_6 * (IntKind.i64.wrap (v_6 - 1)))) 2))))), (36, .bool (decide (q_14 < (shl .i64 1 (IntKind.u64.wrap (IntKind.i64.wrap (Int.tdiv (IntKind.i64.wrap (v_6 * (IntKind.i64.wrap (v_6 - 1)))) 2)))))))] hs fun a hs => hK119 _ _ ?_
                  clear hK119
                  refine Vk.seq fun K120 hK120 => ?_
                  refine qsr fun K121 hK121 => ?_
                  refine qpe 1 [(1, .int .u8 x1), (2, pp b_2), (5, vi v_6), (6, vi (IntKind.i64.wrap (Int.tdiv (IntKind.i64.wrap (v_6 * (IntKind.i64.wrap (v_6 - 1)))) 2))), (7, pp b_9), (8, vi q_14), (15, pp b_89), (16, .slice Ar108x0_111 v_110.length cr108x0_112), (17, vi 0), (18, vi 0), (32, vi q_14), (33, vi (IntKind.i64.wrap (Int.tdiv (IntKind.i64.wrap (v_6 * (IntKind.i64.wrap (v_6 - 1)))) 2))), (34, vw (IntKind.u64.wrap (IntKind.i64.wrap (Int.tdiv (IntKind.i64.wrap (v_6 * (IntKind.i64.wrap (v_6 - 1)))) 2)))), (35, vi (shl .i64 1 (IntKind.u64.wrap (IntKind.i64.wrap (Int.tdiv (IntKind.i64.wrap (v_6 * (IntKind.i64.wrap (v_6 - 1)))) 2))))), (36, .bool (decide (q_14 < (shl .i64 1 (IntKind.u64.wrap (IntKind.i64.wrap (Int.tdiv (IntKind.i64.wrap (v_6 * (IntKind.i64.wrap (v_6 - 1)))) 2)))))))] hs fun a hs => hK121 _ _ ?_
                  clear hK121
                  refine wp_block ?_
                  replace hs := hs.toEx (Twire_Machine.parts br47x0m_58 p_104) g_107 0 rfl
                  obtain ⟨r122, hl122, hm⟩ := bind_t hm
                  have hx122 : ∀ (p_152 : Int), r122 = Sum.inr p_152 → ∀ (a : Act) (w : World), St 157 a w κ [(1, .int .u8 x1), (2, pp b_2), (5, vi v_6), (6, vi (IntKind.i64.wrap (Int.tdiv (IntKind.i64.wrap (v_6 * (IntKind.i64.wrap (v_6 - 1)))) 2))), (7, pp b_9), (8, vi q_14), (17, vi p_152), (32, vi q_14), (33, vi (IntKind.i64.wrap (Int.tdiv (IntKind.i64.wrap (v_6 * (IntKind.i64.wrap (v_6 - 1)))) 2))), (34, vw (IntKind.u64.wrap (IntKind.i64.wrap (Int.tdiv (IntKind.i64.wrap (v_6 * (IntKind.i64.wrap (v_6 - 1)))) 2)))), (35, vi (shl .i64 1 (IntKind.u64.wrap (IntKind.i64.wrap (Int.tdiv (IntKind.i64.wrap (v_6 * (IntKind.i64.wrap (v_6 - 1)))) 2))))), (36, .bool (decide (q_14 < (shl .i64 1 (IntKind.u64.wrap (IntKind.i64.wrap (Int.tdiv (IntKind.i64.wrap (v_6 * (IntKind.i64.wrap (v_6 - 1)))) 2)))))))] (pt b_2 (blk (Tvisorlaw22_Asked.obj x0 A_x0masks c_x0masks) 38) :: pt b_9 (blk q_13 40) :: S) → K120 a w := by
                    intro p_152 he a w hs
                    subst r122
                    refine hK120 _ _ ?_
                    clear hK120
                    refine Vk.region ?_
                    refine qpu 1 hs fun a hs => ?_
                    obtain ⟨h_157, hm⟩ := ite_t hm
                    refine Vk.step (Vk.value (some 134) (.pointer (some ⟨b_9, 0 + p_152.toNat * 1, none⟩)) hs (by kernel_rfl) (op := (.indexAddr 40 (.tmp 7) (.tmp 133))) (by kernel_rfl) (fun o ho => run_idxArr (k := .i64) ho (by kernel_rfl) (by kernel_rfl) (by kernel_rfl) h_157 _) fun a hs => ?_)
                    obtain ⟨v_159, h_158, hm⟩ := bind_t hm
                    refine Vk.step (Vk.value (some 135) (vi v_159) hs (by kernel_rfl) (op := (.load 3 (.tmp 134))) (by kernel_rfl) (fun o ho => run_load1 (c := ci v_159) ho (by kernel_rfl) (by kernel_rfl) (Cell.own 1 rfl (getI_some h_158)) _ hs.own) fun a hs => ?_)
                    refine qpu 1 hs fun a hs => ?_
                    obtain ⟨h_160, hm⟩ := ite_t hm
                    refine Vk.step (Vk.value (some 137) (.pointer (some ⟨b_9, 0 + p_152.toNat * 1, none⟩)) hs (by kernel_rfl) (op := (.indexAddr 40 (.tmp 7) (.tmp 133))) (by kernel_rfl) (fun o ho => run_idxArr (k := .i64) ho (by kernel_rfl) (by kernel_rfl) (by kernel_rfl) h_160 _) fun a hs => ?_)
                    obtain ⟨h_161, hm⟩ := ite_t hm
                    refine Vk.step (Vk.store1 (b := b_9) (ty := 3) (x := (.tmp 137)) (y := (.tmp 136)) (off := 0 + p_152.toNat * 1) (ci (IntKind.i64.wrap (v_159 + 1))) 1 hs (by kernel_rfl) (by kernel_rfl) (by kernel_rfl) (by kernel_rfl) (by kernel_rfl) (by kernel_rfl) rfl h_161 fun a w hs => ?_)
                    refine qpe 0 [(1, .int .u8 x1), (2, pp b_2), (5, vi v_6), (6, vi (IntKind.i64.wrap (Int.tdiv (IntKind.i64.wrap (v_6 * (IntKind.i64.wrap (v_6 - 1)))) 2))), (7, pp b_9), (8, vi q_14), (32, vi q_14), (33, vi (IntKind.i64.wrap (Int.tdiv (IntKind.i64.wrap (v_6 * (IntKind.i64.wrap (v_6 - 1)))) 2))), (34, vw (IntKind.u64.wrap (IntKind.i64.wrap (Int.tdiv (IntKind.i64.wrap (v_6 * (IntKind.i64.wrap (v_6 - 1)))) 2)))), (35, vi (shl .i64 1 (IntKind.u64.wrap (IntKind.i64.wrap (Int.tdiv (IntKind.i64.wrap (v_6 * (IntKind.i64.wrap (v_6 - 1)))) 2))))), (36, .bool (decide (q_14 < (shl .i64 1 (IntKind.u64.wrap (IntKind.i64.wrap (Int.tdiv (IntKind.i64.wrap (v_6 * (IntKind.i64.wrap (v_6 - 1)))) 2)))))))] hs fun a hs => hK19 _ _ ?_
                    clear hK19
                    refine Vk.region ?_
                    refine qpe 3 [(1, .int .u8 x1), (2, pp b_2), (5, vi v_6), (6, vi (IntKind.i64.wrap (Int.tdiv (IntKind.i64.wrap (v_6 * (IntKind.i64.wrap (v_6 - 1)))) 2))), (7, pp b_9), (8, vi (IntKind.i64.wrap (q_14 + 1))), (32, vi q_14), (33, vi (IntKind.i64.wrap (Int.tdiv (IntKind.i64.wrap (v_6 * (IntKind.i64.wrap (v_6 - 1)))) 2))), (34, vw (IntKind.u64.wrap (IntKind.i64.wrap (Int.tdiv (IntKind.i64.wrap (v_6 * (IntKind.i64.wrap (v_6 - 1)))) 2)))), (35, vi (shl .i64 1 (IntKind.u64.wrap (IntKind.i64.wrap (Int.tdiv (IntKind.i64.wrap (v_6 * (IntKind.i64.wrap (v_6 - 1)))) 2))))), (36, .bool (decide (q_14 < (shl .i64 1 (IntKind.u64.wrap (IntKind.i64.wrap (Int.tdiv (IntKind.i64.wrap (v_6 * (IntKind.i64.wrap (v_6 - 1)))) 2)))))))] hs fun a hs => ?_
                    refine ih ((q_13.set (0 + p_152.toNat * 1) (ci (IntKind.i64.wrap (v_159 + 1)))), (IntKind.i64.wrap (q_14 + 1))) _ _ ⟨hm, hs.go [1, 2, 5, 6, 7, 8] [0, 1] 2 (by kernel_rfl) (by kernel_rfl) (by kernel_rfl)⟩
                  have hret122 : ∀ v, r122 = Sum.inl v → v = r12 := by intro v he; subst r122; exact Option.some.inj hm
                  refine Vk.loopBy (fun k (s : Int × Int) a w => visorlaw22_TimesEven.l3 x1 v_6 p_105 v_110 k s.1 s.2 = some r122 ∧ St 157 a w κ [(1, .int .u8 x1), (2, pp b_2), (5, vi v_6), (6, vi (IntKind.i64.wrap (Int.tdiv (IntKind.i64.wrap (v_6 * (IntKind.i64.wrap (v_6 - 1)))) 2))), (7, pp b_9), (8, vi q_14), (15, pp b_89), (16, .slice Ar108x0_111 v_110.length cr108x0_112), (17, vi s.1), (18, vi s.2), (32, vi q_14), (33, vi (IntKind.i64.wrap (Int.tdiv (IntKind.i64.wrap (v_6 * (IntKind.i64.wrap (v_6 - 1)))) 2))), (34, vw (IntKind.u64.wrap (IntKind.i64.wrap (Int.tdiv (IntKind.i64.wrap (v_6 * (IntKind.i64.wrap (v_6 - 1)))) 2)))), (35, vi (shl .i64 1 (IntKind.u64.wrap (IntKind.i64.wrap (Int.tdiv (IntKind.i64.wrap (v_6 * (IntKind.i64.wrap (v_6 - 1)))) 2))))), (36, .bool (decide (q_14 < (shl .i64 1 (IntKind.u64.wrap (IntKind.i64.wrap (Int.tdiv (IntKind.i64.wrap (v_6 * (IntKind.i64.wrap (v_6 - 1)))) 2)))))))] (pt b_2 (blk (Tvisorlaw22_Asked.obj x0 A_x0masks c_x0masks) 38) :: pt b_9 (blk q_13 40) :: pt b_89 (blk p_105 28) :: rowp Ar108x0_111 cr108x0_112 32 1 (eI .u64) v_110 :: S)) k (0, 0) ⟨hl122, hs.go [1, 2, 5, 6, 7, 8, 15, 16, 17, 18, 32, 33, 34, 35, 36] [2, 3, 8, 1] 9 (by kernel_rfl) (by kernel_rfl) (by kernel_rfl)⟩ (fun s a w h => by obtain ⟨h1, _⟩ := h; simp [visorlaw22_TimesEven.l3] at h1) (fun k KL122 ih s a w h => ?_)
                  obtain ⟨q_123, q_124⟩ := s
                  obtain ⟨hm, hs⟩ := h
                  try dsimp only at hm hs
                  rw [visorlaw22_TimesEven.l3] at hm
                  refine Vk.seq fun K125 hK125 => ?_
                  refine qsr fun K126 hK126 => ?_
                  refine qpe 3 [(1, .int .u8 x1), (2, pp b_2), (5, vi v_6), (6, vi (IntKind.i64.wrap (Int.tdiv (IntKind.i64.wrap (v_6 * (IntKind.i64.wrap (v_6 - 1)))) 2))), (7, pp b_9), (8, vi q_14), (15, pp b_89), (16, .slice Ar108x0_111 v_110.length cr108x0_112), (17, vi q_123), (18, vi q_124), (32, vi q_14), (33, vi (IntKind.i64.wrap (Int.tdiv (IntKind.i64.wrap (v_6 * (IntKind.i64.wrap (v_6 - 1)))) 2))), (34, vw (IntKind.u64.wrap (IntKind.i64.wrap (Int.tdiv (IntKind.i64.wrap (v_6 * (IntKind.i64.wrap (v_6 - 1)))) 2)))), (35, vi (shl .i64 1 (IntKind.u64.wrap (IntKind.i64.wrap (Int.tdiv (IntKind.i64.wrap (v_6 * (IntKind.i64.wrap (v_6 - 1)))) 2))))), (36, .bool (decide (q_14 < (shl .i64 1 (IntKind.u64.wrap (IntKind.i64.wrap (Int.tdiv (IntKind.i64.wrap (v_6 * (IntKind.i64.wrap (v_6 - 1)))) 2))))))), (98, .bool (decide (q_124 < v_6)))] hs fun a hs => hK126 _ _ ?_
                  clear hK126
                  refine qcs (decide (q_124 < v_6)) hs (fun hb => ?_) fun hb => ?_
                  · replace hm := bif_t hm hb
                    refine wp_skip ?_
                    refine hK125 _ _ ?_
                    clear hK125
                    refine Vk.seq fun K127 hK127 => ?_
                    refine wp_block ?_
                    refine Vk.seq fun K128 hK128 => ?_
                    refine qsr fun K129 hK129 => ?_
                    refine qpu 4 hs fun a hs => ?_
                    obtain ⟨h_130, hm⟩ := ite_t hm
                    refine Vk.step (Vk.value (some 105) (vi (Int.tmod (IntKind.i64.wrap x1) v_6)) hs (by kernel_rfl) (op := (.binOp .rem 3 (.tmp 103) (.tmp 104) 3)) (by kernel_rfl) (fun o ho => run_rem ho (by kernel_rfl) (by kernel_rfl) h_130 _) fun a hs => ?_)
                    refine qpe 1 [(1, .int .u8 x1), (2, pp b_2), (5, vi v_6), (6, vi (IntKind.i64.wrap (Int.tdiv (IntKind.i64.wrap (v_6 * (IntKind.i64.wrap (v_6 - 1)))) 2))), (7, pp b_9), (8, vi q_14), (15, pp b_89), (16, .slice Ar108x0_111 v_110.length cr108x0_112), (17, vi q_123), (18, vi q_124), (32, vi q_14), (33, vi (IntKind.i64.wrap (Int.tdiv (IntKind.i64.wrap (v_6 * (IntKind.i64.wrap (v_6 - 1)))) 2))), (34, vw (IntKind.u64.wrap (IntKind.i64.wrap (Int.tdiv (IntKind.i64.wrap (v_6 * (IntKind.i64.wrap (v_6 - 1)))) 2)))), (35, vi (shl .i64 1 (IntKind.u64.wrap (IntKind.i64.wrap (Int.tdiv (IntKind.i64.wrap (v_6 * (IntKind.i64.wrap (v_6 - 1)))) 2))))), (36, .bool (decide (q_14 < (shl .i64 1 (IntKind.u64.wrap (IntKind.i64.wrap (Int.tdiv (IntKind.i64.wrap (v_6 * (IntKind.i64.wrap (v_6 - 1)))) 2))))))), (106, .bool (q_124 == (Int.tmod (IntKind.i64.wrap x1) v_6)))] hs fun a hs => hK129 _ _ ?_
                    clear hK129
                    refine qcs (q_124 == (Int.tmod (IntKind.i64.wrap x1) v_6)) hs (fun hb => ?_) fun hb => ?_
                    · replace hm := bif_t hm hb
                      refine wp_exit ?_
                      refine hK127 _ _ ?_
                      refine Vk.region ?_
                      refine qpe 3 [(1, .int .u8 x1), (2, pp b_2), (5, vi v_6), (6, vi (IntKind.i64.wrap (Int.tdiv (IntKind.i64.wrap (v_6 * (IntKind.i64.wrap (v_6 - 1)))) 2))), (7, pp b_9), (8, vi q_14), (15, pp b_89), (16, .slice Ar108x0_111 v_110.length cr108x0_112), (17, vi q_123), (18, vi (IntKind.i64.wrap (q_124 + 1))), (32, vi q_14), (33, vi (IntKind.i64.wrap (Int.tdiv (IntKind.i64.wrap (v_6 * (IntKind.i64.wrap (v_6 - 1)))) 2))), (34, vw (IntKind.u64.wrap (IntKind.i64.wrap (Int.tdiv (IntKind.i64.wrap (v_6 * (IntKind.i64.wrap (v_6 - 1)))) 2)))), (35, vi (shl .i64 1 (IntKind.u64.wrap (IntKind.i64.wrap (Int.tdiv (IntKind.i64.wrap (v_6 * (IntKind.i64.wrap (v_6 - 1)))) 2))))), (36, .bool (decide (q_14 < (shl .i64 1 (IntKind.u64.wrap (IntKind.i64.wrap (Int.tdiv (IntKind.i64.wrap (v_6 * (IntKind.i64.wrap (v_6 - 1)))) 2)))))))] hs fun a hs => ?_
                      refine ih (q_123, (IntKind.i64.wrap (q_124 + 1))) _ _ ⟨hm, hs.go [1, 2, 5, 6, 7, 8, 15, 16, 17, 18, 32, 33, 34, 35, 36] [0, 1, 2, 3] 4 (by kernel_rfl) (by kernel_rfl) (by kernel_rfl)⟩
                    · replace hm := bif_f hm hb
                      refine wp_skip ?_
                      refine hK128 _ _ ?_
                      clear hK128
                      refine Vk.seq fun K131 hK131 => ?_
                      refine qsr fun K132 hK132 => ?_
                      refine qpu 2 hs fun a hs => ?_
                      obtain ⟨h_133, hm⟩ := ite_t hm
                      refine Vk.step (Vk.value (some 109) (.pointer (some ⟨b_89, 0 + q_124.toNat * 1, none⟩)) hs (by kernel_rfl) (op := (.indexAddr 26 (.tmp 108) (.tmp 107))) (by kernel_rfl) (fun o ho => run_idxArr (k := .i64) ho (by kernel_rfl) (by kernel_rfl) (by kernel_rfl) h_133 _) fun a hs => ?_)
                      obtain ⟨v_135, h_134, hm⟩ := bind_t hm
                      refine Vk.step (Vk.value (some 110) (vi v_135) hs (by kernel_rfl) (op := (.load 3 (.tmp 109))) (by kernel_rfl) (fun o ho => run_load1 (c := ci v_135) ho (by kernel_rfl) (by kernel_rfl) (Cell.own 2 rfl (getI_some h_134)) _ hs.own) fun a hs => ?_)
                      refine qpu 2 hs fun a hs => ?_
                      rcases Bool.eq_false_or_eq_true (decide (v_135 < 0)) with hb | hb
                      · replace hm := bif_t hm hb
                        replace hs := hs.known (t := 112) hb (by kernel_rfl)
                        refine qpe 8 [(1, .int .u8 x1), (2, pp b_2), (5, vi v_6), (6, vi (IntKind.i64.wrap (Int.tdiv (IntKind.i64.wrap (v_6 * (IntKind.i64.wrap (v_6 - 1)))) 2))), (7, pp b_9), (8, vi q_14), (15, pp b_89), (16, .slice Ar108x0_111 v_110.length cr108x0_112), (17, vi q_123), (18, vi q_124), (32, vi q_14), (33, vi (IntKind.i64.wrap (Int.tdiv (IntKind.i64.wrap (v_6 * (IntKind.i64.wrap (v_6 - 1)))) 2))), (34, vw (IntKind.u64.wrap (IntKind.i64.wrap (Int.tdiv (IntKind.i64.wrap (v_6 * (IntKind.i64.wrap (v_6 - 1)))) 2)))), (35, vi (shl .i64 1 (IntKind.u64.wrap (IntKind.i64.wrap (Int.tdiv (IntKind.i64.wrap (v_6 * (IntKind.i64.wrap (v_6 - 1)))) 2))))), (36, .bool (decide (q_14 < (shl .i64 1 (IntKind.u64.wrap (IntKind.i64.wrap (Int.tdiv (IntKind.i64.wrap (v_6 * (IntKind.i64.wrap (v_6 - 1)))) 2))))))), (120, .bool true)] hs fun a hs => hK132 _ _ ?_
                        refine qct hs ?_
                        refine qsr fun K140 hK140 => ?_
                        refine qpe 1 [(4, .bool false)] hs fun a hs => hK140 _ _ ?_
                        clear hK140
                        refine wp_ret ?_
                        exact Vk.ret1 (P := Try.prog) (fn := Try.f4) (R := RR) (.bool false) hs rfl (by kernel_rfl) (by obtain rfl := hret12 _ (hret122 _ ((Option.some.inj hm).symm)).symm; subst hRR; exact ⟨rfl, (Own.to hs.own [] 4 (by kernel_rfl) (by kernel_rfl))⟩)
                      · replace hm := bif_f hm hb
                        replace hs := hs.known (t := 112) hb (by kernel_rfl)
                        refine qpu 2 hs fun a hs => ?_
                        obtain ⟨h_137, hm⟩ := ite_t hm
                        refine Vk.step (Vk.value (some 115) (.pointer (some ⟨b_89, 0 + q_124.toNat * 1, none⟩)) hs (by kernel_rfl) (op := (.indexAddr 26 (.tmp 114) (.tmp 113))) (by kernel_rfl) (fun o ho => run_idxArr (k := .i64) ho (by kernel_rfl) (by kernel_rfl) (by kernel_rfl) h_137 _) fun a hs => ?_)
                        obtain ⟨v_139, h_138, hm⟩ := bind_t hm
                        refine Vk.step (Vk.value (some 116) (vi v_139) hs (by kernel_rfl) (op := (.load 3 (.tmp 115))) (by kernel_rfl) (fun o ho => run_load1 (c := ci v_139) ho (by kernel_rfl) (by kernel_rfl) (Cell.own 2 rfl (getI_some h_138)) _ hs.own) fun a hs => ?_)
                        refine qpe 4 [(1, .int .u8 x1), (2, pp b_2), (5, vi v_6), (6, vi (IntKind.i64.wrap (Int.tdiv (IntKind.i64.wrap (v_6 * (IntKind.i64.wrap (v_6 - 1)))) 2))), (7, pp b_9), (8, vi q_14), (15, pp b_89), (16, .slice Ar108x0_111 v_110.length cr108x0_112), (17, vi q_123), (18, vi q_124), (32, vi q_14), (33, vi (IntKind.i64.wrap (Int.tdiv (IntKind.i64.wrap (v_6 * (IntKind.i64.wrap (v_6 - 1)))) 2))), (34, vw (IntKind.u64.wrap (IntKind.i64.wrap (Int.tdiv (IntKind.i64.wrap (v_6 * (IntKind.i64.wrap (v_6 - 1)))) 2)))), (35, vi (shl .i64 1 (IntKind.u64.wrap (IntKind.i64.wrap (Int.tdiv (IntKind.i64.wrap (v_6 * (IntKind.i64.wrap (v_6 - 1)))) 2))))), (36, .bool (decide (q_14 < (shl .i64 1 (IntKind.u64.wrap (IntKind.i64.wrap (Int.tdiv (IntKind.i64.wrap (v_6 * (IntKind.i64.wrap (v_6 - 1)))) 2))))))), (113, vi q_124), (114, pp b_89), (115, .pointer (some ⟨b_89, 0 + q_124.toNat * 1, none⟩)), (116, vi v_139), (117, .slice Ar108x0_111 v_110.length cr108x0_112), (118, vi ((v_110.length : Nat) : Int)), (119, .bool (decide (v_139 ≥ ((v_110.length : Nat) : Int)))), (120, .bool (decide (v_139 ≥ ((v_110.length : Nat) : Int))))] hs fun a hs => hK132 _ _ ?_
                        refine qcs (decide (v_139 ≥ ((v_110.length : Nat) : Int))) hs (fun hb => ?_) fun hb => ?_
                        · replace hm := bif_t hm hb
                          refine qsr fun K141 hK141 => ?_
                          refine qpe 1 [(4, .bool false)] hs fun a hs => hK141 _ _ ?_
                          clear hK141
                          refine wp_ret ?_
                          exact Vk.ret1 (P := Try.prog) (fn := Try.f4) (R := RR) (.bool false) hs rfl (by kernel_rfl) (by obtain rfl := hret12 _ (hret122 _ ((Option.some.inj hm).symm)).symm; subst hRR; exact ⟨rfl, (Own.to hs.own [] 4 (by kernel_rfl) (by kernel_rfl))⟩)
                        · replace hm := bif_f hm hb
                          refine wp_skip ?_
                          refine hK131 _ _ ?_
                          clear hK131
                          refine Vk.region ?_
                          refine qpu 5 hs fun a hs => ?_
                          obtain ⟨h_142, hm⟩ := ite_t hm
                          refine Vk.step (Vk.value (some 126) (.pointer (some ⟨b_89, 0 + q_124.toNat * 1, none⟩)) hs (by kernel_rfl) (op := (.indexAddr 26 (.tmp 125) (.tmp 124))) (by kernel_rfl) (fun o ho => run_idxArr (k := .i64) ho (by kernel_rfl) (by kernel_rfl) (by kernel_rfl) h_142 _) fun a hs => ?_)
                          obtain ⟨v_144, h_143, hm⟩ := bind_t hm
                          refine Vk.step (Vk.value (some 127) (vi v_144) hs (by kernel_rfl) (op := (.load 3 (.tmp 126))) (by kernel_rfl) (fun o ho => run_load1 (c := ci v_144) ho (by kernel_rfl) (by kernel_rfl) (Cell.own 2 rfl (getI_some h_143)) _ hs.own) fun a hs => ?_)
                          obtain ⟨h_145, hm⟩ := ite_t hm
                          obtain ⟨e_148, h_146, hm⟩ := bind_t hm
                          obtain ⟨b_149, o_150, hA_151, h_147⟩ := Sl.elem (Own.rowSl 0 hs.own.drop.drop.drop rfl) h_146
                          refine Vk.step (Vk.value (some 128) (.pointer (some ⟨b_149, o_150 + v_144.toNat * 1, none⟩)) hs (by kernel_rfl) (op := (.indexAddr 25 (.tmp 123) (.tmp 127))) (by kernel_rfl) (fun o ho => run_idxSlc (k := .i64) ho (cap := cr108x0_112) (len := v_110.length) ((congrArg (fun A => Value.slice A (v_110.length) (cr108x0_112)) hA_151) ▸ (by kernel_rfl)) (by kernel_rfl) (by kernel_rfl) (idx_ok h_145 h_146) _) fun a hs => ?_)
                          refine Vk.step (Vk.value (some 129) (vw e_148) hs (by kernel_rfl) (op := (.load 32 (.tmp 128))) (by kernel_rfl) (fun o ho => run_load1 (c := cw e_148) ho (by kernel_rfl) (by kernel_rfl) (fun w ho => h_147 w ho 0 _ rfl) _ hs.own.drop.drop.drop) fun a hs => ?_)
                          refine qpe 4 [(1, .int .u8 x1), (2, pp b_2), (5, vi v_6), (6, vi (IntKind.i64.wrap (Int.tdiv (IntKind.i64.wrap (v_6 * (IntKind.i64.wrap (v_6 - 1)))) 2))), (7, pp b_9), (8, vi q_14), (15, pp b_89), (16, .slice Ar108x0_111 v_110.length cr108x0_112), (17, vi (IntKind.i64.wrap ((IntKind.i64.wrap (q_123 * 2)) + (IntKind.i64.wrap (Int.tmod e_148 2))))), (18, vi q_124), (32, vi q_14), (33, vi (IntKind.i64.wrap (Int.tdiv (IntKind.i64.wrap (v_6 * (IntKind.i64.wrap (v_6 - 1)))) 2))), (34, vw (IntKind.u64.wrap (IntKind.i64.wrap (Int.tdiv (IntKind.i64.wrap (v_6 * (IntKind.i64.wrap (v_6 - 1)))) 2)))), (35, vi (shl .i64 1 (IntKind.u64.wrap (IntKind.i64.wrap (Int.tdiv (IntKind.i64.wrap (v_6 * (IntKind.i64.wrap (v_6 - 1)))) 2))))), (36, .bool (decide (q_14 < (shl .i64 1 (IntKind.u64.wrap (IntKind.i64.wrap (Int.tdiv (IntKind.i64.wrap (v_6 * (IntKind.i64.wrap (v_6 - 1)))) 2))))))), (113, vi q_124), (114, pp b_89), (115, .pointer (some ⟨b_89, 0 + q_124.toNat * 1, none⟩)), (116, vi v_139), (117, .slice Ar108x0_111 v_110.length cr108x0_112), (118, vi ((v_110.length : Nat) : Int)), (119, .bool (decide (v_139 ≥ ((v_110.length : Nat) : Int))))] hs fun a hs => hK127 _ _ ?_
                          refine Vk.region ?_
                          refine qpe 3 [(1, .int .u8 x1), (2, pp b_2), (5, vi v_6), (6, vi (IntKind.i64.wrap (Int.tdiv (IntKind.i64.wrap (v_6 * (IntKind.i64.wrap (v_6 - 1)))) 2))), (7, pp b_9), (8, vi q_14), (15, pp b_89), (16, .slice Ar108x0_111 v_110.length cr108x0_112), (17, vi (IntKind.i64.wrap ((IntKind.i64.wrap (q_123 * 2)) + (IntKind.i64.wrap (Int.tmod e_148 2))))), (18, vi (IntKind.i64.wrap (q_124 + 1))), (32, vi q_14), (33, vi (IntKind.i64.wrap (Int.tdiv (IntKind.i64.wrap (v_6 * (IntKind.i64.wrap (v_6 - 1)))) 2))), (34, vw (IntKind.u64.wrap (IntKind.i64.wrap (Int.tdiv (IntKind.i64.wrap (v_6 * (IntKind.i64.wrap (v_6 - 1)))) 2)))), (35, vi (shl .i64 1 (IntKind.u64.wrap (IntKind.i64.wrap (Int.tdiv (IntKind.i64.wrap (v_6 * (IntKind.i64.wrap (v_6 - 1)))) 2))))), (36, .bool (decide (q_14 < (shl .i64 1 (IntKind.u64.wrap (IntKind.i64.wrap (Int.tdiv (IntKind.i64.wrap (v_6 * (IntKind.i64.wrap (v_6 - 1)))) 2))))))), (113, vi q_124), (114, pp b_89), (115, .pointer (some ⟨b_89, 0 + q_124.toNat * 1, none⟩)), (116, vi v_139), (117, .slice Ar108x0_111 v_110.length cr108x0_112), (118, vi ((v_110.length : Nat) : Int)), (119, .bool (decide (v_139 ≥ ((v_110.length : Nat) : Int))))] hs fun a hs => ?_
                          refine ih ((IntKind.i64.wrap ((IntKind.i64.wrap (q_123 * 2)) + (IntKind.i64.wrap (Int.tmod e_148 2)))), (IntKind.i64.wrap (q_124 + 1))) _ _ ⟨hm, hs.go [1, 2, 5, 6, 7, 8, 15, 16, 17, 18, 32, 33, 34, 35, 36] [0, 1, 2, 3] 4 (by kernel_rfl) (by kernel_rfl) (by kernel_rfl)⟩
                  · replace hm := bif_f hm hb
                    refine wp_exit ?_
                    exact hx122 q_123 (Option.some.inj hm).symm _ _ (hs.go [1, 2, 5, 6, 7, 8, 17, 32, 33, 34, 35, 36] [0, 1] 4 (by kernel_rfl) (by kernel_rfl) (by kernel_rfl))
              refine qsr fun K91 hK91 => ?_
              refine qpu 1 hs fun a hs => ?_
              refine qld 1 (ci x0.kind) hs rfl fun a hs => ?_
              refine qpe 1 [(1, .int .u8 x1), (2, pp b_2), (5, vi v_6), (6, vi (IntKind.i64.wrap (Int.tdiv (IntKind.i64.wrap (v_6 * (IntKind.i64.wrap (v_6 - 1)))) 2))), (7, pp b_9), (8, vi q_14), (11, pp b_64), (13, pp b_84), (14, pp b_86), (15, pp b_89), (32, vi q_14), (33, vi (IntKind.i64.wrap (Int.tdiv (IntKind.i64.wrap (v_6 * (IntKind.i64.wrap (v_6 - 1)))) 2))), (34, vw (IntKind.u64.wrap (IntKind.i64.wrap (Int.tdiv (IntKind.i64.wrap (v_6 * (IntKind.i64.wrap (v_6 - 1)))) 2)))), (35, vi (shl .i64 1 (IntKind.u64.wrap (IntKind.i64.wrap (Int.tdiv (IntKind.i64.wrap (v_6 * (IntKind.i64.wrap (v_6 - 1)))) 2))))), (36, .bool (decide (q_14 < (shl .i64 1 (IntKind.u64.wrap (IntKind.i64.wrap (Int.tdiv (IntKind.i64.wrap (v_6 * (IntKind.i64.wrap (v_6 - 1)))) 2))))))), (78, .bool (x0.kind == 2))] hs fun a hs => hK91 _ _ ?_
              clear hK91
              refine qcs (x0.kind == 2) hs (fun hb => ?_) fun hb => ?_
              · replace hm := bif_t hm hb
                refine Vk.region ?_
                refine qpu 1 hs fun a hs => ?_
                refine qld 3 (cp br47x0m_58) hs rfl fun a hs => ?_
                obtain ⟨h_92, hm⟩ := ite_t hm
                refine Vk.step (Vk.value (some 81) (.agg (vals p_85)) hs (by kernel_rfl) (op := (.load 28 (.tmp 13))) (by kernel_rfl) (fun o ho => run_loadN (cs := p_85) ho (by kernel_rfl) (by kernel_rfl) h_92 (CellsAt.all 8 rfl) _ hs.own) fun a hs => ?_)
                obtain ⟨h_93, hm⟩ := ite_t hm
                refine Vk.step (Vk.value (some 82) (.agg (vals p_87)) hs (by kernel_rfl) (op := (.load 28 (.tmp 14))) (by kernel_rfl) (fun o ho => run_loadN (cs := p_87) ho (by kernel_rfl) (by kernel_rfl) h_93 (CellsAt.all 9 rfl) _ hs.own) fun a hs => ?_)
                obtain ⟨v_96, h_95, hm⟩ := bind_t hm
                refine Vk.step (Vk.call (some 83) 20 #[pp br47x0m_58, .agg (vals p_85), .agg (vals p_87)] hs (by kernel_rfl) (by kernel_rfl) (by kernel_rfl) ?_)
                refine (times_Dom.ok k p_83 p_85 p_87 v_96 h_95 κ w (pt b_89 (blk [ci 0, ci 0, ci 0] 28) :: pt b_2 (blk (Tvisorlaw22_Asked.obj x0 A_x0masks c_x0masks) 38) :: pt b_9 (blk q_13 40) :: pt b_64 (blk [cp br47x0m_58, cp br47x0x_59, C.slc Ar47x0l_60 v_57.2.2.1.length cr47x0l_61, C.slc Ar47x0v_62 v_57.2.2.2.1.length cr47x0v_63] 45) :: Tvisorref19_M.own κ br47x0x_59 v_57.2.1 :: rowp Ar47x0l_60 cr47x0l_61 28 3 eC v_57.2.2.1 :: rowp Ar47x0v_62 cr47x0v_63 32 1 (eI .u64) v_57.2.2.2.1 :: pt b_84 (blk p_85 28) :: pt b_86 (blk p_87 28) :: S) br47x0m_58 (Own.to hs.own [4, 0, 1, 2, 3, 5, 6, 7, 8, 9] 10 (by kernel_rfl) (by kernel_rfl))).mono ?_
                rintro _ w ⟨rfl, how⟩
                refine ⟨_, _, _, rfl, how, fun a hs => ?_⟩
                obtain ⟨h_97, hm⟩ := ite_t hm
                refine Vk.step (Vk.storeA (b := b_89) (ty := 28) (x := (.tmp 15)) (y := (.tmp 83)) (sz := 3) v_96.1 1 hs (by kernel_rfl) (by kernel_rfl) (by kernel_rfl) (by kernel_rfl) (by kernel_rfl) h_97 (by kernel_rfl) rfl (Eq.trans (b := 3) h_97 (Eq.symm rfl)) fun a w hs => ?_)
                refine qpe 0 [(1, .int .u8 x1), (2, pp b_2), (5, vi v_6), (6, vi (IntKind.i64.wrap (Int.tdiv (IntKind.i64.wrap (v_6 * (IntKind.i64.wrap (v_6 - 1)))) 2))), (7, pp b_9), (8, vi q_14), (11, pp b_64), (15, pp b_89), (32, vi q_14), (33, vi (IntKind.i64.wrap (Int.tdiv (IntKind.i64.wrap (v_6 * (IntKind.i64.wrap (v_6 - 1)))) 2))), (34, vw (IntKind.u64.wrap (IntKind.i64.wrap (Int.tdiv (IntKind.i64.wrap (v_6 * (IntKind.i64.wrap (v_6 - 1)))) 2)))), (35, vi (shl .i64 1 (IntKind.u64.wrap (IntKind.i64.wrap (Int.tdiv (IntKind.i64.wrap (v_6 * (IntKind.i64.wrap (v_6 - 1)))) 2))))), (36, .bool (decide (q_14 < (shl .i64 1 (IntKind.u64.wrap (IntKind.i64.wrap (Int.tdiv (IntKind.i64.wrap (v_6 * (IntKind.i64.wrap (v_6 - 1)))) 2)))))))] hs fun a hs => ?_
                exact hj90 v_96.2 v_96.1 hm _ _ (hs.go [1, 2, 5, 6, 7, 8, 11, 15, 32, 33, 34, 35, 36] [2, 3, 4, 0, 5, 6, 7, 1] 10 (by kernel_rfl) (by kernel_rfl) (by kernel_rfl))
              · replace hm := bif_f hm hb
                refine Vk.region ?_
                refine qpu 1 hs fun a hs => ?_
                refine qld 3 (cp br47x0m_58) hs rfl fun a hs => ?_
                obtain ⟨h_98, hm⟩ := ite_t hm
                refine Vk.step (Vk.value (some 86) (.agg (vals p_85)) hs (by kernel_rfl) (op := (.load 28 (.tmp 13))) (by kernel_rfl) (fun o ho => run_loadN (cs := p_85) ho (by kernel_rfl) (by kernel_rfl) h_98 (CellsAt.all 8 rfl) _ hs.own) fun a hs => ?_)
                obtain ⟨h_99, hm⟩ := ite_t hm
                refine Vk.step (Vk.value (some 87) (.agg (vals p_87)) hs (by kernel_rfl) (op := (.load 28 (.tmp 14))) (by kernel_rfl) (fun o ho => run_loadN (cs := p_87) ho (by kernel_rfl) (by kernel_rfl) h_99 (CellsAt.all 9 rfl) _ hs.own) fun a hs => ?_)
                obtain ⟨v_102, h_101, hm⟩ := bind_t hm
                refine Vk.step (Vk.call (some 88) 21 #[pp br47x0m_58, .agg (vals p_85), .agg (vals p_87)] hs (by kernel_rfl) (by kernel_rfl) (by kernel_rfl) ?_)
                refine (times_Isw.ok k p_83 p_85 p_87 v_102 h_101 κ w (pt b_89 (blk [ci 0, ci 0, ci 0] 28) :: pt b_2 (blk (Tvisorlaw22_Asked.obj x0 A_x0masks c_x0masks) 38) :: pt b_9 (blk q_13 40) :: pt b_64 (blk [cp br47x0m_58, cp br47x0x_59, C.slc Ar47x0l_60 v_57.2.2.1.length cr47x0l_61, C.slc Ar47x0v_62 v_57.2.2.2.1.length cr47x0v_63] 45) :: Tvisorref19_M.own κ br47x0x_59 v_57.2.1 :: rowp Ar47x0l_60 cr47x0l_61 28 3 eC v_57.2.2.1 :: rowp Ar47x0v_62 cr47x0v_63 32 1 (eI .u64) v_57.2.2.2.1 :: pt b_84 (blk p_85 28) :: pt b_86 (blk p_87 28) :: S) br47x0m_58 (Own.to hs.own [4, 0, 1, 2, 3, 5, 6, 7, 8, 9] 10 (by kernel_rfl) (by kernel_rfl))).mono ?_
                rintro _ w ⟨rfl, how⟩
                refine ⟨_, _, _, rfl, how, fun a hs => ?_⟩
                obtain ⟨h_103, hm⟩ := ite_t hm
                refine Vk.step (Vk.storeA (b := b_89) (ty := 28) (x := (.tmp 15)) (y := (.tmp 88)) (sz := 3) v_102.1 1 hs (by kernel_rfl) (by kernel_rfl) (by kernel_rfl) (by kernel_rfl) (by kernel_rfl) h_103 (by kernel_rfl) rfl (Eq.trans (b := 3) h_103 (Eq.symm rfl)) fun a w hs => ?_)
                refine qpe 0 [(1, .int .u8 x1), (2, pp b_2), (5, vi v_6), (6, vi (IntKind.i64.wrap (Int.tdiv (IntKind.i64.wrap (v_6 * (IntKind.i64.wrap (v_6 - 1)))) 2))), (7, pp b_9), (8, vi q_14), (11, pp b_64), (15, pp b_89), (32, vi q_14), (33, vi (IntKind.i64.wrap (Int.tdiv (IntKind.i64.wrap (v_6 * (IntKind.i64.wrap (v_6 - 1)))) 2))), (34, vw (IntKind.u64.wrap (IntKind.i64.wrap (Int.tdiv (IntKind.i64.wrap (v_6 * (IntKind.i64.wrap (v_6 - 1)))) 2)))), (35, vi (shl .i64 1 (IntKind.u64.wrap (IntKind.i64.wrap (Int.tdiv (IntKind.i64.wrap (v_6 * (IntKind.i64.wrap (v_6 - 1)))) 2))))), (36, .bool (decide (q_14 < (shl .i64 1 (IntKind.u64.wrap (IntKind.i64.wrap (Int.tdiv (IntKind.i64.wrap (v_6 * (IntKind.i64.wrap (v_6 - 1)))) 2)))))))] hs fun a hs => ?_
                exact hj90 v_102.2 v_102.1 hm _ _ (hs.go [1, 2, 5, 6, 7, 8, 11, 15, 32, 33, 34, 35, 36] [2, 3, 4, 0, 5, 6, 7, 1] 10 (by kernel_rfl) (by kernel_rfl) (by kernel_rfl))
            obtain ⟨C_72, hC_72⟩ : ∃ X0 : List HP, X0 = (pt b_64 (blk [cp br47x0m_58, cp br47x0x_59, C.slc Ar47x0l_60 v_57.2.2.1.length cr47x0l_61, C.slc Ar47x0v_62 v_57.2.2.2.1.length cr47x0v_63] 45) :: Tvisorref19_M.own κ br47x0x_59 v_57.2.1 :: rowp Ar47x0l_60 cr47x0l_61 28 3 eC v_57.2.2.1 :: rowp Ar47x0v_62 cr47x0v_63 32 1 (eI .u64) v_57.2.2.2.1 :: pt b_2 (blk (Tvisorlaw22_Asked.obj x0 A_x0masks c_x0masks) 38) :: pt b_9 (blk q_13 40) :: S) := ⟨_, rfl⟩
            refine qdr 15 κ C_72 hs fun w hs hqC_72 => ?_
            have hcz : Own κ w (pt b_64 (blk [cp br47x0m_58, cp br47x0x_59, C.slc Ar47x0l_60 v_57.2.2.1.length cr47x0l_61, C.slc Ar47x0v_62 v_57.2.2.2.1.length cr47x0v_63] 45) :: Tvisorref19_M.own κ br47x0x_59 v_57.2.1 :: rowp Ar47x0l_60 cr47x0l_61 28 3 eC v_57.2.2.1 :: rowp Ar47x0v_62 cr47x0v_63 32 1 (eI .u64) v_57.2.2.2.1 :: pt b_2 (blk (Tvisorlaw22_Asked.obj x0 A_x0masks c_x0masks) 38) :: pt b_9 (blk q_13 40) :: S) := (Own.to hs.own [0, 2, 3, 4, 5, 6] 7 (by kernel_rfl) (by kernel_rfl))
            have hcl : Own κ w C_72 := by rw [hC_72]; exact hcz
            refine qdp (fuel := 10) [0, 2, 3, 6, 8, 9] hs hcl hqC_72 fun a hs => ?_
            refine qdl 1 0 (cp br47x0m_58) hs hcl hqC_72 hC_72 rfl fun a hs => ?_
            refine qdn 4 4 ([cw x0.a0, cw x0.a1, cw x0.a2]) hs hcl hqC_72 hC_72 rfl fun a hs => ?_
            refine qdl 7 0 (cp br47x0m_58) hs hcl hqC_72 hC_72 rfl fun a hs => ?_
            refine qdn 10 4 ([cw x0.b0, cw x0.b1, cw x0.b2]) hs hcl hqC_72 hC_72 rfl fun a hs => ?_
            refine Vk.dMany3 (i0 := 5) (i1 := 12) (i2 := 13) (by kernel_rfl) ?_ ?_ ?_
            · obtain ⟨v_75, h_74, hm⟩ := bind_t hm
              refine Vk.call (some 68) 19 #[pp br47x0m_58, vi v_6, .agg (vals [cw x0.a0, cw x0.a1, cw x0.a2])] hs (by kernel_rfl) (by kernel_rfl) (by kernel_rfl) ?_
              refine (visorlaw22_laid.ok k v_57.1 v_6 [cw x0.a0, cw x0.a1, cw x0.a2] v_75 h_74 κ w (pt b_64 (blk [cp br47x0m_58, cp br47x0x_59, C.slc Ar47x0l_60 v_57.2.2.1.length cr47x0l_61, C.slc Ar47x0v_62 v_57.2.2.2.1.length cr47x0v_63] 45) :: Tvisorref19_M.own κ br47x0x_59 v_57.2.1 :: rowp Ar47x0l_60 cr47x0l_61 28 3 eC v_57.2.2.1 :: rowp Ar47x0v_62 cr47x0v_63 32 1 (eI .u64) v_57.2.2.2.1 :: pt b_2 (blk (Tvisorlaw22_Asked.obj x0 A_x0masks c_x0masks) 38) :: pt b_9 (blk q_13 40) :: S) br47x0m_58 (Own.to hs.own [1, 0, 2, 3, 4, 5, 6] 7 (by kernel_rfl) (by kernel_rfl))).mono ?_
              rintro _ w ⟨rfl, how⟩
              refine ⟨_, _, _, rfl, how, fun a hs => ?_⟩
              replace hcl : Own κ w C_72 := by rw [hC_72]; exact (Own.to hs.own [1, 2, 3, 4, 5, 6] 7 (by kernel_rfl) (by kernel_rfl))
              refine ⟨fun _ => hcl, ?_⟩
              refine Vk.dMany3 (i0 := 11) (i1 := 12) (i2 := 13) (by kernel_rfl) ?_ ?_ ?_
              · obtain ⟨v_78, h_77, hm⟩ := bind_t hm
                refine Vk.call (some 74) 19 #[pp br47x0m_58, vi v_6, .agg (vals [cw x0.b0, cw x0.b1, cw x0.b2])] hs (by kernel_rfl) (by kernel_rfl) (by kernel_rfl) ?_
                refine (visorlaw22_laid.ok k v_75.2 v_6 [cw x0.b0, cw x0.b1, cw x0.b2] v_78 h_77 κ w (pt b_64 (blk [cp br47x0m_58, cp br47x0x_59, C.slc Ar47x0l_60 v_57.2.2.1.length cr47x0l_61, C.slc Ar47x0v_62 v_57.2.2.2.1.length cr47x0v_63] 45) :: Tvisorref19_M.own κ br47x0x_59 v_57.2.1 :: rowp Ar47x0l_60 cr47x0l_61 28 3 eC v_57.2.2.1 :: rowp Ar47x0v_62 cr47x0v_63 32 1 (eI .u64) v_57.2.2.2.1 :: pt b_2 (blk (Tvisorlaw22_Asked.obj x0 A_x0masks c_x0masks) 38) :: pt b_9 (blk q_13 40) :: S) br47x0m_58 (Own.to hs.own [0, 1, 2, 3, 4, 5, 6] 7 (by kernel_rfl) (by kernel_rfl))).mono ?_
                rintro _ w ⟨rfl, how⟩
                refine ⟨_, _, _, rfl, how, fun a hs => ?_⟩
                replace hcl : Own κ w C_72 := by rw [hC_72]; exact (Own.to hs.own [1, 2, 3, 4, 5, 6] 7 (by kernel_rfl) (by kernel_rfl))
                refine ⟨fun _ => hcl, ?_⟩
                refine Vk.dMany2 (i0 := 12) (i1 := 13) (by kernel_rfl) ?_ ?_
                · refine Vk.alloc 13 28 [ci 0, ci 0, ci 0] hs (by kernel_rfl) (by kernel_rfl) (by kernel_rfl) fun b_79 w a hs => ?_
                  replace hcl : Own κ w C_72 := by rw [hC_72]; exact (Own.to hs.own [2, 3, 4, 5, 6, 7] 8 (by kernel_rfl) (by kernel_rfl))
                  refine ⟨fun _ => hcl, ?_⟩
                  refine Vk.dOnly (i := 13) (by kernel_rfl) (Vk.alloc 14 28 [ci 0, ci 0, ci 0] hs (by kernel_rfl) (by kernel_rfl) (by kernel_rfl) fun b_80 w a hs => ?_)
                  replace hcl : Own κ w C_72 := by rw [hC_72]; exact (Own.to hs.own [3, 4, 5, 6, 7, 8] 9 (by kernel_rfl) (by kernel_rfl))
                  refine ⟨fun _ => hcl, ?_⟩
                  obtain ⟨h_81, hm⟩ := ite_t hm
                  refine Vk.dOnly (i := 14) (by kernel_rfl) (Vk.storeA (b := b_79) (ty := 28) (x := (.tmp 13)) (y := (.tmp 68)) (sz := 3) v_75.1 1 hs (by kernel_rfl) (by kernel_rfl) (by kernel_rfl) (by kernel_rfl) (by kernel_rfl) h_81 (by kernel_rfl) rfl (Eq.trans (b := 3) h_81 (Eq.symm rfl)) fun a w hs => ?_)
                  replace hcl : Own κ w C_72 := by rw [hC_72]; exact (Own.to hs.own [3, 4, 5, 6, 7, 8] 9 (by kernel_rfl) (by kernel_rfl))
                  refine ⟨fun _ => hcl, ?_⟩
                  obtain ⟨h_82, hm⟩ := ite_t hm
                  refine Vk.dOnly (i := 15) (by kernel_rfl) (Vk.storeA (b := b_80) (ty := 28) (x := (.tmp 14)) (y := (.tmp 74)) (sz := 3) v_78.1 0 hs (by kernel_rfl) (by kernel_rfl) (by kernel_rfl) (by kernel_rfl) (by kernel_rfl) h_82 (by kernel_rfl) rfl (Eq.trans (b := 3) h_82 (Eq.symm rfl)) fun a w hs => ?_)
                  refine ⟨fun h => absurd h (by decide), ?_⟩
                  replace hs := hs.pick [1, 2, 5, 6, 7, 8, 11, 13, 14, 32, 33, 34, 35, 36] (L' := [(1, .int .u8 x1), (2, pp b_2), (5, vi v_6), (6, vi (IntKind.i64.wrap (Int.tdiv (IntKind.i64.wrap (v_6 * (IntKind.i64.wrap (v_6 - 1)))) 2))), (7, pp b_9), (8, vi q_14), (11, pp b_64), (13, pp b_79), (14, pp b_80), (32, vi q_14), (33, vi (IntKind.i64.wrap (Int.tdiv (IntKind.i64.wrap (v_6 * (IntKind.i64.wrap (v_6 - 1)))) 2))), (34, vw (IntKind.u64.wrap (IntKind.i64.wrap (Int.tdiv (IntKind.i64.wrap (v_6 * (IntKind.i64.wrap (v_6 - 1)))) 2)))), (35, vi (shl .i64 1 (IntKind.u64.wrap (IntKind.i64.wrap (Int.tdiv (IntKind.i64.wrap (v_6 * (IntKind.i64.wrap (v_6 - 1)))) 2))))), (36, .bool (decide (q_14 < (shl .i64 1 (IntKind.u64.wrap (IntKind.i64.wrap (Int.tdiv (IntKind.i64.wrap (v_6 * (IntKind.i64.wrap (v_6 - 1)))) 2)))))))]) (by kernel_rfl)
                  refine Vk.dDone (by kernel_rfl) ?_
                  exact hj71 v_78.2 v_75.1 v_78.1 hm b_79 b_80 _ _ (hs.go [1, 2, 5, 6, 7, 8, 11, 13, 14, 32, 33, 34, 35, 36] [7, 8, 3, 2, 4, 5, 6, 1, 0] 9 (by kernel_rfl) (by kernel_rfl) (by kernel_rfl))
                · refine Vk.alloc 14 28 [ci 0, ci 0, ci 0] hs (by kernel_rfl) (by kernel_rfl) (by kernel_rfl) fun b_79 w a hs => ?_
                  replace hcl : Own κ w C_72 := by rw [hC_72]; exact (Own.to hs.own [2, 3, 4, 5, 6, 7] 8 (by kernel_rfl) (by kernel_rfl))
                  refine ⟨fun _ => hcl, ?_⟩
                  refine Vk.dOnly (i := 12) (by kernel_rfl) (Vk.alloc 13 28 [ci 0, ci 0, ci 0] hs (by kernel_rfl) (by kernel_rfl) (by kernel_rfl) fun b_80 w a hs => ?_)
                  replace hcl : Own κ w C_72 := by rw [hC_72]; exact (Own.to hs.own [3, 4, 5, 6, 7, 8] 9 (by kernel_rfl) (by kernel_rfl))
                  refine ⟨fun _ => hcl, ?_⟩
                  obtain ⟨h_81, hm⟩ := ite_t hm
                  refine Vk.dOnly (i := 14) (by kernel_rfl) (Vk.storeA (b := b_80) (ty := 28) (x := (.tmp 13)) (y := (.tmp 68)) (sz := 3) v_75.1 0 hs (by kernel_rfl) (by kernel_rfl) (by kernel_rfl) (by kernel_rfl) (by kernel_rfl) h_81 (by kernel_rfl) rfl (Eq.trans (b := 3) h_81 (Eq.symm rfl)) fun a w hs => ?_)
                  replace hcl : Own κ w C_72 := by rw [hC_72]; exact (Own.to hs.own [3, 4, 5, 6, 7, 8] 9 (by kernel_rfl) (by kernel_rfl))
                  refine ⟨fun _ => hcl, ?_⟩
                  obtain ⟨h_82, hm⟩ := ite_t hm
                  refine Vk.dOnly (i := 15) (by kernel_rfl) (Vk.storeA (b := b_79) (ty := 28) (x := (.tmp 14)) (y := (.tmp 74)) (sz := 3) v_78.1 1 hs (by kernel_rfl) (by kernel_rfl) (by kernel_rfl) (by kernel_rfl) (by kernel_rfl) h_82 (by kernel_rfl) rfl (Eq.trans (b := 3) h_82 (Eq.symm rfl)) fun a w hs => ?_)
                  refine ⟨fun h => absurd h (by decide), ?_⟩
                  replace hs := hs.pick [1, 2, 5, 6, 7, 8, 11, 13, 14, 32, 33, 34, 35, 36] (L' := [(1, .int .u8 x1), (2, pp b_2), (5, vi v_6), (6, vi (IntKind.i64.wrap (Int.tdiv (IntKind.i64.wrap (v_6 * (IntKind.i64.wrap (v_6 - 1)))) 2))), (7, pp b_9), (8, vi q_14), (11, pp b_64), (13, pp b_80), (14, pp b_79), (32, vi q_14), (33, vi (IntKind.i64.wrap (Int.tdiv (IntKind.i64.wrap (v_6 * (IntKind.i64.wrap (v_6 - 1)))) 2))), (34, vw (IntKind.u64.wrap (IntKind.i64.wrap (Int.tdiv (IntKind.i64.wrap (v_6 * (IntKind.i64.wrap (v_6 - 1)))) 2)))), (35, vi (shl .i64 1 (IntKind.u64.wrap (IntKind.i64.wrap (Int.tdiv (IntKind.i64.wrap (v_6 * (IntKind.i64.wrap (v_6 - 1)))) 2))))), (36, .bool (decide (q_14 < (shl .i64 1 (IntKind.u64.wrap (IntKind.i64.wrap (Int.tdiv (IntKind.i64.wrap (v_6 * (IntKind.i64.wrap (v_6 - 1)))) 2)))))))]) (by kernel_rfl)
                  refine Vk.dDone (by kernel_rfl) ?_
                  exact hj71 v_78.2 v_75.1 v_78.1 hm b_80 b_79 _ _ (hs.go [1, 2, 5, 6, 7, 8, 11, 13, 14, 32, 33, 34, 35, 36] [7, 8, 3, 2, 4, 5, 6, 0, 1] 9 (by kernel_rfl) (by kernel_rfl) (by kernel_rfl))
              · refine Vk.alloc 13 28 [ci 0, ci 0, ci 0] hs (by kernel_rfl) (by kernel_rfl) (by kernel_rfl) fun b_76 w a hs => ?_
                replace hcl : Own κ w C_72 := by rw [hC_72]; exact (Own.to hs.own [2, 3, 4, 5, 6, 7] 8 (by kernel_rfl) (by kernel_rfl))
                refine ⟨fun _ => hcl, ?_⟩
                refine Vk.dMany2 (i0 := 11) (i1 := 13) (by kernel_rfl) ?_ ?_
                · obtain ⟨v_79, h_78, hm⟩ := bind_t hm
                  refine Vk.call (some 74) 19 #[pp br47x0m_58, vi v_6, .agg (vals [cw x0.b0, cw x0.b1, cw x0.b2])] hs (by kernel_rfl) (by kernel_rfl) (by kernel_rfl) ?_
                  refine (visorlaw22_laid.ok k v_75.2 v_6 [cw x0.b0, cw x0.b1, cw x0.b2] v_79 h_78 κ w (pt b_76 (blk [ci 0, ci 0, ci 0] 28) :: pt b_64 (blk [cp br47x0m_58, cp br47x0x_59, C.slc Ar47x0l_60 v_57.2.2.1.length cr47x0l_61, C.slc Ar47x0v_62 v_57.2.2.2.1.length cr47x0v_63] 45) :: Tvisorref19_M.own κ br47x0x_59 v_57.2.1 :: rowp Ar47x0l_60 cr47x0l_61 28 3 eC v_57.2.2.1 :: rowp Ar47x0v_62 cr47x0v_63 32 1 (eI .u64) v_57.2.2.2.1 :: pt b_2 (blk (Tvisorlaw22_Asked.obj x0 A_x0masks c_x0masks) 38) :: pt b_9 (blk q_13 40) :: S) br47x0m_58 (Own.to hs.own [1, 0, 2, 3, 4, 5, 6, 7] 8 (by kernel_rfl) (by kernel_rfl))).mono ?_
                  rintro _ w ⟨rfl, how⟩
                  refine ⟨_, _, _, rfl, how, fun a hs => ?_⟩
                  replace hcl : Own κ w C_72 := by rw [hC_72]; exact (Own.to hs.own [2, 3, 4, 5, 6, 7] 8 (by kernel_rfl) (by kernel_rfl))
                  refine ⟨fun _ => hcl, ?_⟩
                  refine Vk.dOnly (i := 13) (by kernel_rfl) (Vk.alloc 14 28 [ci 0, ci 0, ci 0] hs (by kernel_rfl) (by kernel_rfl) (by kernel_rfl) fun b_80 w a hs => ?_)
                  replace hcl : Own κ w C_72 := by rw [hC_72]; exact (Own.to hs.own [3, 4, 5, 6, 7, 8] 9 (by kernel_rfl) (by kernel_rfl))
                  refine ⟨fun _ => hcl, ?_⟩
                  obtain ⟨h_81, hm⟩ := ite_t hm
                  refine Vk.dOnly (i := 14) (by kernel_rfl) (Vk.storeA (b := b_76) (ty := 28) (x := (.tmp 13)) (y := (.tmp 68)) (sz := 3) v_75.1 2 hs (by kernel_rfl) (by kernel_rfl) (by kernel_rfl) (by kernel_rfl) (by kernel_rfl) h_81 (by kernel_rfl) rfl (Eq.trans (b := 3) h_81 (Eq.symm rfl)) fun a w hs => ?_)
                  replace hcl : Own κ w C_72 := by rw [hC_72]; exact (Own.to hs.own [3, 4, 5, 6, 7, 8] 9 (by kernel_rfl) (by kernel_rfl))
                  refine ⟨fun _ => hcl, ?_⟩
                  obtain ⟨h_82, hm⟩ := ite_t hm
                  refine Vk.dOnly (i := 15) (by kernel_rfl) (Vk.storeA (b := b_80) (ty := 28) (x := (.tmp 14)) (y := (.tmp 74)) (sz := 3) v_79.1 0 hs (by kernel_rfl) (by kernel_rfl) (by kernel_rfl) (by kernel_rfl) (by kernel_rfl) h_82 (by kernel_rfl) rfl (Eq.trans (b := 3) h_82 (Eq.symm rfl)) fun a w hs => ?_)
                  refine ⟨fun h => absurd h (by decide), ?_⟩
                  replace hs := hs.pick [1, 2, 5, 6, 7, 8, 11, 13, 14, 32, 33, 34, 35, 36] (L' := [(1, .int .u8 x1), (2, pp b_2), (5, vi v_6), (6, vi (IntKind.i64.wrap (Int.tdiv (IntKind.i64.wrap (v_6 * (IntKind.i64.wrap (v_6 - 1)))) 2))), (7, pp b_9), (8, vi q_14), (11, pp b_64), (13, pp b_76), (14, pp b_80), (32, vi q_14), (33, vi (IntKind.i64.wrap (Int.tdiv (IntKind.i64.wrap (v_6 * (IntKind.i64.wrap (v_6 - 1)))) 2))), (34, vw (IntKind.u64.wrap (IntKind.i64.wrap (Int.tdiv (IntKind.i64.wrap (v_6 * (IntKind.i64.wrap (v_6 - 1)))) 2)))), (35, vi (shl .i64 1 (IntKind.u64.wrap (IntKind.i64.wrap (Int.tdiv (IntKind.i64.wrap (v_6 * (IntKind.i64.wrap (v_6 - 1)))) 2))))), (36, .bool (decide (q_14 < (shl .i64 1 (IntKind.u64.wrap (IntKind.i64.wrap (Int.tdiv (IntKind.i64.wrap (v_6 * (IntKind.i64.wrap (v_6 - 1)))) 2)))))))]) (by kernel_rfl)
                  refine Vk.dDone (by kernel_rfl) ?_
                  exact hj71 v_79.2 v_75.1 v_79.1 hm b_76 b_80 _ _ (hs.go [1, 2, 5, 6, 7, 8, 11, 13, 14, 32, 33, 34, 35, 36] [7, 8, 3, 1, 4, 5, 6, 2, 0] 9 (by kernel_rfl) (by kernel_rfl) (by kernel_rfl))
                · refine Vk.alloc 14 28 [ci 0, ci 0, ci 0] hs (by kernel_rfl) (by kernel_rfl) (by kernel_rfl) fun b_77 w a hs => ?_
                  replace hcl : Own κ w C_72 := by rw [hC_72]; exact (Own.to hs.own [3, 4, 5, 6, 7, 8] 9 (by kernel_rfl) (by kernel_rfl))
                  refine ⟨fun _ => hcl, ?_⟩
                  obtain ⟨v_80, h_79, hm⟩ := bind_t hm
                  refine Vk.dOnly (i := 11) (by kernel_rfl) (Vk.call (some 74) 19 #[pp br47x0m_58, vi v_6, .agg (vals [cw x0.b0, cw x0.b1, cw x0.b2])] hs (by kernel_rfl) (by kernel_rfl) (by kernel_rfl) ?_)
                  refine (visorlaw22_laid.ok k v_75.2 v_6 [cw x0.b0, cw x0.b1, cw x0.b2] v_80 h_79 κ w (pt b_77 (blk [ci 0, ci 0, ci 0] 28) :: pt b_76 (blk [ci 0, ci 0, ci 0] 28) :: pt b_64 (blk [cp br47x0m_58, cp br47x0x_59, C.slc Ar47x0l_60 v_57.2.2.1.length cr47x0l_61, C.slc Ar47x0v_62 v_57.2.2.2.1.length cr47x0v_63] 45) :: Tvisorref19_M.own κ br47x0x_59 v_57.2.1 :: rowp Ar47x0l_60 cr47x0l_61 28 3 eC v_57.2.2.1 :: rowp Ar47x0v_62 cr47x0v_63 32 1 (eI .u64) v_57.2.2.2.1 :: pt b_2 (blk (Tvisorlaw22_Asked.obj x0 A_x0masks c_x0masks) 38) :: pt b_9 (blk q_13 40) :: S) br47x0m_58 (Own.to hs.own [2, 0, 1, 3, 4, 5, 6, 7, 8] 9 (by kernel_rfl) (by kernel_rfl))).mono ?_
                  rintro _ w ⟨rfl, how⟩
                  refine ⟨_, _, _, rfl, how, fun a hs => ?_⟩
                  replace hcl : Own κ w C_72 := by rw [hC_72]; exact (Own.to hs.own [3, 4, 5, 6, 7, 8] 9 (by kernel_rfl) (by kernel_rfl))
                  refine ⟨fun _ => hcl, ?_⟩
                  obtain ⟨h_81, hm⟩ := ite_t hm
                  refine Vk.dOnly (i := 14) (by kernel_rfl) (Vk.storeA (b := b_76) (ty := 28) (x := (.tmp 13)) (y := (.tmp 68)) (sz := 3) v_75.1 2 hs (by kernel_rfl) (by kernel_rfl) (by kernel_rfl) (by kernel_rfl) (by kernel_rfl) h_81 (by kernel_rfl) rfl (Eq.trans (b := 3) h_81 (Eq.symm rfl)) fun a w hs => ?_)
                  replace hcl : Own κ w C_72 := by rw [hC_72]; exact (Own.to hs.own [3, 4, 5, 6, 7, 8] 9 (by kernel_rfl) (by kernel_rfl))
                  refine ⟨fun _ => hcl, ?_⟩
                  obtain ⟨h_82, hm⟩ := ite_t hm
                  refine Vk.dOnly (i := 15) (by kernel_rfl) (Vk.storeA (b := b_77) (ty := 28) (x := (.tmp 14)) (y := (.tmp 74)) (sz := 3) v_80.1 1 hs (by kernel_rfl) (by kernel_rfl) (by kernel_rfl) (by kernel_rfl) (by kernel_rfl) h_82 (by kernel_rfl) rfl (Eq.trans (b := 3) h_82 (Eq.symm rfl)) fun a w hs => ?_)
                  refine ⟨fun h => absurd h (by decide), ?_⟩
                  replace hs := hs.pick [1, 2, 5, 6, 7, 8, 11, 13, 14, 32, 33, 34, 35, 36] (L' := [(1, .int .u8 x1), (2, pp b_2), (5, vi v_6), (6, vi (IntKind.i64.wrap (Int.tdiv (IntKind.i64.wrap (v_6 * (IntKind.i64.wrap (v_6 - 1)))) 2))), (7, pp b_9), (8, vi q_14), (11, pp b_64), (13, pp b_76), (14, pp b_77), (32, vi q_14), (33, vi (IntKind.i64.wrap (Int.tdiv (IntKind.i64.wrap (v_6 * (IntKind.i64.wrap (v_6 - 1)))) 2))), (34, vw (IntKind.u64.wrap (IntKind.i64.wrap (Int.tdiv (IntKind.i64.wrap (v_6 * (IntKind.i64.wrap (v_6 - 1)))) 2)))), (35, vi (shl .i64 1 (IntKind.u64.wrap (IntKind.i64.wrap (Int.tdiv (IntKind.i64.wrap (v_6 * (IntKind.i64.wrap (v_6 - 1)))) 2))))), (36, .bool (decide (q_14 < (shl .i64 1 (IntKind.u64.wrap (IntKind.i64.wrap (Int.tdiv (IntKind.i64.wrap (v_6 * (IntKind.i64.wrap (v_6 - 1)))) 2)))))))]) (by kernel_rfl)
                  refine Vk.dDone (by kernel_rfl) ?_
                  exact hj71 v_80.2 v_75.1 v_80.1 hm b_76 b_77 _ _ (hs.go [1, 2, 5, 6, 7, 8, 11, 13, 14, 32, 33, 34, 35, 36] [7, 8, 3, 0, 4, 5, 6, 2, 1] 9 (by kernel_rfl) (by kernel_rfl) (by kernel_rfl))
              · refine Vk.alloc 14 28 [ci 0, ci 0, ci 0] hs (by kernel_rfl) (by kernel_rfl) (by kernel_rfl) fun b_76 w a hs => ?_
                replace hcl : Own κ w C_72 := by rw [hC_72]; exact (Own.to hs.own [2, 3, 4, 5, 6, 7] 8 (by kernel_rfl) (by kernel_rfl))
                refine ⟨fun _ => hcl, ?_⟩
                refine Vk.dMany2 (i0 := 11) (i1 := 12) (by kernel_rfl) ?_ ?_
                · obtain ⟨v_79, h_78, hm⟩ := bind_t hm
                  refine Vk.call (some 74) 19 #[pp br47x0m_58, vi v_6, .agg (vals [cw x0.b0, cw x0.b1, cw x0.b2])] hs (by kernel_rfl) (by kernel_rfl) (by kernel_rfl) ?_
                  refine (visorlaw22_laid.ok k v_75.2 v_6 [cw x0.b0, cw x0.b1, cw x0.b2] v_79 h_78 κ w (pt b_76 (blk [ci 0, ci 0, ci 0] 28) :: pt b_64 (blk [cp br47x0m_58, cp br47x0x_59, C.slc Ar47x0l_60 v_57.2.2.1.length cr47x0l_61, C.slc Ar47x0v_62 v_57.2.2.2.1.length cr47x0v_63] 45) :: Tvisorref19_M.own κ br47x0x_59 v_57.2.1 :: rowp Ar47x0l_60 cr47x0l_61 28 3 eC v_57.2.2.1 :: rowp Ar47x0v_62 cr47x0v_63 32 1 (eI .u64) v_57.2.2.2.1 :: pt b_2 (blk (Tvisorlaw22_Asked.obj x0 A_x0masks c_x0masks) 38) :: pt b_9 (blk q_13 40) :: S) br47x0m_58 (Own.to hs.own [1, 0, 2, 3, 4, 5, 6, 7] 8 (by kernel_rfl) (by kernel_rfl))).mono ?_
                  rintro _ w ⟨rfl, how⟩
                  refine ⟨_, _, _, rfl, how, fun a hs => ?_⟩
                  replace hcl : Own κ w C_72 := by rw [hC_72]; exact (Own.to hs.own [2, 3, 4, 5, 6, 7] 8 (by kernel_rfl) (by kernel_rfl))
                  refine ⟨fun _ => hcl, ?_⟩
                  refine Vk.dOnly (i := 12) (by kernel_rfl) (Vk.alloc 13 28 [ci 0, ci 0, ci 0] hs (by kernel_rfl) (by kernel_rfl) (by kernel_rfl) fun b_80 w a hs => ?_)
                  replace hcl : Own κ w C_72 := by rw [hC_72]; exact (Own.to hs.own [3, 4, 5, 6, 7, 8] 9 (by kernel_rfl) (by kernel_rfl))
                  refine ⟨fun _ => hcl, ?_⟩
                  obtain ⟨h_81, hm⟩ := ite_t hm
                  refine Vk.dOnly (i := 14) (by kernel_rfl) (Vk.storeA (b := b_80) (ty := 28) (x := (.tmp 13)) (y := (.tmp 68)) (sz := 3) v_75.1 0 hs (by kernel_rfl) (by kernel_rfl) (by kernel_rfl) (by kernel_rfl) (by kernel_rfl) h_81 (by kernel_rfl) rfl (Eq.trans (b := 3) h_81 (Eq.symm rfl)) fun a w hs => ?_)
                  replace hcl : Own κ w C_72 := by rw [hC_72]; exact (Own.to hs.own [3, 4, 5, 6, 7, 8] 9 (by kernel_rfl) (by kernel_rfl))
                  refine ⟨fun _ => hcl, ?_⟩
                  obtain ⟨h_82, hm⟩ := ite_t hm
                  refine Vk.dOnly (i := 15) (by kernel_rfl) (Vk.storeA (b := b_76) (ty := 28) (x := (.tmp 14)) (y := (.tmp 74)) (sz := 3) v_79.1 2 hs (by kernel_rfl) (by kernel_rfl) (by kernel_rfl) (by kernel_rfl) (by kernel_rfl) h_82 (by kernel_rfl) rfl (Eq.trans (b := 3) h_82 (Eq.symm rfl)) fun a w hs => ?_)
                  refine ⟨fun h => absurd h (by decide), ?_⟩
                  replace hs := hs.pick [1, 2, 5, 6, 7, 8, 11, 13, 14, 32, 33, 34, 35, 36] (L' := [(1, .int .u8 x1), (2, pp b_2), (5, vi v_6), (6, vi (IntKind.i64.wrap (Int.tdiv (IntKind.i64.wrap (v_6 * (IntKind.i64.wrap (v_6 - 1)))) 2))), (7, pp b_9), (8, vi q_14), (11, pp b_64), (13, pp b_80), (14, pp b_76), (32, vi q_14), (33, vi (IntKind.i64.wrap (Int.tdiv (IntKind.i64.wrap (v_6 * (IntKind.i64.wrap (v_6 - 1)))) 2))), (34, vw (IntKind.u64.wrap (IntKind.i64.wrap (Int.tdiv (IntKind.i64.wrap (v_6 * (IntKind.i64.wrap (v_6 - 1)))) 2)))), (35, vi (shl .i64 1 (IntKind.u64.wrap (IntKind.i64.wrap (Int.tdiv (IntKind.i64.wrap (v_6 * (IntKind.i64.wrap (v_6 - 1)))) 2))))), (36, .bool (decide (q_14 < (shl .i64 1 (IntKind.u64.wrap (IntKind.i64.wrap (Int.tdiv (IntKind.i64.wrap (v_6 * (IntKind.i64.wrap (v_6 - 1)))) 2)))))))]) (by kernel_rfl)
                  refine Vk.dDone (by kernel_rfl) ?_
                  exact hj71 v_79.2 v_75.1 v_79.1 hm b_80 b_76 _ _ (hs.go [1, 2, 5, 6, 7, 8, 11, 13, 14, 32, 33, 34, 35, 36] [7, 8, 3, 1, 4, 5, 6, 0, 2] 9 (by kernel_rfl) (by kernel_rfl) (by kernel_rfl))
                · refine Vk.alloc 13 28 [ci 0, ci 0, ci 0] hs (by kernel_rfl) (by kernel_rfl) (by kernel_rfl) fun b_77 w a hs => ?_
                  replace hcl : Own κ w C_72 := by rw [hC_72]; exact (Own.to hs.own [3, 4, 5, 6, 7, 8] 9 (by kernel_rfl) (by kernel_rfl))
                  refine ⟨fun _ => hcl, ?_⟩
                  obtain ⟨v_80, h_79, hm⟩ := bind_t hm
                  refine Vk.dOnly (i := 11) (by kernel_rfl) (Vk.call (some 74) 19 #[pp br47x0m_58, vi v_6, .agg (vals [cw x0.b0, cw x0.b1, cw x0.b2])] hs (by kernel_rfl) (by kernel_rfl) (by kernel_rfl) ?_)
                  refine (visorlaw22_laid.ok k v_75.2 v_6 [cw x0.b0, cw x0.b1, cw x0.b2] v_80 h_79 κ w (pt b_77 (blk [ci 0, ci 0, ci 0] 28) :: pt b_76 (blk [ci 0, ci 0, ci 0] 28) :: pt b_64 (blk [cp br47x0m_58, cp br47x0x_59, C.slc Ar47x0l_60 v_57.2.2.1.length cr47x0l_61, C.slc Ar47x0v_62 v_57.2.2.2.1.length cr47x0v_63] 45) :: Tvisorref19_M.own κ br47x0x_59 v_57.2.1 :: rowp Ar47x0l_60 cr47x0l_61 28 3 eC v_57.2.2.1 :: rowp Ar47x0v_62 cr47x0v_63 32 1 (eI .u64) v_57.2.2.2.1 :: pt b_2 (blk (Tvisorlaw22_Asked.obj x0 A_x0masks c_x0masks) 38) :: pt b_9 (blk q_13 40) :: S) br47x0m_58 (Own.to hs.own [2, 0, 1, 3, 4, 5, 6, 7, 8] 9 (by kernel_rfl) (by kernel_rfl))).mono ?_
                  rintro _ w ⟨rfl, how⟩
                  refine ⟨_, _, _, rfl, how, fun a hs => ?_⟩
                  replace hcl : Own κ w C_72 := by rw [hC_72]; exact (Own.to hs.own [3, 4, 5, 6, 7, 8] 9 (by kernel_rfl) (by kernel_rfl))
                  refine ⟨fun _ => hcl, ?_⟩
                  obtain ⟨h_81, hm⟩ := ite_t hm
                  refine Vk.dOnly (i := 14) (by kernel_rfl) (Vk.storeA (b := b_77) (ty := 28) (x := (.tmp 13)) (y := (.tmp 68)) (sz := 3) v_75.1 1 hs (by kernel_rfl) (by kernel_rfl) (by kernel_rfl) (by kernel_rfl) (by kernel_rfl) h_81 (by kernel_rfl) rfl (Eq.trans (b := 3) h_81 (Eq.symm rfl)) fun a w hs => ?_)
                  replace hcl : Own κ w C_72 := by rw [hC_72]; exact (Own.to hs.own [3, 4, 5, 6, 7, 8] 9 (by kernel_rfl) (by kernel_rfl))
                  refine ⟨fun _ => hcl, ?_⟩
                  obtain ⟨h_82, hm⟩ := ite_t hm
                  refine Vk.dOnly (i := 15) (by kernel_rfl) (Vk.storeA (b := b_76) (ty := 28) (x := (.tmp 14)) (y := (.tmp 74)) (sz := 3) v_80.1 2 hs (by kernel_rfl) (by kernel_rfl) (by kernel_rfl) (by kernel_rfl) (by kernel_rfl) h_82 (by kernel_rfl) rfl (Eq.trans (b := 3) h_82 (Eq.symm rfl)) fun a w hs => ?_)
                  refine ⟨fun h => absurd h (by decide), ?_⟩
                  replace hs := hs.pick [1, 2, 5, 6, 7, 8, 11, 13, 14, 32, 33, 34, 35, 36] (L' := [(1, .int .u8 x1), (2, pp b_2), (5, vi v_6), (6, vi (IntKind.i64.wrap (Int.tdiv (IntKind.i64.wrap (v_6 * (IntKind.i64.wrap (v_6 - 1)))) 2))), (7, pp b_9), (8, vi q_14), (11, pp b_64), (13, pp b_77), (14, pp b_76), (32, vi q_14), (33, vi (IntKind.i64.wrap (Int.tdiv (IntKind.i64.wrap (v_6 * (IntKind.i64.wrap (v_6 - 1)))) 2))), (34, vw (IntKind.u64.wrap (IntKind.i64.wrap (Int.tdiv (IntKind.i64.wrap (v_6 * (IntKind.i64.wrap (v_6 - 1)))) 2)))), (35, vi (shl .i64 1 (IntKind.u64.wrap (IntKind.i64.wrap (Int.tdiv (IntKind.i64.wrap (v_6 * (IntKind.i64.wrap (v_6 - 1)))) 2))))), (36, .bool (decide (q_14 < (shl .i64 1 (IntKind.u64.wrap (IntKind.i64.wrap (Int.tdiv (IntKind.i64.wrap (v_6 * (IntKind.i64.wrap (v_6 - 1)))) 2)))))))]) (by kernel_rfl)
                  refine Vk.dDone (by kernel_rfl) ?_
                  exact hj71 v_80.2 v_75.1 v_80.1 hm b_77 b_76 _ _ (hs.go [1, 2, 5, 6, 7, 8, 11, 13, 14, 32, 33, 34, 35, 36] [7, 8, 3, 0, 4, 5, 6, 1, 2] 9 (by kernel_rfl) (by kernel_rfl) (by kernel_rfl))
            · refine Vk.alloc 13 28 [ci 0, ci 0, ci 0] hs (by kernel_rfl) (by kernel_rfl) (by kernel_rfl) fun b_73 w a hs => ?_
              replace hcl : Own κ w C_72 := by rw [hC_72]; exact (Own.to hs.own [1, 3, 4, 5, 6, 7] 8 (by kernel_rfl) (by kernel_rfl))
              refine ⟨fun _ => hcl, ?_⟩
              refine Vk.dMany2 (i0 := 5) (i1 := 13) (by kernel_rfl) ?_ ?_
              · obtain ⟨v_76, h_75, hm⟩ := bind_t hm
                refine Vk.call (some 68) 19 #[pp br47x0m_58, vi v_6, .agg (vals [cw x0.a0, cw x0.a1, cw x0.a2])] hs (by kernel_rfl) (by kernel_rfl) (by kernel_rfl) ?_
                refine (visorlaw22_laid.ok k v_57.1 v_6 [cw x0.a0, cw x0.a1, cw x0.a2] v_76 h_75 κ w (pt b_73 (blk [ci 0, ci 0, ci 0] 28) :: pt b_64 (blk [cp br47x0m_58, cp br47x0x_59, C.slc Ar47x0l_60 v_57.2.2.1.length cr47x0l_61, C.slc Ar47x0v_62 v_57.2.2.2.1.length cr47x0v_63] 45) :: Tvisorref19_M.own κ br47x0x_59 v_57.2.1 :: rowp Ar47x0l_60 cr47x0l_61 28 3 eC v_57.2.2.1 :: rowp Ar47x0v_62 cr47x0v_63 32 1 (eI .u64) v_57.2.2.2.1 :: pt b_2 (blk (Tvisorlaw22_Asked.obj x0 A_x0masks c_x0masks) 38) :: pt b_9 (blk q_13 40) :: S) br47x0m_58 (Own.to hs.own [2, 0, 1, 3, 4, 5, 6, 7] 8 (by kernel_rfl) (by kernel_rfl))).mono ?_
                rintro _ w ⟨rfl, how⟩
                refine ⟨_, _, _, rfl, how, fun a hs => ?_⟩
                replace hcl : Own κ w C_72 := by rw [hC_72]; exact (Own.to hs.own [2, 3, 4, 5, 6, 7] 8 (by kernel_rfl) (by kernel_rfl))
                refine ⟨fun _ => hcl, ?_⟩
                refine Vk.dMany2 (i0 := 11) (i1 := 13) (by kernel_rfl) ?_ ?_
                · obtain ⟨v_79, h_78, hm⟩ := bind_t hm
                  refine Vk.call (some 74) 19 #[pp br47x0m_58, vi v_6, .agg (vals [cw x0.b0, cw x0.b1, cw x0.b2])] hs (by kernel_rfl) (by kernel_rfl) (by kernel_rfl) ?_
                  refine (visorlaw22_laid.ok k v_76.2 v_6 [cw x0.b0, cw x0.b1, cw x0.b2] v_79 h_78 κ w (pt b_73 (blk [ci 0, ci 0, ci 0] 28) :: pt b_64 (blk [cp br47x0m_58, cp br47x0x_59, C.slc Ar47x0l_60 v_57.2.2.1.length cr47x0l_61, C.slc Ar47x0v_62 v_57.2.2.2.1.length cr47x0v_63] 45) :: Tvisorref19_M.own κ br47x0x_59 v_57.2.1 :: rowp Ar47x0l_60 cr47x0l_61 28 3 eC v_57.2.2.1 :: rowp Ar47x0v_62 cr47x0v_63 32 1 (eI .u64) v_57.2.2.2.1 :: pt b_2 (blk (Tvisorlaw22_Asked.obj x0 A_x0masks c_x0masks) 38) :: pt b_9 (blk q_13 40) :: S) br47x0m_58 (Own.to hs.own [0, 1, 2, 3, 4, 5, 6, 7] 8 (by kernel_rfl) (by kernel_rfl))).mono ?_
                  rintro _ w ⟨rfl, how⟩
                  refine ⟨_, _, _, rfl, how, fun a hs => ?_⟩
                  replace hcl : Own κ w C_72 := by rw [hC_72]; exact (Own.to hs.own [2, 3, 4, 5, 6, 7] 8 (by kernel_rfl) (by kernel_rfl))
                  refine ⟨fun _ => hcl, ?_⟩
                  refine Vk.dOnly (i := 13) (by kernel_rfl) (Vk.alloc 14 28 [ci 0, ci 0, ci 0] hs (by kernel_rfl) (by kernel_rfl) (by kernel_rfl) fun b_80 w a hs => ?_)
                  replace hcl : Own κ w C_72 := by rw [hC_72]; exact (Own.to hs.own [3, 4, 5, 6, 7, 8] 9 (by kernel_rfl) (by kernel_rfl))
                  refine ⟨fun _ => hcl, ?_⟩
                  obtain ⟨h_81, hm⟩ := ite_t hm
                  refine Vk.dOnly (i := 14) (by kernel_rfl) (Vk.storeA (b := b_73) (ty := 28) (x := (.tmp 13)) (y := (.tmp 68)) (sz := 3) v_76.1 2 hs (by kernel_rfl) (by kernel_rfl) (by kernel_rfl) (by kernel_rfl) (by kernel_rfl) h_81 (by kernel_rfl) rfl (Eq.trans (b := 3) h_81 (Eq.symm rfl)) fun a w hs => ?_)
                  replace hcl : Own κ w C_72 := by rw [hC_72]; exact (Own.to hs.own [3, 4, 5, 6, 7, 8] 9 (by kernel_rfl) (by kernel_rfl))
                  refine ⟨fun _ => hcl, ?_⟩
                  obtain ⟨h_82, hm⟩ := ite_t hm
                  refine Vk.dOnly (i := 15) (by kernel_rfl) (Vk.storeA (b := b_80) (ty := 28) (x := (.tmp 14)) (y := (.tmp 74)) (sz := 3) v_79.1 0 hs (by kernel_rfl) (by kernel_rfl) (by kernel_rfl) (by kernel_rfl) (by kernel_rfl) h_82 (by kernel_rfl) rfl (Eq.trans (b := 3) h_82 (Eq.symm rfl)) fun a w hs => ?_)
                  refine ⟨fun h => absurd h (by decide), ?_⟩
                  replace hs := hs.pick [1, 2, 5, 6, 7, 8, 11, 13, 14, 32, 33, 34, 35, 36] (L' := [(1, .int .u8 x1), (2, pp b_2), (5, vi v_6), (6, vi (IntKind.i64.wrap (Int.tdiv (IntKind.i64.wrap (v_6 * (IntKind.i64.wrap (v_6 - 1)))) 2))), (7, pp b_9), (8, vi q_14), (11, pp b_64), (13, pp b_73), (14, pp b_80), (32, vi q_14), (33, vi (IntKind.i64.wrap (Int.tdiv (IntKind.i64.wrap (v_6 * (IntKind.i64.wrap (v_6 - 1)))) 2))), (34, vw (IntKind.u64.wrap (IntKind.i64.wrap (Int.tdiv (IntKind.i64.wrap (v_6 * (IntKind.i64.wrap (v_6 - 1)))) 2)))), (35, vi (shl .i64 1 (IntKind.u64.wrap (IntKind.i64.wrap (Int.tdiv (IntKind.i64.wrap (v_6 * (IntKind.i64.wrap (v_6 - 1)))) 2))))), (36, .bool (decide (q_14 < (shl .i64 1 (IntKind.u64.wrap (IntKind.i64.wrap (Int.tdiv (IntKind.i64.wrap (v_6 * (IntKind.i64.wrap (v_6 - 1)))) 2)))))))]) (by kernel_rfl)
                  refine Vk.dDone (by kernel_rfl) ?_
                  exact hj71 v_79.2 v_76.1 v_79.1 hm b_73 b_80 _ _ (hs.go [1, 2, 5, 6, 7, 8, 11, 13, 14, 32, 33, 34, 35, 36] [7, 8, 3, 1, 4, 5, 6, 2, 0] 9 (by kernel_rfl) (by kernel_rfl) (by kernel_rfl))
                · refine Vk.alloc 14 28 [ci 0, ci 0, ci 0] hs (by kernel_rfl) (by kernel_rfl) (by kernel_rfl) fun b_77 w a hs => ?_
                  replace hcl : Own κ w C_72 := by rw [hC_72]; exact (Own.to hs.own [3, 4, 5, 6, 7, 8] 9 (by kernel_rfl) (by kernel_rfl))
                  refine ⟨fun _ => hcl, ?_⟩
                  obtain ⟨v_80, h_79, hm⟩ := bind_t hm
                  refine Vk.dOnly (i := 11) (by kernel_rfl) (Vk.call (some 74) 19 #[pp br47x0m_58, vi v_6, .agg (vals [cw x0.b0, cw x0.b1, cw x0.b2])] hs (by kernel_rfl) (by kernel_rfl) (by kernel_rfl) ?_)
                  refine (visorlaw22_laid.ok k v_76.2 v_6 [cw x0.b0, cw x0.b1, cw x0.b2] v_80 h_79 κ w (pt b_77 (blk [ci 0, ci 0, ci 0] 28) :: pt b_73 (blk [ci 0, ci 0, ci 0] 28) :: pt b_64 (blk [cp br47x0m_58, cp br47x0x_59, C.slc Ar47x0l_60 v_57.2.2.1.length cr47x0l_61, C.slc Ar47x0v_62 v_57.2.2.2.1.length cr47x0v_63] 45) :: Tvisorref19_M.own κ br47x0x_59 v_57.2.1 :: rowp Ar47x0l_60 cr47x0l_61 28 3 eC v_57.2.2.1 :: rowp Ar47x0v_62 cr47x0v_63 32 1 (eI .u64) v_57.2.2.2.1 :: pt b_2 (blk (Tvisorlaw22_Asked.obj x0 A_x0masks c_x0masks) 38) :: pt b_9 (blk q_13 40) :: S) br47x0m_58 (Own.to hs.own [1, 0, 2, 3, 4, 5, 6, 7, 8] 9 (by kernel_rfl) (by kernel_rfl))).mono ?_
                  rintro _ w ⟨rfl, how⟩
                  refine ⟨_, _, _, rfl, how, fun a hs => ?_⟩
                  replace hcl : Own κ w C_72 := by rw [hC_72]; exact (Own.to hs.own [3, 4, 5, 6, 7, 8] 9 (by kernel_rfl) (by kernel_rfl))
                  refine ⟨fun _ => hcl, ?_⟩
                  obtain ⟨h_81, hm⟩ := ite_t hm
                  refine Vk.dOnly (i := 14) (by kernel_rfl) (Vk.storeA (b := b_73) (ty := 28) (x := (.tmp 13)) (y := (.tmp 68)) (sz := 3) v_76.1 2 hs (by kernel_rfl) (by kernel_rfl) (by kernel_rfl) (by kernel_rfl) (by kernel_rfl) h_81 (by kernel_rfl) rfl (Eq.trans (b := 3) h_81 (Eq.symm rfl)) fun a w hs => ?_)
                  replace hcl : Own κ w C_72 := by rw [hC_72]; exact (Own.to hs.own [3, 4, 5, 6, 7, 8] 9 (by kernel_rfl) (by kernel_rfl))
                  refine ⟨fun _ => hcl, ?_⟩
                  obtain ⟨h_82, hm⟩ := ite_t hm
                  refine Vk.dOnly (i := 15) (by kernel_rfl) (Vk.storeA (b := b_77) (ty := 28) (x := (.tmp 14)) (y := (.tmp 74)) (sz := 3) v_80.1 1 hs (by kernel_rfl) (by kernel_rfl) (by kernel_rfl) (by kernel_rfl) (by kernel_rfl) h_82 (by kernel_rfl) rfl (Eq.trans (b := 3) h_82 (Eq.symm rfl)) fun a w hs => ?_)
                  refine ⟨fun h => absurd h (by decide), ?_⟩
                  replace hs := hs.pick [1, 2, 5, 6, 7, 8, 11, 13, 14, 32, 33, 34, 35, 36] (L' := [(1, .int .u8 x1), (2, pp b_2), (5, vi v_6), (6, vi (IntKind.i64.wrap (Int.tdiv (IntKind.i64.wrap (v_6 * (IntKind.i64.wrap (v_6 - 1)))) 2))), (7, pp b_9), (8, vi q_14), (11, pp b_64), (13, pp b_73), (14, pp b_77), (32, vi q_14), (33, vi (IntKind.i64.wrap (Int.tdiv (IntKind.i64.wrap (v_6 * (IntKind.i64.wrap (v_6 - 1)))) 2))), (34, vw (IntKind.u64.wrap (IntKind.i64.wrap (Int.tdiv (IntKind.i64.wrap (v_6 * (IntKind.i64.wrap (v_6 - 1)))) 2)))), (35, vi (shl .i64 1 (IntKind.u64.wrap (IntKind.i64.wrap (Int.tdiv (IntKind.i64.wrap (v_6 * (IntKind.i64.wrap (v_6 - 1)))) 2))))), (36, .bool (decide (q_14 < (shl .i64 1 (IntKind.u64.wrap (IntKind.i64.wrap (Int.tdiv (IntKind.i64.wrap (v_6 * (IntKind.i64.wrap (v_6 - 1)))) 2)))))))]) (by kernel_rfl)
                  refine Vk.dDone (by kernel_rfl) ?_
                  exact hj71 v_80.2 v_76.1 v_80.1 hm b_73 b_77 _ _ (hs.go [1, 2, 5, 6, 7, 8, 11, 13, 14, 32, 33, 34, 35, 36] [7, 8, 3, 0, 4, 5, 6, 2, 1] 9 (by kernel_rfl) (by kernel_rfl) (by kernel_rfl))
              · refine Vk.alloc 14 28 [ci 0, ci 0, ci 0] hs (by kernel_rfl) (by kernel_rfl) (by kernel_rfl) fun b_74 w a hs => ?_
                replace hcl : Own κ w C_72 := by rw [hC_72]; exact (Own.to hs.own [2, 4, 5, 6, 7, 8] 9 (by kernel_rfl) (by kernel_rfl))
                refine ⟨fun _ => hcl, ?_⟩
                obtain ⟨v_77, h_76, hm⟩ := bind_t hm
                refine Vk.dOnly (i := 5) (by kernel_rfl) (Vk.call (some 68) 19 #[pp br47x0m_58, vi v_6, .agg (vals [cw x0.a0, cw x0.a1, cw x0.a2])] hs (by kernel_rfl) (by kernel_rfl) (by kernel_rfl) ?_)
                refine (visorlaw22_laid.ok k v_57.1 v_6 [cw x0.a0, cw x0.a1, cw x0.a2] v_77 h_76 κ w (pt b_74 (blk [ci 0, ci 0, ci 0] 28) :: pt b_73 (blk [ci 0, ci 0, ci 0] 28) :: pt b_64 (blk [cp br47x0m_58, cp br47x0x_59, C.slc Ar47x0l_60 v_57.2.2.1.length cr47x0l_61, C.slc Ar47x0v_62 v_57.2.2.2.1.length cr47x0v_63] 45) :: Tvisorref19_M.own κ br47x0x_59 v_57.2.1 :: rowp Ar47x0l_60 cr47x0l_61 28 3 eC v_57.2.2.1 :: rowp Ar47x0v_62 cr47x0v_63 32 1 (eI .u64) v_57.2.2.2.1 :: pt b_2 (blk (Tvisorlaw22_Asked.obj x0 A_x0masks c_x0masks) 38) :: pt b_9 (blk q_13 40) :: S) br47x0m_58 (Own.to hs.own [3, 0, 1, 2, 4, 5, 6, 7, 8] 9 (by kernel_rfl) (by kernel_rfl))).mono ?_
                rintro _ w ⟨rfl, how⟩
                refine ⟨_, _, _, rfl, how, fun a hs => ?_⟩
                replace hcl : Own κ w C_72 := by rw [hC_72]; exact (Own.to hs.own [3, 4, 5, 6, 7, 8] 9 (by kernel_rfl) (by kernel_rfl))
                refine ⟨fun _ => hcl, ?_⟩
                obtain ⟨v_80, h_79, hm⟩ := bind_t hm
                refine Vk.dOnly (i := 11) (by kernel_rfl) (Vk.call (some 74) 19 #[pp br47x0m_58, vi v_6, .agg (vals [cw x0.b0, cw x0.b1, cw x0.b2])] hs (by kernel_rfl) (by kernel_rfl) (by kernel_rfl) ?_)
                refine (visorlaw22_laid.ok k v_77.2 v_6 [cw x0.b0, cw x0.b1, cw x0.b2] v_80 h_79 κ w (pt b_74 (blk [ci 0, ci 0, ci 0] 28) :: pt b_73 (blk [ci 0, ci 0, ci 0] 28) :: pt b_64 (blk [cp br47x0m_58, cp br47x0x_59, C.slc Ar47x0l_60 v_57.2.2.1.length cr47x0l_61, C.slc Ar47x0v_62 v_57.2.2.2.1.length cr47x0v_63] 45) :: Tvisorref19_M.own κ br47x0x_59 v_57.2.1 :: rowp Ar47x0l_60 cr47x0l_61 28 3 eC v_57.2.2.1 :: rowp Ar47x0v_62 cr47x0v_63 32 1 (eI .u64) v_57.2.2.2.1 :: pt b_2 (blk (Tvisorlaw22_Asked.obj x0 A_x0masks c_x0masks) 38) :: pt b_9 (blk q_13 40) :: S) br47x0m_58 (Own.to hs.own [0, 1, 2, 3, 4, 5, 6, 7, 8] 9 (by kernel_rfl) (by kernel_rfl))).mono ?_
                rintro _ w ⟨rfl, how⟩
                refine ⟨_, _, _, rfl, how, fun a hs => ?_⟩
                replace hcl : Own κ w C_72 := by rw [hC_72]; exact (Own.to hs.own [3, 4, 5, 6, 7, 8] 9 (by kernel_rfl) (by kernel_rfl))
                refine ⟨fun _ => hcl, ?_⟩
                obtain ⟨h_81, hm⟩ := ite_t hm
                refine Vk.dOnly (i := 14) (by kernel_rfl) (Vk.storeA (b := b_73) (ty := 28) (x := (.tmp 13)) (y := (.tmp 68)) (sz := 3) v_77.1 2 hs (by kernel_rfl) (by kernel_rfl) (by kernel_rfl) (by kernel_rfl) (by kernel_rfl) h_81 (by kernel_rfl) rfl (Eq.trans (b := 3) h_81 (Eq.symm rfl)) fun a w hs => ?_)
                replace hcl : Own κ w C_72 := by rw [hC_72]; exact (Own.to hs.own [3, 4, 5, 6, 7, 8] 9 (by kernel_rfl) (by kernel_rfl))
                refine ⟨fun _ => hcl, ?_⟩
                obtain ⟨h_82, hm⟩ := ite_t hm
                refine Vk.dOnly (i := 15) (by kernel_rfl) (Vk.storeA (b := b_74) (ty := 28) (x := (.tmp 14)) (y := (.tmp 74)) (sz := 3) v_80.1 1 hs (by kernel_rfl) (by kernel_rfl) (by kernel_rfl) (by kernel_rfl) (by kernel_rfl) h_82 (by kernel_rfl) rfl (Eq.trans (b := 3) h_82 (Eq.symm rfl)) fun a w hs => ?_)
                refine ⟨fun h => absurd h (by decide), ?_⟩
                replace hs := hs.pick [1, 2, 5, 6, 7, 8, 11, 13, 14, 32, 33, 34, 35, 36] (L' := [(1, .int .u8 x1), (2, pp b_2), (5, vi v_6), (6, vi (IntKind.i64.wrap (Int.tdiv (IntKind.i64.wrap (v_6 * (IntKind.i64.wrap (v_6 - 1)))) 2))), (7, pp b_9), (8, vi q_14), (11, pp b_64), (13, pp b_73), (14, pp b_74), (32, vi q_14), (33, vi (IntKind.i64.wrap (Int.tdiv (IntKind.i64.wrap (v_6 * (IntKind.i64.wrap (v_6 - 1)))) 2))), (34, vw (IntKind.u64.wrap (IntKind.i64.wrap (Int.tdiv (IntKind.i64.wrap (v_6 * (IntKind.i64.wrap (v_6 - 1)))) 2)))), (35, vi (shl .i64 1 (IntKind.u64.wrap (IntKind.i64.wrap (Int.tdiv (IntKind.i64.wrap (v_6 * (IntKind.i64.wrap (v_6 - 1)))) 2))))), (36, .bool (decide (q_14 < (shl .i64 1 (IntKind.u64.wrap (IntKind.i64.wrap (Int.tdiv (IntKind.i64.wrap (v_6 * (IntKind.i64.wrap (v_6 - 1)))) 2)))))))]) (by kernel_rfl)
                refine Vk.dDone (by kernel_rfl) ?_
                exact hj71 v_80.2 v_77.1 v_80.1 hm b_73 b_74 _ _ (hs.go [1, 2, 5, 6, 7, 8, 11, 13, 14, 32, 33, 34, 35, 36] [7, 8, 3, 0, 4, 5, 6, 2, 1] 9 (by kernel_rfl) (by kernel_rfl) (by kernel_rfl))
            · refine Vk.alloc 14 28 [ci 0, ci 0, ci 0] hs (by kernel_rfl) (by kernel_rfl) (by kernel_rfl) fun b_73 w a hs => ?_
              replace hcl : Own κ w C_72 := by rw [hC_72]; exact (Own.to hs.own [1, 3, 4, 5, 6, 7] 8 (by kernel_rfl) (by kernel_rfl))
              refine ⟨fun _ => hcl, ?_⟩
              refine Vk.dMany2 (i0 := 5) (i1 := 12) (by kernel_rfl) ?_ ?_
              · obtain ⟨v_76, h_75, hm⟩ := bind_t hm
                refine Vk.call (some 68) 19 #[pp br47x0m_58, vi v_6, .agg (vals [cw x0.a0, cw x0.a1, cw x0.a2])] hs (by kernel_rfl) (by kernel_rfl) (by kernel_rfl) ?_
                refine (visorlaw22_laid.ok k v_57.1 v_6 [cw x0.a0, cw x0.a1, cw x0.a2] v_76 h_75 κ w (pt b_73 (blk [ci 0, ci 0, ci 0] 28) :: pt b_64 (blk [cp br47x0m_58, cp br47x0x_59, C.slc Ar47x0l_60 v_57.2.2.1.length cr47x0l_61, C.slc Ar47x0v_62 v_57.2.2.2.1.length cr47x0v_63] 45) :: Tvisorref19_M.own κ br47x0x_59 v_57.2.1 :: rowp Ar47x0l_60 cr47x0l_61 28 3 eC v_57.2.2.1 :: rowp Ar47x0v_62 cr47x0v_63 32 1 (eI .u64) v_57.2.2.2.1 :: pt b_2 (blk (Tvisorlaw22_Asked.obj x0 A_x0masks c_x0masks) 38) :: pt b_9 (blk q_13 40) :: S) br47x0m_58 (Own.to hs.own [2, 0, 1, 3, 4, 5, 6, 7] 8 (by kernel_rfl) (by kernel_rfl))).mono ?_
                rintro _ w ⟨rfl, how⟩
                refine ⟨_, _, _, rfl, how, fun a hs => ?_⟩
                replace hcl : Own κ w C_72 := by rw [hC_72]; exact (Own.to hs.own [2, 3, 4, 5, 6, 7] 8 (by kernel_rfl) (by kernel_rfl))
                refine ⟨fun _ => hcl, ?_⟩
                refine Vk.dMany2 (i0 := 11) (i1 := 12) (by kernel_rfl) ?_ ?_
                · obtain ⟨v_79, h_78, hm⟩ := bind_t hm
                  refine Vk.call (some 74) 19 #[pp br47x0m_58, vi v_6, .agg (vals [cw x0.b0, cw x0.b1, cw x0.b2])] hs (by kernel_rfl) (by kernel_rfl) (by kernel_rfl) ?_
                  refine (visorlaw22_laid.ok k v_76.2 v_6 [cw x0.b0, cw x0.b1, cw x0.b2] v_79 h_78 κ w (pt b_73 (blk [ci 0, ci 0, ci 0] 28) :: pt b_64 (blk [cp br47x0m_58, cp br47x0x_59, C.slc Ar47x0l_60 v_57.2.2.1.length cr47x0l_61, C.slc Ar47x0v_62 v_57.2.2.2.1.length cr47x0v_63] 45) :: Tvisorref19_M.own κ br47x0x_59 v_57.2.1 :: rowp Ar47x0l_60 cr47x0l_61 28 3 eC v_57.2.2.1 :: rowp Ar47x0v_62 cr47x0v_63 32 1 (eI .u64) v_57.2.2.2.1 :: pt b_2 (blk (Tvisorlaw22_Asked.obj x0 A_x0masks c_x0masks) 38) :: pt b_9 (blk q_13 40) :: S) br47x0m_58 (Own.to hs.own [0, 1, 2, 3, 4, 5, 6, 7] 8 (by kernel_rfl) (by kernel_rfl))).mono ?_
                  rintro _ w ⟨rfl, how⟩
                  refine ⟨_, _, _, rfl, how, fun a hs => ?_⟩
                  replace hcl : Own κ w C_72 := by rw [hC_72]; exact (Own.to hs.own [2, 3, 4, 5, 6, 7] 8 (by kernel_rfl) (by kernel_rfl))
                  refine ⟨fun _ => hcl, ?_⟩
                  refine Vk.dOnly (i := 12) (by kernel_rfl) (Vk.alloc 13 28 [ci 0, ci 0, ci 0] hs (by kernel_rfl) (by kernel_rfl) (by kernel_rfl) fun b_80 w a hs => ?_)
                  replace hcl : Own κ w C_72 := by rw [hC_72]; exact (Own.to hs.own [3, 4, 5, 6, 7, 8] 9 (by kernel_rfl) (by kernel_rfl))
                  refine ⟨fun _ => hcl, ?_⟩
                  obtain ⟨h_81, hm⟩ := ite_t hm
                  refine Vk.dOnly (i := 14) (by kernel_rfl) (Vk.storeA (b := b_80) (ty := 28) (x := (.tmp 13)) (y := (.tmp 68)) (sz := 3) v_76.1 0 hs (by kernel_rfl) (by kernel_rfl) (by kernel_rfl) (by kernel_rfl) (by kernel_rfl) h_81 (by kernel_rfl) rfl (Eq.trans (b := 3) h_81 (Eq.symm rfl)) fun a w hs => ?_)
                  replace hcl : Own κ w C_72 := by rw [hC_72]; exact (Own.to hs.own [3, 4, 5, 6, 7, 8] 9 (by kernel_rfl) (by kernel_rfl))
                  refine ⟨fun _ => hcl, ?_⟩
                  obtain ⟨h_82, hm⟩ := ite_t hm
                  refine Vk.dOnly (i := 15) (by kernel_rfl) (Vk.storeA (b := b_73) (ty := 28) (x := (.tmp 14)) (y := (.tmp 74)) (sz := 3) v_79.1 2 hs (by kernel_rfl) (by kernel_rfl) (by kernel_rfl) (by kernel_rfl) (by kernel_rfl) h_82 (by kernel_rfl) rfl (Eq.trans (b := 3) h_82 (Eq.symm rfl)) fun a w hs => ?_)
                  refine ⟨fun h => absurd h (by decide), ?_⟩
                  replace hs := hs.pick [1, 2, 5, 6, 7, 8, 11, 13, 14, 32, 33, 34, 35, 36] (L' := [(1, .int .u8 x1), (2, pp b_2), (5, vi v_6), (6, vi (IntKind.i64.wrap (Int.tdiv (IntKind.i64.wrap (v_6 * (IntKind.i64.wrap (v_6 - 1)))) 2))), (7, pp b_9), (8, vi q_14), (11, pp b_64), (13, pp b_80), (14, pp b_73), (32, vi q_14), (33, vi (IntKind.i64.wrap (Int.tdiv (IntKind.i64.wrap (v_6 * (IntKind.i64.wrap (v_6 - 1)))) 2))), (34, vw (IntKind.u64.wrap (IntKind.i64.wrap (Int.tdiv (IntKind.i64.wrap (v_6 * (IntKind.i64.wrap (v_6 - 1)))) 2)))), (35, vi (shl .i64 1 (IntKind.u64.wrap (IntKind.i64.wrap (Int.tdiv (IntKind.i64.wrap (v_6 * (IntKind.i64.wrap (v_6 - 1)))) 2))))), (36, .bool (decide (q_14 < (shl .i64 1 (IntKind.u64.wrap (IntKind.i64.wrap (Int.tdiv (IntKind.i64.wrap (v_6 * (IntKind.i64.wrap (v_6 - 1)))) 2)))))))]) (by kernel_rfl)
                  refine Vk.dDone (by kernel_rfl) ?_
                  exact hj71 v_79.2 v_76.1 v_79.1 hm b_80 b_73 _ _ (hs.go [1, 2, 5, 6, 7, 8, 11, 13, 14, 32, 33, 34, 35, 36] [7, 8, 3, 1, 4, 5, 6, 0, 2] 9 (by kernel_rfl) (by kernel_rfl) (by kernel_rfl))
                · refine Vk.alloc 13 28 [ci 0, ci 0, ci 0] hs (by kernel_rfl) (by kernel_rfl) (by kernel_rfl) fun b_77 w a hs => ?_
                  replace hcl : Own κ w C_72 := by rw [hC_72]; exact (Own.to hs.own [3, 4, 5, 6, 7, 8] 9 (by kernel_rfl) (by kernel_rfl))
                  refine ⟨fun _ => hcl, ?_⟩
                  obtain ⟨v_80, h_79, hm⟩ := bind_t hm
                  refine Vk.dOnly (i := 11) (by kernel_rfl) (Vk.call (some 74) 19 #[pp br47x0m_58, vi v_6, .agg (vals [cw x0.b0, cw x0.b1, cw x0.b2])] hs (by kernel_rfl) (by kernel_rfl) (by kernel_rfl) ?_)
                  refine (visorlaw22_laid.ok k v_76.2 v_6 [cw x0.b0, cw x0.b1, cw x0.b2] v_80 h_79 κ w (pt b_77 (blk [ci 0, ci 0, ci 0] 28) :: pt b_73 (blk [ci 0, ci 0, ci 0] 28) :: pt b_64 (blk [cp br47x0m_58, cp br47x0x_59, C.slc Ar47x0l_60 v_57.2.2.1.length cr47x0l_61, C.slc Ar47x0v_62 v_57.2.2.2.1.length cr47x0v_63] 45) :: Tvisorref19_M.own κ br47x0x_59 v_57.2.1 :: rowp Ar47x0l_60 cr47x0l_61 28 3 eC v_57.2.2.1 :: rowp Ar47x0v_62 cr47x0v_63 32 1 (eI .u64) v_57.2.2.2.1 :: pt b_2 (blk (Tvisorlaw22_Asked.obj x0 A_x0masks c_x0masks) 38) :: pt b_9 (blk q_13 40) :: S) br47x0m_58 (Own.to hs.own [1, 0, 2, 3, 4, 5, 6, 7, 8] 9 (by kernel_rfl) (by kernel_rfl))).mono ?_
                  rintro _ w ⟨rfl, how⟩
                  refine ⟨_, _, _, rfl, how, fun a hs => ?_⟩
                  replace hcl : Own κ w C_72 := by rw [hC_72]; exact (Own.to hs.own [3, 4, 5, 6, 7, 8] 9 (by kernel_rfl) (by kernel_rfl))
                  refine ⟨fun _ => hcl, ?_⟩
                  obtain ⟨h_81, hm⟩ := ite_t hm
                  refine Vk.dOnly (i := 14) (by kernel_rfl) (Vk.storeA (b := b_77) (ty := 28) (x := (.tmp 13)) (y := (.tmp 68)) (sz := 3) v_76.1 1 hs (by kernel_rfl) (by kernel_rfl) (by kernel_rfl) (by kernel_rfl) (by kernel_rfl) h_81 (by kernel_rfl) rfl (Eq.trans (b := 3) h_81 (Eq.symm rfl)) fun a w hs => ?_)
                  replace hcl : Own κ w C_72 := by rw [hC_72]; exact (Own.to hs.own [3, 4, 5, 6, 7, 8] 9 (by kernel_rfl) (by kernel_rfl))
                  refine ⟨fun _ => hcl, ?_⟩
                  obtain ⟨h_82, hm⟩ := ite_t hm
                  refine Vk.dOnly (i := 15) (by kernel_rfl) (Vk.storeA (b := b_73) (ty := 28) (x := (.tmp 14)) (y := (.tmp 74)) (sz := 3) v_80.1 2 hs (by kernel_rfl) (by kernel_rfl) (by kernel_rfl) (by kernel_rfl) (by kernel_rfl) h_82 (by kernel_rfl) rfl (Eq.trans (b := 3) h_82 (Eq.symm rfl)) fun a w hs => ?_)
                  refine ⟨fun h => absurd h (by decide), ?_⟩
                  replace hs := hs.pick [1, 2, 5, 6, 7, 8, 11, 13, 14, 32, 33, 34, 35, 36] (L' := [(1, .int .u8 x1), (2, pp b_2), (5, vi v_6), (6, vi (IntKind.i64.wrap (Int.tdiv (IntKind.i64.wrap (v_6 * (IntKind.i64.wrap (v_6 - 1)))) 2))), (7, pp b_9), (8, vi q_14), (11, pp b_64), (13, pp b_77), (14, pp b_73), (32, vi q_14), (33, vi (IntKind.i64.wrap (Int.tdiv (IntKind.i64.wrap (v_6 * (IntKind.i64.wrap (v_6 - 1)))) 2))), (34, vw (IntKind.u64.wrap (IntKind.i64.wrap (Int.tdiv (IntKind.i64.wrap (v_6 * (IntKind.i64.wrap (v_6 - 1)))) 2)))), (35, vi (shl .i64 1 (IntKind.u64.wrap (IntKind.i64.wrap (Int.tdiv (IntKind.i64.wrap (v_6 * (IntKind.i64.wrap (v_6 - 1)))) 2))))), (36, .bool (decide (q_14 < (shl .i64 1 (IntKind.u64.wrap (IntKind.i64.wrap (Int.tdiv (IntKind.i64.wrap (v_6 * (IntKind.i64.wrap (v_6 - 1)))) 2)))))))]) (by kernel_rfl)
                  refine Vk.dDone (by kernel_rfl) ?_
                  exact hj71 v_80.2 v_76.1 v_80.1 hm b_77 b_73 _ _ (hs.go [1, 2, 5, 6, 7, 8, 11, 13, 14, 32, 33, 34, 35, 36] [7, 8, 3, 0, 4, 5, 6, 1, 2] 9 (by kernel_rfl) (by kernel_rfl) (by kernel_rfl))
              · refine Vk.alloc 13 28 [ci 0, ci 0, ci 0] hs (by kernel_rfl) (by kernel_rfl) (by kernel_rfl) fun b_74 w a hs => ?_
                replace hcl : Own κ w C_72 := by rw [hC_72]; exact (Own.to hs.own [2, 4, 5, 6, 7, 8] 9 (by kernel_rfl) (by kernel_rfl))
                refine ⟨fun _ => hcl, ?_⟩
                obtain ⟨v_77, h_76, hm⟩ := bind_t hm
                refine Vk.dOnly (i := 5) (by kernel_rfl) (Vk.call (some 68) 19 #[pp br47x0m_58, vi v_6, .agg (vals [cw x0.a0, cw x0.a1, cw x0.a2])] hs (by kernel_rfl) (by kernel_rfl) (by kernel_rfl) ?_)
                refine (visorlaw22_laid.ok k v_57.1 v_6 [cw x0.a0, cw x0.a1, cw x0.a2] v_77 h_76 κ w (pt b_74 (blk [ci 0, ci 0, ci 0] 28) :: pt b_73 (blk [ci 0, ci 0, ci 0] 28) :: pt b_64 (blk [cp br47x0m_58, cp br47x0x_59, C.slc Ar47x0l_60 v_57.2.2.1.length cr47x0l_61, C.slc Ar47x0v_62 v_57.2.2.2.1.length cr47x0v_63] 45) :: Tvisorref19_M.own κ br47x0x_59 v_57.2.1 :: rowp Ar47x0l_60 cr47x0l_61 28 3 eC v_57.2.2.1 :: rowp Ar47x0v_62 cr47x0v_63 32 1 (eI .u64) v_57.2.2.2.1 :: pt b_2 (blk (Tvisorlaw22_Asked.obj x0 A_x0masks c_x0masks) 38) :: pt b_9 (blk q_13 40) :: S) br47x0m_58 (Own.to hs.own [3, 0, 1, 2, 4, 5, 6, 7, 8] 9 (by kernel_rfl) (by kernel_rfl))).mono ?_
                rintro _ w ⟨rfl, how⟩
                refine ⟨_, _, _, rfl, how, fun a hs => ?_⟩
                replace hcl : Own κ w C_72 := by rw [hC_72]; exact (Own.to hs.own [3, 4, 5, 6, 7, 8] 9 (by kernel_rfl) (by kernel_rfl))
                refine ⟨fun _ => hcl, ?_⟩
                obtain ⟨v_80, h_79, hm⟩ := bind_t hm
                refine Vk.dOnly (i := 11) (by kernel_rfl) (Vk.call (some 74) 19 #[pp br47x0m_58, vi v_6, .agg (vals [cw x0.b0, cw x0.b1, cw x0.b2])] hs (by kernel_rfl) (by kernel_rfl) (by kernel_rfl) ?_)
                refine (visorlaw22_laid.ok k v_77.2 v_6 [cw x0.b0, cw x0.b1, cw x0.b2] v_80 h_79 κ w (pt b_74 (blk [ci 0, ci 0, ci 0] 28) :: pt b_73 (blk [ci 0, ci 0, ci 0] 28) :: pt b_64 (blk [cp br47x0m_58, cp br47x0x_59, C.slc Ar47x0l_60 v_57.2.2.1.length cr47x0l_61, C.slc Ar47x0v_62 v_57.2.2.2.1.length cr47x0v_63] 45) :: Tvisorref19_M.own κ br47x0x_59 v_57.2.1 :: rowp Ar47x0l_60 cr47x0l_61 28 3 eC v_57.2.2.1 :: rowp Ar47x0v_62 cr47x0v_63 32 1 (eI .u64) v_57.2.2.2.1 :: pt b_2 (blk (Tvisorlaw22_Asked.obj x0 A_x0masks c_x0masks) 38) :: pt b_9 (blk q_13 40) :: S) br47x0m_58 (Own.to hs.own [0, 1, 2, 3, 4, 5, 6, 7, 8] 9 (by kernel_rfl) (by kernel_rfl))).mono ?_
                rintro _ w ⟨rfl, how⟩
                refine ⟨_, _, _, rfl, how, fun a hs => ?_⟩
                replace hcl : Own κ w C_72 := by rw [hC_72]; exact (Own.to hs.own [3, 4, 5, 6, 7, 8] 9 (by kernel_rfl) (by kernel_rfl))
                refine ⟨fun _ => hcl, ?_⟩
                obtain ⟨h_81, hm⟩ := ite_t hm
                refine Vk.dOnly (i := 14) (by kernel_rfl) (Vk.storeA (b := b_74) (ty := 28) (x := (.tmp 13)) (y := (.tmp 68)) (sz := 3) v_77.1 1 hs (by kernel_rfl) (by kernel_rfl) (by kernel_rfl) (by kernel_rfl) (by kernel_rfl) h_81 (by kernel_rfl) rfl (Eq.trans (b := 3) h_81 (Eq.symm rfl)) fun a w hs => ?_)
                replace hcl : Own κ w C_72 := by rw [hC_72]; exact (Own.to hs.own [3, 4, 5, 6, 7, 8] 9 (by kernel_rfl) (by kernel_rfl))
                refine ⟨fun _ => hcl, ?_⟩
                obtain ⟨h_82, hm⟩ := ite_t hm
                refine Vk.dOnly (i := 15) (by kernel_rfl) (Vk.storeA (b := b_73) (ty := 28) (x := (.tmp 14)) (y := (.tmp 74)) (sz := 3) v_80.1 2 hs (by kernel_rfl) (by kernel_rfl) (by kernel_rfl) (by kernel_rfl) (by kernel_rfl) h_82 (by kernel_rfl) rfl (Eq.trans (b := 3) h_82 (Eq.symm rfl)) fun a w hs => ?_)
                refine ⟨fun h => absurd h (by decide), ?_⟩
                replace hs := hs.pick [1, 2, 5, 6, 7, 8, 11, 13, 14, 32, 33, 34, 35, 36] (L' := [(1, .int .u8 x1), (2, pp b_2), (5, vi v_6), (6, vi (IntKind.i64.wrap (Int.tdiv (IntKind.i64.wrap (v_6 * (IntKind.i64.wrap (v_6 - 1)))) 2))), (7, pp b_9), (8, vi q_14), (11, pp b_64), (13, pp b_74), (14, pp b_73), (32, vi q_14), (33, vi (IntKind.i64.wrap (Int.tdiv (IntKind.i64.wrap (v_6 * (IntKind.i64.wrap (v_6 - 1)))) 2))), (34, vw (IntKind.u64.wrap (IntKind.i64.wrap (Int.tdiv (IntKind.i64.wrap (v_6 * (IntKind.i64.wrap (v_6 - 1)))) 2)))), (35, vi (shl .i64 1 (IntKind.u64.wrap (IntKind.i64.wrap (Int.tdiv (IntKind.i64.wrap (v_6 * (IntKind.i64.wrap (v_6 - 1)))) 2))))), (36, .bool (decide (q_14 < (shl .i64 1 (IntKind.u64.wrap (IntKind.i64.wrap (Int.tdiv (IntKind.i64.wrap (v_6 * (IntKind.i64.wrap (v_6 - 1)))) 2)))))))]) (by kernel_rfl)
                refine Vk.dDone (by kernel_rfl) ?_
                exact hj71 v_80.2 v_77.1 v_80.1 hm b_74 b_73 _ _ (hs.go [1, 2, 5, 6, 7, 8, 11, 13, 14, 32, 33, 34, 35, 36] [7, 8, 3, 0, 4, 5, 6, 1, 2] 9 (by kernel_rfl) (by kernel_rfl) (by kernel_rfl))
      refine Vk.loopBy (fun k (s : List Int × Int) a w => ∃ (A_26 : Option Addr), ∃ (c_27 : Nat), visorlaw22_TimesEven.l2 v_6 q_14 k s.1 s.2 = some r25 ∧ St 157 a w κ [(1, .int .u8 x1), (2, pp b_2), (5, vi v_6), (6, vi (IntKind.i64.wrap (Int.tdiv (IntKind.i64.wrap (v_6 * (IntKind.i64.wrap (v_6 - 1)))) 2))), (7, pp b_9), (8, vi q_14), (9, .slice A_26 s.1.length c_27), (10, vi s.2), (32, vi q_14), (33, vi (IntKind.i64.wrap (Int.tdiv (IntKind.i64.wrap (v_6 * (IntKind.i64.wrap (v_6 - 1)))) 2))), (34, vw (IntKind.u64.wrap (IntKind.i64.wrap (Int.tdiv (IntKind.i64.wrap (v_6 * (IntKind.i64.wrap (v_6 - 1)))) 2)))), (35, vi (shl .i64 1 (IntKind.u64.wrap (IntKind.i64.wrap (Int.tdiv (IntKind.i64.wrap (v_6 * (IntKind.i64.wrap (v_6 - 1)))) 2))))), (36, .bool (decide (q_14 < (shl .i64 1 (IntKind.u64.wrap (IntKind.i64.wrap (Int.tdiv (IntKind.i64.wrap (v_6 * (IntKind.i64.wrap (v_6 - 1)))) 2)))))))] (pt b_2 (blk (Tvisorlaw22_Asked.obj x0 A_x0masks c_x0masks) 38) :: pt b_9 (blk q_13 40) :: rowp A_26 c_27 32 1 (eI .u64) s.1 :: S)) k (([] : List Int), 0) ⟨A_21, 0, hl25, hs.go [1, 2, 5, 6, 7, 8, 9, 10, 32, 33, 34, 35, 36] [1, 2, 0] 3 (by kernel_rfl) (by kernel_rfl) (by kernel_rfl)⟩ (fun s a w h => by obtain ⟨_, _, h1, _⟩ := h; simp [visorlaw22_TimesEven.l2] at h1) (fun k KL25 ih s a w h => ?_)
      obtain ⟨q_28, q_29⟩ := s
      obtain ⟨A_26, c_27, hm, hs⟩ := h
      try dsimp only at hm hs
      rw [visorlaw22_TimesEven.l2] at hm
      refine Vk.seq fun K30 hK30 => ?_
      refine qsr fun K31 hK31 => ?_
      refine qpe 3 [(1, .int .u8 x1), (2, pp b_2), (5, vi v_6), (6, vi (IntKind.i64.wrap (Int.tdiv (IntKind.i64.wrap (v_6 * (IntKind.i64.wrap (v_6 - 1)))) 2))), (7, pp b_9), (8, vi q_14), (9, .slice A_26 q_28.length c_27), (10, vi q_29), (32, vi q_14), (33, vi (IntKind.i64.wrap (Int.tdiv (IntKind.i64.wrap (v_6 * (IntKind.i64.wrap (v_6 - 1)))) 2))), (34, vw (IntKind.u64.wrap (IntKind.i64.wrap (Int.tdiv (IntKind.i64.wrap (v_6 * (IntKind.i64.wrap (v_6 - 1)))) 2)))), (35, vi (shl .i64 1 (IntKind.u64.wrap (IntKind.i64.wrap (Int.tdiv (IntKind.i64.wrap (v_6 * (IntKind.i64.wrap (v_6 - 1)))) 2))))), (36, .bool (decide (q_14 < (shl .i64 1 (IntKind.u64.wrap (IntKind.i64.wrap (Int.tdiv (IntKind.i64.wrap (v_6 * (IntKind.i64.wrap (v_6 - 1)))) 2))))))), (43, .bool (decide (q_29 < (IntKind.i64.wrap (Int.tdiv (IntKind.i64.wrap (v_6 * (IntKind.i64.wrap (v_6 - 1)))) 2)))))] hs fun a hs => hK31 _ _ ?_
      clear hK31
      refine qcs (decide (q_29 < (IntKind.i64.wrap (Int.tdiv (IntKind.i64.wrap (v_6 * (IntKind.i64.wrap (v_6 - 1)))) 2)))) hs (fun hb => ?_) fun hb => ?_
      · replace hm := bif_t hm hb
        refine wp_skip ?_
        refine hK30 _ _ ?_
        clear hK30
        refine Vk.seq fun K32 hK32 => ?_
        refine wp_block ?_
        refine Vk.region ?_
        refine qpu 4 hs fun a hs => ?_
        obtain ⟨h_33, hm⟩ := ite_t hm
        refine Vk.step (Vk.value (some 50) (vi (shr .i64 q_14 (IntKind.u64.wrap q_29))) hs (by kernel_rfl) (op := (.binOp .shr 3 (.tmp 47) (.tmp 49) 24)) (by kernel_rfl) (fun o ho => run_shr (k' := .u64) ho (by kernel_rfl) (by kernel_rfl) h_33 _) fun a hs => ?_)
        refine qpu 2 hs fun a hs => ?_
        refine Vk.step (Vk.buildOp (sz := 1) (by_ := 8) (t := 25) (e := 32) (parts := #[(0, (.tmp 52))]) (zs := vals [cw 0]) ([IntKind.u64.wrap (Int.tmod (shr .i64 q_14 (IntKind.u64.wrap q_29)) 2)] : List Int) (eI .u64) (some 53) hs (by kernel_rfl) (by kernel_rfl) (by kernel_rfl) (by kernel_rfl) (by decide) rfl (fun x _ => rfl) (Nat.le_of_ble_eq_true (by kernel_rfl)) (by kernel_rfl) fun A_34 w a hs => ?_)
        obtain ⟨h_36, hm⟩ := ite_t hm
        refine Vk.step (Vk.appendOp (x := (.tmp 46)) (y := (.tmp 53)) (e := 32) (t := 25) (by_ := 8) (sz := 1) (enc := (eI .u64)) (A := A_26) (cap := c_27) (xs := q_28) (ys := ([IntKind.u64.wrap (Int.tmod (shr .i64 q_14 (IntKind.u64.wrap q_29)) 2)] : List Int)) (B := A_34) (c2 := 1) 3 (some 54) hs (by kernel_rfl) (by kernel_rfl) (by kernel_rfl) (by kernel_rfl) rfl (Sl.lift (fun w ho => (Own.to (S' := rowp A_34 1 32 1 (eI .u64) ([IntKind.u64.wrap (Int.tmod (shr .i64 q_14 (IntKind.u64.wrap q_29)) 2)] : List Int) :: S) ho [0] 4 (by kernel_rfl) (by kernel_rfl))) (Own.rowSl 0 (Own.to (S' := rowp A_34 1 32 1 (eI .u64) ([IntKind.u64.wrap (Int.tmod (shr .i64 q_14 (IntKind.u64.wrap q_29)) 2)] : List Int) :: S) hs.own [0] 4 (by kernel_rfl) (by kernel_rfl)) rfl)) (by kernel_rfl) (by kernel_rfl) (by decide) (by decide) h_36 fun A_37 c_38 w a hs => ?_)
        refine qpe 1 [(1, .int .u8 x1), (2, pp b_2), (5, vi v_6), (6, vi (IntKind.i64.wrap (Int.tdiv (IntKind.i64.wrap (v_6 * (IntKind.i64.wrap (v_6 - 1)))) 2))), (7, pp b_9), (8, vi q_14), (9, .slice A_37 ((q_28 ++ ([IntKind.u64.wrap (Int.tmod (shr .i64 q_14 (IntKind.u64.wrap q_29)) 2)] : List Int)).length) c_38), (10, vi q_29), (32, vi q_14), (33, vi (IntKind.i64.wrap (Int.tdiv (IntKind.i64.wrap (v_6 * (IntKind.i64.wrap (v_6 - 1)))) 2))), (34, vw (IntKind.u64.wrap (IntKind.i64.wrap (Int.tdiv (IntKind.i64.wrap (v_6 * (IntKind.i64.wrap (v_6 - 1)))) 2)))), (35, vi (shl .i64 1 (IntKind.u64.wrap (IntKind.i64.wrap (Int.tdiv (IntKind.i64.wrap (v_6 * (IntKind.i64.wrap (v_6 - 1)))) 2))))), (36, .bool (decide (q_14 < (shl .i64 1 (IntKind.u64.wrap (IntKind.i64.wrap (Int.tdiv (IntKind.i64.wrap (v_6 * (IntKind.i64.wrap (v_6 - 1)))) 2)))))))] hs fun a hs => hK32 _ _ ?_
        clear hK32
        refine Vk.region ?_
        refine qpe 3 [(1, .int .u8 x1), (2, pp b_2), (5, vi v_6), (6, vi (IntKind.i64.wrap (Int.tdiv (IntKind.i64.wrap (v_6 * (IntKind.i64.wrap (v_6 - 1)))) 2))), (7, pp b_9), (8, vi q_14), (9, .slice A_37 ((q_28 ++ ([IntKind.u64.wrap (Int.tmod (shr .i64 q_14 (IntKind.u64.wrap q_29)) 2)] : List Int)).length) c_38), (10, vi (IntKind.i64.wrap (q_29 + 1))), (32, vi q_14), (33, vi (IntKind.i64.wrap (Int.tdiv (IntKind.i64.wrap (v_6 * (IntKind.i64.wrap (v_6 - 1)))) 2))), (34, vw (IntKind.u64.wrap (IntKind.i64.wrap (Int.tdiv (IntKind.i64.wrap (v_6 * (IntKind.i64.wrap (v_6 - 1)))) 2)))), (35, vi (shl .i64 1 (IntKind.u64.wrap (IntKind.i64.wrap (Int.tdiv (IntKind.i64.wrap (v_6 * (IntKind.i64.wrap (v_6 - 1)))) 2))))), (36, .bool (decide (q_14 < (shl .i64 1 (IntKind.u64.wrap (IntKind.i64.wrap (Int.tdiv (IntKind.i64.wrap (v_6 * (IntKind.i64.wrap (v_6 - 1)))) 2)))))))] hs fun a hs => ?_
        refine ih ((q_28 ++ ([IntKind.u64.wrap (Int.tmod (shr .i64 q_14 (IntKind.u64.wrap q_29)) 2)] : List Int)), (IntKind.i64.wrap (q_29 + 1))) _ _ ⟨A_37, c_38, hm, hs.go [1, 2, 5, 6, 7, 8, 9, 10, 32, 33, 34, 35, 36] [1, 2, 3] 4 (by kernel_rfl) (by kernel_rfl) (by kernel_rfl)⟩
      · replace hm := bif_f hm hb
        refine wp_exit ?_
        exact hx25 q_28 (Option.some.inj hm).symm A_26 c_27 _ _ (hs.go [1, 2, 5, 6, 7, 8, 9, 32, 33, 34, 35, 36] [0, 1, 2] 3 (by kernel_rfl) (by kernel_rfl) (by kernel_rfl))
    · replace hm := bif_f hm hb
      refine wp_exit ?_
      exact hx12 q_13 (Option.some.inj hm).symm _ _ (hs.go [5, 6, 7] [1] 2 (by kernel_rfl) (by kernel_rfl) (by kernel_rfl))
  · replace hm := bif_f hm hb
    replace hs := hs.known (t := 31) hb (by kernel_rfl)
    refine qpe 6 [(1, .int .u8 x1), (2, pp b_2), (5, vi v_6), (6, vi (IntKind.i64.wrap (Int.tdiv (IntKind.i64.wrap (v_6 * (IntKind.i64.wrap (v_6 - 1)))) 2))), (7, pp b_9), (8, vi q_14), (37, .bool false)] hs fun a hs => hK16 _ _ ?_
    refine qcf hs ?_
    refine wp_exit ?_
    exact hx12 q_13 (Option.some.inj hm).symm _ _ (hs.go [5, 6, 7] [1] 2 (by kernel_rfl) (by kernel_rfl) (by kernel_rfl))

end Go.Proofs.Ytflgefjocjpjaaa
