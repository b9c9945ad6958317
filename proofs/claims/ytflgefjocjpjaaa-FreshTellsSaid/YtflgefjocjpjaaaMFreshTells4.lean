/- Of each Go function that FreshTells comes to: a model in plain Lean, and that the program's call does what the model says; no condition. -/
import Derived.Test.YtflgefjocjpjaaaProg
import Derived.Test.YtflgefjocjpjaaaVeohkolfl
import Derived.Test.YtflgefjocjpjaaaMFreshTells3
namespace Go.Proofs.Ytflgefjocjpjaaa
open Go Go.Vk
set_option linter.unusedVariables false


def visorlaw21_awake.j1 (k : Nat) (p_94 : Bool) : Option (Bool) := some p_94
abbrev visorlaw21_awake.R (κ : Ctx) (S : List HP) (r : Bool) : Ending → World → Prop := fun e w' => e = .returned (.bool r) ∧ Own κ w' (S)
def visorlaw21_awake.m (k : Nat) : Option Bool := ((visorlaw20_Begins.m k 2 ([5] : List Int) 9).bind fun v => match v with | (.inl v_8) => some false | (.inr v_15) => (bif !v_15.2.2.2.2 then some false else (visorref20_None.m k).bind fun v_32 => (if v_32.length = 3 then (wire_Machine_Const.m k v_15.1 0 1).bind fun v_38 => (if 0 < v_32.length then (wire_Machine_Const.m k v_38.2 1 2).bind fun v_43 => (if 1 < (v_32.set (0) (ci v_38.1)).length then (fresh_Full.m k v_43.2 ((v_32.set (0) (ci v_38.1)).set (1) (ci v_43.1))).bind fun v_48 => (if v_48.1.length = 3 then (wire_Machine_Values.m k v_48.2).bind fun v_54 => (bif ((v_54.length : Nat) : Int) == 5 then (if 0 ≤ (3 : Int) then (v_54[3]?).bind fun e_68 => (bif e_68 == 4 then (if 0 ≤ (4 : Int) then (v_54[4]?).bind fun e_82 => (bif e_82 == 7 then (getI .i64 v_48.1 (0)).bind fun v_89 => (bif v_89 == 3 then (getI .i64 v_48.1 (1)).bind fun v_93 => visorlaw21_awake.j1 k (v_93 == 4) else visorlaw21_awake.j1 k false) else visorlaw21_awake.j1 k false) else none) else visorlaw21_awake.j1 k false) else none) else visorlaw21_awake.j1 k false) else none) else none) else none) else none)))

set_option maxRecDepth 100000 in
set_option maxHeartbeats 4000000 in
theorem visorlaw21_awake.ok (k : Nat) (r : Bool) (hm : visorlaw21_awake.m k = some r) (κ : Ctx) (w : World) (S : List HP) (ho : Own κ w (S)) :
    Calls Try.prog 16 #[] w (visorlaw21_awake.R κ S r) := by
  unfold visorlaw21_awake.m at hm
  generalize hRR : visorlaw21_awake.R κ S r = RR
  refine qen [] Try.func16 Try.ntmps16 ho fun a hs => ?_
  refine qsr fun K1 hK1 => ?_
  refine qpe 1 [] hs fun a hs => hK1 _ _ ?_
  clear hK1
  refine qsr fun K2 hK2 => ?_
  refine Vk.step (Vk.buildOp (sz := 1) (by_ := 8) (t := 25) (e := 32) (parts := #[(0, (.const (vw 5)))]) (zs := vals [cw 0]) ([5] : List Int) (eI .u64) (some 6) hs (by kernel_rfl) (by kernel_rfl) (by kernel_rfl) (by kernel_rfl) (by decide) rfl (fun x _ => rfl) (Nat.le_of_ble_eq_true (by kernel_rfl)) (by kernel_rfl) fun A_3 w a hs => ?_)
  replace hs := hs.toRd 0 rfl
  obtain ⟨v_7, h_6, hm⟩ := bind_t hm
  refine Vk.step (Vk.call (some 7) 18 #[vi 2, .slice A_3 (([5] : List Int).length) 1, vi 9] hs (by kernel_rfl) (by kernel_rfl) (by kernel_rfl) ?_)
  refine (visorlaw20_Begins.ok k 2 ([5] : List Int) 9 v_7 h_6 κ w (S) A_3 1 (Own.to hs.own [0] 1 (by kernel_rfl) (by kernel_rfl))).mono ?_
  rintro _ w (⟨v_8, rfl, br5x0x_9, Ar5x0l_10, cr5x0l_11, Ar5x0v_12, cr5x0v_13, rfl, how⟩ | ⟨v_15, rfl, br5x0m_16, br5x0x_17, Ar5x0l_18, cr5x0l_19, Ar5x0v_20, cr5x0v_21, rfl, how⟩)
  · dsimp only at hm
    refine ⟨_, _, _, rfl, how, fun a hs => ?_⟩
    refine qpu 3 hs fun a hs => ?_
    refine Vk.step (Vk.alloc 1 45 [C.ptr none, C.ptr none, C.slc none 0 0, C.slc none 0 0] hs (by kernel_rfl) (by kernel_rfl) (by kernel_rfl) fun b_14 w a hs => ?_)
    refine Vk.step (Vk.storeA (b := b_14) (ty := 45) (x := (.tmp 1)) (y := (.tmp 8)) (sz := 4) [C.ptr none, cp br5x0x_9, C.slc Ar5x0l_10 v_8.2.1.length cr5x0l_11, C.slc Ar5x0v_12 v_8.2.2.length cr5x0v_13] 0 hs (by kernel_rfl) (by kernel_rfl) (by kernel_rfl) (by kernel_rfl) (by kernel_rfl) rfl (by kernel_rfl) rfl (Eq.trans (b := 4) rfl (Eq.symm rfl)) fun a w hs => ?_)
    refine qpe 1 [(1, pp b_14), (2, .bool false)] hs fun a hs => hK2 _ _ ?_
    refine Vk.seq fun K23 hK23 => ?_
    refine qsr fun K24 hK24 => ?_
    refine qpe 2 [(1, pp b_14), (11, .bool true)] hs fun a hs => hK24 _ _ ?_
    clear hK24
    refine qct hs ?_
    refine qsr fun K25 hK25 => ?_
    refine qpe 1 [(0, .bool false)] hs fun a hs => hK25 _ _ ?_
    clear hK25
    refine wp_ret ?_
    exact Vk.ret1 (P := Try.prog) (fn := Try.f16) (R := RR) (.bool false) hs rfl (by kernel_rfl) (by obtain rfl := Option.some.inj hm; subst hRR; exact ⟨rfl, (Own.to hs.own [] 4 (by kernel_rfl) (by kernel_rfl))⟩)
  · dsimp only at hm
    refine ⟨_, _, _, rfl, how, fun a hs => ?_⟩
    refine qpu 3 hs fun a hs => ?_
    refine Vk.step (Vk.alloc 1 45 [C.ptr none, C.ptr none, C.slc none 0 0, C.slc none 0 0] hs (by kernel_rfl) (by kernel_rfl) (by kernel_rfl) fun b_22 w a hs => ?_)
    refine Vk.step (Vk.storeA (b := b_22) (ty := 45) (x := (.tmp 1)) (y := (.tmp 8)) (sz := 4) [cp br5x0m_16, cp br5x0x_17, C.slc Ar5x0l_18 v_15.2.2.1.length cr5x0l_19, C.slc Ar5x0v_20 v_15.2.2.2.1.length cr5x0v_21] 0 hs (by kernel_rfl) (by kernel_rfl) (by kernel_rfl) (by kernel_rfl) (by kernel_rfl) rfl (by kernel_rfl) rfl (Eq.trans (b := 4) rfl (Eq.symm rfl)) fun a w hs => ?_)
    refine qpe 1 [(1, pp b_22), (2, .bool v_15.2.2.2.2)] hs fun a hs => hK2 _ _ ?_
    refine Vk.seq fun K26 hK26 => ?_
    refine qsr fun K27 hK27 => ?_
    refine qpe 2 [(1, pp b_22), (11, .bool (!v_15.2.2.2.2))] hs fun a hs => hK27 _ _ ?_
    clear hK27
    refine qcs (!v_15.2.2.2.2) hs (fun hb => ?_) fun hb => ?_
    · replace hm := bif_t hm hb
      refine qsr fun K28 hK28 => ?_
      refine qpe 1 [(0, .bool false)] hs fun a hs => hK28 _ _ ?_
      clear hK28
      refine wp_ret ?_
      exact Vk.ret1 (P := Try.prog) (fn := Try.f16) (R := RR) (.bool false) hs rfl (by kernel_rfl) (by obtain rfl := Option.some.inj hm; subst hRR; exact ⟨rfl, (Own.to hs.own [] 5 (by kernel_rfl) (by kernel_rfl))⟩)
    · replace hm := bif_f hm hb
      refine wp_skip ?_
      refine hK26 _ _ ?_
      clear hK26
      refine qsr fun K29 hK29 => ?_
      obtain ⟨v_32, h_31, hm⟩ := bind_t hm
      refine Vk.step (Vk.call (some 12) 83 #[] hs (by kernel_rfl) (by kernel_rfl) (by kernel_rfl) ?_)
      refine (visorref20_None.ok k v_32 h_31 κ w (pt b_22 (blk [cp br5x0m_16, cp br5x0x_17, C.slc Ar5x0l_18 v_15.2.2.1.length cr5x0l_19, C.slc Ar5x0v_20 v_15.2.2.2.1.length cr5x0v_21] 45) :: Twire_Machine.own br5x0m_16 v_15.1 :: Tvisorref19_M.own κ br5x0x_17 v_15.2.1 :: rowp Ar5x0l_18 cr5x0l_19 28 3 eC v_15.2.2.1 :: rowp Ar5x0v_20 cr5x0v_21 32 1 (eI .u64) v_15.2.2.2.1 :: S) hs.own).mono ?_
      rintro _ w ⟨rfl, how⟩
      refine ⟨_, _, _, rfl, how, fun a hs => ?_⟩
      refine Vk.step (Vk.alloc 3 28 [ci 0, ci 0, ci 0] hs (by kernel_rfl) (by kernel_rfl) (by kernel_rfl) fun b_33 w a hs => ?_)
      obtain ⟨h_34, hm⟩ := ite_t hm
      refine Vk.step (Vk.storeA (b := b_33) (ty := 28) (x := (.tmp 3)) (y := (.tmp 12)) (sz := 3) v_32 0 hs (by kernel_rfl) (by kernel_rfl) (by kernel_rfl) (by kernel_rfl) (by kernel_rfl) h_34 (by kernel_rfl) rfl (Eq.trans (b := 3) h_34 (Eq.symm rfl)) fun a w hs => ?_)
      refine qpe 0 [(1, pp b_22), (3, pp b_33)] hs fun a hs => hK29 _ _ ?_
      clear hK29
      refine qsr fun K35 hK35 => ?_
      refine qpu 1 hs fun a hs => ?_
      refine qld 1 (cp br5x0m_16) hs rfl fun a hs => ?_
      obtain ⟨v_38, h_37, hm⟩ := bind_t hm
      refine Vk.step (Vk.call (some 15) 84 #[pp br5x0m_16, vi 0, vw 1] hs (by kernel_rfl) (by kernel_rfl) (by kernel_rfl) ?_)
      refine (wire_Machine_Const.ok k v_15.1 0 1 v_38 h_37 κ w (pt b_33 (blk v_32 28) :: pt b_22 (blk [cp br5x0m_16, cp br5x0x_17, C.slc Ar5x0l_18 v_15.2.2.1.length cr5x0l_19, C.slc Ar5x0v_20 v_15.2.2.2.1.length cr5x0v_21] 45) :: Tvisorref19_M.own κ br5x0x_17 v_15.2.1 :: rowp Ar5x0l_18 cr5x0l_19 28 3 eC v_15.2.2.1 :: rowp Ar5x0v_20 cr5x0v_21 32 1 (eI .u64) v_15.2.2.2.1 :: S) br5x0m_16 (Own.to hs.own [2, 0, 1, 3, 4, 5] 6 (by kernel_rfl) (by kernel_rfl))).mono ?_
      rintro _ w ⟨rfl, how⟩
      refine ⟨_, _, _, rfl, how, fun a hs => ?_⟩
      refine qpu 2 hs fun a hs => ?_
      obtain ⟨h_39, hm⟩ := ite_t hm
      refine Vk.step (Vk.store1 (b := b_33) (ty := 3) (x := (.tmp 17)) (y := (.tmp 15)) (off := 0) (ci v_38.1) 1 hs (by kernel_rfl) (by kernel_rfl) (by kernel_rfl) (by kernel_rfl) (by kernel_rfl) (by kernel_rfl) rfl h_39 fun a w hs => ?_)
      refine qpe 0 [(1, pp b_22), (3, pp b_33)] hs fun a hs => hK35 _ _ ?_
      clear hK35
      refine qsr fun K40 hK40 => ?_
      refine qpu 1 hs fun a hs => ?_
      refine qld 2 (cp br5x0m_16) hs rfl fun a hs => ?_
      obtain ⟨v_43, h_42, hm⟩ := bind_t hm
      refine Vk.step (Vk.call (some 20) 84 #[pp br5x0m_16, vi 1, vw 2] hs (by kernel_rfl) (by kernel_rfl) (by kernel_rfl) ?_)
      refine (wire_Machine_Const.ok k v_38.2 1 2 v_43 h_42 κ w (pt b_33 (blk (v_32.set (0) (ci v_38.1)) 28) :: pt b_22 (blk [cp br5x0m_16, cp br5x0x_17, C.slc Ar5x0l_18 v_15.2.2.1.length cr5x0l_19, C.slc Ar5x0v_20 v_15.2.2.2.1.length cr5x0v_21] 45) :: Tvisorref19_M.own κ br5x0x_17 v_15.2.1 :: rowp Ar5x0l_18 cr5x0l_19 28 3 eC v_15.2.2.1 :: rowp Ar5x0v_20 cr5x0v_21 32 1 (eI .u64) v_15.2.2.2.1 :: S) br5x0m_16 (Own.to hs.own [0, 1, 2, 3, 4, 5] 6 (by kernel_rfl) (by kernel_rfl))).mono ?_
      rintro _ w ⟨rfl, how⟩
      refine ⟨_, _, _, rfl, how, fun a hs => ?_⟩
      refine qpu 2 hs fun a hs => ?_
      obtain ⟨h_44, hm⟩ := ite_t hm
      refine Vk.step (Vk.store1 (b := b_33) (ty := 3) (x := (.tmp 22)) (y := (.tmp 20)) (off := 1) (ci v_43.1) 1 hs (by kernel_rfl) (by kernel_rfl) (by kernel_rfl) (by kernel_rfl) (by kernel_rfl) (by kernel_rfl) rfl h_44 fun a w hs => ?_)
      refine qpe 0 [(1, pp b_22), (3, pp b_33)] hs fun a hs => hK40 _ _ ?_
      clear hK40
      refine qsr fun K45 hK45 => ?_
      refine qpu 1 hs fun a hs => ?_
      refine qld 2 (cp br5x0m_16) hs rfl fun a hs => ?_
      refine Vk.step (Vk.value (some 25) (.agg (vals ((v_32.set (0) (ci v_38.1)).set (1) (ci v_43.1)))) hs (by kernel_rfl) (op := (.load 28 (.tmp 3))) (by kernel_rfl) (fun o ho => run_loadN (cs := ((v_32.set (0) (ci v_38.1)).set (1) (ci v_43.1))) ho (by kernel_rfl) (by kernel_rfl) (List.length_set.trans (List.length_set.trans h_34)) (CellsAt.all 1 rfl) _ hs.own) fun a hs => ?_)
      obtain ⟨v_48, h_47, hm⟩ := bind_t hm
      refine Vk.step (Vk.call (some 26) 49 #[pp br5x0m_16, .agg (vals ((v_32.set (0) (ci v_38.1)).set (1) (ci v_43.1)))] hs (by kernel_rfl) (by kernel_rfl) (by kernel_rfl) ?_)
      refine (fresh_Full.ok k v_43.2 ((v_32.set (0) (ci v_38.1)).set (1) (ci v_43.1)) v_48 h_47 κ w (pt b_33 (blk ((v_32.set (0) (ci v_38.1)).set (1) (ci v_43.1)) 28) :: pt b_22 (blk [cp br5x0m_16, cp br5x0x_17, C.slc Ar5x0l_18 v_15.2.2.1.length cr5x0l_19, C.slc Ar5x0v_20 v_15.2.2.2.1.length cr5x0v_21] 45) :: Tvisorref19_M.own κ br5x0x_17 v_15.2.1 :: rowp Ar5x0l_18 cr5x0l_19 28 3 eC v_15.2.2.1 :: rowp Ar5x0v_20 cr5x0v_21 32 1 (eI .u64) v_15.2.2.2.1 :: S) br5x0m_16 (Own.to hs.own [0, 1, 2, 3, 4, 5] 6 (by kernel_rfl) (by kernel_rfl))).mono ?_
      rintro _ w ⟨rfl, how⟩
      refine ⟨_, _, _, rfl, how, fun a hs => ?_⟩
      obtain ⟨h_49, hm⟩ := ite_t hm
      refine Vk.step (Vk.storeA (b := b_33) (ty := 28) (x := (.tmp 3)) (y := (.tmp 26)) (sz := 3) v_48.1 1 hs (by kernel_rfl) (by kernel_rfl) (by kernel_rfl) (by kernel_rfl) (by kernel_rfl) h_49 (by kernel_rfl) rfl (Eq.trans (b := 3) h_49 (Eq.symm (List.length_set.trans (List.length_set.trans h_34)))) fun a w hs => ?_)
      refine qpe 0 [(1, pp b_22), (3, pp b_33)] hs fun a hs => hK45 _ _ ?_
      clear hK45
      refine qsr fun K50 hK50 => ?_
      refine qpu 1 hs fun a hs => ?_
      refine qld 2 (cp br5x0m_16) hs rfl fun a hs => ?_
      obtain ⟨g_51, hs⟩ := hs.unex 0 rfl
      obtain ⟨v_54, h_53, hm⟩ := bind_t hm
      refine Vk.step (Vk.call (some 29) 22 #[pp br5x0m_16] hs (by kernel_rfl) (by kernel_rfl) (by kernel_rfl) ?_)
      refine (wire_Machine_Values.ok k v_48.2 v_54 h_53 κ w (pt b_33 (blk v_48.1 28) :: pt b_22 (blk [cp br5x0m_16, cp br5x0x_17, C.slc Ar5x0l_18 v_15.2.2.1.length cr5x0l_19, C.slc Ar5x0v_20 v_15.2.2.2.1.length cr5x0v_21] 45) :: Tvisorref19_M.own κ br5x0x_17 v_15.2.1 :: rowp Ar5x0l_18 cr5x0l_19 28 3 eC v_15.2.2.1 :: rowp Ar5x0v_20 cr5x0v_21 32 1 (eI .u64) v_15.2.2.2.1 :: S) br5x0m_16 g_51 (Own.to hs.own [0, 1, 2, 3, 4, 5] 6 (by kernel_rfl) (by kernel_rfl))).mono ?_
      rintro _ w ⟨Ar52x0_55, cr52x0_56, rfl, how⟩
      refine ⟨_, _, _, rfl, how, fun a hs => ?_⟩
      refine qpe 1 [(3, pp b_33), (4, .slice Ar52x0_55 v_54.length cr52x0_56)] hs fun a hs => hK50 _ _ ?_
      clear hK50
      refine Vk.seq fun K57 hK57 => ?_
      have hj57 : ∀ (p_94 : Bool), visorlaw21_awake.j1 k p_94 = some r → ∀ (a : Act) (w : World), St 57 a w κ [(0, .bool p_94)] (S) → K57 a w := by
        intro p_94 hm a w hs
        unfold visorlaw21_awake.j1 at hm
        refine hK57 _ _ ?_
        refine wp_ret ?_
        exact Vk.ret1 (P := Try.prog) (fn := Try.f16) (R := RR) (.bool p_94) hs rfl (by kernel_rfl) (by obtain rfl := Option.some.inj hm; subst hRR; exact ⟨rfl, (Own.to hs.own [] 0 (by kernel_rfl) (by kernel_rfl))⟩)
      refine Vk.region ?_
      refine qpu 4 hs fun a hs => ?_
      rcases Bool.eq_false_or_eq_true (((v_54.length : Nat) : Int) == 5) with hb | hb
      · replace hm := bif_t hm hb
        replace hs := hs.known (t := 33) hb (by kernel_rfl)
        refine qpu 1 hs fun a hs => ?_
        obtain ⟨h_65, hm⟩ := ite_t hm
        obtain ⟨e_68, h_66, hm⟩ := bind_t hm
        obtain ⟨b_69, o_70, hA_71, h_67⟩ := Sl.elem (Own.rowSl 0 (Own.to (S' := rowp Ar52x0_55 cr52x0_56 32 1 (eI .u64) v_54 :: S) hs.own [0] 7 (by kernel_rfl) (by kernel_rfl)) rfl) h_66
        refine Vk.step (Vk.value (some 35) (.pointer (some ⟨b_69, o_70 + 3 * 1, none⟩)) hs (by kernel_rfl) (op := (.indexAddr 25 (.tmp 34) (.const (vi 3)))) (by kernel_rfl) (fun o ho => run_idxSlc (k := .i64) ho (cap := cr52x0_56) (len := v_54.length) ((congrArg (fun A => Value.slice A (v_54.length) (cr52x0_56)) hA_71) ▸ (by kernel_rfl)) (by kernel_rfl) (by kernel_rfl) (idx_ok h_65 h_66) _) fun a hs => ?_)
        refine Vk.step (Vk.value (some 36) (vw e_68) hs (by kernel_rfl) (op := (.load 32 (.tmp 35))) (by kernel_rfl) (fun o ho => run_load1 (c := cw e_68) ho (by kernel_rfl) (by kernel_rfl) (fun w ho => h_67 w ho 0 _ rfl) _ (Own.to (S' := rowp Ar52x0_55 cr52x0_56 32 1 (eI .u64) v_54 :: S) hs.own [0] 7 (by kernel_rfl) (by kernel_rfl))) fun a hs => ?_)
        refine qpu 3 hs fun a hs => ?_
        rcases Bool.eq_false_or_eq_true (e_68 == 4) with hb | hb
        · replace hm := bif_t hm hb
          replace hs := hs.known (t := 39) hb (by kernel_rfl)
          refine qpu 1 hs fun a hs => ?_
          obtain ⟨h_79, hm⟩ := ite_t hm
          obtain ⟨e_82, h_80, hm⟩ := bind_t hm
          obtain ⟨b_83, o_84, hA_85, h_81⟩ := Sl.elem (Own.rowSl 0 (Own.to (S' := rowp Ar52x0_55 cr52x0_56 32 1 (eI .u64) v_54 :: S) hs.own [0] 7 (by kernel_rfl) (by kernel_rfl)) rfl) h_80
          refine Vk.step (Vk.value (some 41) (.pointer (some ⟨b_83, o_84 + 4 * 1, none⟩)) hs (by kernel_rfl) (op := (.indexAddr 25 (.tmp 40) (.const (vi 4)))) (by kernel_rfl) (fun o ho => run_idxSlc (k := .i64) ho (cap := cr52x0_56) (len := v_54.length) ((congrArg (fun A => Value.slice A (v_54.length) (cr52x0_56)) hA_85) ▸ (by kernel_rfl)) (by kernel_rfl) (by kernel_rfl) (idx_ok h_79 h_80) _) fun a hs => ?_)
          refine Vk.step (Vk.value (some 42) (vw e_82) hs (by kernel_rfl) (op := (.load 32 (.tmp 41))) (by kernel_rfl) (fun o ho => run_load1 (c := cw e_82) ho (by kernel_rfl) (by kernel_rfl) (fun w ho => h_81 w ho 0 _ rfl) _ (Own.to (S' := rowp Ar52x0_55 cr52x0_56 32 1 (eI .u64) v_54 :: S) hs.own [0] 7 (by kernel_rfl) (by kernel_rfl))) fun a hs => ?_)
          refine qpu 3 hs fun a hs => ?_
          rcases Bool.eq_false_or_eq_true (e_82 == 7) with hb | hb
          · replace hm := bif_t hm hb
            replace hs := hs.known (t := 45) hb (by kernel_rfl)
            refine qpu 2 hs fun a hs => ?_
            obtain ⟨v_89, h_88, hm⟩ := bind_t hm
            refine Vk.step (Vk.value (some 48) (vi v_89) hs (by kernel_rfl) (op := (.load 3 (.tmp 47))) (by kernel_rfl) (fun o ho => run_load1 (c := ci v_89) ho (by kernel_rfl) (by kernel_rfl) (Cell.own 2 rfl (getI_some h_88)) _ hs.own) fun a hs => ?_)
            refine qpu 3 hs fun a hs => ?_
            rcases Bool.eq_false_or_eq_true (v_89 == 3) with hb | hb
            · replace hm := bif_t hm hb
              replace hs := hs.known (t := 51) hb (by kernel_rfl)
              refine qpu 2 hs fun a hs => ?_
              obtain ⟨v_93, h_92, hm⟩ := bind_t hm
              refine Vk.step (Vk.value (some 54) (vi v_93) hs (by kernel_rfl) (op := (.load 3 (.tmp 53))) (by kernel_rfl) (fun o ho => run_load1 (c := ci v_93) ho (by kernel_rfl) (by kernel_rfl) (Cell.own 2 rfl (getI_some h_92)) _ hs.own) fun a hs => ?_)
              refine qpe 3 [(0, .bool (v_93 == 4))] hs fun a hs => ?_
              replace hs := hs.toEx (Twire_Machine.parts br5x0m_16 v_48.2) g_51 1 rfl
              exact hj57 (v_93 == 4) hm _ _ (hs.go [0] [] 7 (by kernel_rfl) (by kernel_rfl) (by kernel_rfl))
            · replace hm := bif_f hm hb
              replace hs := hs.known (t := 51) hb (by kernel_rfl)
              refine qpe 6 [(0, .bool false)] hs fun a hs => ?_
              replace hs := hs.toEx (Twire_Machine.parts br5x0m_16 v_48.2) g_51 1 rfl
              exact hj57 false hm _ _ (hs.go [0] [] 7 (by kernel_rfl) (by kernel_rfl) (by kernel_rfl))
          · replace hm := bif_f hm hb
            replace hs := hs.known (t := 45) hb (by kernel_rfl)
            refine qpe 12 [(0, .bool false)] hs fun a hs => ?_
            replace hs := hs.toEx (Twire_Machine.parts br5x0m_16 v_48.2) g_51 1 rfl
            exact hj57 false hm _ _ (hs.go [0] [] 7 (by kernel_rfl) (by kernel_rfl) (by kernel_rfl))
        · replace hm := bif_f hm hb
          replace hs := hs.known (t := 39) hb (by kernel_rfl)
          refine qpe 18 [(0, .bool false)] hs fun a hs => ?_
          replace hs := hs.toEx (Twire_Machine.parts br5x0m_16 v_48.2) g_51 1 rfl
          exact hj57 false hm _ _ (hs.go [0] [] 7 (by kernel_rfl) (by kernel_rfl) (by kernel_rfl))
      · replace hm := bif_f hm hb
        replace hs := hs.known (t := 33) hb (by kernel_rfl)
        refine qpe 24 [(0, .bool false)] hs fun a hs => ?_
        replace hs := hs.toEx (Twire_Machine.parts br5x0m_16 v_48.2) g_51 1 rfl
        exact hj57 false hm _ _ (hs.go [0] [] 7 (by kernel_rfl) (by kernel_rfl) (by kernel_rfl))


def visorlaw21_FreshTells.j6 (k : Nat) (p_135 : Bool) : Option (Bool) := some p_135
def visorlaw21_FreshTells.j5 (k : Nat) (x1 : Int) (p_90 : Twire_Machine) (p_91 : Tvisorref19_M) (p_92 : Cells) (p_110 : Bool) : Option (Bool) := (bif p_110 then some false else (bif p_91.e != 0 then (visorlaw21_awake.m k).bind fun v_121 => visorlaw21_FreshTells.j6 k v_121 else (if p_92.length = 3 then (wire_Machine_Values.m k p_90).bind fun v_126 => (share_Value.m k v_126 p_92).bind fun v_131 => (bif v_131 == x1 then (visorlaw21_awake.m k).bind fun v_134 => visorlaw21_FreshTells.j6 k v_134 else visorlaw21_FreshTells.j6 k false) else none)))
def visorlaw21_FreshTells.j4 (k : Nat) (x1 : Int) (v_18 : Twire_Machine × Tvisorref19_M × List Cells × List Int × Bool) (p_60 : Cells) (p_62 : Cells) (p_90 : Twire_Machine) (p_91 : Tvisorref19_M) (p_92 : Cells) (p_93 : Cells) : Option (Bool) := (if p_60.length = 3 then (if p_62.length = 3 then (if Kinds ((List.replicate 3 [LK.int .i64]).flatten) p_60 then (if Kinds ((List.replicate 3 [LK.int .i64]).flatten) p_62 then (bif !(ceq p_60 p_62) then visorlaw21_FreshTells.j5 k x1 p_90 p_91 p_92 true else (if p_92.length = 3 then (if p_93.length = 3 then (if Kinds ((List.replicate 3 [LK.int .i64]).flatten) p_92 then (if Kinds ((List.replicate 3 [LK.int .i64]).flatten) p_93 then (bif !(ceq p_92 p_93) then visorlaw21_FreshTells.j5 k x1 p_90 p_91 p_92 true else (visorlaw20_Pair_Like.m k (⟨p_90, p_91, v_18.2.2.1, v_18.2.2.2.1⟩ : Tvisorlaw20_Pair)).bind fun v_109 => visorlaw21_FreshTells.j5 k x1 p_90 p_91 p_92 (!v_109)) else none) else none) else none) else none)) else none) else none) else none) else none)
def visorlaw21_FreshTells.j3 (k : Nat) (x1 : Int) (x3 : Bool) (v_18 : Twire_Machine × Tvisorref19_M × List Cells × List Int × Bool) (p_57 : Twire_Machine) (p_58 : Tvisorref19_M) (p_60 : Cells) (p_62 : Cells) : Option (Bool) := (bif x3 then (if p_60.length = 3 then (if p_62.length = 3 then (fresh_Simple.m k p_57 p_60).bind fun v_73 => (visorref21_Simple.m k p_58 p_62).bind fun v_76 => (if v_73.1.length = 3 then (if v_76.1.length = 3 then visorlaw21_FreshTells.j4 k x1 v_18 p_60 p_62 v_73.2 v_76.2 v_73.1 v_76.1 else none) else none) else none) else none) else (if p_60.length = 3 then (if p_62.length = 3 then (fresh_Full.m k p_57 p_60).bind fun v_84 => (visorref21_Full.m k p_58 p_62).bind fun v_87 => (if v_84.1.length = 3 then (if v_87.1.length = 3 then visorlaw21_FreshTells.j4 k x1 v_18 p_60 p_62 v_84.2 v_87.2 v_84.1 v_87.1 else none) else none) else none) else none))
def visorlaw21_FreshTells.j2 (k : Nat) (x1 : Int) (x3 : Bool) (v_18 : Twire_Machine × Tvisorref19_M × List Cells × List Int × Bool) (p_43 : Bool) : Option (Bool) := (bif p_43 then some false else (share_Encode.m k v_18.1 x1).bind fun v_49 => (visorref20_Encode.m k v_18.2.1 x1).bind fun v_52 => (if v_49.1.length = 3 then (if v_52.1.length = 3 then visorlaw21_FreshTells.j3 k x1 x3 v_18 v_49.2 v_52.2 v_49.1 v_52.1 else none) else none))
def visorlaw21_FreshTells.j1 (k : Nat) (x1 : Int) (x2 : List Int) (x3 : Bool) (p_5 : Int) : Option (Bool) := ((visorlaw20_Begins.m k p_5 x2 40).bind fun v => match v with | (.inl v_11) => some false | (.inr v_18) => (bif !v_18.2.2.2.2 then visorlaw21_FreshTells.j2 k x1 x3 v_18 true else (fresh_Draws.m k p_5).bind fun v_33 => (visorref21_Draws.m k p_5).bind fun v_36 => (bif v_33 != v_36 then visorlaw21_FreshTells.j2 k x1 x3 v_18 true else (fresh_Draws.m k ((x2.length : Nat) : Int)).bind fun v_39 => (visorref21_Draws.m k ((x2.length : Nat) : Int)).bind fun v_42 => visorlaw21_FreshTells.j2 k x1 x3 v_18 (v_39 != v_42))))
abbrev visorlaw21_FreshTells.R (κ : Ctx) (S : List HP) (x0 : Bool) (x1 : Int) (x2 : List Int) (x3 : Bool) (A_x2 : Option Addr) (c_x2 : Nat) (r : Bool) : Ending → World → Prop := fun e w' => e = .returned (.bool r) ∧ Own κ w' (S)
def visorlaw21_FreshTells.m (k : Nat) (x0 : Bool) (x1 : Int) (x2 : List Int) (x3 : Bool) : Option Bool := (bif x0 then visorlaw21_FreshTells.j1 k x1 x2 x3 3 else visorlaw21_FreshTells.j1 k x1 x2 x3 2)

set_option maxRecDepth 100000 in
set_option maxHeartbeats 4000000 in
theorem visorlaw21_FreshTells.ok (k : Nat) (x0 : Bool) (x1 : Int) (x2 : List Int) (x3 : Bool) (r : Bool) (hm : visorlaw21_FreshTells.m k x0 x1 x2 x3 = some r) (κ : Ctx) (w : World) (S : List HP) (A_x2 : Option Addr) (c_x2 : Nat) (hx_x2 : Sl κ [] A_x2 c_x2 1 (eI .u64) x2) (ho : Own κ w (S)) :
    Calls Try.prog 7 #[.bool x0, vw x1, .slice A_x2 x2.length c_x2, .bool x3] w (visorlaw21_FreshTells.R κ S x0 x1 x2 x3 A_x2 c_x2 r) := by
  have ht_x2 := hx_x2
  generalize hRR : visorlaw21_FreshTells.R κ S x0 x1 x2 x3 A_x2 c_x2 r = RR
  replace hx_x2 := Sl.top (S := S) hx_x2
  unfold visorlaw21_FreshTells.m at hm
  refine qen [(0, .bool x0), (1, vw x1), (2, .slice A_x2 x2.length c_x2), (3, .bool x3)] Try.func7 Try.ntmps7 ho fun a hs => ?_
  refine qsr fun K1 hK1 => ?_
  refine qpe 1 [(0, .bool x0), (1, vw x1), (2, .slice A_x2 x2.length c_x2), (3, .bool x3)] hs fun a hs => hK1 _ _ ?_
  clear hK1
  refine qsr fun K2 hK2 => ?_
  refine qpe 1 [(0, .bool x0), (1, vw x1), (2, .slice A_x2 x2.length c_x2), (3, .bool x3), (9, vi 2)] hs fun a hs => hK2 _ _ ?_
  clear hK2
  refine Vk.seq fun K3 hK3 => ?_
  have hj3 : ∀ (p_5 : Int), visorlaw21_FreshTells.j1 k x1 x2 x3 p_5 = some r → ∀ (a : Act) (w : World), St 99 a w κ [(1, vw x1), (2, .slice A_x2 x2.length c_x2), (3, .bool x3), (9, vi p_5)] (S) → K3 a w := by
    intro p_5 hm a w hs
    unfold visorlaw21_FreshTells.j1 at hm
    refine hK3 _ _ ?_
    refine qsr fun K6 hK6 => ?_
    refine qpu 2 hs fun a hs => ?_
    replace hs := hs.addRd ht_x2
    obtain ⟨v_10, h_9, hm⟩ := bind_t hm
    refine Vk.step (Vk.call (some 20) 18 #[vi p_5, .slice A_x2 x2.length c_x2, vi 40] hs (by kernel_rfl) (by kernel_rfl) (by kernel_rfl) ?_)
    refine (visorlaw20_Begins.ok k p_5 x2 40 v_10 h_9 κ w (S) A_x2 c_x2 (Own.to hs.own [0] 1 (by kernel_rfl) (by kernel_rfl))).mono ?_
    rintro _ w (⟨v_11, rfl, br8x0x_12, Ar8x0l_13, cr8x0l_14, Ar8x0v_15, cr8x0v_16, rfl, how⟩ | ⟨v_18, rfl, br8x0m_19, br8x0x_20, Ar8x0l_21, cr8x0l_22, Ar8x0v_23, cr8x0v_24, rfl, how⟩)
    · dsimp only at hm
      refine ⟨_, _, _, rfl, how, fun a hs => ?_⟩
      refine qpu 3 hs fun a hs => ?_
      refine Vk.step (Vk.alloc 10 45 [C.ptr none, C.ptr none, C.slc none 0 0, C.slc none 0 0] hs (by kernel_rfl) (by kernel_rfl) (by kernel_rfl) fun b_17 w a hs => ?_)
      refine Vk.step (Vk.storeA (b := b_17) (ty := 45) (x := (.tmp 10)) (y := (.tmp 21)) (sz := 4) [C.ptr none, cp br8x0x_12, C.slc Ar8x0l_13 v_11.2.1.length cr8x0l_14, C.slc Ar8x0v_15 v_11.2.2.length cr8x0v_16] 0 hs (by kernel_rfl) (by kernel_rfl) (by kernel_rfl) (by kernel_rfl) (by kernel_rfl) rfl (by kernel_rfl) rfl (Eq.trans (b := 4) rfl (Eq.symm rfl)) fun a w hs => ?_)
      refine qpe 1 [(1, vw x1), (2, .slice A_x2 x2.length c_x2), (3, .bool x3), (9, vi p_5), (10, pp b_17), (11, .bool false)] hs fun a hs => hK6 _ _ ?_
      refine Vk.seq fun K26 hK26 => ?_
      refine qsr fun K27 hK27 => ?_
      refine qpe 18 [(1, vw x1), (3, .bool x3), (10, pp b_17), (40, .bool true)] hs fun a hs => hK27 _ _ ?_
      clear hK27
      refine qct hs ?_
      refine qsr fun K28 hK28 => ?_
      refine qpe 1 [(8, .bool false)] hs fun a hs => hK28 _ _ ?_
      clear hK28
      refine wp_ret ?_
      exact Vk.ret1 (P := Try.prog) (fn := Try.f7) (R := RR) (.bool false) hs rfl (by kernel_rfl) (by obtain rfl := Option.some.inj hm; subst hRR; exact ⟨rfl, (Own.to hs.own [] 4 (by kernel_rfl) (by kernel_rfl))⟩)
    · dsimp only at hm
      refine ⟨_, _, _, rfl, how, fun a hs => ?_⟩
      refine qpu 3 hs fun a hs => ?_
      refine Vk.step (Vk.alloc 10 45 [C.ptr none, C.ptr none, C.slc none 0 0, C.slc none 0 0] hs (by kernel_rfl) (by kernel_rfl) (by kernel_rfl) fun b_25 w a hs => ?_)
      refine Vk.step (Vk.storeA (b := b_25) (ty := 45) (x := (.tmp 10)) (y := (.tmp 21)) (sz := 4) [cp br8x0m_19, cp br8x0x_20, C.slc Ar8x0l_21 v_18.2.2.1.length cr8x0l_22, C.slc Ar8x0v_23 v_18.2.2.2.1.length cr8x0v_24] 0 hs (by kernel_rfl) (by kernel_rfl) (by kernel_rfl) (by kernel_rfl) (by kernel_rfl) rfl (by kernel_rfl) rfl (Eq.trans (b := 4) rfl (Eq.symm rfl)) fun a w hs => ?_)
      refine qpe 1 [(1, vw x1), (2, .slice A_x2 x2.length c_x2), (3, .bool x3), (9, vi p_5), (10, pp b_25), (11, .bool v_18.2.2.2.2)] hs fun a hs => hK6 _ _ ?_
      refine Vk.seq fun K29 hK29 => ?_
      refine Vk.seq fun K30 hK30 => ?_
      have hj30 : ∀ (p_43 : Bool), visorlaw21_FreshTells.j2 k x1 x3 v_18 p_43 = some r → ∀ (a : Act) (w : World), St 99 a w κ [(1, vw x1), (3, .bool x3), (10, pp b_25), (40, .bool p_43)] (pt b_25 (blk [cp br8x0m_19, cp br8x0x_20, C.slc Ar8x0l_21 v_18.2.2.1.length cr8x0l_22, C.slc Ar8x0v_23 v_18.2.2.2.1.length cr8x0v_24] 45) :: Twire_Machine.own br8x0m_19 v_18.1 :: Tvisorref19_M.own κ br8x0x_20 v_18.2.1 :: rowp Ar8x0l_21 cr8x0l_22 28 3 eC v_18.2.2.1 :: rowp Ar8x0v_23 cr8x0v_24 32 1 (eI .u64) v_18.2.2.2.1 :: S) → K30 a w := by
        intro p_43 hm a w hs
        unfold visorlaw21_FreshTells.j2 at hm
        refine hK30 _ _ ?_
        refine qcs (p_43) hs (fun hb => ?_) fun hb => ?_
        · replace hm := bif_t hm hb
          refine qsr fun K44 hK44 => ?_
          refine qpe 1 [(8, .bool false)] hs fun a hs => hK44 _ _ ?_
          clear hK44
          refine wp_ret ?_
          exact Vk.ret1 (P := Try.prog) (fn := Try.f7) (R := RR) (.bool false) hs rfl (by kernel_rfl) (by obtain rfl := Option.some.inj hm; subst hRR; exact ⟨rfl, (Own.to hs.own [] 5 (by kernel_rfl) (by kernel_rfl))⟩)
        · replace hm := bif_f hm hb
          refine wp_skip ?_
          refine hK29 _ _ ?_
          clear hK29
          refine Vk.seq fun K45 hK45 => ?_
          have hj45 : ∀ (p_57 : Twire_Machine) (p_58 : Tvisorref19_M) (p_60 : Cells) (p_62 : Cells), visorlaw21_FreshTells.j3 k x1 x3 v_18 p_57 p_58 p_60 p_62 = some r → ∀ (b_59 : Nat) (b_61 : Nat) (a : Act) (w : World), St 99 a w κ [(1, vw x1), (3, .bool x3), (10, pp b_25), (12, pp b_59), (13, pp b_61)] (pt b_25 (blk [cp br8x0m_19, cp br8x0x_20, C.slc Ar8x0l_21 v_18.2.2.1.length cr8x0l_22, C.slc Ar8x0v_23 v_18.2.2.2.1.length cr8x0v_24] 45) :: Twire_Machine.own br8x0m_19 p_57 :: Tvisorref19_M.own κ br8x0x_20 p_58 :: rowp Ar8x0l_21 cr8x0l_22 28 3 eC v_18.2.2.1 :: rowp Ar8x0v_23 cr8x0v_24 32 1 (eI .u64) v_18.2.2.2.1 :: pt b_59 (blk p_60 28) :: pt b_61 (blk p_62 28) :: S) → K45 a w := by
            intro p_57 p_58 p_60 p_62 hm b_59 b_61 a w hs
            unfold visorlaw21_FreshTells.j3 at hm
            refine hK45 _ _ ?_
            refine qsr fun K63 hK63 => ?_
            refine qpu 2 hs fun a hs => ?_
            refine Vk.step (Vk.alloc 14 28 [ci 0, ci 0, ci 0] hs (by kernel_rfl) (by kernel_rfl) (by kernel_rfl) fun b_64 w a hs => ?_)
            refine Vk.step (Vk.alloc 15 28 [ci 0, ci 0, ci 0] hs (by kernel_rfl) (by kernel_rfl) (by kernel_rfl) fun b_65 w a hs => ?_)
            refine Vk.step (Vk.storeA (b := b_64) (ty := 28) (x := (.tmp 14)) (y := (.tmp 49)) (sz := 3) [ci 0, ci 0, ci 0] 1 hs (by kernel_rfl) (by kernel_rfl) (by kernel_rfl) (by kernel_rfl) (by kernel_rfl) rfl (by kernel_rfl) rfl (Eq.trans (b := 3) rfl (Eq.symm rfl)) fun a w hs => ?_)
            refine Vk.step (Vk.storeA (b := b_65) (ty := 28) (x := (.tmp 15)) (y := (.tmp 50)) (sz := 3) [ci 0, ci 0, ci 0] 0 hs (by kernel_rfl) (by kernel_rfl) (by kernel_rfl) (by kernel_rfl) (by kernel_rfl) rfl (by kernel_rfl) rfl (Eq.trans (b := 3) rfl (Eq.symm rfl)) fun a w hs => ?_)
            refine qpe 0 [(1, vw x1), (3, .bool x3), (10, pp b_25), (12, pp b_59), (13, pp b_61), (14, pp b_64), (15, pp b_65)] hs fun a hs => hK63 _ _ ?_
            clear hK63
            refine Vk.seq fun K66 hK66 => ?_
            have hj66 : ∀ (p_90 : Twire_Machine) (p_91 : Tvisorref19_M) (p_92 : Cells) (p_93 : Cells), visorlaw21_FreshTells.j4 k x1 v_18 p_60 p_62 p_90 p_91 p_92 p_93 = some r → ∀ (a : Act) (w : World), St 99 a w κ [(1, vw x1), (10, pp b_25), (12, pp b_59), (13, pp b_61), (14, pp b_64), (15, pp b_65)] (pt b_25 (blk [cp br8x0m_19, cp br8x0x_20, C.slc Ar8x0l_21 v_18.2.2.1.length cr8x0l_22, C.slc Ar8x0v_23 v_18.2.2.2.1.length cr8x0v_24] 45) :: Twire_Machine.own br8x0m_19 p_90 :: Tvisorref19_M.own κ br8x0x_20 p_91 :: rowp Ar8x0l_21 cr8x0l_22 28 3 eC v_18.2.2.1 :: rowp Ar8x0v_23 cr8x0v_24 32 1 (eI .u64) v_18.2.2.2.1 :: pt b_59 (blk p_60 28) :: pt b_61 (blk p_62 28) :: pt b_64 (blk p_92 28) :: pt b_65 (blk p_93 28) :: S) → K66 a w := by
              intro p_90 p_91 p_92 p_93 hm a w hs
              unfold visorlaw21_FreshTells.j4 at hm
              refine hK66 _ _ ?_
              refine Vk.seq fun K94 hK94 => ?_
              refine Vk.seq fun K95 hK95 => ?_
              have hj95 : ∀ (p_110 : Bool), visorlaw21_FreshTells.j5 k x1 p_90 p_91 p_92 p_110 = some r → ∀ (a : Act) (w : World), St 99 a w κ [(1, vw x1), (10, pp b_25), (14, pp b_64), (80, .bool p_110)] (pt b_25 (blk [cp br8x0m_19, cp br8x0x_20, C.slc Ar8x0l_21 v_18.2.2.1.length cr8x0l_22, C.slc Ar8x0v_23 v_18.2.2.2.1.length cr8x0v_24] 45) :: Twire_Machine.own br8x0m_19 p_90 :: Tvisorref19_M.own κ br8x0x_20 p_91 :: rowp Ar8x0l_21 cr8x0l_22 28 3 eC v_18.2.2.1 :: rowp Ar8x0v_23 cr8x0v_24 32 1 (eI .u64) v_18.2.2.2.1 :: pt b_64 (blk p_92 28) :: S) → K95 a w := by
                intro p_110 hm a w hs
                unfold visorlaw21_FreshTells.j5 at hm
                refine hK95 _ _ ?_
                refine qcs (p_110) hs (fun hb => ?_) fun hb => ?_
                · replace hm := bif_t hm hb
                  refine qsr fun K111 hK111 => ?_
                  refine qpe 1 [(8, .bool false)] hs fun a hs => hK111 _ _ ?_
                  clear hK111
                  refine wp_ret ?_
                  exact Vk.ret1 (P := Try.prog) (fn := Try.f7) (R := RR) (.bool false) hs rfl (by kernel_rfl) (by obtain rfl := Option.some.inj hm; subst hRR; exact ⟨rfl, (Own.to hs.own [] 6 (by kernel_rfl) (by kernel_rfl))⟩)
                · replace hm := bif_f hm hb
                  refine wp_skip ?_
                  refine hK94 _ _ ?_
                  clear hK94
                  refine Vk.seq fun K112 hK112 => ?_
                  have hj112 : ∀ (p_135 : Bool), visorlaw21_FreshTells.j6 k p_135 = some r → ∀ (a : Act) (w : World), St 99 a w κ [(8, .bool p_135)] (S) → K112 a w := by
                    intro p_135 hm a w hs
                    unfold visorlaw21_FreshTells.j6 at hm
                    refine hK112 _ _ ?_
                    refine wp_ret ?_
                    exact Vk.ret1 (P := Try.prog) (fn := Try.f7) (R := RR) (.bool p_135) hs rfl (by kernel_rfl) (by obtain rfl := Option.some.inj hm; subst hRR; exact ⟨rfl, (Own.to hs.own [] 0 (by kernel_rfl) (by kernel_rfl))⟩)
                  obtain ⟨g_113, hs⟩ := hs.unbag 2 rfl
                  obtain ⟨C_118, hC_118⟩ : ∃ X0 : List HP, X0 = (pt br8x0x_20 (blk (Tvisorref19_M.obj p_91 g_113.1 g_113.2.1 g_113.2.2.1 g_113.2.2.2.1 g_113.2.2.2.2.1 g_113.2.2.2.2.2.1 g_113.2.2.2.2.2.2.1 g_113.2.2.2.2.2.2.2) 64) :: rowp g_113.1 g_113.2.1 93 6 Tapi_Op.cells p_91.ops :: rowp g_113.2.2.1 g_113.2.2.2.1 175 3 Tapi_Span.cells p_91.blocks :: rowp g_113.2.2.2.2.1 g_113.2.2.2.2.2.1 32 1 (eI .u64) p_91.val :: rdp κ g_113.2.2.2.2.2.2.1 g_113.2.2.2.2.2.2.2 1 (eI .u64) p_91.tape.l :: pt b_25 (blk [cp br8x0m_19, cp br8x0x_20, C.slc Ar8x0l_21 v_18.2.2.1.length cr8x0l_22, C.slc Ar8x0v_23 v_18.2.2.2.1.length cr8x0v_24] 45) :: rowp Ar8x0l_21 cr8x0l_22 28 3 eC v_18.2.2.1 :: rowp Ar8x0v_23 cr8x0v_24 32 1 (eI .u64) v_18.2.2.2.1 :: pt b_64 (blk p_92 28) :: S) := ⟨_, rfl⟩
                  refine qdr 19 κ C_118 hs fun w hs hqC_118 => ?_
                  have hcz : Own κ w (pt br8x0x_20 (blk (Tvisorref19_M.obj p_91 g_113.1 g_113.2.1 g_113.2.2.1 g_113.2.2.2.1 g_113.2.2.2.2.1 g_113.2.2.2.2.2.1 g_113.2.2.2.2.2.2.1 g_113.2.2.2.2.2.2.2) 64) :: rowp g_113.1 g_113.2.1 93 6 Tapi_Op.cells p_91.ops :: rowp g_113.2.2.1 g_113.2.2.2.1 175 3 Tapi_Span.cells p_91.blocks :: rowp g_113.2.2.2.2.1 g_113.2.2.2.2.2.1 32 1 (eI .u64) p_91.val :: rdp κ g_113.2.2.2.2.2.2.1 g_113.2.2.2.2.2.2.2 1 (eI .u64) p_91.tape.l :: pt b_25 (blk [cp br8x0m_19, cp br8x0x_20, C.slc Ar8x0l_21 v_18.2.2.1.length cr8x0l_22, C.slc Ar8x0v_23 v_18.2.2.2.1.length cr8x0v_24] 45) :: rowp Ar8x0l_21 cr8x0l_22 28 3 eC v_18.2.2.1 :: rowp Ar8x0v_23 cr8x0v_24 32 1 (eI .u64) v_18.2.2.2.1 :: pt b_64 (blk p_92 28) :: S) := (Own.to hs.own [0, 1, 2, 3, 4, 5, 7, 8, 9] 10 (by kernel_rfl) (by kernel_rfl))
                  have hcl : Own κ w C_118 := by rw [hC_118]; exact hcz
                  refine qdp (fuel := 18) [0] hs hcl hqC_118 fun a hs => ?_
                  refine qdl 1 5 (cp br8x0x_20) hs hcl hqC_118 hC_118 rfl fun a hs => ?_
                  refine qdp (fuel := 15) [2, 3] hs hcl hqC_118 fun a hs => ?_
                  refine qdl 4 0 (ci p_91.e) hs hcl hqC_118 hC_118 rfl fun a hs => ?_
                  refine qdp (fuel := 12) [5, 6] hs hcl hqC_118 fun a hs => ?_
                  rcases Bool.eq_false_or_eq_true (p_91.e != 0) with hb | hb
                  · replace hm := bif_t hm hb
                    replace hs := hs.known (t := 87) hb (by kernel_rfl)
                    refine qdp (fuel := 3) [7, 8, 9, 10, 11, 12, 13, 14, 15] hs hcl hqC_118 fun a hs => ?_
                    obtain ⟨v_121, h_120, hm⟩ := bind_t hm
                    refine Vk.dOnly (i := 16) (by kernel_rfl) (Vk.call (some 97) 16 #[] hs (by kernel_rfl) (by kernel_rfl) (by kernel_rfl) ?_)
                    refine (visorlaw21_awake.ok k v_121 h_120 κ w (pt br8x0x_20 (blk (Tvisorref19_M.obj p_91 g_113.1 g_113.2.1 g_113.2.2.1 g_113.2.2.2.1 g_113.2.2.2.2.1 g_113.2.2.2.2.2.1 g_113.2.2.2.2.2.2.1 g_113.2.2.2.2.2.2.2) 64) :: rowp g_113.1 g_113.2.1 93 6 Tapi_Op.cells p_91.ops :: rowp g_113.2.2.1 g_113.2.2.2.1 175 3 Tapi_Span.cells p_91.blocks :: rowp g_113.2.2.2.2.1 g_113.2.2.2.2.2.1 32 1 (eI .u64) p_91.val :: rdp κ g_113.2.2.2.2.2.2.1 g_113.2.2.2.2.2.2.2 1 (eI .u64) p_91.tape.l :: pt b_25 (blk [cp br8x0m_19, cp br8x0x_20, C.slc Ar8x0l_21 v_18.2.2.1.length cr8x0l_22, C.slc Ar8x0v_23 v_18.2.2.2.1.length cr8x0v_24] 45) :: Twire_Machine.own br8x0m_19 p_90 :: rowp Ar8x0l_21 cr8x0l_22 28 3 eC v_18.2.2.1 :: rowp Ar8x0v_23 cr8x0v_24 32 1 (eI .u64) v_18.2.2.2.1 :: pt b_64 (blk p_92 28) :: S) hs.own).mono ?_
                    rintro _ w ⟨rfl, how⟩
                    refine ⟨_, _, _, rfl, how, fun a hs => ?_⟩
                    replace hcl : Own κ w C_118 := by rw [hC_118]; exact (Own.to hs.own [0, 1, 2, 3, 4, 5, 7, 8, 9] 10 (by kernel_rfl) (by kernel_rfl))
                    refine ⟨fun _ => hcl, ?_⟩
                    refine qdp (fuel := 0) [17, 18] hs hcl hqC_118 fun a hs => ?_
                    replace hs := hs.pick [8] (L' := [(8, .bool v_121)]) (by kernel_rfl)
                    refine Vk.dDone (by kernel_rfl) ?_
                    replace hs := hs.bagG (l := Tvisorref19_M.parts κ br8x0x_20 p_91 g_113) (S' := pt b_25 (blk [cp br8x0m_19, cp br8x0x_20, C.slc Ar8x0l_21 v_18.2.2.1.length cr8x0l_22, C.slc Ar8x0v_23 v_18.2.2.2.1.length cr8x0v_24] 45) :: Twire_Machine.own br8x0m_19 p_90 :: rowp Ar8x0l_21 cr8x0l_22 28 3 eC v_18.2.2.1 :: rowp Ar8x0v_23 cr8x0v_24 32 1 (eI .u64) v_18.2.2.2.1 :: pt b_64 (blk p_92 28) :: S) (Own.to hs.own [0, 1, 2, 3, 4, 5, 6, 7, 8, 9] 10 (by kernel_rfl) (by kernel_rfl))
                    replace hs := hs.toEx (Tvisorref19_M.parts κ br8x0x_20 p_91) g_113 0 rfl
                    exact hj112 v_121 hm _ _ (hs.go [8] [] 6 (by kernel_rfl) (by kernel_rfl) (by kernel_rfl))
                  · replace hm := bif_f hm hb
                    replace hs := hs.known (t := 87) hb (by kernel_rfl)
                    refine qdp (fuel := 10) [7, 12] hs hcl hqC_118 fun a hs => ?_
                    refine qdl 8 5 (cp br8x0m_19) hs hcl hqC_118 hC_118 rfl fun a hs => ?_
                    obtain ⟨h_122, hm⟩ := ite_t hm
                    refine Vk.dTakeT (i := 10) (some 91) (.agg (vals p_92)) hs (by kernel_rfl) hqC_118 hcl (by kernel_rfl) (by kernel_rfl) (op := (.load 28 (.tmp 14))) (by kernel_rfl) (by kernel_rfl) (fun w hw o ho => by rw [hC_118] at hw; exact run_loadN (cs := p_92) ho (by kernel_rfl) (by kernel_rfl) h_122 (CellsAt.all 8 rfl) _ hw) fun a hs => ?_
                    obtain ⟨g_123, hs⟩ := hs.unex 6 rfl
                    obtain ⟨v_126, h_125, hm⟩ := bind_t hm
                    refine Vk.dOnly (i := 9) (by kernel_rfl) (Vk.call (some 90) 22 #[pp br8x0m_19] hs (by kernel_rfl) (by kernel_rfl) (by kernel_rfl) ?_)
                    refine (wire_Machine_Values.ok k p_90 v_126 h_125 κ w (pt br8x0x_20 (blk (Tvisorref19_M.obj p_91 g_113.1 g_113.2.1 g_113.2.2.1 g_113.2.2.2.1 g_113.2.2.2.2.1 g_113.2.2.2.2.2.1 g_113.2.2.2.2.2.2.1 g_113.2.2.2.2.2.2.2) 64) :: rowp g_113.1 g_113.2.1 93 6 Tapi_Op.cells p_91.ops :: rowp g_113.2.2.1 g_113.2.2.2.1 175 3 Tapi_Span.cells p_91.blocks :: rowp g_113.2.2.2.2.1 g_113.2.2.2.2.2.1 32 1 (eI .u64) p_91.val :: rdp κ g_113.2.2.2.2.2.2.1 g_113.2.2.2.2.2.2.2 1 (eI .u64) p_91.tape.l :: pt b_25 (blk [cp br8x0m_19, cp br8x0x_20, C.slc Ar8x0l_21 v_18.2.2.1.length cr8x0l_22, C.slc Ar8x0v_23 v_18.2.2.2.1.length cr8x0v_24] 45) :: rowp Ar8x0l_21 cr8x0l_22 28 3 eC v_18.2.2.1 :: rowp Ar8x0v_23 cr8x0v_24 32 1 (eI .u64) v_18.2.2.2.1 :: pt b_64 (blk p_92 28) :: S) br8x0m_19 g_123 (Own.to hs.own [6, 0, 1, 2, 3, 4, 5, 7, 8, 9] 10 (by kernel_rfl) (by kernel_rfl))).mono ?_
                    rintro _ w ⟨Ar124x0_127, cr124x0_128, rfl, how⟩
                    refine ⟨_, _, _, rfl, how, fun a hs => ?_⟩
                    replace hcl : Own κ w C_118 := by rw [hC_118]; exact (Own.to hs.own [2, 3, 4, 5, 6, 7, 8, 9, 10] 11 (by kernel_rfl) (by kernel_rfl))
                    refine ⟨fun _ => hcl, ?_⟩
                    obtain ⟨v_131, h_130, hm⟩ := bind_t hm
                    refine Vk.dOnly (i := 11) (by kernel_rfl) (Vk.call (some 92) 28 #[.slice Ar124x0_127 v_126.length cr124x0_128, .agg (vals p_92)] hs (by kernel_rfl) (by kernel_rfl) (by kernel_rfl) ?_)
                    refine (share_Value.ok k v_126 p_92 v_131 h_130 κ w (rowp Ar124x0_127 cr124x0_128 32 1 (eI .u64) v_126 :: bagL (Twire_Machine.parts br8x0m_19 p_90 g_123) :: pt br8x0x_20 (blk (Tvisorref19_M.obj p_91 g_113.1 g_113.2.1 g_113.2.2.1 g_113.2.2.2.1 g_113.2.2.2.2.1 g_113.2.2.2.2.2.1 g_113.2.2.2.2.2.2.1 g_113.2.2.2.2.2.2.2) 64) :: rowp g_113.1 g_113.2.1 93 6 Tapi_Op.cells p_91.ops :: rowp g_113.2.2.1 g_113.2.2.2.1 175 3 Tapi_Span.cells p_91.blocks :: rowp g_113.2.2.2.2.1 g_113.2.2.2.2.2.1 32 1 (eI .u64) p_91.val :: rdp κ g_113.2.2.2.2.2.2.1 g_113.2.2.2.2.2.2.2 1 (eI .u64) p_91.tape.l :: pt b_25 (blk [cp br8x0m_19, cp br8x0x_20, C.slc Ar8x0l_21 v_18.2.2.1.length cr8x0l_22, C.slc Ar8x0v_23 v_18.2.2.2.1.length cr8x0v_24] 45) :: rowp Ar8x0l_21 cr8x0l_22 28 3 eC v_18.2.2.1 :: rowp Ar8x0v_23 cr8x0v_24 32 1 (eI .u64) v_18.2.2.2.1 :: pt b_64 (blk p_92 28) :: S) Ar124x0_127 cr124x0_128 (Sl.lift (fun w ho => (Own.to (S' := rowp Ar124x0_127 cr124x0_128 32 1 (eI .u64) v_126 :: S) ho [0] 11 (by kernel_rfl) (by kernel_rfl))) (Own.rowSl 0 (Own.to (S' := rowp Ar124x0_127 cr124x0_128 32 1 (eI .u64) v_126 :: S) hs.own [0] 11 (by kernel_rfl) (by kernel_rfl)) rfl)) hs.own).mono ?_
                    rintro _ w ⟨rfl, how⟩
                    refine ⟨_, _, _, rfl, how, fun a hs => ?_⟩
                    replace hcl : Own κ w C_118 := by rw [hC_118]; exact (Own.to hs.own [2, 3, 4, 5, 6, 7, 8, 9, 10] 11 (by kernel_rfl) (by kernel_rfl))
                    refine ⟨fun _ => hcl, ?_⟩
                    refine qdp (fuel := 3) [13, 14, 15] hs hcl hqC_118 fun a hs => ?_
                    rcases Bool.eq_false_or_eq_true (v_131 == x1) with hb | hb
                    · replace hm := bif_t hm hb
                      replace hs := hs.known (t := 96) hb (by kernel_rfl)
                      obtain ⟨v_134, h_133, hm⟩ := bind_t hm
                      refine Vk.dOnly (i := 16) (by kernel_rfl) (Vk.call (some 97) 16 #[] hs (by kernel_rfl) (by kernel_rfl) (by kernel_rfl) ?_)
                      refine (visorlaw21_awake.ok k v_134 h_133 κ w (rowp Ar124x0_127 cr124x0_128 32 1 (eI .u64) v_126 :: bagL (Twire_Machine.parts br8x0m_19 p_90 g_123) :: pt br8x0x_20 (blk (Tvisorref19_M.obj p_91 g_113.1 g_113.2.1 g_113.2.2.1 g_113.2.2.2.1 g_113.2.2.2.2.1 g_113.2.2.2.2.2.1 g_113.2.2.2.2.2.2.1 g_113.2.2.2.2.2.2.2) 64) :: rowp g_113.1 g_113.2.1 93 6 Tapi_Op.cells p_91.ops :: rowp g_113.2.2.1 g_113.2.2.2.1 175 3 Tapi_Span.cells p_91.blocks :: rowp g_113.2.2.2.2.1 g_113.2.2.2.2.2.1 32 1 (eI .u64) p_91.val :: rdp κ g_113.2.2.2.2.2.2.1 g_113.2.2.2.2.2.2.2 1 (eI .u64) p_91.tape.l :: pt b_25 (blk [cp br8x0m_19, cp br8x0x_20, C.slc Ar8x0l_21 v_18.2.2.1.length cr8x0l_22, C.slc Ar8x0v_23 v_18.2.2.2.1.length cr8x0v_24] 45) :: rowp Ar8x0l_21 cr8x0l_22 28 3 eC v_18.2.2.1 :: rowp Ar8x0v_23 cr8x0v_24 32 1 (eI .u64) v_18.2.2.2.1 :: pt b_64 (blk p_92 28) :: S) hs.own).mono ?_
                      rintro _ w ⟨rfl, how⟩
                      refine ⟨_, _, _, rfl, how, fun a hs => ?_⟩
                      replace hcl : Own κ w C_118 := by rw [hC_118]; exact (Own.to hs.own [2, 3, 4, 5, 6, 7, 8, 9, 10] 11 (by kernel_rfl) (by kernel_rfl))
                      refine ⟨fun _ => hcl, ?_⟩
                      refine qdp (fuel := 0) [17, 18] hs hcl hqC_118 fun a hs => ?_
                      replace hs := hs.pick [8] (L' := [(8, .bool v_134)]) (by kernel_rfl)
                      refine Vk.dDone (by kernel_rfl) ?_
                      replace hs := hs.bagG (l := Tvisorref19_M.parts κ br8x0x_20 p_91 g_113) (S' := rowp Ar124x0_127 cr124x0_128 32 1 (eI .u64) v_126 :: bagL (Twire_Machine.parts br8x0m_19 p_90 g_123) :: pt b_25 (blk [cp br8x0m_19, cp br8x0x_20, C.slc Ar8x0l_21 v_18.2.2.1.length cr8x0l_22, C.slc Ar8x0v_23 v_18.2.2.2.1.length cr8x0v_24] 45) :: rowp Ar8x0l_21 cr8x0l_22 28 3 eC v_18.2.2.1 :: rowp Ar8x0v_23 cr8x0v_24 32 1 (eI .u64) v_18.2.2.2.1 :: pt b_64 (blk p_92 28) :: S) (Own.to hs.own [2, 3, 4, 5, 6, 0, 1, 7, 8, 9, 10] 11 (by kernel_rfl) (by kernel_rfl))
                      replace hs := hs.toEx (Tvisorref19_M.parts κ br8x0x_20 p_91) g_113 0 rfl
                      replace hs := hs.toEx (Twire_Machine.parts br8x0m_19 p_90) g_123 2 rfl
                      exact hj112 v_134 hm _ _ (hs.go [8] [] 7 (by kernel_rfl) (by kernel_rfl) (by kernel_rfl))
                    · replace hm := bif_f hm hb
                      replace hs := hs.known (t := 96) hb (by kernel_rfl)
                      refine qdp (fuel := 0) [16, 17, 18] hs hcl hqC_118 fun a hs => ?_
                      replace hs := hs.pick [8] (L' := [(8, .bool false)]) (by kernel_rfl)
                      refine Vk.dDone (by kernel_rfl) ?_
                      replace hs := hs.bagG (l := Tvisorref19_M.parts κ br8x0x_20 p_91 g_113) (S' := rowp Ar124x0_127 cr124x0_128 32 1 (eI .u64) v_126 :: bagL (Twire_Machine.parts br8x0m_19 p_90 g_123) :: pt b_25 (blk [cp br8x0m_19, cp br8x0x_20, C.slc Ar8x0l_21 v_18.2.2.1.length cr8x0l_22, C.slc Ar8x0v_23 v_18.2.2.2.1.length cr8x0v_24] 45) :: rowp Ar8x0l_21 cr8x0l_22 28 3 eC v_18.2.2.1 :: rowp Ar8x0v_23 cr8x0v_24 32 1 (eI .u64) v_18.2.2.2.1 :: pt b_64 (blk p_92 28) :: S) (Own.to hs.own [2, 3, 4, 5, 6, 0, 1, 7, 8, 9, 10] 11 (by kernel_rfl) (by kernel_rfl))
                      replace hs := hs.toEx (Tvisorref19_M.parts κ br8x0x_20 p_91) g_113 0 rfl
                      replace hs := hs.toEx (Twire_Machine.parts br8x0m_19 p_90) g_123 2 rfl
                      exact hj112 false hm _ _ (hs.go [8] [] 7 (by kernel_rfl) (by kernel_rfl) (by kernel_rfl))
              refine Vk.region ?_
              obtain ⟨h_96, hm⟩ := ite_t hm
              refine Vk.step (Vk.value (some 68) (.agg (vals p_60)) hs (by kernel_rfl) (op := (.load 28 (.tmp 12))) (by kernel_rfl) (fun o ho => run_loadN (cs := p_60) ho (by kernel_rfl) (by kernel_rfl) h_96 (CellsAt.all 5 rfl) _ hs.own) fun a hs => ?_)
              obtain ⟨h_97, hm⟩ := ite_t hm
              refine Vk.step (Vk.value (some 69) (.agg (vals p_62)) hs (by kernel_rfl) (op := (.load 28 (.tmp 13))) (by kernel_rfl) (fun o ho => run_loadN (cs := p_62) ho (by kernel_rfl) (by kernel_rfl) h_97 (CellsAt.all 6 rfl) _ hs.own) fun a hs => ?_)
              obtain ⟨h_98, hm⟩ := ite_t hm
              obtain ⟨h_99, hm⟩ := ite_t hm
              refine Vk.step (Vk.value (some 70) (.bool (!(ceq p_60 p_62))) hs (by kernel_rfl) (op := (.binOp .neq 28 (.tmp 68) (.tmp 69) 28)) (by kernel_rfl) (fun o ho => run_neqV (ks := ((List.replicate 3 [LK.int .i64]).flatten)) (cs := p_60) (us := p_62) ho (by kernel_rfl) (by kernel_rfl) (by kernel_rfl) h_98 h_99 _) fun a hs => ?_)
              refine qpu 1 hs fun a hs => ?_
              rcases Bool.eq_false_or_eq_true (!(ceq p_60 p_62)) with hb | hb
              · replace hm := bif_t hm hb
                replace hs := hs.known (t := 71) hb (by kernel_rfl)
                refine qpe 9 [(1, vw x1), (10, pp b_25), (14, pp b_64), (80, .bool true)] hs fun a hs => ?_
                exact hj95 true hm _ _ (hs.go [1, 10, 14, 80] [0, 1, 2, 3, 4, 7] 9 (by kernel_rfl) (by kernel_rfl) (by kernel_rfl))
              · replace hm := bif_f hm hb
                replace hs := hs.known (t := 71) hb (by kernel_rfl)
                obtain ⟨h_101, hm⟩ := ite_t hm
                refine Vk.step (Vk.value (some 72) (.agg (vals p_92)) hs (by kernel_rfl) (op := (.load 28 (.tmp 14))) (by kernel_rfl) (fun o ho => run_loadN (cs := p_92) ho (by kernel_rfl) (by kernel_rfl) h_101 (CellsAt.all 7 rfl) _ hs.own) fun a hs => ?_)
                obtain ⟨h_102, hm⟩ := ite_t hm
                refine Vk.step (Vk.value (some 73) (.agg (vals p_93)) hs (by kernel_rfl) (op := (.load 28 (.tmp 15))) (by kernel_rfl) (fun o ho => run_loadN (cs := p_93) ho (by kernel_rfl) (by kernel_rfl) h_102 (CellsAt.all 8 rfl) _ hs.own) fun a hs => ?_)
                obtain ⟨h_103, hm⟩ := ite_t hm
                obtain ⟨h_104, hm⟩ := ite_t hm
                refine Vk.step (Vk.value (some 74) (.bool (!(ceq p_92 p_93))) hs (by kernel_rfl) (op := (.binOp .neq 28 (.tmp 72) (.tmp 73) 28)) (by kernel_rfl) (fun o ho => run_neqV (ks := ((List.replicate 3 [LK.int .i64]).flatten)) (cs := p_92) (us := p_93) ho (by kernel_rfl) (by kernel_rfl) (by kernel_rfl) h_103 h_104 _) fun a hs => ?_)
                refine qpu 2 hs fun a hs => ?_
                rcases Bool.eq_false_or_eq_true (!(ceq p_92 p_93)) with hb | hb
                · replace hm := bif_t hm hb
                  replace hs := hs.known (t := 76) hb (by kernel_rfl)
                  refine qpe 4 [(1, vw x1), (10, pp b_25), (14, pp b_64), (80, .bool true)] hs fun a hs => ?_
                  exact hj95 true hm _ _ (hs.go [1, 10, 14, 80] [0, 1, 2, 3, 4, 7] 9 (by kernel_rfl) (by kernel_rfl) (by kernel_rfl))
                · replace hm := bif_f hm hb
                  replace hs := hs.known (t := 76) hb (by kernel_rfl)
                  refine qln 0 ([cp br8x0m_19, cp br8x0x_20, C.slc Ar8x0l_21 v_18.2.2.1.length cr8x0l_22, C.slc Ar8x0v_23 v_18.2.2.2.1.length cr8x0v_24]) hs rfl fun a hs => ?_
                  obtain ⟨g_105, hs⟩ := hs.unex 1 rfl
                  obtain ⟨g_106, hs⟩ := hs.unex 2 rfl
                  obtain ⟨v_109, h_108, hm⟩ := bind_t hm
                  refine Vk.step (Vk.call (some 78) 26 #[.agg (vals [cp br8x0m_19, cp br8x0x_20, C.slc Ar8x0l_21 v_18.2.2.1.length cr8x0l_22, C.slc Ar8x0v_23 v_18.2.2.2.1.length cr8x0v_24])] hs (by kernel_rfl) (by kernel_rfl) (by kernel_rfl) ?_)
                  refine (visorlaw20_Pair_Like.ok k (⟨p_90, p_91, v_18.2.2.1, v_18.2.2.2.1⟩ : Tvisorlaw20_Pair) v_109 h_108 κ w (pt b_25 (blk [cp br8x0m_19, cp br8x0x_20, C.slc Ar8x0l_21 v_18.2.2.1.length cr8x0l_22, C.slc Ar8x0v_23 v_18.2.2.2.1.length cr8x0v_24] 45) :: rowp Ar8x0l_21 cr8x0l_22 28 3 eC v_18.2.2.1 :: rowp Ar8x0v_23 cr8x0v_24 32 1 (eI .u64) v_18.2.2.2.1 :: pt b_59 (blk p_60 28) :: pt b_61 (blk p_62 28) :: pt b_64 (blk p_92 28) :: pt b_65 (blk p_93 28) :: S) br8x0m_19 g_105 br8x0x_20 g_106 Ar8x0l_21 cr8x0l_22 (Sl.lift (fun w ho => (Own.to (S' := rowp Ar8x0l_21 cr8x0l_22 28 3 eC v_18.2.2.1 :: S) ho [1] 7 (by kernel_rfl) (by kernel_rfl))) (Own.rowSl 0 (Own.to (S' := rowp Ar8x0l_21 cr8x0l_22 28 3 eC v_18.2.2.1 :: S) hs.own [3] 9 (by kernel_rfl) (by kernel_rfl)) rfl)) Ar8x0v_23 cr8x0v_24 (Sl.lift (fun w ho => (Own.to (S' := rowp Ar8x0v_23 cr8x0v_24 32 1 (eI .u64) v_18.2.2.2.1 :: S) ho [2] 7 (by kernel_rfl) (by kernel_rfl))) (Own.rowSl 0 (Own.to (S' := rowp Ar8x0v_23 cr8x0v_24 32 1 (eI .u64) v_18.2.2.2.1 :: S) hs.own [4] 9 (by kernel_rfl) (by kernel_rfl)) rfl)) (Own.to hs.own [1, 2, 0, 3, 4, 5, 6, 7, 8] 9 (by kernel_rfl) (by kernel_rfl))).mono ?_
                  rintro _ w ⟨rfl, how⟩
                  refine ⟨_, _, _, rfl, how, fun a hs => ?_⟩
                  refine qpe 2 [(1, vw x1), (10, pp b_25), (14, pp b_64), (80, .bool (!v_109))] hs fun a hs => ?_
                  replace hs := hs.toEx (Twire_Machine.parts br8x0m_19 p_90) g_105 0 rfl
                  replace hs := hs.toEx (Tvisorref19_M.parts κ br8x0x_20 p_91) g_106 1 rfl
                  exact hj95 (!v_109) hm _ _ (hs.go [1, 10, 14, 80] [2, 0, 1, 3, 4, 7] 9 (by kernel_rfl) (by kernel_rfl) (by kernel_rfl))
            refine qsr fun K67 hK67 => ?_
            refine qpe 1 [(1, vw x1), (10, pp b_25), (12, pp b_59), (13, pp b_61), (14, pp b_64), (15, pp b_65), (51, .bool x3)] hs fun a hs => hK67 _ _ ?_
            clear hK67
            refine qcs (x3) hs (fun hb => ?_) fun hb => ?_
            · replace hm := bif_t hm hb
              obtain ⟨C_68, hC_68⟩ : ∃ X0 : List HP, X0 = (pt b_65 (blk [ci 0, ci 0, ci 0] 28) :: pt b_64 (blk [ci 0, ci 0, ci 0] 28) :: pt b_25 (blk [cp br8x0m_19, cp br8x0x_20, C.slc Ar8x0l_21 v_18.2.2.1.length cr8x0l_22, C.slc Ar8x0v_23 v_18.2.2.2.1.length cr8x0v_24] 45) :: Tvisorref19_M.own κ br8x0x_20 p_58 :: rowp Ar8x0l_21 cr8x0l_22 28 3 eC v_18.2.2.1 :: rowp Ar8x0v_23 cr8x0v_24 32 1 (eI .u64) v_18.2.2.2.1 :: pt b_59 (blk p_60 28) :: pt b_61 (blk p_62 28) :: S) := ⟨_, rfl⟩
              refine qdr 7 κ C_68 hs fun w hs hqC_68 => ?_
              have hcz : Own κ w (pt b_65 (blk [ci 0, ci 0, ci 0] 28) :: pt b_64 (blk [ci 0, ci 0, ci 0] 28) :: pt b_25 (blk [cp br8x0m_19, cp br8x0x_20, C.slc Ar8x0l_21 v_18.2.2.1.length cr8x0l_22, C.slc Ar8x0v_23 v_18.2.2.2.1.length cr8x0v_24] 45) :: Tvisorref19_M.own κ br8x0x_20 p_58 :: rowp Ar8x0l_21 cr8x0l_22 28 3 eC v_18.2.2.1 :: rowp Ar8x0v_23 cr8x0v_24 32 1 (eI .u64) v_18.2.2.2.1 :: pt b_59 (blk p_60 28) :: pt b_61 (blk p_62 28) :: S) := (Own.to hs.own [0, 1, 2, 4, 5, 6, 7, 8] 9 (by kernel_rfl) (by kernel_rfl))
              have hcl : Own κ w C_68 := by rw [hC_68]; exact hcz
              refine qdp (fuel := 8) [0, 4] hs hcl hqC_68 fun a hs => ?_
              refine qdl 1 2 (cp br8x0m_19) hs hcl hqC_68 hC_68 rfl fun a hs => ?_
              obtain ⟨h_69, hm⟩ := ite_t hm
              refine Vk.dTakeT (i := 2) (some 54) (.agg (vals p_60)) hs (by kernel_rfl) hqC_68 hcl (by kernel_rfl) (by kernel_rfl) (op := (.load 28 (.tmp 12))) (by kernel_rfl) (by kernel_rfl) (fun w hw o ho => by rw [hC_68] at hw; exact run_loadN (cs := p_60) ho (by kernel_rfl) (by kernel_rfl) h_69 (CellsAt.all 6 rfl) _ hw) fun a hs => ?_
              refine qdl 5 2 (cp br8x0x_20) hs hcl hqC_68 hC_68 rfl fun a hs => ?_
              obtain ⟨h_70, hm⟩ := ite_t hm
              refine Vk.dTakeT (i := 6) (some 58) (.agg (vals p_62)) hs (by kernel_rfl) hqC_68 hcl (by kernel_rfl) (by kernel_rfl) (op := (.load 28 (.tmp 13))) (by kernel_rfl) (by kernel_rfl) (fun w hw o ho => by rw [hC_68] at hw; exact run_loadN (cs := p_62) ho (by kernel_rfl) (by kernel_rfl) h_70 (CellsAt.all 7 rfl) _ hw) fun a hs => ?_
              obtain ⟨v_73, h_72, hm⟩ := bind_t hm
              refine Vk.dOnly (i := 3) (by kernel_rfl) (Vk.call (some 55) 47 #[pp br8x0m_19, .agg (vals p_60)] hs (by kernel_rfl) (by kernel_rfl) (by kernel_rfl) ?_)
              refine (fresh_Simple.ok k p_57 p_60 v_73 h_72 κ w (pt b_65 (blk [ci 0, ci 0, ci 0] 28) :: pt b_64 (blk [ci 0, ci 0, ci 0] 28) :: pt b_25 (blk [cp br8x0m_19, cp br8x0x_20, C.slc Ar8x0l_21 v_18.2.2.1.length cr8x0l_22, C.slc Ar8x0v_23 v_18.2.2.2.1.length cr8x0v_24] 45) :: Tvisorref19_M.own κ br8x0x_20 p_58 :: rowp Ar8x0l_21 cr8x0l_22 28 3 eC v_18.2.2.1 :: rowp Ar8x0v_23 cr8x0v_24 32 1 (eI .u64) v_18.2.2.2.1 :: pt b_59 (blk p_60 28) :: pt b_61 (blk p_62 28) :: S) br8x0m_19 (Own.to hs.own [3, 0, 1, 2, 4, 5, 6, 7, 8] 9 (by kernel_rfl) (by kernel_rfl))).mono ?_
              rintro _ w ⟨rfl, how⟩
              refine ⟨_, _, _, rfl, how, fun a hs => ?_⟩
              replace hcl : Own κ w C_68 := by rw [hC_68]; exact (Own.to hs.own [1, 2, 3, 4, 5, 6, 7, 8] 9 (by kernel_rfl) (by kernel_rfl))
              refine ⟨fun _ => hcl, ?_⟩
              obtain ⟨v_76, h_75, hm⟩ := bind_t hm
              refine Vk.dOnly (i := 7) (by kernel_rfl) (Vk.call (some 59) 48 #[pp br8x0x_20, .agg (vals p_62)] hs (by kernel_rfl) (by kernel_rfl) (by kernel_rfl) ?_)
              refine (visorref21_Simple.ok k p_58 p_62 v_76 h_75 κ w (Twire_Machine.own br8x0m_19 v_73.2 :: pt b_65 (blk [ci 0, ci 0, ci 0] 28) :: pt b_64 (blk [ci 0, ci 0, ci 0] 28) :: pt b_25 (blk [cp br8x0m_19, cp br8x0x_20, C.slc Ar8x0l_21 v_18.2.2.1.length cr8x0l_22, C.slc Ar8x0v_23 v_18.2.2.2.1.length cr8x0v_24] 45) :: rowp Ar8x0l_21 cr8x0l_22 28 3 eC v_18.2.2.1 :: rowp Ar8x0v_23 cr8x0v_24 32 1 (eI .u64) v_18.2.2.2.1 :: pt b_59 (blk p_60 28) :: pt b_61 (blk p_62 28) :: S) br8x0x_20 (Own.to hs.own [4, 0, 1, 2, 3, 5, 6, 7, 8] 9 (by kernel_rfl) (by kernel_rfl))).mono ?_
              rintro _ w ⟨rfl, how⟩
              refine ⟨_, _, _, rfl, how, fun a hs => ?_⟩
              refine ⟨fun h => absurd h (by decide), ?_⟩
              obtain ⟨h_77, hm⟩ := ite_t hm
              refine Vk.dOnly (i := 8) (by kernel_rfl) (Vk.storeA (b := b_64) (ty := 28) (x := (.tmp 14)) (y := (.tmp 55)) (sz := 3) v_73.1 3 hs (by kernel_rfl) (by kernel_rfl) (by kernel_rfl) (by kernel_rfl) (by kernel_rfl) h_77 (by kernel_rfl) rfl (Eq.trans (b := 3) h_77 (Eq.symm rfl)) fun a w hs => ?_)
              refine ⟨fun h => absurd h (by decide), ?_⟩
              obtain ⟨h_78, hm⟩ := ite_t hm
              refine Vk.dOnly (i := 9) (by kernel_rfl) (Vk.storeA (b := b_65) (ty := 28) (x := (.tmp 15)) (y := (.tmp 59)) (sz := 3) v_76.1 2 hs (by kernel_rfl) (by kernel_rfl) (by kernel_rfl) (by kernel_rfl) (by kernel_rfl) h_78 (by kernel_rfl) rfl (Eq.trans (b := 3) h_78 (Eq.symm rfl)) fun a w hs => ?_)
              refine ⟨fun h => absurd h (by decide), ?_⟩
              replace hs := hs.pick [1, 10, 12, 13, 14, 15] (L' := [(1, vw x1), (10, pp b_25), (12, pp b_59), (13, pp b_61), (14, pp b_64), (15, pp b_65)]) (by kernel_rfl)
              refine Vk.dDone (by kernel_rfl) ?_
              exact hj66 v_73.2 v_76.2 v_73.1 v_76.1 hm _ _ (hs.go [1, 10, 12, 13, 14, 15] [4, 1, 0, 5, 6, 7, 8, 3, 2] 9 (by kernel_rfl) (by kernel_rfl) (by kernel_rfl))
            · replace hm := bif_f hm hb
              obtain ⟨C_79, hC_79⟩ : ∃ X0 : List HP, X0 = (pt b_65 (blk [ci 0, ci 0, ci 0] 28) :: pt b_64 (blk [ci 0, ci 0, ci 0] 28) :: pt b_25 (blk [cp br8x0m_19, cp br8x0x_20, C.slc Ar8x0l_21 v_18.2.2.1.length cr8x0l_22, C.slc Ar8x0v_23 v_18.2.2.2.1.length cr8x0v_24] 45) :: Tvisorref19_M.own κ br8x0x_20 p_58 :: rowp Ar8x0l_21 cr8x0l_22 28 3 eC v_18.2.2.1 :: rowp Ar8x0v_23 cr8x0v_24 32 1 (eI .u64) v_18.2.2.2.1 :: pt b_59 (blk p_60 28) :: pt b_61 (blk p_62 28) :: S) := ⟨_, rfl⟩
              refine qdr 7 κ C_79 hs fun w hs hqC_79 => ?_
              have hcz : Own κ w (pt b_65 (blk [ci 0, ci 0, ci 0] 28) :: pt b_64 (blk [ci 0, ci 0, ci 0] 28) :: pt b_25 (blk [cp br8x0m_19, cp br8x0x_20, C.slc Ar8x0l_21 v_18.2.2.1.length cr8x0l_22, C.slc Ar8x0v_23 v_18.2.2.2.1.length cr8x0v_24] 45) :: Tvisorref19_M.own κ br8x0x_20 p_58 :: rowp Ar8x0l_21 cr8x0l_22 28 3 eC v_18.2.2.1 :: rowp Ar8x0v_23 cr8x0v_24 32 1 (eI .u64) v_18.2.2.2.1 :: pt b_59 (blk p_60 28) :: pt b_61 (blk p_62 28) :: S) := (Own.to hs.own [0, 1, 2, 4, 5, 6, 7, 8] 9 (by kernel_rfl) (by kernel_rfl))
              have hcl : Own κ w C_79 := by rw [hC_79]; exact hcz
              refine qdp (fuel := 8) [0, 4] hs hcl hqC_79 fun a hs => ?_
              refine qdl 1 2 (cp br8x0m_19) hs hcl hqC_79 hC_79 rfl fun a hs => ?_
              obtain ⟨h_80, hm⟩ := ite_t hm
              refine Vk.dTakeT (i := 2) (some 62) (.agg (vals p_60)) hs (by kernel_rfl) hqC_79 hcl (by kernel_rfl) (by kernel_rfl) (op := (.load 28 (.tmp 12))) (by kernel_rfl) (by kernel_rfl) (fun w hw o ho => by rw [hC_79] at hw; exact run_loadN (cs := p_60) ho (by kernel_rfl) (by kernel_rfl) h_80 (CellsAt.all 6 rfl) _ hw) fun a hs => ?_
              refine qdl 5 2 (cp br8x0x_20) hs hcl hqC_79 hC_79 rfl fun a hs => ?_
              obtain ⟨h_81, hm⟩ := ite_t hm
              refine Vk.dTakeT (i := 6) (some 66) (.agg (vals p_62)) hs (by kernel_rfl) hqC_79 hcl (by kernel_rfl) (by kernel_rfl) (op := (.load 28 (.tmp 13))) (by kernel_rfl) (by kernel_rfl) (fun w hw o ho => by rw [hC_79] at hw; exact run_loadN (cs := p_62) ho (by kernel_rfl) (by kernel_rfl) h_81 (CellsAt.all 7 rfl) _ hw) fun a hs => ?_
              obtain ⟨v_84, h_83, hm⟩ := bind_t hm
              refine Vk.dOnly (i := 3) (by kernel_rfl) (Vk.call (some 63) 49 #[pp br8x0m_19, .agg (vals p_60)] hs (by kernel_rfl) (by kernel_rfl) (by kernel_rfl) ?_)
              refine (fresh_Full.ok k p_57 p_60 v_84 h_83 κ w (pt b_65 (blk [ci 0, ci 0, ci 0] 28) :: pt b_64 (blk [ci 0, ci 0, ci 0] 28) :: pt b_25 (blk [cp br8x0m_19, cp br8x0x_20, C.slc Ar8x0l_21 v_18.2.2.1.length cr8x0l_22, C.slc Ar8x0v_23 v_18.2.2.2.1.length cr8x0v_24] 45) :: Tvisorref19_M.own κ br8x0x_20 p_58 :: rowp Ar8x0l_21 cr8x0l_22 28 3 eC v_18.2.2.1 :: rowp Ar8x0v_23 cr8x0v_24 32 1 (eI .u64) v_18.2.2.2.1 :: pt b_59 (blk p_60 28) :: pt b_61 (blk p_62 28) :: S) br8x0m_19 (Own.to hs.own [3, 0, 1, 2, 4, 5, 6, 7, 8] 9 (by kernel_rfl) (by kernel_rfl))).mono ?_
              rintro _ w ⟨rfl, how⟩
              refine ⟨_, _, _, rfl, how, fun a hs => ?_⟩
              replace hcl : Own κ w C_79 := by rw [hC_79]; exact (Own.to hs.own [1, 2, 3, 4, 5, 6, 7, 8] 9 (by kernel_rfl) (by kernel_rfl))
              refine ⟨fun _ => hcl, ?_⟩
              obtain ⟨v_87, h_86, hm⟩ := bind_t hm
              refine Vk.dOnly (i := 7) (by kernel_rfl) (Vk.call (some 67) 50 #[pp br8x0x_20, .agg (vals p_62)] hs (by kernel_rfl) (by kernel_rfl) (by kernel_rfl) ?_)
              refine (visorref21_Full.ok k p_58 p_62 v_87 h_86 κ w (Twire_Machine.own br8x0m_19 v_84.2 :: pt b_65 (blk [ci 0, ci 0, ci 0] 28) :: pt b_64 (blk [ci 0, ci 0, ci 0] 28) :: pt b_25 (blk [cp br8x0m_19, cp br8x0x_20, C.slc Ar8x0l_21 v_18.2.2.1.length cr8x0l_22, C.slc Ar8x0v_23 v_18.2.2.2.1.length cr8x0v_24] 45) :: rowp Ar8x0l_21 cr8x0l_22 28 3 eC v_18.2.2.1 :: rowp Ar8x0v_23 cr8x0v_24 32 1 (eI .u64) v_18.2.2.2.1 :: pt b_59 (blk p_60 28) :: pt b_61 (blk p_62 28) :: S) br8x0x_20 (Own.to hs.own [4, 0, 1, 2, 3, 5, 6, 7, 8] 9 (by kernel_rfl) (by kernel_rfl))).mono ?_
              rintro _ w ⟨rfl, how⟩
              refine ⟨_, _, _, rfl, how, fun a hs => ?_⟩
              refine ⟨fun h => absurd h (by decide), ?_⟩
              obtain ⟨h_88, hm⟩ := ite_t hm
              refine Vk.dOnly (i := 8) (by kernel_rfl) (Vk.storeA (b := b_64) (ty := 28) (x := (.tmp 14)) (y := (.tmp 63)) (sz := 3) v_84.1 3 hs (by kernel_rfl) (by kernel_rfl) (by kernel_rfl) (by kernel_rfl) (by kernel_rfl) h_88 (by kernel_rfl) rfl (Eq.trans (b := 3) h_88 (Eq.symm rfl)) fun a w hs => ?_)
              refine ⟨fun h => absurd h (by decide), ?_⟩
              obtain ⟨h_89, hm⟩ := ite_t hm
              refine Vk.dOnly (i := 9) (by kernel_rfl) (Vk.storeA (b := b_65) (ty := 28) (x := (.tmp 15)) (y := (.tmp 67)) (sz := 3) v_87.1 2 hs (by kernel_rfl) (by kernel_rfl) (by kernel_rfl) (by kernel_rfl) (by kernel_rfl) h_89 (by kernel_rfl) rfl (Eq.trans (b := 3) h_89 (Eq.symm rfl)) fun a w hs => ?_)
              refine ⟨fun h => absurd h (by decide), ?_⟩
              replace hs := hs.pick [1, 10, 12, 13, 14, 15] (L' := [(1, vw x1), (10, pp b_25), (12, pp b_59), (13, pp b_61), (14, pp b_64), (15, pp b_65)]) (by kernel_rfl)
              refine Vk.dDone (by kernel_rfl) ?_
              exact hj66 v_84.2 v_87.2 v_84.1 v_87.1 hm _ _ (hs.go [1, 10, 12, 13, 14, 15] [4, 1, 0, 5, 6, 7, 8, 3, 2] 9 (by kernel_rfl) (by kernel_rfl) (by kernel_rfl))
          obtain ⟨C_46, hC_46⟩ : ∃ X0 : List HP, X0 = (pt b_25 (blk [cp br8x0m_19, cp br8x0x_20, C.slc Ar8x0l_21 v_18.2.2.1.length cr8x0l_22, C.slc Ar8x0v_23 v_18.2.2.2.1.length cr8x0v_24] 45) :: rowp Ar8x0l_21 cr8x0l_22 28 3 eC v_18.2.2.1 :: rowp Ar8x0v_23 cr8x0v_24 32 1 (eI .u64) v_18.2.2.2.1 :: S) := ⟨_, rfl⟩
          refine qdr 11 κ C_46 hs fun w hs hqC_46 => ?_
          have hcz : Own κ w (pt b_25 (blk [cp br8x0m_19, cp br8x0x_20, C.slc Ar8x0l_21 v_18.2.2.1.length cr8x0l_22, C.slc Ar8x0v_23 v_18.2.2.2.1.length cr8x0v_24] 45) :: rowp Ar8x0l_21 cr8x0l_22 28 3 eC v_18.2.2.1 :: rowp Ar8x0v_23 cr8x0v_24 32 1 (eI .u64) v_18.2.2.2.1 :: S) := (Own.to hs.own [0, 3, 4] 5 (by kernel_rfl) (by kernel_rfl))
          have hcl : Own κ w C_46 := by rw [hC_46]; exact hcz
          refine qdp (fuel := 8) [0, 2, 4, 6] hs hcl hqC_46 fun a hs => ?_
          refine qdl 1 0 (cp br8x0m_19) hs hcl hqC_46 hC_46 rfl fun a hs => ?_
          refine qdl 5 0 (cp br8x0x_20) hs hcl hqC_46 hC_46 rfl fun a hs => ?_
          refine Vk.dMany3 (i0 := 3) (i1 := 8) (i2 := 9) (by kernel_rfl) ?_ ?_ ?_
          · obtain ⟨v_49, h_48, hm⟩ := bind_t hm
            refine Vk.call (some 44) 45 #[pp br8x0m_19, vw x1] hs (by kernel_rfl) (by kernel_rfl) (by kernel_rfl) ?_
            refine (share_Encode.ok k v_18.1 x1 v_49 h_48 κ w (pt b_25 (blk [cp br8x0m_19, cp br8x0x_20, C.slc Ar8x0l_21 v_18.2.2.1.length cr8x0l_22, C.slc Ar8x0v_23 v_18.2.2.2.1.length cr8x0v_24] 45) :: Tvisorref19_M.own κ br8x0x_20 v_18.2.1 :: rowp Ar8x0l_21 cr8x0l_22 28 3 eC v_18.2.2.1 :: rowp Ar8x0v_23 cr8x0v_24 32 1 (eI .u64) v_18.2.2.2.1 :: S) br8x0m_19 (Own.to hs.own [1, 0, 2, 3, 4] 5 (by kernel_rfl) (by kernel_rfl))).mono ?_
            rintro _ w ⟨rfl, how⟩
            refine ⟨_, _, _, rfl, how, fun a hs => ?_⟩
            replace hcl : Own κ w C_46 := by rw [hC_46]; exact (Own.to hs.own [1, 3, 4] 5 (by kernel_rfl) (by kernel_rfl))
            refine ⟨fun _ => hcl, ?_⟩
            refine Vk.dMany3 (i0 := 7) (i1 := 8) (i2 := 9) (by kernel_rfl) ?_ ?_ ?_
            · obtain ⟨v_52, h_51, hm⟩ := bind_t hm
              refine Vk.call (some 48) 46 #[pp br8x0x_20, vw x1] hs (by kernel_rfl) (by kernel_rfl) (by kernel_rfl) ?_
              refine (visorref20_Encode.ok k v_18.2.1 x1 v_52 h_51 κ w (Twire_Machine.own br8x0m_19 v_49.2 :: pt b_25 (blk [cp br8x0m_19, cp br8x0x_20, C.slc Ar8x0l_21 v_18.2.2.1.length cr8x0l_22, C.slc Ar8x0v_23 v_18.2.2.2.1.length cr8x0v_24] 45) :: rowp Ar8x0l_21 cr8x0l_22 28 3 eC v_18.2.2.1 :: rowp Ar8x0v_23 cr8x0v_24 32 1 (eI .u64) v_18.2.2.2.1 :: S) br8x0x_20 (Own.to hs.own [2, 0, 1, 3, 4] 5 (by kernel_rfl) (by kernel_rfl))).mono ?_
              rintro _ w ⟨rfl, how⟩
              refine ⟨_, _, _, rfl, how, fun a hs => ?_⟩
              replace hcl : Own κ w C_46 := by rw [hC_46]; exact (Own.to hs.own [2, 3, 4] 5 (by kernel_rfl) (by kernel_rfl))
              refine ⟨fun _ => hcl, ?_⟩
              refine Vk.dMany2 (i0 := 8) (i1 := 9) (by kernel_rfl) ?_ ?_
              · refine Vk.alloc 12 28 [ci 0, ci 0, ci 0] hs (by kernel_rfl) (by kernel_rfl) (by kernel_rfl) fun b_53 w a hs => ?_
                replace hcl : Own κ w C_46 := by rw [hC_46]; exact (Own.to hs.own [3, 4, 5] 6 (by kernel_rfl) (by kernel_rfl))
                refine ⟨fun _ => hcl, ?_⟩
                refine Vk.dOnly (i := 9) (by kernel_rfl) (Vk.alloc 13 28 [ci 0, ci 0, ci 0] hs (by kernel_rfl) (by kernel_rfl) (by kernel_rfl) fun b_54 w a hs => ?_)
                replace hcl : Own κ w C_46 := by rw [hC_46]; exact (Own.to hs.own [4, 5, 6] 7 (by kernel_rfl) (by kernel_rfl))
                refine ⟨fun _ => hcl, ?_⟩
                obtain ⟨h_55, hm⟩ := ite_t hm
                refine Vk.dOnly (i := 10) (by kernel_rfl) (Vk.storeA (b := b_53) (ty := 28) (x := (.tmp 12)) (y := (.tmp 44)) (sz := 3) v_49.1 1 hs (by kernel_rfl) (by kernel_rfl) (by kernel_rfl) (by kernel_rfl) (by kernel_rfl) h_55 (by kernel_rfl) rfl (Eq.trans (b := 3) h_55 (Eq.symm rfl)) fun a w hs => ?_)
                replace hcl : Own κ w C_46 := by rw [hC_46]; exact (Own.to hs.own [4, 5, 6] 7 (by kernel_rfl) (by kernel_rfl))
                refine ⟨fun _ => hcl, ?_⟩
                obtain ⟨h_56, hm⟩ := ite_t hm
                refine Vk.dOnly (i := 11) (by kernel_rfl) (Vk.storeA (b := b_54) (ty := 28) (x := (.tmp 13)) (y := (.tmp 48)) (sz := 3) v_52.1 0 hs (by kernel_rfl) (by kernel_rfl) (by kernel_rfl) (by kernel_rfl) (by kernel_rfl) h_56 (by kernel_rfl) rfl (Eq.trans (b := 3) h_56 (Eq.symm rfl)) fun a w hs => ?_)
                refine ⟨fun h => absurd h (by decide), ?_⟩
                replace hs := hs.pick [1, 3, 10, 12, 13] (L' := [(1, vw x1), (3, .bool x3), (10, pp b_25), (12, pp b_53), (13, pp b_54)]) (by kernel_rfl)
                refine Vk.dDone (by kernel_rfl) ?_
                exact hj45 v_49.2 v_52.2 v_49.1 v_52.1 hm b_53 b_54 _ _ (hs.go [1, 3, 10, 12, 13] [4, 3, 2, 5, 6, 1, 0] 7 (by kernel_rfl) (by kernel_rfl) (by kernel_rfl))
              · refine Vk.alloc 13 28 [ci 0, ci 0, ci 0] hs (by kernel_rfl) (by kernel_rfl) (by kernel_rfl) fun b_53 w a hs => ?_
                replace hcl : Own κ w C_46 := by rw [hC_46]; exact (Own.to hs.own [3, 4, 5] 6 (by kernel_rfl) (by kernel_rfl))
                refine ⟨fun _ => hcl, ?_⟩
                refine Vk.dOnly (i := 8) (by kernel_rfl) (Vk.alloc 12 28 [ci 0, ci 0, ci 0] hs (by kernel_rfl) (by kernel_rfl) (by kernel_rfl) fun b_54 w a hs => ?_)
                replace hcl : Own κ w C_46 := by rw [hC_46]; exact (Own.to hs.own [4, 5, 6] 7 (by kernel_rfl) (by kernel_rfl))
                refine ⟨fun _ => hcl, ?_⟩
                obtain ⟨h_55, hm⟩ := ite_t hm
                refine Vk.dOnly (i := 10) (by kernel_rfl) (Vk.storeA (b := b_54) (ty := 28) (x := (.tmp 12)) (y := (.tmp 44)) (sz := 3) v_49.1 0 hs (by kernel_rfl) (by kernel_rfl) (by kernel_rfl) (by kernel_rfl) (by kernel_rfl) h_55 (by kernel_rfl) rfl (Eq.trans (b := 3) h_55 (Eq.symm rfl)) fun a w hs => ?_)
                replace hcl : Own κ w C_46 := by rw [hC_46]; exact (Own.to hs.own [4, 5, 6] 7 (by kernel_rfl) (by kernel_rfl))
                refine ⟨fun _ => hcl, ?_⟩
                obtain ⟨h_56, hm⟩ := ite_t hm
                refine Vk.dOnly (i := 11) (by kernel_rfl) (Vk.storeA (b := b_53) (ty := 28) (x := (.tmp 13)) (y := (.tmp 48)) (sz := 3) v_52.1 1 hs (by kernel_rfl) (by kernel_rfl) (by kernel_rfl) (by kernel_rfl) (by kernel_rfl) h_56 (by kernel_rfl) rfl (Eq.trans (b := 3) h_56 (Eq.symm rfl)) fun a w hs => ?_)
                refine ⟨fun h => absurd h (by decide), ?_⟩
                replace hs := hs.pick [1, 3, 10, 12, 13] (L' := [(1, vw x1), (3, .bool x3), (10, pp b_25), (12, pp b_54), (13, pp b_53)]) (by kernel_rfl)
                refine Vk.dDone (by kernel_rfl) ?_
                exact hj45 v_49.2 v_52.2 v_49.1 v_52.1 hm b_54 b_53 _ _ (hs.go [1, 3, 10, 12, 13] [4, 3, 2, 5, 6, 0, 1] 7 (by kernel_rfl) (by kernel_rfl) (by kernel_rfl))
            · refine Vk.alloc 12 28 [ci 0, ci 0, ci 0] hs (by kernel_rfl) (by kernel_rfl) (by kernel_rfl) fun b_50 w a hs => ?_
              replace hcl : Own κ w C_46 := by rw [hC_46]; exact (Own.to hs.own [2, 4, 5] 6 (by kernel_rfl) (by kernel_rfl))
              refine ⟨fun _ => hcl, ?_⟩
              refine Vk.dMany2 (i0 := 7) (i1 := 9) (by kernel_rfl) ?_ ?_
              · obtain ⟨v_53, h_52, hm⟩ := bind_t hm
                refine Vk.call (some 48) 46 #[pp br8x0x_20, vw x1] hs (by kernel_rfl) (by kernel_rfl) (by kernel_rfl) ?_
                refine (visorref20_Encode.ok k v_18.2.1 x1 v_53 h_52 κ w (pt b_50 (blk [ci 0, ci 0, ci 0] 28) :: Twire_Machine.own br8x0m_19 v_49.2 :: pt b_25 (blk [cp br8x0m_19, cp br8x0x_20, C.slc Ar8x0l_21 v_18.2.2.1.length cr8x0l_22, C.slc Ar8x0v_23 v_18.2.2.2.1.length cr8x0v_24] 45) :: rowp Ar8x0l_21 cr8x0l_22 28 3 eC v_18.2.2.1 :: rowp Ar8x0v_23 cr8x0v_24 32 1 (eI .u64) v_18.2.2.2.1 :: S) br8x0x_20 (Own.to hs.own [3, 0, 1, 2, 4, 5] 6 (by kernel_rfl) (by kernel_rfl))).mono ?_
                rintro _ w ⟨rfl, how⟩
                refine ⟨_, _, _, rfl, how, fun a hs => ?_⟩
                replace hcl : Own κ w C_46 := by rw [hC_46]; exact (Own.to hs.own [3, 4, 5] 6 (by kernel_rfl) (by kernel_rfl))
                refine ⟨fun _ => hcl, ?_⟩
                refine Vk.dOnly (i := 9) (by kernel_rfl) (Vk.alloc 13 28 [ci 0, ci 0, ci 0] hs (by kernel_rfl) (by kernel_rfl) (by kernel_rfl) fun b_54 w a hs => ?_)
                replace hcl : Own κ w C_46 := by rw [hC_46]; exact (Own.to hs.own [4, 5, 6] 7 (by kernel_rfl) (by kernel_rfl))
                refine ⟨fun _ => hcl, ?_⟩
                obtain ⟨h_55, hm⟩ := ite_t hm
                refine Vk.dOnly (i := 10) (by kernel_rfl) (Vk.storeA (b := b_50) (ty := 28) (x := (.tmp 12)) (y := (.tmp 44)) (sz := 3) v_49.1 2 hs (by kernel_rfl) (by kernel_rfl) (by kernel_rfl) (by kernel_rfl) (by kernel_rfl) h_55 (by kernel_rfl) rfl (Eq.trans (b := 3) h_55 (Eq.symm rfl)) fun a w hs => ?_)
                replace hcl : Own κ w C_46 := by rw [hC_46]; exact (Own.to hs.own [4, 5, 6] 7 (by kernel_rfl) (by kernel_rfl))
                refine ⟨fun _ => hcl, ?_⟩
                obtain ⟨h_56, hm⟩ := ite_t hm
                refine Vk.dOnly (i := 11) (by kernel_rfl) (Vk.storeA (b := b_54) (ty := 28) (x := (.tmp 13)) (y := (.tmp 48)) (sz := 3) v_53.1 0 hs (by kernel_rfl) (by kernel_rfl) (by kernel_rfl) (by kernel_rfl) (by kernel_rfl) h_56 (by kernel_rfl) rfl (Eq.trans (b := 3) h_56 (Eq.symm rfl)) fun a w hs => ?_)
                refine ⟨fun h => absurd h (by decide), ?_⟩
                replace hs := hs.pick [1, 3, 10, 12, 13] (L' := [(1, vw x1), (3, .bool x3), (10, pp b_25), (12, pp b_50), (13, pp b_54)]) (by kernel_rfl)
                refine Vk.dDone (by kernel_rfl) ?_
                exact hj45 v_49.2 v_53.2 v_49.1 v_53.1 hm b_50 b_54 _ _ (hs.go [1, 3, 10, 12, 13] [4, 3, 1, 5, 6, 2, 0] 7 (by kernel_rfl) (by kernel_rfl) (by kernel_rfl))
              · refine Vk.alloc 13 28 [ci 0, ci 0, ci 0] hs (by kernel_rfl) (by kernel_rfl) (by kernel_rfl) fun b_51 w a hs => ?_
                replace hcl : Own κ w C_46 := by rw [hC_46]; exact (Own.to hs.own [3, 5, 6] 7 (by kernel_rfl) (by kernel_rfl))
                refine ⟨fun _ => hcl, ?_⟩
                obtain ⟨v_54, h_53, hm⟩ := bind_t hm
                refine Vk.dOnly (i := 7) (by kernel_rfl) (Vk.call (some 48) 46 #[pp br8x0x_20, vw x1] hs (by kernel_rfl) (by kernel_rfl) (by kernel_rfl) ?_)
                refine (visorref20_Encode.ok k v_18.2.1 x1 v_54 h_53 κ w (pt b_51 (blk [ci 0, ci 0, ci 0] 28) :: pt b_50 (blk [ci 0, ci 0, ci 0] 28) :: Twire_Machine.own br8x0m_19 v_49.2 :: pt b_25 (blk [cp br8x0m_19, cp br8x0x_20, C.slc Ar8x0l_21 v_18.2.2.1.length cr8x0l_22, C.slc Ar8x0v_23 v_18.2.2.2.1.length cr8x0v_24] 45) :: rowp Ar8x0l_21 cr8x0l_22 28 3 eC v_18.2.2.1 :: rowp Ar8x0v_23 cr8x0v_24 32 1 (eI .u64) v_18.2.2.2.1 :: S) br8x0x_20 (Own.to hs.own [4, 0, 1, 2, 3, 5, 6] 7 (by kernel_rfl) (by kernel_rfl))).mono ?_
                rintro _ w ⟨rfl, how⟩
                refine ⟨_, _, _, rfl, how, fun a hs => ?_⟩
                replace hcl : Own κ w C_46 := by rw [hC_46]; exact (Own.to hs.own [4, 5, 6] 7 (by kernel_rfl) (by kernel_rfl))
                refine ⟨fun _ => hcl, ?_⟩
                obtain ⟨h_55, hm⟩ := ite_t hm
                refine Vk.dOnly (i := 10) (by kernel_rfl) (Vk.storeA (b := b_50) (ty := 28) (x := (.tmp 12)) (y := (.tmp 44)) (sz := 3) v_49.1 2 hs (by kernel_rfl) (by kernel_rfl) (by kernel_rfl) (by kernel_rfl) (by kernel_rfl) h_55 (by kernel_rfl) rfl (Eq.trans (b := 3) h_55 (Eq.symm rfl)) fun a w hs => ?_)
                replace hcl : Own κ w C_46 := by rw [hC_46]; exact (Own.to hs.own [4, 5, 6] 7 (by kernel_rfl) (by kernel_rfl))
                refine ⟨fun _ => hcl, ?_⟩
                obtain ⟨h_56, hm⟩ := ite_t hm
                refine Vk.dOnly (i := 11) (by kernel_rfl) (Vk.storeA (b := b_51) (ty := 28) (x := (.tmp 13)) (y := (.tmp 48)) (sz := 3) v_54.1 1 hs (by kernel_rfl) (by kernel_rfl) (by kernel_rfl) (by kernel_rfl) (by kernel_rfl) h_56 (by kernel_rfl) rfl (Eq.trans (b := 3) h_56 (Eq.symm rfl)) fun a w hs => ?_)
                refine ⟨fun h => absurd h (by decide), ?_⟩
                replace hs := hs.pick [1, 3, 10, 12, 13] (L' := [(1, vw x1), (3, .bool x3), (10, pp b_25), (12, pp b_50), (13, pp b_51)]) (by kernel_rfl)
                refine Vk.dDone (by kernel_rfl) ?_
                exact hj45 v_49.2 v_54.2 v_49.1 v_54.1 hm b_50 b_51 _ _ (hs.go [1, 3, 10, 12, 13] [4, 3, 0, 5, 6, 2, 1] 7 (by kernel_rfl) (by kernel_rfl) (by kernel_rfl))
            · refine Vk.alloc 13 28 [ci 0, ci 0, ci 0] hs (by kernel_rfl) (by kernel_rfl) (by kernel_rfl) fun b_50 w a hs => ?_
              replace hcl : Own κ w C_46 := by rw [hC_46]; exact (Own.to hs.own [2, 4, 5] 6 (by kernel_rfl) (by kernel_rfl))
              refine ⟨fun _ => hcl, ?_⟩
              refine Vk.dMany2 (i0 := 7) (i1 := 8) (by kernel_rfl) ?_ ?_
              · obtain ⟨v_53, h_52, hm⟩ := bind_t hm
                refine Vk.call (some 48) 46 #[pp br8x0x_20, vw x1] hs (by kernel_rfl) (by kernel_rfl) (by kernel_rfl) ?_
                refine (visorref20_Encode.ok k v_18.2.1 x1 v_53 h_52 κ w (pt b_50 (blk [ci 0, ci 0, ci 0] 28) :: Twire_Machine.own br8x0m_19 v_49.2 :: pt b_25 (blk [cp br8x0m_19, cp br8x0x_20, C.slc Ar8x0l_21 v_18.2.2.1.length cr8x0l_22, C.slc Ar8x0v_23 v_18.2.2.2.1.length cr8x0v_24] 45) :: rowp Ar8x0l_21 cr8x0l_22 28 3 eC v_18.2.2.1 :: rowp Ar8x0v_23 cr8x0v_24 32 1 (eI .u64) v_18.2.2.2.1 :: S) br8x0x_20 (Own.to hs.own [3, 0, 1, 2, 4, 5] 6 (by kernel_rfl) (by kernel_rfl))).mono ?_
                rintro _ w ⟨rfl, how⟩
                refine ⟨_, _, _, rfl, how, fun a hs => ?_⟩
                replace hcl : Own κ w C_46 := by rw [hC_46]; exact (Own.to hs.own [3, 4, 5] 6 (by kernel_rfl) (by kernel_rfl))
                refine ⟨fun _ => hcl, ?_⟩
                refine Vk.dOnly (i := 8) (by kernel_rfl) (Vk.alloc 12 28 [ci 0, ci 0, ci 0] hs (by kernel_rfl) (by kernel_rfl) (by kernel_rfl) fun b_54 w a hs => ?_)
                replace hcl : Own κ w C_46 := by rw [hC_46]; exact (Own.to hs.own [4, 5, 6] 7 (by kernel_rfl) (by kernel_rfl))
                refine ⟨fun _ => hcl, ?_⟩
                obtain ⟨h_55, hm⟩ := ite_t hm
                refine Vk.dOnly (i := 10) (by kernel_rfl) (Vk.storeA (b := b_54) (ty := 28) (x := (.tmp 12)) (y := (.tmp 44)) (sz := 3) v_49.1 0 hs (by kernel_rfl) (by kernel_rfl) (by kernel_rfl) (by kernel_rfl) (by kernel_rfl) h_55 (by kernel_rfl) rfl (Eq.trans (b := 3) h_55 (Eq.symm rfl)) fun a w hs => ?_)
                replace hcl : Own κ w C_46 := by rw [hC_46]; exact (Own.to hs.own [4, 5, 6] 7 (by kernel_rfl) (by kernel_rfl))
                refine ⟨fun _ => hcl, ?_⟩
                obtain ⟨h_56, hm⟩ := ite_t hm
                refine Vk.dOnly (i := 11) (by kernel_rfl) (Vk.storeA (b := b_50) (ty := 28) (x := (.tmp 13)) (y := (.tmp 48)) (sz := 3) v_53.1 2 hs (by kernel_rfl) (by kernel_rfl) (by kernel_rfl) (by kernel_rfl) (by kernel_rfl) h_56 (by kernel_rfl) rfl (Eq.trans (b := 3) h_56 (Eq.symm rfl)) fun a w hs => ?_)
                refine ⟨fun h => absurd h (by decide), ?_⟩
                replace hs := hs.pick [1, 3, 10, 12, 13] (L' := [(1, vw x1), (3, .bool x3), (10, pp b_25), (12, pp b_54), (13, pp b_50)]) (by kernel_rfl)
                refine Vk.dDone (by kernel_rfl) ?_
                exact hj45 v_49.2 v_53.2 v_49.1 v_53.1 hm b_54 b_50 _ _ (hs.go [1, 3, 10, 12, 13] [4, 3, 1, 5, 6, 0, 2] 7 (by kernel_rfl) (by kernel_rfl) (by kernel_rfl))
              · refine Vk.alloc 12 28 [ci 0, ci 0, ci 0] hs (by kernel_rfl) (by kernel_rfl) (by kernel_rfl) fun b_51 w a hs => ?_
                replace hcl : Own κ w C_46 := by rw [hC_46]; exact (Own.to hs.own [3, 5, 6] 7 (by kernel_rfl) (by kernel_rfl))
                refine ⟨fun _ => hcl, ?_⟩
                obtain ⟨v_54, h_53, hm⟩ := bind_t hm
                refine Vk.dOnly (i := 7) (by kernel_rfl) (Vk.call (some 48) 46 #[pp br8x0x_20, vw x1] hs (by kernel_rfl) (by kernel_rfl) (by kernel_rfl) ?_)
                refine (visorref20_Encode.ok k v_18.2.1 x1 v_54 h_53 κ w (pt b_51 (blk [ci 0, ci 0, ci 0] 28) :: pt b_50 (blk [ci 0, ci 0, ci 0] 28) :: Twire_Machine.own br8x0m_19 v_49.2 :: pt b_25 (blk [cp br8x0m_19, cp br8x0x_20, C.slc Ar8x0l_21 v_18.2.2.1.length cr8x0l_22, C.slc Ar8x0v_23 v_18.2.2.2.1.length cr8x0v_24] 45) :: rowp Ar8x0l_21 cr8x0l_22 28 3 eC v_18.2.2.1 :: rowp Ar8x0v_23 cr8x0v_24 32 1 (eI .u64) v_18.2.2.2.1 :: S) br8x0x_20 (Own.to hs.own [4, 0, 1, 2, 3, 5, 6] 7 (by kernel_rfl) (by kernel_rfl))).mono ?_
                rintro _ w ⟨rfl, how⟩
                refine ⟨_, _, _, rfl, how, fun a hs => ?_⟩
                replace hcl : Own κ w C_46 := by rw [hC_46]; exact (Own.to hs.own [4, 5, 6] 7 (by kernel_rfl) (by kernel_rfl))
                refine ⟨fun _ => hcl, ?_⟩
                obtain ⟨h_55, hm⟩ := ite_t hm
                refine Vk.dOnly (i := 10) (by kernel_rfl) (Vk.storeA (b := b_51) (ty := 28) (x := (.tmp 12)) (y := (.tmp 44)) (sz := 3) v_49.1 1 hs (by kernel_rfl) (by kernel_rfl) (by kernel_rfl) (by kernel_rfl) (by kernel_rfl) h_55 (by kernel_rfl) rfl (Eq.trans (b := 3) h_55 (Eq.symm rfl)) fun a w hs => ?_)
                replace hcl : Own κ w C_46 := by rw [hC_46]; exact (Own.to hs.own [4, 5, 6] 7 (by kernel_rfl) (by kernel_rfl))
                refine ⟨fun _ => hcl, ?_⟩
                obtain ⟨h_56, hm⟩ := ite_t hm
                refine Vk.dOnly (i := 11) (by kernel_rfl) (Vk.storeA (b := b_50) (ty := 28) (x := (.tmp 13)) (y := (.tmp 48)) (sz := 3) v_54.1 2 hs (by kernel_rfl) (by kernel_rfl) (by kernel_rfl) (by kernel_rfl) (by kernel_rfl) h_56 (by kernel_rfl) rfl (Eq.trans (b := 3) h_56 (Eq.symm rfl)) fun a w hs => ?_)
                refine ⟨fun h => absurd h (by decide), ?_⟩
                replace hs := hs.pick [1, 3, 10, 12, 13] (L' := [(1, vw x1), (3, .bool x3), (10, pp b_25), (12, pp b_51), (13, pp b_50)]) (by kernel_rfl)
                refine Vk.dDone (by kernel_rfl) ?_
                exact hj45 v_49.2 v_54.2 v_49.1 v_54.1 hm b_51 b_50 _ _ (hs.go [1, 3, 10, 12, 13] [4, 3, 0, 5, 6, 1, 2] 7 (by kernel_rfl) (by kernel_rfl) (by kernel_rfl))
          · refine Vk.alloc 12 28 [ci 0, ci 0, ci 0] hs (by kernel_rfl) (by kernel_rfl) (by kernel_rfl) fun b_47 w a hs => ?_
            replace hcl : Own κ w C_46 := by rw [hC_46]; exact (Own.to hs.own [1, 4, 5] 6 (by kernel_rfl) (by kernel_rfl))
            refine ⟨fun _ => hcl, ?_⟩
            refine Vk.dMany2 (i0 := 3) (i1 := 9) (by kernel_rfl) ?_ ?_
            · obtain ⟨v_50, h_49, hm⟩ := bind_t hm
              refine Vk.call (some 44) 45 #[pp br8x0m_19, vw x1] hs (by kernel_rfl) (by kernel_rfl) (by kernel_rfl) ?_
              refine (share_Encode.ok k v_18.1 x1 v_50 h_49 κ w (pt b_47 (blk [ci 0, ci 0, ci 0] 28) :: pt b_25 (blk [cp br8x0m_19, cp br8x0x_20, C.slc Ar8x0l_21 v_18.2.2.1.length cr8x0l_22, C.slc Ar8x0v_23 v_18.2.2.2.1.length cr8x0v_24] 45) :: Tvisorref19_M.own κ br8x0x_20 v_18.2.1 :: rowp Ar8x0l_21 cr8x0l_22 28 3 eC v_18.2.2.1 :: rowp Ar8x0v_23 cr8x0v_24 32 1 (eI .u64) v_18.2.2.2.1 :: S) br8x0m_19 (Own.to hs.own [2, 0, 1, 3, 4, 5] 6 (by kernel_rfl) (by kernel_rfl))).mono ?_
              rintro _ w ⟨rfl, how⟩
              refine ⟨_, _, _, rfl, how, fun a hs => ?_⟩
              replace hcl : Own κ w C_46 := by rw [hC_46]; exact (Own.to hs.own [2, 4, 5] 6 (by kernel_rfl) (by kernel_rfl))
              refine ⟨fun _ => hcl, ?_⟩
              refine Vk.dMany2 (i0 := 7) (i1 := 9) (by kernel_rfl) ?_ ?_
              · obtain ⟨v_53, h_52, hm⟩ := bind_t hm
                refine Vk.call (some 48) 46 #[pp br8x0x_20, vw x1] hs (by kernel_rfl) (by kernel_rfl) (by kernel_rfl) ?_
                refine (visorref20_Encode.ok k v_18.2.1 x1 v_53 h_52 κ w (Twire_Machine.own br8x0m_19 v_50.2 :: pt b_47 (blk [ci 0, ci 0, ci 0] 28) :: pt b_25 (blk [cp br8x0m_19, cp br8x0x_20, C.slc Ar8x0l_21 v_18.2.2.1.length cr8x0l_22, C.slc Ar8x0v_23 v_18.2.2.2.1.length cr8x0v_24] 45) :: rowp Ar8x0l_21 cr8x0l_22 28 3 eC v_18.2.2.1 :: rowp Ar8x0v_23 cr8x0v_24 32 1 (eI .u64) v_18.2.2.2.1 :: S) br8x0x_20 (Own.to hs.own [3, 0, 1, 2, 4, 5] 6 (by kernel_rfl) (by kernel_rfl))).mono ?_
                rintro _ w ⟨rfl, how⟩
                refine ⟨_, _, _, rfl, how, fun a hs => ?_⟩
                replace hcl : Own κ w C_46 := by rw [hC_46]; exact (Own.to hs.own [3, 4, 5] 6 (by kernel_rfl) (by kernel_rfl))
                refine ⟨fun _ => hcl, ?_⟩
                refine Vk.dOnly (i := 9) (by kernel_rfl) (Vk.alloc 13 28 [ci 0, ci 0, ci 0] hs (by kernel_rfl) (by kernel_rfl) (by kernel_rfl) fun b_54 w a hs => ?_)
                replace hcl : Own κ w C_46 := by rw [hC_46]; exact (Own.to hs.own [4, 5, 6] 7 (by kernel_rfl) (by kernel_rfl))
                refine ⟨fun _ => hcl, ?_⟩
                obtain ⟨h_55, hm⟩ := ite_t hm
                refine Vk.dOnly (i := 10) (by kernel_rfl) (Vk.storeA (b := b_47) (ty := 28) (x := (.tmp 12)) (y := (.tmp 44)) (sz := 3) v_50.1 3 hs (by kernel_rfl) (by kernel_rfl) (by kernel_rfl) (by kernel_rfl) (by kernel_rfl) h_55 (by kernel_rfl) rfl (Eq.trans (b := 3) h_55 (Eq.symm rfl)) fun a w hs => ?_)
                replace hcl : Own κ w C_46 := by rw [hC_46]; exact (Own.to hs.own [4, 5, 6] 7 (by kernel_rfl) (by kernel_rfl))
                refine ⟨fun _ => hcl, ?_⟩
                obtain ⟨h_56, hm⟩ := ite_t hm
                refine Vk.dOnly (i := 11) (by kernel_rfl) (Vk.storeA (b := b_54) (ty := 28) (x := (.tmp 13)) (y := (.tmp 48)) (sz := 3) v_53.1 0 hs (by kernel_rfl) (by kernel_rfl) (by kernel_rfl) (by kernel_rfl) (by kernel_rfl) h_56 (by kernel_rfl) rfl (Eq.trans (b := 3) h_56 (Eq.symm rfl)) fun a w hs => ?_)
                refine ⟨fun h => absurd h (by decide), ?_⟩
                replace hs := hs.pick [1, 3, 10, 12, 13] (L' := [(1, vw x1), (3, .bool x3), (10, pp b_25), (12, pp b_47), (13, pp b_54)]) (by kernel_rfl)
                refine Vk.dDone (by kernel_rfl) ?_
                exact hj45 v_50.2 v_53.2 v_50.1 v_53.1 hm b_47 b_54 _ _ (hs.go [1, 3, 10, 12, 13] [4, 2, 1, 5, 6, 3, 0] 7 (by kernel_rfl) (by kernel_rfl) (by kernel_rfl))
              · refine Vk.alloc 13 28 [ci 0, ci 0, ci 0] hs (by kernel_rfl) (by kernel_rfl) (by kernel_rfl) fun b_51 w a hs => ?_
                replace hcl : Own κ w C_46 := by rw [hC_46]; exact (Own.to hs.own [3, 5, 6] 7 (by kernel_rfl) (by kernel_rfl))
                refine ⟨fun _ => hcl, ?_⟩
                obtain ⟨v_54, h_53, hm⟩ := bind_t hm
                refine Vk.dOnly (i := 7) (by kernel_rfl) (Vk.call (some 48) 46 #[pp br8x0x_20, vw x1] hs (by kernel_rfl) (by kernel_rfl) (by kernel_rfl) ?_)
                refine (visorref20_Encode.ok k v_18.2.1 x1 v_54 h_53 κ w (pt b_51 (blk [ci 0, ci 0, ci 0] 28) :: Twire_Machine.own br8x0m_19 v_50.2 :: pt b_47 (blk [ci 0, ci 0, ci 0] 28) :: pt b_25 (blk [cp br8x0m_19, cp br8x0x_20, C.slc Ar8x0l_21 v_18.2.2.1.length cr8x0l_22, C.slc Ar8x0v_23 v_18.2.2.2.1.length cr8x0v_24] 45) :: rowp Ar8x0l_21 cr8x0l_22 28 3 eC v_18.2.2.1 :: rowp Ar8x0v_23 cr8x0v_24 32 1 (eI .u64) v_18.2.2.2.1 :: S) br8x0x_20 (Own.to hs.own [4, 0, 1, 2, 3, 5, 6] 7 (by kernel_rfl) (by kernel_rfl))).mono ?_
                rintro _ w ⟨rfl, how⟩
                refine ⟨_, _, _, rfl, how, fun a hs => ?_⟩
                replace hcl : Own κ w C_46 := by rw [hC_46]; exact (Own.to hs.own [4, 5, 6] 7 (by kernel_rfl) (by kernel_rfl))
                refine ⟨fun _ => hcl, ?_⟩
                obtain ⟨h_55, hm⟩ := ite_t hm
                refine Vk.dOnly (i := 10) (by kernel_rfl) (Vk.storeA (b := b_47) (ty := 28) (x := (.tmp 12)) (y := (.tmp 44)) (sz := 3) v_50.1 3 hs (by kernel_rfl) (by kernel_rfl) (by kernel_rfl) (by kernel_rfl) (by kernel_rfl) h_55 (by kernel_rfl) rfl (Eq.trans (b := 3) h_55 (Eq.symm rfl)) fun a w hs => ?_)
                replace hcl : Own κ w C_46 := by rw [hC_46]; exact (Own.to hs.own [4, 5, 6] 7 (by kernel_rfl) (by kernel_rfl))
                refine ⟨fun _ => hcl, ?_⟩
                obtain ⟨h_56, hm⟩ := ite_t hm
                refine Vk.dOnly (i := 11) (by kernel_rfl) (Vk.storeA (b := b_51) (ty := 28) (x := (.tmp 13)) (y := (.tmp 48)) (sz := 3) v_54.1 1 hs (by kernel_rfl) (by kernel_rfl) (by kernel_rfl) (by kernel_rfl) (by kernel_rfl) h_56 (by kernel_rfl) rfl (Eq.trans (b := 3) h_56 (Eq.symm rfl)) fun a w hs => ?_)
                refine ⟨fun h => absurd h (by decide), ?_⟩
                replace hs := hs.pick [1, 3, 10, 12, 13] (L' := [(1, vw x1), (3, .bool x3), (10, pp b_25), (12, pp b_47), (13, pp b_51)]) (by kernel_rfl)
                refine Vk.dDone (by kernel_rfl) ?_
                exact hj45 v_50.2 v_54.2 v_50.1 v_54.1 hm b_47 b_51 _ _ (hs.go [1, 3, 10, 12, 13] [4, 2, 0, 5, 6, 3, 1] 7 (by kernel_rfl) (by kernel_rfl) (by kernel_rfl))
            · refine Vk.alloc 13 28 [ci 0, ci 0, ci 0] hs (by kernel_rfl) (by kernel_rfl) (by kernel_rfl) fun b_48 w a hs => ?_
              replace hcl : Own κ w C_46 := by rw [hC_46]; exact (Own.to hs.own [2, 5, 6] 7 (by kernel_rfl) (by kernel_rfl))
              refine ⟨fun _ => hcl, ?_⟩
              obtain ⟨v_51, h_50, hm⟩ := bind_t hm
              refine Vk.dOnly (i := 3) (by kernel_rfl) (Vk.call (some 44) 45 #[pp br8x0m_19, vw x1] hs (by kernel_rfl) (by kernel_rfl) (by kernel_rfl) ?_)
              refine (share_Encode.ok k v_18.1 x1 v_51 h_50 κ w (pt b_48 (blk [ci 0, ci 0, ci 0] 28) :: pt b_47 (blk [ci 0, ci 0, ci 0] 28) :: pt b_25 (blk [cp br8x0m_19, cp br8x0x_20, C.slc Ar8x0l_21 v_18.2.2.1.length cr8x0l_22, C.slc Ar8x0v_23 v_18.2.2.2.1.length cr8x0v_24] 45) :: Tvisorref19_M.own κ br8x0x_20 v_18.2.1 :: rowp Ar8x0l_21 cr8x0l_22 28 3 eC v_18.2.2.1 :: rowp Ar8x0v_23 cr8x0v_24 32 1 (eI .u64) v_18.2.2.2.1 :: S) br8x0m_19 (Own.to hs.own [3, 0, 1, 2, 4, 5, 6] 7 (by kernel_rfl) (by kernel_rfl))).mono ?_
              rintro _ w ⟨rfl, how⟩
              refine ⟨_, _, _, rfl, how, fun a hs => ?_⟩
              replace hcl : Own κ w C_46 := by rw [hC_46]; exact (Own.to hs.own [3, 5, 6] 7 (by kernel_rfl) (by kernel_rfl))
              refine ⟨fun _ => hcl, ?_⟩
              obtain ⟨v_54, h_53, hm⟩ := bind_t hm
              refine Vk.dOnly (i := 7) (by kernel_rfl) (Vk.call (some 48) 46 #[pp br8x0x_20, vw x1] hs (by kernel_rfl) (by kernel_rfl) (by kernel_rfl) ?_)
              refine (visorref20_Encode.ok k v_18.2.1 x1 v_54 h_53 κ w (Twire_Machine.own br8x0m_19 v_51.2 :: pt b_48 (blk [ci 0, ci 0, ci 0] 28) :: pt b_47 (blk [ci 0, ci 0, ci 0] 28) :: pt b_25 (blk [cp br8x0m_19, cp br8x0x_20, C.slc Ar8x0l_21 v_18.2.2.1.length cr8x0l_22, C.slc Ar8x0v_23 v_18.2.2.2.1.length cr8x0v_24] 45) :: rowp Ar8x0l_21 cr8x0l_22 28 3 eC v_18.2.2.1 :: rowp Ar8x0v_23 cr8x0v_24 32 1 (eI .u64) v_18.2.2.2.1 :: S) br8x0x_20 (Own.to hs.own [4, 0, 1, 2, 3, 5, 6] 7 (by kernel_rfl) (by kernel_rfl))).mono ?_
              rintro _ w ⟨rfl, how⟩
              refine ⟨_, _, _, rfl, how, fun a hs => ?_⟩
              replace hcl : Own κ w C_46 := by rw [hC_46]; exact (Own.to hs.own [4, 5, 6] 7 (by kernel_rfl) (by kernel_rfl))
              refine ⟨fun _ => hcl, ?_⟩
              obtain ⟨h_55, hm⟩ := ite_t hm
              refine Vk.dOnly (i := 10) (by kernel_rfl) (Vk.storeA (b := b_47) (ty := 28) (x := (.tmp 12)) (y := (.tmp 44)) (sz := 3) v_51.1 3 hs (by kernel_rfl) (by kernel_rfl) (by kernel_rfl) (by kernel_rfl) (by kernel_rfl) h_55 (by kernel_rfl) rfl (Eq.trans (b := 3) h_55 (Eq.symm rfl)) fun a w hs => ?_)
              replace hcl : Own κ w C_46 := by rw [hC_46]; exact (Own.to hs.own [4, 5, 6] 7 (by kernel_rfl) (by kernel_rfl))
              refine ⟨fun _ => hcl, ?_⟩
              obtain ⟨h_56, hm⟩ := ite_t hm
              refine Vk.dOnly (i := 11) (by kernel_rfl) (Vk.storeA (b := b_48) (ty := 28) (x := (.tmp 13)) (y := (.tmp 48)) (sz := 3) v_54.1 2 hs (by kernel_rfl) (by kernel_rfl) (by kernel_rfl) (by kernel_rfl) (by kernel_rfl) h_56 (by kernel_rfl) rfl (Eq.trans (b := 3) h_56 (Eq.symm rfl)) fun a w hs => ?_)
              refine ⟨fun h => absurd h (by decide), ?_⟩
              replace hs := hs.pick [1, 3, 10, 12, 13] (L' := [(1, vw x1), (3, .bool x3), (10, pp b_25), (12, pp b_47), (13, pp b_48)]) (by kernel_rfl)
              refine Vk.dDone (by kernel_rfl) ?_
              exact hj45 v_51.2 v_54.2 v_51.1 v_54.1 hm b_47 b_48 _ _ (hs.go [1, 3, 10, 12, 13] [4, 1, 0, 5, 6, 3, 2] 7 (by kernel_rfl) (by kernel_rfl) (by kernel_rfl))
          · refine Vk.alloc 13 28 [ci 0, ci 0, ci 0] hs (by kernel_rfl) (by kernel_rfl) (by kernel_rfl) fun b_47 w a hs => ?_
            replace hcl : Own κ w C_46 := by rw [hC_46]; exact (Own.to hs.own [1, 4, 5] 6 (by kernel_rfl) (by kernel_rfl))
            refine ⟨fun _ => hcl, ?_⟩
            refine Vk.dMany2 (i0 := 3) (i1 := 8) (by kernel_rfl) ?_ ?_
            · obtain ⟨v_50, h_49, hm⟩ := bind_t hm
              refine Vk.call (some 44) 45 #[pp br8x0m_19, vw x1] hs (by kernel_rfl) (by kernel_rfl) (by kernel_rfl) ?_
              refine (share_Encode.ok k v_18.1 x1 v_50 h_49 κ w (pt b_47 (blk [ci 0, ci 0, ci 0] 28) :: pt b_25 (blk [cp br8x0m_19, cp br8x0x_20, C.slc Ar8x0l_21 v_18.2.2.1.length cr8x0l_22, C.slc Ar8x0v_23 v_18.2.2.2.1.length cr8x0v_24] 45) :: Tvisorref19_M.own κ br8x0x_20 v_18.2.1 :: rowp Ar8x0l_21 cr8x0l_22 28 3 eC v_18.2.2.1 :: rowp Ar8x0v_23 cr8x0v_24 32 1 (eI .u64) v_18.2.2.2.1 :: S) br8x0m_19 (Own.to hs.own [2, 0, 1, 3, 4, 5] 6 (by kernel_rfl) (by kernel_rfl))).mono ?_
              rintro _ w ⟨rfl, how⟩
              refine ⟨_, _, _, rfl, how, fun a hs => ?_⟩
              replace hcl : Own κ w C_46 := by rw [hC_46]; exact (Own.to hs.own [2, 4, 5] 6 (by kernel_rfl) (by kernel_rfl))
              refine ⟨fun _ => hcl, ?_⟩
              refine Vk.dMany2 (i0 := 7) (i1 := 8) (by kernel_rfl) ?_ ?_
              · obtain ⟨v_53, h_52, hm⟩ := bind_t hm
                refine Vk.call (some 48) 46 #[pp br8x0x_20, vw x1] hs (by kernel_rfl) (by kernel_rfl) (by kernel_rfl) ?_
                refine (visorref20_Encode.ok k v_18.2.1 x1 v_53 h_52 κ w (Twire_Machine.own br8x0m_19 v_50.2 :: pt b_47 (blk [ci 0, ci 0, ci 0] 28) :: pt b_25 (blk [cp br8x0m_19, cp br8x0x_20, C.slc Ar8x0l_21 v_18.2.2.1.length cr8x0l_22, C.slc Ar8x0v_23 v_18.2.2.2.1.length cr8x0v_24] 45) :: rowp Ar8x0l_21 cr8x0l_22 28 3 eC v_18.2.2.1 :: rowp Ar8x0v_23 cr8x0v_24 32 1 (eI .u64) v_18.2.2.2.1 :: S) br8x0x_20 (Own.to hs.own [3, 0, 1, 2, 4, 5] 6 (by kernel_rfl) (by kernel_rfl))).mono ?_
                rintro _ w ⟨rfl, how⟩
                refine ⟨_, _, _, rfl, how, fun a hs => ?_⟩
                replace hcl : Own κ w C_46 := by rw [hC_46]; exact (Own.to hs.own [3, 4, 5] 6 (by kernel_rfl) (by kernel_rfl))
                refine ⟨fun _ => hcl, ?_⟩
                refine Vk.dOnly (i := 8) (by kernel_rfl) (Vk.alloc 12 28 [ci 0, ci 0, ci 0] hs (by kernel_rfl) (by kernel_rfl) (by kernel_rfl) fun b_54 w a hs => ?_)
                replace hcl : Own κ w C_46 := by rw [hC_46]; exact (Own.to hs.own [4, 5, 6] 7 (by kernel_rfl) (by kernel_rfl))
                refine ⟨fun _ => hcl, ?_⟩
                obtain ⟨h_55, hm⟩ := ite_t hm
                refine Vk.dOnly (i := 10) (by kernel_rfl) (Vk.storeA (b := b_54) (ty := 28) (x := (.tmp 12)) (y := (.tmp 44)) (sz := 3) v_50.1 0 hs (by kernel_rfl) (by kernel_rfl) (by kernel_rfl) (by kernel_rfl) (by kernel_rfl) h_55 (by kernel_rfl) rfl (Eq.trans (b := 3) h_55 (Eq.symm rfl)) fun a w hs => ?_)
                replace hcl : Own κ w C_46 := by rw [hC_46]; exact (Own.to hs.own [4, 5, 6] 7 (by kernel_rfl) (by kernel_rfl))
                refine ⟨fun _ => hcl, ?_⟩
                obtain ⟨h_56, hm⟩ := ite_t hm
                refine Vk.dOnly (i := 11) (by kernel_rfl) (Vk.storeA (b := b_47) (ty := 28) (x := (.tmp 13)) (y := (.tmp 48)) (sz := 3) v_53.1 3 hs (by kernel_rfl) (by kernel_rfl) (by kernel_rfl) (by kernel_rfl) (by kernel_rfl) h_56 (by kernel_rfl) rfl (Eq.trans (b := 3) h_56 (Eq.symm rfl)) fun a w hs => ?_)
                refine ⟨fun h => absurd h (by decide), ?_⟩
                replace hs := hs.pick [1, 3, 10, 12, 13] (L' := [(1, vw x1), (3, .bool x3), (10, pp b_25), (12, pp b_54), (13, pp b_47)]) (by kernel_rfl)
                refine Vk.dDone (by kernel_rfl) ?_
                exact hj45 v_50.2 v_53.2 v_50.1 v_53.1 hm b_54 b_47 _ _ (hs.go [1, 3, 10, 12, 13] [4, 2, 1, 5, 6, 0, 3] 7 (by kernel_rfl) (by kernel_rfl) (by kernel_rfl))
              · refine Vk.alloc 12 28 [ci 0, ci 0, ci 0] hs (by kernel_rfl) (by kernel_rfl) (by kernel_rfl) fun b_51 w a hs => ?_
                replace hcl : Own κ w C_46 := by rw [hC_46]; exact (Own.to hs.own [3, 5, 6] 7 (by kernel_rfl) (by kernel_rfl))
                refine ⟨fun _ => hcl, ?_⟩
                obtain ⟨v_54, h_53, hm⟩ := bind_t hm
                refine Vk.dOnly (i := 7) (by kernel_rfl) (Vk.call (some 48) 46 #[pp br8x0x_20, vw x1] hs (by kernel_rfl) (by kernel_rfl) (by kernel_rfl) ?_)
                refine (visorref20_Encode.ok k v_18.2.1 x1 v_54 h_53 κ w (pt b_51 (blk [ci 0, ci 0, ci 0] 28) :: Twire_Machine.own br8x0m_19 v_50.2 :: pt b_47 (blk [ci 0, ci 0, ci 0] 28) :: pt b_25 (blk [cp br8x0m_19, cp br8x0x_20, C.slc Ar8x0l_21 v_18.2.2.1.length cr8x0l_22, C.slc Ar8x0v_23 v_18.2.2.2.1.length cr8x0v_24] 45) :: rowp Ar8x0l_21 cr8x0l_22 28 3 eC v_18.2.2.1 :: rowp Ar8x0v_23 cr8x0v_24 32 1 (eI .u64) v_18.2.2.2.1 :: S) br8x0x_20 (Own.to hs.own [4, 0, 1, 2, 3, 5, 6] 7 (by kernel_rfl) (by kernel_rfl))).mono ?_
                rintro _ w ⟨rfl, how⟩
                refine ⟨_, _, _, rfl, how, fun a hs => ?_⟩
                replace hcl : Own κ w C_46 := by rw [hC_46]; exact (Own.to hs.own [4, 5, 6] 7 (by kernel_rfl) (by kernel_rfl))
                refine ⟨fun _ => hcl, ?_⟩
                obtain ⟨h_55, hm⟩ := ite_t hm
                refine Vk.dOnly (i := 10) (by kernel_rfl) (Vk.storeA (b := b_51) (ty := 28) (x := (.tmp 12)) (y := (.tmp 44)) (sz := 3) v_50.1 1 hs (by kernel_rfl) (by kernel_rfl) (by kernel_rfl) (by kernel_rfl) (by kernel_rfl) h_55 (by kernel_rfl) rfl (Eq.trans (b := 3) h_55 (Eq.symm rfl)) fun a w hs => ?_)
                replace hcl : Own κ w C_46 := by rw [hC_46]; exact (Own.to hs.own [4, 5, 6] 7 (by kernel_rfl) (by kernel_rfl))
                refine ⟨fun _ => hcl, ?_⟩
                obtain ⟨h_56, hm⟩ := ite_t hm
                refine Vk.dOnly (i := 11) (by kernel_rfl) (Vk.storeA (b := b_47) (ty := 28) (x := (.tmp 13)) (y := (.tmp 48)) (sz := 3) v_54.1 3 hs (by kernel_rfl) (by kernel_rfl) (by kernel_rfl) (by kernel_rfl) (by kernel_rfl) h_56 (by kernel_rfl) rfl (Eq.trans (b := 3) h_56 (Eq.symm rfl)) fun a w hs => ?_)
                refine ⟨fun h => absurd h (by decide), ?_⟩
                replace hs := hs.pick [1, 3, 10, 12, 13] (L' := [(1, vw x1), (3, .bool x3), (10, pp b_25), (12, pp b_51), (13, pp b_47)]) (by kernel_rfl)
                refine Vk.dDone (by kernel_rfl) ?_
                exact hj45 v_50.2 v_54.2 v_50.1 v_54.1 hm b_51 b_47 _ _ (hs.go [1, 3, 10, 12, 13] [4, 2, 0, 5, 6, 1, 3] 7 (by kernel_rfl) (by kernel_rfl) (by kernel_rfl))
            · refine Vk.alloc 12 28 [ci 0, ci 0, ci 0] hs (by kernel_rfl) (by kernel_rfl) (by kernel_rfl) fun b_48 w a hs => ?_
              replace hcl : Own κ w C_46 := by rw [hC_46]; exact (Own.to hs.own [2, 5, 6] 7 (by kernel_rfl) (by kernel_rfl))
              refine ⟨fun _ => hcl, ?_⟩
              obtain ⟨v_51, h_50, hm⟩ := bind_t hm
              refine Vk.dOnly (i := 3) (by kernel_rfl) (Vk.call (some 44) 45 #[pp br8x0m_19, vw x1] hs (by kernel_rfl) (by kernel_rfl) (by kernel_rfl) ?_)
              refine (share_Encode.ok k v_18.1 x1 v_51 h_50 κ w (pt b_48 (blk [ci 0, ci 0, ci 0] 28) :: pt b_47 (blk [ci 0, ci 0, ci 0] 28) :: pt b_25 (blk [cp br8x0m_19, cp br8x0x_20, C.slc Ar8x0l_21 v_18.2.2.1.length cr8x0l_22, C.slc Ar8x0v_23 v_18.2.2.2.1.length cr8x0v_24] 45) :: Tvisorref19_M.own κ br8x0x_20 v_18.2.1 :: rowp Ar8x0l_21 cr8x0l_22 28 3 eC v_18.2.2.1 :: rowp Ar8x0v_23 cr8x0v_24 32 1 (eI .u64) v_18.2.2.2.1 :: S) br8x0m_19 (Own.to hs.own [3, 0, 1, 2, 4, 5, 6] 7 (by kernel_rfl) (by kernel_rfl))).mono ?_
              rintro _ w ⟨rfl, how⟩
              refine ⟨_, _, _, rfl, how, fun a hs => ?_⟩
              replace hcl : Own κ w C_46 := by rw [hC_46]; exact (Own.to hs.own [3, 5, 6] 7 (by kernel_rfl) (by kernel_rfl))
              refine ⟨fun _ => hcl, ?_⟩
              obtain ⟨v_54, h_53, hm⟩ := bind_t hm
              refine Vk.dOnly (i := 7) (by kernel_rfl) (Vk.call (some 48) 46 #[pp br8x0x_20, vw x1] hs (by kernel_rfl) (by kernel_rfl) (by kernel_rfl) ?_)
              refine (visorref20_Encode.ok k v_18.2.1 x1 v_54 h_53 κ w (Twire_Machine.own br8x0m_19 v_51.2 :: pt b_48 (blk [ci 0, ci 0, ci 0] 28) :: pt b_47 (blk [ci 0, ci 0, ci 0] 28) :: pt b_25 (blk [cp br8x0m_19, cp br8x0x_20, C.slc Ar8x0l_21 v_18.2.2.1.length cr8x0l_22, C.slc Ar8x0v_23 v_18.2.2.2.1.length cr8x0v_24] 45) :: rowp Ar8x0l_21 cr8x0l_22 28 3 eC v_18.2.2.1 :: rowp Ar8x0v_23 cr8x0v_24 32 1 (eI .u64) v_18.2.2.2.1 :: S) br8x0x_20 (Own.to hs.own [4, 0, 1, 2, 3, 5, 6] 7 (by kernel_rfl) (by kernel_rfl))).mono ?_
              rintro _ w ⟨rfl, how⟩
              refine ⟨_, _, _, rfl, how, fun a hs => ?_⟩
              replace hcl : Own κ w C_46 := by rw [hC_46]; exact (Own.to hs.own [4, 5, 6] 7 (by kernel_rfl) (by kernel_rfl))
              refine ⟨fun _ => hcl, ?_⟩
              obtain ⟨h_55, hm⟩ := ite_t hm
              refine Vk.dOnly (i := 10) (by kernel_rfl) (Vk.storeA (b := b_48) (ty := 28) (x := (.tmp 12)) (y := (.tmp 44)) (sz := 3) v_51.1 2 hs (by kernel_rfl) (by kernel_rfl) (by kernel_rfl) (by kernel_rfl) (by kernel_rfl) h_55 (by kernel_rfl) rfl (Eq.trans (b := 3) h_55 (Eq.symm rfl)) fun a w hs => ?_)
              replace hcl : Own κ w C_46 := by rw [hC_46]; exact (Own.to hs.own [4, 5, 6] 7 (by kernel_rfl) (by kernel_rfl))
              refine ⟨fun _ => hcl, ?_⟩
              obtain ⟨h_56, hm⟩ := ite_t hm
              refine Vk.dOnly (i := 11) (by kernel_rfl) (Vk.storeA (b := b_47) (ty := 28) (x := (.tmp 13)) (y := (.tmp 48)) (sz := 3) v_54.1 3 hs (by kernel_rfl) (by kernel_rfl) (by kernel_rfl) (by kernel_rfl) (by kernel_rfl) h_56 (by kernel_rfl) rfl (Eq.trans (b := 3) h_56 (Eq.symm rfl)) fun a w hs => ?_)
              refine ⟨fun h => absurd h (by decide), ?_⟩
              replace hs := hs.pick [1, 3, 10, 12, 13] (L' := [(1, vw x1), (3, .bool x3), (10, pp b_25), (12, pp b_48), (13, pp b_47)]) (by kernel_rfl)
              refine Vk.dDone (by kernel_rfl) ?_
              exact hj45 v_51.2 v_54.2 v_51.1 v_54.1 hm b_48 b_47 _ _ (hs.go [1, 3, 10, 12, 13] [4, 1, 0, 5, 6, 2, 3] 7 (by kernel_rfl) (by kernel_rfl) (by kernel_rfl))
      refine Vk.region ?_
      refine qpu 3 hs fun a hs => ?_
      rcases Bool.eq_false_or_eq_true (!v_18.2.2.2.2) with hb | hb
      · replace hm := bif_t hm hb
        replace hs := hs.known (t := 25) hb (by kernel_rfl)
        refine qpe 15 [(1, vw x1), (3, .bool x3), (10, pp b_25), (40, .bool true)] hs fun a hs => ?_
        exact hj30 true hm _ _ (hs.go [1, 3, 10, 40] [0, 1, 2, 3, 4] 5 (by kernel_rfl) (by kernel_rfl) (by kernel_rfl))
      · replace hm := bif_f hm hb
        replace hs := hs.known (t := 25) hb (by kernel_rfl)
        refine qpu 1 hs fun a hs => ?_
        obtain ⟨v_33, h_32, hm⟩ := bind_t hm
        refine Vk.step (Vk.call (some 27) 43 #[vi p_5] hs (by kernel_rfl) (by kernel_rfl) (by kernel_rfl) ?_)
        refine (fresh_Draws.ok k p_5 v_33 h_32 κ w (pt b_25 (blk [cp br8x0m_19, cp br8x0x_20, C.slc Ar8x0l_21 v_18.2.2.1.length cr8x0l_22, C.slc Ar8x0v_23 v_18.2.2.2.1.length cr8x0v_24] 45) :: Twire_Machine.own br8x0m_19 v_18.1 :: Tvisorref19_M.own κ br8x0x_20 v_18.2.1 :: rowp Ar8x0l_21 cr8x0l_22 28 3 eC v_18.2.2.1 :: rowp Ar8x0v_23 cr8x0v_24 32 1 (eI .u64) v_18.2.2.2.1 :: S) hs.own).mono ?_
        rintro _ w ⟨rfl, how⟩
        refine ⟨_, _, _, rfl, how, fun a hs => ?_⟩
        refine qpu 1 hs fun a hs => ?_
        obtain ⟨v_36, h_35, hm⟩ := bind_t hm
        refine Vk.step (Vk.call (some 29) 44 #[vi p_5] hs (by kernel_rfl) (by kernel_rfl) (by kernel_rfl) ?_)
        refine (visorref21_Draws.ok k p_5 v_36 h_35 κ w (pt b_25 (blk [cp br8x0m_19, cp br8x0x_20, C.slc Ar8x0l_21 v_18.2.2.1.length cr8x0l_22, C.slc Ar8x0v_23 v_18.2.2.2.1.length cr8x0v_24] 45) :: Twire_Machine.own br8x0m_19 v_18.1 :: Tvisorref19_M.own κ br8x0x_20 v_18.2.1 :: rowp Ar8x0l_21 cr8x0l_22 28 3 eC v_18.2.2.1 :: rowp Ar8x0v_23 cr8x0v_24 32 1 (eI .u64) v_18.2.2.2.1 :: S) hs.own).mono ?_
        rintro _ w ⟨rfl, how⟩
        refine ⟨_, _, _, rfl, how, fun a hs => ?_⟩
        refine qpu 3 hs fun a hs => ?_
        rcases Bool.eq_false_or_eq_true (v_33 != v_36) with hb | hb
        · replace hm := bif_t hm hb
          replace hs := hs.known (t := 32) hb (by kernel_rfl)
          refine qpe 8 [(1, vw x1), (3, .bool x3), (10, pp b_25), (40, .bool true)] hs fun a hs => ?_
          exact hj30 true hm _ _ (hs.go [1, 3, 10, 40] [0, 1, 2, 3, 4] 5 (by kernel_rfl) (by kernel_rfl) (by kernel_rfl))
        · replace hm := bif_f hm hb
          replace hs := hs.known (t := 32) hb (by kernel_rfl)
          refine qpu 2 hs fun a hs => ?_
          obtain ⟨v_39, h_38, hm⟩ := bind_t hm
          refine Vk.step (Vk.call (some 35) 43 #[vi ((x2.length : Nat) : Int)] hs (by kernel_rfl) (by kernel_rfl) (by kernel_rfl) ?_)
          refine (fresh_Draws.ok k ((x2.length : Nat) : Int) v_39 h_38 κ w (pt b_25 (blk [cp br8x0m_19, cp br8x0x_20, C.slc Ar8x0l_21 v_18.2.2.1.length cr8x0l_22, C.slc Ar8x0v_23 v_18.2.2.2.1.length cr8x0v_24] 45) :: Twire_Machine.own br8x0m_19 v_18.1 :: Tvisorref19_M.own κ br8x0x_20 v_18.2.1 :: rowp Ar8x0l_21 cr8x0l_22 28 3 eC v_18.2.2.1 :: rowp Ar8x0v_23 cr8x0v_24 32 1 (eI .u64) v_18.2.2.2.1 :: S) hs.own).mono ?_
          rintro _ w ⟨rfl, how⟩
          refine ⟨_, _, _, rfl, how, fun a hs => ?_⟩
          refine qpu 2 hs fun a hs => ?_
          obtain ⟨v_42, h_41, hm⟩ := bind_t hm
          refine Vk.step (Vk.call (some 38) 44 #[vi ((x2.length : Nat) : Int)] hs (by kernel_rfl) (by kernel_rfl) (by kernel_rfl) ?_)
          refine (visorref21_Draws.ok k ((x2.length : Nat) : Int) v_42 h_41 κ w (pt b_25 (blk [cp br8x0m_19, cp br8x0x_20, C.slc Ar8x0l_21 v_18.2.2.1.length cr8x0l_22, C.slc Ar8x0v_23 v_18.2.2.2.1.length cr8x0v_24] 45) :: Twire_Machine.own br8x0m_19 v_18.1 :: Tvisorref19_M.own κ br8x0x_20 v_18.2.1 :: rowp Ar8x0l_21 cr8x0l_22 28 3 eC v_18.2.2.1 :: rowp Ar8x0v_23 cr8x0v_24 32 1 (eI .u64) v_18.2.2.2.1 :: S) hs.own).mono ?_
          rintro _ w ⟨rfl, how⟩
          refine ⟨_, _, _, rfl, how, fun a hs => ?_⟩
          refine qpe 2 [(1, vw x1), (3, .bool x3), (10, pp b_25), (40, .bool (v_39 != v_42))] hs fun a hs => ?_
          exact hj30 (v_39 != v_42) hm _ _ (hs.go [1, 3, 10, 40] [0, 1, 2, 3, 4] 5 (by kernel_rfl) (by kernel_rfl) (by kernel_rfl))
  refine qsr fun K4 hK4 => ?_
  refine qpe 1 [(1, vw x1), (2, .slice A_x2 x2.length c_x2), (3, .bool x3), (9, vi 2), (16, .bool x0)] hs fun a hs => hK4 _ _ ?_
  clear hK4
  refine qcs (x0) hs (fun hb => ?_) fun hb => ?_
  · replace hm := bif_t hm hb
    refine Vk.region ?_
    refine qpe 1 [(1, vw x1), (2, .slice A_x2 x2.length c_x2), (3, .bool x3), (9, vi 3)] hs fun a hs => ?_
    exact hj3 3 hm _ _ (hs.go [1, 2, 3, 9] [] 0 (by kernel_rfl) (by kernel_rfl) (by kernel_rfl))
  · replace hm := bif_f hm hb
    refine wp_skip ?_
    exact hj3 2 hm _ _ (hs.go [1, 2, 3, 9] [] 0 (by kernel_rfl) (by kernel_rfl) (by kernel_rfl))

end Go.Proofs.Ytflgefjocjpjaaa
