/- Of each Go function that BothTells comes to: a model in plain Lean, and that the program's call does what the model says; no condition. -/
import Derived.Test.YtflgefjocjpjaaaGreatProg
import Derived.Test.YtflgefjocjpjaaaGreatValmicggm
import Derived.Test.YtflgefjocjpjaaaGreatMBothTells3
namespace Go.Proofs.YtflgefjocjpjaaaGreat
open Go Go.Vk
set_option linter.unusedVariables false


def visorlaw23_BothTells.j5 (k : Nat) (p_397 : Bool) : Option (Bool) := some p_397
def visorlaw23_BothTells.j4 (k : Nat) (x0 : Tvisorlaw23_Asked) (p_106 : List Int) (p_349 : Twire_Machine) (p_350 : Tvisorref19_M) (p_351 : Cells) (p_364 : Bool) : Option (Bool) := (bif p_364 then some false else (bif ((p_350.e != 0) || (decide (x0.kind < 0))) || (decide (x0.kind > 3)) then (visorlaw23_awake.m k).bind fun v_378 => some v_378 else (if p_351.length = 3 then (wire_Machine_Values.m k p_349).bind fun v_385 => (share_Value.m k v_385 p_351).bind fun v_390 => (visorlaw23_meant.m k x0 p_106).bind fun v_393 => (bif v_390 == v_393 then (visorlaw23_awake.m k).bind fun v_396 => visorlaw23_BothTells.j5 k v_396 else visorlaw23_BothTells.j5 k false) else none)))
def visorlaw23_BothTells.j3 (k : Nat) (x0 : Tvisorlaw23_Asked) (v_19 : Twire_Machine × Tvisorref19_M × List Cells × List Int × Bool) (p_106 : List Int) (p_349 : Twire_Machine) (p_350 : Tvisorref19_M) (p_351 : Cells) (p_352 : Cells) : Option (Bool) := (if p_351.length = 3 then (if p_352.length = 3 then (if Kinds ((List.replicate 3 [LK.int .i64]).flatten) p_351 then (if Kinds ((List.replicate 3 [LK.int .i64]).flatten) p_352 then (bif !(ceq p_351 p_352) then visorlaw23_BothTells.j4 k x0 p_106 p_349 p_350 p_351 true else (visorlaw20_Pair_Like.m k (⟨p_349, p_350, v_19.2.2.1, v_19.2.2.2.1⟩ : Tvisorlaw20_Pair)).bind fun v_363 => visorlaw23_BothTells.j4 k x0 p_106 p_349 p_350 p_351 (!v_363)) else none) else none) else none) else none)
def visorlaw23_BothTells.l2 (p_106 : List Int) : Nat → Twire_Machine → Tvisorref19_M → (List Cells) → (List Cells) → Int → Option (Twire_Machine × Tvisorref19_M × List Cells × List Cells)
 | 0, _, _, _, _, _ => none
 | k + 1, q_119, q_120, q_123, q_126, q_127 => (bif decide (q_127 < ((p_106.length : Nat) : Int)) then (if 0 ≤ q_127 then (p_106[q_127.toNat]?).bind fun e_136 => (share_Public.m k q_119 e_136).bind fun v_142 => (if v_142.1.length = 3 then (if (q_123.length + ([v_142.1] : List Cells).length) * 24 ≤ 140737488355328 then (if 0 ≤ q_127 then (p_106[q_127.toNat]?).bind fun e_153 => (visorref20_Const.m k q_120 3 e_153).bind fun v_159 => (if v_159.1.length = 3 then (if (q_126.length + ([v_159.1] : List Cells).length) * 24 ≤ 140737488355328 then visorlaw23_BothTells.l2 p_106 k v_142.2 v_159.2 (q_123 ++ ([v_142.1] : List Cells)) (q_126 ++ ([v_159.1] : List Cells)) (IntKind.i64.wrap (q_127 + 1)) else none) else none) else none) else none) else none) else none) else some (q_119, q_120, q_123, q_126))
def visorlaw23_BothTells.j2 (k : Nat) (rec65 : (List Int) → Int → Option (List Int)) (q_69 : Int) (p_103 : List Int) : Option (List Int) := rec65 p_103 (IntKind.i64.wrap (q_69 + 1))
def visorlaw23_BothTells.l1 (x0 : Tvisorlaw23_Asked) : Nat → (List Int) → Int → Option (List Int)
 | 0, _, _ => none
 | k + 1, q_68, q_69 => (bif (decide (q_69 < ((x0.l.length : Nat) : Int))) && (decide (q_69 < 5)) then (bif decide (q_69 < 2) then (if 0 ≤ q_69 then (x0.l[q_69.toNat]?).bind fun e_78 => (if 0 ≤ q_69 then (q_68[q_69.toNat]?).bind fun e_85 => visorlaw23_BothTells.j2 k (visorlaw23_BothTells.l1 x0 k) q_69 (q_68.set q_69.toNat e_78) else none) else none) else (if 0 ≤ q_69 then (x0.l[q_69.toNat]?).bind fun e_92 => (if (q_68.length + ([e_92] : List Int).length) * 8 ≤ 140737488355328 then visorlaw23_BothTells.j2 k (visorlaw23_BothTells.l1 x0 k) q_69 (q_68 ++ ([e_92] : List Int)) else none) else none)) else some q_68)
def visorlaw23_BothTells.j1 (k : Nat) (x0 : Tvisorlaw23_Asked) (v_19 : Twire_Machine × Tvisorref19_M × List Cells × List Int × Bool) (p_58 : Bool) : Option (Bool) := (bif p_58 then some false else (visorlaw23_BothTells.l1 x0 k ([7, 9] : List Int) 0).bind fun p_106 => (visorlaw23_BothTells.l2 p_106 k v_19.1 v_19.2.1 ([] : List Cells) ([] : List Cells) 0).bind fun x => match x with | (p_166, p_167, p_170, p_173) => (bif x0.kind == 0 then (if 0 ≤ (0 : Int) then (p_170[0]?).bind fun e_193 => (if e_193.length = 3 then (if 0 ≤ (1 : Int) then (p_170[1]?).bind fun e_201 => (if e_201.length = 3 then (if 0 ≤ (0 : Int) then (p_173[0]?).bind fun e_209 => (if e_209.length = 3 then (if 0 ≤ (1 : Int) then (p_173[1]?).bind fun e_217 => (if e_217.length = 3 then (both_And.m k p_166 x0.byF e_193 e_201).bind fun v_224 => (visorref23_And.m k p_167 x0.byF e_209 e_217).bind fun v_227 => (if v_224.1.length = 3 then (if v_227.1.length = 3 then visorlaw23_BothTells.j3 k x0 v_19 p_106 v_224.2 v_227.2 v_224.1 v_227.1 else none) else none) else none) else none) else none) else none) else none) else none) else none) else none) else (bif x0.kind == 1 then (if 0 ≤ (0 : Int) then (p_170[0]?).bind fun e_235 => (if e_235.length = 3 then (if 0 ≤ (1 : Int) then (p_170[1]?).bind fun e_243 => (if e_243.length = 3 then (if 0 ≤ (0 : Int) then (p_173[0]?).bind fun e_251 => (if e_251.length = 3 then (if 0 ≤ (1 : Int) then (p_173[1]?).bind fun e_259 => (if e_259.length = 3 then (both_Less.m k p_166 x0.byF e_235 e_243).bind fun v_266 => (visorref23_Less.m k p_167 x0.byF e_251 e_259).bind fun v_269 => (if v_266.1.length = 3 then (if v_269.1.length = 3 then visorlaw23_BothTells.j3 k x0 v_19 p_106 v_266.2 v_269.2 v_266.1 v_269.1 else none) else none) else none) else none) else none) else none) else none) else none) else none) else none) else (bif x0.kind == 2 then (if 0 ≤ (0 : Int) then (p_170[0]?).bind fun e_277 => (if e_277.length = 3 then (if 0 ≤ (1 : Int) then (p_170[1]?).bind fun e_285 => (if e_285.length = 3 then (if 0 ≤ (0 : Int) then (p_173[0]?).bind fun e_293 => (if e_293.length = 3 then (if 0 ≤ (1 : Int) then (p_173[1]?).bind fun e_301 => (if e_301.length = 3 then (both_Or.m k p_166 x0.byF e_277 e_285).bind fun v_308 => (visorref23_Or.m k p_167 x0.byF e_293 e_301).bind fun v_311 => (if v_308.1.length = 3 then (if v_311.1.length = 3 then visorlaw23_BothTells.j3 k x0 v_19 p_106 v_308.2 v_311.2 v_308.1 v_311.1 else none) else none) else none) else none) else none) else none) else none) else none) else none) else none) else (bif x0.kind == 3 then (both_Any.m k p_166 x0.byF p_170).bind fun v_318 => (visorref23_Any.m k p_167 x0.byF p_173).bind fun v_321 => (if v_318.1.length = 3 then (if v_321.1.length = 3 then visorlaw23_BothTells.j3 k x0 v_19 p_106 v_318.2 v_321.2 v_318.1 v_321.1 else none) else none) else (if 0 ≤ (0 : Int) then (p_170[0]?).bind fun e_328 => (if e_328.length = 3 then (if 0 ≤ (0 : Int) then (p_173[0]?).bind fun e_336 => (if e_336.length = 3 then (both_Fold.m k p_166 x0.byF e_328 x0.width).bind fun v_343 => (visorref23_Fold.m k p_167 x0.byF e_336 x0.width).bind fun v_346 => (if v_343.1.length = 3 then (if v_346.1.length = 3 then visorlaw23_BothTells.j3 k x0 v_19 p_106 v_343.2 v_346.2 v_343.1 v_346.1 else none) else none) else none) else none) else none) else none))))))
abbrev visorlaw23_BothTells.R (κ : Ctx) (S : List HP) (x0 : Tvisorlaw23_Asked) (A_x0l : Option Addr) (c_x0l : Nat) (A_x0masks : Option Addr) (c_x0masks : Nat) (r : Bool) : Ending → World → Prop := fun e w' => e = .returned (.bool r) ∧ Own κ w' (S)
def visorlaw23_BothTells.m (k : Nat) (x0 : Tvisorlaw23_Asked) : Option Bool := (visorlaw23_Asked_n.m k x0).bind fun v_6 => ((visorlaw20_Begins.m k v_6 x0.masks 2000).bind fun v => match v with | (.inl v_12) => some false | (.inr v_19) => (bif !v_19.2.2.2.2 then visorlaw23_BothTells.j1 k x0 v_19 true else (both_Draws.m k v_6).bind fun v_36 => (visorref23_Draws.m k v_6).bind fun v_39 => (bif v_36 != v_39 then visorlaw23_BothTells.j1 k x0 v_19 true else (both_Ops.m k v_6).bind fun v_42 => (visorref23_Ops.m k v_6).bind fun v_45 => (bif v_42 != v_45 then visorlaw23_BothTells.j1 k x0 v_19 true else (both_Draws.m k x0.width).bind fun v_48 => (visorref23_Draws.m k x0.width).bind fun v_51 => (bif v_48 != v_51 then visorlaw23_BothTells.j1 k x0 v_19 true else (both_Ops.m k x0.width).bind fun v_54 => (visorref23_Ops.m k x0.width).bind fun v_57 => visorlaw23_BothTells.j1 k x0 v_19 (v_54 != v_57))))))

set_option maxRecDepth 100000 in
set_option maxHeartbeats 4000000 in
theorem visorlaw23_BothTells.ok (k : Nat) (x0 : Tvisorlaw23_Asked) (r : Bool) (hm : visorlaw23_BothTells.m k x0 = some r) (κ : Ctx) (w : World) (S : List HP) (A_x0l : Option Addr) (c_x0l : Nat) (hx_x0l : Sl κ [] A_x0l c_x0l 1 (eI .u64) x0.l) (A_x0masks : Option Addr) (c_x0masks : Nat) (hx_x0masks : Sl κ [] A_x0masks c_x0masks 1 (eI .u64) x0.masks) (ho : Own κ w (S)) :
  Calls Tryz.prog 4 #[.agg (vals [C.bool x0.three, ci x0.kind, ci x0.byF, ci x0.width, C.slc A_x0l x0.l.length c_x0l, C.slc A_x0masks x0.masks.length c_x0masks])] w (visorlaw23_BothTells.R κ S x0 A_x0l c_x0l A_x0masks c_x0masks r) := by
 have ht_x0l := hx_x0l
 generalize hRR : visorlaw23_BothTells.R κ S x0 A_x0l c_x0l A_x0masks c_x0masks r = RR
 replace hx_x0l := Sl.top (S := S) hx_x0l
 have ht_x0masks := hx_x0masks
 replace hx_x0masks := Sl.top (S := S) hx_x0masks
 unfold visorlaw23_BothTells.m at hm
 refine qen [(0, .agg (vals [C.bool x0.three, ci x0.kind, ci x0.byF, ci x0.width, C.slc A_x0l x0.l.length c_x0l, C.slc A_x0masks x0.masks.length c_x0masks]))] Tryz.func4 Tryz.ntmps4 ho fun a hs => ?_
 refine qsr fun K1 hK1 => ?_
 refine qbx 0 60 [C.bool x0.three, ci x0.kind, ci x0.byF, ci x0.width, C.slc A_x0l x0.l.length c_x0l, C.slc A_x0masks x0.masks.length c_x0masks] 1 hs fun b_2 w a hs => ?_
 refine qpe 1 [(1, pp b_2)] hs fun a hs => hK1 _ _ ?_
 clear hK1
 refine qsr fun K3 hK3 => ?_
 refine qln 0 ([C.bool x0.three, ci x0.kind, ci x0.byF, ci x0.width, C.slc A_x0l x0.l.length c_x0l, C.slc A_x0masks x0.masks.length c_x0masks]) hs rfl fun a hs => ?_
 obtain ⟨v_6, h_5, hm⟩ := bind_t hm
 refine qcl (visorlaw23_Asked_n.ok _ _ _ h_5 _ _ (pt b_2 (blk (Tvisorlaw23_Asked.obj x0 A_x0l c_x0l A_x0masks c_x0masks) 60) :: S) A_x0l c_x0l hx_x0l.less A_x0masks c_x0masks hx_x0masks.less hs.own) hs fun w a hs => ?_
 refine qpe 1 [(1, pp b_2), (3, vi v_6)] hs fun a hs => hK3 _ _ ?_
 clear hK3
 refine qsr fun K7 hK7 => ?_
 refine qpu 2 hs fun a hs => ?_
 refine qld 0 (C.slc A_x0masks x0.masks.length c_x0masks) hs rfl fun a hs => ?_
 replace hs := hs.addRd ht_x0masks
 obtain ⟨v_11, h_10, hm⟩ := bind_t hm
 refine Vk.step (Vk.call (some 19) 6 #[vi v_6, .slice A_x0masks x0.masks.length c_x0masks, vi 2000] hs (by kernel_rfl) (by kernel_rfl) (by kernel_rfl) ?_)
 refine (visorlaw20_Begins.ok k v_6 x0.masks 2000 v_11 h_10 κ w (pt b_2 (blk (Tvisorlaw23_Asked.obj x0 A_x0l c_x0l A_x0masks c_x0masks) 60) :: S) A_x0masks c_x0masks hs.own).mono ?_
 rintro _ w (⟨v_12, rfl, br9x0x_13, Ar9x0l_14, cr9x0l_15, Ar9x0v_16, cr9x0v_17, rfl, how⟩ | ⟨v_19, rfl, br9x0m_20, br9x0x_21, Ar9x0l_22, cr9x0l_23, Ar9x0v_24, cr9x0v_25, rfl, how⟩)
 ·dsimp only at hm
  refine ⟨_, _, _, rfl, how, fun a hs => ?_⟩
  refine qpu 3 hs fun a hs => ?_
  refine qal 30 [C.ptr none, C.ptr none, C.slc none 0 0, C.slc none 0 0] 4 hs fun b_18 w a hs => ?_
  refine qsa 0 [C.ptr none, cp br9x0x_13, C.slc Ar9x0l_14 v_12.2.1.length cr9x0l_15, C.slc Ar9x0v_16 v_12.2.2.length cr9x0v_17] hs rfl fun a w hs => ?_
  refine qpk 1 [1, 3, 4, 5] hs fun a hs => hK7 _ _ ?_
  refine Vk.seq fun K27 hK27 => ?_
  refine Vk.seq fun K28 hK28 => ?_
  obtain ⟨C_29, hC_29⟩ := qC hs.own
  refine qdr 34 κ C_29 hs fun w hs hqC_29 => ?_
  have hcl := qO hC_29 hs.own
  refine qdp (fuel := 0) [0, 1, 2, 3, 4, 5, 6, 7, 8, 9, 10, 11, 12, 13, 14, 15, 16, 17, 18, 19, 20, 21, 22, 23, 24, 25, 26, 27, 28, 29, 30, 31, 32, 33] hs hcl hqC_29 fun a hs => ?_
  replace hs := hs.pick [1, 4, 55] (L' := [(1, pp b_2), (4, pp b_18), (55, .bool true)]) (by kernel_rfl)
  refine Vk.dDone (by kernel_rfl) ?_
  refine hK28 _ _ ?_
  clear hK28
  refine qct hs ?_
  refine qse 1 [(2, .bool false)] hs fun a hs => ?_
  refine wp_ret ?_
  exact qr1 (.bool false) hs rfl hRR (by cases hm; exact ⟨rfl, (hs.own.too [] 5)⟩)
 ·dsimp only at hm
  refine ⟨_, _, _, rfl, how, fun a hs => ?_⟩
  refine qpu 3 hs fun a hs => ?_
  refine qal 30 [C.ptr none, C.ptr none, C.slc none 0 0, C.slc none 0 0] 4 hs fun b_26 w a hs => ?_
  refine qsa 0 [cp br9x0m_20, cp br9x0x_21, C.slc Ar9x0l_22 v_19.2.2.1.length cr9x0l_23, C.slc Ar9x0v_24 v_19.2.2.2.1.length cr9x0v_25] hs rfl fun a w hs => ?_
  refine qpk 1 [1, 3, 4, 5] hs fun a hs => hK7 _ _ ?_
  refine Vk.seq fun K31 hK31 => ?_
  refine Vk.seq fun K32 hK32 => ?_
  have hj32 : ∀ (p_58 : Bool), visorlaw23_BothTells.j1 k x0 v_19 p_58 = some r → ∀ (a : Act) (w : World), St 261 a w κ [(1, pp b_2), (4, pp b_26), (55, .bool p_58)] (pt b_2 (blk (Tvisorlaw23_Asked.obj x0 A_x0l c_x0l A_x0masks c_x0masks) 60) :: pt b_26 (blk [cp br9x0m_20, cp br9x0x_21, C.slc Ar9x0l_22 v_19.2.2.1.length cr9x0l_23, C.slc Ar9x0v_24 v_19.2.2.2.1.length cr9x0v_25] 30) :: Twire_Machine.own br9x0m_20 v_19.1 :: Tvisorref19_M.own κ br9x0x_21 v_19.2.1 :: rowp Ar9x0l_22 cr9x0l_23 35 3 eC v_19.2.2.1 :: rowp Ar9x0v_24 cr9x0v_25 23 1 (eI .u64) v_19.2.2.2.1 :: S) → K32 a w := by
   intro p_58 hm a w hs
   unfold visorlaw23_BothTells.j1 at hm
   refine hK32 _ _ ?_
   refine qcs (p_58) hs (fun hb => ?_) fun hb => ?_
   ·replace hm := bif_t hm hb
    refine qse 1 [(2, .bool false)] hs fun a hs => ?_
    refine wp_ret ?_
    exact qr1 (.bool false) hs rfl hRR (by cases hm; exact ⟨rfl, (hs.own.too [] 6)⟩)
   ·replace hm := bif_f hm hb
    refine wp_skip ?_
    refine hK31 _ _ ?_
    clear hK31
    refine qsr fun K60 hK60 => ?_
    refine Vk.step (Vk.buildOp (sz := 1) (by_ := 8) (t := 24) (e := 23) (parts := #[(0, (.const (vw 7))), (1, (.const (vw 9)))]) (zs := vals [cw 0]) ([7, 9] : List Int) (eI .u64) (some 56) hs (by kernel_rfl) (by kernel_rfl) (by kernel_rfl) (by kernel_rfl) (by decide) rfl (fun x _ => rfl) (Nat.le_of_ble_eq_true (by kernel_rfl)) (by kernel_rfl) fun A_61 w a hs => ?_)
    refine qpk 1 [1, 4, 6] hs fun a hs => hK60 _ _ ?_
    clear hK60
    refine Vk.seq fun K63 hK63 => ?_
    refine qsk 1 [1, 4, 6, 7] hs fun a hs => ?_
    refine wp_block ?_
    obtain ⟨r65, hl65, hm⟩ := bind_t hm
    have hx65 : ∀ (p_106 : List Int), r65 = p_106 → ∀ (A_104 : Option Addr) (c_105 : Nat) (a : Act) (w : World), St 261 a w κ [(1, pp b_2), (4, pp b_26), (6, .slice A_104 p_106.length c_105)] (pt b_2 (blk (Tvisorlaw23_Asked.obj x0 A_x0l c_x0l A_x0masks c_x0masks) 60) :: pt b_26 (blk [cp br9x0m_20, cp br9x0x_21, C.slc Ar9x0l_22 v_19.2.2.1.length cr9x0l_23, C.slc Ar9x0v_24 v_19.2.2.2.1.length cr9x0v_25] 30) :: Twire_Machine.own br9x0m_20 v_19.1 :: Tvisorref19_M.own κ br9x0x_21 v_19.2.1 :: rowp Ar9x0l_22 cr9x0l_23 35 3 eC v_19.2.2.1 :: rowp Ar9x0v_24 cr9x0v_25 23 1 (eI .u64) v_19.2.2.2.1 :: rowp A_104 c_105 23 1 (eI .u64) p_106 :: S) → K63 a w := by
     intro p_106 he A_104 c_105 a w hs
     subst r65
     refine hK63 _ _ ?_
     clear hK63
     refine qsr fun K111 hK111 => ?_
     refine Vk.step (Vk.buildOp (sz := 3) (by_ := 24) (t := 28) (e := 35) (parts := #[]) (zs := vals [ci 0, ci 0, ci 0]) ([] : List Cells) eC (some 86) hs (by kernel_rfl) (by kernel_rfl) (by kernel_rfl) (by kernel_rfl) (by decide) rfl (fun x _ => by rename_i h; cases h) (Nat.le_of_ble_eq_true (by kernel_rfl)) (by kernel_rfl) fun A_112 w a hs => ?_)
     refine Vk.step (Vk.buildOp (sz := 3) (by_ := 24) (t := 28) (e := 35) (parts := #[]) (zs := vals [ci 0, ci 0, ci 0]) ([] : List Cells) eC (some 87) hs (by kernel_rfl) (by kernel_rfl) (by kernel_rfl) (by kernel_rfl) (by decide) rfl (fun x _ => by rename_i h; cases h) (Nat.le_of_ble_eq_true (by kernel_rfl)) (by kernel_rfl) fun A_114 w a hs => ?_)
     refine qpk 2 [1, 4, 6, 8, 9] hs fun a hs => hK111 _ _ ?_
     clear hK111
     refine Vk.seq fun K116 hK116 => ?_
     refine qsk 1 [1, 4, 6, 8, 9, 10] hs fun a hs => ?_
     refine wp_block ?_
     obtain ⟨r118, hl118, hm⟩ := bind_t hm
     have hx118 : ∀ (p_166 : Twire_Machine) (p_167 : Tvisorref19_M) (p_170 : List Cells) (p_173 : List Cells), r118 = (p_166, p_167, p_170, p_173) → ∀ (A_168 : Option Addr) (c_169 : Nat) (A_171 : Option Addr) (c_172 : Nat) (a : Act) (w : World), St 261 a w κ [(1, pp b_2), (4, pp b_26), (6, .slice A_104 p_106.length c_105), (8, .slice A_168 p_170.length c_169), (9, .slice A_171 p_173.length c_172)] (pt b_2 (blk (Tvisorlaw23_Asked.obj x0 A_x0l c_x0l A_x0masks c_x0masks) 60) :: pt b_26 (blk [cp br9x0m_20, cp br9x0x_21, C.slc Ar9x0l_22 v_19.2.2.1.length cr9x0l_23, C.slc Ar9x0v_24 v_19.2.2.2.1.length cr9x0v_25] 30) :: Twire_Machine.own br9x0m_20 p_166 :: Tvisorref19_M.own κ br9x0x_21 p_167 :: rowp Ar9x0l_22 cr9x0l_23 35 3 eC v_19.2.2.1 :: rowp Ar9x0v_24 cr9x0v_25 23 1 (eI .u64) v_19.2.2.2.1 :: rowp A_104 c_105 23 1 (eI .u64) p_106 :: rowp A_168 c_169 35 3 eC p_170 :: rowp A_171 c_172 35 3 eC p_173 :: S) → K116 a w := by
      intro p_166 p_167 p_170 p_173 he A_168 c_169 A_171 c_172 a w hs
      subst r118
      refine hK116 _ _ ?_
      clear hK116
      refine qsr fun K183 hK183 => ?_
      refine qpu 2 hs fun a hs => ?_
      refine qal 35 [ci 0, ci 0, ci 0] 11 hs fun b_184 w a hs => ?_
      refine qal 35 [ci 0, ci 0, ci 0] 12 hs fun b_185 w a hs => ?_
      refine qsa 1 [ci 0, ci 0, ci 0] hs rfl fun a w hs => ?_
      refine qsa 0 [ci 0, ci 0, ci 0] hs rfl fun a w hs => ?_
      refine qpk 0 [1, 4, 6, 8, 9, 11, 12] hs fun a hs => hK183 _ _ ?_
      clear hK183
      refine Vk.seq fun K186 hK186 => ?_
      have hj186 : ∀ (p_349 : Twire_Machine) (p_350 : Tvisorref19_M) (p_351 : Cells) (p_352 : Cells), visorlaw23_BothTells.j3 k x0 v_19 p_106 p_349 p_350 p_351 p_352 = some r → ∀ (a : Act) (w : World), St 261 a w κ [(1, pp b_2), (4, pp b_26), (6, .slice A_104 p_106.length c_105), (11, pp b_184), (12, pp b_185)] (pt b_2 (blk (Tvisorlaw23_Asked.obj x0 A_x0l c_x0l A_x0masks c_x0masks) 60) :: pt b_26 (blk [cp br9x0m_20, cp br9x0x_21, C.slc Ar9x0l_22 v_19.2.2.1.length cr9x0l_23, C.slc Ar9x0v_24 v_19.2.2.2.1.length cr9x0v_25] 30) :: Twire_Machine.own br9x0m_20 p_349 :: Tvisorref19_M.own κ br9x0x_21 p_350 :: rowp Ar9x0l_22 cr9x0l_23 35 3 eC v_19.2.2.1 :: rowp Ar9x0v_24 cr9x0v_25 23 1 (eI .u64) v_19.2.2.2.1 :: rowp A_104 c_105 23 1 (eI .u64) p_106 :: pt b_184 (blk p_351 35) :: pt b_185 (blk p_352 35) :: S) → K186 a w := by
       intro p_349 p_350 p_351 p_352 hm a w hs
       unfold visorlaw23_BothTells.j3 at hm
       refine hK186 _ _ ?_
       refine Vk.seq fun K353 hK353 => ?_
       refine Vk.seq fun K354 hK354 => ?_
       have hj354 : ∀ (p_364 : Bool), visorlaw23_BothTells.j4 k x0 p_106 p_349 p_350 p_351 p_364 = some r → ∀ (a : Act) (w : World), St 261 a w κ [(1, pp b_2), (4, pp b_26), (6, .slice A_104 p_106.length c_105), (11, pp b_184), (231, .bool p_364)] (pt b_2 (blk (Tvisorlaw23_Asked.obj x0 A_x0l c_x0l A_x0masks c_x0masks) 60) :: pt b_26 (blk [cp br9x0m_20, cp br9x0x_21, C.slc Ar9x0l_22 v_19.2.2.1.length cr9x0l_23, C.slc Ar9x0v_24 v_19.2.2.2.1.length cr9x0v_25] 30) :: Twire_Machine.own br9x0m_20 p_349 :: Tvisorref19_M.own κ br9x0x_21 p_350 :: rowp Ar9x0l_22 cr9x0l_23 35 3 eC v_19.2.2.1 :: rowp Ar9x0v_24 cr9x0v_25 23 1 (eI .u64) v_19.2.2.2.1 :: rowp A_104 c_105 23 1 (eI .u64) p_106 :: pt b_184 (blk p_351 35) :: S) → K354 a w := by
        intro p_364 hm a w hs
        unfold visorlaw23_BothTells.j4 at hm
        refine hK354 _ _ ?_
        refine qcs (p_364) hs (fun hb => ?_) fun hb => ?_
        ·replace hm := bif_t hm hb
         refine qse 1 [(2, .bool false)] hs fun a hs => ?_
         refine wp_ret ?_
         exact qr1 (.bool false) hs rfl hRR (by cases hm; exact ⟨rfl, (hs.own.too [] 8)⟩)
        ·replace hm := bif_f hm hb
         refine wp_skip ?_
         refine hK353 _ _ ?_
         clear hK353
         refine Vk.seq fun K366 hK366 => ?_
         refine qsr fun K367 hK367 => ?_
         refine qpu 1 hs fun a hs => ?_
         refine qld 1 (cp br9x0x_21) hs rfl fun a hs => ?_
         refine qpu 2 hs fun a hs => ?_
         obtain ⟨g_368, hs⟩ := hs.unbag 3 rfl
         refine qld 0 (ci p_350.e) hs rfl fun a hs => ?_
         refine qpu 2 hs fun a hs => ?_
         suffices hj_373 : ∀ a, St 261 a w κ [(1, pp b_2), (4, pp b_26), (6, .slice A_104 p_106.length c_105), (11, pp b_184), (231, .bool p_364), (232, .pointer (some ⟨b_26, 1, none⟩)), (233, pp br9x0x_21), (234, pp br9x0x_21), (235, .pointer (some ⟨br9x0x_21, 7, none⟩)), (236, vi p_350.e), (237, .bool (p_350.e != 0)), (238, .bool (p_350.e != 0)), (242, .bool ((p_350.e != 0) || (decide (x0.kind < 0))))] (pt br9x0x_21 (blk (Tvisorref19_M.obj p_350 g_368.1 g_368.2.1 g_368.2.2.1 g_368.2.2.2.1 g_368.2.2.2.2.1 g_368.2.2.2.2.2.1 g_368.2.2.2.2.2.2.1 g_368.2.2.2.2.2.2.2) 54) :: rowp g_368.1 g_368.2.1 103 6 Tapi_Op.cells p_350.ops :: rowp g_368.2.2.1 g_368.2.2.2.1 119 3 Tapi_Span.cells p_350.blocks :: rowp g_368.2.2.2.2.1 g_368.2.2.2.2.2.1 23 1 (eI .u64) p_350.val :: rdp κ g_368.2.2.2.2.2.2.1 g_368.2.2.2.2.2.2.2 1 (eI .u64) p_350.tape.l :: pt b_2 (blk (Tvisorlaw23_Asked.obj x0 A_x0l c_x0l A_x0masks c_x0masks) 60) :: pt b_26 (blk [cp br9x0m_20, cp br9x0x_21, C.slc Ar9x0l_22 v_19.2.2.1.length cr9x0l_23, C.slc Ar9x0v_24 v_19.2.2.2.1.length cr9x0v_25] 30) :: Twire_Machine.own br9x0m_20 p_349 :: rowp Ar9x0l_22 cr9x0l_23 35 3 eC v_19.2.2.1 :: rowp Ar9x0v_24 cr9x0v_25 23 1 (eI .u64) v_19.2.2.2.1 :: rowp A_104 c_105 23 1 (eI .u64) p_106 :: pt b_184 (blk p_351 35) :: S) → wpFrom Tryz.prog _ _ 11 a w by
          rcases Bool.eq_false_or_eq_true (p_350.e != 0) with hb | hb
          ·replace hs := hs.known (t := 238) hb (by kernel_rfl)
           refine qpu 4 hs fun a hs => ?_
           have hq := hs.pick [1, 4, 6, 11, 231, 232, 233, 234, 235, 236, 237, 238, 242] (L' := [(1, pp b_2), (4, pp b_26), (6, .slice A_104 p_106.length c_105), (11, pp b_184), (231, .bool p_364), (232, .pointer (some ⟨b_26, 1, none⟩)), (233, pp br9x0x_21), (234, pp br9x0x_21), (235, .pointer (some ⟨br9x0x_21, 7, none⟩)), (236, vi p_350.e), (237, .bool (p_350.e != 0)), (238, .bool true), (242, .bool true)]) (by kernel_rfl)
           exact hj_373 _ (hq.conv (by first | (rw [hb] <;> rfl) | rfl))
          ·replace hs := hs.known (t := 238) hb (by kernel_rfl)
           refine qpu 1 hs fun a hs => ?_
           refine qld 5 (ci x0.kind) hs rfl fun a hs => ?_
           refine qpu 2 hs fun a hs => ?_
           have hq := hs.pick [1, 4, 6, 11, 231, 232, 233, 234, 235, 236, 237, 238, 242] (L' := [(1, pp b_2), (4, pp b_26), (6, .slice A_104 p_106.length c_105), (11, pp b_184), (231, .bool p_364), (232, .pointer (some ⟨b_26, 1, none⟩)), (233, pp br9x0x_21), (234, pp br9x0x_21), (235, .pointer (some ⟨br9x0x_21, 7, none⟩)), (236, vi p_350.e), (237, .bool (p_350.e != 0)), (238, .bool false), (242, .bool (decide (x0.kind < 0)))]) (by kernel_rfl)
           exact hj_373 _ (hq.conv (by first | (rw [hb] <;> rfl) | rfl))
         intro a hs
         refine qpu 1 hs fun a hs => ?_
         suffices hj_374 : ∀ a, St 261 a w κ [(1, pp b_2), (4, pp b_26), (6, .slice A_104 p_106.length c_105), (11, pp b_184), (231, .bool p_364), (232, .pointer (some ⟨b_26, 1, none⟩)), (233, pp br9x0x_21), (234, pp br9x0x_21), (235, .pointer (some ⟨br9x0x_21, 7, none⟩)), (236, vi p_350.e), (237, .bool (p_350.e != 0)), (238, .bool (p_350.e != 0)), (242, .bool ((p_350.e != 0) || (decide (x0.kind < 0)))), (243, .bool ((p_350.e != 0) || (decide (x0.kind < 0)))), (247, .bool (((p_350.e != 0) || (decide (x0.kind < 0))) || (decide (x0.kind > 3))))] (pt br9x0x_21 (blk (Tvisorref19_M.obj p_350 g_368.1 g_368.2.1 g_368.2.2.1 g_368.2.2.2.1 g_368.2.2.2.2.1 g_368.2.2.2.2.2.1 g_368.2.2.2.2.2.2.1 g_368.2.2.2.2.2.2.2) 54) :: rowp g_368.1 g_368.2.1 103 6 Tapi_Op.cells p_350.ops :: rowp g_368.2.2.1 g_368.2.2.2.1 119 3 Tapi_Span.cells p_350.blocks :: rowp g_368.2.2.2.2.1 g_368.2.2.2.2.2.1 23 1 (eI .u64) p_350.val :: rdp κ g_368.2.2.2.2.2.2.1 g_368.2.2.2.2.2.2.2 1 (eI .u64) p_350.tape.l :: pt b_2 (blk (Tvisorlaw23_Asked.obj x0 A_x0l c_x0l A_x0masks c_x0masks) 60) :: pt b_26 (blk [cp br9x0m_20, cp br9x0x_21, C.slc Ar9x0l_22 v_19.2.2.1.length cr9x0l_23, C.slc Ar9x0v_24 v_19.2.2.2.1.length cr9x0v_25] 30) :: Twire_Machine.own br9x0m_20 p_349 :: rowp Ar9x0l_22 cr9x0l_23 35 3 eC v_19.2.2.1 :: rowp Ar9x0v_24 cr9x0v_25 23 1 (eI .u64) v_19.2.2.2.1 :: rowp A_104 c_105 23 1 (eI .u64) p_106 :: pt b_184 (blk p_351 35) :: S) → wpFrom Tryz.prog _ _ 16 a w by
          rcases Bool.eq_false_or_eq_true ((p_350.e != 0) || (decide (x0.kind < 0))) with hb | hb
          ·replace hs := hs.known (t := 243) hb (by kernel_rfl)
           refine qpu 4 hs fun a hs => ?_
           have hq := hs.pick [1, 4, 6, 11, 231, 232, 233, 234, 235, 236, 237, 238, 242, 243, 247] (L' := [(1, pp b_2), (4, pp b_26), (6, .slice A_104 p_106.length c_105), (11, pp b_184), (231, .bool p_364), (232, .pointer (some ⟨b_26, 1, none⟩)), (233, pp br9x0x_21), (234, pp br9x0x_21), (235, .pointer (some ⟨br9x0x_21, 7, none⟩)), (236, vi p_350.e), (237, .bool (p_350.e != 0)), (238, .bool (p_350.e != 0)), (242, .bool ((p_350.e != 0) || (decide (x0.kind < 0)))), (243, .bool true), (247, .bool true)]) (by kernel_rfl)
           exact hj_374 _ (hq.conv (by first | (rw [hb] <;> rfl) | rfl))
          ·replace hs := hs.known (t := 243) hb (by kernel_rfl)
           refine qpu 1 hs fun a hs => ?_
           refine qld 5 (ci x0.kind) hs rfl fun a hs => ?_
           refine qpu 2 hs fun a hs => ?_
           have hq := hs.pick [1, 4, 6, 11, 231, 232, 233, 234, 235, 236, 237, 238, 242, 243, 247] (L' := [(1, pp b_2), (4, pp b_26), (6, .slice A_104 p_106.length c_105), (11, pp b_184), (231, .bool p_364), (232, .pointer (some ⟨b_26, 1, none⟩)), (233, pp br9x0x_21), (234, pp br9x0x_21), (235, .pointer (some ⟨br9x0x_21, 7, none⟩)), (236, vi p_350.e), (237, .bool (p_350.e != 0)), (238, .bool (p_350.e != 0)), (242, .bool ((p_350.e != 0) || (decide (x0.kind < 0)))), (243, .bool false), (247, .bool (decide (x0.kind > 3)))]) (by kernel_rfl)
           exact hj_374 _ (hq.conv (by first | (rw [hb] <;> rfl) | rfl))
         intro a hs
         refine qpk 0 [1, 4, 6, 11, 247] hs fun a hs => hK367 _ _ ?_
         clear hK367
         refine qcs (((p_350.e != 0) || (decide (x0.kind < 0))) || (decide (x0.kind > 3))) hs (fun hb => ?_) fun hb => ?_
         ·replace hm := bif_t hm hb
          refine qsr fun K375 hK375 => ?_
          obtain ⟨v_378, h_377, hm⟩ := bind_t hm
          refine qcl (visorlaw23_awake.ok _ _ h_377 _ _ (pt br9x0x_21 (blk (Tvisorref19_M.obj p_350 g_368.1 g_368.2.1 g_368.2.2.1 g_368.2.2.2.1 g_368.2.2.2.2.1 g_368.2.2.2.2.2.1 g_368.2.2.2.2.2.2.1 g_368.2.2.2.2.2.2.2) 54) :: rowp g_368.1 g_368.2.1 103 6 Tapi_Op.cells p_350.ops :: rowp g_368.2.2.1 g_368.2.2.2.1 119 3 Tapi_Span.cells p_350.blocks :: rowp g_368.2.2.2.2.1 g_368.2.2.2.2.2.1 23 1 (eI .u64) p_350.val :: rdp κ g_368.2.2.2.2.2.2.1 g_368.2.2.2.2.2.2.2 1 (eI .u64) p_350.tape.l :: pt b_2 (blk (Tvisorlaw23_Asked.obj x0 A_x0l c_x0l A_x0masks c_x0masks) 60) :: pt b_26 (blk [cp br9x0m_20, cp br9x0x_21, C.slc Ar9x0l_22 v_19.2.2.1.length cr9x0l_23, C.slc Ar9x0v_24 v_19.2.2.2.1.length cr9x0v_25] 30) :: Twire_Machine.own br9x0m_20 p_349 :: rowp Ar9x0l_22 cr9x0l_23 35 3 eC v_19.2.2.1 :: rowp Ar9x0v_24 cr9x0v_25 23 1 (eI .u64) v_19.2.2.2.1 :: rowp A_104 c_105 23 1 (eI .u64) p_106 :: pt b_184 (blk p_351 35) :: S) hs.own) hs fun w a hs => ?_
          refine qpe 1 [(2, .bool v_378)] hs fun a hs => hK375 _ _ ?_
          clear hK375
          refine wp_ret ?_
          exact qr1 (.bool v_378) hs rfl hRR (by cases hm; exact ⟨rfl, (hs.own.too [] 12)⟩)
         ·replace hm := bif_f hm hb
          refine wp_skip ?_
          refine hK366 _ _ ?_
          clear hK366
          refine Vk.seq fun K379 hK379 => ?_
          have hj379 : ∀ (p_397 : Bool), visorlaw23_BothTells.j5 k p_397 = some r → ∀ (a : Act) (w : World), St 261 a w κ [(2, .bool p_397)] (S) → K379 a w := by
           intro p_397 hm a w hs
           unfold visorlaw23_BothTells.j5 at hm
           refine hK379 _ _ ?_
           refine wp_ret ?_
           exact qr1 (.bool p_397) hs rfl hRR (by cases hm; exact ⟨rfl, hs.own⟩)
          obtain ⟨C_380, hC_380⟩ := qC hs.own.f7.drop
          refine qdr 13 κ C_380 hs fun w hs hqC_380 => ?_
          have hcl := qO hC_380 hs.own.f7.drop
          refine qdp (fuel := 11) [0, 6] hs hcl hqC_380 fun a hs => ?_
          refine qdl 1 6 (cp br9x0m_20) hs hcl hqC_380 hC_380 rfl fun a hs => ?_
          obtain ⟨h_381, hm⟩ := ite_t hm
          refine qdw 3 10 hs hcl hqC_380 hC_380 rfl h_381 fun a hs => ?_
          refine qdn 5 5 ([C.bool x0.three, ci x0.kind, ci x0.byF, ci x0.width, C.slc A_x0l x0.l.length c_x0l, C.slc A_x0masks x0.masks.length c_x0masks]) hs hcl hqC_380 hC_380 rfl fun a hs => ?_
          obtain ⟨g_382, hs⟩ := hs.unex 7 rfl
          obtain ⟨v_385, h_384, hm⟩ := bind_t hm
          refine Vk.dOnly (i := 2) (by kernel_rfl) (Vk.call (some 251) 20 #[pp br9x0m_20] hs (by kernel_rfl) (by kernel_rfl) (by kernel_rfl) ?_)
          refine (wire_Machine_Values.ok k p_349 v_385 h_384 κ w (pt br9x0x_21 (blk (Tvisorref19_M.obj p_350 g_368.1 g_368.2.1 g_368.2.2.1 g_368.2.2.2.1 g_368.2.2.2.2.1 g_368.2.2.2.2.2.1 g_368.2.2.2.2.2.2.1 g_368.2.2.2.2.2.2.2) 54) :: rowp g_368.1 g_368.2.1 103 6 Tapi_Op.cells p_350.ops :: rowp g_368.2.2.1 g_368.2.2.2.1 119 3 Tapi_Span.cells p_350.blocks :: rowp g_368.2.2.2.2.1 g_368.2.2.2.2.2.1 23 1 (eI .u64) p_350.val :: rdp κ g_368.2.2.2.2.2.2.1 g_368.2.2.2.2.2.2.2 1 (eI .u64) p_350.tape.l :: pt b_2 (blk (Tvisorlaw23_Asked.obj x0 A_x0l c_x0l A_x0masks c_x0masks) 60) :: pt b_26 (blk [cp br9x0m_20, cp br9x0x_21, C.slc Ar9x0l_22 v_19.2.2.1.length cr9x0l_23, C.slc Ar9x0v_24 v_19.2.2.2.1.length cr9x0v_25] 30) :: rowp Ar9x0l_22 cr9x0l_23 35 3 eC v_19.2.2.1 :: rowp Ar9x0v_24 cr9x0v_25 23 1 (eI .u64) v_19.2.2.2.1 :: rowp A_104 c_105 23 1 (eI .u64) p_106 :: pt b_184 (blk p_351 35) :: S) br9x0m_20 g_382 hs.own.f7).mono ?_
          rintro _ w ⟨Ar383x0_386, cr383x0_387, rfl, how⟩
          refine ⟨_, _, _, rfl, how, fun a hs => ?_⟩
          replace hcl := qO hC_380 hs.own.f1.drop.drop
          refine ⟨fun _ => hcl, ?_⟩
          obtain ⟨v_390, h_389, hm⟩ := bind_t hm
          refine qdc 4 (share_Value.ok _ _ _ _ h_389 _ _ (rowp Ar383x0_386 cr383x0_387 23 1 (eI .u64) v_385 :: bagL (Twire_Machine.parts br9x0m_20 p_349 g_382) :: pt br9x0x_21 (blk (Tvisorref19_M.obj p_350 g_368.1 g_368.2.1 g_368.2.2.1 g_368.2.2.2.1 g_368.2.2.2.2.1 g_368.2.2.2.2.2.1 g_368.2.2.2.2.2.2.1 g_368.2.2.2.2.2.2.2) 54) :: rowp g_368.1 g_368.2.1 103 6 Tapi_Op.cells p_350.ops :: rowp g_368.2.2.1 g_368.2.2.2.1 119 3 Tapi_Span.cells p_350.blocks :: rowp g_368.2.2.2.2.1 g_368.2.2.2.2.2.1 23 1 (eI .u64) p_350.val :: rdp κ g_368.2.2.2.2.2.2.1 g_368.2.2.2.2.2.2.2 1 (eI .u64) p_350.tape.l :: pt b_2 (blk (Tvisorlaw23_Asked.obj x0 A_x0l c_x0l A_x0masks c_x0masks) 60) :: pt b_26 (blk [cp br9x0m_20, cp br9x0x_21, C.slc Ar9x0l_22 v_19.2.2.1.length cr9x0l_23, C.slc Ar9x0v_24 v_19.2.2.2.1.length cr9x0v_25] 30) :: rowp Ar9x0l_22 cr9x0l_23 35 3 eC v_19.2.2.1 :: rowp Ar9x0v_24 cr9x0v_25 23 1 (eI .u64) v_19.2.2.2.1 :: rowp A_104 c_105 23 1 (eI .u64) p_106 :: pt b_184 (blk p_351 35) :: S) Ar383x0_386 cr383x0_387 (Sl.lift (fun w ho => (Own.to (S' := rowp Ar383x0_386 cr383x0_387 23 1 (eI .u64) v_385 :: S) ho [0] 13 (by kernel_rfl) (by kernel_rfl))) (Own.rowSl 0 (Own.to (S' := rowp Ar383x0_386 cr383x0_387 23 1 (eI .u64) v_385 :: S) hs.own [0] 13 (by kernel_rfl) (by kernel_rfl)) rfl)) hs.own) hs fun w a hs => ?_
          replace hcl := qO hC_380 hs.own.f1.drop.drop
          refine ⟨fun _ => hcl, ?_⟩
          obtain ⟨v_393, h_392, hm⟩ := bind_t hm
          refine qdc 7 (visorlaw23_meant.ok _ _ _ _ h_392 _ _ (rowp Ar383x0_386 cr383x0_387 23 1 (eI .u64) v_385 :: bagL (Twire_Machine.parts br9x0m_20 p_349 g_382) :: pt br9x0x_21 (blk (Tvisorref19_M.obj p_350 g_368.1 g_368.2.1 g_368.2.2.1 g_368.2.2.2.1 g_368.2.2.2.2.1 g_368.2.2.2.2.2.1 g_368.2.2.2.2.2.2.1 g_368.2.2.2.2.2.2.2) 54) :: rowp g_368.1 g_368.2.1 103 6 Tapi_Op.cells p_350.ops :: rowp g_368.2.2.1 g_368.2.2.2.1 119 3 Tapi_Span.cells p_350.blocks :: rowp g_368.2.2.2.2.1 g_368.2.2.2.2.2.1 23 1 (eI .u64) p_350.val :: rdp κ g_368.2.2.2.2.2.2.1 g_368.2.2.2.2.2.2.2 1 (eI .u64) p_350.tape.l :: pt b_2 (blk (Tvisorlaw23_Asked.obj x0 A_x0l c_x0l A_x0masks c_x0masks) 60) :: pt b_26 (blk [cp br9x0m_20, cp br9x0x_21, C.slc Ar9x0l_22 v_19.2.2.1.length cr9x0l_23, C.slc Ar9x0v_24 v_19.2.2.2.1.length cr9x0v_25] 30) :: rowp Ar9x0l_22 cr9x0l_23 35 3 eC v_19.2.2.1 :: rowp Ar9x0v_24 cr9x0v_25 23 1 (eI .u64) v_19.2.2.2.1 :: rowp A_104 c_105 23 1 (eI .u64) p_106 :: pt b_184 (blk p_351 35) :: S) A_x0l c_x0l hx_x0l.less.less.less.less.less.less.less.less.less.less.less.less.less A_x0masks c_x0masks hx_x0masks.less.less.less.less.less.less.less.less.less.less.less.less.less A_104 c_105 (Sl.lift (fun w ho => (Own.to (S' := rowp A_104 c_105 23 1 (eI .u64) p_106 :: S) ho [11] 13 (by kernel_rfl) (by kernel_rfl))) (Own.rowSl 0 (Own.to (S' := rowp A_104 c_105 23 1 (eI .u64) p_106 :: S) hs.own [11] 13 (by kernel_rfl) (by kernel_rfl)) rfl)) hs.own) hs fun w a hs => ?_
          replace hcl := qO hC_380 hs.own.f1.drop.drop
          refine ⟨fun _ => hcl, ?_⟩
          refine qdp (fuel := 3) [8, 9] hs hcl hqC_380 fun a hs => ?_
          rcases Bool.eq_false_or_eq_true (v_390 == v_393) with hb | hb
          ·replace hm := bif_t hm hb
           replace hs := hs.known (t := 258) hb (by kernel_rfl)
           obtain ⟨v_396, h_395, hm⟩ := bind_t hm
           refine qdc 10 (visorlaw23_awake.ok _ _ h_395 _ _ (rowp Ar383x0_386 cr383x0_387 23 1 (eI .u64) v_385 :: bagL (Twire_Machine.parts br9x0m_20 p_349 g_382) :: pt br9x0x_21 (blk (Tvisorref19_M.obj p_350 g_368.1 g_368.2.1 g_368.2.2.1 g_368.2.2.2.1 g_368.2.2.2.2.1 g_368.2.2.2.2.2.1 g_368.2.2.2.2.2.2.1 g_368.2.2.2.2.2.2.2) 54) :: rowp g_368.1 g_368.2.1 103 6 Tapi_Op.cells p_350.ops :: rowp g_368.2.2.1 g_368.2.2.2.1 119 3 Tapi_Span.cells p_350.blocks :: rowp g_368.2.2.2.2.1 g_368.2.2.2.2.2.1 23 1 (eI .u64) p_350.val :: rdp κ g_368.2.2.2.2.2.2.1 g_368.2.2.2.2.2.2.2 1 (eI .u64) p_350.tape.l :: pt b_2 (blk (Tvisorlaw23_Asked.obj x0 A_x0l c_x0l A_x0masks c_x0masks) 60) :: pt b_26 (blk [cp br9x0m_20, cp br9x0x_21, C.slc Ar9x0l_22 v_19.2.2.1.length cr9x0l_23, C.slc Ar9x0v_24 v_19.2.2.2.1.length cr9x0v_25] 30) :: rowp Ar9x0l_22 cr9x0l_23 35 3 eC v_19.2.2.1 :: rowp Ar9x0v_24 cr9x0v_25 23 1 (eI .u64) v_19.2.2.2.1 :: rowp A_104 c_105 23 1 (eI .u64) p_106 :: pt b_184 (blk p_351 35) :: S) hs.own) hs fun w a hs => ?_
           replace hcl := qO hC_380 hs.own.f1.drop.drop
           refine ⟨fun _ => hcl, ?_⟩
           refine qdp (fuel := 0) [11, 12] hs hcl hqC_380 fun a hs => ?_
           replace hs := hs.pick [2] (L' := [(2, .bool v_396)]) (by kernel_rfl)
           refine Vk.dDone (by kernel_rfl) ?_
           replace hs := hs.bagG (l := Tvisorref19_M.parts κ br9x0x_21 p_350 g_368) (S' := rowp Ar383x0_386 cr383x0_387 23 1 (eI .u64) v_385 :: bagL (Twire_Machine.parts br9x0m_20 p_349 g_382) :: pt b_2 (blk (Tvisorlaw23_Asked.obj x0 A_x0l c_x0l A_x0masks c_x0masks) 60) :: pt b_26 (blk [cp br9x0m_20, cp br9x0x_21, C.slc Ar9x0l_22 v_19.2.2.1.length cr9x0l_23, C.slc Ar9x0v_24 v_19.2.2.2.1.length cr9x0v_25] 30) :: rowp Ar9x0l_22 cr9x0l_23 35 3 eC v_19.2.2.1 :: rowp Ar9x0v_24 cr9x0v_25 23 1 (eI .u64) v_19.2.2.2.1 :: rowp A_104 c_105 23 1 (eI .u64) p_106 :: pt b_184 (blk p_351 35) :: S) hs.own.f6.f6.f6.f6.f6
           replace hs := hs.toEx (Tvisorref19_M.parts κ br9x0x_21 p_350) g_368 0 rfl
           replace hs := hs.toEx (Twire_Machine.parts br9x0m_20 p_349) g_382 2 rfl
           exact hj379 v_396 hm _ _ (hs.go [2] [] 9 (by kernel_rfl) (by kernel_rfl) (by kernel_rfl))
          ·replace hm := bif_f hm hb
           replace hs := hs.known (t := 258) hb (by kernel_rfl)
           refine qdp (fuel := 0) [10, 11, 12] hs hcl hqC_380 fun a hs => ?_
           replace hs := hs.pick [2] (L' := [(2, .bool false)]) (by kernel_rfl)
           refine Vk.dDone (by kernel_rfl) ?_
           replace hs := hs.bagG (l := Tvisorref19_M.parts κ br9x0x_21 p_350 g_368) (S' := rowp Ar383x0_386 cr383x0_387 23 1 (eI .u64) v_385 :: bagL (Twire_Machine.parts br9x0m_20 p_349 g_382) :: pt b_2 (blk (Tvisorlaw23_Asked.obj x0 A_x0l c_x0l A_x0masks c_x0masks) 60) :: pt b_26 (blk [cp br9x0m_20, cp br9x0x_21, C.slc Ar9x0l_22 v_19.2.2.1.length cr9x0l_23, C.slc Ar9x0v_24 v_19.2.2.2.1.length cr9x0v_25] 30) :: rowp Ar9x0l_22 cr9x0l_23 35 3 eC v_19.2.2.1 :: rowp Ar9x0v_24 cr9x0v_25 23 1 (eI .u64) v_19.2.2.2.1 :: rowp A_104 c_105 23 1 (eI .u64) p_106 :: pt b_184 (blk p_351 35) :: S) hs.own.f6.f6.f6.f6.f6
           replace hs := hs.toEx (Tvisorref19_M.parts κ br9x0x_21 p_350) g_368 0 rfl
           replace hs := hs.toEx (Twire_Machine.parts br9x0m_20 p_349) g_382 2 rfl
           exact hj379 false hm _ _ (hs.go [2] [] 9 (by kernel_rfl) (by kernel_rfl) (by kernel_rfl))
       refine Vk.region ?_
       obtain ⟨h_355, hm⟩ := ite_t hm
       refine qlw 7 hs rfl h_355 fun a hs => ?_
       obtain ⟨h_356, hm⟩ := ite_t hm
       refine qlw 8 hs rfl h_356 fun a hs => ?_
       obtain ⟨h_357, hm⟩ := ite_t hm
       obtain ⟨h_358, hm⟩ := ite_t hm
       refine qva (.bool (!(ceq p_351 p_352))) (op := (.binOp .neq 35 (.tmp 224) (.tmp 225) 35)) hs (fun o ho => run_neqV (ks := ((List.replicate 3 [LK.int .i64]).flatten)) (cs := p_351) (us := p_352) ho (by kernel_rfl) (by kernel_rfl) (by kernel_rfl) h_357 h_358 _) fun a hs => ?_
       refine qpu 1 hs fun a hs => ?_
       rcases Bool.eq_false_or_eq_true (!(ceq p_351 p_352)) with hb | hb
       ·replace hm := bif_t hm hb
        replace hs := hs.known (t := 227) hb (by kernel_rfl)
        refine qpe 4 [(1, pp b_2), (4, pp b_26), (6, .slice A_104 p_106.length c_105), (11, pp b_184), (231, .bool true)] hs fun a hs => ?_
        exact hj354 true hm _ _ (hs.go [1, 4, 6, 11, 231] [0, 1, 2, 3, 4, 5, 6, 7] 9 (by kernel_rfl) (by kernel_rfl) (by kernel_rfl))
       ·replace hm := bif_f hm hb
        replace hs := hs.known (t := 227) hb (by kernel_rfl)
        refine qln 1 ([cp br9x0m_20, cp br9x0x_21, C.slc Ar9x0l_22 v_19.2.2.1.length cr9x0l_23, C.slc Ar9x0v_24 v_19.2.2.2.1.length cr9x0v_25]) hs rfl fun a hs => ?_
        obtain ⟨g_359, hs⟩ := hs.unex 2 rfl
        obtain ⟨g_360, hs⟩ := hs.unex 3 rfl
        obtain ⟨v_363, h_362, hm⟩ := bind_t hm
        refine qcl (visorlaw20_Pair_Like.ok _ _ _ h_362 _ _ _ br9x0m_20 g_359 br9x0x_21 g_360 Ar9x0l_22 cr9x0l_23 (Sl.lift (fun w ho => (Own.to (S' := rowp Ar9x0l_22 cr9x0l_23 35 3 eC v_19.2.2.1 :: S) ho [2] 7 (by kernel_rfl) (by kernel_rfl))) (Own.rowSl 0 (Own.to (S' := rowp Ar9x0l_22 cr9x0l_23 35 3 eC v_19.2.2.1 :: S) hs.own [4] 9 (by kernel_rfl) (by kernel_rfl)) rfl)) Ar9x0v_24 cr9x0v_25 (Sl.lift (fun w ho => (Own.to (S' := rowp Ar9x0v_24 cr9x0v_25 23 1 (eI .u64) v_19.2.2.2.1 :: S) ho [3] 7 (by kernel_rfl) (by kernel_rfl))) (Own.rowSl 0 (Own.to (S' := rowp Ar9x0v_24 cr9x0v_25 23 1 (eI .u64) v_19.2.2.2.1 :: S) hs.own [5] 9 (by kernel_rfl) (by kernel_rfl)) rfl)) hs.own.f3.f3) hs fun w a hs => ?_
        refine qpe 2 [(1, pp b_2), (4, pp b_26), (6, .slice A_104 p_106.length c_105), (11, pp b_184), (231, .bool (!v_363))] hs fun a hs => ?_
        replace hs := hs.toEx (Twire_Machine.parts br9x0m_20 p_349) g_359 0 rfl
        replace hs := hs.toEx (Tvisorref19_M.parts κ br9x0x_21 p_350) g_360 1 rfl
        exact hj354 (!v_363) hm _ _ (hs.go [1, 4, 6, 11, 231] [2, 3, 0, 1, 4, 5, 6, 7] 9 (by kernel_rfl) (by kernel_rfl) (by kernel_rfl))
      refine qsr fun K187 hK187 => ?_
      refine qpu 1 hs fun a hs => ?_
      refine qld 2 (ci x0.kind) hs rfl fun a hs => ?_
      refine qpk 0 [1, 4, 6, 8, 9, 11, 12, 117] hs fun a hs => hK187 _ _ ?_
      clear hK187
      refine wp_block ?_
      refine qse 2 [(1, pp b_2), (4, pp b_26), (6, .slice A_104 p_106.length c_105), (8, .slice A_168 p_170.length c_169), (9, .slice A_171 p_173.length c_172), (11, pp b_184), (12, pp b_185), (117, vi x0.kind), (138, .bool (x0.kind == 0))] hs fun a hs => ?_
      refine qcs (x0.kind == 0) hs (fun hb => ?_) fun hb => ?_
      ·replace hm := bif_t hm hb
       obtain ⟨C_189, hC_189⟩ : ∃ X0 : List HP, X0 = (pt b_185 (blk [ci 0, ci 0, ci 0] 35) :: pt b_184 (blk [ci 0, ci 0, ci 0] 35) :: pt b_2 (blk (Tvisorlaw23_Asked.obj x0 A_x0l c_x0l A_x0masks c_x0masks) 60) :: pt b_26 (blk [cp br9x0m_20, cp br9x0x_21, C.slc Ar9x0l_22 v_19.2.2.1.length cr9x0l_23, C.slc Ar9x0v_24 v_19.2.2.2.1.length cr9x0v_25] 30) :: Tvisorref19_M.own κ br9x0x_21 p_167 :: rowp Ar9x0l_22 cr9x0l_23 35 3 eC v_19.2.2.1 :: rowp Ar9x0v_24 cr9x0v_25 23 1 (eI .u64) v_19.2.2.2.1 :: rowp A_104 c_105 23 1 (eI .u64) p_106 :: rowp A_168 c_169 35 3 eC p_170 :: rowp A_171 c_172 35 3 eC p_173 :: S) := ⟨_, rfl⟩
       refine qdr 21 κ C_189 hs fun w hs hqC_189 => ?_
       have hcz : Own κ w (pt b_185 (blk [ci 0, ci 0, ci 0] 35) :: pt b_184 (blk [ci 0, ci 0, ci 0] 35) :: pt b_2 (blk (Tvisorlaw23_Asked.obj x0 A_x0l c_x0l A_x0masks c_x0masks) 60) :: pt b_26 (blk [cp br9x0m_20, cp br9x0x_21, C.slc Ar9x0l_22 v_19.2.2.1.length cr9x0l_23, C.slc Ar9x0v_24 v_19.2.2.2.1.length cr9x0v_25] 30) :: Tvisorref19_M.own κ br9x0x_21 p_167 :: rowp Ar9x0l_22 cr9x0l_23 35 3 eC v_19.2.2.1 :: rowp Ar9x0v_24 cr9x0v_25 23 1 (eI .u64) v_19.2.2.2.1 :: rowp A_104 c_105 23 1 (eI .u64) p_106 :: rowp A_168 c_169 35 3 eC p_170 :: rowp A_171 c_172 35 3 eC p_173 :: S) := hs.own.f4.drop
       have hcl : Own κ w C_189 := by rw [hC_189]; exact hcz
       refine qdp (fuel := 16) [0, 2, 4, 7, 11, 13, 15, 18] hs hcl hqC_189 fun a hs => ?_
       refine qdl 1 3 (cp br9x0m_20) hs hcl hqC_189 hC_189 rfl fun a hs => ?_
       refine qdl 3 2 (ci x0.byF) hs hcl hqC_189 hC_189 rfl fun a hs => ?_
       obtain ⟨h_190, hm⟩ := ite_t hm
       obtain ⟨e_193, h_191, hm⟩ := bind_t hm
       obtain ⟨b_194, o_195, hA_196, h_192⟩ := Sl.elem (Own.rowSl 0 (Own.to (S' := rowp A_168 c_169 35 3 eC p_170 :: S) hcz [8] 10 (by kernel_rfl) (by kernel_rfl)) rfl) h_191
       refine qdt 5 (.pointer (some ⟨b_194, o_195 + 0 * 3, none⟩)) (op := (.indexAddr 28 (.tmp 144) (.const (vi 0)))) hs hcl hqC_189 (fun w hw o ho => by rw [hC_189] at hw; exact run_idxSlc (k := .i64) ho (cap := c_169) (len := p_170.length) ((congrArg (fun A => Value.slice A (p_170.length) (c_169)) hA_196) ▸ (by kernel_rfl)) (by kernel_rfl) (by kernel_rfl) (idx_ok h_190 h_191) _) fun a hs => ?_
       obtain ⟨h_197, hm⟩ := ite_t hm
       refine qdt 6 (.agg (vals e_193)) (op := (.load 35 (.tmp 145))) hs hcl hqC_189 (fun w hw o ho => by rw [hC_189] at hw; exact run_loadN (cs := e_193) ho (by kernel_rfl) (by kernel_rfl) h_197 h_192 _ (Own.to (S' := rowp A_168 c_169 35 3 eC p_170 :: S) hw [8] 10 (by kernel_rfl) (by kernel_rfl))) fun a hs => ?_
       obtain ⟨h_198, hm⟩ := ite_t hm
       obtain ⟨e_201, h_199, hm⟩ := bind_t hm
       obtain ⟨b_202, o_203, hA_204, h_200⟩ := Sl.elem (Own.rowSl 0 (Own.to (S' := rowp A_168 c_169 35 3 eC p_170 :: S) hcz [8] 10 (by kernel_rfl) (by kernel_rfl)) rfl) h_199
       refine qdt 8 (.pointer (some ⟨b_202, o_203 + 1 * 3, none⟩)) (op := (.indexAddr 28 (.tmp 147) (.const (vi 1)))) hs hcl hqC_189 (fun w hw o ho => by rw [hC_189] at hw; exact run_idxSlc (k := .i64) ho (cap := c_169) (len := p_170.length) ((congrArg (fun A => Value.slice A (p_170.length) (c_169)) hA_204) ▸ (by kernel_rfl)) (by kernel_rfl) (by kernel_rfl) (idx_ok h_198 h_199) _) fun a hs => ?_
       obtain ⟨h_205, hm⟩ := ite_t hm
       refine qdt 9 (.agg (vals e_201)) (op := (.load 35 (.tmp 148))) hs hcl hqC_189 (fun w hw o ho => by rw [hC_189] at hw; exact run_loadN (cs := e_201) ho (by kernel_rfl) (by kernel_rfl) h_205 h_200 _ (Own.to (S' := rowp A_168 c_169 35 3 eC p_170 :: S) hw [8] 10 (by kernel_rfl) (by kernel_rfl))) fun a hs => ?_
       refine qdl 12 3 (cp br9x0x_21) hs hcl hqC_189 hC_189 rfl fun a hs => ?_
       refine qdl 14 2 (ci x0.byF) hs hcl hqC_189 hC_189 rfl fun a hs => ?_
       obtain ⟨h_206, hm⟩ := ite_t hm
       obtain ⟨e_209, h_207, hm⟩ := bind_t hm
       obtain ⟨b_210, o_211, hA_212, h_208⟩ := Sl.elem (Own.rowSl 0 hcz.drop.drop.drop.drop.drop.drop.drop.drop.drop rfl) h_207
       refine qdt 16 (.pointer (some ⟨b_210, o_211 + 0 * 3, none⟩)) (op := (.indexAddr 28 (.tmp 155) (.const (vi 0)))) hs hcl hqC_189 (fun w hw o ho => by rw [hC_189] at hw; exact run_idxSlc (k := .i64) ho (cap := c_172) (len := p_173.length) ((congrArg (fun A => Value.slice A (p_173.length) (c_172)) hA_212) ▸ (by kernel_rfl)) (by kernel_rfl) (by kernel_rfl) (idx_ok h_206 h_207) _) fun a hs => ?_
       obtain ⟨h_213, hm⟩ := ite_t hm
       refine qdt 17 (.agg (vals e_209)) (op := (.load 35 (.tmp 156))) hs hcl hqC_189 (fun w hw o ho => by rw [hC_189] at hw; exact run_loadN (cs := e_209) ho (by kernel_rfl) (by kernel_rfl) h_213 h_208 _ hw.drop.drop.drop.drop.drop.drop.drop.drop.drop) fun a hs => ?_
       obtain ⟨h_214, hm⟩ := ite_t hm
       obtain ⟨e_217, h_215, hm⟩ := bind_t hm
       obtain ⟨b_218, o_219, hA_220, h_216⟩ := Sl.elem (Own.rowSl 0 hcz.drop.drop.drop.drop.drop.drop.drop.drop.drop rfl) h_215
       refine qdt 19 (.pointer (some ⟨b_218, o_219 + 1 * 3, none⟩)) (op := (.indexAddr 28 (.tmp 158) (.const (vi 1)))) hs hcl hqC_189 (fun w hw o ho => by rw [hC_189] at hw; exact run_idxSlc (k := .i64) ho (cap := c_172) (len := p_173.length) ((congrArg (fun A => Value.slice A (p_173.length) (c_172)) hA_220) ▸ (by kernel_rfl)) (by kernel_rfl) (by kernel_rfl) (idx_ok h_214 h_215) _) fun a hs => ?_
       obtain ⟨h_221, hm⟩ := ite_t hm
       refine qdt 20 (.agg (vals e_217)) (op := (.load 35 (.tmp 159))) hs hcl hqC_189 (fun w hw o ho => by rw [hC_189] at hw; exact run_loadN (cs := e_217) ho (by kernel_rfl) (by kernel_rfl) h_221 h_216 _ hw.drop.drop.drop.drop.drop.drop.drop.drop.drop) fun a hs => ?_
       obtain ⟨v_224, h_223, hm⟩ := bind_t hm
       refine qdc 10 (both_And.ok _ _ _ _ _ _ h_223 _ _ _ br9x0m_20 hs.own.f4) hs fun w a hs => ?_
       replace hcl := qO hC_189 hs.own.drop
       refine ⟨fun _ => hcl, ?_⟩
       obtain ⟨v_227, h_226, hm⟩ := bind_t hm
       refine qdc 21 (visorref23_And.ok _ _ _ _ _ _ h_226 _ _ _ br9x0x_21 hs.own.f5) hs fun w a hs => ?_
       refine ⟨fun h => absurd h (by decide), ?_⟩
       obtain ⟨h_228, hm⟩ := ite_t hm
       refine qsA 22 3 v_224.1 hs rfl h_228 rfl fun a w hs => ?_
       refine ⟨fun h => absurd h (by decide), ?_⟩
       obtain ⟨h_229, hm⟩ := ite_t hm
       refine qsA 23 2 v_227.1 hs rfl h_229 rfl fun a w hs => ?_
       refine ⟨fun h => absurd h (by decide), ?_⟩
       replace hs := hs.pick [1, 4, 6, 11, 12] (L' := [(1, pp b_2), (4, pp b_26), (6, .slice A_104 p_106.length c_105), (11, pp b_184), (12, pp b_185)]) (by kernel_rfl)
       refine Vk.dDone (by kernel_rfl) ?_
       exact hj186 v_224.2 v_227.2 v_224.1 v_227.1 hm _ _ (hs.go [1, 4, 6, 11, 12] [4, 5, 1, 0, 6, 7, 8, 3, 2] 11 (by kernel_rfl) (by kernel_rfl) (by kernel_rfl))
      ·replace hm := bif_f hm hb
       refine qse 2 [(1, pp b_2), (4, pp b_26), (6, .slice A_104 p_106.length c_105), (8, .slice A_168 p_170.length c_169), (9, .slice A_171 p_173.length c_172), (11, pp b_184), (12, pp b_185), (117, vi x0.kind), (162, .bool (x0.kind == 1))] hs fun a hs => ?_
       refine qcs (x0.kind == 1) hs (fun hb => ?_) fun hb => ?_
       ·replace hm := bif_t hm hb
        obtain ⟨C_231, hC_231⟩ : ∃ X0 : List HP, X0 = (pt b_185 (blk [ci 0, ci 0, ci 0] 35) :: pt b_184 (blk [ci 0, ci 0, ci 0] 35) :: pt b_2 (blk (Tvisorlaw23_Asked.obj x0 A_x0l c_x0l A_x0masks c_x0masks) 60) :: pt b_26 (blk [cp br9x0m_20, cp br9x0x_21, C.slc Ar9x0l_22 v_19.2.2.1.length cr9x0l_23, C.slc Ar9x0v_24 v_19.2.2.2.1.length cr9x0v_25] 30) :: Tvisorref19_M.own κ br9x0x_21 p_167 :: rowp Ar9x0l_22 cr9x0l_23 35 3 eC v_19.2.2.1 :: rowp Ar9x0v_24 cr9x0v_25 23 1 (eI .u64) v_19.2.2.2.1 :: rowp A_104 c_105 23 1 (eI .u64) p_106 :: rowp A_168 c_169 35 3 eC p_170 :: rowp A_171 c_172 35 3 eC p_173 :: S) := ⟨_, rfl⟩
        refine qdr 21 κ C_231 hs fun w hs hqC_231 => ?_
        have hcz : Own κ w (pt b_185 (blk [ci 0, ci 0, ci 0] 35) :: pt b_184 (blk [ci 0, ci 0, ci 0] 35) :: pt b_2 (blk (Tvisorlaw23_Asked.obj x0 A_x0l c_x0l A_x0masks c_x0masks) 60) :: pt b_26 (blk [cp br9x0m_20, cp br9x0x_21, C.slc Ar9x0l_22 v_19.2.2.1.length cr9x0l_23, C.slc Ar9x0v_24 v_19.2.2.2.1.length cr9x0v_25] 30) :: Tvisorref19_M.own κ br9x0x_21 p_167 :: rowp Ar9x0l_22 cr9x0l_23 35 3 eC v_19.2.2.1 :: rowp Ar9x0v_24 cr9x0v_25 23 1 (eI .u64) v_19.2.2.2.1 :: rowp A_104 c_105 23 1 (eI .u64) p_106 :: rowp A_168 c_169 35 3 eC p_170 :: rowp A_171 c_172 35 3 eC p_173 :: S) := hs.own.f4.drop
        have hcl : Own κ w C_231 := by rw [hC_231]; exact hcz
        refine qdp (fuel := 16) [0, 2, 4, 7, 11, 13, 15, 18] hs hcl hqC_231 fun a hs => ?_
        refine qdl 1 3 (cp br9x0m_20) hs hcl hqC_231 hC_231 rfl fun a hs => ?_
        refine qdl 3 2 (ci x0.byF) hs hcl hqC_231 hC_231 rfl fun a hs => ?_
        obtain ⟨h_232, hm⟩ := ite_t hm
        obtain ⟨e_235, h_233, hm⟩ := bind_t hm
        obtain ⟨b_236, o_237, hA_238, h_234⟩ := Sl.elem (Own.rowSl 0 (Own.to (S' := rowp A_168 c_169 35 3 eC p_170 :: S) hcz [8] 10 (by kernel_rfl) (by kernel_rfl)) rfl) h_233
        refine qdt 5 (.pointer (some ⟨b_236, o_237 + 0 * 3, none⟩)) (op := (.indexAddr 28 (.tmp 168) (.const (vi 0)))) hs hcl hqC_231 (fun w hw o ho => by rw [hC_231] at hw; exact run_idxSlc (k := .i64) ho (cap := c_169) (len := p_170.length) ((congrArg (fun A => Value.slice A (p_170.length) (c_169)) hA_238) ▸ (by kernel_rfl)) (by kernel_rfl) (by kernel_rfl) (idx_ok h_232 h_233) _) fun a hs => ?_
        obtain ⟨h_239, hm⟩ := ite_t hm
        refine qdt 6 (.agg (vals e_235)) (op := (.load 35 (.tmp 169))) hs hcl hqC_231 (fun w hw o ho => by rw [hC_231] at hw; exact run_loadN (cs := e_235) ho (by kernel_rfl) (by kernel_rfl) h_239 h_234 _ (Own.to (S' := rowp A_168 c_169 35 3 eC p_170 :: S) hw [8] 10 (by kernel_rfl) (by kernel_rfl))) fun a hs => ?_
        obtain ⟨h_240, hm⟩ := ite_t hm
        obtain ⟨e_243, h_241, hm⟩ := bind_t hm
        obtain ⟨b_244, o_245, hA_246, h_242⟩ := Sl.elem (Own.rowSl 0 (Own.to (S' := rowp A_168 c_169 35 3 eC p_170 :: S) hcz [8] 10 (by kernel_rfl) (by kernel_rfl)) rfl) h_241
        refine qdt 8 (.pointer (some ⟨b_244, o_245 + 1 * 3, none⟩)) (op := (.indexAddr 28 (.tmp 171) (.const (vi 1)))) hs hcl hqC_231 (fun w hw o ho => by rw [hC_231] at hw; exact run_idxSlc (k := .i64) ho (cap := c_169) (len := p_170.length) ((congrArg (fun A => Value.slice A (p_170.length) (c_169)) hA_246) ▸ (by kernel_rfl)) (by kernel_rfl) (by kernel_rfl) (idx_ok h_240 h_241) _) fun a hs => ?_
        obtain ⟨h_247, hm⟩ := ite_t hm
        refine qdt 9 (.agg (vals e_243)) (op := (.load 35 (.tmp 172))) hs hcl hqC_231 (fun w hw o ho => by rw [hC_231] at hw; exact run_loadN (cs := e_243) ho (by kernel_rfl) (by kernel_rfl) h_247 h_242 _ (Own.to (S' := rowp A_168 c_169 35 3 eC p_170 :: S) hw [8] 10 (by kernel_rfl) (by kernel_rfl))) fun a hs => ?_
        refine qdl 12 3 (cp br9x0x_21) hs hcl hqC_231 hC_231 rfl fun a hs => ?_
        refine qdl 14 2 (ci x0.byF) hs hcl hqC_231 hC_231 rfl fun a hs => ?_
        obtain ⟨h_248, hm⟩ := ite_t hm
        obtain ⟨e_251, h_249, hm⟩ := bind_t hm
        obtain ⟨b_252, o_253, hA_254, h_250⟩ := Sl.elem (Own.rowSl 0 hcz.drop.drop.drop.drop.drop.drop.drop.drop.drop rfl) h_249
        refine qdt 16 (.pointer (some ⟨b_252, o_253 + 0 * 3, none⟩)) (op := (.indexAddr 28 (.tmp 179) (.const (vi 0)))) hs hcl hqC_231 (fun w hw o ho => by rw [hC_231] at hw; exact run_idxSlc (k := .i64) ho (cap := c_172) (len := p_173.length) ((congrArg (fun A => Value.slice A (p_173.length) (c_172)) hA_254) ▸ (by kernel_rfl)) (by kernel_rfl) (by kernel_rfl) (idx_ok h_248 h_249) _) fun a hs => ?_
        obtain ⟨h_255, hm⟩ := ite_t hm
        refine qdt 17 (.agg (vals e_251)) (op := (.load 35 (.tmp 180))) hs hcl hqC_231 (fun w hw o ho => by rw [hC_231] at hw; exact run_loadN (cs := e_251) ho (by kernel_rfl) (by kernel_rfl) h_255 h_250 _ hw.drop.drop.drop.drop.drop.drop.drop.drop.drop) fun a hs => ?_
        obtain ⟨h_256, hm⟩ := ite_t hm
        obtain ⟨e_259, h_257, hm⟩ := bind_t hm
        obtain ⟨b_260, o_261, hA_262, h_258⟩ := Sl.elem (Own.rowSl 0 hcz.drop.drop.drop.drop.drop.drop.drop.drop.drop rfl) h_257
        refine qdt 19 (.pointer (some ⟨b_260, o_261 + 1 * 3, none⟩)) (op := (.indexAddr 28 (.tmp 182) (.const (vi 1)))) hs hcl hqC_231 (fun w hw o ho => by rw [hC_231] at hw; exact run_idxSlc (k := .i64) ho (cap := c_172) (len := p_173.length) ((congrArg (fun A => Value.slice A (p_173.length) (c_172)) hA_262) ▸ (by kernel_rfl)) (by kernel_rfl) (by kernel_rfl) (idx_ok h_256 h_257) _) fun a hs => ?_
        obtain ⟨h_263, hm⟩ := ite_t hm
        refine qdt 20 (.agg (vals e_259)) (op := (.load 35 (.tmp 183))) hs hcl hqC_231 (fun w hw o ho => by rw [hC_231] at hw; exact run_loadN (cs := e_259) ho (by kernel_rfl) (by kernel_rfl) h_263 h_258 _ hw.drop.drop.drop.drop.drop.drop.drop.drop.drop) fun a hs => ?_
        obtain ⟨v_266, h_265, hm⟩ := bind_t hm
        refine qdc 10 (both_Less.ok _ _ _ _ _ _ h_265 _ _ _ br9x0m_20 hs.own.f4) hs fun w a hs => ?_
        replace hcl := qO hC_231 hs.own.drop
        refine ⟨fun _ => hcl, ?_⟩
        obtain ⟨v_269, h_268, hm⟩ := bind_t hm
        refine qdc 21 (visorref23_Less.ok _ _ _ _ _ _ h_268 _ _ _ br9x0x_21 hs.own.f5) hs fun w a hs => ?_
        refine ⟨fun h => absurd h (by decide), ?_⟩
        obtain ⟨h_270, hm⟩ := ite_t hm
        refine qsA 22 3 v_266.1 hs rfl h_270 rfl fun a w hs => ?_
        refine ⟨fun h => absurd h (by decide), ?_⟩
        obtain ⟨h_271, hm⟩ := ite_t hm
        refine qsA 23 2 v_269.1 hs rfl h_271 rfl fun a w hs => ?_
        refine ⟨fun h => absurd h (by decide), ?_⟩
        replace hs := hs.pick [1, 4, 6, 11, 12] (L' := [(1, pp b_2), (4, pp b_26), (6, .slice A_104 p_106.length c_105), (11, pp b_184), (12, pp b_185)]) (by kernel_rfl)
        refine Vk.dDone (by kernel_rfl) ?_
        exact hj186 v_266.2 v_269.2 v_266.1 v_269.1 hm _ _ (hs.go [1, 4, 6, 11, 12] [4, 5, 1, 0, 6, 7, 8, 3, 2] 11 (by kernel_rfl) (by kernel_rfl) (by kernel_rfl))
       ·replace hm := bif_f hm hb
        refine qse 2 [(1, pp b_2), (4, pp b_26), (6, .slice A_104 p_106.length c_105), (8, .slice A_168 p_170.length c_169), (9, .slice A_171 p_173.length c_172), (11, pp b_184), (12, pp b_185), (117, vi x0.kind), (186, .bool (x0.kind == 2))] hs fun a hs => ?_
        refine qcs (x0.kind == 2) hs (fun hb => ?_) fun hb => ?_
        ·replace hm := bif_t hm hb
         obtain ⟨C_273, hC_273⟩ : ∃ X0 : List HP, X0 = (pt b_185 (blk [ci 0, ci 0, ci 0] 35) :: pt b_184 (blk [ci 0, ci 0, ci 0] 35) :: pt b_2 (blk (Tvisorlaw23_Asked.obj x0 A_x0l c_x0l A_x0masks c_x0masks) 60) :: pt b_26 (blk [cp br9x0m_20, cp br9x0x_21, C.slc Ar9x0l_22 v_19.2.2.1.length cr9x0l_23, C.slc Ar9x0v_24 v_19.2.2.2.1.length cr9x0v_25] 30) :: Tvisorref19_M.own κ br9x0x_21 p_167 :: rowp Ar9x0l_22 cr9x0l_23 35 3 eC v_19.2.2.1 :: rowp Ar9x0v_24 cr9x0v_25 23 1 (eI .u64) v_19.2.2.2.1 :: rowp A_104 c_105 23 1 (eI .u64) p_106 :: rowp A_168 c_169 35 3 eC p_170 :: rowp A_171 c_172 35 3 eC p_173 :: S) := ⟨_, rfl⟩
         refine qdr 21 κ C_273 hs fun w hs hqC_273 => ?_
         have hcz : Own κ w (pt b_185 (blk [ci 0, ci 0, ci 0] 35) :: pt b_184 (blk [ci 0, ci 0, ci 0] 35) :: pt b_2 (blk (Tvisorlaw23_Asked.obj x0 A_x0l c_x0l A_x0masks c_x0masks) 60) :: pt b_26 (blk [cp br9x0m_20, cp br9x0x_21, C.slc Ar9x0l_22 v_19.2.2.1.length cr9x0l_23, C.slc Ar9x0v_24 v_19.2.2.2.1.length cr9x0v_25] 30) :: Tvisorref19_M.own κ br9x0x_21 p_167 :: rowp Ar9x0l_22 cr9x0l_23 35 3 eC v_19.2.2.1 :: rowp Ar9x0v_24 cr9x0v_25 23 1 (eI .u64) v_19.2.2.2.1 :: rowp A_104 c_105 23 1 (eI .u64) p_106 :: rowp A_168 c_169 35 3 eC p_170 :: rowp A_171 c_172 35 3 eC p_173 :: S) := hs.own.f4.drop
         have hcl : Own κ w C_273 := by rw [hC_273]; exact hcz
         refine qdp (fuel := 16) [0, 2, 4, 7, 11, 13, 15, 18] hs hcl hqC_273 fun a hs => ?_
         refine qdl 1 3 (cp br9x0m_20) hs hcl hqC_273 hC_273 rfl fun a hs => ?_
         refine qdl 3 2 (ci x0.byF) hs hcl hqC_273 hC_273 rfl fun a hs => ?_
         obtain ⟨h_274, hm⟩ := ite_t hm
         obtain ⟨e_277, h_275, hm⟩ := bind_t hm
         obtain ⟨b_278, o_279, hA_280, h_276⟩ := Sl.elem (Own.rowSl 0 (Own.to (S' := rowp A_168 c_169 35 3 eC p_170 :: S) hcz [8] 10 (by kernel_rfl) (by kernel_rfl)) rfl) h_275
         refine qdt 5 (.pointer (some ⟨b_278, o_279 + 0 * 3, none⟩)) (op := (.indexAddr 28 (.tmp 192) (.const (vi 0)))) hs hcl hqC_273 (fun w hw o ho => by rw [hC_273] at hw; exact run_idxSlc (k := .i64) ho (cap := c_169) (len := p_170.length) ((congrArg (fun A => Value.slice A (p_170.length) (c_169)) hA_280) ▸ (by kernel_rfl)) (by kernel_rfl) (by kernel_rfl) (idx_ok h_274 h_275) _) fun a hs => ?_
         obtain ⟨h_281, hm⟩ := ite_t hm
         refine qdt 6 (.agg (vals e_277)) (op := (.load 35 (.tmp 193))) hs hcl hqC_273 (fun w hw o ho => by rw [hC_273] at hw; exact run_loadN (cs := e_277) ho (by kernel_rfl) (by kernel_rfl) h_281 h_276 _ (Own.to (S' := rowp A_168 c_169 35 3 eC p_170 :: S) hw [8] 10 (by kernel_rfl) (by kernel_rfl))) fun a hs => ?_
         obtain ⟨h_282, hm⟩ := ite_t hm
         obtain ⟨e_285, h_283, hm⟩ := bind_t hm
         obtain ⟨b_286, o_287, hA_288, h_284⟩ := Sl.elem (Own.rowSl 0 (Own.to (S' := rowp A_168 c_169 35 3 eC p_170 :: S) hcz [8] 10 (by kernel_rfl) (by kernel_rfl)) rfl) h_283
         refine qdt 8 (.pointer (some ⟨b_286, o_287 + 1 * 3, none⟩)) (op := (.indexAddr 28 (.tmp 195) (.const (vi 1)))) hs hcl hqC_273 (fun w hw o ho => by rw [hC_273] at hw; exact run_idxSlc (k := .i64) ho (cap := c_169) (len := p_170.length) ((congrArg (fun A => Value.slice A (p_170.length) (c_169)) hA_288) ▸ (by kernel_rfl)) (by kernel_rfl) (by kernel_rfl) (idx_ok h_282 h_283) _) fun a hs => ?_
         obtain ⟨h_289, hm⟩ := ite_t hm
         refine qdt 9 (.agg (vals e_285)) (op := (.load 35 (.tmp 196))) hs hcl hqC_273 (fun w hw o ho => by rw [hC_273] at hw; exact run_loadN (cs := e_285) ho (by kernel_rfl) (by kernel_rfl) h_289 h_284 _ (Own.to (S' := rowp A_168 c_169 35 3 eC p_170 :: S) hw [8] 10 (by kernel_rfl) (by kernel_rfl))) fun a hs => ?_
         refine qdl 12 3 (cp br9x0x_21) hs hcl hqC_273 hC_273 rfl fun a hs => ?_
         refine qdl 14 2 (ci x0.byF) hs hcl hqC_273 hC_273 rfl fun a hs => ?_
         obtain ⟨h_290, hm⟩ := ite_t hm
         obtain ⟨e_293, h_291, hm⟩ := bind_t hm
         obtain ⟨b_294, o_295, hA_296, h_292⟩ := Sl.elem (Own.rowSl 0 hcz.drop.drop.drop.drop.drop.drop.drop.drop.drop rfl) h_291
         refine qdt 16 (.pointer (some ⟨b_294, o_295 + 0 * 3, none⟩)) (op := (.indexAddr 28 (.tmp 203) (.const (vi 0)))) hs hcl hqC_273 (fun w hw o ho => by rw [hC_273] at hw; exact run_idxSlc (k := .i64) ho (cap := c_172) (len := p_173.length) ((congrArg (fun A => Value.slice A (p_173.length) (c_172)) hA_296) ▸ (by kernel_rfl)) (by kernel_rfl) (by kernel_rfl) (idx_ok h_290 h_291) _) fun a hs => ?_
         obtain ⟨h_297, hm⟩ := ite_t hm
         refine qdt 17 (.agg (vals e_293)) (op := (.load 35 (.tmp 204))) hs hcl hqC_273 (fun w hw o ho => by rw [hC_273] at hw; exact run_loadN (cs := e_293) ho (by kernel_rfl) (by kernel_rfl) h_297 h_292 _ hw.drop.drop.drop.drop.drop.drop.drop.drop.drop) fun a hs => ?_
         obtain ⟨h_298, hm⟩ := ite_t hm
         obtain ⟨e_301, h_299, hm⟩ := bind_t hm
         obtain ⟨b_302, o_303, hA_304, h_300⟩ := Sl.elem (Own.rowSl 0 hcz.drop.drop.drop.drop.drop.drop.drop.drop.drop rfl) h_299
         refine qdt 19 (.pointer (some ⟨b_302, o_303 + 1 * 3, none⟩)) (op := (.indexAddr 28 (.tmp 206) (.const (vi 1)))) hs hcl hqC_273 (fun w hw o ho => by rw [hC_273] at hw; exact run_idxSlc (k := .i64) ho (cap := c_172) (len := p_173.length) ((congrArg (fun A => Value.slice A (p_173.length) (c_172)) hA_304) ▸ (by kernel_rfl)) (by kernel_rfl) (by kernel_rfl) (idx_ok h_298 h_299) _) fun a hs => ?_
         obtain ⟨h_305, hm⟩ := ite_t hm
         refine qdt 20 (.agg (vals e_301)) (op := (.load 35 (.tmp 207))) hs hcl hqC_273 (fun w hw o ho => by rw [hC_273] at hw; exact run_loadN (cs := e_301) ho (by kernel_rfl) (by kernel_rfl) h_305 h_300 _ hw.drop.drop.drop.drop.drop.drop.drop.drop.drop) fun a hs => ?_
         obtain ⟨v_308, h_307, hm⟩ := bind_t hm
         refine qdc 10 (both_Or.ok _ _ _ _ _ _ h_307 _ _ _ br9x0m_20 hs.own.f4) hs fun w a hs => ?_
         replace hcl := qO hC_273 hs.own.drop
         refine ⟨fun _ => hcl, ?_⟩
         obtain ⟨v_311, h_310, hm⟩ := bind_t hm
         refine qdc 21 (visorref23_Or.ok _ _ _ _ _ _ h_310 _ _ _ br9x0x_21 hs.own.f5) hs fun w a hs => ?_
         refine ⟨fun h => absurd h (by decide), ?_⟩
         obtain ⟨h_312, hm⟩ := ite_t hm
         refine qsA 22 3 v_308.1 hs rfl h_312 rfl fun a w hs => ?_
         refine ⟨fun h => absurd h (by decide), ?_⟩
         obtain ⟨h_313, hm⟩ := ite_t hm
         refine qsA 23 2 v_311.1 hs rfl h_313 rfl fun a w hs => ?_
         refine ⟨fun h => absurd h (by decide), ?_⟩
         replace hs := hs.pick [1, 4, 6, 11, 12] (L' := [(1, pp b_2), (4, pp b_26), (6, .slice A_104 p_106.length c_105), (11, pp b_184), (12, pp b_185)]) (by kernel_rfl)
         refine Vk.dDone (by kernel_rfl) ?_
         exact hj186 v_308.2 v_311.2 v_308.1 v_311.1 hm _ _ (hs.go [1, 4, 6, 11, 12] [4, 5, 1, 0, 6, 7, 8, 3, 2] 11 (by kernel_rfl) (by kernel_rfl) (by kernel_rfl))
        ·replace hm := bif_f hm hb
         refine qse 2 [(1, pp b_2), (4, pp b_26), (6, .slice A_104 p_106.length c_105), (8, .slice A_168 p_170.length c_169), (9, .slice A_171 p_173.length c_172), (11, pp b_184), (12, pp b_185), (210, .bool (x0.kind == 3))] hs fun a hs => ?_
         refine qcs (x0.kind == 3) hs (fun hb => ?_) fun hb => ?_
         ·replace hm := bif_t hm hb
          obtain ⟨C_315, hC_315⟩ := qC hs.own.f4.drop
          refine qdr 11 κ C_315 hs fun w hs hqC_315 => ?_
          have hcl := qO hC_315 hs.own.f4.drop
          refine qdp (fuel := 8) [0, 2, 4, 6, 8, 10] hs hcl hqC_315 fun a hs => ?_
          refine qdl 1 3 (cp br9x0m_20) hs hcl hqC_315 hC_315 rfl fun a hs => ?_
          refine qdl 3 2 (ci x0.byF) hs hcl hqC_315 hC_315 rfl fun a hs => ?_
          refine qdl 7 3 (cp br9x0x_21) hs hcl hqC_315 hC_315 rfl fun a hs => ?_
          refine qdl 9 2 (ci x0.byF) hs hcl hqC_315 hC_315 rfl fun a hs => ?_
          obtain ⟨v_318, h_317, hm⟩ := bind_t hm
          refine qdc 5 (both_Any.ok _ _ _ _ _ h_317 _ _ _ br9x0m_20 A_168 c_169 (Sl.lift (fun w ho => (Own.to (S' := rowp A_168 c_169 35 3 eC p_170 :: S) ho [8] 10 (by kernel_rfl) (by kernel_rfl))) (Own.rowSl 0 (Own.to (S' := rowp A_168 c_169 35 3 eC p_170 :: S) hs.own [9] 11 (by kernel_rfl) (by kernel_rfl)) rfl)) hs.own.f4) hs fun w a hs => ?_
          replace hcl := qO hC_315 hs.own.drop
          refine ⟨fun _ => hcl, ?_⟩
          obtain ⟨v_321, h_320, hm⟩ := bind_t hm
          refine qdc 11 (visorref23_Any.ok _ _ _ _ _ h_320 _ _ _ br9x0x_21 A_171 c_172 ((Own.rowSl 0 hs.own.drop.drop.drop.drop.drop.drop.drop.drop.drop.drop rfl).less.less.less.less.less.less.less.less.less) hs.own.f5) hs fun w a hs => ?_
          refine ⟨fun h => absurd h (by decide), ?_⟩
          obtain ⟨h_322, hm⟩ := ite_t hm
          refine qsA 12 3 v_318.1 hs rfl h_322 rfl fun a w hs => ?_
          refine ⟨fun h => absurd h (by decide), ?_⟩
          obtain ⟨h_323, hm⟩ := ite_t hm
          refine qsA 13 2 v_321.1 hs rfl h_323 rfl fun a w hs => ?_
          refine ⟨fun h => absurd h (by decide), ?_⟩
          replace hs := hs.pick [1, 4, 6, 11, 12] (L' := [(1, pp b_2), (4, pp b_26), (6, .slice A_104 p_106.length c_105), (11, pp b_184), (12, pp b_185)]) (by kernel_rfl)
          refine Vk.dDone (by kernel_rfl) ?_
          exact hj186 v_318.2 v_321.2 v_318.1 v_321.1 hm _ _ (hs.go [1, 4, 6, 11, 12] [4, 5, 1, 0, 6, 7, 8, 3, 2] 11 (by kernel_rfl) (by kernel_rfl) (by kernel_rfl))
         ·replace hm := bif_f hm hb
          obtain ⟨C_324, hC_324⟩ : ∃ X0 : List HP, X0 = (pt b_185 (blk [ci 0, ci 0, ci 0] 35) :: pt b_184 (blk [ci 0, ci 0, ci 0] 35) :: pt b_2 (blk (Tvisorlaw23_Asked.obj x0 A_x0l c_x0l A_x0masks c_x0masks) 60) :: pt b_26 (blk [cp br9x0m_20, cp br9x0x_21, C.slc Ar9x0l_22 v_19.2.2.1.length cr9x0l_23, C.slc Ar9x0v_24 v_19.2.2.2.1.length cr9x0v_25] 30) :: Tvisorref19_M.own κ br9x0x_21 p_167 :: rowp Ar9x0l_22 cr9x0l_23 35 3 eC v_19.2.2.1 :: rowp Ar9x0v_24 cr9x0v_25 23 1 (eI .u64) v_19.2.2.2.1 :: rowp A_104 c_105 23 1 (eI .u64) p_106 :: rowp A_168 c_169 35 3 eC p_170 :: rowp A_171 c_172 35 3 eC p_173 :: S) := ⟨_, rfl⟩
          refine qdr 19 κ C_324 hs fun w hs hqC_324 => ?_
          have hcz : Own κ w (pt b_185 (blk [ci 0, ci 0, ci 0] 35) :: pt b_184 (blk [ci 0, ci 0, ci 0] 35) :: pt b_2 (blk (Tvisorlaw23_Asked.obj x0 A_x0l c_x0l A_x0masks c_x0masks) 60) :: pt b_26 (blk [cp br9x0m_20, cp br9x0x_21, C.slc Ar9x0l_22 v_19.2.2.1.length cr9x0l_23, C.slc Ar9x0v_24 v_19.2.2.2.1.length cr9x0v_25] 30) :: Tvisorref19_M.own κ br9x0x_21 p_167 :: rowp Ar9x0l_22 cr9x0l_23 35 3 eC v_19.2.2.1 :: rowp Ar9x0v_24 cr9x0v_25 23 1 (eI .u64) v_19.2.2.2.1 :: rowp A_104 c_105 23 1 (eI .u64) p_106 :: rowp A_168 c_169 35 3 eC p_170 :: rowp A_171 c_172 35 3 eC p_173 :: S) := hs.own.f4.drop
          have hcl : Own κ w C_324 := by rw [hC_324]; exact hcz
          refine qdp (fuel := 14) [0, 2, 4, 7, 10, 12, 14, 17] hs hcl hqC_324 fun a hs => ?_
          refine qdl 1 3 (cp br9x0m_20) hs hcl hqC_324 hC_324 rfl fun a hs => ?_
          refine qdl 3 2 (ci x0.byF) hs hcl hqC_324 hC_324 rfl fun a hs => ?_
          obtain ⟨h_325, hm⟩ := ite_t hm
          obtain ⟨e_328, h_326, hm⟩ := bind_t hm
          obtain ⟨b_329, o_330, hA_331, h_327⟩ := Sl.elem (Own.rowSl 0 (Own.to (S' := rowp A_168 c_169 35 3 eC p_170 :: S) hcz [8] 10 (by kernel_rfl) (by kernel_rfl)) rfl) h_326
          refine qdt 5 (.pointer (some ⟨b_329, o_330 + 0 * 3, none⟩)) (op := (.indexAddr 28 (.tmp 122) (.const (vi 0)))) hs hcl hqC_324 (fun w hw o ho => by rw [hC_324] at hw; exact run_idxSlc (k := .i64) ho (cap := c_169) (len := p_170.length) ((congrArg (fun A => Value.slice A (p_170.length) (c_169)) hA_331) ▸ (by kernel_rfl)) (by kernel_rfl) (by kernel_rfl) (idx_ok h_325 h_326) _) fun a hs => ?_
          obtain ⟨h_332, hm⟩ := ite_t hm
          refine qdt 6 (.agg (vals e_328)) (op := (.load 35 (.tmp 123))) hs hcl hqC_324 (fun w hw o ho => by rw [hC_324] at hw; exact run_loadN (cs := e_328) ho (by kernel_rfl) (by kernel_rfl) h_332 h_327 _ (Own.to (S' := rowp A_168 c_169 35 3 eC p_170 :: S) hw [8] 10 (by kernel_rfl) (by kernel_rfl))) fun a hs => ?_
          refine qdl 8 2 (ci x0.width) hs hcl hqC_324 hC_324 rfl fun a hs => ?_
          refine qdl 11 3 (cp br9x0x_21) hs hcl hqC_324 hC_324 rfl fun a hs => ?_
          refine qdl 13 2 (ci x0.byF) hs hcl hqC_324 hC_324 rfl fun a hs => ?_
          obtain ⟨h_333, hm⟩ := ite_t hm
          obtain ⟨e_336, h_334, hm⟩ := bind_t hm
          obtain ⟨b_337, o_338, hA_339, h_335⟩ := Sl.elem (Own.rowSl 0 hcz.drop.drop.drop.drop.drop.drop.drop.drop.drop rfl) h_334
          refine qdt 15 (.pointer (some ⟨b_337, o_338 + 0 * 3, none⟩)) (op := (.indexAddr 28 (.tmp 132) (.const (vi 0)))) hs hcl hqC_324 (fun w hw o ho => by rw [hC_324] at hw; exact run_idxSlc (k := .i64) ho (cap := c_172) (len := p_173.length) ((congrArg (fun A => Value.slice A (p_173.length) (c_172)) hA_339) ▸ (by kernel_rfl)) (by kernel_rfl) (by kernel_rfl) (idx_ok h_333 h_334) _) fun a hs => ?_
          obtain ⟨h_340, hm⟩ := ite_t hm
          refine qdt 16 (.agg (vals e_336)) (op := (.load 35 (.tmp 133))) hs hcl hqC_324 (fun w hw o ho => by rw [hC_324] at hw; exact run_loadN (cs := e_336) ho (by kernel_rfl) (by kernel_rfl) h_340 h_335 _ hw.drop.drop.drop.drop.drop.drop.drop.drop.drop) fun a hs => ?_
          refine qdl 18 2 (ci x0.width) hs hcl hqC_324 hC_324 rfl fun a hs => ?_
          obtain ⟨v_343, h_342, hm⟩ := bind_t hm
          refine qdc 9 (both_Fold.ok _ _ _ _ _ _ h_342 _ _ _ br9x0m_20 hs.own.f4) hs fun w a hs => ?_
          replace hcl := qO hC_324 hs.own.drop
          refine ⟨fun _ => hcl, ?_⟩
          obtain ⟨v_346, h_345, hm⟩ := bind_t hm
          refine qdc 19 (visorref23_Fold.ok _ _ _ _ _ _ h_345 _ _ _ br9x0x_21 hs.own.f5) hs fun w a hs => ?_
          refine ⟨fun h => absurd h (by decide), ?_⟩
          obtain ⟨h_347, hm⟩ := ite_t hm
          refine qsA 20 3 v_343.1 hs rfl h_347 rfl fun a w hs => ?_
          refine ⟨fun h => absurd h (by decide), ?_⟩
          obtain ⟨h_348, hm⟩ := ite_t hm
          refine qsA 21 2 v_346.1 hs rfl h_348 rfl fun a w hs => ?_
          refine ⟨fun h => absurd h (by decide), ?_⟩
          replace hs := hs.pick [1, 4, 6, 11, 12] (L' := [(1, pp b_2), (4, pp b_26), (6, .slice A_104 p_106.length c_105), (11, pp b_184), (12, pp b_185)]) (by kernel_rfl)
          refine Vk.dDone (by kernel_rfl) ?_
          exact hj186 v_343.2 v_346.2 v_343.1 v_346.1 hm _ _ (hs.go [1, 4, 6, 11, 12] [4, 5, 1, 0, 6, 7, 8, 3, 2] 11 (by kernel_rfl) (by kernel_rfl) (by kernel_rfl))
     refine Vk.loopBy (fun k (s : Twire_Machine × Tvisorref19_M × List Cells × List Cells × Int) a w => ∃ (A_121 : Option Addr), ∃ (c_122 : Nat), ∃ (A_124 : Option Addr), ∃ (c_125 : Nat), visorlaw23_BothTells.l2 p_106 k s.1 s.2.1 s.2.2.1 s.2.2.2.1 s.2.2.2.2 = some r118 ∧ St 261 a w κ [(1, pp b_2), (4, pp b_26), (6, .slice A_104 p_106.length c_105), (8, .slice A_121 s.2.2.1.length c_122), (9, .slice A_124 s.2.2.2.1.length c_125), (10, vi s.2.2.2.2)] (pt b_2 (blk (Tvisorlaw23_Asked.obj x0 A_x0l c_x0l A_x0masks c_x0masks) 60) :: pt b_26 (blk [cp br9x0m_20, cp br9x0x_21, C.slc Ar9x0l_22 v_19.2.2.1.length cr9x0l_23, C.slc Ar9x0v_24 v_19.2.2.2.1.length cr9x0v_25] 30) :: Twire_Machine.own br9x0m_20 s.1 :: Tvisorref19_M.own κ br9x0x_21 s.2.1 :: rowp Ar9x0l_22 cr9x0l_23 35 3 eC v_19.2.2.1 :: rowp Ar9x0v_24 cr9x0v_25 23 1 (eI .u64) v_19.2.2.2.1 :: rowp A_104 c_105 23 1 (eI .u64) p_106 :: rowp A_121 c_122 35 3 eC s.2.2.1 :: rowp A_124 c_125 35 3 eC s.2.2.2.1 :: S)) k (v_19.1, v_19.2.1, ([] : List Cells), ([] : List Cells), 0) ⟨A_112, 0, A_114, 0, hl118, hs.go [1, 4, 6, 8, 9, 10] [2, 3, 4, 5, 6, 7, 8, 1, 0] 9 (by kernel_rfl) (by kernel_rfl) (by kernel_rfl)⟩ (fun s a w h => by obtain ⟨_, _, _, _, h1, _⟩ := h; simp [visorlaw23_BothTells.l2] at h1) (fun k KL118 ih s a w h => ?_)
     obtain ⟨q_119, q_120, q_123, q_126, q_127⟩ := s
     obtain ⟨A_121, c_122, A_124, c_125, hm, hs⟩ := h
     try dsimp only at hm hs
     rw [visorlaw23_BothTells.l2] at hm
     refine Vk.seq fun K128 hK128 => ?_
     refine qsk 4 [1, 4, 6, 8, 9, 10, 91] hs fun a hs => ?_
     refine qcs (decide (q_127 < ((p_106.length : Nat) : Int))) hs (fun hb => ?_) fun hb => ?_
     ·replace hm := bif_t hm hb
      refine wp_skip ?_
      refine hK128 _ _ ?_
      clear hK128
      refine Vk.seq fun K130 hK130 => ?_
      refine wp_block ?_
      refine Vk.seq fun K131 hK131 => ?_
      obtain ⟨C_132, hC_132⟩ : ∃ X0 : List HP, X0 = (pt b_2 (blk (Tvisorlaw23_Asked.obj x0 A_x0l c_x0l A_x0masks c_x0masks) 60) :: pt b_26 (blk [cp br9x0m_20, cp br9x0x_21, C.slc Ar9x0l_22 v_19.2.2.1.length cr9x0l_23, C.slc Ar9x0v_24 v_19.2.2.2.1.length cr9x0v_25] 30) :: Tvisorref19_M.own κ br9x0x_21 q_120 :: rowp Ar9x0l_22 cr9x0l_23 35 3 eC v_19.2.2.1 :: rowp Ar9x0v_24 cr9x0v_25 23 1 (eI .u64) v_19.2.2.2.1 :: rowp A_104 c_105 23 1 (eI .u64) p_106 :: rowp A_121 c_122 35 3 eC q_123 :: rowp A_124 c_125 35 3 eC q_126 :: S) := ⟨_, rfl⟩
      refine qdr 9 κ C_132 hs fun w hs hqC_132 => ?_
      have hcz : Own κ w (pt b_2 (blk (Tvisorlaw23_Asked.obj x0 A_x0l c_x0l A_x0masks c_x0masks) 60) :: pt b_26 (blk [cp br9x0m_20, cp br9x0x_21, C.slc Ar9x0l_22 v_19.2.2.1.length cr9x0l_23, C.slc Ar9x0v_24 v_19.2.2.2.1.length cr9x0v_25] 30) :: Tvisorref19_M.own κ br9x0x_21 q_120 :: rowp Ar9x0l_22 cr9x0l_23 35 3 eC v_19.2.2.1 :: rowp Ar9x0v_24 cr9x0v_25 23 1 (eI .u64) v_19.2.2.2.1 :: rowp A_104 c_105 23 1 (eI .u64) p_106 :: rowp A_121 c_122 35 3 eC q_123 :: rowp A_124 c_125 35 3 eC q_126 :: S) := hs.own.f2.drop
      have hcl : Own κ w C_132 := by rw [hC_132]; exact hcz
      refine qdp (fuel := 7) [0, 1, 3, 4] hs hcl hqC_132 fun a hs => ?_
      refine qdl 2 1 (cp br9x0m_20) hs hcl hqC_132 hC_132 rfl fun a hs => ?_
      obtain ⟨h_133, hm⟩ := ite_t hm
      obtain ⟨e_136, h_134, hm⟩ := bind_t hm
      obtain ⟨b_137, o_138, hA_139, h_135⟩ := Sl.elem (Own.rowSl 0 (Own.to (S' := rowp A_104 c_105 23 1 (eI .u64) p_106 :: S) hcz [5] 8 (by kernel_rfl) (by kernel_rfl)) rfl) h_134
      refine qdt 5 (.pointer (some ⟨b_137, o_138 + q_127.toNat * 1, none⟩)) (op := (.indexAddr 24 (.tmp 97) (.tmp 98))) hs hcl hqC_132 (fun w hw o ho => by rw [hC_132] at hw; exact run_idxSlc (k := .i64) ho (cap := c_105) (len := p_106.length) ((congrArg (fun A => Value.slice A (p_106.length) (c_105)) hA_139) ▸ (by kernel_rfl)) (by kernel_rfl) (by kernel_rfl) (idx_ok h_133 h_134) _) fun a hs => ?_
      refine qdt 6 (vw e_136) (op := (.load 23 (.tmp 99))) hs hcl hqC_132 (fun w hw o ho => by rw [hC_132] at hw; exact run_load1 (c := cw e_136) ho (by kernel_rfl) (by kernel_rfl) (fun w ho => h_135 w ho 0 _ rfl) _ (Own.to (S' := rowp A_104 c_105 23 1 (eI .u64) p_106 :: S) hw [5] 8 (by kernel_rfl) (by kernel_rfl))) fun a hs => ?_
      obtain ⟨v_142, h_141, hm⟩ := bind_t hm
      refine qdc 7 (share_Public.ok _ _ _ _ h_141 _ _ _ br9x0m_20 hs.own.f2) hs fun w a hs => ?_
      replace hcl := qO hC_132 hs.own.drop
      refine ⟨fun _ => hcl, ?_⟩
      obtain ⟨h_145, hm⟩ := ite_t hm
      refine Vk.dOnly (i := 8) (by kernel_rfl) (Vk.buildOp (sz := 3) (by_ := 24) (t := 28) (e := 35) (parts := #[(0, (.tmp 101))]) (zs := vals [ci 0, ci 0, ci 0]) ([v_142.1] : List Cells) eC (some 102) hs (by kernel_rfl) (by kernel_rfl) (by kernel_rfl) (by kernel_rfl) (by decide) rfl (fun x _ => by obtain rfl := List.mem_singleton.1 ‹_›; exact h_145) (Nat.le_of_ble_eq_true (by kernel_rfl)) (fill3 h_145 (by kernel_rfl)) fun A_143 w a hs => ?_)
      replace hcl := qO hC_132 hs.own.f1.drop.drop
      refine ⟨fun _ => hcl, ?_⟩
      obtain ⟨h_146, hm⟩ := ite_t hm
      refine Vk.dOnly (i := 9) (by kernel_rfl) (Vk.appendOp (x := (.tmp 94)) (y := (.tmp 102)) (e := 35) (t := 28) (by_ := 24) (sz := 3) (enc := eC) (A := A_121) (cap := c_122) (xs := q_123) (ys := ([v_142.1] : List Cells)) (B := A_143) (c2 := 1) 8 (some 103) hs (by kernel_rfl) (by kernel_rfl) (by kernel_rfl) (by kernel_rfl) rfl (Sl.lift (fun w ho => (Own.to (S' := rowp A_143 1 35 3 eC ([v_142.1] : List Cells) :: S) ho [0] 10 (by kernel_rfl) (by kernel_rfl))) (Own.rowSl 0 (Own.to (S' := rowp A_143 1 35 3 eC ([v_142.1] : List Cells) :: S) hs.own [0] 10 (by kernel_rfl) (by kernel_rfl)) rfl)) (by kernel_rfl) (by kernel_rfl) (by decide) (by decide) h_146 fun A_147 c_148 w a hs => ?_)
      refine ⟨fun h => absurd h (by decide), ?_⟩
      refine Vk.dOnly (i := 10) (by kernel_rfl) (Vk.dPure1 [(8, .slice A_147 ((q_123 ++ ([v_142.1] : List Cells)).length) c_148)] hs (by kernel_rfl) fun a hs => ?_)
      refine ⟨fun h => absurd h (by decide), ?_⟩
      replace hs := hs.pick [1, 4, 6, 8, 9, 10] (L' := [(1, pp b_2), (4, pp b_26), (6, .slice A_104 p_106.length c_105), (8, .slice A_147 ((q_123 ++ ([v_142.1] : List Cells)).length) c_148), (9, .slice A_124 q_126.length c_125), (10, vi q_127)]) (by kernel_rfl)
      refine Vk.dDone (by kernel_rfl) ?_
      refine hK131 _ _ ?_
      clear hK131
      obtain ⟨C_149, hC_149⟩ : ∃ X0 : List HP, X0 = (rowp A_143 1 35 3 eC ([v_142.1] : List Cells) :: Twire_Machine.own br9x0m_20 v_142.2 :: pt b_2 (blk (Tvisorlaw23_Asked.obj x0 A_x0l c_x0l A_x0masks c_x0masks) 60) :: pt b_26 (blk [cp br9x0m_20, cp br9x0x_21, C.slc Ar9x0l_22 v_19.2.2.1.length cr9x0l_23, C.slc Ar9x0v_24 v_19.2.2.2.1.length cr9x0v_25] 30) :: rowp Ar9x0l_22 cr9x0l_23 35 3 eC v_19.2.2.1 :: rowp Ar9x0v_24 cr9x0v_25 23 1 (eI .u64) v_19.2.2.2.1 :: rowp A_104 c_105 23 1 (eI .u64) p_106 :: rowp A_147 c_148 35 3 eC (q_123 ++ ([v_142.1] : List Cells)) :: rowp A_124 c_125 35 3 eC q_126 :: S) := ⟨_, rfl⟩
      refine qdr 9 κ C_149 hs fun w hs hqC_149 => ?_
      have hcz : Own κ w (rowp A_143 1 35 3 eC ([v_142.1] : List Cells) :: Twire_Machine.own br9x0m_20 v_142.2 :: pt b_2 (blk (Tvisorlaw23_Asked.obj x0 A_x0l c_x0l A_x0masks c_x0masks) 60) :: pt b_26 (blk [cp br9x0m_20, cp br9x0x_21, C.slc Ar9x0l_22 v_19.2.2.1.length cr9x0l_23, C.slc Ar9x0v_24 v_19.2.2.2.1.length cr9x0v_25] 30) :: rowp Ar9x0l_22 cr9x0l_23 35 3 eC v_19.2.2.1 :: rowp Ar9x0v_24 cr9x0v_25 23 1 (eI .u64) v_19.2.2.2.1 :: rowp A_104 c_105 23 1 (eI .u64) p_106 :: rowp A_147 c_148 35 3 eC (q_123 ++ ([v_142.1] : List Cells)) :: rowp A_124 c_125 35 3 eC q_126 :: S) := hs.own.f4.drop
      have hcl : Own κ w C_149 := by rw [hC_149]; exact hcz
      refine qdp (fuel := 7) [0, 1, 3, 4] hs hcl hqC_149 fun a hs => ?_
      refine qdl 2 3 (cp br9x0x_21) hs hcl hqC_149 hC_149 rfl fun a hs => ?_
      obtain ⟨h_150, hm⟩ := ite_t hm
      obtain ⟨e_153, h_151, hm⟩ := bind_t hm
      obtain ⟨b_154, o_155, hA_156, h_152⟩ := Sl.elem (Own.rowSl 0 (Own.to (S' := rowp A_104 c_105 23 1 (eI .u64) p_106 :: S) hcz [6] 9 (by kernel_rfl) (by kernel_rfl)) rfl) h_151
      refine qdt 5 (.pointer (some ⟨b_154, o_155 + q_127.toNat * 1, none⟩)) (op := (.indexAddr 24 (.tmp 107) (.tmp 108))) hs hcl hqC_149 (fun w hw o ho => by rw [hC_149] at hw; exact run_idxSlc (k := .i64) ho (cap := c_105) (len := p_106.length) ((congrArg (fun A => Value.slice A (p_106.length) (c_105)) hA_156) ▸ (by kernel_rfl)) (by kernel_rfl) (by kernel_rfl) (idx_ok h_150 h_151) _) fun a hs => ?_
      refine qdt 6 (vw e_153) (op := (.load 23 (.tmp 109))) hs hcl hqC_149 (fun w hw o ho => by rw [hC_149] at hw; exact run_load1 (c := cw e_153) ho (by kernel_rfl) (by kernel_rfl) (fun w ho => h_152 w ho 0 _ rfl) _ (Own.to (S' := rowp A_104 c_105 23 1 (eI .u64) p_106 :: S) hw [6] 9 (by kernel_rfl) (by kernel_rfl))) fun a hs => ?_
      obtain ⟨v_159, h_158, hm⟩ := bind_t hm
      refine qdc 7 (visorref20_Const.ok _ _ _ _ _ h_158 _ _ _ br9x0x_21 hs.own.f4) hs fun w a hs => ?_
      replace hcl := qO hC_149 hs.own.drop
      refine ⟨fun _ => hcl, ?_⟩
      obtain ⟨h_162, hm⟩ := ite_t hm
      refine Vk.dOnly (i := 8) (by kernel_rfl) (Vk.buildOp (sz := 3) (by_ := 24) (t := 28) (e := 35) (parts := #[(0, (.tmp 111))]) (zs := vals [ci 0, ci 0, ci 0]) ([v_159.1] : List Cells) eC (some 112) hs (by kernel_rfl) (by kernel_rfl) (by kernel_rfl) (by kernel_rfl) (by decide) rfl (fun x _ => by obtain rfl := List.mem_singleton.1 ‹_›; exact h_162) (Nat.le_of_ble_eq_true (by kernel_rfl)) (fill3 h_162 (by kernel_rfl)) fun A_160 w a hs => ?_)
      replace hcl := qO hC_149 hs.own.f1.drop.drop
      refine ⟨fun _ => hcl, ?_⟩
      obtain ⟨h_163, hm⟩ := ite_t hm
      refine Vk.dOnly (i := 9) (by kernel_rfl) (Vk.appendOp (x := (.tmp 104)) (y := (.tmp 112)) (e := 35) (t := 28) (by_ := 24) (sz := 3) (enc := eC) (A := A_124) (cap := c_125) (xs := q_126) (ys := ([v_159.1] : List Cells)) (B := A_160) (c2 := 1) 10 (some 113) hs (by kernel_rfl) (by kernel_rfl) (by kernel_rfl) (by kernel_rfl) rfl (Sl.lift (fun w ho => (Own.to (S' := rowp A_160 1 35 3 eC ([v_159.1] : List Cells) :: S) ho [0] 11 (by kernel_rfl) (by kernel_rfl))) (Own.rowSl 0 (Own.to (S' := rowp A_160 1 35 3 eC ([v_159.1] : List Cells) :: S) hs.own [0] 11 (by kernel_rfl) (by kernel_rfl)) rfl)) (by kernel_rfl) (by kernel_rfl) (by decide) (by decide) h_163 fun A_164 c_165 w a hs => ?_)
      refine ⟨fun h => absurd h (by decide), ?_⟩
      refine Vk.dOnly (i := 10) (by kernel_rfl) (Vk.dPure1 [(9, .slice A_164 ((q_126 ++ ([v_159.1] : List Cells)).length) c_165)] hs (by kernel_rfl) fun a hs => ?_)
      refine ⟨fun h => absurd h (by decide), ?_⟩
      replace hs := hs.pick [1, 4, 6, 8, 9, 10] (L' := [(1, pp b_2), (4, pp b_26), (6, .slice A_104 p_106.length c_105), (8, .slice A_147 ((q_123 ++ ([v_142.1] : List Cells)).length) c_148), (9, .slice A_164 ((q_126 ++ ([v_159.1] : List Cells)).length) c_165), (10, vi q_127)]) (by kernel_rfl)
      refine Vk.dDone (by kernel_rfl) ?_
      refine hK130 _ _ ?_
      clear hK130
      refine Vk.region ?_
      refine qpe 3 [(1, pp b_2), (4, pp b_26), (6, .slice A_104 p_106.length c_105), (8, .slice A_147 ((q_123 ++ ([v_142.1] : List Cells)).length) c_148), (9, .slice A_164 ((q_126 ++ ([v_159.1] : List Cells)).length) c_165), (10, vi (IntKind.i64.wrap (q_127 + 1)))] hs fun a hs => ?_
      refine ih (v_142.2, v_159.2, (q_123 ++ ([v_142.1] : List Cells)), (q_126 ++ ([v_159.1] : List Cells)), (IntKind.i64.wrap (q_127 + 1))) _ _ ⟨A_147, c_148, A_164, c_165, hm, hs.go [1, 4, 6, 8, 9, 10] [4, 5, 3, 1, 6, 7, 8, 9, 10] 11 (by kernel_rfl) (by kernel_rfl) (by kernel_rfl)⟩
     ·replace hm := bif_f hm hb
      refine wp_exit ?_
      exact hx118 q_119 q_120 q_123 q_126 (Option.some.inj hm).symm A_121 c_122 A_124 c_125 _ _ (hs.go [1, 4, 6, 8, 9] [0, 1, 2, 3, 4, 5, 6, 7, 8] 9 (by kernel_rfl) (by kernel_rfl) (by kernel_rfl))
    refine Vk.loopBy (fun k (s : List Int × Int) a w => ∃ (A_66 : Option Addr), ∃ (c_67 : Nat), visorlaw23_BothTells.l1 x0 k s.1 s.2 = some r65 ∧ St 261 a w κ [(1, pp b_2), (4, pp b_26), (6, .slice A_66 s.1.length c_67), (7, vi s.2)] (pt b_2 (blk (Tvisorlaw23_Asked.obj x0 A_x0l c_x0l A_x0masks c_x0masks) 60) :: pt b_26 (blk [cp br9x0m_20, cp br9x0x_21, C.slc Ar9x0l_22 v_19.2.2.1.length cr9x0l_23, C.slc Ar9x0v_24 v_19.2.2.2.1.length cr9x0v_25] 30) :: Twire_Machine.own br9x0m_20 v_19.1 :: Tvisorref19_M.own κ br9x0x_21 v_19.2.1 :: rowp Ar9x0l_22 cr9x0l_23 35 3 eC v_19.2.2.1 :: rowp Ar9x0v_24 cr9x0v_25 23 1 (eI .u64) v_19.2.2.2.1 :: rowp A_66 c_67 23 1 (eI .u64) s.1 :: S)) k (([7, 9] : List Int), 0) ⟨A_61, 2, hl65, hs.go [1, 4, 6, 7] [1, 2, 3, 4, 5, 6, 0] 7 (by kernel_rfl) (by kernel_rfl) (by kernel_rfl)⟩ (fun s a w h => by obtain ⟨_, _, h1, _⟩ := h; simp [visorlaw23_BothTells.l1] at h1) (fun k KL65 ih s a w h => ?_)
    obtain ⟨q_68, q_69⟩ := s
    obtain ⟨A_66, c_67, hm, hs⟩ := h
    try dsimp only at hm hs
    rw [visorlaw23_BothTells.l1] at hm
    refine Vk.seq fun K70 hK70 => ?_
    refine qsr fun K71 hK71 => ?_
    refine qpu 2 hs fun a hs => ?_
    refine qld 0 (C.slc A_x0l x0.l.length c_x0l) hs rfl fun a hs => ?_
    refine qpu 3 hs fun a hs => ?_
    refine qsc 62 3 hs fun a hs => ?_
    refine qpk 0 [1, 4, 6, 7, 65] hs fun a hs => hK71 _ _ ?_
    clear hK71
    refine qcs ((decide (q_69 < ((x0.l.length : Nat) : Int))) && (decide (q_69 < 5))) hs (fun hb => ?_) fun hb => ?_
    ·replace hm := bif_t hm hb
     refine wp_skip ?_
     refine hK70 _ _ ?_
     clear hK70
     refine Vk.seq fun K73 hK73 => ?_
     have hj73 : ∀ (p_103 : List Int), visorlaw23_BothTells.j2 k (visorlaw23_BothTells.l1 x0 k) q_69 p_103 = some r65 → ∀ (A_101 : Option Addr) (c_102 : Nat) (a : Act) (w : World), St 261 a w κ [(1, pp b_2), (4, pp b_26), (6, .slice A_101 p_103.length c_102), (7, vi q_69)] (pt b_2 (blk (Tvisorlaw23_Asked.obj x0 A_x0l c_x0l A_x0masks c_x0masks) 60) :: pt b_26 (blk [cp br9x0m_20, cp br9x0x_21, C.slc Ar9x0l_22 v_19.2.2.1.length cr9x0l_23, C.slc Ar9x0v_24 v_19.2.2.2.1.length cr9x0v_25] 30) :: Twire_Machine.own br9x0m_20 v_19.1 :: Tvisorref19_M.own κ br9x0x_21 v_19.2.1 :: rowp Ar9x0l_22 cr9x0l_23 35 3 eC v_19.2.2.1 :: rowp Ar9x0v_24 cr9x0v_25 23 1 (eI .u64) v_19.2.2.2.1 :: rowp A_101 c_102 23 1 (eI .u64) p_103 :: S) → K73 a w := by
      intro p_103 hm A_101 c_102 a w hs
      unfold visorlaw23_BothTells.j2 at hm
      refine hK73 _ _ ?_
      refine Vk.region ?_
      refine qpk 3 [1, 4, 6, 7] hs fun a hs => ?_
      refine ih (p_103, (IntKind.i64.wrap (q_69 + 1))) _ _ ⟨A_101, c_102, hm, hs.go [1, 4, 6, 7] [0, 1, 2, 3, 4, 5, 6] 7 (by kernel_rfl) (by kernel_rfl) (by kernel_rfl)⟩
     refine wp_block ?_
     refine qse 2 [(1, pp b_2), (4, pp b_26), (6, .slice A_66 q_68.length c_67), (7, vi q_69), (69, .bool (decide (q_69 < 2)))] hs fun a hs => ?_
     refine qcs (decide (q_69 < 2)) hs (fun hb => ?_) fun hb => ?_
     ·replace hm := bif_t hm hb
      refine Vk.region ?_
      refine qpu 3 hs fun a hs => ?_
      refine qld 0 (C.slc A_x0l x0.l.length c_x0l) hs rfl fun a hs => ?_
      refine qpu 1 hs fun a hs => ?_
      obtain ⟨h_75, hm⟩ := ite_t hm
      obtain ⟨e_78, h_76, hm⟩ := bind_t hm
      obtain ⟨b_79, o_80, hA_81, h_77⟩ := Sl.elem hx_x0l h_76
      refine qva (.pointer (some ⟨b_79, o_80 + q_69.toNat * 1, none⟩)) (op := (.indexAddr 24 (.tmp 73) (.tmp 74))) hs (fun o ho => run_idxSlc (k := .i64) ho (cap := c_x0l) (len := x0.l.length) ((congrArg (fun A => Value.slice A (x0.l.length) (c_x0l)) hA_81) ▸ (by kernel_rfl)) (by kernel_rfl) (by kernel_rfl) (idx_ok h_75 h_76) _) fun a hs => ?_
      refine qva (vw e_78) (op := (.load 23 (.tmp 75))) hs (fun o ho => run_load1 (c := cw e_78) ho (by kernel_rfl) (by kernel_rfl) (fun w ho => h_77 w ho 0 _ rfl) _ hs.own.drop.drop.drop.drop.drop.drop.drop) fun a hs => ?_
      obtain ⟨h_82, hm⟩ := ite_t hm
      obtain ⟨e_85, h_83, hm⟩ := bind_t hm
      obtain ⟨b_86, o_87, hA_88, h_84⟩ := Sl.elem (Own.rowSl 0 hs.own.drop.drop.drop.drop.drop.drop rfl) h_83
      refine qva (.pointer (some ⟨b_86, o_87 + q_69.toNat * 1, none⟩)) (op := (.indexAddr 24 (.tmp 70) (.tmp 71))) hs (fun o ho => run_idxSlc (k := .i64) ho (cap := c_67) (len := q_68.length) ((congrArg (fun A => Value.slice A (q_68.length) (c_67)) hA_88) ▸ (by kernel_rfl)) (by kernel_rfl) (by kernel_rfl) (idx_ok h_82 h_83) _) fun a hs => ?_
      refine Vk.step (Vk.storeRow (T := 23) (ty := 23) (x := (.tmp 77)) (y := (.tmp 76)) (o := o_87) (m := q_69.toNat) e_78 6 hs (by kernel_rfl) (by kernel_rfl) (by kernel_rfl) hA_88 rfl (by kernel_rfl) (by kernel_rfl) rfl (by kernel_rfl) rfl (lt_of_get h_83) fun a w hs => ?_)
      replace hs : St 261 a w κ [(1, pp b_2), (4, pp b_26), (6, .slice A_66 q_68.length c_67), (7, vi q_69), (69, .bool (decide (q_69 < 2))), (70, .slice A_66 q_68.length c_67), (71, vi q_69), (72, .pointer (some ⟨b_2, 4, none⟩)), (73, .slice A_x0l x0.l.length c_x0l), (74, vi q_69), (75, .pointer (some ⟨b_79, o_80 + q_69.toNat * 1, none⟩)), (76, vw e_78), (77, .pointer (some ⟨b_86, o_87 + q_69.toNat * 1, none⟩))] (pt b_2 (blk (Tvisorlaw23_Asked.obj x0 A_x0l c_x0l A_x0masks c_x0masks) 60) :: pt b_26 (blk [cp br9x0m_20, cp br9x0x_21, C.slc Ar9x0l_22 v_19.2.2.1.length cr9x0l_23, C.slc Ar9x0v_24 v_19.2.2.2.1.length cr9x0v_25] 30) :: Twire_Machine.own br9x0m_20 v_19.1 :: Tvisorref19_M.own κ br9x0x_21 v_19.2.1 :: rowp Ar9x0l_22 cr9x0l_23 35 3 eC v_19.2.2.1 :: rowp Ar9x0v_24 cr9x0v_25 23 1 (eI .u64) v_19.2.2.2.1 :: rowp A_66 c_67 23 1 (eI .u64) (q_68.set q_69.toNat e_78) :: S) := hs.pick [1, 4, 6, 7, 69, 70, 71, 72, 73, 74, 75, 76, 77] (by kernel_rfl)
      replace hs := hs.conv2 (L' := [(1, pp b_2), (4, pp b_26), (6, .slice A_66 ((q_68.set q_69.toNat e_78).length) c_67), (7, vi q_69), (69, .bool (decide (q_69 < 2))), (70, .slice A_66 ((q_68.set q_69.toNat e_78).length) c_67), (71, vi q_69), (72, .pointer (some ⟨b_2, 4, none⟩)), (73, .slice A_x0l x0.l.length c_x0l), (74, vi q_69), (75, .pointer (some ⟨b_79, o_80 + q_69.toNat * 1, none⟩)), (76, vw e_78), (77, .pointer (some ⟨b_86, o_87 + q_69.toNat * 1, none⟩))]) (S' := pt b_2 (blk (Tvisorlaw23_Asked.obj x0 A_x0l c_x0l A_x0masks c_x0masks) 60) :: pt b_26 (blk [cp br9x0m_20, cp br9x0x_21, C.slc Ar9x0l_22 v_19.2.2.1.length cr9x0l_23, C.slc Ar9x0v_24 v_19.2.2.2.1.length cr9x0v_25] 30) :: Twire_Machine.own br9x0m_20 v_19.1 :: Tvisorref19_M.own κ br9x0x_21 v_19.2.1 :: rowp Ar9x0l_22 cr9x0l_23 35 3 eC v_19.2.2.1 :: rowp Ar9x0v_24 cr9x0v_25 23 1 (eI .u64) v_19.2.2.2.1 :: rowp A_66 c_67 23 1 (eI .u64) (q_68.set q_69.toNat e_78) :: S) (by simp only [List.length_set]) (rfl)
      refine qpe 0 [(1, pp b_2), (4, pp b_26), (6, .slice A_66 ((q_68.set q_69.toNat e_78).length) c_67), (7, vi q_69)] hs fun a hs => ?_
      exact hj73 (q_68.set q_69.toNat e_78) hm A_66 c_67 _ _ (hs.go [1, 4, 6, 7] [0, 1, 2, 3, 4, 5, 6] 7 (by kernel_rfl) (by kernel_rfl) (by kernel_rfl))
     ·replace hm := bif_f hm hb
      refine Vk.region ?_
      refine qpu 2 hs fun a hs => ?_
      refine qld 0 (C.slc A_x0l x0.l.length c_x0l) hs rfl fun a hs => ?_
      refine qpu 1 hs fun a hs => ?_
      obtain ⟨h_89, hm⟩ := ite_t hm
      obtain ⟨e_92, h_90, hm⟩ := bind_t hm
      obtain ⟨b_93, o_94, hA_95, h_91⟩ := Sl.elem hx_x0l h_90
      refine qva (.pointer (some ⟨b_93, o_94 + q_69.toNat * 1, none⟩)) (op := (.indexAddr 24 (.tmp 80) (.tmp 81))) hs (fun o ho => run_idxSlc (k := .i64) ho (cap := c_x0l) (len := x0.l.length) ((congrArg (fun A => Value.slice A (x0.l.length) (c_x0l)) hA_95) ▸ (by kernel_rfl)) (by kernel_rfl) (by kernel_rfl) (idx_ok h_89 h_90) _) fun a hs => ?_
      refine qva (vw e_92) (op := (.load 23 (.tmp 82))) hs (fun o ho => run_load1 (c := cw e_92) ho (by kernel_rfl) (by kernel_rfl) (fun w ho => h_91 w ho 0 _ rfl) _ hs.own.drop.drop.drop.drop.drop.drop.drop) fun a hs => ?_
      refine Vk.step (Vk.buildOp (sz := 1) (by_ := 8) (t := 24) (e := 23) (parts := #[(0, (.tmp 83))]) (zs := vals [cw 0]) ([e_92] : List Int) (eI .u64) (some 84) hs (by kernel_rfl) (by kernel_rfl) (by kernel_rfl) (by kernel_rfl) (by decide) rfl (fun x _ => rfl) (Nat.le_of_ble_eq_true (by kernel_rfl)) (by kernel_rfl) fun A_96 w a hs => ?_)
      obtain ⟨h_98, hm⟩ := ite_t hm
      refine Vk.step (Vk.appendOp (x := (.tmp 78)) (y := (.tmp 84)) (e := 23) (t := 24) (by_ := 8) (sz := 1) (enc := (eI .u64)) (A := A_66) (cap := c_67) (xs := q_68) (ys := ([e_92] : List Int)) (B := A_96) (c2 := 1) 7 (some 85) hs (by kernel_rfl) (by kernel_rfl) (by kernel_rfl) (by kernel_rfl) rfl (Sl.lift (fun w ho => (Own.to (S' := rowp A_96 1 23 1 (eI .u64) ([e_92] : List Int) :: S) ho [0] 8 (by kernel_rfl) (by kernel_rfl))) (Own.rowSl 0 (Own.to (S' := rowp A_96 1 23 1 (eI .u64) ([e_92] : List Int) :: S) hs.own [0] 8 (by kernel_rfl) (by kernel_rfl)) rfl)) (by kernel_rfl) (by kernel_rfl) (by decide) (by decide) h_98 fun A_99 c_100 w a hs => ?_)
      refine qpe 1 [(1, pp b_2), (4, pp b_26), (6, .slice A_99 ((q_68 ++ ([e_92] : List Int)).length) c_100), (7, vi q_69)] hs fun a hs => ?_
      exact hj73 (q_68 ++ ([e_92] : List Int)) hm A_99 c_100 _ _ (hs.go [1, 4, 6, 7] [1, 2, 3, 4, 5, 6, 7] 8 (by kernel_rfl) (by kernel_rfl) (by kernel_rfl))
    ·replace hm := bif_f hm hb
     refine wp_exit ?_
     exact hx65 q_68 (Option.some.inj hm).symm A_66 c_67 _ _ (hs.go [1, 4, 6] [0, 1, 2, 3, 4, 5, 6] 7 (by kernel_rfl) (by kernel_rfl) (by kernel_rfl))
  obtain ⟨C_33, hC_33⟩ := qC hs.own
  refine qdr 34 κ C_33 hs fun w hs hqC_33 => ?_
  have hcl := qO hC_33 hs.own
  refine qdp (fuel := 31) [0, 1, 2] hs hcl hqC_33 fun a hs => ?_
  rcases Bool.eq_false_or_eq_true (!v_19.2.2.2.2) with hb | hb
  ·replace hm := bif_t hm hb
   replace hs := hs.known (t := 24) hb (by kernel_rfl)
   refine qdp (fuel := 0) [3, 4, 5, 6, 7, 8, 9, 10, 11, 12, 13, 14, 15, 16, 17, 18, 19, 20, 21, 22, 23, 24, 25, 26, 27, 28, 29, 30, 31, 32, 33] hs hcl hqC_33 fun a hs => ?_
   replace hs := hs.pick [1, 4, 55] (L' := [(1, pp b_2), (4, pp b_26), (55, .bool true)]) (by kernel_rfl)
   refine Vk.dDone (by kernel_rfl) ?_
   exact hj32 true hm _ _ (hs.go [1, 4, 55] [5, 0, 1, 2, 3, 4] 6 (by kernel_rfl) (by kernel_rfl) (by kernel_rfl))
  ·replace hm := bif_f hm hb
   replace hs := hs.known (t := 24) hb (by kernel_rfl)
   refine qdp (fuel := 29) [3, 5] hs hcl hqC_33 fun a hs => ?_
   obtain ⟨v_36, h_35, hm⟩ := bind_t hm
   refine qdc 4 (both_Draws.ok _ _ _ h_35 _ _ (pt b_26 (blk [cp br9x0m_20, cp br9x0x_21, C.slc Ar9x0l_22 v_19.2.2.1.length cr9x0l_23, C.slc Ar9x0v_24 v_19.2.2.2.1.length cr9x0v_25] 30) :: Twire_Machine.own br9x0m_20 v_19.1 :: Tvisorref19_M.own κ br9x0x_21 v_19.2.1 :: rowp Ar9x0l_22 cr9x0l_23 35 3 eC v_19.2.2.1 :: rowp Ar9x0v_24 cr9x0v_25 23 1 (eI .u64) v_19.2.2.2.1 :: pt b_2 (blk (Tvisorlaw23_Asked.obj x0 A_x0l c_x0l A_x0masks c_x0masks) 60) :: S) hs.own) hs fun w a hs => ?_
   replace hcl := qO hC_33 hs.own
   refine ⟨fun _ => hcl, ?_⟩
   obtain ⟨v_39, h_38, hm⟩ := bind_t hm
   refine qdc 6 (visorref23_Draws.ok _ _ _ h_38 _ _ (pt b_26 (blk [cp br9x0m_20, cp br9x0x_21, C.slc Ar9x0l_22 v_19.2.2.1.length cr9x0l_23, C.slc Ar9x0v_24 v_19.2.2.2.1.length cr9x0v_25] 30) :: Twire_Machine.own br9x0m_20 v_19.1 :: Tvisorref19_M.own κ br9x0x_21 v_19.2.1 :: rowp Ar9x0l_22 cr9x0l_23 35 3 eC v_19.2.2.1 :: rowp Ar9x0v_24 cr9x0v_25 23 1 (eI .u64) v_19.2.2.2.1 :: pt b_2 (blk (Tvisorlaw23_Asked.obj x0 A_x0l c_x0l A_x0masks c_x0masks) 60) :: S) hs.own) hs fun w a hs => ?_
   replace hcl := qO hC_33 hs.own
   refine ⟨fun _ => hcl, ?_⟩
   refine qdp (fuel := 24) [7, 8, 9] hs hcl hqC_33 fun a hs => ?_
   rcases Bool.eq_false_or_eq_true (v_36 != v_39) with hb | hb
   ·replace hm := bif_t hm hb
    replace hs := hs.known (t := 31) hb (by kernel_rfl)
    refine qdp (fuel := 0) [10, 11, 12, 13, 14, 15, 16, 17, 18, 19, 20, 21, 22, 23, 24, 25, 26, 27, 28, 29, 30, 31, 32, 33] hs hcl hqC_33 fun a hs => ?_
    replace hs := hs.pick [1, 4, 55] (L' := [(1, pp b_2), (4, pp b_26), (55, .bool true)]) (by kernel_rfl)
    refine Vk.dDone (by kernel_rfl) ?_
    exact hj32 true hm _ _ (hs.go [1, 4, 55] [5, 0, 1, 2, 3, 4] 6 (by kernel_rfl) (by kernel_rfl) (by kernel_rfl))
   ·replace hm := bif_f hm hb
    replace hs := hs.known (t := 31) hb (by kernel_rfl)
    refine qdp (fuel := 22) [10, 12] hs hcl hqC_33 fun a hs => ?_
    obtain ⟨v_42, h_41, hm⟩ := bind_t hm
    refine qdc 11 (both_Ops.ok _ _ _ h_41 _ _ (pt b_26 (blk [cp br9x0m_20, cp br9x0x_21, C.slc Ar9x0l_22 v_19.2.2.1.length cr9x0l_23, C.slc Ar9x0v_24 v_19.2.2.2.1.length cr9x0v_25] 30) :: Twire_Machine.own br9x0m_20 v_19.1 :: Tvisorref19_M.own κ br9x0x_21 v_19.2.1 :: rowp Ar9x0l_22 cr9x0l_23 35 3 eC v_19.2.2.1 :: rowp Ar9x0v_24 cr9x0v_25 23 1 (eI .u64) v_19.2.2.2.1 :: pt b_2 (blk (Tvisorlaw23_Asked.obj x0 A_x0l c_x0l A_x0masks c_x0masks) 60) :: S) hs.own) hs fun w a hs => ?_
    replace hcl := qO hC_33 hs.own
    refine ⟨fun _ => hcl, ?_⟩
    obtain ⟨v_45, h_44, hm⟩ := bind_t hm
    refine qdc 13 (visorref23_Ops.ok _ _ _ h_44 _ _ (pt b_26 (blk [cp br9x0m_20, cp br9x0x_21, C.slc Ar9x0l_22 v_19.2.2.1.length cr9x0l_23, C.slc Ar9x0v_24 v_19.2.2.2.1.length cr9x0v_25] 30) :: Twire_Machine.own br9x0m_20 v_19.1 :: Tvisorref19_M.own κ br9x0x_21 v_19.2.1 :: rowp Ar9x0l_22 cr9x0l_23 35 3 eC v_19.2.2.1 :: rowp Ar9x0v_24 cr9x0v_25 23 1 (eI .u64) v_19.2.2.2.1 :: pt b_2 (blk (Tvisorlaw23_Asked.obj x0 A_x0l c_x0l A_x0masks c_x0masks) 60) :: S) hs.own) hs fun w a hs => ?_
    replace hcl := qO hC_33 hs.own
    refine ⟨fun _ => hcl, ?_⟩
    refine qdp (fuel := 17) [14, 15, 16] hs hcl hqC_33 fun a hs => ?_
    rcases Bool.eq_false_or_eq_true (v_42 != v_45) with hb | hb
    ·replace hm := bif_t hm hb
     replace hs := hs.known (t := 38) hb (by kernel_rfl)
     refine qdp (fuel := 0) [17, 18, 19, 20, 21, 22, 23, 24, 25, 26, 27, 28, 29, 30, 31, 32, 33] hs hcl hqC_33 fun a hs => ?_
     replace hs := hs.pick [1, 4, 55] (L' := [(1, pp b_2), (4, pp b_26), (55, .bool true)]) (by kernel_rfl)
     refine Vk.dDone (by kernel_rfl) ?_
     exact hj32 true hm _ _ (hs.go [1, 4, 55] [5, 0, 1, 2, 3, 4] 6 (by kernel_rfl) (by kernel_rfl) (by kernel_rfl))
    ·replace hm := bif_f hm hb
     replace hs := hs.known (t := 38) hb (by kernel_rfl)
     refine qdp (fuel := 15) [17, 20] hs hcl hqC_33 fun a hs => ?_
     refine qdl 18 5 (ci x0.width) hs hcl hqC_33 hC_33 rfl fun a hs => ?_
     refine qdl 21 5 (ci x0.width) hs hcl hqC_33 hC_33 rfl fun a hs => ?_
     obtain ⟨v_48, h_47, hm⟩ := bind_t hm
     refine qdc 19 (both_Draws.ok _ _ _ h_47 _ _ (pt b_26 (blk [cp br9x0m_20, cp br9x0x_21, C.slc Ar9x0l_22 v_19.2.2.1.length cr9x0l_23, C.slc Ar9x0v_24 v_19.2.2.2.1.length cr9x0v_25] 30) :: Twire_Machine.own br9x0m_20 v_19.1 :: Tvisorref19_M.own κ br9x0x_21 v_19.2.1 :: rowp Ar9x0l_22 cr9x0l_23 35 3 eC v_19.2.2.1 :: rowp Ar9x0v_24 cr9x0v_25 23 1 (eI .u64) v_19.2.2.2.1 :: pt b_2 (blk (Tvisorlaw23_Asked.obj x0 A_x0l c_x0l A_x0masks c_x0masks) 60) :: S) hs.own) hs fun w a hs => ?_
     replace hcl := qO hC_33 hs.own
     refine ⟨fun _ => hcl, ?_⟩
     obtain ⟨v_51, h_50, hm⟩ := bind_t hm
     refine qdc 22 (visorref23_Draws.ok _ _ _ h_50 _ _ (pt b_26 (blk [cp br9x0m_20, cp br9x0x_21, C.slc Ar9x0l_22 v_19.2.2.1.length cr9x0l_23, C.slc Ar9x0v_24 v_19.2.2.2.1.length cr9x0v_25] 30) :: Twire_Machine.own br9x0m_20 v_19.1 :: Tvisorref19_M.own κ br9x0x_21 v_19.2.1 :: rowp Ar9x0l_22 cr9x0l_23 35 3 eC v_19.2.2.1 :: rowp Ar9x0v_24 cr9x0v_25 23 1 (eI .u64) v_19.2.2.2.1 :: pt b_2 (blk (Tvisorlaw23_Asked.obj x0 A_x0l c_x0l A_x0masks c_x0masks) 60) :: S) hs.own) hs fun w a hs => ?_
     replace hcl := qO hC_33 hs.own
     refine ⟨fun _ => hcl, ?_⟩
     refine qdp (fuel := 8) [23, 24, 25] hs hcl hqC_33 fun a hs => ?_
     rcases Bool.eq_false_or_eq_true (v_48 != v_51) with hb | hb
     ·replace hm := bif_t hm hb
      replace hs := hs.known (t := 47) hb (by kernel_rfl)
      refine qdp (fuel := 0) [26, 27, 28, 29, 30, 31, 32, 33] hs hcl hqC_33 fun a hs => ?_
      replace hs := hs.pick [1, 4, 55] (L' := [(1, pp b_2), (4, pp b_26), (55, .bool true)]) (by kernel_rfl)
      refine Vk.dDone (by kernel_rfl) ?_
      exact hj32 true hm _ _ (hs.go [1, 4, 55] [5, 0, 1, 2, 3, 4] 6 (by kernel_rfl) (by kernel_rfl) (by kernel_rfl))
     ·replace hm := bif_f hm hb
      replace hs := hs.known (t := 47) hb (by kernel_rfl)
      refine qdp (fuel := 6) [26, 29] hs hcl hqC_33 fun a hs => ?_
      refine qdl 27 5 (ci x0.width) hs hcl hqC_33 hC_33 rfl fun a hs => ?_
      refine qdl 30 5 (ci x0.width) hs hcl hqC_33 hC_33 rfl fun a hs => ?_
      obtain ⟨v_54, h_53, hm⟩ := bind_t hm
      refine qdc 28 (both_Ops.ok _ _ _ h_53 _ _ (pt b_26 (blk [cp br9x0m_20, cp br9x0x_21, C.slc Ar9x0l_22 v_19.2.2.1.length cr9x0l_23, C.slc Ar9x0v_24 v_19.2.2.2.1.length cr9x0v_25] 30) :: Twire_Machine.own br9x0m_20 v_19.1 :: Tvisorref19_M.own κ br9x0x_21 v_19.2.1 :: rowp Ar9x0l_22 cr9x0l_23 35 3 eC v_19.2.2.1 :: rowp Ar9x0v_24 cr9x0v_25 23 1 (eI .u64) v_19.2.2.2.1 :: pt b_2 (blk (Tvisorlaw23_Asked.obj x0 A_x0l c_x0l A_x0masks c_x0masks) 60) :: S) hs.own) hs fun w a hs => ?_
      replace hcl := qO hC_33 hs.own
      refine ⟨fun _ => hcl, ?_⟩
      obtain ⟨v_57, h_56, hm⟩ := bind_t hm
      refine qdc 31 (visorref23_Ops.ok _ _ _ h_56 _ _ (pt b_26 (blk [cp br9x0m_20, cp br9x0x_21, C.slc Ar9x0l_22 v_19.2.2.1.length cr9x0l_23, C.slc Ar9x0v_24 v_19.2.2.2.1.length cr9x0v_25] 30) :: Twire_Machine.own br9x0m_20 v_19.1 :: Tvisorref19_M.own κ br9x0x_21 v_19.2.1 :: rowp Ar9x0l_22 cr9x0l_23 35 3 eC v_19.2.2.1 :: rowp Ar9x0v_24 cr9x0v_25 23 1 (eI .u64) v_19.2.2.2.1 :: pt b_2 (blk (Tvisorlaw23_Asked.obj x0 A_x0l c_x0l A_x0masks c_x0masks) 60) :: S) hs.own) hs fun w a hs => ?_
      replace hcl := qO hC_33 hs.own
      refine ⟨fun _ => hcl, ?_⟩
      refine qdp (fuel := 0) [32, 33] hs hcl hqC_33 fun a hs => ?_
      replace hs := hs.pick [1, 4, 55] (L' := [(1, pp b_2), (4, pp b_26), (55, .bool (v_54 != v_57))]) (by kernel_rfl)
      refine Vk.dDone (by kernel_rfl) ?_
      exact hj32 (v_54 != v_57) hm _ _ (hs.go [1, 4, 55] [5, 0, 1, 2, 3, 4] 6 (by kernel_rfl) (by kernel_rfl) (by kernel_rfl))

end Go.Proofs.YtflgefjocjpjaaaGreat
