/- Of each Go function that BothTells comes to: a model in plain Lean, and that the program's call does what the model says; no condition. -/
import Derived.Test.YtflgefjocjpjaaaGreatProg
import Derived.Test.YtflgefjocjpjaaaGreatValmicggm
import Derived.Test.YtflgefjocjpjaaaGreatMBothTells2
namespace Go.Proofs.YtflgefjocjpjaaaGreat
open Go Go.Vk
set_option linter.unusedVariables false


def visorref22_By.j2 (k : Nat) (rec149 : Tvisorref19_M → Cells → Int → Option (Tvisorref19_M × Cells)) (q_152 : Int) (p_225 : Tvisorref19_M) (p_226 : Cells) : Option (Tvisorref19_M × Cells) := rec149 p_225 p_226 (IntKind.i64.wrap (q_152 + 1))
def visorref22_By.j1 (k : Nat) (rec149 : Tvisorref19_M → Cells → Int → Option (Tvisorref19_M × Cells)) (q_132 : Int) (q_151 : Cells) (q_152 : Int) (p_212 : Tvisorref19_M) (p_213 : Int) : Option (Tvisorref19_M × Cells) := (if 0 ≤ q_132 ∧ q_132 < 3 then (getI .i64 q_151 (0 + q_132.toNat * 1)).bind fun v_216 => (visorref19_Op.m k 5 q_132 v_216 p_213 0).bind fun v_219 => (visorref19_M_Do.m k p_212 v_219 0).bind fun v_222 => (if 0 ≤ q_132 ∧ q_132 < 3 then (if 0 + q_132.toNat * 1 < q_151.length then visorref22_By.j2 k (rec149) q_152 v_222.2 (q_151.set (0 + q_132.toNat * 1) (ci v_222.1)) else none) else none) else none)
def visorref22_By.l6 (x1 : Int) (p_70 : Cells) (p_123 : Cells) (q_132 : Int) : Nat → Tvisorref19_M → Cells → Int → Option (Tvisorref19_M × Cells)
 | 0, _, _, _ => none
 | k + 1, q_150, q_151, q_152 => (bif decide (q_152 < q_150.n) then (bif q_152 == q_132 then visorref22_By.j2 k (visorref22_By.l6 x1 p_70 p_123 q_132 k) q_152 q_150 q_151 else (if 0 ≤ q_132 ∧ q_132 < 3 then (if 0 ≤ q_152 ∧ q_152 < 3 then (getI .i64 p_70 (0 + q_132.toNat * 3 + q_152.toNat * 1)).bind fun v_167 => (bif x1 == 2 then (if 0 ≤ q_132 ∧ q_132 < 3 then (if 0 ≤ q_152 ∧ q_152 < 3 then (getI .i64 p_123 (0 + q_132.toNat * 3 + q_152.toNat * 1)).bind fun v_174 => (if 0 ≤ q_132 ∧ q_132 < 3 then (if 0 ≤ q_152 ∧ q_152 < 3 then (getI .i64 p_70 (0 + q_132.toNat * 3 + q_152.toNat * 1)).bind fun v_178 => (visorref19_Op.m k 5 q_132 v_174 v_178 0).bind fun v_181 => (visorref19_M_Do.m k q_150 v_181 0).bind fun v_184 => visorref22_By.j1 k (visorref22_By.l6 x1 p_70 p_123 q_132 k) q_132 q_151 q_152 v_184.2 v_184.1 else none) else none) else none) else none) else (bif decide (q_152 < q_132) then (if 0 ≤ q_152 ∧ q_152 < 3 then (if 0 ≤ q_132 ∧ q_132 < 3 then (getI .i64 p_70 (0 + q_152.toNat * 3 + q_132.toNat * 1)).bind fun v_191 => (if 0 ≤ q_152 ∧ q_152 < 3 then (if 0 ≤ q_132 ∧ q_132 < 3 then (getI .i64 p_123 (0 + q_152.toNat * 3 + q_132.toNat * 1)).bind fun v_195 => (visorref19_Op.m k 5 q_132 v_191 v_195 0).bind fun v_198 => (visorref19_M_Do.m k q_150 v_198 0).bind fun v_201 => (if 0 ≤ q_132 ∧ q_132 < 3 then (if 0 ≤ q_152 ∧ q_152 < 3 then (getI .i64 p_123 (0 + q_132.toNat * 3 + q_152.toNat * 1)).bind fun v_205 => (visorref19_Op.m k 5 q_132 v_201.1 v_205 0).bind fun v_208 => (visorref19_M_Do.m k v_201.2 v_208 0).bind fun v_211 => visorref22_By.j1 k (visorref22_By.l6 x1 p_70 p_123 q_132 k) q_132 q_151 q_152 v_211.2 v_211.1 else none) else none) else none) else none) else none) else none) else visorref22_By.j1 k (visorref22_By.l6 x1 p_70 p_123 q_132 k) q_132 q_151 q_152 q_150 v_167)) else none) else none)) else some (q_150, q_151))
def visorref22_By.l5 (x1 : Int) (p_70 : Cells) (p_123 : Cells) : Nat → Tvisorref19_M → Cells → Int → Option (Tvisorref19_M × Cells)
 | 0, _, _, _ => none
 | k + 1, q_130, q_131, q_132 => (bif decide (q_132 < q_130.n) then (if 0 ≤ q_132 ∧ q_132 < 3 then (if 0 ≤ q_132 ∧ q_132 < 3 then (getI .i64 p_123 (0 + q_132.toNat * 3 + q_132.toNat * 1)).bind fun v_145 => (if 0 ≤ q_132 ∧ q_132 < 3 then (if 0 + q_132.toNat * 1 < q_131.length then (visorref22_By.l6 x1 p_70 p_123 q_132 k q_130 (q_131.set (0 + q_132.toNat * 1) (ci v_145)) 0).bind fun x => match x with | (p_227, p_228) => visorref22_By.l5 x1 p_70 p_123 k p_227 p_228 (IntKind.i64.wrap (q_132 + 1)) else none) else none) else none) else none) else some (q_130, q_131))
def visorref22_By.l4 (x2 : Cells) (x3 : Cells) (q_79 : Int) : Nat → Tvisorref19_M → Cells → Int → Option (Tvisorref19_M × Cells)
 | 0, _, _, _ => none
 | k + 1, q_90, q_91, q_92 => (bif decide (q_92 < q_90.n) then (if 0 ≤ q_79 ∧ q_79 < 3 then (getI .i64 x2 (0 + q_79.toNat * 1)).bind fun v_104 => (if 0 ≤ q_92 ∧ q_92 < 3 then (getI .i64 x3 (0 + q_92.toNat * 1)).bind fun v_107 => (if 0 ≤ q_79 ∧ q_79 < 3 then (visorref19_Op.m k 7 q_79 v_104 v_107 0).bind fun v_111 => (visorref19_M_Do.m k q_90 v_111 0).bind fun v_114 => (if 0 ≤ q_92 ∧ q_92 < 3 then (if 0 + q_79.toNat * 3 + q_92.toNat * 1 < q_91.length then visorref22_By.l4 x2 x3 q_79 k v_114.2 (q_91.set (0 + q_79.toNat * 3 + q_92.toNat * 1) (ci v_114.1)) (IntKind.i64.wrap (q_92 + 1)) else none) else none) else none) else none) else none) else some (q_90, q_91))
def visorref22_By.l3 (x2 : Cells) (x3 : Cells) : Nat → Tvisorref19_M → Cells → Int → Option (Tvisorref19_M × Cells)
 | 0, _, _, _ => none
 | k + 1, q_77, q_78, q_79 => (bif decide (q_79 < q_77.n) then (visorref22_By.l4 x2 x3 q_79 k q_77 q_78 0).bind fun x => match x with | (p_117, p_118) => visorref22_By.l3 x2 x3 k p_117 p_118 (IntKind.i64.wrap (q_79 + 1)) else some (q_77, q_78))
def visorref22_By.l2 (q_23 : Int) : Nat → Tvisorref19_M → Cells → Int → Option (Tvisorref19_M × Cells)
 | 0, _, _, _ => none
 | k + 1, q_34, q_35, q_36 => (bif decide (q_36 < q_34.n) then (if 0 ≤ q_23 ∧ q_23 < 3 then (visorref19_Op.m k 1 (-1) (-1) (-1) 0).bind fun v_50 => (visorref19_M_Do.m k q_34 v_50 0).bind fun v_53 => (if 0 ≤ q_36 ∧ q_36 < 3 then (if 0 + q_23.toNat * 3 + q_36.toNat * 1 < q_35.length then (if 0 ≤ q_23 ∧ q_23 < 3 then (if 0 ≤ q_36 ∧ q_36 < 3 then (getI .i64 (q_35.set (0 + q_23.toNat * 3 + q_36.toNat * 1) (ci v_53.1)) (0 + q_23.toNat * 3 + q_36.toNat * 1)).bind fun v_60 => (if 0 ≤ q_36 ∧ q_36 < 3 then (if 0 ≤ q_23 ∧ q_23 < 3 then (if 0 + q_36.toNat * 3 + q_23.toNat * 1 < (q_35.set (0 + q_23.toNat * 3 + q_36.toNat * 1) (ci v_53.1)).length then visorref22_By.l2 q_23 k v_53.2 ((q_35.set (0 + q_23.toNat * 3 + q_36.toNat * 1) (ci v_53.1)).set (0 + q_36.toNat * 3 + q_23.toNat * 1) (ci v_60)) (IntKind.i64.wrap (q_36 + 1)) else none) else none) else none) else none) else none) else none) else none) else none) else some (q_34, q_35))
def visorref22_By.l1 : Nat → Tvisorref19_M → Cells → Int → Option (Tvisorref19_M × Cells)
 | 0, _, _, _ => none
 | k + 1, q_21, q_22, q_23 => (bif decide (q_23 < q_21.n) then (visorref22_By.l2 q_23 k q_21 q_22 (IntKind.i64.wrap (q_23 + 1))).bind fun x => match x with | (p_64, p_65) => visorref22_By.l1 k p_64 p_65 (IntKind.i64.wrap (q_23 + 1)) else some (q_21, q_22))
abbrev visorref22_By.R (κ : Ctx) (S : List HP) (x0 : Tvisorref19_M) (x1 : Int) (x2 : Cells) (x3 : Cells) (b_x0 : Nat) (r : (Cells × Tvisorref19_M)) : Ending → World → Prop := fun e w' => e = .returned (.agg (vals r.1)) ∧ Own κ w' (Tvisorref19_M.own κ b_x0 r.2 :: S)
def visorref22_By.m (k : Nat) (x0 : Tvisorref19_M) (x1 : Int) (x2 : Cells) (x3 : Cells) : Option (Cells × Tvisorref19_M) := (visorref20_None.m k).bind fun v_8 => (if v_8.length = 3 then (visorref19_M_Begin.m k x0 3).bind fun v_17 => (visorref22_By.l1 k v_17 [ci 0, ci 0, ci 0, ci 0, ci 0, ci 0, ci 0, ci 0, ci 0] 0).bind fun x => match x with | (p_69, p_70) => (visorref22_By.l3 x2 x3 k p_69 [ci 0, ci 0, ci 0, ci 0, ci 0, ci 0, ci 0, ci 0, ci 0] 0).bind fun x => match x with | (p_122, p_123) => (visorref22_By.l5 x1 p_70 p_123 k p_122 v_8 0).bind fun x => match x with | (p_232, p_233) => (visorref19_M_End.m k p_232).bind fun v_240 => (if p_233.length = 3 then some (p_233, v_240) else none) else none)

set_option maxRecDepth 100000 in
set_option maxHeartbeats 4000000 in
theorem visorref22_By.ok (k : Nat) (x0 : Tvisorref19_M) (x1 : Int) (x2 : Cells) (x3 : Cells) (r : (Cells × Tvisorref19_M)) (hm : visorref22_By.m k x0 x1 x2 x3 = some r) (κ : Ctx) (w : World) (S : List HP) (b_x0 : Nat) (ho : Own κ w (Tvisorref19_M.own κ b_x0 x0 :: S)) :
  Calls Tryz.prog 86 #[pp b_x0, vi x1, .agg (vals x2), .agg (vals x3)] w (visorref22_By.R κ S x0 x1 x2 x3 b_x0 r) := by
 unfold visorref22_By.m at hm
 generalize hRR : visorref22_By.R κ S x0 x1 x2 x3 b_x0 r = RR
 refine qen [(0, pp b_x0), (1, vi x1), (2, .agg (vals x2)), (3, .agg (vals x3))] Tryz.func86 Tryz.ntmps86 ho fun a hs => ?_
 refine qsr fun K1 hK1 => ?_
 refine qbx 2 35 x2 6 hs fun b_2 w a hs => ?_
 refine qbx 3 35 x3 7 hs fun b_3 w a hs => ?_
 refine qal 35 [ci 0, ci 0, ci 0] 8 hs fun b_4 w a hs => ?_
 refine qpk 0 [0, 1, 6, 7, 8] hs fun a hs => hK1 _ _ ?_
 clear hK1
 refine qsr fun K5 hK5 => ?_
 obtain ⟨v_8, h_7, hm⟩ := bind_t hm
 refine qcl (visorref20_None.ok _ _ h_7 _ _ (pt b_4 (blk [ci 0, ci 0, ci 0] 35) :: pt b_3 (blk x3 35) :: pt b_2 (blk x2 35) :: Tvisorref19_M.own κ b_x0 x0 :: S) hs.own) hs fun w a hs => ?_
 refine qal 35 [ci 0, ci 0, ci 0] 9 hs fun b_9 w a hs => ?_
 obtain ⟨h_10, hm⟩ := ite_t hm
 refine qsb 0 v_8 hs rfl h_10 rfl fun a w hs => ?_
 refine qpk 0 [0, 1, 6, 7, 8, 9] hs fun a hs => hK5 _ _ ?_
 clear hK5
 refine qsr fun K11 hK11 => ?_
 refine qpu 2 hs fun a hs => ?_
 refine qal 131 [ci 0, ci 0, ci 0, ci 0, ci 0, ci 0, ci 0, ci 0, ci 0] 10 hs fun b_12 w a hs => ?_
 refine qal 131 [ci 0, ci 0, ci 0, ci 0, ci 0, ci 0, ci 0, ci 0, ci 0] 11 hs fun b_13 w a hs => ?_
 refine qsa 1 [ci 0, ci 0, ci 0, ci 0, ci 0, ci 0, ci 0, ci 0, ci 0] hs rfl fun a w hs => ?_
 refine qsa 0 [ci 0, ci 0, ci 0, ci 0, ci 0, ci 0, ci 0, ci 0, ci 0] hs rfl fun a w hs => ?_
 refine qpk 0 [0, 1, 6, 7, 8, 9, 10, 11] hs fun a hs => hK11 _ _ ?_
 clear hK11
 refine qsr fun K14 hK14 => ?_
 refine qpu 1 hs fun a hs => ?_
 obtain ⟨v_17, h_16, hm⟩ := bind_t hm
 refine qcl (visorref19_M_Begin.ok _ _ _ _ h_16 _ _ _ b_x0 hs.own.f6) hs fun w a hs => ?_
 refine qpk 0 [0, 1, 6, 7, 8, 9, 10, 11] hs fun a hs => hK14 _ _ ?_
 clear hK14
 refine Vk.seq fun K18 hK18 => ?_
 refine qsk 1 [0, 1, 6, 7, 8, 9, 10, 11, 12] hs fun a hs => ?_
 refine wp_block ?_
 obtain ⟨r20, hl20, hm⟩ := bind_t hm
 have hx20 : ∀ (p_69 : Tvisorref19_M) (p_70 : Cells), r20 = (p_69, p_70) → ∀ (a : Act) (w : World), St 180 a w κ [(0, pp b_x0), (1, vi x1), (6, pp b_2), (7, pp b_3), (8, pp b_4), (9, pp b_9), (10, pp b_12), (11, pp b_13)] (Tvisorref19_M.own κ b_x0 p_69 :: pt b_2 (blk x2 35) :: pt b_3 (blk x3 35) :: pt b_4 (blk [ci 0, ci 0, ci 0] 35) :: pt b_9 (blk v_8 35) :: pt b_12 (blk p_70 131) :: pt b_13 (blk [ci 0, ci 0, ci 0, ci 0, ci 0, ci 0, ci 0, ci 0, ci 0] 131) :: S) → K18 a w := by
  intro p_69 p_70 he a w hs
  subst r20
  refine hK18 _ _ ?_
  clear hK18
  refine Vk.seq fun K74 hK74 => ?_
  refine qse 1 [(0, pp b_x0), (1, vi x1), (6, pp b_2), (7, pp b_3), (8, pp b_4), (9, pp b_9), (10, pp b_12), (11, pp b_13), (14, vi 0)] hs fun a hs => ?_
  refine wp_block ?_
  obtain ⟨r76, hl76, hm⟩ := bind_t hm
  have hx76 : ∀ (p_122 : Tvisorref19_M) (p_123 : Cells), r76 = (p_122, p_123) → ∀ (a : Act) (w : World), St 180 a w κ [(0, pp b_x0), (1, vi x1), (8, pp b_4), (9, pp b_9), (10, pp b_12), (11, pp b_13)] (Tvisorref19_M.own κ b_x0 p_122 :: pt b_4 (blk [ci 0, ci 0, ci 0] 35) :: pt b_9 (blk v_8 35) :: pt b_12 (blk p_70 131) :: pt b_13 (blk p_123 131) :: S) → K74 a w := by
   intro p_122 p_123 he a w hs
   subst r76
   refine hK74 _ _ ?_
   clear hK74
   refine Vk.seq fun K127 hK127 => ?_
   refine qsk 1 [0, 1, 8, 9, 10, 11, 16] hs fun a hs => ?_
   refine wp_block ?_
   obtain ⟨r129, hl129, hm⟩ := bind_t hm
   have hx129 : ∀ (p_232 : Tvisorref19_M) (p_233 : Cells), r129 = (p_232, p_233) → ∀ (a : Act) (w : World), St 180 a w κ [(0, pp b_x0), (8, pp b_4), (9, pp b_9)] (Tvisorref19_M.own κ b_x0 p_232 :: pt b_4 (blk [ci 0, ci 0, ci 0] 35) :: pt b_9 (blk p_233 35) :: S) → K127 a w := by
    intro p_232 p_233 he a w hs
    subst r129
    refine hK127 _ _ ?_
    clear hK127
    refine qsr fun K237 hK237 => ?_
    refine qpu 1 hs fun a hs => ?_
    obtain ⟨v_240, h_239, hm⟩ := bind_t hm
    refine qcl (visorref19_M_End.ok _ _ _ h_239 _ _ _ b_x0 hs.own) hs fun w a hs => ?_
    refine qpe 0 [(8, pp b_4), (9, pp b_9)] hs fun a hs => hK237 _ _ ?_
    clear hK237
    refine qsr fun K241 hK241 => ?_
    obtain ⟨h_242, hm⟩ := ite_t hm
    refine qlw 2 hs rfl h_242 fun a hs => ?_
    refine qsb 1 p_233 hs rfl h_242 rfl fun a w hs => ?_
    refine qpe 0 [(8, pp b_4)] hs fun a hs => hK241 _ _ ?_
    clear hK241
    refine wp_ret ?_
    exact Vk.retC p_233 hs rfl (by kernel_rfl) (sz := 3) (by kernel_rfl) h_242 (CellsAt.all 1 rfl) (hRR ▸ by cases hm; exact ⟨rfl, hs.own.f2.drop.f1.drop⟩)
   refine Vk.loopBy (fun k (s : Tvisorref19_M × Cells × Int) a w => visorref22_By.l5 x1 p_70 p_123 k s.1 s.2.1 s.2.2 = some r129 ∧ St 180 a w κ [(0, pp b_x0), (1, vi x1), (8, pp b_4), (9, pp b_9), (10, pp b_12), (11, pp b_13), (16, vi s.2.2)] (Tvisorref19_M.own κ b_x0 s.1 :: pt b_4 (blk [ci 0, ci 0, ci 0] 35) :: pt b_9 (blk s.2.1 35) :: pt b_12 (blk p_70 131) :: pt b_13 (blk p_123 131) :: S)) k (p_122, v_8, 0) ⟨hl129, hs.go [0, 1, 8, 9, 10, 11, 16] [0, 1, 2, 3, 4] 5 (by kernel_rfl) (by kernel_rfl) (by kernel_rfl)⟩ (fun s a w h => by obtain ⟨h1, _⟩ := h; simp [visorref22_By.l5] at h1) (fun k KL129 ih s a w h => ?_)
   obtain ⟨q_130, q_131, q_132⟩ := s
   obtain ⟨hm, hs⟩ := h
   try dsimp only at hm hs
   rw [visorref22_By.l5] at hm
   refine Vk.seq fun K133 hK133 => ?_
   refine qsr fun K134 hK134 => ?_
   refine qpu 4 hs fun a hs => ?_
   obtain ⟨g_135, hs⟩ := hs.unbag 0 rfl
   refine qld 0 (ci q_130.n) hs rfl fun a hs => ?_
   refine qpk 1 [0, 1, 8, 9, 10, 11, 16, 95] hs fun a hs => hK134 _ _ ?_
   clear hK134
   refine qcs (decide (q_132 < q_130.n)) hs (fun hb => ?_) fun hb => ?_
   ·replace hm := bif_t hm hb
    refine wp_skip ?_
    refine hK133 _ _ ?_
    clear hK133
    refine Vk.seq fun K140 hK140 => ?_
    refine wp_block ?_
    refine qsr fun K141 hK141 => ?_
    refine qpu 3 hs fun a hs => ?_
    obtain ⟨h_142, hm⟩ := ite_t hm
    refine qix b_13 0 3 hs h_142 fun a hs => ?_
    obtain ⟨h_143, hm⟩ := ite_t hm
    refine qix b_13 (0 + q_132.toNat * 3) 1 hs h_143 fun a hs => ?_
    obtain ⟨v_145, h_144, hm⟩ := bind_t hm
    refine qli 8 hs rfl h_144 fun a hs => ?_
    refine qpu 1 hs fun a hs => ?_
    obtain ⟨h_146, hm⟩ := ite_t hm
    refine qix b_9 0 1 hs h_146 fun a hs => ?_
    obtain ⟨h_147, hm⟩ := ite_t hm
    refine Vk.step (Vk.store1 (b := b_9) (ty := 3) (x := (.tmp 105)) (y := (.tmp 103)) (off := 0 + q_132.toNat * 1) (ci v_145) 6 hs (by kernel_rfl) (by kernel_rfl) (by kernel_rfl) (by kernel_rfl) (by kernel_rfl) (by kernel_rfl) rfl h_147 fun a w hs => ?_)
    refine qpk 0 [0, 1, 8, 9, 10, 11, 16] hs fun a hs => hK141 _ _ ?_
    clear hK141
    refine qsk 1 [0, 1, 8, 9, 10, 11, 16, 17] hs fun a hs => ?_
    refine wp_block ?_
    replace hs := hs.bagG (l := Tvisorref19_M.parts κ b_x0 q_130 g_135) (S' := pt b_4 (blk [ci 0, ci 0, ci 0] 35) :: pt b_9 (blk (q_131.set (0 + q_132.toNat * 1) (ci v_145)) 35) :: pt b_12 (blk p_70 131) :: pt b_13 (blk p_123 131) :: S) hs.own
    replace hs := hs.toEx (Tvisorref19_M.parts κ b_x0 q_130) g_135 0 rfl
    obtain ⟨r149, hl149, hm⟩ := bind_t hm
    have hx149 : ∀ (p_227 : Tvisorref19_M) (p_228 : Cells), r149 = (p_227, p_228) → ∀ (a : Act) (w : World), St 180 a w κ [(0, pp b_x0), (1, vi x1), (8, pp b_4), (9, pp b_9), (10, pp b_12), (11, pp b_13), (16, vi q_132)] (Tvisorref19_M.own κ b_x0 p_227 :: pt b_4 (blk [ci 0, ci 0, ci 0] 35) :: pt b_9 (blk p_228 35) :: pt b_12 (blk p_70 131) :: pt b_13 (blk p_123 131) :: S) → K140 a w := by
     intro p_227 p_228 he a w hs
     subst r149
     refine hK140 _ _ ?_
     clear hK140
     refine Vk.region ?_
     refine qpe 3 [(0, pp b_x0), (1, vi x1), (8, pp b_4), (9, pp b_9), (10, pp b_12), (11, pp b_13), (16, vi (IntKind.i64.wrap (q_132 + 1)))] hs fun a hs => ?_
     refine ih (p_227, p_228, (IntKind.i64.wrap (q_132 + 1))) _ _ ⟨hm, hs.go [0, 1, 8, 9, 10, 11, 16] [0, 1, 2, 3, 4] 5 (by kernel_rfl) (by kernel_rfl) (by kernel_rfl)⟩
    refine Vk.loopBy (fun k (s : Tvisorref19_M × Cells × Int) a w => visorref22_By.l6 x1 p_70 p_123 q_132 k s.1 s.2.1 s.2.2 = some r149 ∧ St 180 a w κ [(0, pp b_x0), (1, vi x1), (8, pp b_4), (9, pp b_9), (10, pp b_12), (11, pp b_13), (16, vi q_132), (17, vi s.2.2)] (Tvisorref19_M.own κ b_x0 s.1 :: pt b_4 (blk [ci 0, ci 0, ci 0] 35) :: pt b_9 (blk s.2.1 35) :: pt b_12 (blk p_70 131) :: pt b_13 (blk p_123 131) :: S)) k (q_130, (q_131.set (0 + q_132.toNat * 1) (ci v_145)), 0) ⟨hl149, hs.go [0, 1, 8, 9, 10, 11, 16, 17] [0, 1, 2, 3, 4] 5 (by kernel_rfl) (by kernel_rfl) (by kernel_rfl)⟩ (fun s a w h => by obtain ⟨h1, _⟩ := h; simp [visorref22_By.l6] at h1) (fun k KL149 ih s a w h => ?_)
    obtain ⟨q_150, q_151, q_152⟩ := s
    obtain ⟨hm, hs⟩ := h
    try dsimp only at hm hs
    rw [visorref22_By.l6] at hm
    refine Vk.seq fun K153 hK153 => ?_
    refine qsr fun K154 hK154 => ?_
    refine qpu 4 hs fun a hs => ?_
    obtain ⟨g_155, hs⟩ := hs.unbag 0 rfl
    refine qld 0 (ci q_150.n) hs rfl fun a hs => ?_
    refine qpk 1 [0, 1, 8, 9, 10, 11, 16, 17, 111] hs fun a hs => hK154 _ _ ?_
    clear hK154
    refine qcs (decide (q_152 < q_150.n)) hs (fun hb => ?_) fun hb => ?_
    ·replace hm := bif_t hm hb
     refine wp_skip ?_
     refine hK153 _ _ ?_
     clear hK153
     refine Vk.seq fun K160 hK160 => ?_
     have hj160 : ∀ (p_225 : Tvisorref19_M) (p_226 : Cells), visorref22_By.j2 k (visorref22_By.l6 x1 p_70 p_123 q_132 k) q_152 p_225 p_226 = some r149 → ∀ (a : Act) (w : World), St 180 a w κ [(0, pp b_x0), (1, vi x1), (8, pp b_4), (9, pp b_9), (10, pp b_12), (11, pp b_13), (16, vi q_132), (17, vi q_152)] (Tvisorref19_M.own κ b_x0 p_225 :: pt b_4 (blk [ci 0, ci 0, ci 0] 35) :: pt b_9 (blk p_226 35) :: pt b_12 (blk p_70 131) :: pt b_13 (blk p_123 131) :: S) → K160 a w := by
      intro p_225 p_226 hm a w hs
      unfold visorref22_By.j2 at hm
      refine hK160 _ _ ?_
      refine Vk.region ?_
      refine qpk 3 [0, 1, 8, 9, 10, 11, 16, 17] hs fun a hs => ?_
      refine ih (p_225, p_226, (IntKind.i64.wrap (q_152 + 1))) _ _ ⟨hm, hs.go [0, 1, 8, 9, 10, 11, 16, 17] [0, 1, 2, 3, 4] 5 (by kernel_rfl) (by kernel_rfl) (by kernel_rfl)⟩
     refine wp_block ?_
     refine Vk.seq fun K161 hK161 => ?_
     refine qse 3 [(0, pp b_x0), (1, vi x1), (8, pp b_4), (9, pp b_9), (10, pp b_12), (11, pp b_13), (16, vi q_132), (17, vi q_152), (116, .bool (q_152 == q_132))] hs fun a hs => ?_
     refine qcs (q_152 == q_132) hs (fun hb => ?_) fun hb => ?_
     ·replace hm := bif_t hm hb
      refine wp_exit ?_
      replace hs := hs.bagG (l := Tvisorref19_M.parts κ b_x0 q_150 g_155) (S' := pt b_4 (blk [ci 0, ci 0, ci 0] 35) :: pt b_9 (blk q_151 35) :: pt b_12 (blk p_70 131) :: pt b_13 (blk p_123 131) :: S) hs.own
      replace hs := hs.toEx (Tvisorref19_M.parts κ b_x0 q_150) g_155 0 rfl
      exact hj160 q_150 q_151 hm _ _ (hs.go [0, 1, 8, 9, 10, 11, 16, 17] [0, 1, 2, 3, 4] 5 (by kernel_rfl) (by kernel_rfl) (by kernel_rfl))
     ·replace hm := bif_f hm hb
      refine wp_skip ?_
      refine hK161 _ _ ?_
      clear hK161
      refine qsr fun K163 hK163 => ?_
      refine qpu 2 hs fun a hs => ?_
      obtain ⟨h_164, hm⟩ := ite_t hm
      refine qix b_12 0 3 hs h_164 fun a hs => ?_
      obtain ⟨h_165, hm⟩ := ite_t hm
      refine qix b_12 (0 + q_132.toNat * 3) 1 hs h_165 fun a hs => ?_
      obtain ⟨v_167, h_166, hm⟩ := bind_t hm
      refine qli 7 hs rfl h_166 fun a hs => ?_
      refine qpk 1 [0, 1, 8, 9, 10, 11, 16, 17, 18] hs fun a hs => hK163 _ _ ?_
      clear hK163
      refine Vk.seq fun K168 hK168 => ?_
      have hj168 : ∀ (p_212 : Tvisorref19_M) (p_213 : Int), visorref22_By.j1 k (visorref22_By.l6 x1 p_70 p_123 q_132 k) q_132 q_151 q_152 p_212 p_213 = some r149 → ∀ (a : Act) (w : World), St 180 a w κ [(0, pp b_x0), (1, vi x1), (8, pp b_4), (9, pp b_9), (10, pp b_12), (11, pp b_13), (16, vi q_132), (17, vi q_152), (18, vi p_213)] (Tvisorref19_M.own κ b_x0 p_212 :: pt b_4 (blk [ci 0, ci 0, ci 0] 35) :: pt b_9 (blk q_151 35) :: pt b_12 (blk p_70 131) :: pt b_13 (blk p_123 131) :: S) → K168 a w := by
       intro p_212 p_213 hm a w hs
       unfold visorref22_By.j1 at hm
       refine hK168 _ _ ?_
       refine Vk.region ?_
       refine qpu 5 hs fun a hs => ?_
       obtain ⟨h_214, hm⟩ := ite_t hm
       refine qix b_9 0 1 hs h_214 fun a hs => ?_
       obtain ⟨v_216, h_215, hm⟩ := bind_t hm
       refine qli 2 hs rfl h_215 fun a hs => ?_
       refine qpu 1 hs fun a hs => ?_
       obtain ⟨v_219, h_218, hm⟩ := bind_t hm
       refine qcl (visorref19_Op.ok _ _ _ _ _ _ _ h_218 _ _ (Tvisorref19_M.own κ b_x0 p_212 :: pt b_4 (blk [ci 0, ci 0, ci 0] 35) :: pt b_9 (blk q_151 35) :: pt b_12 (blk p_70 131) :: pt b_13 (blk p_123 131) :: S) hs.own) hs fun w a hs => ?_
       obtain ⟨v_222, h_221, hm⟩ := bind_t hm
       refine qcl (visorref19_M_Do.ok _ _ _ _ _ h_221 _ _ _ b_x0 hs.own) hs fun w a hs => ?_
       refine qpu 1 hs fun a hs => ?_
       obtain ⟨h_223, hm⟩ := ite_t hm
       refine qix b_9 0 1 hs h_223 fun a hs => ?_
       obtain ⟨h_224, hm⟩ := ite_t hm
       refine Vk.step (Vk.store1 (b := b_9) (ty := 3) (x := (.tmp 176)) (y := (.tmp 174)) (off := 0 + q_132.toNat * 1) (ci v_222.1) 2 hs (by kernel_rfl) (by kernel_rfl) (by kernel_rfl) (by kernel_rfl) (by kernel_rfl) (by kernel_rfl) rfl h_224 fun a w hs => ?_)
       refine qpe 0 [(0, pp b_x0), (1, vi x1), (8, pp b_4), (9, pp b_9), (10, pp b_12), (11, pp b_13), (16, vi q_132), (17, vi q_152)] hs fun a hs => ?_
       exact hj160 v_222.2 (q_151.set (0 + q_132.toNat * 1) (ci v_222.1)) hm _ _ (hs.go [0, 1, 8, 9, 10, 11, 16, 17] [0, 1, 2, 3, 4] 5 (by kernel_rfl) (by kernel_rfl) (by kernel_rfl))
      refine qse 2 [(0, pp b_x0), (1, vi x1), (8, pp b_4), (9, pp b_9), (10, pp b_12), (11, pp b_13), (16, vi q_132), (17, vi q_152), (18, vi v_167), (123, .bool (x1 == 2))] hs fun a hs => ?_
      refine qcs (x1 == 2) hs (fun hb => ?_) fun hb => ?_
      ·replace hm := bif_t hm hb
       obtain ⟨C_170, hC_170⟩ := qC hs.own
       refine qdr 13 κ C_170 hs fun w hs hqC_170 => ?_
       have hcl := qO hC_170 hs.own
       refine qdp (fuel := 9) [0, 1, 2, 3, 7, 8] hs hcl hqC_170 fun a hs => ?_
       obtain ⟨h_171, hm⟩ := ite_t hm
       refine qdx 4 b_13 0 3 hs hcl hqC_170 h_171 fun a hs => ?_
       obtain ⟨h_172, hm⟩ := ite_t hm
       refine qdx 5 b_13 (0 + q_132.toNat * 3) 1 hs hcl hqC_170 h_172 fun a hs => ?_
       obtain ⟨v_174, h_173, hm⟩ := bind_t hm
       refine qdi 6 8 hs hcl hqC_170 hC_170 rfl h_173 fun a hs => ?_
       obtain ⟨h_175, hm⟩ := ite_t hm
       refine qdx 9 b_12 0 3 hs hcl hqC_170 h_175 fun a hs => ?_
       obtain ⟨h_176, hm⟩ := ite_t hm
       refine qdx 10 b_12 (0 + q_132.toNat * 3) 1 hs hcl hqC_170 h_176 fun a hs => ?_
       obtain ⟨v_178, h_177, hm⟩ := bind_t hm
       refine qdi 11 7 hs hcl hqC_170 hC_170 rfl h_177 fun a hs => ?_
       obtain ⟨v_181, h_180, hm⟩ := bind_t hm
       refine qdc 12 (visorref19_Op.ok _ _ _ _ _ _ _ h_180 _ _ (pt b_x0 (blk (Tvisorref19_M.obj q_150 g_155.1 g_155.2.1 g_155.2.2.1 g_155.2.2.2.1 g_155.2.2.2.2.1 g_155.2.2.2.2.2.1 g_155.2.2.2.2.2.2.1 g_155.2.2.2.2.2.2.2) 54) :: rowp g_155.1 g_155.2.1 103 6 Tapi_Op.cells q_150.ops :: rowp g_155.2.2.1 g_155.2.2.2.1 119 3 Tapi_Span.cells q_150.blocks :: rowp g_155.2.2.2.2.1 g_155.2.2.2.2.2.1 23 1 (eI .u64) q_150.val :: rdp κ g_155.2.2.2.2.2.2.1 g_155.2.2.2.2.2.2.2 1 (eI .u64) q_150.tape.l :: pt b_4 (blk [ci 0, ci 0, ci 0] 35) :: pt b_9 (blk q_151 35) :: pt b_12 (blk p_70 131) :: pt b_13 (blk p_123 131) :: S) hs.own) hs fun w a hs => ?_
       replace hcl := qO hC_170 hs.own
       refine ⟨fun _ => hcl, ?_⟩
       replace hs := hs.bagG (l := Tvisorref19_M.parts κ b_x0 q_150 g_155) (S' := pt b_4 (blk [ci 0, ci 0, ci 0] 35) :: pt b_9 (blk q_151 35) :: pt b_12 (blk p_70 131) :: pt b_13 (blk p_123 131) :: S) hs.own
       replace hs := hs.toEx (Tvisorref19_M.parts κ b_x0 q_150) g_155 0 rfl
       obtain ⟨v_184, h_183, hm⟩ := bind_t hm
       refine qdc 13 (visorref19_M_Do.ok _ _ _ _ _ h_183 _ _ _ b_x0 hs.own) hs fun w a hs => ?_
       refine ⟨fun h => absurd h (by decide), ?_⟩
       refine Vk.dOnly (i := 14) (by kernel_rfl) (Vk.dPure1 [(18, vi v_184.1)] hs (by kernel_rfl) fun a hs => ?_)
       refine ⟨fun h => absurd h (by decide), ?_⟩
       replace hs := hs.pick [0, 1, 8, 9, 10, 11, 16, 17, 18] (L' := [(0, pp b_x0), (1, vi x1), (8, pp b_4), (9, pp b_9), (10, pp b_12), (11, pp b_13), (16, vi q_132), (17, vi q_152), (18, vi v_184.1)]) (by kernel_rfl)
       refine Vk.dDone (by kernel_rfl) ?_
       exact hj168 v_184.2 v_184.1 hm _ _ (hs.go [0, 1, 8, 9, 10, 11, 16, 17, 18] [0, 1, 2, 3, 4] 5 (by kernel_rfl) (by kernel_rfl) (by kernel_rfl))
      ·replace hm := bif_f hm hb
       refine qsk 3 [0, 1, 8, 9, 10, 11, 16, 17, 18, 140] hs fun a hs => ?_
       refine qcs (decide (q_152 < q_132)) hs (fun hb => ?_) fun hb => ?_
       ·replace hm := bif_t hm hb
        refine Vk.seq fun K186 hK186 => ?_
        obtain ⟨C_187, hC_187⟩ := qC hs.own
        refine qdr 13 κ C_187 hs fun w hs hqC_187 => ?_
        have hcl := qO hC_187 hs.own
        refine qdp (fuel := 9) [0, 1, 2, 3, 7, 8] hs hcl hqC_187 fun a hs => ?_
        obtain ⟨h_188, hm⟩ := ite_t hm
        refine qdx 4 b_12 0 3 hs hcl hqC_187 h_188 fun a hs => ?_
        obtain ⟨h_189, hm⟩ := ite_t hm
        refine qdx 5 b_12 (0 + q_152.toNat * 3) 1 hs hcl hqC_187 h_189 fun a hs => ?_
        obtain ⟨v_191, h_190, hm⟩ := bind_t hm
        refine qdi 6 7 hs hcl hqC_187 hC_187 rfl h_190 fun a hs => ?_
        obtain ⟨h_192, hm⟩ := ite_t hm
        refine qdx 9 b_13 0 3 hs hcl hqC_187 h_192 fun a hs => ?_
        obtain ⟨h_193, hm⟩ := ite_t hm
        refine qdx 10 b_13 (0 + q_152.toNat * 3) 1 hs hcl hqC_187 h_193 fun a hs => ?_
        obtain ⟨v_195, h_194, hm⟩ := bind_t hm
        refine qdi 11 8 hs hcl hqC_187 hC_187 rfl h_194 fun a hs => ?_
        obtain ⟨v_198, h_197, hm⟩ := bind_t hm
        refine qdc 12 (visorref19_Op.ok _ _ _ _ _ _ _ h_197 _ _ (pt b_x0 (blk (Tvisorref19_M.obj q_150 g_155.1 g_155.2.1 g_155.2.2.1 g_155.2.2.2.1 g_155.2.2.2.2.1 g_155.2.2.2.2.2.1 g_155.2.2.2.2.2.2.1 g_155.2.2.2.2.2.2.2) 54) :: rowp g_155.1 g_155.2.1 103 6 Tapi_Op.cells q_150.ops :: rowp g_155.2.2.1 g_155.2.2.2.1 119 3 Tapi_Span.cells q_150.blocks :: rowp g_155.2.2.2.2.1 g_155.2.2.2.2.2.1 23 1 (eI .u64) q_150.val :: rdp κ g_155.2.2.2.2.2.2.1 g_155.2.2.2.2.2.2.2 1 (eI .u64) q_150.tape.l :: pt b_4 (blk [ci 0, ci 0, ci 0] 35) :: pt b_9 (blk q_151 35) :: pt b_12 (blk p_70 131) :: pt b_13 (blk p_123 131) :: S) hs.own) hs fun w a hs => ?_
        replace hcl := qO hC_187 hs.own
        refine ⟨fun _ => hcl, ?_⟩
        replace hs := hs.bagG (l := Tvisorref19_M.parts κ b_x0 q_150 g_155) (S' := pt b_4 (blk [ci 0, ci 0, ci 0] 35) :: pt b_9 (blk q_151 35) :: pt b_12 (blk p_70 131) :: pt b_13 (blk p_123 131) :: S) hs.own
        replace hs := hs.toEx (Tvisorref19_M.parts κ b_x0 q_150) g_155 0 rfl
        obtain ⟨v_201, h_200, hm⟩ := bind_t hm
        refine qdc 13 (visorref19_M_Do.ok _ _ _ _ _ h_200 _ _ _ b_x0 hs.own) hs fun w a hs => ?_
        refine ⟨fun h => absurd h (by decide), ?_⟩
        refine Vk.dOnly (i := 14) (by kernel_rfl) (Vk.dPure1 [(18, vi v_201.1)] hs (by kernel_rfl) fun a hs => ?_)
        refine ⟨fun h => absurd h (by decide), ?_⟩
        replace hs := hs.pick [0, 1, 8, 9, 10, 11, 16, 17, 18] (L' := [(0, pp b_x0), (1, vi x1), (8, pp b_4), (9, pp b_9), (10, pp b_12), (11, pp b_13), (16, vi q_132), (17, vi q_152), (18, vi v_201.1)]) (by kernel_rfl)
        refine Vk.dDone (by kernel_rfl) ?_
        refine hK186 _ _ ?_
        clear hK186
        refine Vk.region ?_
        refine qpu 5 hs fun a hs => ?_
        obtain ⟨h_202, hm⟩ := ite_t hm
        refine qix b_13 0 3 hs h_202 fun a hs => ?_
        obtain ⟨h_203, hm⟩ := ite_t hm
        refine qix b_13 (0 + q_132.toNat * 3) 1 hs h_203 fun a hs => ?_
        obtain ⟨v_205, h_204, hm⟩ := bind_t hm
        refine qli 4 hs rfl h_204 fun a hs => ?_
        obtain ⟨v_208, h_207, hm⟩ := bind_t hm
        refine qcl (visorref19_Op.ok _ _ _ _ _ _ _ h_207 _ _ (Tvisorref19_M.own κ b_x0 v_201.2 :: pt b_4 (blk [ci 0, ci 0, ci 0] 35) :: pt b_9 (blk q_151 35) :: pt b_12 (blk p_70 131) :: pt b_13 (blk p_123 131) :: S) hs.own) hs fun w a hs => ?_
        obtain ⟨v_211, h_210, hm⟩ := bind_t hm
        refine qcl (visorref19_M_Do.ok _ _ _ _ _ h_210 _ _ _ b_x0 hs.own) hs fun w a hs => ?_
        refine qpe 1 [(0, pp b_x0), (1, vi x1), (8, pp b_4), (9, pp b_9), (10, pp b_12), (11, pp b_13), (16, vi q_132), (17, vi q_152), (18, vi v_211.1)] hs fun a hs => ?_
        exact hj168 v_211.2 v_211.1 hm _ _ (hs.go [0, 1, 8, 9, 10, 11, 16, 17, 18] [0, 1, 2, 3, 4] 5 (by kernel_rfl) (by kernel_rfl) (by kernel_rfl))
       ·replace hm := bif_f hm hb
        refine wp_skip ?_
        replace hs := hs.bagG (l := Tvisorref19_M.parts κ b_x0 q_150 g_155) (S' := pt b_4 (blk [ci 0, ci 0, ci 0] 35) :: pt b_9 (blk q_151 35) :: pt b_12 (blk p_70 131) :: pt b_13 (blk p_123 131) :: S) hs.own
        replace hs := hs.toEx (Tvisorref19_M.parts κ b_x0 q_150) g_155 0 rfl
        exact hj168 q_150 v_167 hm _ _ (hs.go [0, 1, 8, 9, 10, 11, 16, 17, 18] [0, 1, 2, 3, 4] 5 (by kernel_rfl) (by kernel_rfl) (by kernel_rfl))
    ·replace hm := bif_f hm hb
     refine wp_exit ?_
     replace hs := hs.bagG (l := Tvisorref19_M.parts κ b_x0 q_150 g_155) (S' := pt b_4 (blk [ci 0, ci 0, ci 0] 35) :: pt b_9 (blk q_151 35) :: pt b_12 (blk p_70 131) :: pt b_13 (blk p_123 131) :: S) hs.own
     replace hs := hs.toEx (Tvisorref19_M.parts κ b_x0 q_150) g_155 0 rfl
     exact hx149 q_150 q_151 (Option.some.inj hm).symm _ _ (hs.go [0, 1, 8, 9, 10, 11, 16] [0, 1, 2, 3, 4] 5 (by kernel_rfl) (by kernel_rfl) (by kernel_rfl))
   ·replace hm := bif_f hm hb
    refine wp_exit ?_
    replace hs := hs.bagG (l := Tvisorref19_M.parts κ b_x0 q_130 g_135) (S' := pt b_4 (blk [ci 0, ci 0, ci 0] 35) :: pt b_9 (blk q_131 35) :: pt b_12 (blk p_70 131) :: pt b_13 (blk p_123 131) :: S) hs.own
    replace hs := hs.toEx (Tvisorref19_M.parts κ b_x0 q_130) g_135 0 rfl
    exact hx129 q_130 q_131 (Option.some.inj hm).symm _ _ (hs.go [0, 8, 9] [0, 1, 2] 5 (by kernel_rfl) (by kernel_rfl) (by kernel_rfl))
  refine Vk.loopBy (fun k (s : Tvisorref19_M × Cells × Int) a w => visorref22_By.l3 x2 x3 k s.1 s.2.1 s.2.2 = some r76 ∧ St 180 a w κ [(0, pp b_x0), (1, vi x1), (6, pp b_2), (7, pp b_3), (8, pp b_4), (9, pp b_9), (10, pp b_12), (11, pp b_13), (14, vi s.2.2)] (Tvisorref19_M.own κ b_x0 s.1 :: pt b_2 (blk x2 35) :: pt b_3 (blk x3 35) :: pt b_4 (blk [ci 0, ci 0, ci 0] 35) :: pt b_9 (blk v_8 35) :: pt b_12 (blk p_70 131) :: pt b_13 (blk s.2.1 131) :: S)) k (p_69, [ci 0, ci 0, ci 0, ci 0, ci 0, ci 0, ci 0, ci 0, ci 0], 0) ⟨hl76, hs.go [0, 1, 6, 7, 8, 9, 10, 11, 14] [0, 1, 2, 3, 4, 5, 6] 7 (by kernel_rfl) (by kernel_rfl) (by kernel_rfl)⟩ (fun s a w h => by obtain ⟨h1, _⟩ := h; simp [visorref22_By.l3] at h1) (fun k KL76 ih s a w h => ?_)
  obtain ⟨q_77, q_78, q_79⟩ := s
  obtain ⟨hm, hs⟩ := h
  try dsimp only at hm hs
  rw [visorref22_By.l3] at hm
  refine Vk.seq fun K80 hK80 => ?_
  refine qsr fun K81 hK81 => ?_
  refine qpu 4 hs fun a hs => ?_
  obtain ⟨g_82, hs⟩ := hs.unbag 0 rfl
  refine qld 0 (ci q_77.n) hs rfl fun a hs => ?_
  refine qpk 1 [0, 1, 6, 7, 8, 9, 10, 11, 14, 63] hs fun a hs => hK81 _ _ ?_
  clear hK81
  refine qcs (decide (q_79 < q_77.n)) hs (fun hb => ?_) fun hb => ?_
  ·replace hm := bif_t hm hb
   refine wp_skip ?_
   refine hK80 _ _ ?_
   clear hK80
   refine Vk.seq fun K87 hK87 => ?_
   refine wp_block ?_
   refine qsk 1 [0, 1, 6, 7, 8, 9, 10, 11, 14, 15] hs fun a hs => ?_
   refine wp_block ?_
   replace hs := hs.bagG (l := Tvisorref19_M.parts κ b_x0 q_77 g_82) (S' := pt b_2 (blk x2 35) :: pt b_3 (blk x3 35) :: pt b_4 (blk [ci 0, ci 0, ci 0] 35) :: pt b_9 (blk v_8 35) :: pt b_12 (blk p_70 131) :: pt b_13 (blk q_78 131) :: S) hs.own
   replace hs := hs.toEx (Tvisorref19_M.parts κ b_x0 q_77) g_82 0 rfl
   obtain ⟨r89, hl89, hm⟩ := bind_t hm
   have hx89 : ∀ (p_117 : Tvisorref19_M) (p_118 : Cells), r89 = (p_117, p_118) → ∀ (a : Act) (w : World), St 180 a w κ [(0, pp b_x0), (1, vi x1), (6, pp b_2), (7, pp b_3), (8, pp b_4), (9, pp b_9), (10, pp b_12), (11, pp b_13), (14, vi q_79)] (Tvisorref19_M.own κ b_x0 p_117 :: pt b_2 (blk x2 35) :: pt b_3 (blk x3 35) :: pt b_4 (blk [ci 0, ci 0, ci 0] 35) :: pt b_9 (blk v_8 35) :: pt b_12 (blk p_70 131) :: pt b_13 (blk p_118 131) :: S) → K87 a w := by
    intro p_117 p_118 he a w hs
    subst r89
    refine hK87 _ _ ?_
    clear hK87
    refine Vk.region ?_
    refine qpe 3 [(0, pp b_x0), (1, vi x1), (6, pp b_2), (7, pp b_3), (8, pp b_4), (9, pp b_9), (10, pp b_12), (11, pp b_13), (14, vi (IntKind.i64.wrap (q_79 + 1)))] hs fun a hs => ?_
    refine ih (p_117, p_118, (IntKind.i64.wrap (q_79 + 1))) _ _ ⟨hm, hs.go [0, 1, 6, 7, 8, 9, 10, 11, 14] [0, 1, 2, 3, 4, 5, 6] 7 (by kernel_rfl) (by kernel_rfl) (by kernel_rfl)⟩
   refine Vk.loopBy (fun k (s : Tvisorref19_M × Cells × Int) a w => visorref22_By.l4 x2 x3 q_79 k s.1 s.2.1 s.2.2 = some r89 ∧ St 180 a w κ [(0, pp b_x0), (1, vi x1), (6, pp b_2), (7, pp b_3), (8, pp b_4), (9, pp b_9), (10, pp b_12), (11, pp b_13), (14, vi q_79), (15, vi s.2.2)] (Tvisorref19_M.own κ b_x0 s.1 :: pt b_2 (blk x2 35) :: pt b_3 (blk x3 35) :: pt b_4 (blk [ci 0, ci 0, ci 0] 35) :: pt b_9 (blk v_8 35) :: pt b_12 (blk p_70 131) :: pt b_13 (blk s.2.1 131) :: S)) k (q_77, q_78, 0) ⟨hl89, hs.go [0, 1, 6, 7, 8, 9, 10, 11, 14, 15] [0, 1, 2, 3, 4, 5, 6] 7 (by kernel_rfl) (by kernel_rfl) (by kernel_rfl)⟩ (fun s a w h => by obtain ⟨h1, _⟩ := h; simp [visorref22_By.l4] at h1) (fun k KL89 ih s a w h => ?_)
   obtain ⟨q_90, q_91, q_92⟩ := s
   obtain ⟨hm, hs⟩ := h
   try dsimp only at hm hs
   rw [visorref22_By.l4] at hm
   refine Vk.seq fun K93 hK93 => ?_
   refine qsr fun K94 hK94 => ?_
   refine qpu 4 hs fun a hs => ?_
   obtain ⟨g_95, hs⟩ := hs.unbag 0 rfl
   refine qld 0 (ci q_90.n) hs rfl fun a hs => ?_
   refine qpk 1 [0, 1, 6, 7, 8, 9, 10, 11, 14, 15, 71] hs fun a hs => hK94 _ _ ?_
   clear hK94
   refine qcs (decide (q_92 < q_90.n)) hs (fun hb => ?_) fun hb => ?_
   ·replace hm := bif_t hm hb
    refine wp_skip ?_
    refine hK93 _ _ ?_
    clear hK93
    refine Vk.seq fun K100 hK100 => ?_
    refine wp_block ?_
    obtain ⟨C_101, hC_101⟩ : ∃ X0 : List HP, X0 = (pt b_2 (blk x2 35) :: pt b_3 (blk x3 35) :: pt b_4 (blk [ci 0, ci 0, ci 0] 35) :: pt b_9 (blk v_8 35) :: pt b_12 (blk p_70 131) :: pt b_13 (blk q_91 131) :: S) := ⟨_, rfl⟩
    refine qdr 16 κ C_101 hs fun w hs hqC_101 => ?_
    have hcl : Own κ w C_101 := by rw [hC_101]; exact (hs.own.too [5, 6, 7, 8, 9, 10] 11)
    refine qdp (fuel := 9) [0, 1, 2, 3, 4, 5, 8, 9] hs hcl hqC_101 fun a hs => ?_
    obtain ⟨h_102, hm⟩ := ite_t hm
    refine qdx 6 b_2 0 1 hs hcl hqC_101 h_102 fun a hs => ?_
    obtain ⟨v_104, h_103, hm⟩ := bind_t hm
    refine qdi 7 0 hs hcl hqC_101 hC_101 rfl h_103 fun a hs => ?_
    obtain ⟨h_105, hm⟩ := ite_t hm
    refine qdx 10 b_3 0 1 hs hcl hqC_101 h_105 fun a hs => ?_
    obtain ⟨v_107, h_106, hm⟩ := bind_t hm
    refine qdi 11 1 hs hcl hqC_101 hC_101 rfl h_106 fun a hs => ?_
    obtain ⟨h_108, hm⟩ := ite_t hm
    refine qdx 14 b_13 0 3 hs hcl hqC_101 h_108 fun a hs => ?_
    obtain ⟨v_111, h_110, hm⟩ := bind_t hm
    refine qdc 12 (visorref19_Op.ok _ _ _ _ _ _ _ h_110 _ _ (pt b_x0 (blk (Tvisorref19_M.obj q_90 g_95.1 g_95.2.1 g_95.2.2.1 g_95.2.2.2.1 g_95.2.2.2.2.1 g_95.2.2.2.2.2.1 g_95.2.2.2.2.2.2.1 g_95.2.2.2.2.2.2.2) 54) :: rowp g_95.1 g_95.2.1 103 6 Tapi_Op.cells q_90.ops :: rowp g_95.2.2.1 g_95.2.2.2.1 119 3 Tapi_Span.cells q_90.blocks :: rowp g_95.2.2.2.2.1 g_95.2.2.2.2.2.1 23 1 (eI .u64) q_90.val :: rdp κ g_95.2.2.2.2.2.2.1 g_95.2.2.2.2.2.2.2 1 (eI .u64) q_90.tape.l :: pt b_2 (blk x2 35) :: pt b_3 (blk x3 35) :: pt b_4 (blk [ci 0, ci 0, ci 0] 35) :: pt b_9 (blk v_8 35) :: pt b_12 (blk p_70 131) :: pt b_13 (blk q_91 131) :: S) hs.own) hs fun w a hs => ?_
    replace hcl : Own κ w C_101 := by rw [hC_101]; exact (hs.own.too [5, 6, 7, 8, 9, 10] 11)
    refine ⟨fun _ => hcl, ?_⟩
    replace hs := hs.bagG (l := Tvisorref19_M.parts κ b_x0 q_90 g_95) (S' := pt b_2 (blk x2 35) :: pt b_3 (blk x3 35) :: pt b_4 (blk [ci 0, ci 0, ci 0] 35) :: pt b_9 (blk v_8 35) :: pt b_12 (blk p_70 131) :: pt b_13 (blk q_91 131) :: S) hs.own
    replace hs := hs.toEx (Tvisorref19_M.parts κ b_x0 q_90) g_95 0 rfl
    obtain ⟨v_114, h_113, hm⟩ := bind_t hm
    refine qdc 13 (visorref19_M_Do.ok _ _ _ _ _ h_113 _ _ _ b_x0 hs.own) hs fun w a hs => ?_
    replace hcl := qO hC_101 hs.own.drop
    refine ⟨fun _ => hcl, ?_⟩
    obtain ⟨h_115, hm⟩ := ite_t hm
    refine qdx 15 b_13 (0 + q_79.toNat * 3) 1 hs hcl hqC_101 h_115 fun a hs => ?_
    obtain ⟨h_116, hm⟩ := ite_t hm
    refine Vk.dOnly (i := 16) (by kernel_rfl) (Vk.store1 (b := b_13) (ty := 3) (x := (.tmp 89)) (y := (.tmp 87)) (off := 0 + q_79.toNat * 3 + q_92.toNat * 1) (ci v_114.1) 6 hs (by kernel_rfl) (by kernel_rfl) (by kernel_rfl) (by kernel_rfl) (by kernel_rfl) (by kernel_rfl) rfl h_116 fun a w hs => ?_)
    refine ⟨fun h => absurd h (by decide), ?_⟩
    replace hs := hs.pick [0, 1, 6, 7, 8, 9, 10, 11, 14, 15] (L' := [(0, pp b_x0), (1, vi x1), (6, pp b_2), (7, pp b_3), (8, pp b_4), (9, pp b_9), (10, pp b_12), (11, pp b_13), (14, vi q_79), (15, vi q_92)]) (by kernel_rfl)
    refine Vk.dDone (by kernel_rfl) ?_
    refine hK100 _ _ ?_
    clear hK100
    refine Vk.region ?_
    refine qpe 3 [(0, pp b_x0), (1, vi x1), (6, pp b_2), (7, pp b_3), (8, pp b_4), (9, pp b_9), (10, pp b_12), (11, pp b_13), (14, vi q_79), (15, vi (IntKind.i64.wrap (q_92 + 1)))] hs fun a hs => ?_
    refine ih (v_114.2, (q_91.set (0 + q_79.toNat * 3 + q_92.toNat * 1) (ci v_114.1)), (IntKind.i64.wrap (q_92 + 1))) _ _ ⟨hm, hs.go [0, 1, 6, 7, 8, 9, 10, 11, 14, 15] [0, 1, 2, 3, 4, 5, 6] 7 (by kernel_rfl) (by kernel_rfl) (by kernel_rfl)⟩
   ·replace hm := bif_f hm hb
    refine wp_exit ?_
    replace hs := hs.bagG (l := Tvisorref19_M.parts κ b_x0 q_90 g_95) (S' := pt b_2 (blk x2 35) :: pt b_3 (blk x3 35) :: pt b_4 (blk [ci 0, ci 0, ci 0] 35) :: pt b_9 (blk v_8 35) :: pt b_12 (blk p_70 131) :: pt b_13 (blk q_91 131) :: S) hs.own
    replace hs := hs.toEx (Tvisorref19_M.parts κ b_x0 q_90) g_95 0 rfl
    exact hx89 q_90 q_91 (Option.some.inj hm).symm _ _ (hs.go [0, 1, 6, 7, 8, 9, 10, 11, 14] [0, 1, 2, 3, 4, 5, 6] 7 (by kernel_rfl) (by kernel_rfl) (by kernel_rfl))
  ·replace hm := bif_f hm hb
   refine wp_exit ?_
   replace hs := hs.bagG (l := Tvisorref19_M.parts κ b_x0 q_77 g_82) (S' := pt b_2 (blk x2 35) :: pt b_3 (blk x3 35) :: pt b_4 (blk [ci 0, ci 0, ci 0] 35) :: pt b_9 (blk v_8 35) :: pt b_12 (blk p_70 131) :: pt b_13 (blk q_78 131) :: S) hs.own
   replace hs := hs.toEx (Tvisorref19_M.parts κ b_x0 q_77) g_82 0 rfl
   exact hx76 q_77 q_78 (Option.some.inj hm).symm _ _ (hs.go [0, 1, 8, 9, 10, 11] [0, 3, 4, 5, 6] 7 (by kernel_rfl) (by kernel_rfl) (by kernel_rfl))
 refine Vk.loopBy (fun k (s : Tvisorref19_M × Cells × Int) a w => visorref22_By.l1 k s.1 s.2.1 s.2.2 = some r20 ∧ St 180 a w κ [(0, pp b_x0), (1, vi x1), (6, pp b_2), (7, pp b_3), (8, pp b_4), (9, pp b_9), (10, pp b_12), (11, pp b_13), (12, vi s.2.2)] (Tvisorref19_M.own κ b_x0 s.1 :: pt b_2 (blk x2 35) :: pt b_3 (blk x3 35) :: pt b_4 (blk [ci 0, ci 0, ci 0] 35) :: pt b_9 (blk v_8 35) :: pt b_12 (blk s.2.1 131) :: pt b_13 (blk [ci 0, ci 0, ci 0, ci 0, ci 0, ci 0, ci 0, ci 0, ci 0] 131) :: S)) k (v_17, [ci 0, ci 0, ci 0, ci 0, ci 0, ci 0, ci 0, ci 0, ci 0], 0) ⟨hl20, hs.go [0, 1, 6, 7, 8, 9, 10, 11, 12] [0, 6, 5, 4, 3, 2, 1] 7 (by kernel_rfl) (by kernel_rfl) (by kernel_rfl)⟩ (fun s a w h => by obtain ⟨h1, _⟩ := h; simp [visorref22_By.l1] at h1) (fun k KL20 ih s a w h => ?_)
 obtain ⟨q_21, q_22, q_23⟩ := s
 obtain ⟨hm, hs⟩ := h
 try dsimp only at hm hs
 rw [visorref22_By.l1] at hm
 refine Vk.seq fun K24 hK24 => ?_
 refine qsr fun K25 hK25 => ?_
 refine qpu 4 hs fun a hs => ?_
 obtain ⟨g_26, hs⟩ := hs.unbag 0 rfl
 refine qld 0 (ci q_21.n) hs rfl fun a hs => ?_
 refine qpk 1 [0, 1, 6, 7, 8, 9, 10, 11, 12, 29] hs fun a hs => hK25 _ _ ?_
 clear hK25
 refine qcs (decide (q_23 < q_21.n)) hs (fun hb => ?_) fun hb => ?_
 ·replace hm := bif_t hm hb
  refine wp_skip ?_
  refine hK24 _ _ ?_
  clear hK24
  refine Vk.seq fun K31 hK31 => ?_
  refine wp_block ?_
  refine qsk 3 [0, 1, 6, 7, 8, 9, 10, 11, 12, 13] hs fun a hs => ?_
  refine wp_block ?_
  replace hs := hs.bagG (l := Tvisorref19_M.parts κ b_x0 q_21 g_26) (S' := pt b_2 (blk x2 35) :: pt b_3 (blk x3 35) :: pt b_4 (blk [ci 0, ci 0, ci 0] 35) :: pt b_9 (blk v_8 35) :: pt b_12 (blk q_22 131) :: pt b_13 (blk [ci 0, ci 0, ci 0, ci 0, ci 0, ci 0, ci 0, ci 0, ci 0] 131) :: S) hs.own
  replace hs := hs.toEx (Tvisorref19_M.parts κ b_x0 q_21) g_26 0 rfl
  obtain ⟨r33, hl33, hm⟩ := bind_t hm
  have hx33 : ∀ (p_64 : Tvisorref19_M) (p_65 : Cells), r33 = (p_64, p_65) → ∀ (a : Act) (w : World), St 180 a w κ [(0, pp b_x0), (1, vi x1), (6, pp b_2), (7, pp b_3), (8, pp b_4), (9, pp b_9), (10, pp b_12), (11, pp b_13), (12, vi q_23)] (Tvisorref19_M.own κ b_x0 p_64 :: pt b_2 (blk x2 35) :: pt b_3 (blk x3 35) :: pt b_4 (blk [ci 0, ci 0, ci 0] 35) :: pt b_9 (blk v_8 35) :: pt b_12 (blk p_65 131) :: pt b_13 (blk [ci 0, ci 0, ci 0, ci 0, ci 0, ci 0, ci 0, ci 0, ci 0] 131) :: S) → K31 a w := by
   intro p_64 p_65 he a w hs
   subst r33
   refine hK31 _ _ ?_
   clear hK31
   refine Vk.region ?_
   refine qpe 3 [(0, pp b_x0), (1, vi x1), (6, pp b_2), (7, pp b_3), (8, pp b_4), (9, pp b_9), (10, pp b_12), (11, pp b_13), (12, vi (IntKind.i64.wrap (q_23 + 1)))] hs fun a hs => ?_
   refine ih (p_64, p_65, (IntKind.i64.wrap (q_23 + 1))) _ _ ⟨hm, hs.go [0, 1, 6, 7, 8, 9, 10, 11, 12] [0, 1, 2, 3, 4, 5, 6] 7 (by kernel_rfl) (by kernel_rfl) (by kernel_rfl)⟩
  refine Vk.loopBy (fun k (s : Tvisorref19_M × Cells × Int) a w => visorref22_By.l2 q_23 k s.1 s.2.1 s.2.2 = some r33 ∧ St 180 a w κ [(0, pp b_x0), (1, vi x1), (6, pp b_2), (7, pp b_3), (8, pp b_4), (9, pp b_9), (10, pp b_12), (11, pp b_13), (12, vi q_23), (13, vi s.2.2)] (Tvisorref19_M.own κ b_x0 s.1 :: pt b_2 (blk x2 35) :: pt b_3 (blk x3 35) :: pt b_4 (blk [ci 0, ci 0, ci 0] 35) :: pt b_9 (blk v_8 35) :: pt b_12 (blk s.2.1 131) :: pt b_13 (blk [ci 0, ci 0, ci 0, ci 0, ci 0, ci 0, ci 0, ci 0, ci 0] 131) :: S)) k (q_21, q_22, (IntKind.i64.wrap (q_23 + 1))) ⟨hl33, hs.go [0, 1, 6, 7, 8, 9, 10, 11, 12, 13] [0, 1, 2, 3, 4, 5, 6] 7 (by kernel_rfl) (by kernel_rfl) (by kernel_rfl)⟩ (fun s a w h => by obtain ⟨h1, _⟩ := h; simp [visorref22_By.l2] at h1) (fun k KL33 ih s a w h => ?_)
  obtain ⟨q_34, q_35, q_36⟩ := s
  obtain ⟨hm, hs⟩ := h
  try dsimp only at hm hs
  rw [visorref22_By.l2] at hm
  refine Vk.seq fun K37 hK37 => ?_
  refine qsr fun K38 hK38 => ?_
  refine qpu 4 hs fun a hs => ?_
  obtain ⟨g_39, hs⟩ := hs.unbag 0 rfl
  refine qld 0 (ci q_34.n) hs rfl fun a hs => ?_
  refine qpk 1 [0, 1, 6, 7, 8, 9, 10, 11, 12, 13, 39] hs fun a hs => hK38 _ _ ?_
  clear hK38
  refine qcs (decide (q_36 < q_34.n)) hs (fun hb => ?_) fun hb => ?_
  ·replace hm := bif_t hm hb
   refine wp_skip ?_
   refine hK37 _ _ ?_
   clear hK37
   refine Vk.seq fun K44 hK44 => ?_
   refine wp_block ?_
   refine Vk.seq fun K45 hK45 => ?_
   obtain ⟨C_46, hC_46⟩ : ∃ X0 : List HP, X0 = (pt b_2 (blk x2 35) :: pt b_3 (blk x3 35) :: pt b_4 (blk [ci 0, ci 0, ci 0] 35) :: pt b_9 (blk v_8 35) :: pt b_12 (blk q_35 131) :: pt b_13 (blk [ci 0, ci 0, ci 0, ci 0, ci 0, ci 0, ci 0, ci 0, ci 0] 131) :: S) := ⟨_, rfl⟩
   refine qdr 7 κ C_46 hs fun w hs hqC_46 => ?_
   have hcl : Own κ w C_46 := by rw [hC_46]; exact (hs.own.too [5, 6, 7, 8, 9, 10] 11)
   refine qdp (fuel := 5) [0, 1, 2] hs hcl hqC_46 fun a hs => ?_
   obtain ⟨h_47, hm⟩ := ite_t hm
   refine qdx 5 b_12 0 3 hs hcl hqC_46 h_47 fun a hs => ?_
   obtain ⟨v_50, h_49, hm⟩ := bind_t hm
   refine qdc 3 (visorref19_Op.ok _ _ _ _ _ _ _ h_49 _ _ (pt b_x0 (blk (Tvisorref19_M.obj q_34 g_39.1 g_39.2.1 g_39.2.2.1 g_39.2.2.2.1 g_39.2.2.2.2.1 g_39.2.2.2.2.2.1 g_39.2.2.2.2.2.2.1 g_39.2.2.2.2.2.2.2) 54) :: rowp g_39.1 g_39.2.1 103 6 Tapi_Op.cells q_34.ops :: rowp g_39.2.2.1 g_39.2.2.2.1 119 3 Tapi_Span.cells q_34.blocks :: rowp g_39.2.2.2.2.1 g_39.2.2.2.2.2.1 23 1 (eI .u64) q_34.val :: rdp κ g_39.2.2.2.2.2.2.1 g_39.2.2.2.2.2.2.2 1 (eI .u64) q_34.tape.l :: pt b_2 (blk x2 35) :: pt b_3 (blk x3 35) :: pt b_4 (blk [ci 0, ci 0, ci 0] 35) :: pt b_9 (blk v_8 35) :: pt b_12 (blk q_35 131) :: pt b_13 (blk [ci 0, ci 0, ci 0, ci 0, ci 0, ci 0, ci 0, ci 0, ci 0] 131) :: S) hs.own) hs fun w a hs => ?_
   replace hcl : Own κ w C_46 := by rw [hC_46]; exact (hs.own.too [5, 6, 7, 8, 9, 10] 11)
   refine ⟨fun _ => hcl, ?_⟩
   replace hs := hs.bagG (l := Tvisorref19_M.parts κ b_x0 q_34 g_39) (S' := pt b_2 (blk x2 35) :: pt b_3 (blk x3 35) :: pt b_4 (blk [ci 0, ci 0, ci 0] 35) :: pt b_9 (blk v_8 35) :: pt b_12 (blk q_35 131) :: pt b_13 (blk [ci 0, ci 0, ci 0, ci 0, ci 0, ci 0, ci 0, ci 0, ci 0] 131) :: S) hs.own
   replace hs := hs.toEx (Tvisorref19_M.parts κ b_x0 q_34) g_39 0 rfl
   obtain ⟨v_53, h_52, hm⟩ := bind_t hm
   refine qdc 4 (visorref19_M_Do.ok _ _ _ _ _ h_52 _ _ _ b_x0 hs.own) hs fun w a hs => ?_
   replace hcl := qO hC_46 hs.own.drop
   refine ⟨fun _ => hcl, ?_⟩
   obtain ⟨h_54, hm⟩ := ite_t hm
   refine qdx 6 b_12 (0 + q_23.toNat * 3) 1 hs hcl hqC_46 h_54 fun a hs => ?_
   obtain ⟨h_55, hm⟩ := ite_t hm
   refine Vk.dOnly (i := 7) (by kernel_rfl) (Vk.store1 (b := b_12) (ty := 3) (x := (.tmp 48)) (y := (.tmp 46)) (off := 0 + q_23.toNat * 3 + q_36.toNat * 1) (ci v_53.1) 5 hs (by kernel_rfl) (by kernel_rfl) (by kernel_rfl) (by kernel_rfl) (by kernel_rfl) (by kernel_rfl) rfl h_55 fun a w hs => ?_)
   refine ⟨fun h => absurd h (by decide), ?_⟩
   replace hs := hs.pick [0, 1, 6, 7, 8, 9, 10, 11, 12, 13] (L' := [(0, pp b_x0), (1, vi x1), (6, pp b_2), (7, pp b_3), (8, pp b_4), (9, pp b_9), (10, pp b_12), (11, pp b_13), (12, vi q_23), (13, vi q_36)]) (by kernel_rfl)
   refine Vk.dDone (by kernel_rfl) ?_
   refine hK45 _ _ ?_
   clear hK45
   obtain ⟨C_56, hC_56⟩ := qC hs.own
   refine qdr 9 κ C_56 hs fun w hs hqC_56 => ?_
   have hcl := qO hC_56 hs.own
   refine qdp (fuel := 6) [0, 1, 2, 3] hs hcl hqC_56 fun a hs => ?_
   obtain ⟨h_57, hm⟩ := ite_t hm
   refine qdx 4 b_12 0 3 hs hcl hqC_56 h_57 fun a hs => ?_
   obtain ⟨h_58, hm⟩ := ite_t hm
   refine qdx 5 b_12 (0 + q_23.toNat * 3) 1 hs hcl hqC_56 h_58 fun a hs => ?_
   obtain ⟨v_60, h_59, hm⟩ := bind_t hm
   refine qdi 6 5 hs hcl hqC_56 hC_56 rfl h_59 fun a hs => ?_
   obtain ⟨h_61, hm⟩ := ite_t hm
   refine qdx 7 b_12 0 3 hs hcl hqC_56 h_61 fun a hs => ?_
   obtain ⟨h_62, hm⟩ := ite_t hm
   refine qdx 8 b_12 (0 + q_36.toNat * 3) 1 hs hcl hqC_56 h_62 fun a hs => ?_
   obtain ⟨h_63, hm⟩ := ite_t hm
   refine Vk.dOnly (i := 9) (by kernel_rfl) (Vk.store1 (b := b_12) (ty := 3) (x := (.tmp 57)) (y := (.tmp 55)) (off := 0 + q_36.toNat * 3 + q_23.toNat * 1) (ci v_60) 5 hs (by kernel_rfl) (by kernel_rfl) (by kernel_rfl) (by kernel_rfl) (by kernel_rfl) (by kernel_rfl) rfl h_63 fun a w hs => ?_)
   refine ⟨fun h => absurd h (by decide), ?_⟩
   replace hs := hs.pick [0, 1, 6, 7, 8, 9, 10, 11, 12, 13] (L' := [(0, pp b_x0), (1, vi x1), (6, pp b_2), (7, pp b_3), (8, pp b_4), (9, pp b_9), (10, pp b_12), (11, pp b_13), (12, vi q_23), (13, vi q_36)]) (by kernel_rfl)
   refine Vk.dDone (by kernel_rfl) ?_
   refine hK44 _ _ ?_
   clear hK44
   refine Vk.region ?_
   refine qpk 3 [0, 1, 6, 7, 8, 9, 10, 11, 12, 13] hs fun a hs => ?_
   refine ih (v_53.2, ((q_35.set (0 + q_23.toNat * 3 + q_36.toNat * 1) (ci v_53.1)).set (0 + q_36.toNat * 3 + q_23.toNat * 1) (ci v_60)), (IntKind.i64.wrap (q_36 + 1))) _ _ ⟨hm, hs.go [0, 1, 6, 7, 8, 9, 10, 11, 12, 13] [0, 1, 2, 3, 4, 5, 6] 7 (by kernel_rfl) (by kernel_rfl) (by kernel_rfl)⟩
  ·replace hm := bif_f hm hb
   refine wp_exit ?_
   replace hs := hs.bagG (l := Tvisorref19_M.parts κ b_x0 q_34 g_39) (S' := pt b_2 (blk x2 35) :: pt b_3 (blk x3 35) :: pt b_4 (blk [ci 0, ci 0, ci 0] 35) :: pt b_9 (blk v_8 35) :: pt b_12 (blk q_35 131) :: pt b_13 (blk [ci 0, ci 0, ci 0, ci 0, ci 0, ci 0, ci 0, ci 0, ci 0] 131) :: S) hs.own
   replace hs := hs.toEx (Tvisorref19_M.parts κ b_x0 q_34) g_39 0 rfl
   exact hx33 q_34 q_35 (Option.some.inj hm).symm _ _ (hs.go [0, 1, 6, 7, 8, 9, 10, 11, 12] [0, 1, 2, 3, 4, 5, 6] 7 (by kernel_rfl) (by kernel_rfl) (by kernel_rfl))
 ·replace hm := bif_f hm hb
  refine wp_exit ?_
  replace hs := hs.bagG (l := Tvisorref19_M.parts κ b_x0 q_21 g_26) (S' := pt b_2 (blk x2 35) :: pt b_3 (blk x3 35) :: pt b_4 (blk [ci 0, ci 0, ci 0] 35) :: pt b_9 (blk v_8 35) :: pt b_12 (blk q_22 131) :: pt b_13 (blk [ci 0, ci 0, ci 0, ci 0, ci 0, ci 0, ci 0, ci 0, ci 0] 131) :: S) hs.own
  replace hs := hs.toEx (Tvisorref19_M.parts κ b_x0 q_21) g_26 0 rfl
  exact hx20 q_21 q_22 (Option.some.inj hm).symm _ _ (hs.go [0, 1, 6, 7, 8, 9, 10, 11] [0, 1, 2, 3, 4, 5, 6] 7 (by kernel_rfl) (by kernel_rfl) (by kernel_rfl))


abbrev visorref23_And.R (κ : Ctx) (S : List HP) (x0 : Tvisorref19_M) (x1 : Int) (x2 : Cells) (x3 : Cells) (b_x0 : Nat) (r : (Cells × Tvisorref19_M)) : Ending → World → Prop := fun e w' => e = .returned (.agg (vals r.1)) ∧ Own κ w' (Tvisorref19_M.own κ b_x0 r.2 :: S)
def visorref23_And.m (k : Nat) (x0 : Tvisorref19_M) (x1 : Int) (x2 : Cells) (x3 : Cells) : Option (Cells × Tvisorref19_M) := (if x2.length = 3 then (if x3.length = 3 then (visorref21_Full.m k x0 x3).bind fun v_11 => (visorref22_By.m k v_11.2 x1 x2 v_11.1).bind fun v_14 => (if v_14.1.length = 3 then some (v_14.1, v_14.2) else none) else none) else none)

set_option maxRecDepth 100000 in
set_option maxHeartbeats 4000000 in
theorem visorref23_And.ok (k : Nat) (x0 : Tvisorref19_M) (x1 : Int) (x2 : Cells) (x3 : Cells) (r : (Cells × Tvisorref19_M)) (hm : visorref23_And.m k x0 x1 x2 x3 = some r) (κ : Ctx) (w : World) (S : List HP) (b_x0 : Nat) (ho : Own κ w (Tvisorref19_M.own κ b_x0 x0 :: S)) :
  Calls Tryz.prog 32 #[pp b_x0, vi x1, .agg (vals x2), .agg (vals x3)] w (visorref23_And.R κ S x0 x1 x2 x3 b_x0 r) := by
 unfold visorref23_And.m at hm
 generalize hRR : visorref23_And.R κ S x0 x1 x2 x3 b_x0 r = RR
 refine qen [(0, pp b_x0), (1, vi x1), (2, .agg (vals x2)), (3, .agg (vals x3))] Tryz.func32 Tryz.ntmps32 ho fun a hs => ?_
 refine qsr fun K1 hK1 => ?_
 refine qbx 2 35 x2 6 hs fun b_2 w a hs => ?_
 refine qbx 3 35 x3 7 hs fun b_3 w a hs => ?_
 refine qal 35 [ci 0, ci 0, ci 0] 8 hs fun b_4 w a hs => ?_
 refine qpk 0 [0, 1, 6, 7, 8] hs fun a hs => hK1 _ _ ?_
 clear hK1
 refine Vk.seq fun K5 hK5 => ?_
 obtain ⟨C_6, hC_6⟩ := qC hs.own.f3.drop
 refine qdr 7 κ C_6 hs fun w hs hqC_6 => ?_
 have hcl := qO hC_6 hs.own.f3.drop
 refine qdp (fuel := 5) [0, 1, 3] hs hcl hqC_6 fun a hs => ?_
 obtain ⟨h_7, hm⟩ := ite_t hm
 refine qdw 2 2 hs hcl hqC_6 hC_6 rfl h_7 fun a hs => ?_
 obtain ⟨h_8, hm⟩ := ite_t hm
 refine qdw 4 1 hs hcl hqC_6 hC_6 rfl h_8 fun a hs => ?_
 obtain ⟨v_11, h_10, hm⟩ := bind_t hm
 refine qdc 5 (visorref21_Full.ok _ _ _ _ h_10 _ _ _ b_x0 hs.own.f3) hs fun w a hs => ?_
 replace hcl := qO hC_6 hs.own.drop
 refine ⟨fun _ => hcl, ?_⟩
 obtain ⟨v_14, h_13, hm⟩ := bind_t hm
 refine qdc 6 (visorref22_By.ok _ _ _ _ _ _ h_13 _ _ _ b_x0 hs.own) hs fun w a hs => ?_
 replace hcl := qO hC_6 hs.own.drop
 refine ⟨fun _ => hcl, ?_⟩
 obtain ⟨h_15, hm⟩ := ite_t hm
 refine qsA 7 1 v_14.1 hs rfl h_15 rfl fun a w hs => ?_
 refine ⟨fun h => absurd h (by decide), ?_⟩
 replace hs := hs.pick [8] (L' := [(8, pp b_4)]) (by kernel_rfl)
 refine Vk.dDone (by kernel_rfl) ?_
 refine hK5 _ _ ?_
 clear hK5
 refine wp_ret ?_
 exact Vk.retC v_14.1 hs rfl (by kernel_rfl) (sz := 3) (by kernel_rfl) h_15 (CellsAt.all 1 rfl) (hRR ▸ by cases hm; exact ⟨rfl, (hs.own.too [0] 4)⟩)


abbrev wire_Machine_One.R (κ : Ctx) (S : List HP) (x0 : Twire_Machine) (x1 : Int) (x2 : Int) (x3 : Int) (x4 : Int) (b_x0 : Nat) (r : (Int × Twire_Machine)) : Ending → World → Prop := fun e w' => e = .returned (vi r.1) ∧ Own κ w' (Twire_Machine.own b_x0 r.2 :: S)
def wire_Machine_One.m (k : Nat) (x0 : Twire_Machine) (x1 : Int) (x2 : Int) (x3 : Int) (x4 : Int) : Option (Int × Twire_Machine) := (wire_Machine_Do.m k x0 (⟨x1, x2, x3, (-1), (-1), x4⟩ : Tapi_Op) 0).bind fun v_5 => some (v_5.1, v_5.2)

set_option maxRecDepth 100000 in
set_option maxHeartbeats 4000000 in
theorem wire_Machine_One.ok (k : Nat) (x0 : Twire_Machine) (x1 : Int) (x2 : Int) (x3 : Int) (x4 : Int) (r : (Int × Twire_Machine)) (hm : wire_Machine_One.m k x0 x1 x2 x3 x4 = some r) (κ : Ctx) (w : World) (S : List HP) (b_x0 : Nat) (ho : Own κ w (Twire_Machine.own b_x0 x0 :: S)) :
  Calls Tryz.prog 104 #[pp b_x0, vi x1, vi x2, vi x3, vw x4] w (wire_Machine_One.R κ S x0 x1 x2 x3 x4 b_x0 r) := by
 unfold wire_Machine_One.m at hm
 generalize hRR : wire_Machine_One.R κ S x0 x1 x2 x3 x4 b_x0 r = RR
 refine qen [(0, pp b_x0), (1, vi x1), (2, vi x2), (3, vi x3), (4, vw x4)] Tryz.func104 Tryz.ntmps104 ho fun a hs => ?_
 refine qsk 1 [0, 1, 2, 3, 4] hs fun a hs => ?_
 refine qsr fun K2 hK2 => ?_
 refine qpu 6 hs fun a hs => ?_
 obtain ⟨v_5, h_4, hm⟩ := bind_t hm
 refine qcl (wire_Machine_Do.ok _ _ _ _ _ h_4 _ _ _ b_x0 hs.own) hs fun w a hs => ?_
 refine qpe 1 [(10, vi v_5.1)] hs fun a hs => hK2 _ _ ?_
 clear hK2
 refine wp_ret ?_
 exact qr1 (vi v_5.1) hs rfl hRR (by cases hm; exact ⟨rfl, hs.own⟩)


abbrev share_Not.R (κ : Ctx) (S : List HP) (x0 : Twire_Machine) (x1 : Cells) (b_x0 : Nat) (r : (Cells × Twire_Machine)) : Ending → World → Prop := fun e w' => e = .returned (.agg (vals r.1)) ∧ Own κ w' (Twire_Machine.own b_x0 r.2 :: S)
def share_Not.m (k : Nat) (x0 : Twire_Machine) (x1 : Cells) : Option (Cells × Twire_Machine) := (getI .i64 x1 (0)).bind fun v_6 => (wire_Machine_One.m k x0 6 0 v_6 0).bind fun v_9 => (if 0 < x1.length then (if (x1.set (0) (ci v_9.1)).length = 3 then some ((x1.set (0) (ci v_9.1)), v_9.2) else none) else none)

set_option maxRecDepth 100000 in
set_option maxHeartbeats 4000000 in
theorem share_Not.ok (k : Nat) (x0 : Twire_Machine) (x1 : Cells) (r : (Cells × Twire_Machine)) (hm : share_Not.m k x0 x1 = some r) (κ : Ctx) (w : World) (S : List HP) (b_x0 : Nat) (ho : Own κ w (Twire_Machine.own b_x0 x0 :: S)) :
  Calls Tryz.prog 88 #[pp b_x0, .agg (vals x1)] w (share_Not.R κ S x0 x1 b_x0 r) := by
 unfold share_Not.m at hm
 generalize hRR : share_Not.R κ S x0 x1 b_x0 r = RR
 refine qen [(0, pp b_x0), (1, .agg (vals x1))] Tryz.func88 Tryz.ntmps88 ho fun a hs => ?_
 refine qsr fun K1 hK1 => ?_
 refine qbx 1 35 x1 3 hs fun b_2 w a hs => ?_
 refine qal 35 [ci 0, ci 0, ci 0] 4 hs fun b_3 w a hs => ?_
 refine qpk 0 [0, 3, 4] hs fun a hs => hK1 _ _ ?_
 clear hK1
 refine qsr fun K4 hK4 => ?_
 refine qpu 3 hs fun a hs => ?_
 obtain ⟨v_6, h_5, hm⟩ := bind_t hm
 refine qli 1 hs rfl h_5 fun a hs => ?_
 obtain ⟨v_9, h_8, hm⟩ := bind_t hm
 refine qcl (wire_Machine_One.ok _ _ _ _ _ _ _ h_8 _ _ _ b_x0 hs.own.f2) hs fun w a hs => ?_
 refine qpu 2 hs fun a hs => ?_
 obtain ⟨h_10, hm⟩ := ite_t hm
 refine Vk.step (Vk.store1 (b := b_2) (ty := 3) (x := (.tmp 11)) (y := (.tmp 9)) (off := 0) (ci v_9.1) 2 hs (by kernel_rfl) (by kernel_rfl) (by kernel_rfl) (by kernel_rfl) (by kernel_rfl) (by kernel_rfl) rfl h_10 fun a w hs => ?_)
 refine qpe 0 [(3, pp b_2), (4, pp b_3)] hs fun a hs => hK4 _ _ ?_
 clear hK4
 refine qsr fun K11 hK11 => ?_
 obtain ⟨h_12, hm⟩ := ite_t hm
 refine qlw 2 hs rfl h_12 fun a hs => ?_
 refine qsb 1 (x1.set (0) (ci v_9.1)) hs rfl h_12 rfl fun a w hs => ?_
 refine qpe 0 [(4, pp b_3)] hs fun a hs => hK11 _ _ ?_
 clear hK11
 refine wp_ret ?_
 exact Vk.retC (x1.set (0) (ci v_9.1)) hs rfl (by kernel_rfl) (sz := 3) (by kernel_rfl) h_12 (CellsAt.all 1 rfl) (hRR ▸ by cases hm; exact ⟨rfl, hs.own.f2.drop.f1.drop⟩)


abbrev both_Less.R (κ : Ctx) (S : List HP) (x0 : Twire_Machine) (x1 : Int) (x2 : Cells) (x3 : Cells) (b_x0 : Nat) (r : (Cells × Twire_Machine)) : Ending → World → Prop := fun e w' => e = .returned (.agg (vals r.1)) ∧ Own κ w' (Twire_Machine.own b_x0 r.2 :: S)
def both_Less.m (k : Nat) (x0 : Twire_Machine) (x1 : Int) (x2 : Cells) (x3 : Cells) : Option (Cells × Twire_Machine) := (if x2.length = 3 then (if x3.length = 3 then (share_Not.m k x0 x2).bind fun v_11 => (both_And.m k v_11.2 x1 v_11.1 x3).bind fun v_14 => (if v_14.1.length = 3 then some (v_14.1, v_14.2) else none) else none) else none)

set_option maxRecDepth 100000 in
set_option maxHeartbeats 4000000 in
theorem both_Less.ok (k : Nat) (x0 : Twire_Machine) (x1 : Int) (x2 : Cells) (x3 : Cells) (r : (Cells × Twire_Machine)) (hm : both_Less.m k x0 x1 x2 x3 = some r) (κ : Ctx) (w : World) (S : List HP) (b_x0 : Nat) (ho : Own κ w (Twire_Machine.own b_x0 x0 :: S)) :
  Calls Tryz.prog 33 #[pp b_x0, vi x1, .agg (vals x2), .agg (vals x3)] w (both_Less.R κ S x0 x1 x2 x3 b_x0 r) := by
 unfold both_Less.m at hm
 generalize hRR : both_Less.R κ S x0 x1 x2 x3 b_x0 r = RR
 refine qen [(0, pp b_x0), (1, vi x1), (2, .agg (vals x2)), (3, .agg (vals x3))] Tryz.func33 Tryz.ntmps33 ho fun a hs => ?_
 refine qsr fun K1 hK1 => ?_
 refine qbx 2 35 x2 6 hs fun b_2 w a hs => ?_
 refine qbx 3 35 x3 7 hs fun b_3 w a hs => ?_
 refine qal 35 [ci 0, ci 0, ci 0] 8 hs fun b_4 w a hs => ?_
 refine qpk 0 [0, 1, 6, 7, 8] hs fun a hs => hK1 _ _ ?_
 clear hK1
 refine Vk.seq fun K5 hK5 => ?_
 obtain ⟨C_6, hC_6⟩ := qC hs.own.f3.drop
 refine qdr 7 κ C_6 hs fun w hs hqC_6 => ?_
 have hcl := qO hC_6 hs.own.f3.drop
 refine qdp (fuel := 5) [0, 1, 2] hs hcl hqC_6 fun a hs => ?_
 obtain ⟨h_7, hm⟩ := ite_t hm
 refine qdw 3 2 hs hcl hqC_6 hC_6 rfl h_7 fun a hs => ?_
 obtain ⟨h_8, hm⟩ := ite_t hm
 refine qdw 5 1 hs hcl hqC_6 hC_6 rfl h_8 fun a hs => ?_
 obtain ⟨v_11, h_10, hm⟩ := bind_t hm
 refine qdc 4 (share_Not.ok _ _ _ _ h_10 _ _ _ b_x0 hs.own.f3) hs fun w a hs => ?_
 replace hcl := qO hC_6 hs.own.drop
 refine ⟨fun _ => hcl, ?_⟩
 obtain ⟨v_14, h_13, hm⟩ := bind_t hm
 refine qdc 6 (both_And.ok _ _ _ _ _ _ h_13 _ _ _ b_x0 hs.own) hs fun w a hs => ?_
 replace hcl := qO hC_6 hs.own.drop
 refine ⟨fun _ => hcl, ?_⟩
 obtain ⟨h_15, hm⟩ := ite_t hm
 refine qsA 7 1 v_14.1 hs rfl h_15 rfl fun a w hs => ?_
 refine ⟨fun h => absurd h (by decide), ?_⟩
 replace hs := hs.pick [8] (L' := [(8, pp b_4)]) (by kernel_rfl)
 refine Vk.dDone (by kernel_rfl) ?_
 refine hK5 _ _ ?_
 clear hK5
 refine wp_ret ?_
 exact Vk.retC v_14.1 hs rfl (by kernel_rfl) (sz := 3) (by kernel_rfl) h_15 (CellsAt.all 1 rfl) (hRR ▸ by cases hm; exact ⟨rfl, (hs.own.too [0] 4)⟩)


abbrev visorref20_Not.R (κ : Ctx) (S : List HP) (x0 : Tvisorref19_M) (x1 : Cells) (b_x0 : Nat) (r : (Cells × Tvisorref19_M)) : Ending → World → Prop := fun e w' => e = .returned (.agg (vals r.1)) ∧ Own κ w' (Tvisorref19_M.own κ b_x0 r.2 :: S)
def visorref20_Not.m (k : Nat) (x0 : Tvisorref19_M) (x1 : Cells) : Option (Cells × Tvisorref19_M) := (getI .i64 x1 (0)).bind fun v_6 => (visorref19_Op.m k 6 0 v_6 (-1) 0).bind fun v_9 => (visorref19_M_Do.m k x0 v_9 0).bind fun v_12 => (if 0 < x1.length then (if (x1.set (0) (ci v_12.1)).length = 3 then some ((x1.set (0) (ci v_12.1)), v_12.2) else none) else none)

set_option maxRecDepth 100000 in
set_option maxHeartbeats 4000000 in
theorem visorref20_Not.ok (k : Nat) (x0 : Tvisorref19_M) (x1 : Cells) (r : (Cells × Tvisorref19_M)) (hm : visorref20_Not.m k x0 x1 = some r) (κ : Ctx) (w : World) (S : List HP) (b_x0 : Nat) (ho : Own κ w (Tvisorref19_M.own κ b_x0 x0 :: S)) :
  Calls Tryz.prog 89 #[pp b_x0, .agg (vals x1)] w (visorref20_Not.R κ S x0 x1 b_x0 r) := by
 unfold visorref20_Not.m at hm
 generalize hRR : visorref20_Not.R κ S x0 x1 b_x0 r = RR
 refine qen [(0, pp b_x0), (1, .agg (vals x1))] Tryz.func89 Tryz.ntmps89 ho fun a hs => ?_
 refine qsr fun K1 hK1 => ?_
 refine qbx 1 35 x1 3 hs fun b_2 w a hs => ?_
 refine qal 35 [ci 0, ci 0, ci 0] 4 hs fun b_3 w a hs => ?_
 refine qpk 0 [0, 3, 4] hs fun a hs => hK1 _ _ ?_
 clear hK1
 refine qsr fun K4 hK4 => ?_
 refine qpu 3 hs fun a hs => ?_
 obtain ⟨v_6, h_5, hm⟩ := bind_t hm
 refine qli 1 hs rfl h_5 fun a hs => ?_
 obtain ⟨v_9, h_8, hm⟩ := bind_t hm
 refine qcl (visorref19_Op.ok _ _ _ _ _ _ _ h_8 _ _ (pt b_3 (blk [ci 0, ci 0, ci 0] 35) :: pt b_2 (blk x1 35) :: Tvisorref19_M.own κ b_x0 x0 :: S) hs.own) hs fun w a hs => ?_
 obtain ⟨v_12, h_11, hm⟩ := bind_t hm
 refine qcl (visorref19_M_Do.ok _ _ _ _ _ h_11 _ _ _ b_x0 hs.own.f2) hs fun w a hs => ?_
 refine qpu 2 hs fun a hs => ?_
 obtain ⟨h_13, hm⟩ := ite_t hm
 refine Vk.step (Vk.store1 (b := b_2) (ty := 3) (x := (.tmp 12)) (y := (.tmp 10)) (off := 0) (ci v_12.1) 2 hs (by kernel_rfl) (by kernel_rfl) (by kernel_rfl) (by kernel_rfl) (by kernel_rfl) (by kernel_rfl) rfl h_13 fun a w hs => ?_)
 refine qpe 0 [(3, pp b_2), (4, pp b_3)] hs fun a hs => hK4 _ _ ?_
 clear hK4
 refine qsr fun K14 hK14 => ?_
 obtain ⟨h_15, hm⟩ := ite_t hm
 refine qlw 2 hs rfl h_15 fun a hs => ?_
 refine qsb 1 (x1.set (0) (ci v_12.1)) hs rfl h_15 rfl fun a w hs => ?_
 refine qpe 0 [(4, pp b_3)] hs fun a hs => hK14 _ _ ?_
 clear hK14
 refine wp_ret ?_
 exact Vk.retC (x1.set (0) (ci v_12.1)) hs rfl (by kernel_rfl) (sz := 3) (by kernel_rfl) h_15 (CellsAt.all 1 rfl) (hRR ▸ by cases hm; exact ⟨rfl, hs.own.f2.drop.f1.drop⟩)


abbrev visorref23_Less.R (κ : Ctx) (S : List HP) (x0 : Tvisorref19_M) (x1 : Int) (x2 : Cells) (x3 : Cells) (b_x0 : Nat) (r : (Cells × Tvisorref19_M)) : Ending → World → Prop := fun e w' => e = .returned (.agg (vals r.1)) ∧ Own κ w' (Tvisorref19_M.own κ b_x0 r.2 :: S)
def visorref23_Less.m (k : Nat) (x0 : Tvisorref19_M) (x1 : Int) (x2 : Cells) (x3 : Cells) : Option (Cells × Tvisorref19_M) := (if x2.length = 3 then (if x3.length = 3 then (visorref20_Not.m k x0 x2).bind fun v_11 => (visorref23_And.m k v_11.2 x1 v_11.1 x3).bind fun v_14 => (if v_14.1.length = 3 then some (v_14.1, v_14.2) else none) else none) else none)

set_option maxRecDepth 100000 in
set_option maxHeartbeats 4000000 in
theorem visorref23_Less.ok (k : Nat) (x0 : Tvisorref19_M) (x1 : Int) (x2 : Cells) (x3 : Cells) (r : (Cells × Tvisorref19_M)) (hm : visorref23_Less.m k x0 x1 x2 x3 = some r) (κ : Ctx) (w : World) (S : List HP) (b_x0 : Nat) (ho : Own κ w (Tvisorref19_M.own κ b_x0 x0 :: S)) :
  Calls Tryz.prog 34 #[pp b_x0, vi x1, .agg (vals x2), .agg (vals x3)] w (visorref23_Less.R κ S x0 x1 x2 x3 b_x0 r) := by
 unfold visorref23_Less.m at hm
 generalize hRR : visorref23_Less.R κ S x0 x1 x2 x3 b_x0 r = RR
 refine qen [(0, pp b_x0), (1, vi x1), (2, .agg (vals x2)), (3, .agg (vals x3))] Tryz.func34 Tryz.ntmps34 ho fun a hs => ?_
 refine qsr fun K1 hK1 => ?_
 refine qbx 2 35 x2 6 hs fun b_2 w a hs => ?_
 refine qbx 3 35 x3 7 hs fun b_3 w a hs => ?_
 refine qal 35 [ci 0, ci 0, ci 0] 8 hs fun b_4 w a hs => ?_
 refine qpk 0 [0, 1, 6, 7, 8] hs fun a hs => hK1 _ _ ?_
 clear hK1
 refine Vk.seq fun K5 hK5 => ?_
 obtain ⟨C_6, hC_6⟩ := qC hs.own.f3.drop
 refine qdr 7 κ C_6 hs fun w hs hqC_6 => ?_
 have hcl := qO hC_6 hs.own.f3.drop
 refine qdp (fuel := 5) [0, 1, 2] hs hcl hqC_6 fun a hs => ?_
 obtain ⟨h_7, hm⟩ := ite_t hm
 refine qdw 3 2 hs hcl hqC_6 hC_6 rfl h_7 fun a hs => ?_
 obtain ⟨h_8, hm⟩ := ite_t hm
 refine qdw 5 1 hs hcl hqC_6 hC_6 rfl h_8 fun a hs => ?_
 obtain ⟨v_11, h_10, hm⟩ := bind_t hm
 refine qdc 4 (visorref20_Not.ok _ _ _ _ h_10 _ _ _ b_x0 hs.own.f3) hs fun w a hs => ?_
 replace hcl := qO hC_6 hs.own.drop
 refine ⟨fun _ => hcl, ?_⟩
 obtain ⟨v_14, h_13, hm⟩ := bind_t hm
 refine qdc 6 (visorref23_And.ok _ _ _ _ _ _ h_13 _ _ _ b_x0 hs.own) hs fun w a hs => ?_
 replace hcl := qO hC_6 hs.own.drop
 refine ⟨fun _ => hcl, ?_⟩
 obtain ⟨h_15, hm⟩ := ite_t hm
 refine qsA 7 1 v_14.1 hs rfl h_15 rfl fun a w hs => ?_
 refine ⟨fun h => absurd h (by decide), ?_⟩
 replace hs := hs.pick [8] (L' := [(8, pp b_4)]) (by kernel_rfl)
 refine Vk.dDone (by kernel_rfl) ?_
 refine hK5 _ _ ?_
 clear hK5
 refine wp_ret ?_
 exact Vk.retC v_14.1 hs rfl (by kernel_rfl) (sz := 3) (by kernel_rfl) h_15 (CellsAt.all 1 rfl) (hRR ▸ by cases hm; exact ⟨rfl, (hs.own.too [0] 4)⟩)


abbrev both_Or.R (κ : Ctx) (S : List HP) (x0 : Twire_Machine) (x1 : Int) (x2 : Cells) (x3 : Cells) (b_x0 : Nat) (r : (Cells × Twire_Machine)) : Ending → World → Prop := fun e w' => e = .returned (.agg (vals r.1)) ∧ Own κ w' (Twire_Machine.own b_x0 r.2 :: S)
def both_Or.m (k : Nat) (x0 : Twire_Machine) (x1 : Int) (x2 : Cells) (x3 : Cells) : Option (Cells × Twire_Machine) := (if x2.length = 3 then (share_Not.m k x0 x2).bind fun v_9 => (if v_9.1.length = 3 then (if x3.length = 3 then (share_Not.m k v_9.2 x3).bind fun v_15 => (if v_15.1.length = 3 then (both_And.m k v_15.2 x1 v_9.1 v_15.1).bind fun v_20 => (share_Not.m k v_20.2 v_20.1).bind fun v_23 => (if v_23.1.length = 3 then some (v_23.1, v_23.2) else none) else none) else none) else none) else none)

set_option maxRecDepth 100000 in
set_option maxHeartbeats 4000000 in
theorem both_Or.ok (k : Nat) (x0 : Twire_Machine) (x1 : Int) (x2 : Cells) (x3 : Cells) (r : (Cells × Twire_Machine)) (hm : both_Or.m k x0 x1 x2 x3 = some r) (κ : Ctx) (w : World) (S : List HP) (b_x0 : Nat) (ho : Own κ w (Twire_Machine.own b_x0 x0 :: S)) :
  Calls Tryz.prog 35 #[pp b_x0, vi x1, .agg (vals x2), .agg (vals x3)] w (both_Or.R κ S x0 x1 x2 x3 b_x0 r) := by
 unfold both_Or.m at hm
 generalize hRR : both_Or.R κ S x0 x1 x2 x3 b_x0 r = RR
 refine qen [(0, pp b_x0), (1, vi x1), (2, .agg (vals x2)), (3, .agg (vals x3))] Tryz.func35 Tryz.ntmps35 ho fun a hs => ?_
 refine qsr fun K1 hK1 => ?_
 refine qbx 2 35 x2 6 hs fun b_2 w a hs => ?_
 refine qbx 3 35 x3 7 hs fun b_3 w a hs => ?_
 refine qal 35 [ci 0, ci 0, ci 0] 8 hs fun b_4 w a hs => ?_
 refine qpk 0 [0, 1, 6, 7, 8] hs fun a hs => hK1 _ _ ?_
 clear hK1
 refine qsr fun K5 hK5 => ?_
 refine qpu 1 hs fun a hs => ?_
 obtain ⟨h_6, hm⟩ := ite_t hm
 refine qlw 2 hs rfl h_6 fun a hs => ?_
 obtain ⟨v_9, h_8, hm⟩ := bind_t hm
 refine qcl (share_Not.ok _ _ _ _ h_8 _ _ _ b_x0 hs.own.f3) hs fun w a hs => ?_
 obtain ⟨h_10, hm⟩ := ite_t hm
 refine qsb 3 v_9.1 hs rfl h_10 h_6 fun a w hs => ?_
 refine qpk 0 [0, 1, 6, 7, 8] hs fun a hs => hK5 _ _ ?_
 clear hK5
 refine qsr fun K11 hK11 => ?_
 refine qpu 1 hs fun a hs => ?_
 obtain ⟨h_12, hm⟩ := ite_t hm
 refine qlw 2 hs rfl h_12 fun a hs => ?_
 obtain ⟨v_15, h_14, hm⟩ := bind_t hm
 refine qcl (share_Not.ok _ _ _ _ h_14 _ _ _ b_x0 hs.own) hs fun w a hs => ?_
 obtain ⟨h_16, hm⟩ := ite_t hm
 refine qsb 2 v_15.1 hs rfl h_16 h_12 fun a w hs => ?_
 refine qpk 0 [0, 1, 6, 7, 8] hs fun a hs => hK11 _ _ ?_
 clear hK11
 refine qsr fun K17 hK17 => ?_
 refine qpu 3 hs fun a hs => ?_
 refine qlw 3 hs rfl h_10 fun a hs => ?_
 refine qlw 2 hs rfl h_16 fun a hs => ?_
 obtain ⟨v_20, h_19, hm⟩ := bind_t hm
 refine qcl (both_And.ok _ _ _ _ _ _ h_19 _ _ _ b_x0 hs.own) hs fun w a hs => ?_
 obtain ⟨v_23, h_22, hm⟩ := bind_t hm
 refine qcl (share_Not.ok _ _ _ _ h_22 _ _ _ b_x0 hs.own) hs fun w a hs => ?_
 obtain ⟨h_24, hm⟩ := ite_t hm
 refine qsb 1 v_23.1 hs rfl h_24 rfl fun a w hs => ?_
 refine qpe 0 [(8, pp b_4)] hs fun a hs => hK17 _ _ ?_
 clear hK17
 refine wp_ret ?_
 exact Vk.retC v_23.1 hs rfl (by kernel_rfl) (sz := 3) (by kernel_rfl) h_24 (CellsAt.all 1 rfl) (hRR ▸ by cases hm; exact ⟨rfl, (hs.own.too [0] 4)⟩)


abbrev visorref23_Or.R (κ : Ctx) (S : List HP) (x0 : Tvisorref19_M) (x1 : Int) (x2 : Cells) (x3 : Cells) (b_x0 : Nat) (r : (Cells × Tvisorref19_M)) : Ending → World → Prop := fun e w' => e = .returned (.agg (vals r.1)) ∧ Own κ w' (Tvisorref19_M.own κ b_x0 r.2 :: S)
def visorref23_Or.m (k : Nat) (x0 : Tvisorref19_M) (x1 : Int) (x2 : Cells) (x3 : Cells) : Option (Cells × Tvisorref19_M) := (if x2.length = 3 then (visorref20_Not.m k x0 x2).bind fun v_9 => (if v_9.1.length = 3 then (if x3.length = 3 then (visorref20_Not.m k v_9.2 x3).bind fun v_16 => (if v_16.1.length = 3 then (visorref23_And.m k v_16.2 x1 v_9.1 v_16.1).bind fun v_22 => (visorref20_Not.m k v_22.2 v_22.1).bind fun v_25 => (if v_25.1.length = 3 then some (v_25.1, v_25.2) else none) else none) else none) else none) else none)

set_option maxRecDepth 100000 in
set_option maxHeartbeats 4000000 in
theorem visorref23_Or.ok (k : Nat) (x0 : Tvisorref19_M) (x1 : Int) (x2 : Cells) (x3 : Cells) (r : (Cells × Tvisorref19_M)) (hm : visorref23_Or.m k x0 x1 x2 x3 = some r) (κ : Ctx) (w : World) (S : List HP) (b_x0 : Nat) (ho : Own κ w (Tvisorref19_M.own κ b_x0 x0 :: S)) :
  Calls Tryz.prog 36 #[pp b_x0, vi x1, .agg (vals x2), .agg (vals x3)] w (visorref23_Or.R κ S x0 x1 x2 x3 b_x0 r) := by
 unfold visorref23_Or.m at hm
 generalize hRR : visorref23_Or.R κ S x0 x1 x2 x3 b_x0 r = RR
 refine qen [(0, pp b_x0), (1, vi x1), (2, .agg (vals x2)), (3, .agg (vals x3))] Tryz.func36 Tryz.ntmps36 ho fun a hs => ?_
 refine qsr fun K1 hK1 => ?_
 refine qbx 2 35 x2 6 hs fun b_2 w a hs => ?_
 refine qbx 3 35 x3 7 hs fun b_3 w a hs => ?_
 refine qal 35 [ci 0, ci 0, ci 0] 8 hs fun b_4 w a hs => ?_
 refine qpk 0 [0, 1, 6, 7, 8] hs fun a hs => hK1 _ _ ?_
 clear hK1
 refine qsr fun K5 hK5 => ?_
 refine qpu 1 hs fun a hs => ?_
 obtain ⟨h_6, hm⟩ := ite_t hm
 refine qlw 2 hs rfl h_6 fun a hs => ?_
 obtain ⟨v_9, h_8, hm⟩ := bind_t hm
 refine qcl (visorref20_Not.ok _ _ _ _ h_8 _ _ _ b_x0 hs.own.f3) hs fun w a hs => ?_
 refine qal 35 [ci 0, ci 0, ci 0] 9 hs fun b_10 w a hs => ?_
 obtain ⟨h_11, hm⟩ := ite_t hm
 refine qsb 0 v_9.1 hs rfl h_11 rfl fun a w hs => ?_
 refine qpk 0 [0, 1, 7, 8, 9] hs fun a hs => hK5 _ _ ?_
 clear hK5
 refine qsr fun K12 hK12 => ?_
 refine qpu 1 hs fun a hs => ?_
 obtain ⟨h_13, hm⟩ := ite_t hm
 refine qlw 3 hs rfl h_13 fun a hs => ?_
 obtain ⟨v_16, h_15, hm⟩ := bind_t hm
 refine qcl (visorref20_Not.ok _ _ _ _ h_15 _ _ _ b_x0 hs.own.f1) hs fun w a hs => ?_
 refine qal 35 [ci 0, ci 0, ci 0] 10 hs fun b_17 w a hs => ?_
 obtain ⟨h_18, hm⟩ := ite_t hm
 refine qsb 0 v_16.1 hs rfl h_18 rfl fun a w hs => ?_
 refine qpk 0 [0, 1, 8, 9, 10] hs fun a hs => hK12 _ _ ?_
 clear hK12
 refine qsr fun K19 hK19 => ?_
 refine qpu 3 hs fun a hs => ?_
 refine qlw 2 hs rfl h_11 fun a hs => ?_
 refine qlw 0 hs rfl h_18 fun a hs => ?_
 obtain ⟨v_22, h_21, hm⟩ := bind_t hm
 refine qcl (visorref23_And.ok _ _ _ _ _ _ h_21 _ _ _ b_x0 hs.own.f1) hs fun w a hs => ?_
 obtain ⟨v_25, h_24, hm⟩ := bind_t hm
 refine qcl (visorref20_Not.ok _ _ _ _ h_24 _ _ _ b_x0 hs.own) hs fun w a hs => ?_
 obtain ⟨h_26, hm⟩ := ite_t hm
 refine qsb 3 v_25.1 hs rfl h_26 rfl fun a w hs => ?_
 refine qpe 0 [(8, pp b_4)] hs fun a hs => hK19 _ _ ?_
 clear hK19
 refine wp_ret ?_
 exact Vk.retC v_25.1 hs rfl (by kernel_rfl) (sz := 3) (by kernel_rfl) h_26 (CellsAt.all 3 rfl) (hRR ▸ by cases hm; exact ⟨rfl, (hs.own.too [0] 6)⟩)


def both_Any.l1 (x1 : Int) (x2 : List Cells) : Nat → Twire_Machine → Cells → Int → Option (Cells × Twire_Machine)
 | 0, _, _, _ => none
 | k + 1, q_29, q_30, q_31 => (bif decide (q_31 < (((cut x2 (1) (x2.length)).length : Nat) : Int)) then (if 0 ≤ q_31 then ((cut x2 (1) (x2.length))[q_31.toNat]?).bind fun e_39 => (if e_39.length = 3 then (if q_30.length = 3 then (both_Or.m k q_29 x1 q_30 e_39).bind fun v_48 => (if v_48.1.length = 3 then both_Any.l1 x1 x2 k v_48.2 v_48.1 (IntKind.i64.wrap (q_31 + 1)) else none) else none) else none) else none) else some (q_30, q_29))
abbrev both_Any.R (κ : Ctx) (S : List HP) (x0 : Twire_Machine) (x1 : Int) (x2 : List Cells) (b_x0 : Nat) (A_x2 : Option Addr) (c_x2 : Nat) (r : (Cells × Twire_Machine)) : Ending → World → Prop := fun e w' => e = .returned (.agg (vals r.1)) ∧ Own κ w' (Twire_Machine.own b_x0 r.2 :: S)
def both_Any.m (k : Nat) (x0 : Twire_Machine) (x1 : Int) (x2 : List Cells) : Option (Cells × Twire_Machine) := (bif ((x2.length : Nat) : Int) == 0 then (share_Public.m k x0 0).bind fun v_8 => (if v_8.1.length = 3 then some (v_8.1, v_8.2) else none) else (if 0 ≤ (0 : Int) then (x2[0]?).bind fun e_14 => (if e_14.length = 3 then (if ((0 : Int) ≤ 1) ∧ 1 ≤ x2.length ∧ x2.length ≤ x2.length then (both_Any.l1 x1 x2 k x0 e_14 0).bind fun x => match x with | (p_50, p_51) => (if p_50.length = 3 then some (p_50, p_51) else none) else none) else none) else none))

set_option maxRecDepth 100000 in
set_option maxHeartbeats 4000000 in
theorem both_Any.ok (k : Nat) (x0 : Twire_Machine) (x1 : Int) (x2 : List Cells) (r : (Cells × Twire_Machine)) (hm : both_Any.m k x0 x1 x2 = some r) (κ : Ctx) (w : World) (S : List HP) (b_x0 : Nat) (A_x2 : Option Addr) (c_x2 : Nat) (hx_x2 : Sl κ S A_x2 c_x2 3 eC x2) (ho : Own κ w (Twire_Machine.own b_x0 x0 :: S)) :
  Calls Tryz.prog 37 #[pp b_x0, vi x1, .slice A_x2 x2.length c_x2] w (both_Any.R κ S x0 x1 x2 b_x0 A_x2 c_x2 r) := by
 unfold both_Any.m at hm
 generalize hRR : both_Any.R κ S x0 x1 x2 b_x0 A_x2 c_x2 r = RR
 refine qen [(0, pp b_x0), (1, vi x1), (2, .slice A_x2 x2.length c_x2)] Tryz.func37 Tryz.ntmps37 ho fun a hs => ?_
 refine qsr fun K1 hK1 => ?_
 refine qal 35 [ci 0, ci 0, ci 0] 6 hs fun b_2 w a hs => ?_
 refine qpk 0 [0, 1, 2, 6] hs fun a hs => hK1 _ _ ?_
 clear hK1
 refine Vk.seq fun K3 hK3 => ?_
 refine qsk 3 [0, 1, 2, 6, 12] hs fun a hs => ?_
 refine qcs (((x2.length : Nat) : Int) == 0) hs (fun hb => ?_) fun hb => ?_
 ·replace hm := bif_t hm hb
  refine qsr fun K5 hK5 => ?_
  refine qpu 1 hs fun a hs => ?_
  obtain ⟨v_8, h_7, hm⟩ := bind_t hm
  refine qcl (share_Public.ok _ _ _ _ h_7 _ _ _ b_x0 hs.own.f1) hs fun w a hs => ?_
  obtain ⟨h_9, hm⟩ := ite_t hm
  refine qsb 1 v_8.1 hs rfl h_9 rfl fun a w hs => ?_
  refine qpe 0 [(6, pp b_2)] hs fun a hs => hK5 _ _ ?_
  clear hK5
  refine wp_ret ?_
  exact Vk.retC v_8.1 hs rfl (by kernel_rfl) (sz := 3) (by kernel_rfl) h_9 (CellsAt.all 1 rfl) (hRR ▸ by cases hm; exact ⟨rfl, hs.own.f1.drop⟩)
 ·replace hm := bif_f hm hb
  refine wp_skip ?_
  refine hK3 _ _ ?_
  clear hK3
  refine qsr fun K10 hK10 => ?_
  refine qpu 1 hs fun a hs => ?_
  obtain ⟨h_11, hm⟩ := ite_t hm
  obtain ⟨e_14, h_12, hm⟩ := bind_t hm
  obtain ⟨b_15, o_16, hA_17, h_13⟩ := Sl.elem hx_x2 h_12
  refine qva (.pointer (some ⟨b_15, o_16 + 0 * 3, none⟩)) (op := (.indexAddr 28 (.tmp 15) (.const (vi 0)))) hs (fun o ho => run_idxSlc (k := .i64) ho (cap := c_x2) (len := x2.length) ((congrArg (fun A => Value.slice A (x2.length) (c_x2)) hA_17) ▸ (by kernel_rfl)) (by kernel_rfl) (by kernel_rfl) (idx_ok h_11 h_12) _) fun a hs => ?_
  obtain ⟨h_18, hm⟩ := ite_t hm
  refine qva (.agg (vals e_14)) (op := (.load 35 (.tmp 16))) hs (fun o ho => run_loadN (cs := e_14) ho (by kernel_rfl) (by kernel_rfl) h_18 h_13 _ hs.own.drop.drop) fun a hs => ?_
  refine qal 35 [ci 0, ci 0, ci 0] 7 hs fun b_19 w a hs => ?_
  refine qsb 0 e_14 hs rfl h_18 rfl fun a w hs => ?_
  refine qpk 0 [0, 1, 2, 6, 7] hs fun a hs => hK10 _ _ ?_
  clear hK10
  refine Vk.seq fun K20 hK20 => ?_
  refine qsr fun K21 hK21 => ?_
  refine qpu 1 hs fun a hs => ?_
  obtain ⟨h_22, hm⟩ := ite_t hm
  obtain ⟨A_23, c_24, eA_25, ec_26, hx_27⟩ := Sl.sub hx_x2 h_22.2
  refine qva (.slice A_23 ((cut x2 (1) (x2.length)).length) c_24) (op := (.slice 28 (.tmp 18) (some (.const (vi 1))) none none)) hs (fun o ho => run_sub (sz := 3) (e := 35) h_22.2 eA_25 ec_26 (Sl.le hx_x2) ho (by kernel_rfl) (by kernel_rfl) (by kernel_rfl) ⟨.i64, 1, by kernel_rfl, h_22.1, rfl⟩ rfl _) fun a hs => ?_
  refine qpk 2 [0, 1, 6, 7, 19, 20, 21] hs fun a hs => hK21 _ _ ?_
  clear hK21
  refine wp_block ?_
  obtain ⟨r28, hl28, hm⟩ := bind_t hm
  have hx28 : ∀ (p_50 : Cells) (p_51 : Twire_Machine), r28 = (p_50, p_51) → ∀ (a : Act) (w : World), St 32 a w κ [(6, pp b_2), (7, pp b_19)] (pt b_2 (blk [ci 0, ci 0, ci 0] 35) :: pt b_19 (blk p_50 35) :: Twire_Machine.own b_x0 p_51 :: S) → K20 a w := by
   intro p_50 p_51 he a w hs
   subst r28
   refine hK20 _ _ ?_
   clear hK20
   refine qsr fun K55 hK55 => ?_
   obtain ⟨h_56, hm⟩ := ite_t hm
   refine qlw 1 hs rfl h_56 fun a hs => ?_
   refine qsb 0 p_50 hs rfl h_56 rfl fun a w hs => ?_
   refine qpe 0 [(6, pp b_2)] hs fun a hs => hK55 _ _ ?_
   clear hK55
   refine wp_ret ?_
   exact Vk.retC p_50 hs rfl (by kernel_rfl) (sz := 3) (by kernel_rfl) h_56 (CellsAt.all 0 rfl) (hRR ▸ by cases hm; exact ⟨rfl, hs.own.f1.drop.drop⟩)
  refine Vk.loopBy (fun k (s : Twire_Machine × Cells × Int) a w => both_Any.l1 x1 x2 k s.1 s.2.1 s.2.2 = some r28 ∧ St 32 a w κ [(0, pp b_x0), (1, vi x1), (6, pp b_2), (7, pp b_19), (19, .slice A_23 ((cut x2 (1) (x2.length)).length) c_24), (20, vi (((cut x2 (1) (x2.length)).length : Nat) : Int)), (21, vi s.2.2)] (Twire_Machine.own b_x0 s.1 :: pt b_2 (blk [ci 0, ci 0, ci 0] 35) :: pt b_19 (blk s.2.1 35) :: S)) k (x0, e_14, 0) ⟨hl28, hs.go [0, 1, 6, 7, 19, 20, 21] [2, 1, 0] 3 (by kernel_rfl) (by kernel_rfl) (by kernel_rfl)⟩ (fun s a w h => by obtain ⟨h1, _⟩ := h; simp [both_Any.l1] at h1) (fun k KL28 ih s a w h => ?_)
  obtain ⟨q_29, q_30, q_31⟩ := s
  obtain ⟨hm, hs⟩ := h
  try dsimp only at hm hs
  rw [both_Any.l1] at hm
  refine qsk 1 [0, 1, 6, 7, 19, 20, 21, 22] hs fun a hs => ?_
  refine Vk.seq fun K33 hK33 => ?_
  refine qcs (decide (q_31 < (((cut x2 (1) (x2.length)).length : Nat) : Int))) hs (fun hb => ?_) fun hb => ?_
  ·replace hm := bif_t hm hb
   refine wp_skip ?_
   refine hK33 _ _ ?_
   clear hK33
   refine Vk.seq fun K34 hK34 => ?_
   refine wp_block ?_
   refine qsr fun K35 hK35 => ?_
   obtain ⟨h_36, hm⟩ := ite_t hm
   obtain ⟨e_39, h_37, hm⟩ := bind_t hm
   obtain ⟨b_40, o_41, hA_42, h_38⟩ := Sl.elem hx_27 h_37
   refine qva (.pointer (some ⟨b_40, o_41 + q_31.toNat * 3, none⟩)) (op := (.indexAddr 28 (.tmp 19) (.tmp 21))) hs (fun o ho => run_idxSlc (k := .i64) ho (cap := c_24) (len := (cut x2 (1) (x2.length)).length) ((congrArg (fun A => Value.slice A ((cut x2 (1) (x2.length)).length) (c_24)) hA_42) ▸ (by kernel_rfl)) (by kernel_rfl) (by kernel_rfl) (idx_ok h_36 h_37) _) fun a hs => ?_
   obtain ⟨h_43, hm⟩ := ite_t hm
   refine qva (.agg (vals e_39)) (op := (.load 35 (.tmp 23))) hs (fun o ho => run_loadN (cs := e_39) ho (by kernel_rfl) (by kernel_rfl) h_43 h_38 _ hs.own.drop.drop.drop) fun a hs => ?_
   refine qal 35 [ci 0, ci 0, ci 0] 9 hs fun b_44 w a hs => ?_
   refine qsb 0 e_39 hs rfl h_43 rfl fun a w hs => ?_
   refine qpk 0 [0, 1, 6, 7, 9, 19, 20, 21] hs fun a hs => hK35 _ _ ?_
   clear hK35
   refine Vk.region ?_
   refine qpu 2 hs fun a hs => ?_
   obtain ⟨h_45, hm⟩ := ite_t hm
   refine qlw 3 hs rfl h_45 fun a hs => ?_
   refine qlw 0 hs rfl h_43 fun a hs => ?_
   obtain ⟨v_48, h_47, hm⟩ := bind_t hm
   refine qcl (both_Or.ok _ _ _ _ _ _ h_47 _ _ _ b_x0 hs.own.f1) hs fun w a hs => ?_
   obtain ⟨h_49, hm⟩ := ite_t hm
   refine qsb 3 v_48.1 hs rfl h_49 h_45 fun a w hs => ?_
   refine qpk 0 [0, 1, 6, 7, 19, 20, 21] hs fun a hs => hK34 _ _ ?_
   clear hK34
   refine Vk.region ?_
   refine qpk 2 [0, 1, 6, 7, 19, 20, 21] hs fun a hs => ?_
   refine ih (v_48.2, v_48.1, (IntKind.i64.wrap (q_31 + 1))) _ _ ⟨hm, hs.go [0, 1, 6, 7, 19, 20, 21] [0, 2, 3] 4 (by kernel_rfl) (by kernel_rfl) (by kernel_rfl)⟩
  ·replace hm := bif_f hm hb
   refine wp_exit ?_
   exact hx28 q_30 q_29 (Option.some.inj hm).symm _ _ (hs.go [6, 7] [1, 2, 0] 3 (by kernel_rfl) (by kernel_rfl) (by kernel_rfl))


def visorref23_Any.l1 (x1 : Int) (x2 : List Cells) : Nat → Tvisorref19_M → Cells → Int → Option (Cells × Tvisorref19_M)
 | 0, _, _, _ => none
 | k + 1, q_23, q_24, q_25 => (bif decide (q_25 < ((x2.length : Nat) : Int)) then (if q_24.length = 3 then (if 0 ≤ q_25 then (x2[q_25.toNat]?).bind fun e_34 => (if e_34.length = 3 then (visorref23_Or.m k q_23 x1 q_24 e_34).bind fun v_41 => (if v_41.1.length = 3 then visorref23_Any.l1 x1 x2 k v_41.2 v_41.1 (IntKind.i64.wrap (q_25 + 1)) else none) else none) else none) else none) else some (q_24, q_23))
abbrev visorref23_Any.R (κ : Ctx) (S : List HP) (x0 : Tvisorref19_M) (x1 : Int) (x2 : List Cells) (b_x0 : Nat) (A_x2 : Option Addr) (c_x2 : Nat) (r : (Cells × Tvisorref19_M)) : Ending → World → Prop := fun e w' => e = .returned (.agg (vals r.1)) ∧ Own κ w' (Tvisorref19_M.own κ b_x0 r.2 :: S)
def visorref23_Any.m (k : Nat) (x0 : Tvisorref19_M) (x1 : Int) (x2 : List Cells) : Option (Cells × Tvisorref19_M) := (bif ((x2.length : Nat) : Int) == 0 then (visorref20_Const.m k x0 3 0).bind fun v_8 => (if v_8.1.length = 3 then some (v_8.1, v_8.2) else none) else (if 0 ≤ (0 : Int) then (x2[0]?).bind fun e_14 => (if e_14.length = 3 then (visorref23_Any.l1 x1 x2 k x0 e_14 1).bind fun x => match x with | (p_43, p_44) => (if p_43.length = 3 then some (p_43, p_44) else none) else none) else none))

set_option maxRecDepth 100000 in
set_option maxHeartbeats 4000000 in
theorem visorref23_Any.ok (k : Nat) (x0 : Tvisorref19_M) (x1 : Int) (x2 : List Cells) (r : (Cells × Tvisorref19_M)) (hm : visorref23_Any.m k x0 x1 x2 = some r) (κ : Ctx) (w : World) (S : List HP) (b_x0 : Nat) (A_x2 : Option Addr) (c_x2 : Nat) (hx_x2 : Sl κ S A_x2 c_x2 3 eC x2) (ho : Own κ w (Tvisorref19_M.own κ b_x0 x0 :: S)) :
  Calls Tryz.prog 38 #[pp b_x0, vi x1, .slice A_x2 x2.length c_x2] w (visorref23_Any.R κ S x0 x1 x2 b_x0 A_x2 c_x2 r) := by
 unfold visorref23_Any.m at hm
 generalize hRR : visorref23_Any.R κ S x0 x1 x2 b_x0 A_x2 c_x2 r = RR
 refine qen [(0, pp b_x0), (1, vi x1), (2, .slice A_x2 x2.length c_x2)] Tryz.func38 Tryz.ntmps38 ho fun a hs => ?_
 refine qsr fun K1 hK1 => ?_
 refine qal 35 [ci 0, ci 0, ci 0] 6 hs fun b_2 w a hs => ?_
 refine qpk 0 [0, 1, 2, 6] hs fun a hs => hK1 _ _ ?_
 clear hK1
 refine Vk.seq fun K3 hK3 => ?_
 refine qsk 3 [0, 1, 2, 6, 11] hs fun a hs => ?_
 refine qcs (((x2.length : Nat) : Int) == 0) hs (fun hb => ?_) fun hb => ?_
 ·replace hm := bif_t hm hb
  refine qsr fun K5 hK5 => ?_
  refine qpu 1 hs fun a hs => ?_
  obtain ⟨v_8, h_7, hm⟩ := bind_t hm
  refine qcl (visorref20_Const.ok _ _ _ _ _ h_7 _ _ _ b_x0 hs.own.f1) hs fun w a hs => ?_
  obtain ⟨h_9, hm⟩ := ite_t hm
  refine qsb 1 v_8.1 hs rfl h_9 rfl fun a w hs => ?_
  refine qpe 0 [(6, pp b_2)] hs fun a hs => hK5 _ _ ?_
  clear hK5
  refine wp_ret ?_
  exact Vk.retC v_8.1 hs rfl (by kernel_rfl) (sz := 3) (by kernel_rfl) h_9 (CellsAt.all 1 rfl) (hRR ▸ by cases hm; exact ⟨rfl, hs.own.f1.drop⟩)
 ·replace hm := bif_f hm hb
  refine wp_skip ?_
  refine hK3 _ _ ?_
  clear hK3
  refine qsr fun K10 hK10 => ?_
  refine qpu 1 hs fun a hs => ?_
  obtain ⟨h_11, hm⟩ := ite_t hm
  obtain ⟨e_14, h_12, hm⟩ := bind_t hm
  obtain ⟨b_15, o_16, hA_17, h_13⟩ := Sl.elem hx_x2 h_12
  refine qva (.pointer (some ⟨b_15, o_16 + 0 * 3, none⟩)) (op := (.indexAddr 28 (.tmp 14) (.const (vi 0)))) hs (fun o ho => run_idxSlc (k := .i64) ho (cap := c_x2) (len := x2.length) ((congrArg (fun A => Value.slice A (x2.length) (c_x2)) hA_17) ▸ (by kernel_rfl)) (by kernel_rfl) (by kernel_rfl) (idx_ok h_11 h_12) _) fun a hs => ?_
  obtain ⟨h_18, hm⟩ := ite_t hm
  refine qva (.agg (vals e_14)) (op := (.load 35 (.tmp 15))) hs (fun o ho => run_loadN (cs := e_14) ho (by kernel_rfl) (by kernel_rfl) h_18 h_13 _ hs.own.drop.drop) fun a hs => ?_
  refine qal 35 [ci 0, ci 0, ci 0] 7 hs fun b_19 w a hs => ?_
  refine qsb 0 e_14 hs rfl h_18 rfl fun a w hs => ?_
  refine qpk 0 [0, 1, 2, 6, 7] hs fun a hs => hK10 _ _ ?_
  clear hK10
  refine Vk.seq fun K20 hK20 => ?_
  refine qsk 1 [0, 1, 2, 6, 7, 8] hs fun a hs => ?_
  refine wp_block ?_
  obtain ⟨r22, hl22, hm⟩ := bind_t hm
  have hx22 : ∀ (p_43 : Cells) (p_44 : Tvisorref19_M), r22 = (p_43, p_44) → ∀ (a : Act) (w : World), St 32 a w κ [(6, pp b_2), (7, pp b_19)] (pt b_2 (blk [ci 0, ci 0, ci 0] 35) :: pt b_19 (blk p_43 35) :: Tvisorref19_M.own κ b_x0 p_44 :: S) → K20 a w := by
   intro p_43 p_44 he a w hs
   subst r22
   refine hK20 _ _ ?_
   clear hK20
   refine qsr fun K48 hK48 => ?_
   obtain ⟨h_49, hm⟩ := ite_t hm
   refine qlw 1 hs rfl h_49 fun a hs => ?_
   refine qsb 0 p_43 hs rfl h_49 rfl fun a w hs => ?_
   refine qpe 0 [(6, pp b_2)] hs fun a hs => hK48 _ _ ?_
   clear hK48
   refine wp_ret ?_
   exact Vk.retC p_43 hs rfl (by kernel_rfl) (sz := 3) (by kernel_rfl) h_49 (CellsAt.all 0 rfl) (hRR ▸ by cases hm; exact ⟨rfl, hs.own.f1.drop.drop⟩)
  refine Vk.loopBy (fun k (s : Tvisorref19_M × Cells × Int) a w => visorref23_Any.l1 x1 x2 k s.1 s.2.1 s.2.2 = some r22 ∧ St 32 a w κ [(0, pp b_x0), (1, vi x1), (2, .slice A_x2 x2.length c_x2), (6, pp b_2), (7, pp b_19), (8, vi s.2.2)] (Tvisorref19_M.own κ b_x0 s.1 :: pt b_2 (blk [ci 0, ci 0, ci 0] 35) :: pt b_19 (blk s.2.1 35) :: S)) k (x0, e_14, 1) ⟨hl22, hs.go [0, 1, 2, 6, 7, 8] [2, 1, 0] 3 (by kernel_rfl) (by kernel_rfl) (by kernel_rfl)⟩ (fun s a w h => by obtain ⟨h1, _⟩ := h; simp [visorref23_Any.l1] at h1) (fun k KL22 ih s a w h => ?_)
  obtain ⟨q_23, q_24, q_25⟩ := s
  obtain ⟨hm, hs⟩ := h
  try dsimp only at hm hs
  rw [visorref23_Any.l1] at hm
  refine Vk.seq fun K26 hK26 => ?_
  refine qsk 4 [0, 1, 2, 6, 7, 8, 20] hs fun a hs => ?_
  refine qcs (decide (q_25 < ((x2.length : Nat) : Int))) hs (fun hb => ?_) fun hb => ?_
  ·replace hm := bif_t hm hb
   refine wp_skip ?_
   refine hK26 _ _ ?_
   clear hK26
   refine Vk.seq fun K28 hK28 => ?_
   refine wp_block ?_
   obtain ⟨C_29, hC_29⟩ := qC hs.own
   refine qdr 7 κ C_29 hs fun w hs hqC_29 => ?_
   have hcl := qO hC_29 hs.own
   refine qdp (fuel := 5) [0, 1, 3, 4] hs hcl hqC_29 fun a hs => ?_
   obtain ⟨h_30, hm⟩ := ite_t hm
   refine qdw 2 2 hs hcl hqC_29 hC_29 rfl h_30 fun a hs => ?_
   obtain ⟨h_31, hm⟩ := ite_t hm
   obtain ⟨e_34, h_32, hm⟩ := bind_t hm
   obtain ⟨b_35, o_36, hA_37, h_33⟩ := Sl.elem hx_x2 h_32
   refine qdt 5 (.pointer (some ⟨b_35, o_36 + q_25.toNat * 3, none⟩)) (op := (.indexAddr 28 (.tmp 26) (.tmp 27))) hs hcl hqC_29 (fun w hw o ho => by rw [hC_29] at hw; exact run_idxSlc (k := .i64) ho (cap := c_x2) (len := x2.length) ((congrArg (fun A => Value.slice A (x2.length) (c_x2)) hA_37) ▸ (by kernel_rfl)) (by kernel_rfl) (by kernel_rfl) (idx_ok h_31 h_32) _) fun a hs => ?_
   obtain ⟨h_38, hm⟩ := ite_t hm
   refine qdt 6 (.agg (vals e_34)) (op := (.load 35 (.tmp 28))) hs hcl hqC_29 (fun w hw o ho => by rw [hC_29] at hw; exact run_loadN (cs := e_34) ho (by kernel_rfl) (by kernel_rfl) h_38 h_33 _ hw.drop.drop.drop) fun a hs => ?_
   obtain ⟨v_41, h_40, hm⟩ := bind_t hm
   refine qdc 7 (visorref23_Or.ok _ _ _ _ _ _ h_40 _ _ _ b_x0 hs.own) hs fun w a hs => ?_
   refine ⟨fun h => absurd h (by decide), ?_⟩
   obtain ⟨h_42, hm⟩ := ite_t hm
   refine qsA 8 2 v_41.1 hs rfl h_42 h_30 fun a w hs => ?_
   refine ⟨fun h => absurd h (by decide), ?_⟩
   replace hs := hs.pick [0, 1, 2, 6, 7, 8] (L' := [(0, pp b_x0), (1, vi x1), (2, .slice A_x2 x2.length c_x2), (6, pp b_2), (7, pp b_19), (8, vi q_25)]) (by kernel_rfl)
   refine Vk.dDone (by kernel_rfl) ?_
   refine hK28 _ _ ?_
   clear hK28
   refine Vk.region ?_
   refine qpk 3 [0, 1, 2, 6, 7, 8] hs fun a hs => ?_
   refine ih (v_41.2, v_41.1, (IntKind.i64.wrap (q_25 + 1))) _ _ ⟨hm, hs.go [0, 1, 2, 6, 7, 8] [0, 1, 2] 3 (by kernel_rfl) (by kernel_rfl) (by kernel_rfl)⟩
  ·replace hm := bif_f hm hb
   refine wp_exit ?_
   exact hx22 q_24 q_23 (Option.some.inj hm).symm _ _ (hs.go [6, 7] [1, 2, 0] 3 (by kernel_rfl) (by kernel_rfl) (by kernel_rfl))


def share_One.l1 (x1 : Int) (x2 : Cells) (x3 : Int) (v_22 : Int) : Nat → Twire_Machine → Cells → Int → Option (Cells × Twire_Machine)
 | 0, _, _, _ => none
 | k + 1, q_24, q_25, q_26 => (bif decide (q_26 < v_22) then (if 0 ≤ q_26 ∧ q_26 < 3 then (getI .i64 x2 (0 + q_26.toNat * 1)).bind fun v_37 => (wire_Machine_One.m k q_24 x1 q_26 v_37 x3).bind fun v_40 => (if 0 ≤ q_26 ∧ q_26 < 3 then (if 0 + q_26.toNat * 1 < q_25.length then share_One.l1 x1 x2 x3 v_22 k v_40.2 (q_25.set (0 + q_26.toNat * 1) (ci v_40.1)) (IntKind.i64.wrap (q_26 + 1)) else none) else none) else none) else some (q_25, q_24))
abbrev share_One.R (κ : Ctx) (S : List HP) (x0 : Twire_Machine) (x1 : Int) (x2 : Cells) (x3 : Int) (b_x0 : Nat) (r : (Cells × Twire_Machine)) : Ending → World → Prop := fun e w' => e = .returned (.agg (vals r.1)) ∧ Own κ w' (Twire_Machine.own b_x0 r.2 :: S)
def share_One.m (k : Nat) (x0 : Twire_Machine) (x1 : Int) (x2 : Cells) (x3 : Int) : Option (Cells × Twire_Machine) := (share_none.m k).bind fun v_14 => (if v_14.length = 3 then (wire_Machine_N.m k x0).bind fun v_22 => (share_One.l1 x1 x2 x3 v_22 k x0 v_14 0).bind fun x => match x with | (p_43, p_44) => (if p_43.length = 3 then some (p_43, p_44) else none) else none)

set_option maxRecDepth 100000 in
set_option maxHeartbeats 4000000 in
theorem share_One.ok (k : Nat) (x0 : Twire_Machine) (x1 : Int) (x2 : Cells) (x3 : Int) (r : (Cells × Twire_Machine)) (hm : share_One.m k x0 x1 x2 x3 = some r) (κ : Ctx) (w : World) (S : List HP) (b_x0 : Nat) (ho : Own κ w (Twire_Machine.own b_x0 x0 :: S)) :
  Calls Tryz.prog 65 #[pp b_x0, vi x1, .agg (vals x2), vw x3] w (share_One.R κ S x0 x1 x2 x3 b_x0 r) := by
 unfold share_One.m at hm
 generalize hRR : share_One.R κ S x0 x1 x2 x3 b_x0 r = RR
 refine qen [(0, pp b_x0), (1, vi x1), (2, .agg (vals x2)), (3, vw x3)] Tryz.func65 Tryz.ntmps65 ho fun a hs => ?_
 refine qsr fun K1 hK1 => ?_
 refine qbx 0 26 [cp b_x0] 4 hs fun b_2 w a hs => ?_
 refine qbx 1 3 [ci x1] 5 hs fun b_3 w a hs => ?_
 refine qbx 2 35 x2 6 hs fun b_4 w a hs => ?_
 refine qbx 3 23 [cw x3] 7 hs fun b_5 w a hs => ?_
 refine qal 35 [ci 0, ci 0, ci 0] 8 hs fun b_6 w a hs => ?_
 refine qpk 0 [4, 5, 6, 7, 8] hs fun a hs => hK1 _ _ ?_
 clear hK1
 refine qsr fun K7 hK7 => ?_
 refine qld 4 (cp b_x0) hs rfl fun a hs => ?_
 refine qpu 1 hs fun a hs => ?_
 refine Vk.step (Vk.call (some 11) 78 #[pp b_x0, .func (.func 103) #[] #[pp b_2, pp b_3, pp b_4, pp b_5]] hs (by kernel_rfl) (by kernel_rfl) (by kernel_rfl) ?_)
 refine Vk.enterI [(0, pp b_x0), (1, .func (.func 103) #[] #[pp b_2, pp b_3, pp b_4, pp b_5])] Tryz.func78 rfl Tryz.ntmps78 (by kernel_rfl) (Nat.le_of_ble_eq_true (by kernel_rfl)) hs.own fun KR8 hKR8 hKP8 a hs => ?_
 refine qsr fun K9 hK9 => ?_
 refine qal 35 [ci 0, ci 0, ci 0] 4 hs fun b_10 w a hs => ?_
 refine qpk 0 [0, 1, 4] hs fun a hs => hK9 _ _ ?_
 clear hK9
 refine qsr fun K11 hK11 => ?_
 obtain ⟨v_14, h_13, hm⟩ := bind_t hm
 refine qcl (share_none.ok _ _ h_13 _ _ (pt b_10 (blk [ci 0, ci 0, ci 0] 35) :: pt b_6 (blk [ci 0, ci 0, ci 0] 35) :: pt b_5 (blk [cw x3] 23) :: pt b_4 (blk x2 35) :: pt b_3 (blk [ci x1] 3) :: pt b_2 (blk [cp b_x0] 26) :: Twire_Machine.own b_x0 x0 :: S) hs.own) hs fun w a hs => ?_
 refine qal 35 [ci 0, ci 0, ci 0] 5 hs fun b_15 w a hs => ?_
 obtain ⟨h_16, hm⟩ := ite_t hm
 refine qsb 0 v_14 hs rfl h_16 rfl fun a w hs => ?_
 refine qpe 0 [(0, pp b_x0), (1, .func (.func 103) #[] #[pp b_2, pp b_3, pp b_4, pp b_5]), (4, pp b_10), (5, pp b_15)] hs fun a hs => hK11 _ _ ?_
 clear hK11
 refine Vk.seq fun K17 hK17 => ?_
 refine qsr fun K18 hK18 => ?_
 refine qpu 1 hs fun a hs => ?_
 obtain ⟨g_19, hs⟩ := hs.unex 7 rfl
 obtain ⟨v_22, h_21, hm⟩ := bind_t hm
 refine qcl (wire_Machine_N.ok _ _ _ h_21 _ _ _ b_x0 g_19 hs.own.f7) hs fun w a hs => ?_
 refine qpk 1 [1, 4, 5, 9, 10] hs fun a hs => hK18 _ _ ?_
 clear hK18
 refine wp_block ?_
 replace hs := hs.toEx (Twire_Machine.parts b_x0 x0) g_19 0 rfl
 obtain ⟨r23, hl23, hm⟩ := bind_t hm
 have hx23 : ∀ (p_43 : Cells) (p_44 : Twire_Machine), r23 = (p_43, p_44) → ∀ (a : Act) (w : World), St 21 a w κ [(4, pp b_10), (5, pp b_15)] (pt b_10 (blk [ci 0, ci 0, ci 0] 35) :: pt b_15 (blk p_43 35) :: Twire_Machine.own b_x0 p_44 :: pt b_2 (blk [cp b_x0] 26) :: pt b_3 (blk [ci x1] 3) :: pt b_4 (blk x2 35) :: pt b_5 (blk [cw x3] 23) :: pt b_6 (blk [ci 0, ci 0, ci 0] 35) :: S) → K17 a w := by
  intro p_43 p_44 he a w hs
  subst r23
  refine hK17 _ _ ?_
  clear hK17
  refine qsr fun K48 hK48 => ?_
  obtain ⟨h_49, hm⟩ := ite_t hm
  refine qlw 1 hs rfl h_49 fun a hs => ?_
  refine qsb 0 p_43 hs rfl h_49 rfl fun a w hs => ?_
  refine qpe 0 [(4, pp b_10)] hs fun a hs => hK48 _ _ ?_
  clear hK48
  refine wp_ret ?_
  refine hKP8 _ _ ?_
  refine hKR8 _ _ ?_
  refine Vk.retC (P := Tryz.prog) (fn := Tryz.f78) p_43 hs rfl (by kernel_rfl) (sz := 3) (by kernel_rfl) h_49 (CellsAt.all 0 rfl) ⟨_, _, _, rfl, hs.own, fun a hs => ?_⟩
  refine qsb 7 p_43 hs rfl h_49 rfl fun a w hs => ?_
  refine qpe 0 [(8, pp b_6)] hs fun a hs => hK7 _ _ ?_
  clear hK7
  refine wp_ret ?_
  exact Vk.retC p_43 hs rfl (by kernel_rfl) (sz := 3) (by kernel_rfl) h_49 (CellsAt.all 7 rfl) (hRR ▸ by cases hm; exact ⟨rfl, (hs.own.too [2] 8)⟩)
 refine Vk.loopBy (fun k (s : Twire_Machine × Cells × Int) a w => share_One.l1 x1 x2 x3 v_22 k s.1 s.2.1 s.2.2 = some r23 ∧ St 21 a w κ [(1, .func (.func 103) #[] #[pp b_2, pp b_3, pp b_4, pp b_5]), (4, pp b_10), (5, pp b_15), (9, vi v_22), (10, vi s.2.2)] (pt b_2 (blk [cp b_x0] 26) :: Twire_Machine.own b_x0 s.1 :: pt b_3 (blk [ci x1] 3) :: pt b_4 (blk x2 35) :: pt b_5 (blk [cw x3] 23) :: pt b_10 (blk [ci 0, ci 0, ci 0] 35) :: pt b_15 (blk s.2.1 35) :: pt b_6 (blk [ci 0, ci 0, ci 0] 35) :: S)) k (x0, v_14, 0) ⟨hl23, hs.go [1, 4, 5, 9, 10] [7, 0, 6, 5, 4, 2, 1, 3] 8 (by kernel_rfl) (by kernel_rfl) (by kernel_rfl)⟩ (fun s a w h => by obtain ⟨h1, _⟩ := h; simp [share_One.l1] at h1) (fun k KL23 ih s a w h => ?_)
 obtain ⟨q_24, q_25, q_26⟩ := s
 obtain ⟨hm, hs⟩ := h
 try dsimp only at hm hs
 rw [share_One.l1] at hm
 refine qsk 1 [1, 4, 5, 9, 10, 11] hs fun a hs => ?_
 refine Vk.seq fun K28 hK28 => ?_
 refine qcs (decide (q_26 < v_22)) hs (fun hb => ?_) fun hb => ?_
 ·replace hm := bif_t hm hb
  refine wp_skip ?_
  refine hK28 _ _ ?_
  clear hK28
  refine Vk.seq fun K29 hK29 => ?_
  refine wp_block ?_
  refine qsk 2 [1, 4, 5, 6, 9, 10] hs fun a hs => ?_
  refine Vk.region ?_
  refine qpu 3 hs fun a hs => ?_
  refine Vk.step (Vk.call (some 16) 103 #[vi q_26, pp b_2, pp b_3, pp b_4, pp b_5] hs (by kernel_rfl) (by kernel_rfl) (by kernel_rfl) ?_)
  refine Vk.enterI [(0, vi q_26), (1, pp b_2), (2, pp b_3), (3, pp b_4), (4, pp b_5)] Tryz.func103 rfl Tryz.ntmps103 (by kernel_rfl) (Nat.le_of_ble_eq_true (by kernel_rfl)) hs.own fun KR31 hKR31 hKP31 a hs => ?_
  refine qsk 1 [0, 1, 2, 3, 4] hs fun a hs => ?_
  refine Vk.seq fun K33 hK33 => ?_
  obtain ⟨C_34, hC_34⟩ := qC hs.own
  refine qdr 8 κ C_34 hs fun w hs hqC_34 => ?_
  have hcl := qO hC_34 hs.own
  refine qdp (fuel := 7) [2, 3, 4] hs hcl hqC_34 fun a hs => ?_
  refine qdl 0 0 (cp b_x0) hs hcl hqC_34 hC_34 rfl fun a hs => ?_
  refine qdl 1 2 (ci x1) hs hcl hqC_34 hC_34 rfl fun a hs => ?_
  obtain ⟨h_35, hm⟩ := ite_t hm
  refine qdx 5 b_4 0 1 hs hcl hqC_34 h_35 fun a hs => ?_
  obtain ⟨v_37, h_36, hm⟩ := bind_t hm
  refine qdi 6 3 hs hcl hqC_34 hC_34 rfl h_36 fun a hs => ?_
  refine qdl 7 4 (cw x3) hs hcl hqC_34 hC_34 rfl fun a hs => ?_
  obtain ⟨v_40, h_39, hm⟩ := bind_t hm
  refine qdc 8 (wire_Machine_One.ok _ _ _ _ _ _ _ h_39 _ _ _ b_x0 hs.own.f1) hs fun w a hs => ?_
  refine ⟨fun h => absurd h (by decide), ?_⟩
  refine Vk.dOnly (i := 9) (by kernel_rfl) (Vk.dPure1 [(6, vi v_40.1)] hs (by kernel_rfl) fun a hs => ?_)
  refine ⟨fun h => absurd h (by decide), ?_⟩
  replace hs := hs.pick [6] (L' := [(6, vi v_40.1)]) (by kernel_rfl)
  refine Vk.dDone (by kernel_rfl) ?_
  refine hK33 _ _ ?_
  clear hK33
  refine wp_ret ?_
  refine hKP31 _ _ ?_
  refine hKR31 _ _ ?_
  refine Vk.ret1 (P := Tryz.prog) (fn := Tryz.f103) (vi v_40.1) hs rfl (by kernel_rfl) ⟨_, _, _, rfl, hs.own, fun a hs => ?_⟩
  refine qpu 1 hs fun a hs => ?_
  obtain ⟨h_41, hm⟩ := ite_t hm
  refine qix b_15 0 1 hs h_41 fun a hs => ?_
  obtain ⟨h_42, hm⟩ := ite_t hm
  refine Vk.step (Vk.store1 (b := b_15) (ty := 3) (x := (.tmp 18)) (y := (.tmp 16)) (off := 0 + q_26.toNat * 1) (ci v_40.1) 6 hs (by kernel_rfl) (by kernel_rfl) (by kernel_rfl) (by kernel_rfl) (by kernel_rfl) (by kernel_rfl) rfl h_42 fun a w hs => ?_)
  refine qpk 0 [1, 4, 5, 9, 10] hs fun a hs => hK29 _ _ ?_
  clear hK29
  refine Vk.region ?_
  refine qpk 2 [1, 4, 5, 9, 10] hs fun a hs => ?_
  refine ih (v_40.2, (q_25.set (0 + q_26.toNat * 1) (ci v_40.1)), (IntKind.i64.wrap (q_26 + 1))) _ _ ⟨hm, hs.go [1, 4, 5, 9, 10] [1, 0, 2, 3, 4, 5, 6, 7] 8 (by kernel_rfl) (by kernel_rfl) (by kernel_rfl)⟩
 ·replace hm := bif_f hm hb
  refine wp_exit ?_
  exact hx23 q_25 q_24 (Option.some.inj hm).symm _ _ (hs.go [4, 5] [5, 6, 1, 0, 2, 3, 4, 7] 8 (by kernel_rfl) (by kernel_rfl) (by kernel_rfl))


def both_Fold.l1 (x1 : Int) : Nat → Twire_Machine → Cells → Int → Option (Cells × Twire_Machine)
 | 0, _, _, _ => none
 | k + 1, q_13, q_14, q_15 => (bif decide (q_15 > 0) then (if q_14.length = 3 then (share_One.m k q_13 10 q_14 (IntKind.u64.wrap q_15)).bind fun v_23 => (both_Or.m k v_23.2 x1 q_14 v_23.1).bind fun v_26 => (if v_26.1.length = 3 then both_Fold.l1 x1 k v_26.2 v_26.1 (IntKind.i64.wrap (Int.tdiv q_15 2)) else none) else none) else some (q_14, q_13))
abbrev both_Fold.R (κ : Ctx) (S : List HP) (x0 : Twire_Machine) (x1 : Int) (x2 : Cells) (x3 : Int) (b_x0 : Nat) (r : (Cells × Twire_Machine)) : Ending → World → Prop := fun e w' => e = .returned (.agg (vals r.1)) ∧ Own κ w' (Twire_Machine.own b_x0 r.2 :: S)
def both_Fold.m (k : Nat) (x0 : Twire_Machine) (x1 : Int) (x2 : Cells) (x3 : Int) : Option (Cells × Twire_Machine) := (bif ((decide (x3 < 2)) || (decide (x3 > 64))) || ((band .i64 x3 (IntKind.i64.wrap (x3 - 1))) != 0) then (if x2.length = 3 then some (x2, x0) else none) else (both_Fold.l1 x1 k x0 x2 (IntKind.i64.wrap (Int.tdiv x3 2))).bind fun x => match x with | (p_28, p_29) => (if p_28.length = 3 then some (p_28, p_29) else none))

set_option maxRecDepth 100000 in
set_option maxHeartbeats 4000000 in
theorem both_Fold.ok (k : Nat) (x0 : Twire_Machine) (x1 : Int) (x2 : Cells) (x3 : Int) (r : (Cells × Twire_Machine)) (hm : both_Fold.m k x0 x1 x2 x3 = some r) (κ : Ctx) (w : World) (S : List HP) (b_x0 : Nat) (ho : Own κ w (Twire_Machine.own b_x0 x0 :: S)) :
  Calls Tryz.prog 39 #[pp b_x0, vi x1, .agg (vals x2), vi x3] w (both_Fold.R κ S x0 x1 x2 x3 b_x0 r) := by
 unfold both_Fold.m at hm
 generalize hRR : both_Fold.R κ S x0 x1 x2 x3 b_x0 r = RR
 refine qen [(0, pp b_x0), (1, vi x1), (2, .agg (vals x2)), (3, vi x3)] Tryz.func39 Tryz.ntmps39 ho fun a hs => ?_
 refine qsr fun K1 hK1 => ?_
 refine qbx 2 35 x2 6 hs fun b_2 w a hs => ?_
 refine qal 35 [ci 0, ci 0, ci 0] 8 hs fun b_3 w a hs => ?_
 refine qpk 0 [0, 1, 3, 6, 8] hs fun a hs => hK1 _ _ ?_
 clear hK1
 refine Vk.seq fun K4 hK4 => ?_
 refine qsr fun K5 hK5 => ?_
 refine qpu 3 hs fun a hs => ?_
 refine qsc 12 3 hs fun a hs => ?_
 refine qpu 1 hs fun a hs => ?_
 refine qsc 16 6 hs fun a hs => ?_
 refine qpk 0 [0, 1, 3, 6, 8, 22] hs fun a hs => hK5 _ _ ?_
 clear hK5
 refine qcs (((decide (x3 < 2)) || (decide (x3 > 64))) || ((band .i64 x3 (IntKind.i64.wrap (x3 - 1))) != 0)) hs (fun hb => ?_) fun hb => ?_
 ·replace hm := bif_t hm hb
  refine qsr fun K8 hK8 => ?_
  obtain ⟨h_9, hm⟩ := ite_t hm
  refine qlw 1 hs rfl h_9 fun a hs => ?_
  refine qsb 0 x2 hs rfl h_9 rfl fun a w hs => ?_
  refine qpe 0 [(8, pp b_3)] hs fun a hs => hK8 _ _ ?_
  clear hK8
  refine wp_ret ?_
  exact Vk.retC x2 hs rfl (by kernel_rfl) (sz := 3) (by kernel_rfl) h_9 (CellsAt.all 0 rfl) (hRR ▸ by cases hm; exact ⟨rfl, hs.own.f1.drop.drop⟩)
 ·replace hm := bif_f hm hb
  refine wp_skip ?_
  refine hK4 _ _ ?_
  clear hK4
  refine Vk.seq fun K10 hK10 => ?_
  refine qsk 3 [0, 1, 6, 8, 9] hs fun a hs => ?_
  refine wp_block ?_
  obtain ⟨r12, hl12, hm⟩ := bind_t hm
  have hx12 : ∀ (p_28 : Cells) (p_29 : Twire_Machine), r12 = (p_28, p_29) → ∀ (a : Act) (w : World), St 40 a w κ [(6, pp b_2), (8, pp b_3)] (pt b_2 (blk p_28 35) :: pt b_3 (blk [ci 0, ci 0, ci 0] 35) :: Twire_Machine.own b_x0 p_29 :: S) → K10 a w := by
   intro p_28 p_29 he a w hs
   subst r12
   refine hK10 _ _ ?_
   clear hK10
   refine qsr fun K33 hK33 => ?_
   obtain ⟨h_34, hm⟩ := ite_t hm
   refine qlw 0 hs rfl h_34 fun a hs => ?_
   refine qsb 1 p_28 hs rfl h_34 rfl fun a w hs => ?_
   refine qpe 0 [(8, pp b_3)] hs fun a hs => hK33 _ _ ?_
   clear hK33
   refine wp_ret ?_
   exact Vk.retC p_28 hs rfl (by kernel_rfl) (sz := 3) (by kernel_rfl) h_34 (CellsAt.all 1 rfl) (hRR ▸ by cases hm; exact ⟨rfl, hs.own.f1.drop.drop⟩)
  refine Vk.loopBy (fun k (s : Twire_Machine × Cells × Int) a w => both_Fold.l1 x1 k s.1 s.2.1 s.2.2 = some r12 ∧ St 40 a w κ [(0, pp b_x0), (1, vi x1), (6, pp b_2), (8, pp b_3), (9, vi s.2.2)] (Twire_Machine.own b_x0 s.1 :: pt b_2 (blk s.2.1 35) :: pt b_3 (blk [ci 0, ci 0, ci 0] 35) :: S)) k (x0, x2, (IntKind.i64.wrap (Int.tdiv x3 2))) ⟨hl12, hs.go [0, 1, 6, 8, 9] [2, 1, 0] 3 (by kernel_rfl) (by kernel_rfl) (by kernel_rfl)⟩ (fun s a w h => by obtain ⟨h1, _⟩ := h; simp [both_Fold.l1] at h1) (fun k KL12 ih s a w h => ?_)
  obtain ⟨q_13, q_14, q_15⟩ := s
  obtain ⟨hm, hs⟩ := h
  try dsimp only at hm hs
  rw [both_Fold.l1] at hm
  refine Vk.seq fun K16 hK16 => ?_
  refine qsk 2 [0, 1, 6, 8, 9, 27] hs fun a hs => ?_
  refine qcs (decide (q_15 > 0)) hs (fun hb => ?_) fun hb => ?_
  ·replace hm := bif_t hm hb
   refine wp_skip ?_
   refine hK16 _ _ ?_
   clear hK16
   refine Vk.seq fun K18 hK18 => ?_
   refine wp_block ?_
   obtain ⟨C_19, hC_19⟩ := qC hs.own.drop
   refine qdr 9 κ C_19 hs fun w hs hqC_19 => ?_
   have hcl := qO hC_19 hs.own.drop
   refine qdp (fuel := 5) [0, 1, 3, 5, 6] hs hcl hqC_19 fun a hs => ?_
   obtain ⟨h_20, hm⟩ := ite_t hm
   refine qdw 2 0 hs hcl hqC_19 hC_19 rfl h_20 fun a hs => ?_
   refine qdw 4 0 hs hcl hqC_19 hC_19 rfl h_20 fun a hs => ?_
   obtain ⟨v_23, h_22, hm⟩ := bind_t hm
   refine qdc 7 (share_One.ok _ _ _ _ _ _ h_22 _ _ _ b_x0 hs.own) hs fun w a hs => ?_
   replace hcl := qO hC_19 hs.own.drop
   refine ⟨fun _ => hcl, ?_⟩
   obtain ⟨v_26, h_25, hm⟩ := bind_t hm
   refine qdc 8 (both_Or.ok _ _ _ _ _ _ h_25 _ _ _ b_x0 hs.own) hs fun w a hs => ?_
   replace hcl := qO hC_19 hs.own.drop
   refine ⟨fun _ => hcl, ?_⟩
   obtain ⟨h_27, hm⟩ := ite_t hm
   refine qsA 9 1 v_26.1 hs rfl h_27 h_20 fun a w hs => ?_
   refine ⟨fun h => absurd h (by decide), ?_⟩
   replace hs := hs.pick [0, 1, 6, 8, 9] (L' := [(0, pp b_x0), (1, vi x1), (6, pp b_2), (8, pp b_3), (9, vi q_15)]) (by kernel_rfl)
   refine Vk.dDone (by kernel_rfl) ?_
   refine hK18 _ _ ?_
   clear hK18
   refine Vk.region ?_
   refine qpk 3 [0, 1, 6, 8, 9] hs fun a hs => ?_
   refine ih (v_26.2, v_26.1, (IntKind.i64.wrap (Int.tdiv q_15 2))) _ _ ⟨hm, hs.go [0, 1, 6, 8, 9] [0, 1, 2] 3 (by kernel_rfl) (by kernel_rfl) (by kernel_rfl)⟩
  ·replace hm := bif_f hm hb
   refine wp_exit ?_
   exact hx12 q_14 q_13 (Option.some.inj hm).symm _ _ (hs.go [6, 8] [1, 2, 0] 3 (by kernel_rfl) (by kernel_rfl) (by kernel_rfl))


def visorref20_One.l1 (x1 : Int) (x2 : Cells) (x3 : Int) : Nat → Tvisorref19_M → Cells → Int → Option (Cells × Tvisorref19_M)
 | 0, _, _, _ => none
 | k + 1, q_13, q_14, q_15 => (bif decide (q_15 < q_13.n) then (if 0 ≤ q_15 ∧ q_15 < 3 then (getI .i64 x2 (0 + q_15.toNat * 1)).bind fun v_26 => (visorref19_Op.m k x1 q_15 v_26 (-1) x3).bind fun v_29 => (visorref19_M_Do.m k q_13 v_29 0).bind fun v_32 => (if 0 ≤ q_15 ∧ q_15 < 3 then (if 0 + q_15.toNat * 1 < q_14.length then visorref20_One.l1 x1 x2 x3 k v_32.2 (q_14.set (0 + q_15.toNat * 1) (ci v_32.1)) (IntKind.i64.wrap (q_15 + 1)) else none) else none) else none) else some (q_14, q_13))
abbrev visorref20_One.R (κ : Ctx) (S : List HP) (x0 : Tvisorref19_M) (x1 : Int) (x2 : Cells) (x3 : Int) (b_x0 : Nat) (r : (Cells × Tvisorref19_M)) : Ending → World → Prop := fun e w' => e = .returned (.agg (vals r.1)) ∧ Own κ w' (Tvisorref19_M.own κ b_x0 r.2 :: S)
def visorref20_One.m (k : Nat) (x0 : Tvisorref19_M) (x1 : Int) (x2 : Cells) (x3 : Int) : Option (Cells × Tvisorref19_M) := (visorref20_None.m k).bind fun v_7 => (if v_7.length = 3 then (visorref20_One.l1 x1 x2 x3 k x0 v_7 0).bind fun x => match x with | (p_35, p_36) => (if p_35.length = 3 then some (p_35, p_36) else none) else none)

set_option maxRecDepth 100000 in
set_option maxHeartbeats 4000000 in
theorem visorref20_One.ok (k : Nat) (x0 : Tvisorref19_M) (x1 : Int) (x2 : Cells) (x3 : Int) (r : (Cells × Tvisorref19_M)) (hm : visorref20_One.m k x0 x1 x2 x3 = some r) (κ : Ctx) (w : World) (S : List HP) (b_x0 : Nat) (ho : Own κ w (Tvisorref19_M.own κ b_x0 x0 :: S)) :
  Calls Tryz.prog 66 #[pp b_x0, vi x1, .agg (vals x2), vw x3] w (visorref20_One.R κ S x0 x1 x2 x3 b_x0 r) := by
 unfold visorref20_One.m at hm
 generalize hRR : visorref20_One.R κ S x0 x1 x2 x3 b_x0 r = RR
 refine qen [(0, pp b_x0), (1, vi x1), (2, .agg (vals x2)), (3, vw x3)] Tryz.func66 Tryz.ntmps66 ho fun a hs => ?_
 refine qsr fun K1 hK1 => ?_
 refine qbx 2 35 x2 6 hs fun b_2 w a hs => ?_
 refine qal 35 [ci 0, ci 0, ci 0] 8 hs fun b_3 w a hs => ?_
 refine qpk 0 [0, 1, 3, 6, 8] hs fun a hs => hK1 _ _ ?_
 clear hK1
 refine qsr fun K4 hK4 => ?_
 obtain ⟨v_7, h_6, hm⟩ := bind_t hm
 refine qcl (visorref20_None.ok _ _ h_6 _ _ (pt b_3 (blk [ci 0, ci 0, ci 0] 35) :: pt b_2 (blk x2 35) :: Tvisorref19_M.own κ b_x0 x0 :: S) hs.own) hs fun w a hs => ?_
 refine qal 35 [ci 0, ci 0, ci 0] 9 hs fun b_8 w a hs => ?_
 obtain ⟨h_9, hm⟩ := ite_t hm
 refine qsb 0 v_7 hs rfl h_9 rfl fun a w hs => ?_
 refine qpk 0 [0, 1, 3, 6, 8, 9] hs fun a hs => hK4 _ _ ?_
 clear hK4
 refine Vk.seq fun K10 hK10 => ?_
 refine qsk 1 [0, 1, 3, 6, 8, 9, 10] hs fun a hs => ?_
 refine wp_block ?_
 obtain ⟨r12, hl12, hm⟩ := bind_t hm
 have hx12 : ∀ (p_35 : Cells) (p_36 : Tvisorref19_M), r12 = (p_35, p_36) → ∀ (a : Act) (w : World), St 34 a w κ [(8, pp b_3), (9, pp b_8)] (pt b_3 (blk [ci 0, ci 0, ci 0] 35) :: pt b_8 (blk p_35 35) :: Tvisorref19_M.own κ b_x0 p_36 :: S) → K10 a w := by
  intro p_35 p_36 he a w hs
  subst r12
  refine hK10 _ _ ?_
  clear hK10
  refine qsr fun K40 hK40 => ?_
  obtain ⟨h_41, hm⟩ := ite_t hm
  refine qlw 1 hs rfl h_41 fun a hs => ?_
  refine qsb 0 p_35 hs rfl h_41 rfl fun a w hs => ?_
  refine qpe 0 [(8, pp b_3)] hs fun a hs => hK40 _ _ ?_
  clear hK40
  refine wp_ret ?_
  exact Vk.retC p_35 hs rfl (by kernel_rfl) (sz := 3) (by kernel_rfl) h_41 (CellsAt.all 0 rfl) (hRR ▸ by cases hm; exact ⟨rfl, hs.own.f1.drop.drop⟩)
 refine Vk.loopBy (fun k (s : Tvisorref19_M × Cells × Int) a w => visorref20_One.l1 x1 x2 x3 k s.1 s.2.1 s.2.2 = some r12 ∧ St 34 a w κ [(0, pp b_x0), (1, vi x1), (3, vw x3), (6, pp b_2), (8, pp b_3), (9, pp b_8), (10, vi s.2.2)] (Tvisorref19_M.own κ b_x0 s.1 :: pt b_2 (blk x2 35) :: pt b_3 (blk [ci 0, ci 0, ci 0] 35) :: pt b_8 (blk s.2.1 35) :: S)) k (x0, v_7, 0) ⟨hl12, hs.go [0, 1, 3, 6, 8, 9, 10] [3, 2, 1, 0] 4 (by kernel_rfl) (by kernel_rfl) (by kernel_rfl)⟩ (fun s a w h => by obtain ⟨h1, _⟩ := h; simp [visorref20_One.l1] at h1) (fun k KL12 ih s a w h => ?_)
 obtain ⟨q_13, q_14, q_15⟩ := s
 obtain ⟨hm, hs⟩ := h
 try dsimp only at hm hs
 rw [visorref20_One.l1] at hm
 refine Vk.seq fun K16 hK16 => ?_
 refine qsr fun K17 hK17 => ?_
 refine qpu 4 hs fun a hs => ?_
 obtain ⟨g_18, hs⟩ := hs.unbag 0 rfl
 refine qld 0 (ci q_13.n) hs rfl fun a hs => ?_
 refine qpk 1 [0, 1, 3, 6, 8, 9, 10, 17] hs fun a hs => hK17 _ _ ?_
 clear hK17
 refine qcs (decide (q_15 < q_13.n)) hs (fun hb => ?_) fun hb => ?_
 ·replace hm := bif_t hm hb
  refine wp_skip ?_
  refine hK16 _ _ ?_
  clear hK16
  refine Vk.seq fun K23 hK23 => ?_
  refine wp_block ?_
  refine Vk.region ?_
  refine qpu 6 hs fun a hs => ?_
  obtain ⟨h_24, hm⟩ := ite_t hm
  refine qix b_2 0 1 hs h_24 fun a hs => ?_
  obtain ⟨v_26, h_25, hm⟩ := bind_t hm
  refine qli 5 hs rfl h_25 fun a hs => ?_
  refine qpu 1 hs fun a hs => ?_
  obtain ⟨v_29, h_28, hm⟩ := bind_t hm
  refine qcl (visorref19_Op.ok _ _ _ _ _ _ _ h_28 _ _ (pt b_x0 (blk (Tvisorref19_M.obj q_13 g_18.1 g_18.2.1 g_18.2.2.1 g_18.2.2.2.1 g_18.2.2.2.2.1 g_18.2.2.2.2.2.1 g_18.2.2.2.2.2.2.1 g_18.2.2.2.2.2.2.2) 54) :: rowp g_18.1 g_18.2.1 103 6 Tapi_Op.cells q_13.ops :: rowp g_18.2.2.1 g_18.2.2.2.1 119 3 Tapi_Span.cells q_13.blocks :: rowp g_18.2.2.2.2.1 g_18.2.2.2.2.2.1 23 1 (eI .u64) q_13.val :: rdp κ g_18.2.2.2.2.2.2.1 g_18.2.2.2.2.2.2.2 1 (eI .u64) q_13.tape.l :: pt b_2 (blk x2 35) :: pt b_3 (blk [ci 0, ci 0, ci 0] 35) :: pt b_8 (blk q_14 35) :: S) hs.own) hs fun w a hs => ?_
  replace hs := hs.bagG (l := Tvisorref19_M.parts κ b_x0 q_13 g_18) (S' := pt b_2 (blk x2 35) :: pt b_3 (blk [ci 0, ci 0, ci 0] 35) :: pt b_8 (blk q_14 35) :: S) hs.own
  replace hs := hs.toEx (Tvisorref19_M.parts κ b_x0 q_13) g_18 0 rfl
  obtain ⟨v_32, h_31, hm⟩ := bind_t hm
  refine qcl (visorref19_M_Do.ok _ _ _ _ _ h_31 _ _ _ b_x0 hs.own) hs fun w a hs => ?_
  refine qpu 1 hs fun a hs => ?_
  obtain ⟨h_33, hm⟩ := ite_t hm
  refine qix b_8 0 1 hs h_33 fun a hs => ?_
  obtain ⟨h_34, hm⟩ := ite_t hm
  refine Vk.step (Vk.store1 (b := b_8) (ty := 3) (x := (.tmp 32)) (y := (.tmp 30)) (off := 0 + q_15.toNat * 1) (ci v_32.1) 3 hs (by kernel_rfl) (by kernel_rfl) (by kernel_rfl) (by kernel_rfl) (by kernel_rfl) (by kernel_rfl) rfl h_34 fun a w hs => ?_)
  refine qpk 0 [0, 1, 3, 6, 8, 9, 10] hs fun a hs => hK23 _ _ ?_
  clear hK23
  refine Vk.region ?_
  refine qpk 3 [0, 1, 3, 6, 8, 9, 10] hs fun a hs => ?_
  refine ih (v_32.2, (q_14.set (0 + q_15.toNat * 1) (ci v_32.1)), (IntKind.i64.wrap (q_15 + 1))) _ _ ⟨hm, hs.go [0, 1, 3, 6, 8, 9, 10] [0, 1, 2, 3] 4 (by kernel_rfl) (by kernel_rfl) (by kernel_rfl)⟩
 ·replace hm := bif_f hm hb
  refine wp_exit ?_
  replace hs := hs.bagG (l := Tvisorref19_M.parts κ b_x0 q_13 g_18) (S' := pt b_2 (blk x2 35) :: pt b_3 (blk [ci 0, ci 0, ci 0] 35) :: pt b_8 (blk q_14 35) :: S) hs.own
  replace hs := hs.toEx (Tvisorref19_M.parts κ b_x0 q_13) g_18 0 rfl
  exact hx12 q_14 q_13 (Option.some.inj hm).symm _ _ (hs.go [8, 9] [2, 3, 0] 4 (by kernel_rfl) (by kernel_rfl) (by kernel_rfl))


def visorref23_Fold.j2 (k : Nat) (p_35 : Cells) (p_36 : Tvisorref19_M) : Option ((Cells × Tvisorref19_M)) := (if p_35.length = 3 then some (p_35, p_36) else none)
def visorref23_Fold.l1 (x1 : Int) : Nat → Tvisorref19_M → Cells → Int → Option (Cells × Tvisorref19_M)
 | 0, _, _, _ => none
 | k + 1, q_15, q_16, q_17 => (bif decide (q_17 > 0) then (if q_16.length = 3 then (visorref20_One.m k q_15 10 q_16 (IntKind.u64.wrap q_17)).bind fun v_25 => (visorref23_Or.m k v_25.2 x1 q_16 v_25.1).bind fun v_28 => (if v_28.1.length = 3 then visorref23_Fold.l1 x1 k v_28.2 v_28.1 (IntKind.i64.wrap (Int.tdiv q_17 2)) else none) else none) else some (q_16, q_15))
def visorref23_Fold.j1 (k : Nat) (x0 : Tvisorref19_M) (x1 : Int) (x2 : Cells) (x3 : Int) (p_12 : Bool) : Option ((Cells × Tvisorref19_M)) := (bif p_12 then (visorref23_Fold.l1 x1 k x0 x2 (IntKind.i64.wrap (Int.tdiv x3 2))).bind fun x => match x with | (p_30, p_31) => visorref23_Fold.j2 k p_30 p_31 else visorref23_Fold.j2 k x2 x0)
abbrev visorref23_Fold.R (κ : Ctx) (S : List HP) (x0 : Tvisorref19_M) (x1 : Int) (x2 : Cells) (x3 : Int) (b_x0 : Nat) (r : (Cells × Tvisorref19_M)) : Ending → World → Prop := fun e w' => e = .returned (.agg (vals r.1)) ∧ Own κ w' (Tvisorref19_M.own κ b_x0 r.2 :: S)
def visorref23_Fold.m (k : Nat) (x0 : Tvisorref19_M) (x1 : Int) (x2 : Cells) (x3 : Int) : Option (Cells × Tvisorref19_M) := (bif x3 == 2 then visorref23_Fold.j1 k x0 x1 x2 x3 (x3 == 2) else (bif x3 == 4 then visorref23_Fold.j1 k x0 x1 x2 x3 (x3 == 4) else (bif x3 == 8 then visorref23_Fold.j1 k x0 x1 x2 x3 (x3 == 8) else (bif x3 == 16 then visorref23_Fold.j1 k x0 x1 x2 x3 (x3 == 16) else (bif x3 == 32 then visorref23_Fold.j1 k x0 x1 x2 x3 (x3 == 32) else visorref23_Fold.j1 k x0 x1 x2 x3 (x3 == 64))))))

set_option maxRecDepth 100000 in
set_option maxHeartbeats 4000000 in
theorem visorref23_Fold.ok (k : Nat) (x0 : Tvisorref19_M) (x1 : Int) (x2 : Cells) (x3 : Int) (r : (Cells × Tvisorref19_M)) (hm : visorref23_Fold.m k x0 x1 x2 x3 = some r) (κ : Ctx) (w : World) (S : List HP) (b_x0 : Nat) (ho : Own κ w (Tvisorref19_M.own κ b_x0 x0 :: S)) :
  Calls Tryz.prog 40 #[pp b_x0, vi x1, .agg (vals x2), vi x3] w (visorref23_Fold.R κ S x0 x1 x2 x3 b_x0 r) := by
 unfold visorref23_Fold.m at hm
 generalize hRR : visorref23_Fold.R κ S x0 x1 x2 x3 b_x0 r = RR
 refine qen [(0, pp b_x0), (1, vi x1), (2, .agg (vals x2)), (3, vi x3)] Tryz.func40 Tryz.ntmps40 ho fun a hs => ?_
 refine qsr fun K1 hK1 => ?_
 refine qbx 2 35 x2 6 hs fun b_2 w a hs => ?_
 refine qal 35 [ci 0, ci 0, ci 0] 8 hs fun b_3 w a hs => ?_
 refine qpk 0 [0, 1, 3, 6, 8] hs fun a hs => hK1 _ _ ?_
 clear hK1
 refine Vk.seq fun K4 hK4 => ?_
 have hj4 : ∀ (p_35 : Cells) (p_36 : Tvisorref19_M), visorref23_Fold.j2 k p_35 p_36 = some r → ∀ (a : Act) (w : World), St 34 a w κ [(6, pp b_2), (8, pp b_3)] (pt b_2 (blk p_35 35) :: pt b_3 (blk [ci 0, ci 0, ci 0] 35) :: Tvisorref19_M.own κ b_x0 p_36 :: S) → K4 a w := by
  intro p_35 p_36 hm a w hs
  unfold visorref23_Fold.j2 at hm
  refine hK4 _ _ ?_
  refine qsr fun K37 hK37 => ?_
  obtain ⟨h_38, hm⟩ := ite_t hm
  refine qlw 0 hs rfl h_38 fun a hs => ?_
  refine qsb 1 p_35 hs rfl h_38 rfl fun a w hs => ?_
  refine qpe 0 [(8, pp b_3)] hs fun a hs => hK37 _ _ ?_
  clear hK37
  refine wp_ret ?_
  exact Vk.retC p_35 hs rfl (by kernel_rfl) (sz := 3) (by kernel_rfl) h_38 (CellsAt.all 1 rfl) (hRR ▸ by cases hm; exact ⟨rfl, hs.own.f1.drop.drop⟩)
 refine qsk 1 [0, 1, 3, 6, 8, 10] hs fun a hs => ?_
 refine wp_block ?_
 refine Vk.seq fun K6 hK6 => ?_
 have hj6 : ∀ (p_12 : Bool), visorref23_Fold.j1 k x0 x1 x2 x3 p_12 = some r → ∀ (a : Act) (w : World), St 34 a w κ [(0, pp b_x0), (1, vi x1), (3, vi x3), (6, pp b_2), (8, pp b_3), (11, .bool p_12)] (Tvisorref19_M.own κ b_x0 x0 :: pt b_2 (blk x2 35) :: pt b_3 (blk [ci 0, ci 0, ci 0] 35) :: S) → K6 a w := by
  intro p_12 hm a w hs
  unfold visorref23_Fold.j1 at hm
  refine hK6 _ _ ?_
  refine qcs (p_12) hs (fun hb => ?_) fun hb => ?_
  ·replace hm := bif_t hm hb
   refine qse 3 [(0, pp b_x0), (1, vi x1), (6, pp b_2), (8, pp b_3), (9, vi (IntKind.i64.wrap (Int.tdiv x3 2)))] hs fun a hs => ?_
   refine wp_block ?_
   obtain ⟨r14, hl14, hm⟩ := bind_t hm
   have hx14 : ∀ (p_30 : Cells) (p_31 : Tvisorref19_M), r14 = (p_30, p_31) → ∀ (a : Act) (w : World), St 34 a w κ [(6, pp b_2), (8, pp b_3)] (pt b_2 (blk p_30 35) :: pt b_3 (blk [ci 0, ci 0, ci 0] 35) :: Tvisorref19_M.own κ b_x0 p_31 :: S) → K4 a w := by
    intro p_30 p_31 he a w hs
    subst r14
    exact hj4 p_30 p_31 hm _ _ (hs.go [6, 8] [0, 1, 2] 3 (by kernel_rfl) (by kernel_rfl) (by kernel_rfl))
   refine Vk.loopBy (fun k (s : Tvisorref19_M × Cells × Int) a w => visorref23_Fold.l1 x1 k s.1 s.2.1 s.2.2 = some r14 ∧ St 34 a w κ [(0, pp b_x0), (1, vi x1), (6, pp b_2), (8, pp b_3), (9, vi s.2.2)] (Tvisorref19_M.own κ b_x0 s.1 :: pt b_2 (blk s.2.1 35) :: pt b_3 (blk [ci 0, ci 0, ci 0] 35) :: S)) k (x0, x2, (IntKind.i64.wrap (Int.tdiv x3 2))) ⟨hl14, hs.go [0, 1, 6, 8, 9] [0, 1, 2] 3 (by kernel_rfl) (by kernel_rfl) (by kernel_rfl)⟩ (fun s a w h => by obtain ⟨h1, _⟩ := h; simp [visorref23_Fold.l1] at h1) (fun k KL14 ih s a w h => ?_)
   obtain ⟨q_15, q_16, q_17⟩ := s
   obtain ⟨hm, hs⟩ := h
   try dsimp only at hm hs
   rw [visorref23_Fold.l1] at hm
   refine Vk.seq fun K18 hK18 => ?_
   refine qsk 2 [0, 1, 6, 8, 9, 21] hs fun a hs => ?_
   refine qcs (decide (q_17 > 0)) hs (fun hb => ?_) fun hb => ?_
   ·replace hm := bif_t hm hb
    refine wp_skip ?_
    refine hK18 _ _ ?_
    clear hK18
    refine Vk.seq fun K20 hK20 => ?_
    refine wp_block ?_
    obtain ⟨C_21, hC_21⟩ := qC hs.own.drop
    refine qdr 9 κ C_21 hs fun w hs hqC_21 => ?_
    have hcl := qO hC_21 hs.own.drop
    refine qdp (fuel := 5) [0, 1, 3, 5, 6] hs hcl hqC_21 fun a hs => ?_
    obtain ⟨h_22, hm⟩ := ite_t hm
    refine qdw 2 0 hs hcl hqC_21 hC_21 rfl h_22 fun a hs => ?_
    refine qdw 4 0 hs hcl hqC_21 hC_21 rfl h_22 fun a hs => ?_
    obtain ⟨v_25, h_24, hm⟩ := bind_t hm
    refine qdc 7 (visorref20_One.ok _ _ _ _ _ _ h_24 _ _ _ b_x0 hs.own) hs fun w a hs => ?_
    replace hcl := qO hC_21 hs.own.drop
    refine ⟨fun _ => hcl, ?_⟩
    obtain ⟨v_28, h_27, hm⟩ := bind_t hm
    refine qdc 8 (visorref23_Or.ok _ _ _ _ _ _ h_27 _ _ _ b_x0 hs.own) hs fun w a hs => ?_
    replace hcl := qO hC_21 hs.own.drop
    refine ⟨fun _ => hcl, ?_⟩
    obtain ⟨h_29, hm⟩ := ite_t hm
    refine qsA 9 1 v_28.1 hs rfl h_29 h_22 fun a w hs => ?_
    refine ⟨fun h => absurd h (by decide), ?_⟩
    replace hs := hs.pick [0, 1, 6, 8, 9] (L' := [(0, pp b_x0), (1, vi x1), (6, pp b_2), (8, pp b_3), (9, vi q_17)]) (by kernel_rfl)
    refine Vk.dDone (by kernel_rfl) ?_
    refine hK20 _ _ ?_
    clear hK20
    refine Vk.region ?_
    refine qpe 3 [(0, pp b_x0), (1, vi x1), (6, pp b_2), (8, pp b_3), (9, vi (IntKind.i64.wrap (Int.tdiv q_17 2)))] hs fun a hs => ?_
    refine ih (v_28.2, v_28.1, (IntKind.i64.wrap (Int.tdiv q_17 2))) _ _ ⟨hm, hs.go [0, 1, 6, 8, 9] [0, 1, 2] 3 (by kernel_rfl) (by kernel_rfl) (by kernel_rfl)⟩
   ·replace hm := bif_f hm hb
    refine wp_exit ?_
    exact hx14 q_16 q_15 (Option.some.inj hm).symm _ _ (hs.go [6, 8] [1, 2, 0] 3 (by kernel_rfl) (by kernel_rfl) (by kernel_rfl))
  ·replace hm := bif_f hm hb
   refine wp_skip ?_
   exact hj4 x2 x0 hm _ _ (hs.go [6, 8] [1, 2, 0] 3 (by kernel_rfl) (by kernel_rfl) (by kernel_rfl))
 refine qse 2 [(0, pp b_x0), (1, vi x1), (3, vi x3), (6, pp b_2), (8, pp b_3), (10, vi x3), (11, .bool (x3 == 2))] hs fun a hs => ?_
 refine qcs (x3 == 2) hs (fun hb => ?_) fun hb => ?_
 ·replace hm := bif_t hm hb
  refine wp_skip ?_
  exact hj6 (x3 == 2) hm _ _ (hs.go [0, 1, 3, 6, 8, 11] [2, 1, 0] 3 (by kernel_rfl) (by kernel_rfl) (by kernel_rfl))
 ·replace hm := bif_f hm hb
  refine qse 2 [(0, pp b_x0), (1, vi x1), (3, vi x3), (6, pp b_2), (8, pp b_3), (10, vi x3), (11, .bool (x3 == 4))] hs fun a hs => ?_
  refine qcs (x3 == 4) hs (fun hb => ?_) fun hb => ?_
  ·replace hm := bif_t hm hb
   refine wp_skip ?_
   exact hj6 (x3 == 4) hm _ _ (hs.go [0, 1, 3, 6, 8, 11] [2, 1, 0] 3 (by kernel_rfl) (by kernel_rfl) (by kernel_rfl))
  ·replace hm := bif_f hm hb
   refine qse 2 [(0, pp b_x0), (1, vi x1), (3, vi x3), (6, pp b_2), (8, pp b_3), (10, vi x3), (11, .bool (x3 == 8))] hs fun a hs => ?_
   refine qcs (x3 == 8) hs (fun hb => ?_) fun hb => ?_
   ·replace hm := bif_t hm hb
    refine wp_skip ?_
    exact hj6 (x3 == 8) hm _ _ (hs.go [0, 1, 3, 6, 8, 11] [2, 1, 0] 3 (by kernel_rfl) (by kernel_rfl) (by kernel_rfl))
   ·replace hm := bif_f hm hb
    refine qse 2 [(0, pp b_x0), (1, vi x1), (3, vi x3), (6, pp b_2), (8, pp b_3), (10, vi x3), (11, .bool (x3 == 16))] hs fun a hs => ?_
    refine qcs (x3 == 16) hs (fun hb => ?_) fun hb => ?_
    ·replace hm := bif_t hm hb
     refine wp_skip ?_
     exact hj6 (x3 == 16) hm _ _ (hs.go [0, 1, 3, 6, 8, 11] [2, 1, 0] 3 (by kernel_rfl) (by kernel_rfl) (by kernel_rfl))
    ·replace hm := bif_f hm hb
     refine qse 2 [(0, pp b_x0), (1, vi x1), (3, vi x3), (6, pp b_2), (8, pp b_3), (10, vi x3), (11, .bool (x3 == 32))] hs fun a hs => ?_
     refine qcs (x3 == 32) hs (fun hb => ?_) fun hb => ?_
     ·replace hm := bif_t hm hb
      refine wp_skip ?_
      exact hj6 (x3 == 32) hm _ _ (hs.go [0, 1, 3, 6, 8, 11] [2, 1, 0] 3 (by kernel_rfl) (by kernel_rfl) (by kernel_rfl))
     ·replace hm := bif_f hm hb
      refine Vk.region ?_
      refine qpe 2 [(0, pp b_x0), (1, vi x1), (3, vi x3), (6, pp b_2), (8, pp b_3), (11, .bool (x3 == 64))] hs fun a hs => ?_
      exact hj6 (x3 == 64) hm _ _ (hs.go [0, 1, 3, 6, 8, 11] [2, 1, 0] 3 (by kernel_rfl) (by kernel_rfl) (by kernel_rfl))


abbrev wire_Machine_Values.R (κ : Ctx) (S : List HP) (x0 : Twire_Machine) (b_x0 : Nat) (g_x0 : Nat × Option Addr × Nat × Option Addr × Nat × Option Addr × Nat) (r : List Int) : Ending → World → Prop := fun e w' => ∃ (A_r0 : Option Addr), ∃ (c_r0 : Nat), e = .returned (.slice A_r0 r.length c_r0) ∧ Own κ w' (rowp A_r0 c_r0 23 1 (eI .u64) r :: bagL (Twire_Machine.parts b_x0 x0 g_x0) :: S)
def wire_Machine_Values.m (k : Nat) (x0 : Twire_Machine) : Option (List Int) := (slices_Clone_uint64_uint64.m k x0.values).bind fun v_10 => some v_10

set_option maxRecDepth 100000 in
set_option maxHeartbeats 4000000 in
theorem wire_Machine_Values.ok (k : Nat) (x0 : Twire_Machine) (r : List Int) (hm : wire_Machine_Values.m k x0 = some r) (κ : Ctx) (w : World) (S : List HP) (b_x0 : Nat) (g_x0 : Nat × Option Addr × Nat × Option Addr × Nat × Option Addr × Nat) (ho : Own κ w (bagL (Twire_Machine.parts b_x0 x0 g_x0) :: S)) :
  Calls Tryz.prog 20 #[pp b_x0] w (wire_Machine_Values.R κ S x0 b_x0 g_x0 r) := by
 unfold wire_Machine_Values.m at hm
 generalize hRR : wire_Machine_Values.R κ S x0 b_x0 g_x0 r = RR
 refine qen [(0, pp b_x0)] Tryz.func20 Tryz.ntmps20 ho fun a hs => ?_
 refine qse 1 [(0, pp b_x0)] hs fun a hs => ?_
 refine Vk.seq fun K2 hK2 => ?_
 refine qsk 2 [0, 4] hs fun a hs => ?_
 refine qcf hs ?_
 refine wp_skip ?_
 refine hK2 _ _ ?_
 clear hK2
 refine qsr fun K4 hK4 => ?_
 refine qpu 3 hs fun a hs => ?_
 replace hs := hs.unbagAt 0 rfl
 refine qld 0 (C.slc g_x0.2.2.2.1 x0.values.length g_x0.2.2.2.2.1) hs rfl fun a hs => ?_
 obtain ⟨v_10, h_9, hm⟩ := bind_t hm
 refine Vk.step (Vk.call (some 9) 71 #[.slice g_x0.2.2.2.1 x0.values.length g_x0.2.2.2.2.1] hs (by kernel_rfl) (by kernel_rfl) (by kernel_rfl) ?_)
 refine (slices_Clone_uint64_uint64.ok k x0.values v_10 h_9 κ w (pt b_x0 (blk (Twire_Machine.obj x0 g_x0.1 g_x0.2.1 g_x0.2.2.1 g_x0.2.2.2.1 g_x0.2.2.2.2.1 g_x0.2.2.2.2.2.1 g_x0.2.2.2.2.2.2) 95) :: opto x0.dry (Ttape_Tape.own g_x0.1 x0.tape) :: rowp g_x0.2.1 g_x0.2.2.1 103 6 Tapi_Op.cells x0.ops :: rowp g_x0.2.2.2.1 g_x0.2.2.2.2.1 23 1 (eI .u64) x0.values :: rowp g_x0.2.2.2.2.2.1 g_x0.2.2.2.2.2.2 119 3 Tapi_Span.cells x0.blocks :: S) g_x0.2.2.2.1 g_x0.2.2.2.2.1 (Sl.lift (fun w ho => (Own.to (S' := rowp g_x0.2.2.2.1 g_x0.2.2.2.2.1 23 1 (eI .u64) x0.values :: S) ho [3] 5 (by kernel_rfl) (by kernel_rfl))) (Own.rowSl 0 (Own.to (S' := rowp g_x0.2.2.2.1 g_x0.2.2.2.2.1 23 1 (eI .u64) x0.values :: S) hs.own [3] 5 (by kernel_rfl) (by kernel_rfl)) rfl)) hs.own).mono ?_
 rintro _ w ⟨Ar8x0_11, cr8x0_12, rfl, how⟩
 refine ⟨_, _, _, rfl, how, fun a hs => ?_⟩
 refine qpk 1 [2] hs fun a hs => hK4 _ _ ?_
 clear hK4
 refine wp_ret ?_
 replace hs := hs.bagG (l := Twire_Machine.parts b_x0 x0 g_x0) (S' := rowp Ar8x0_11 cr8x0_12 23 1 (eI .u64) v_10 :: S) hs.own.f5.f5.f5.f5.f5
 exact qr1 (.slice Ar8x0_11 v_10.length cr8x0_12) hs rfl hRR (by cases hm; exact ⟨Ar8x0_11, cr8x0_12, rfl, hs.own.f1⟩)


abbrev wire_Machine_Err.R (κ : Ctx) (S : List HP) (x0 : Twire_Machine) (b_x0 : Nat) (g_x0 : Nat × Option Addr × Nat × Option Addr × Nat × Option Addr × Nat) (r : Int) : Ending → World → Prop := fun e w' => e = .returned (vi r) ∧ Own κ w' (bagL (Twire_Machine.parts b_x0 x0 g_x0) :: S)
def wire_Machine_Err.m (k : Nat) (x0 : Twire_Machine) : Option Int := some x0.bad

set_option maxRecDepth 100000 in
set_option maxHeartbeats 4000000 in
theorem wire_Machine_Err.ok (k : Nat) (x0 : Twire_Machine) (r : Int) (hm : wire_Machine_Err.m k x0 = some r) (κ : Ctx) (w : World) (S : List HP) (b_x0 : Nat) (g_x0 : Nat × Option Addr × Nat × Option Addr × Nat × Option Addr × Nat) (ho : Own κ w (bagL (Twire_Machine.parts b_x0 x0 g_x0) :: S)) :
  Calls Tryz.prog 67 #[pp b_x0] w (wire_Machine_Err.R κ S x0 b_x0 g_x0 r) := by
 unfold wire_Machine_Err.m at hm
 generalize hRR : wire_Machine_Err.R κ S x0 b_x0 g_x0 r = RR
 refine qen [(0, pp b_x0)] Tryz.func67 Tryz.ntmps67 ho fun a hs => ?_
 refine qse 1 [(0, pp b_x0)] hs fun a hs => ?_
 refine Vk.seq fun K2 hK2 => ?_
 refine qsk 2 [0, 4] hs fun a hs => ?_
 refine qcf hs ?_
 refine wp_skip ?_
 refine hK2 _ _ ?_
 clear hK2
 refine qsr fun K4 hK4 => ?_
 refine qpu 3 hs fun a hs => ?_
 replace hs := hs.unbagAt 0 rfl
 refine qld 0 (ci x0.bad) hs rfl fun a hs => ?_
 refine qpe 1 [(2, vi x0.bad)] hs fun a hs => hK4 _ _ ?_
 clear hK4
 refine wp_ret ?_
 replace hs := hs.bagG (l := Twire_Machine.parts b_x0 x0 g_x0) (S' := S) hs.own
 exact qr1 (vi x0.bad) hs rfl hRR (by cases hm; exact ⟨rfl, hs.own⟩)


abbrev slices_Clone_api_Op_api_Op.R (κ : Ctx) (S : List HP) (x0 : List Tapi_Op) (A_x0 : Option Addr) (c_x0 : Nat) (r : List Tapi_Op) : Ending → World → Prop := fun e w' => ∃ (A_r0 : Option Addr), ∃ (c_r0 : Nat), e = .returned (.slice A_r0 r.length c_r0) ∧ Own κ w' (rowp A_r0 c_r0 103 6 Tapi_Op.cells r :: S)
def slices_Clone_api_Op_api_Op.m (k : Nat) (x0 : List Tapi_Op) : Option (List Tapi_Op) := (if (([] : List Tapi_Op).length + x0.length) * 48 ≤ 140737488355328 then some (([] : List Tapi_Op) ++ x0) else none)

set_option maxRecDepth 100000 in
set_option maxHeartbeats 4000000 in
theorem slices_Clone_api_Op_api_Op.ok (k : Nat) (x0 : List Tapi_Op) (r : List Tapi_Op) (hm : slices_Clone_api_Op_api_Op.m k x0 = some r) (κ : Ctx) (w : World) (S : List HP) (A_x0 : Option Addr) (c_x0 : Nat) (hx_x0 : Sl κ S A_x0 c_x0 6 Tapi_Op.cells x0) (ho : Own κ w (S)) :
  Calls Tryz.prog 105 #[.slice A_x0 x0.length c_x0] w (slices_Clone_api_Op_api_Op.R κ S x0 A_x0 c_x0 r) := by
 unfold slices_Clone_api_Op_api_Op.m at hm
 rcases A_x0 with _ | p_x0
 ·obtain rfl : c_x0 = 0 := hx_x0.none rfl
  obtain rfl : x0 = [] := List.length_eq_zero_iff.1 (Nat.le_zero.1 hx_x0.le)
  replace hm : some ([] : List Tapi_Op) = some r := by simpa using hm
  refine Vk.enter [(0, .slice none 0 0)] Tryz.func105 rfl Tryz.ntmps105 (by kernel_rfl) (Nat.le_of_ble_eq_true (by kernel_rfl)) ho fun a hs => ?_
  refine Vk.seq fun K1 hK1 => ?_
  refine Vk.region ?_
  refine Vk.pures 1 [(2, .slice none 0 0)] hs (by kernel_rfl) fun a hs => ?_
  replace hs := hs.pick [0] (L' := [(0, .slice none 0 0)]) (by kernel_rfl)
  refine Vk.done (by kernel_rfl) ?_
  refine hK1 _ _ ?_
  clear hK1
  refine Vk.seq fun K2 hK2 => ?_
  refine Vk.seq fun K3 hK3 => ?_
  refine Vk.region ?_
  refine Vk.pures 2 [(4, .bool true), (3, .slice none 0 0)] hs (by kernel_rfl) fun a hs => ?_
  replace hs := hs.pick [0, 4] (L' := [(0, .slice none 0 0), (4, .bool true)]) (by kernel_rfl)
  refine Vk.done (by kernel_rfl) ?_
  refine hK3 _ _ ?_
  clear hK3
  refine Vk.condT hs (by kernel_rfl) (by kernel_rfl) ?_
  refine Vk.seq fun K4 hK4 => ?_
  refine Vk.region ?_
  refine Vk.pures 1 [(2, .slice none 0 0)] hs (by kernel_rfl) fun a hs => ?_
  replace hs := hs.pick [2] (L' := [(2, .slice none 0 0)]) (by kernel_rfl)
  refine Vk.done (by kernel_rfl) ?_
  refine hK4 _ _ ?_
  clear hK4
  refine wp_ret ?_
  replace hs := hs.addRow none 103 6 Tapi_Op.cells
  exact Vk.ret1 (P := Tryz.prog) (fn := Tryz.f105) (R := slices_Clone_api_Op_api_Op.R κ S [] none 0 r) (.slice none (([] : List Tapi_Op).length) 0) hs rfl (by kernel_rfl) (by obtain rfl := Option.some.inj hm; exact ⟨none, 0, rfl, hs.own⟩)
 ·skip
  refine Vk.enter [(0, .slice (some p_x0) x0.length c_x0)] Tryz.func105 rfl Tryz.ntmps105 (by kernel_rfl) (Nat.le_of_ble_eq_true (by kernel_rfl)) ho fun a hs => ?_
  refine Vk.seq fun K1 hK1 => ?_
  refine Vk.region ?_
  refine Vk.pures 1 [(2, .slice none 0 0)] hs (by kernel_rfl) fun a hs => ?_
  replace hs := hs.pick [0] (L' := [(0, .slice (some p_x0) x0.length c_x0)]) (by kernel_rfl)
  refine Vk.done (by kernel_rfl) ?_
  refine hK1 _ _ ?_
  clear hK1
  refine Vk.seq fun K2 hK2 => ?_
  refine Vk.seq fun K3 hK3 => ?_
  refine Vk.region ?_
  refine Vk.pures 2 [(4, .bool false), (3, .slice (some p_x0) x0.length c_x0)] hs (by kernel_rfl) fun a hs => ?_
  replace hs := hs.pick [0, 4] (L' := [(0, .slice (some p_x0) x0.length c_x0), (4, .bool false)]) (by kernel_rfl)
  refine Vk.done (by kernel_rfl) ?_
  refine hK3 _ _ ?_
  clear hK3
  refine Vk.condF hs (by kernel_rfl) (by kernel_rfl) ?_
  refine wp_skip ?_
  refine hK2 _ _ ?_
  clear hK2
  refine Vk.seq fun K4 hK4 => ?_
  refine Vk.region ?_
  refine Vk.step (Vk.buildOp (sz := 6) (by_ := 48) (t := 49) (e := 103) (parts := #[]) (zs := vals [C.int .i64 0, C.int .i64 0, C.int .i64 0, C.int .i64 0, C.int .i64 0, C.int .u64 0]) ([] : List Tapi_Op) Tapi_Op.cells (some 5) hs (by kernel_rfl) (by kernel_rfl) (by kernel_rfl) (by kernel_rfl) (by decide) rfl (fun x _ => rfl) (Nat.le_of_ble_eq_true (by kernel_rfl)) (by kernel_rfl) fun A_5 w a hs => ?_)
  refine Vk.pures 1 [(6, .slice (some p_x0) x0.length c_x0)] hs (by kernel_rfl) fun a hs => ?_
  obtain ⟨h_7, hm⟩ := ite_t hm
  refine Vk.step (Vk.appendOp (x := (.tmp 5)) (y := (.tmp 6)) (e := 103) (t := 49) (by_ := 48) (sz := 6) (enc := Tapi_Op.cells) (A := A_5) (cap := 0) (xs := ([] : List Tapi_Op)) (ys := x0) (B := (some p_x0)) (c2 := c_x0) 0 (some 7) hs (by kernel_rfl) (by kernel_rfl) (by kernel_rfl) (by kernel_rfl) rfl hx_x0.less (by kernel_rfl) (by kernel_rfl) (by decide) (by decide) h_7 fun A_8 c_9 w a hs => ?_)
  refine Vk.pures 1 [(2, .slice A_8 ((([] : List Tapi_Op) ++ x0).length) c_9)] hs (by kernel_rfl) fun a hs => ?_
  replace hs := hs.pick [2] (L' := [(2, .slice A_8 ((([] : List Tapi_Op) ++ x0).length) c_9)]) (by kernel_rfl)
  refine Vk.done (by kernel_rfl) ?_
  refine hK4 _ _ ?_
  clear hK4
  refine wp_ret ?_
  exact Vk.ret1 (P := Tryz.prog) (fn := Tryz.f105) (R := slices_Clone_api_Op_api_Op.R κ S x0 (some p_x0) c_x0 r) (.slice A_8 ((([] : List Tapi_Op) ++ x0).length) c_9) hs rfl (by kernel_rfl) (by obtain rfl := Option.some.inj hm; exact ⟨A_8, c_9, rfl, hs.own⟩)


abbrev slices_Clone_api_Span_api_Span.R (κ : Ctx) (S : List HP) (x0 : List Tapi_Span) (A_x0 : Option Addr) (c_x0 : Nat) (r : List Tapi_Span) : Ending → World → Prop := fun e w' => ∃ (A_r0 : Option Addr), ∃ (c_r0 : Nat), e = .returned (.slice A_r0 r.length c_r0) ∧ Own κ w' (rowp A_r0 c_r0 119 3 Tapi_Span.cells r :: S)
def slices_Clone_api_Span_api_Span.m (k : Nat) (x0 : List Tapi_Span) : Option (List Tapi_Span) := (if (([] : List Tapi_Span).length + x0.length) * 24 ≤ 140737488355328 then some (([] : List Tapi_Span) ++ x0) else none)

set_option maxRecDepth 100000 in
set_option maxHeartbeats 4000000 in
theorem slices_Clone_api_Span_api_Span.ok (k : Nat) (x0 : List Tapi_Span) (r : List Tapi_Span) (hm : slices_Clone_api_Span_api_Span.m k x0 = some r) (κ : Ctx) (w : World) (S : List HP) (A_x0 : Option Addr) (c_x0 : Nat) (hx_x0 : Sl κ S A_x0 c_x0 3 Tapi_Span.cells x0) (ho : Own κ w (S)) :
  Calls Tryz.prog 106 #[.slice A_x0 x0.length c_x0] w (slices_Clone_api_Span_api_Span.R κ S x0 A_x0 c_x0 r) := by
 unfold slices_Clone_api_Span_api_Span.m at hm
 rcases A_x0 with _ | p_x0
 ·obtain rfl : c_x0 = 0 := hx_x0.none rfl
  obtain rfl : x0 = [] := List.length_eq_zero_iff.1 (Nat.le_zero.1 hx_x0.le)
  replace hm : some ([] : List Tapi_Span) = some r := by simpa using hm
  refine Vk.enter [(0, .slice none 0 0)] Tryz.func106 rfl Tryz.ntmps106 (by kernel_rfl) (Nat.le_of_ble_eq_true (by kernel_rfl)) ho fun a hs => ?_
  refine Vk.seq fun K1 hK1 => ?_
  refine Vk.region ?_
  refine Vk.pures 1 [(2, .slice none 0 0)] hs (by kernel_rfl) fun a hs => ?_
  replace hs := hs.pick [0] (L' := [(0, .slice none 0 0)]) (by kernel_rfl)
  refine Vk.done (by kernel_rfl) ?_
  refine hK1 _ _ ?_
  clear hK1
  refine Vk.seq fun K2 hK2 => ?_
  refine Vk.seq fun K3 hK3 => ?_
  refine Vk.region ?_
  refine Vk.pures 2 [(4, .bool true), (3, .slice none 0 0)] hs (by kernel_rfl) fun a hs => ?_
  replace hs := hs.pick [0, 4] (L' := [(0, .slice none 0 0), (4, .bool true)]) (by kernel_rfl)
  refine Vk.done (by kernel_rfl) ?_
  refine hK3 _ _ ?_
  clear hK3
  refine Vk.condT hs (by kernel_rfl) (by kernel_rfl) ?_
  refine Vk.seq fun K4 hK4 => ?_
  refine Vk.region ?_
  refine Vk.pures 1 [(2, .slice none 0 0)] hs (by kernel_rfl) fun a hs => ?_
  replace hs := hs.pick [2] (L' := [(2, .slice none 0 0)]) (by kernel_rfl)
  refine Vk.done (by kernel_rfl) ?_
  refine hK4 _ _ ?_
  clear hK4
  refine wp_ret ?_
  replace hs := hs.addRow none 119 3 Tapi_Span.cells
  exact Vk.ret1 (P := Tryz.prog) (fn := Tryz.f106) (R := slices_Clone_api_Span_api_Span.R κ S [] none 0 r) (.slice none (([] : List Tapi_Span).length) 0) hs rfl (by kernel_rfl) (by obtain rfl := Option.some.inj hm; exact ⟨none, 0, rfl, hs.own⟩)
 ·skip
  refine Vk.enter [(0, .slice (some p_x0) x0.length c_x0)] Tryz.func106 rfl Tryz.ntmps106 (by kernel_rfl) (Nat.le_of_ble_eq_true (by kernel_rfl)) ho fun a hs => ?_
  refine Vk.seq fun K1 hK1 => ?_
  refine Vk.region ?_
  refine Vk.pures 1 [(2, .slice none 0 0)] hs (by kernel_rfl) fun a hs => ?_
  replace hs := hs.pick [0] (L' := [(0, .slice (some p_x0) x0.length c_x0)]) (by kernel_rfl)
  refine Vk.done (by kernel_rfl) ?_
  refine hK1 _ _ ?_
  clear hK1
  refine Vk.seq fun K2 hK2 => ?_
  refine Vk.seq fun K3 hK3 => ?_
  refine Vk.region ?_
  refine Vk.pures 2 [(4, .bool false), (3, .slice (some p_x0) x0.length c_x0)] hs (by kernel_rfl) fun a hs => ?_
  replace hs := hs.pick [0, 4] (L' := [(0, .slice (some p_x0) x0.length c_x0), (4, .bool false)]) (by kernel_rfl)
  refine Vk.done (by kernel_rfl) ?_
  refine hK3 _ _ ?_
  clear hK3
  refine Vk.condF hs (by kernel_rfl) (by kernel_rfl) ?_
  refine wp_skip ?_
  refine hK2 _ _ ?_
  clear hK2
  refine Vk.seq fun K4 hK4 => ?_
  refine Vk.region ?_
  refine Vk.step (Vk.buildOp (sz := 3) (by_ := 24) (t := 50) (e := 119) (parts := #[]) (zs := vals [C.int .i64 0, C.int .i64 0, C.int .i64 0]) ([] : List Tapi_Span) Tapi_Span.cells (some 5) hs (by kernel_rfl) (by kernel_rfl) (by kernel_rfl) (by kernel_rfl) (by decide) rfl (fun x _ => rfl) (Nat.le_of_ble_eq_true (by kernel_rfl)) (by kernel_rfl) fun A_5 w a hs => ?_)
  refine Vk.pures 1 [(6, .slice (some p_x0) x0.length c_x0)] hs (by kernel_rfl) fun a hs => ?_
  obtain ⟨h_7, hm⟩ := ite_t hm
  refine Vk.step (Vk.appendOp (x := (.tmp 5)) (y := (.tmp 6)) (e := 119) (t := 50) (by_ := 24) (sz := 3) (enc := Tapi_Span.cells) (A := A_5) (cap := 0) (xs := ([] : List Tapi_Span)) (ys := x0) (B := (some p_x0)) (c2 := c_x0) 0 (some 7) hs (by kernel_rfl) (by kernel_rfl) (by kernel_rfl) (by kernel_rfl) rfl hx_x0.less (by kernel_rfl) (by kernel_rfl) (by decide) (by decide) h_7 fun A_8 c_9 w a hs => ?_)
  refine Vk.pures 1 [(2, .slice A_8 ((([] : List Tapi_Span) ++ x0).length) c_9)] hs (by kernel_rfl) fun a hs => ?_
  replace hs := hs.pick [2] (L' := [(2, .slice A_8 ((([] : List Tapi_Span) ++ x0).length) c_9)]) (by kernel_rfl)
  refine Vk.done (by kernel_rfl) ?_
  refine hK4 _ _ ?_
  clear hK4
  refine wp_ret ?_
  exact Vk.ret1 (P := Tryz.prog) (fn := Tryz.f106) (R := slices_Clone_api_Span_api_Span.R κ S x0 (some p_x0) c_x0 r) (.slice A_8 ((([] : List Tapi_Span) ++ x0).length) c_9) hs rfl (by kernel_rfl) (by obtain rfl := Option.some.inj hm; exact ⟨A_8, c_9, rfl, hs.own⟩)

structure Tapi_Trace where
 n : Int
 ops : List Tapi_Op
 blocks : List Tapi_Span
 deriving Inhabited
def Tapi_Trace.obj (x : Tapi_Trace) (Aops : Option Addr) (cops : Nat) (Ablocks : Option Addr) (cblocks : Nat) : Cells := [C.int .i64 x.n, C.slc Aops x.ops.length cops, C.slc Ablocks x.blocks.length cblocks]

abbrev wire_Machine_Trace.R (κ : Ctx) (S : List HP) (x0 : Twire_Machine) (b_x0 : Nat) (g_x0 : Nat × Option Addr × Nat × Option Addr × Nat × Option Addr × Nat) (r : Tapi_Trace) : Ending → World → Prop := fun e w' => ∃ (A_r0ops : Option Addr), ∃ (c_r0ops : Nat), ∃ (A_r0blocks : Option Addr), ∃ (c_r0blocks : Nat), e = .returned (.agg (vals [ci r.n, C.slc A_r0ops r.ops.length c_r0ops, C.slc A_r0blocks r.blocks.length c_r0blocks])) ∧ Own κ w' (rowp A_r0ops c_r0ops 103 6 Tapi_Op.cells r.ops :: rowp A_r0blocks c_r0blocks 119 3 Tapi_Span.cells r.blocks :: bagL (Twire_Machine.parts b_x0 x0 g_x0) :: S)
def wire_Machine_Trace.m (k : Nat) (x0 : Twire_Machine) : Option Tapi_Trace := (slices_Clone_api_Op_api_Op.m k x0.ops).bind fun v_12 => (slices_Clone_api_Span_api_Span.m k x0.blocks).bind fun v_17 => some (⟨x0.n, v_12, v_17⟩ : Tapi_Trace)

set_option maxRecDepth 100000 in
set_option maxHeartbeats 4000000 in
theorem wire_Machine_Trace.ok (k : Nat) (x0 : Twire_Machine) (r : Tapi_Trace) (hm : wire_Machine_Trace.m k x0 = some r) (κ : Ctx) (w : World) (S : List HP) (b_x0 : Nat) (g_x0 : Nat × Option Addr × Nat × Option Addr × Nat × Option Addr × Nat) (ho : Own κ w (bagL (Twire_Machine.parts b_x0 x0 g_x0) :: S)) :
  Calls Tryz.prog 69 #[pp b_x0] w (wire_Machine_Trace.R κ S x0 b_x0 g_x0 r) := by
 unfold wire_Machine_Trace.m at hm
 generalize hRR : wire_Machine_Trace.R κ S x0 b_x0 g_x0 r = RR
 refine qen [(0, pp b_x0)] Tryz.func69 Tryz.ntmps69 ho fun a hs => ?_
 refine qsr fun K1 hK1 => ?_
 refine qal 91 [ci 0, C.slc none 0 0, C.slc none 0 0] 2 hs fun b_2 w a hs => ?_
 refine qpe 0 [(0, pp b_x0), (2, pp b_2)] hs fun a hs => hK1 _ _ ?_
 clear hK1
 refine Vk.seq fun K3 hK3 => ?_
 refine qsk 2 [0, 2, 4] hs fun a hs => ?_
 refine qcf hs ?_
 refine wp_skip ?_
 refine hK3 _ _ ?_
 clear hK3
 refine Vk.seq fun K5 hK5 => ?_
 replace hs := hs.unbagAt 1 rfl
 obtain ⟨C_9, hC_9⟩ := qC hs.own
 refine qdr 15 κ C_9 hs fun w hs hqC_9 => ?_
 have hcl := qO hC_9 hs.own
 refine qdp (fuel := 7) [0, 1, 2, 4, 5, 6, 9, 10, 11] hs hcl hqC_9 fun a hs => ?_
 refine qdl 3 0 (ci x0.n) hs hcl hqC_9 hC_9 rfl fun a hs => ?_
 refine qdl 7 0 (C.slc g_x0.2.1 x0.ops.length g_x0.2.2.1) hs hcl hqC_9 hC_9 rfl fun a hs => ?_
 refine qdl 12 0 (C.slc g_x0.2.2.2.2.2.1 x0.blocks.length g_x0.2.2.2.2.2.2) hs hcl hqC_9 hC_9 rfl fun a hs => ?_
 obtain ⟨v_12, h_11, hm⟩ := bind_t hm
 refine Vk.dOnly (i := 8) (by kernel_rfl) (Vk.call (some 14) 105 #[.slice g_x0.2.1 x0.ops.length g_x0.2.2.1] hs (by kernel_rfl) (by kernel_rfl) (by kernel_rfl) ?_)
 refine (slices_Clone_api_Op_api_Op.ok k x0.ops v_12 h_11 κ w (pt b_x0 (blk (Twire_Machine.obj x0 g_x0.1 g_x0.2.1 g_x0.2.2.1 g_x0.2.2.2.1 g_x0.2.2.2.2.1 g_x0.2.2.2.2.2.1 g_x0.2.2.2.2.2.2) 95) :: opto x0.dry (Ttape_Tape.own g_x0.1 x0.tape) :: rowp g_x0.2.1 g_x0.2.2.1 103 6 Tapi_Op.cells x0.ops :: rowp g_x0.2.2.2.1 g_x0.2.2.2.2.1 23 1 (eI .u64) x0.values :: rowp g_x0.2.2.2.2.2.1 g_x0.2.2.2.2.2.2 119 3 Tapi_Span.cells x0.blocks :: pt b_2 (blk [ci 0, C.slc none 0 0, C.slc none 0 0] 91) :: S) g_x0.2.1 g_x0.2.2.1 (Sl.lift (fun w ho => (Own.to (S' := rowp g_x0.2.1 g_x0.2.2.1 103 6 Tapi_Op.cells x0.ops :: S) ho [2] 6 (by kernel_rfl) (by kernel_rfl))) (Own.rowSl 0 (Own.to (S' := rowp g_x0.2.1 g_x0.2.2.1 103 6 Tapi_Op.cells x0.ops :: S) hs.own [2] 6 (by kernel_rfl) (by kernel_rfl)) rfl)) hs.own).mono ?_
 rintro _ w ⟨Ar10x0_13, cr10x0_14, rfl, how⟩
 refine ⟨_, _, _, rfl, how, fun a hs => ?_⟩
 replace hcl := qO hC_9 hs.own.drop
 refine ⟨fun _ => hcl, ?_⟩
 obtain ⟨v_17, h_16, hm⟩ := bind_t hm
 refine Vk.dOnly (i := 13) (by kernel_rfl) (Vk.call (some 19) 106 #[.slice g_x0.2.2.2.2.2.1 x0.blocks.length g_x0.2.2.2.2.2.2] hs (by kernel_rfl) (by kernel_rfl) (by kernel_rfl) ?_)
 refine (slices_Clone_api_Span_api_Span.ok k x0.blocks v_17 h_16 κ w (rowp Ar10x0_13 cr10x0_14 103 6 Tapi_Op.cells v_12 :: pt b_x0 (blk (Twire_Machine.obj x0 g_x0.1 g_x0.2.1 g_x0.2.2.1 g_x0.2.2.2.1 g_x0.2.2.2.2.1 g_x0.2.2.2.2.2.1 g_x0.2.2.2.2.2.2) 95) :: opto x0.dry (Ttape_Tape.own g_x0.1 x0.tape) :: rowp g_x0.2.1 g_x0.2.2.1 103 6 Tapi_Op.cells x0.ops :: rowp g_x0.2.2.2.1 g_x0.2.2.2.2.1 23 1 (eI .u64) x0.values :: rowp g_x0.2.2.2.2.2.1 g_x0.2.2.2.2.2.2 119 3 Tapi_Span.cells x0.blocks :: pt b_2 (blk [ci 0, C.slc none 0 0, C.slc none 0 0] 91) :: S) g_x0.2.2.2.2.2.1 g_x0.2.2.2.2.2.2 (Sl.lift (fun w ho => (Own.to (S' := rowp g_x0.2.2.2.2.2.1 g_x0.2.2.2.2.2.2 119 3 Tapi_Span.cells x0.blocks :: S) ho [5] 7 (by kernel_rfl) (by kernel_rfl))) (Own.rowSl 0 (Own.to (S' := rowp g_x0.2.2.2.2.2.1 g_x0.2.2.2.2.2.2 119 3 Tapi_Span.cells x0.blocks :: S) hs.own [5] 7 (by kernel_rfl) (by kernel_rfl)) rfl)) hs.own).mono ?_
 rintro _ w ⟨Ar15x0_18, cr15x0_19, rfl, how⟩
 refine ⟨_, _, _, rfl, how, fun a hs => ?_⟩
 replace hcl := qO hC_9 hs.own.f1.drop.drop
 refine ⟨fun _ => hcl, ?_⟩
 refine qdp (fuel := 1) [14] hs hcl hqC_9 fun a hs => ?_
 refine qsA 15 7 [ci x0.n, C.slc Ar10x0_13 v_12.length cr10x0_14, C.slc Ar15x0_18 v_17.length cr15x0_19] hs rfl rfl rfl fun a w hs => ?_
 refine ⟨fun h => absurd h (by decide), ?_⟩
 replace hs := hs.pick [2] (L' := [(2, pp b_2)]) (by kernel_rfl)
 refine Vk.dDone (by kernel_rfl) ?_
 refine hK5 _ _ ?_
 clear hK5
 refine wp_ret ?_
 replace hs := hs.bagG (l := Twire_Machine.parts b_x0 x0 g_x0) (S' := rowp Ar15x0_18 cr15x0_19 119 3 Tapi_Span.cells v_17 :: rowp Ar10x0_13 cr10x0_14 103 6 Tapi_Op.cells v_12 :: pt b_2 (blk [ci x0.n, C.slc Ar10x0_13 v_12.length cr10x0_14, C.slc Ar15x0_18 v_17.length cr15x0_19] 91) :: S) hs.own.f6.f6.f6.f6.f6
 exact Vk.retC [ci x0.n, C.slc Ar10x0_13 v_12.length cr10x0_14, C.slc Ar15x0_18 v_17.length cr15x0_19] hs rfl (by kernel_rfl) (sz := 3) (by kernel_rfl) rfl (CellsAt.all 3 rfl) (hRR ▸ by cases hm; exact ⟨Ar10x0_13, cr10x0_14, Ar15x0_18, cr15x0_19, rfl, hs.own.f3.drop.f1.f2⟩)


def visorref18_Same.j2 (k : Nat) (rec36 : Int → Option (Sum (Bool) (Unit))) (q_37 : Int) (p_62 : Tapi_Op) (p_66 : Tapi_Op) : Option (Sum (Bool) (Unit)) := (bif !(((p_66.kind == p_62.kind) && ((p_66.dom == p_62.dom) && ((p_66.a == p_62.a) && ((p_66.b == p_62.b) && ((p_66.d == p_62.d) && ((p_66.c == p_62.c) && true))))))) then some (.inl false) else rec36 (IntKind.i64.wrap (q_37 + 1)))
def visorref18_Same.j1 (k : Nat) (rec36 : Int → Option (Sum (Bool) (Unit))) (q_37 : Int) (p_60 : Tapi_Op) (p_62 : Tapi_Op) : Option (Sum (Bool) (Unit)) := (bif (p_60.kind == 4) && (p_62.kind == 4) then visorref18_Same.j2 k (rec36) q_37 p_62 (⟨p_60.kind, p_60.dom, p_60.a, p_60.b, p_60.d, p_62.c⟩ : Tapi_Op) else visorref18_Same.j2 k (rec36) q_37 p_62 p_60)
def visorref18_Same.l2 (x0 : Tapi_Trace) (x1 : Tapi_Trace) : Nat → Int → Option (Sum (Bool) (Unit))
 | 0, _ => none
 | k + 1, q_37 => (bif decide (q_37 < ((x0.ops.length : Nat) : Int)) then (if 0 ≤ q_37 then (x0.ops[q_37.toNat]?).bind fun e_46 => (if 0 ≤ q_37 then (x1.ops[q_37.toNat]?).bind fun e_53 => visorref18_Same.j1 k (visorref18_Same.l2 x0 x1 k) q_37 e_46 e_53 else none) else none) else some (.inr ()))
def visorref18_Same.l1 (x0 : Tapi_Trace) (x1 : Tapi_Trace) : Nat → Int → Option (Sum (Bool) (Unit))
 | 0, _ => none
 | k + 1, q_12 => (bif decide (q_12 < ((x0.blocks.length : Nat) : Int)) then (if 0 ≤ q_12 then (x0.blocks[q_12.toNat]?).bind fun e_21 => (if 0 ≤ q_12 then (x1.blocks[q_12.toNat]?).bind fun e_28 => (bif !(((e_21.kind == e_28.kind) && ((e_21.fromF == e_28.fromF) && ((e_21.to == e_28.to) && true)))) then some (.inl false) else visorref18_Same.l1 x0 x1 k (IntKind.i64.wrap (q_12 + 1))) else none) else none) else some (.inr ()))
abbrev visorref18_Same.R (κ : Ctx) (S : List HP) (x0 : Tapi_Trace) (x1 : Tapi_Trace) (A_x0ops : Option Addr) (c_x0ops : Nat) (A_x0blocks : Option Addr) (c_x0blocks : Nat) (A_x1ops : Option Addr) (c_x1ops : Nat) (A_x1blocks : Option Addr) (c_x1blocks : Nat) (r : Bool) : Ending → World → Prop := fun e w' => e = .returned (.bool r) ∧ Own κ w' (S)
def visorref18_Same.m (k : Nat) (x0 : Tapi_Trace) (x1 : Tapi_Trace) : Option Bool := (bif ((x0.n != x1.n) || (((x0.ops.length : Nat) : Int) != ((x1.ops.length : Nat) : Int))) || (((x0.blocks.length : Nat) : Int) != ((x1.blocks.length : Nat) : Int)) then some false else (visorref18_Same.l1 x0 x1 k 0).bind fun x => match x with | .inl v => some v | .inr () => (visorref18_Same.l2 x0 x1 k 0).bind fun x => match x with | .inl v => some v | .inr () => some true)

set_option maxRecDepth 100000 in
set_option maxHeartbeats 4000000 in
theorem visorref18_Same.ok (k : Nat) (x0 : Tapi_Trace) (x1 : Tapi_Trace) (r : Bool) (hm : visorref18_Same.m k x0 x1 = some r) (κ : Ctx) (w : World) (S : List HP) (A_x0ops : Option Addr) (c_x0ops : Nat) (hx_x0ops : Sl κ S A_x0ops c_x0ops 6 Tapi_Op.cells x0.ops) (A_x0blocks : Option Addr) (c_x0blocks : Nat) (hx_x0blocks : Sl κ S A_x0blocks c_x0blocks 3 Tapi_Span.cells x0.blocks) (A_x1ops : Option Addr) (c_x1ops : Nat) (hx_x1ops : Sl κ S A_x1ops c_x1ops 6 Tapi_Op.cells x1.ops) (A_x1blocks : Option Addr) (c_x1blocks : Nat) (hx_x1blocks : Sl κ S A_x1blocks c_x1blocks 3 Tapi_Span.cells x1.blocks) (ho : Own κ w (S)) :
  Calls Tryz.prog 68 #[.agg (vals [ci x0.n, C.slc A_x0ops x0.ops.length c_x0ops, C.slc A_x0blocks x0.blocks.length c_x0blocks]), .agg (vals [ci x1.n, C.slc A_x1ops x1.ops.length c_x1ops, C.slc A_x1blocks x1.blocks.length c_x1blocks])] w (visorref18_Same.R κ S x0 x1 A_x0ops c_x0ops A_x0blocks c_x0blocks A_x1ops c_x1ops A_x1blocks c_x1blocks r) := by
 unfold visorref18_Same.m at hm
 generalize hRR : visorref18_Same.R κ S x0 x1 A_x0ops c_x0ops A_x0blocks c_x0blocks A_x1ops c_x1ops A_x1blocks c_x1blocks r = RR
 refine qen [(0, .agg (vals [ci x0.n, C.slc A_x0ops x0.ops.length c_x0ops, C.slc A_x0blocks x0.blocks.length c_x0blocks])), (1, .agg (vals [ci x1.n, C.slc A_x1ops x1.ops.length c_x1ops, C.slc A_x1blocks x1.blocks.length c_x1blocks]))] Tryz.func68 Tryz.ntmps68 ho fun a hs => ?_
 refine qsr fun K1 hK1 => ?_
 refine qbx 0 91 [ci x0.n, C.slc A_x0ops x0.ops.length c_x0ops, C.slc A_x0blocks x0.blocks.length c_x0blocks] 2 hs fun b_2 w a hs => ?_
 refine qbx 1 91 [ci x1.n, C.slc A_x1ops x1.ops.length c_x1ops, C.slc A_x1blocks x1.blocks.length c_x1blocks] 3 hs fun b_3 w a hs => ?_
 refine qpe 1 [(2, pp b_2), (3, pp b_3)] hs fun a hs => hK1 _ _ ?_
 clear hK1
 refine Vk.seq fun K4 hK4 => ?_
 refine qsr fun K5 hK5 => ?_
 refine qpu 1 hs fun a hs => ?_
 refine qld 1 (ci x0.n) hs rfl fun a hs => ?_
 refine qpu 1 hs fun a hs => ?_
 refine qld 0 (ci x1.n) hs rfl fun a hs => ?_
 refine qpu 2 hs fun a hs => ?_
 suffices hj_6 : ∀ a, St 81 a w κ [(2, pp b_2), (3, pp b_3), (9, pp b_2), (10, vi x0.n), (11, pp b_3), (12, vi x1.n), (13, .bool (x0.n != x1.n)), (14, .bool (x0.n != x1.n)), (22, .bool ((x0.n != x1.n) || (((x0.ops.length : Nat) : Int) != ((x1.ops.length : Nat) : Int))))] (pt b_3 (blk (Tapi_Trace.obj x1 A_x1ops c_x1ops A_x1blocks c_x1blocks) 91) :: pt b_2 (blk (Tapi_Trace.obj x0 A_x0ops c_x0ops A_x0blocks c_x0blocks) 91) :: S) → wpFrom Tryz.prog _ _ 14 a w by
  rcases Bool.eq_false_or_eq_true (x0.n != x1.n) with hb | hb
  ·replace hs := hs.known (t := 14) hb (by kernel_rfl)
   refine qpu 8 hs fun a hs => ?_
   have hq := hs.pick [2, 3, 9, 10, 11, 12, 13, 14, 22] (L' := [(2, pp b_2), (3, pp b_3), (9, pp b_2), (10, vi x0.n), (11, pp b_3), (12, vi x1.n), (13, .bool (x0.n != x1.n)), (14, .bool true), (22, .bool true)]) (by kernel_rfl)
   exact hj_6 _ (hq.conv (by first | (rw [hb] <;> rfl) | rfl))
  ·replace hs := hs.known (t := 14) hb (by kernel_rfl)
   refine qpu 1 hs fun a hs => ?_
   refine qld 1 (C.slc A_x0ops x0.ops.length c_x0ops) hs rfl fun a hs => ?_
   refine qpu 2 hs fun a hs => ?_
   refine qld 0 (C.slc A_x1ops x1.ops.length c_x1ops) hs rfl fun a hs => ?_
   refine qpu 3 hs fun a hs => ?_
   have hq := hs.pick [2, 3, 9, 10, 11, 12, 13, 14, 22] (L' := [(2, pp b_2), (3, pp b_3), (9, pp b_2), (10, vi x0.n), (11, pp b_3), (12, vi x1.n), (13, .bool (x0.n != x1.n)), (14, .bool false), (22, .bool (((x0.ops.length : Nat) : Int) != ((x1.ops.length : Nat) : Int)))]) (by kernel_rfl)
   exact hj_6 _ (hq.conv (by first | (rw [hb] <;> rfl) | rfl))
 intro a hs
 refine qpu 1 hs fun a hs => ?_
 suffices hj_7 : ∀ a, St 81 a w κ [(2, pp b_2), (3, pp b_3), (9, pp b_2), (10, vi x0.n), (11, pp b_3), (12, vi x1.n), (13, .bool (x0.n != x1.n)), (14, .bool (x0.n != x1.n)), (22, .bool ((x0.n != x1.n) || (((x0.ops.length : Nat) : Int) != ((x1.ops.length : Nat) : Int)))), (23, .bool ((x0.n != x1.n) || (((x0.ops.length : Nat) : Int) != ((x1.ops.length : Nat) : Int)))), (31, .bool (((x0.n != x1.n) || (((x0.ops.length : Nat) : Int) != ((x1.ops.length : Nat) : Int))) || (((x0.blocks.length : Nat) : Int) != ((x1.blocks.length : Nat) : Int))))] (pt b_3 (blk (Tapi_Trace.obj x1 A_x1ops c_x1ops A_x1blocks c_x1blocks) 91) :: pt b_2 (blk (Tapi_Trace.obj x0 A_x0ops c_x0ops A_x0blocks c_x0blocks) 91) :: S) → wpFrom Tryz.prog _ _ 23 a w by
  rcases Bool.eq_false_or_eq_true ((x0.n != x1.n) || (((x0.ops.length : Nat) : Int) != ((x1.ops.length : Nat) : Int))) with hb | hb
  ·replace hs := hs.known (t := 23) hb (by kernel_rfl)
   refine qpu 8 hs fun a hs => ?_
   have hq := hs.pick [2, 3, 9, 10, 11, 12, 13, 14, 22, 23, 31] (L' := [(2, pp b_2), (3, pp b_3), (9, pp b_2), (10, vi x0.n), (11, pp b_3), (12, vi x1.n), (13, .bool (x0.n != x1.n)), (14, .bool (x0.n != x1.n)), (22, .bool ((x0.n != x1.n) || (((x0.ops.length : Nat) : Int) != ((x1.ops.length : Nat) : Int)))), (23, .bool true), (31, .bool true)]) (by kernel_rfl)
   exact hj_7 _ (hq.conv (by first | (rw [hb] <;> rfl) | rfl))
  ·replace hs := hs.known (t := 23) hb (by kernel_rfl)
   refine qpu 1 hs fun a hs => ?_
   refine qld 1 (C.slc A_x0blocks x0.blocks.length c_x0blocks) hs rfl fun a hs => ?_
   refine qpu 2 hs fun a hs => ?_
   refine qld 0 (C.slc A_x1blocks x1.blocks.length c_x1blocks) hs rfl fun a hs => ?_
   refine qpu 3 hs fun a hs => ?_
   have hq := hs.pick [2, 3, 9, 10, 11, 12, 13, 14, 22, 23, 31] (L' := [(2, pp b_2), (3, pp b_3), (9, pp b_2), (10, vi x0.n), (11, pp b_3), (12, vi x1.n), (13, .bool (x0.n != x1.n)), (14, .bool (x0.n != x1.n)), (22, .bool ((x0.n != x1.n) || (((x0.ops.length : Nat) : Int) != ((x1.ops.length : Nat) : Int)))), (23, .bool false), (31, .bool (((x0.blocks.length : Nat) : Int) != ((x1.blocks.length : Nat) : Int)))]) (by kernel_rfl)
   exact hj_7 _ (hq.conv (by first | (rw [hb] <;> rfl) | rfl))
 intro a hs
 refine qpk 0 [2, 3, 31] hs fun a hs => hK5 _ _ ?_
 clear hK5
 refine qcs (((x0.n != x1.n) || (((x0.ops.length : Nat) : Int) != ((x1.ops.length : Nat) : Int))) || (((x0.blocks.length : Nat) : Int) != ((x1.blocks.length : Nat) : Int))) hs (fun hb => ?_) fun hb => ?_
 ·replace hm := bif_t hm hb
  refine qse 1 [(4, .bool false)] hs fun a hs => ?_
  refine wp_ret ?_
  exact qr1 (.bool false) hs rfl hRR (by cases hm; exact ⟨rfl, hs.own.f1.drop.drop⟩)
 ·replace hm := bif_f hm hb
  refine wp_skip ?_
  refine hK4 _ _ ?_
  clear hK4
  refine Vk.seq fun K9 hK9 => ?_
  refine qsk 1 [2, 3, 5] hs fun a hs => ?_
  refine wp_block ?_
  obtain ⟨r11, hl11, hm⟩ := bind_t hm
  have hx11 : r11 = Sum.inr () → ∀ (a : Act) (w : World), St 81 a w κ [(2, pp b_2), (3, pp b_3)] (pt b_2 (blk (Tapi_Trace.obj x0 A_x0ops c_x0ops A_x0blocks c_x0blocks) 91) :: pt b_3 (blk (Tapi_Trace.obj x1 A_x1ops c_x1ops A_x1blocks c_x1blocks) 91) :: S) → K9 a w := by
   intro he a w hs
   subst r11
   refine hK9 _ _ ?_
   clear hK9
   refine Vk.seq fun K34 hK34 => ?_
   refine qsk 1 [2, 3, 6] hs fun a hs => ?_
   refine wp_block ?_
   obtain ⟨r36, hl36, hm⟩ := bind_t hm
   have hx36 : r36 = Sum.inr () → ∀ (a : Act) (w : World), St 81 a w κ [] (S) → K34 a w := by
    intro he a w hs
    subst r36
    refine hK34 _ _ ?_
    clear hK34
    refine qse 1 [(4, .bool true)] hs fun a hs => ?_
    refine wp_ret ?_
    exact qr1 (.bool true) hs rfl hRR (by cases hm; exact ⟨rfl, hs.own⟩)
   have hret36 : ∀ v, r36 = Sum.inl v → v = r := by intro v he; subst r36; exact Option.some.inj hm
   refine Vk.loopBy (fun k (s : Int) a w => visorref18_Same.l2 x0 x1 k s = some r36 ∧ St 81 a w κ [(2, pp b_2), (3, pp b_3), (6, vi s)] (pt b_2 (blk (Tapi_Trace.obj x0 A_x0ops c_x0ops A_x0blocks c_x0blocks) 91) :: pt b_3 (blk (Tapi_Trace.obj x1 A_x1ops c_x1ops A_x1blocks c_x1blocks) 91) :: S)) k 0 ⟨hl36, hs.go [2, 3, 6] [0, 1] 2 (by kernel_rfl) (by kernel_rfl) (by kernel_rfl)⟩ (fun s a w h => by obtain ⟨h1, _⟩ := h; simp [visorref18_Same.l2] at h1) (fun k KL36 ih q_37 a w h => ?_)
   obtain ⟨hm, hs⟩ := h
   try dsimp only at hm hs
   rw [visorref18_Same.l2] at hm
   refine Vk.seq fun K38 hK38 => ?_
   refine qsr fun K39 hK39 => ?_
   refine qpu 2 hs fun a hs => ?_
   refine qld 0 (C.slc A_x0ops x0.ops.length c_x0ops) hs rfl fun a hs => ?_
   refine qpk 2 [2, 3, 6, 54] hs fun a hs => hK39 _ _ ?_
   clear hK39
   refine qcs (decide (q_37 < ((x0.ops.length : Nat) : Int))) hs (fun hb => ?_) fun hb => ?_
   ·replace hm := bif_t hm hb
    refine wp_skip ?_
    refine hK38 _ _ ?_
    clear hK38
    refine Vk.seq fun K40 hK40 => ?_
    refine wp_block ?_
    refine Vk.seq fun K41 hK41 => ?_
    have hj41 : ∀ (p_60 : Tapi_Op) (p_62 : Tapi_Op), visorref18_Same.j1 k (visorref18_Same.l2 x0 x1 k) q_37 p_60 p_62 = some r36 → ∀ (b_59 : Nat) (b_61 : Nat) (a : Act) (w : World), St 81 a w κ [(2, pp b_2), (3, pp b_3), (6, vi q_37), (7, pp b_59), (8, pp b_61)] (pt b_2 (blk (Tapi_Trace.obj x0 A_x0ops c_x0ops A_x0blocks c_x0blocks) 91) :: pt b_3 (blk (Tapi_Trace.obj x1 A_x1ops c_x1ops A_x1blocks c_x1blocks) 91) :: pt b_59 (blk (Tapi_Op.cells p_60) 103) :: pt b_61 (blk (Tapi_Op.cells p_62) 103) :: S) → K41 a w := by
     intro p_60 p_62 hm b_59 b_61 a w hs
     unfold visorref18_Same.j1 at hm
     refine hK41 _ _ ?_
     refine Vk.seq fun K63 hK63 => ?_
     have hj63 : ∀ (p_66 : Tapi_Op), visorref18_Same.j2 k (visorref18_Same.l2 x0 x1 k) q_37 p_62 p_66 = some r36 → ∀ (a : Act) (w : World), St 81 a w κ [(2, pp b_2), (3, pp b_3), (6, vi q_37), (7, pp b_59), (8, pp b_61)] (pt b_2 (blk (Tapi_Trace.obj x0 A_x0ops c_x0ops A_x0blocks c_x0blocks) 91) :: pt b_3 (blk (Tapi_Trace.obj x1 A_x1ops c_x1ops A_x1blocks c_x1blocks) 91) :: pt b_59 (blk (Tapi_Op.cells p_66) 103) :: pt b_61 (blk (Tapi_Op.cells p_62) 103) :: S) → K63 a w := by
      intro p_66 hm a w hs
      unfold visorref18_Same.j2 at hm
      refine hK63 _ _ ?_
      refine qsr fun K67 hK67 => ?_
      refine qln 2 ([ci p_66.kind, ci p_66.dom, ci p_66.a, ci p_66.b, ci p_66.d, cw p_66.c]) hs rfl fun a hs => ?_
      refine qln 3 ([ci p_62.kind, ci p_62.dom, ci p_62.a, ci p_62.b, ci p_62.d, cw p_62.c]) hs rfl fun a hs => ?_
      refine qva (.bool (!(((p_66.kind == p_62.kind) && ((p_66.dom == p_62.dom) && ((p_66.a == p_62.a) && ((p_66.b == p_62.b) && ((p_66.d == p_62.d) && ((p_66.c == p_62.c) && true))))))))) (op := (.binOp .neq 103 (.tmp 78) (.tmp 79) 103)) hs (fun o ho => run_neqV (ks := ([LK.int .i64] ++ [LK.int .i64] ++ [LK.int .i64] ++ [LK.int .i64] ++ [LK.int .i64] ++ [LK.int .u64])) (cs := [ci p_66.kind, ci p_66.dom, ci p_66.a, ci p_66.b, ci p_66.d, cw p_66.c]) (us := [ci p_62.kind, ci p_62.dom, ci p_62.a, ci p_62.b, ci p_62.d, cw p_62.c]) ho (by kernel_rfl) (by kernel_rfl) (by kernel_rfl) rfl rfl _) fun a hs => ?_
      refine qpk 0 [2, 3, 6, 80] hs fun a hs => hK67 _ _ ?_
      clear hK67
      refine qcs (!(((p_66.kind == p_62.kind) && ((p_66.dom == p_62.dom) && ((p_66.a == p_62.a) && ((p_66.b == p_62.b) && ((p_66.d == p_62.d) && ((p_66.c == p_62.c) && true)))))))) hs (fun hb => ?_) fun hb => ?_
      ·replace hm := bif_t hm hb
       refine qse 1 [(4, .bool false)] hs fun a hs => ?_
       refine wp_ret ?_
       exact Vk.ret1 (P := Tryz.prog) (fn := Tryz.f68) (R := RR) (.bool false) hs rfl (by kernel_rfl) (by obtain rfl := hret36 _ ((Option.some.inj hm).symm); subst hRR; exact ⟨rfl, (hs.own.too [] 4)⟩)
      ·replace hm := bif_f hm hb
       refine wp_skip ?_
       refine hK40 _ _ ?_
       clear hK40
       refine Vk.region ?_
       refine qpe 3 [(2, pp b_2), (3, pp b_3), (6, vi (IntKind.i64.wrap (q_37 + 1)))] hs fun a hs => ?_
       refine ih (IntKind.i64.wrap (q_37 + 1)) _ _ ⟨hm, hs.go [2, 3, 6] [0, 1] 4 (by kernel_rfl) (by kernel_rfl) (by kernel_rfl)⟩
     refine qsr fun K64 hK64 => ?_
     refine qpu 1 hs fun a hs => ?_
     refine qld 2 (ci p_60.kind) hs rfl fun a hs => ?_
     refine qpu 2 hs fun a hs => ?_
     suffices hj_65 : ∀ a, St 81 a w κ [(2, pp b_2), (3, pp b_3), (6, vi q_37), (7, pp b_59), (8, pp b_61), (67, pp b_59), (68, vi p_60.kind), (69, .bool (p_60.kind == 4)), (70, .bool (p_60.kind == 4)), (74, .bool ((p_60.kind == 4) && (p_62.kind == 4)))] (pt b_2 (blk (Tapi_Trace.obj x0 A_x0ops c_x0ops A_x0blocks c_x0blocks) 91) :: pt b_3 (blk (Tapi_Trace.obj x1 A_x1ops c_x1ops A_x1blocks c_x1blocks) 91) :: pt b_59 (blk (Tapi_Op.cells p_60) 103) :: pt b_61 (blk (Tapi_Op.cells p_62) 103) :: S) → wpFrom Tryz.prog _ _ 8 a w by
      rcases Bool.eq_false_or_eq_true (p_60.kind == 4) with hb | hb
      ·replace hs := hs.known (t := 70) hb (by kernel_rfl)
       refine qpu 1 hs fun a hs => ?_
       refine qld 3 (ci p_62.kind) hs rfl fun a hs => ?_
       refine qpu 2 hs fun a hs => ?_
       have hq := hs.pick [2, 3, 6, 7, 8, 67, 68, 69, 70, 74] (L' := [(2, pp b_2), (3, pp b_3), (6, vi q_37), (7, pp b_59), (8, pp b_61), (67, pp b_59), (68, vi p_60.kind), (69, .bool (p_60.kind == 4)), (70, .bool true), (74, .bool (p_62.kind == 4))]) (by kernel_rfl)
       exact hj_65 _ (hq.conv (by first | (rw [hb] <;> rfl) | rfl))
      ·replace hs := hs.known (t := 70) hb (by kernel_rfl)
       refine qpu 4 hs fun a hs => ?_
       have hq := hs.pick [2, 3, 6, 7, 8, 67, 68, 69, 70, 74] (L' := [(2, pp b_2), (3, pp b_3), (6, vi q_37), (7, pp b_59), (8, pp b_61), (67, pp b_59), (68, vi p_60.kind), (69, .bool (p_60.kind == 4)), (70, .bool false), (74, .bool false)]) (by kernel_rfl)
       exact hj_65 _ (hq.conv (by first | (rw [hb] <;> rfl) | rfl))
     intro a hs
     refine qpk 0 [2, 3, 6, 7, 8, 74] hs fun a hs => hK64 _ _ ?_
     clear hK64
     refine qcs ((p_60.kind == 4) && (p_62.kind == 4)) hs (fun hb => ?_) fun hb => ?_
     ·replace hm := bif_t hm hb
      refine Vk.region ?_
      refine qpu 1 hs fun a hs => ?_
      refine qld 3 (cw p_62.c) hs rfl fun a hs => ?_
      refine qpu 1 hs fun a hs => ?_
      refine qst 2 5 (cw p_62.c) hs rfl fun a w hs => ?_
      refine qpe 0 [(2, pp b_2), (3, pp b_3), (6, vi q_37), (7, pp b_59), (8, pp b_61)] hs fun a hs => ?_
      exact hj63 (⟨p_60.kind, p_60.dom, p_60.a, p_60.b, p_60.d, p_62.c⟩ : Tapi_Op) hm _ _ (hs.go [2, 3, 6, 7, 8] [0, 1, 2, 3] 4 (by kernel_rfl) (by kernel_rfl) (by kernel_rfl))
     ·replace hm := bif_f hm hb
      refine wp_skip ?_
      exact hj63 p_60 hm _ _ (hs.go [2, 3, 6, 7, 8] [0, 1, 2, 3] 4 (by kernel_rfl) (by kernel_rfl) (by kernel_rfl))
    obtain ⟨C_42, hC_42⟩ := qC hs.own
    refine qdr 13 κ C_42 hs fun w hs hqC_42 => ?_
    have hcl := qO hC_42 hs.own
    refine qdp (fuel := 10) [0, 2, 5, 7] hs hcl hqC_42 fun a hs => ?_
    refine qdl 1 0 (C.slc A_x0ops x0.ops.length c_x0ops) hs hcl hqC_42 hC_42 rfl fun a hs => ?_
    obtain ⟨h_43, hm⟩ := ite_t hm
    obtain ⟨e_46, h_44, hm⟩ := bind_t hm
    obtain ⟨b_47, o_48, hA_49, h_45⟩ := Sl.elem hx_x0ops h_44
    refine qdt 3 (.pointer (some ⟨b_47, o_48 + q_37.toNat * 6, none⟩)) (op := (.indexAddr 49 (.tmp 58) (.tmp 59))) hs hcl hqC_42 (fun w hw o ho => by rw [hC_42] at hw; exact run_idxSlc (k := .i64) ho (cap := c_x0ops) (len := x0.ops.length) ((congrArg (fun A => Value.slice A (x0.ops.length) (c_x0ops)) hA_49) ▸ (by kernel_rfl)) (by kernel_rfl) (by kernel_rfl) (idx_ok h_43 h_44) _) fun a hs => ?_
    refine qdt 4 (.agg (vals [ci e_46.kind, ci e_46.dom, ci e_46.a, ci e_46.b, ci e_46.d, cw e_46.c])) (op := (.load 103 (.tmp 60))) hs hcl hqC_42 (fun w hw o ho => by rw [hC_42] at hw; exact run_loadN (cs := [ci e_46.kind, ci e_46.dom, ci e_46.a, ci e_46.b, ci e_46.d, cw e_46.c]) ho (by kernel_rfl) (by kernel_rfl) rfl h_45 _ hw.drop.drop) fun a hs => ?_
    refine qdl 6 1 (C.slc A_x1ops x1.ops.length c_x1ops) hs hcl hqC_42 hC_42 rfl fun a hs => ?_
    obtain ⟨h_50, hm⟩ := ite_t hm
    obtain ⟨e_53, h_51, hm⟩ := bind_t hm
    obtain ⟨b_54, o_55, hA_56, h_52⟩ := Sl.elem hx_x1ops h_51
    refine qdt 8 (.pointer (some ⟨b_54, o_55 + q_37.toNat * 6, none⟩)) (op := (.indexAddr 49 (.tmp 63) (.tmp 64))) hs hcl hqC_42 (fun w hw o ho => by rw [hC_42] at hw; exact run_idxSlc (k := .i64) ho (cap := c_x1ops) (len := x1.ops.length) ((congrArg (fun A => Value.slice A (x1.ops.length) (c_x1ops)) hA_56) ▸ (by kernel_rfl)) (by kernel_rfl) (by kernel_rfl) (idx_ok h_50 h_51) _) fun a hs => ?_
    refine qdt 9 (.agg (vals [ci e_53.kind, ci e_53.dom, ci e_53.a, ci e_53.b, ci e_53.d, cw e_53.c])) (op := (.load 103 (.tmp 65))) hs hcl hqC_42 (fun w hw o ho => by rw [hC_42] at hw; exact run_loadN (cs := [ci e_53.kind, ci e_53.dom, ci e_53.a, ci e_53.b, ci e_53.d, cw e_53.c]) ho (by kernel_rfl) (by kernel_rfl) rfl h_52 _ hw.drop.drop) fun a hs => ?_
    refine Vk.dMany2 (i0 := 10) (i1 := 11) (by kernel_rfl) ?_ ?_
    ·refine Vk.alloc 7 103 [ci 0, ci 0, ci 0, ci 0, ci 0, cw 0] hs (by kernel_rfl) (by kernel_rfl) (by kernel_rfl) fun b_57 w a hs => ?_
     replace hcl := qO hC_42 hs.own.drop
     refine ⟨fun _ => hcl, ?_⟩
     refine Vk.dOnly (i := 11) (by kernel_rfl) (Vk.alloc 8 103 [ci 0, ci 0, ci 0, ci 0, ci 0, cw 0] hs (by kernel_rfl) (by kernel_rfl) (by kernel_rfl) fun b_58 w a hs => ?_)
     replace hcl := qO hC_42 hs.own.f1.drop.drop
     refine ⟨fun _ => hcl, ?_⟩
     refine qsA 12 1 [ci e_46.kind, ci e_46.dom, ci e_46.a, ci e_46.b, ci e_46.d, cw e_46.c] hs rfl rfl rfl fun a w hs => ?_
     replace hcl := qO hC_42 hs.own.f1.drop.drop
     refine ⟨fun _ => hcl, ?_⟩
     refine qsA 13 0 [ci e_53.kind, ci e_53.dom, ci e_53.a, ci e_53.b, ci e_53.d, cw e_53.c] hs rfl rfl rfl fun a w hs => ?_
     refine ⟨fun h => absurd h (by decide), ?_⟩
     replace hs := hs.pick [2, 3, 6, 7, 8] (L' := [(2, pp b_2), (3, pp b_3), (6, vi q_37), (7, pp b_57), (8, pp b_58)]) (by kernel_rfl)
     refine Vk.dDone (by kernel_rfl) ?_
     exact hj41 e_46 e_53 hm b_57 b_58 _ _ (hs.go [2, 3, 6, 7, 8] [2, 3, 1, 0] 4 (by kernel_rfl) (by kernel_rfl) (by kernel_rfl))
    ·refine Vk.alloc 8 103 [ci 0, ci 0, ci 0, ci 0, ci 0, cw 0] hs (by kernel_rfl) (by kernel_rfl) (by kernel_rfl) fun b_57 w a hs => ?_
     replace hcl := qO hC_42 hs.own.drop
     refine ⟨fun _ => hcl, ?_⟩
     refine Vk.dOnly (i := 10) (by kernel_rfl) (Vk.alloc 7 103 [ci 0, ci 0, ci 0, ci 0, ci 0, cw 0] hs (by kernel_rfl) (by kernel_rfl) (by kernel_rfl) fun b_58 w a hs => ?_)
     replace hcl := qO hC_42 hs.own.f1.drop.drop
     refine ⟨fun _ => hcl, ?_⟩
     refine qsA 12 0 [ci e_46.kind, ci e_46.dom, ci e_46.a, ci e_46.b, ci e_46.d, cw e_46.c] hs rfl rfl rfl fun a w hs => ?_
     replace hcl := qO hC_42 hs.own.f1.drop.drop
     refine ⟨fun _ => hcl, ?_⟩
     refine qsA 13 1 [ci e_53.kind, ci e_53.dom, ci e_53.a, ci e_53.b, ci e_53.d, cw e_53.c] hs rfl rfl rfl fun a w hs => ?_
     refine ⟨fun h => absurd h (by decide), ?_⟩
     replace hs := hs.pick [2, 3, 6, 7, 8] (L' := [(2, pp b_2), (3, pp b_3), (6, vi q_37), (7, pp b_58), (8, pp b_57)]) (by kernel_rfl)
     refine Vk.dDone (by kernel_rfl) ?_
     exact hj41 e_46 e_53 hm b_58 b_57 _ _ (hs.go [2, 3, 6, 7, 8] [2, 3, 0, 1] 4 (by kernel_rfl) (by kernel_rfl) (by kernel_rfl))
   ·replace hm := bif_f hm hb
    refine wp_exit ?_
    exact hx36 (Option.some.inj hm).symm _ _ (hs.go [] [] 2 (by kernel_rfl) (by kernel_rfl) (by kernel_rfl))
  have hret11 : ∀ v, r11 = Sum.inl v → v = r := by intro v he; subst r11; exact Option.some.inj hm
  refine Vk.loopBy (fun k (s : Int) a w => visorref18_Same.l1 x0 x1 k s = some r11 ∧ St 81 a w κ [(2, pp b_2), (3, pp b_3), (5, vi s)] (pt b_2 (blk (Tapi_Trace.obj x0 A_x0ops c_x0ops A_x0blocks c_x0blocks) 91) :: pt b_3 (blk (Tapi_Trace.obj x1 A_x1ops c_x1ops A_x1blocks c_x1blocks) 91) :: S)) k 0 ⟨hl11, hs.go [2, 3, 5] [1, 0] 2 (by kernel_rfl) (by kernel_rfl) (by kernel_rfl)⟩ (fun s a w h => by obtain ⟨h1, _⟩ := h; simp [visorref18_Same.l1] at h1) (fun k KL11 ih q_12 a w h => ?_)
  obtain ⟨hm, hs⟩ := h
  try dsimp only at hm hs
  rw [visorref18_Same.l1] at hm
  refine Vk.seq fun K13 hK13 => ?_
  refine qsr fun K14 hK14 => ?_
  refine qpu 2 hs fun a hs => ?_
  refine qld 0 (C.slc A_x0blocks x0.blocks.length c_x0blocks) hs rfl fun a hs => ?_
  refine qpk 2 [2, 3, 5, 36] hs fun a hs => hK14 _ _ ?_
  clear hK14
  refine qcs (decide (q_12 < ((x0.blocks.length : Nat) : Int))) hs (fun hb => ?_) fun hb => ?_
  ·replace hm := bif_t hm hb
   refine wp_skip ?_
   refine hK13 _ _ ?_
   clear hK13
   refine Vk.seq fun K15 hK15 => ?_
   refine wp_block ?_
   refine Vk.seq fun K16 hK16 => ?_
   obtain ⟨C_17, hC_17⟩ := qC hs.own
   refine qdr 11 κ C_17 hs fun w hs hqC_17 => ?_
   have hcl := qO hC_17 hs.own
   refine qdp (fuel := 7) [0, 2, 5, 7] hs hcl hqC_17 fun a hs => ?_
   refine qdl 1 0 (C.slc A_x0blocks x0.blocks.length c_x0blocks) hs hcl hqC_17 hC_17 rfl fun a hs => ?_
   obtain ⟨h_18, hm⟩ := ite_t hm
   obtain ⟨e_21, h_19, hm⟩ := bind_t hm
   obtain ⟨b_22, o_23, hA_24, h_20⟩ := Sl.elem hx_x0blocks h_19
   refine qdt 3 (.pointer (some ⟨b_22, o_23 + q_12.toNat * 3, none⟩)) (op := (.indexAddr 50 (.tmp 40) (.tmp 41))) hs hcl hqC_17 (fun w hw o ho => by rw [hC_17] at hw; exact run_idxSlc (k := .i64) ho (cap := c_x0blocks) (len := x0.blocks.length) ((congrArg (fun A => Value.slice A (x0.blocks.length) (c_x0blocks)) hA_24) ▸ (by kernel_rfl)) (by kernel_rfl) (by kernel_rfl) (idx_ok h_18 h_19) _) fun a hs => ?_
   refine qdt 4 (.agg (vals [ci e_21.kind, ci e_21.fromF, ci e_21.to])) (op := (.load 119 (.tmp 42))) hs hcl hqC_17 (fun w hw o ho => by rw [hC_17] at hw; exact run_loadN (cs := [ci e_21.kind, ci e_21.fromF, ci e_21.to]) ho (by kernel_rfl) (by kernel_rfl) rfl h_20 _ hw.drop.drop) fun a hs => ?_
   refine qdl 6 1 (C.slc A_x1blocks x1.blocks.length c_x1blocks) hs hcl hqC_17 hC_17 rfl fun a hs => ?_
   obtain ⟨h_25, hm⟩ := ite_t hm
   obtain ⟨e_28, h_26, hm⟩ := bind_t hm
   obtain ⟨b_29, o_30, hA_31, h_27⟩ := Sl.elem hx_x1blocks h_26
   refine qdt 8 (.pointer (some ⟨b_29, o_30 + q_12.toNat * 3, none⟩)) (op := (.indexAddr 50 (.tmp 45) (.tmp 46))) hs hcl hqC_17 (fun w hw o ho => by rw [hC_17] at hw; exact run_idxSlc (k := .i64) ho (cap := c_x1blocks) (len := x1.blocks.length) ((congrArg (fun A => Value.slice A (x1.blocks.length) (c_x1blocks)) hA_31) ▸ (by kernel_rfl)) (by kernel_rfl) (by kernel_rfl) (idx_ok h_25 h_26) _) fun a hs => ?_
   refine qdt 9 (.agg (vals [ci e_28.kind, ci e_28.fromF, ci e_28.to])) (op := (.load 119 (.tmp 47))) hs hcl hqC_17 (fun w hw o ho => by rw [hC_17] at hw; exact run_loadN (cs := [ci e_28.kind, ci e_28.fromF, ci e_28.to]) ho (by kernel_rfl) (by kernel_rfl) rfl h_27 _ hw.drop.drop) fun a hs => ?_
   refine qdt 10 (.bool (!(((e_21.kind == e_28.kind) && ((e_21.fromF == e_28.fromF) && ((e_21.to == e_28.to) && true)))))) (op := (.binOp .neq 119 (.tmp 43) (.tmp 48) 119)) hs hcl hqC_17 (fun w hw o ho => by rw [hC_17] at hw; exact run_neqV (ks := ([LK.int .i64] ++ [LK.int .i64] ++ [LK.int .i64])) (cs := [ci e_21.kind, ci e_21.fromF, ci e_21.to]) (us := [ci e_28.kind, ci e_28.fromF, ci e_28.to]) ho (by kernel_rfl) (by kernel_rfl) (by kernel_rfl) rfl rfl _) fun a hs => ?_
   replace hs := hs.pick [2, 3, 5, 49] (L' := [(2, pp b_2), (3, pp b_3), (5, vi q_12), (49, .bool (!(((e_21.kind == e_28.kind) && ((e_21.fromF == e_28.fromF) && ((e_21.to == e_28.to) && true))))))]) (by kernel_rfl)
   refine Vk.dDone (by kernel_rfl) ?_
   refine hK16 _ _ ?_
   clear hK16
   refine qcs (!(((e_21.kind == e_28.kind) && ((e_21.fromF == e_28.fromF) && ((e_21.to == e_28.to) && true))))) hs (fun hb => ?_) fun hb => ?_
   ·replace hm := bif_t hm hb
    refine qse 1 [(4, .bool false)] hs fun a hs => ?_
    refine wp_ret ?_
    exact Vk.ret1 (P := Tryz.prog) (fn := Tryz.f68) (R := RR) (.bool false) hs rfl (by kernel_rfl) (by obtain rfl := hret11 _ ((Option.some.inj hm).symm); subst hRR; exact ⟨rfl, hs.own.f1.drop.drop⟩)
   ·replace hm := bif_f hm hb
    refine wp_skip ?_
    refine hK15 _ _ ?_
    clear hK15
    refine Vk.region ?_
    refine qpk 3 [2, 3, 5] hs fun a hs => ?_
    refine ih (IntKind.i64.wrap (q_12 + 1)) _ _ ⟨hm, hs.go [2, 3, 5] [0, 1] 2 (by kernel_rfl) (by kernel_rfl) (by kernel_rfl)⟩
  ·replace hm := bif_f hm hb
   refine wp_exit ?_
   exact hx11 (Option.some.inj hm).symm _ _ (hs.go [2, 3] [0, 1] 2 (by kernel_rfl) (by kernel_rfl) (by kernel_rfl))

structure Tvisorlaw20_Pair where
 m : Twire_Machine
 x : Tvisorref19_M
 l : List Cells
 v : List Int
 deriving Inhabited
def Tvisorlaw20_Pair.obj (x : Tvisorlaw20_Pair) (bm : Nat) (bx : Nat) (Al : Option Addr) (cl : Nat) (Av : Option Addr) (cv : Nat) : Cells := [C.ptr (some ⟨bm, 0, none⟩), C.ptr (some ⟨bx, 0, none⟩), C.slc Al x.l.length cl, C.slc Av x.v.length cv]

def visorlaw20_Pair_Like.l1 (x0 : Tvisorlaw20_Pair) (v_6 : List Int) : Nat → Int → Option (Sum (Bool) (Unit))
 | 0, _ => none
 | k + 1, q_39 => (bif decide (q_39 < ((v_6.length : Nat) : Int)) then (if 0 ≤ q_39 then (v_6[q_39.toNat]?).bind fun e_52 => (if 0 ≤ q_39 then (x0.x.val[q_39.toNat]?).bind fun e_59 => (bif e_52 != e_59 then some (.inl false) else visorlaw20_Pair_Like.l1 x0 v_6 k (IntKind.i64.wrap (q_39 + 1))) else none) else none) else some (.inr ()))
def visorlaw20_Pair_Like.j1 (k : Nat) (x0 : Tvisorlaw20_Pair) (v_6 : List Int) (p_34 : Bool) : Option (Bool) := (bif p_34 then some false else (visorlaw20_Pair_Like.l1 x0 v_6 k 0).bind fun x => match x with | .inl v => some v | .inr () => some true)
abbrev visorlaw20_Pair_Like.R (κ : Ctx) (S : List HP) (x0 : Tvisorlaw20_Pair) (b_x0m : Nat) (g_x0m : Nat × Option Addr × Nat × Option Addr × Nat × Option Addr × Nat) (b_x0x : Nat) (g_x0x : Option Addr × Nat × Option Addr × Nat × Option Addr × Nat × Option Addr × Nat) (A_x0l : Option Addr) (c_x0l : Nat) (A_x0v : Option Addr) (c_x0v : Nat) (r : Bool) : Ending → World → Prop := fun e w' => e = .returned (.bool r) ∧ Own κ w' (bagL (Twire_Machine.parts b_x0m x0.m g_x0m) :: bagL (Tvisorref19_M.parts κ b_x0x x0.x g_x0x) :: S)
def visorlaw20_Pair_Like.m (k : Nat) (x0 : Tvisorlaw20_Pair) : Option Bool := (wire_Machine_Values.m k x0.m).bind fun v_6 => (bif ((v_6.length : Nat) : Int) != ((x0.x.val.length : Nat) : Int) then visorlaw20_Pair_Like.j1 k x0 v_6 true else (wire_Machine_Err.m k x0.m).bind fun v_18 => (bif v_18 != x0.x.e then visorlaw20_Pair_Like.j1 k x0 v_6 true else (wire_Machine_Trace.m k x0.m).bind fun v_21 => (visorref18_Same.m k v_21 (⟨x0.x.n, x0.x.ops, x0.x.blocks⟩ : Tapi_Trace)).bind fun v_33 => visorlaw20_Pair_Like.j1 k x0 v_6 (!v_33)))

set_option maxRecDepth 100000 in
set_option maxHeartbeats 4000000 in
theorem visorlaw20_Pair_Like.ok (k : Nat) (x0 : Tvisorlaw20_Pair) (r : Bool) (hm : visorlaw20_Pair_Like.m k x0 = some r) (κ : Ctx) (w : World) (S : List HP) (b_x0m : Nat) (g_x0m : Nat × Option Addr × Nat × Option Addr × Nat × Option Addr × Nat) (b_x0x : Nat) (g_x0x : Option Addr × Nat × Option Addr × Nat × Option Addr × Nat × Option Addr × Nat) (A_x0l : Option Addr) (c_x0l : Nat) (hx_x0l : Sl κ S A_x0l c_x0l 3 eC x0.l) (A_x0v : Option Addr) (c_x0v : Nat) (hx_x0v : Sl κ S A_x0v c_x0v 1 (eI .u64) x0.v) (ho : Own κ w (bagL (Twire_Machine.parts b_x0m x0.m g_x0m) :: bagL (Tvisorref19_M.parts κ b_x0x x0.x g_x0x) :: S)) :
  Calls Tryz.prog 19 #[.agg (vals [cp b_x0m, cp b_x0x, C.slc A_x0l x0.l.length c_x0l, C.slc A_x0v x0.v.length c_x0v])] w (visorlaw20_Pair_Like.R κ S x0 b_x0m g_x0m b_x0x g_x0x A_x0l c_x0l A_x0v c_x0v r) := by
 unfold visorlaw20_Pair_Like.m at hm
 generalize hRR : visorlaw20_Pair_Like.R κ S x0 b_x0m g_x0m b_x0x g_x0x A_x0l c_x0l A_x0v c_x0v r = RR
 refine qen [(0, .agg (vals [cp b_x0m, cp b_x0x, C.slc A_x0l x0.l.length c_x0l, C.slc A_x0v x0.v.length c_x0v]))] Tryz.func19 Tryz.ntmps19 ho fun a hs => ?_
 refine qsr fun K1 hK1 => ?_
 refine qbx 0 30 [cp b_x0m, cp b_x0x, C.slc A_x0l x0.l.length c_x0l, C.slc A_x0v x0.v.length c_x0v] 1 hs fun b_2 w a hs => ?_
 refine qpe 1 [(1, pp b_2)] hs fun a hs => hK1 _ _ ?_
 clear hK1
 refine qsr fun K3 hK3 => ?_
 refine qpu 1 hs fun a hs => ?_
 refine qld 0 (cp b_x0m) hs rfl fun a hs => ?_
 obtain ⟨v_6, h_5, hm⟩ := bind_t hm
 refine Vk.step (Vk.call (some 7) 20 #[pp b_x0m] hs (by kernel_rfl) (by kernel_rfl) (by kernel_rfl) ?_)
 refine (wire_Machine_Values.ok k x0.m v_6 h_5 κ w (pt b_2 (blk (Tvisorlaw20_Pair.obj x0 b_x0m b_x0x A_x0l c_x0l A_x0v c_x0v) 30) :: bagL (Tvisorref19_M.parts κ b_x0x x0.x g_x0x) :: S) b_x0m g_x0m hs.own.f1).mono ?_
 rintro _ w ⟨Ar4x0_7, cr4x0_8, rfl, how⟩
 refine ⟨_, _, _, rfl, how, fun a hs => ?_⟩
 refine qpk 1 [1, 3] hs fun a hs => hK3 _ _ ?_
 clear hK3
 refine Vk.seq fun K9 hK9 => ?_
 refine Vk.seq fun K10 hK10 => ?_
 have hj10 : ∀ (p_34 : Bool), visorlaw20_Pair_Like.j1 k x0 v_6 p_34 = some r → ∀ (a : Act) (w : World), St 57 a w κ [(1, pp b_2), (3, .slice Ar4x0_7 v_6.length cr4x0_8), (37, .bool p_34)] (pt b_2 (blk (Tvisorlaw20_Pair.obj x0 b_x0m b_x0x A_x0l c_x0l A_x0v c_x0v) 30) :: bagL (Twire_Machine.parts b_x0m x0.m g_x0m) :: bagL (Tvisorref19_M.parts κ b_x0x x0.x g_x0x) :: rowp Ar4x0_7 cr4x0_8 23 1 (eI .u64) v_6 :: S) → K10 a w := by
  intro p_34 hm a w hs
  unfold visorlaw20_Pair_Like.j1 at hm
  refine hK10 _ _ ?_
  refine qcs (p_34) hs (fun hb => ?_) fun hb => ?_
  ·replace hm := bif_t hm hb
   refine qse 1 [(2, .bool false)] hs fun a hs => ?_
   refine wp_ret ?_
   exact qr1 (.bool false) hs rfl hRR (by cases hm; exact ⟨rfl, hs.own.f3.drop.drop⟩)
  ·replace hm := bif_f hm hb
   refine wp_skip ?_
   refine hK9 _ _ ?_
   clear hK9
   refine Vk.seq fun K36 hK36 => ?_
   refine qsk 1 [1, 3, 4] hs fun a hs => ?_
   refine wp_block ?_
   obtain ⟨r38, hl38, hm⟩ := bind_t hm
   have hx38 : r38 = Sum.inr () → ∀ (a : Act) (w : World), St 57 a w κ [] (bagL (Twire_Machine.parts b_x0m x0.m g_x0m) :: bagL (Tvisorref19_M.parts κ b_x0x x0.x g_x0x) :: S) → K36 a w := by
    intro he a w hs
    subst r38
    refine hK36 _ _ ?_
    clear hK36
    refine qse 1 [(2, .bool true)] hs fun a hs => ?_
    refine wp_ret ?_
    exact qr1 (.bool true) hs rfl hRR (by cases hm; exact ⟨rfl, hs.own⟩)
   have hret38 : ∀ v, r38 = Sum.inl v → v = r := by intro v he; subst r38; exact Option.some.inj hm
   refine Vk.loopBy (fun k (s : Int) a w => visorlaw20_Pair_Like.l1 x0 v_6 k s = some r38 ∧ St 57 a w κ [(1, pp b_2), (3, .slice Ar4x0_7 v_6.length cr4x0_8), (4, vi s)] (pt b_2 (blk (Tvisorlaw20_Pair.obj x0 b_x0m b_x0x A_x0l c_x0l A_x0v c_x0v) 30) :: bagL (Twire_Machine.parts b_x0m x0.m g_x0m) :: bagL (Tvisorref19_M.parts κ b_x0x x0.x g_x0x) :: rowp Ar4x0_7 cr4x0_8 23 1 (eI .u64) v_6 :: S)) k 0 ⟨hl38, hs.go [1, 3, 4] [0, 1, 2, 3] 4 (by kernel_rfl) (by kernel_rfl) (by kernel_rfl)⟩ (fun s a w h => by obtain ⟨h1, _⟩ := h; simp [visorlaw20_Pair_Like.l1] at h1) (fun k KL38 ih q_39 a w h => ?_)
   obtain ⟨hm, hs⟩ := h
   try dsimp only at hm hs
   rw [visorlaw20_Pair_Like.l1] at hm
   refine Vk.seq fun K40 hK40 => ?_
   refine qsk 4 [1, 3, 4, 41] hs fun a hs => ?_
   refine qcs (decide (q_39 < ((v_6.length : Nat) : Int))) hs (fun hb => ?_) fun hb => ?_
   ·replace hm := bif_t hm hb
    refine wp_skip ?_
    refine hK40 _ _ ?_
    clear hK40
    refine Vk.seq fun K42 hK42 => ?_
    refine wp_block ?_
    refine Vk.seq fun K43 hK43 => ?_
    replace hs := hs.unbagAt 2 rfl
    obtain ⟨C_48, hC_48⟩ : ∃ X0 : List HP, X0 = (pt b_x0x (blk (Tvisorref19_M.obj x0.x g_x0x.1 g_x0x.2.1 g_x0x.2.2.1 g_x0x.2.2.2.1 g_x0x.2.2.2.2.1 g_x0x.2.2.2.2.2.1 g_x0x.2.2.2.2.2.2.1 g_x0x.2.2.2.2.2.2.2) 54) :: rowp g_x0x.1 g_x0x.2.1 103 6 Tapi_Op.cells x0.x.ops :: rowp g_x0x.2.2.1 g_x0x.2.2.2.1 119 3 Tapi_Span.cells x0.x.blocks :: rowp g_x0x.2.2.2.2.1 g_x0x.2.2.2.2.2.1 23 1 (eI .u64) x0.x.val :: rdp κ g_x0x.2.2.2.2.2.2.1 g_x0x.2.2.2.2.2.2.2 1 (eI .u64) x0.x.tape.l :: pt b_2 (blk (Tvisorlaw20_Pair.obj x0 b_x0m b_x0x A_x0l c_x0l A_x0v c_x0v) 30) :: bagL (Twire_Machine.parts b_x0m x0.m g_x0m) :: rowp Ar4x0_7 cr4x0_8 23 1 (eI .u64) v_6 :: S) := ⟨_, rfl⟩
    refine qdr 13 κ C_48 hs fun w hs hqC_48 => ?_
    have hcz : Own κ w (pt b_x0x (blk (Tvisorref19_M.obj x0.x g_x0x.1 g_x0x.2.1 g_x0x.2.2.1 g_x0x.2.2.2.1 g_x0x.2.2.2.2.1 g_x0x.2.2.2.2.2.1 g_x0x.2.2.2.2.2.2.1 g_x0x.2.2.2.2.2.2.2) 54) :: rowp g_x0x.1 g_x0x.2.1 103 6 Tapi_Op.cells x0.x.ops :: rowp g_x0x.2.2.1 g_x0x.2.2.2.1 119 3 Tapi_Span.cells x0.x.blocks :: rowp g_x0x.2.2.2.2.1 g_x0x.2.2.2.2.2.1 23 1 (eI .u64) x0.x.val :: rdp κ g_x0x.2.2.2.2.2.2.1 g_x0x.2.2.2.2.2.2.2 1 (eI .u64) x0.x.tape.l :: pt b_2 (blk (Tvisorlaw20_Pair.obj x0 b_x0m b_x0x A_x0l c_x0l A_x0v c_x0v) 30) :: bagL (Twire_Machine.parts b_x0m x0.m g_x0m) :: rowp Ar4x0_7 cr4x0_8 23 1 (eI .u64) v_6 :: S) := hs.own
    have hcl : Own κ w C_48 := by rw [hC_48]; exact hcz
    refine qdp (fuel := 9) [0, 1, 4, 9] hs hcl hqC_48 fun a hs => ?_
    obtain ⟨h_49, hm⟩ := ite_t hm
    obtain ⟨e_52, h_50, hm⟩ := bind_t hm
    obtain ⟨b_53, o_54, hA_55, h_51⟩ := Sl.elem (Own.rowSl 0 hcz.drop.drop.drop.drop.drop.drop.drop rfl) h_50
    refine qdt 2 (.pointer (some ⟨b_53, o_54 + q_39.toNat * 1, none⟩)) (op := (.indexAddr 24 (.tmp 44) (.tmp 45))) hs hcl hqC_48 (fun w hw o ho => by rw [hC_48] at hw; exact run_idxSlc (k := .i64) ho (cap := cr4x0_8) (len := v_6.length) ((congrArg (fun A => Value.slice A (v_6.length) (cr4x0_8)) hA_55) ▸ (by kernel_rfl)) (by kernel_rfl) (by kernel_rfl) (idx_ok h_49 h_50) _) fun a hs => ?_
    refine qdt 3 (vw e_52) (op := (.load 23 (.tmp 46))) hs hcl hqC_48 (fun w hw o ho => by rw [hC_48] at hw; exact run_load1 (c := cw e_52) ho (by kernel_rfl) (by kernel_rfl) (fun w ho => h_51 w ho 0 _ rfl) _ hw.drop.drop.drop.drop.drop.drop.drop) fun a hs => ?_
    refine qdl 5 5 (cp b_x0x) hs hcl hqC_48 hC_48 rfl fun a hs => ?_
    refine qdp (fuel := 4) [6, 7] hs hcl hqC_48 fun a hs => ?_
    refine qdl 8 0 (C.slc g_x0x.2.2.2.2.1 x0.x.val.length g_x0x.2.2.2.2.2.1) hs hcl hqC_48 hC_48 rfl fun a hs => ?_
    obtain ⟨h_56, hm⟩ := ite_t hm
    obtain ⟨e_59, h_57, hm⟩ := bind_t hm
    obtain ⟨b_60, o_61, hA_62, h_58⟩ := Sl.elem (Own.rowSl 0 (Own.to (S' := rowp g_x0x.2.2.2.2.1 g_x0x.2.2.2.2.2.1 23 1 (eI .u64) x0.x.val :: S) hcz [3] 8 (by kernel_rfl) (by kernel_rfl)) rfl) h_57
    refine qdt 10 (.pointer (some ⟨b_60, o_61 + q_39.toNat * 1, none⟩)) (op := (.indexAddr 24 (.tmp 52) (.tmp 53))) hs hcl hqC_48 (fun w hw o ho => by rw [hC_48] at hw; exact run_idxSlc (k := .i64) ho (cap := g_x0x.2.2.2.2.2.1) (len := x0.x.val.length) ((congrArg (fun A => Value.slice A (x0.x.val.length) (g_x0x.2.2.2.2.2.1)) hA_62) ▸ (by kernel_rfl)) (by kernel_rfl) (by kernel_rfl) (idx_ok h_56 h_57) _) fun a hs => ?_
    refine qdt 11 (vw e_59) (op := (.load 23 (.tmp 54))) hs hcl hqC_48 (fun w hw o ho => by rw [hC_48] at hw; exact run_load1 (c := cw e_59) ho (by kernel_rfl) (by kernel_rfl) (fun w ho => h_58 w ho 0 _ rfl) _ (Own.to (S' := rowp g_x0x.2.2.2.2.1 g_x0x.2.2.2.2.2.1 23 1 (eI .u64) x0.x.val :: S) hw [3] 8 (by kernel_rfl) (by kernel_rfl))) fun a hs => ?_
    refine qdp (fuel := 0) [12] hs hcl hqC_48 fun a hs => ?_
    replace hs := hs.pick [1, 3, 4, 56] (L' := [(1, pp b_2), (3, .slice Ar4x0_7 v_6.length cr4x0_8), (4, vi q_39), (56, .bool (e_52 != e_59))]) (by kernel_rfl)
    refine Vk.dDone (by kernel_rfl) ?_
    refine hK43 _ _ ?_
    clear hK43
    refine qcs (e_52 != e_59) hs (fun hb => ?_) fun hb => ?_
    ·replace hm := bif_t hm hb
     refine qse 1 [(2, .bool false)] hs fun a hs => ?_
     refine wp_ret ?_
     replace hs := hs.bagG (l := Tvisorref19_M.parts κ b_x0x x0.x g_x0x) (S' := pt b_2 (blk (Tvisorlaw20_Pair.obj x0 b_x0m b_x0x A_x0l c_x0l A_x0v c_x0v) 30) :: bagL (Twire_Machine.parts b_x0m x0.m g_x0m) :: rowp Ar4x0_7 cr4x0_8 23 1 (eI .u64) v_6 :: S) hs.own
     exact Vk.ret1 (P := Tryz.prog) (fn := Tryz.f19) (R := RR) (.bool false) hs rfl (by kernel_rfl) (by obtain rfl := hret38 _ ((Option.some.inj hm).symm); subst hRR; exact ⟨rfl, hs.own.f3.drop.f1.drop.f1⟩)
    ·replace hm := bif_f hm hb
     refine wp_skip ?_
     refine hK42 _ _ ?_
     clear hK42
     refine Vk.region ?_
     refine qpe 3 [(1, pp b_2), (3, .slice Ar4x0_7 v_6.length cr4x0_8), (4, vi (IntKind.i64.wrap (q_39 + 1)))] hs fun a hs => ?_
     replace hs := hs.bagG (l := Tvisorref19_M.parts κ b_x0x x0.x g_x0x) (S' := pt b_2 (blk (Tvisorlaw20_Pair.obj x0 b_x0m b_x0x A_x0l c_x0l A_x0v c_x0v) 30) :: bagL (Twire_Machine.parts b_x0m x0.m g_x0m) :: rowp Ar4x0_7 cr4x0_8 23 1 (eI .u64) v_6 :: S) hs.own
     refine ih (IntKind.i64.wrap (q_39 + 1)) _ _ ⟨hm, hs.go [1, 3, 4] [1, 2, 0, 3] 4 (by kernel_rfl) (by kernel_rfl) (by kernel_rfl)⟩
   ·replace hm := bif_f hm hb
    refine wp_exit ?_
    exact hx38 (Option.some.inj hm).symm _ _ (hs.go [] [1, 2] 4 (by kernel_rfl) (by kernel_rfl) (by kernel_rfl))
 replace hs := hs.unbagAt 3 rfl
 obtain ⟨C_15, hC_15⟩ := qC hs.own
 refine qdr 30 κ C_15 hs fun w hs hqC_15 => ?_
 have hcl := qO hC_15 hs.own
 refine qdp (fuel := 27) [0, 1, 2] hs hcl hqC_15 fun a hs => ?_
 refine qdl 3 7 (cp b_x0x) hs hcl hqC_15 hC_15 rfl fun a hs => ?_
 refine qdp (fuel := 24) [4, 5] hs hcl hqC_15 fun a hs => ?_
 refine qdl 6 0 (C.slc g_x0x.2.2.2.2.1 x0.x.val.length g_x0x.2.2.2.2.2.1) hs hcl hqC_15 hC_15 rfl fun a hs => ?_
 refine qdp (fuel := 20) [7, 8, 9] hs hcl hqC_15 fun a hs => ?_
 rcases Bool.eq_false_or_eq_true (((v_6.length : Nat) : Int) != ((x0.x.val.length : Nat) : Int)) with hb | hb
 ·replace hm := bif_t hm hb
  replace hs := hs.known (t := 17) hb (by kernel_rfl)
  refine qdp (fuel := 0) [10, 11, 12, 13, 14, 15, 16, 17, 18, 19, 20, 21, 22, 23, 24, 25, 26, 27, 28, 29] hs hcl hqC_15 fun a hs => ?_
  replace hs := hs.pick [1, 3, 37] (L' := [(1, pp b_2), (3, .slice Ar4x0_7 v_6.length cr4x0_8), (37, .bool true)]) (by kernel_rfl)
  refine Vk.dDone (by kernel_rfl) ?_
  replace hs := hs.bagG (l := Tvisorref19_M.parts κ b_x0x x0.x g_x0x) (S' := rowp Ar4x0_7 cr4x0_8 23 1 (eI .u64) v_6 :: bagL (Twire_Machine.parts b_x0m x0.m g_x0m) :: pt b_2 (blk (Tvisorlaw20_Pair.obj x0 b_x0m b_x0x A_x0l c_x0l A_x0v c_x0v) 30) :: S) hs.own
  exact hj10 true hm _ _ (hs.go [1, 3, 37] [3, 2, 0, 1] 4 (by kernel_rfl) (by kernel_rfl) (by kernel_rfl))
 ·replace hm := bif_f hm hb
  replace hs := hs.known (t := 17) hb (by kernel_rfl)
  refine qdp (fuel := 18) [10, 13] hs hcl hqC_15 fun a hs => ?_
  refine qdl 11 7 (cp b_x0m) hs hcl hqC_15 hC_15 rfl fun a hs => ?_
  refine qdl 14 7 (cp b_x0x) hs hcl hqC_15 hC_15 rfl fun a hs => ?_
  refine qdp (fuel := 14) [15, 16] hs hcl hqC_15 fun a hs => ?_
  refine qdl 17 0 (ci x0.x.e) hs hcl hqC_15 hC_15 rfl fun a hs => ?_
  obtain ⟨v_18, h_17, hm⟩ := bind_t hm
  refine qdc 12 (wire_Machine_Err.ok _ _ _ h_17 _ _ _ b_x0m g_x0m hs.own.f6) hs fun w a hs => ?_
  replace hcl : Own κ w C_15 := by rw [hC_15]; exact (hs.own.too [1, 2, 3, 4, 5, 6, 0, 7] 8)
  refine ⟨fun _ => hcl, ?_⟩
  refine qdp (fuel := 9) [18, 19, 20] hs hcl hqC_15 fun a hs => ?_
  rcases Bool.eq_false_or_eq_true (v_18 != x0.x.e) with hb | hb
  ·replace hm := bif_t hm hb
   replace hs := hs.known (t := 28) hb (by kernel_rfl)
   refine qdp (fuel := 0) [21, 22, 23, 24, 25, 26, 27, 28, 29] hs hcl hqC_15 fun a hs => ?_
   replace hs := hs.pick [1, 3, 37] (L' := [(1, pp b_2), (3, .slice Ar4x0_7 v_6.length cr4x0_8), (37, .bool true)]) (by kernel_rfl)
   refine Vk.dDone (by kernel_rfl) ?_
   replace hs := hs.bagG (l := Tvisorref19_M.parts κ b_x0x x0.x g_x0x) (S' := bagL (Twire_Machine.parts b_x0m x0.m g_x0m) :: rowp Ar4x0_7 cr4x0_8 23 1 (eI .u64) v_6 :: pt b_2 (blk (Tvisorlaw20_Pair.obj x0 b_x0m b_x0x A_x0l c_x0l A_x0v c_x0v) 30) :: S) hs.own.f5.f5.f5.f5.f5
   exact hj10 true hm _ _ (hs.go [1, 3, 37] [3, 1, 0, 2] 4 (by kernel_rfl) (by kernel_rfl) (by kernel_rfl))
  ·replace hm := bif_f hm hb
   replace hs := hs.known (t := 28) hb (by kernel_rfl)
   refine qdp (fuel := 7) [21, 24] hs hcl hqC_15 fun a hs => ?_
   refine qdl 22 7 (cp b_x0m) hs hcl hqC_15 hC_15 rfl fun a hs => ?_
   refine qdl 25 7 (cp b_x0x) hs hcl hqC_15 hC_15 rfl fun a hs => ?_
   obtain ⟨v_21, h_20, hm⟩ := bind_t hm
   refine Vk.dOnly (i := 23) (by kernel_rfl) (Vk.call (some 31) 69 #[pp b_x0m] hs (by kernel_rfl) (by kernel_rfl) (by kernel_rfl) ?_)
   refine (wire_Machine_Trace.ok k x0.m v_21 h_20 κ w (pt b_x0x (blk (Tvisorref19_M.obj x0.x g_x0x.1 g_x0x.2.1 g_x0x.2.2.1 g_x0x.2.2.2.1 g_x0x.2.2.2.2.1 g_x0x.2.2.2.2.2.1 g_x0x.2.2.2.2.2.2.1 g_x0x.2.2.2.2.2.2.2) 54) :: rowp g_x0x.1 g_x0x.2.1 103 6 Tapi_Op.cells x0.x.ops :: rowp g_x0x.2.2.1 g_x0x.2.2.2.1 119 3 Tapi_Span.cells x0.x.blocks :: rowp g_x0x.2.2.2.2.1 g_x0x.2.2.2.2.2.1 23 1 (eI .u64) x0.x.val :: rdp κ g_x0x.2.2.2.2.2.2.1 g_x0x.2.2.2.2.2.2.2 1 (eI .u64) x0.x.tape.l :: rowp Ar4x0_7 cr4x0_8 23 1 (eI .u64) v_6 :: pt b_2 (blk (Tvisorlaw20_Pair.obj x0 b_x0m b_x0x A_x0l c_x0l A_x0v c_x0v) 30) :: S) b_x0m g_x0m hs.own).mono ?_
   rintro _ w ⟨Ar19x0ops_22, cr19x0ops_23, Ar19x0blocks_24, cr19x0blocks_25, rfl, how⟩
   refine ⟨_, _, _, rfl, how, fun a hs => ?_⟩
   replace hcl : Own κ w C_15 := by rw [hC_15]; exact (hs.own.too [3, 4, 5, 6, 7, 8, 2, 9] 10)
   refine ⟨fun _ => hcl, ?_⟩
   refine Vk.dOnly (i := 26) (by kernel_rfl) (Vk.call (some 34) 70 #[pp b_x0x] hs (by kernel_rfl) (by kernel_rfl) (by kernel_rfl) ?_)
   refine Vk.enterI [(0, pp b_x0x)] Tryz.func70 rfl Tryz.ntmps70 (by kernel_rfl) (Nat.le_of_ble_eq_true (by kernel_rfl)) hs.own fun KR26 hKR26 hKP26 a hs => ?_
   refine qsr fun K27 hK27 => ?_
   refine qal 91 [ci 0, C.slc none 0 0, C.slc none 0 0] 2 hs fun b_28 w a hs => ?_
   refine qpe 0 [(0, pp b_x0x), (2, pp b_28)] hs fun a hs => hK27 _ _ ?_
   clear hK27
   refine Vk.seq fun K29 hK29 => ?_
   obtain ⟨C_30, hC_30⟩ := qC hs.own
   refine qdr 13 κ C_30 hs fun w hs hqC_30 => ?_
   have hcl := qO hC_30 hs.own
   refine qdp (fuel := 5) [0, 1, 2, 4, 5, 6, 8, 9, 10] hs hcl hqC_30 fun a hs => ?_
   refine qdl 3 4 (ci x0.x.n) hs hcl hqC_30 hC_30 rfl fun a hs => ?_
   refine qdl 7 4 (C.slc g_x0x.1 x0.x.ops.length g_x0x.2.1) hs hcl hqC_30 hC_30 rfl fun a hs => ?_
   refine qdl 11 4 (C.slc g_x0x.2.2.1 x0.x.blocks.length g_x0x.2.2.2.1) hs hcl hqC_30 hC_30 rfl fun a hs => ?_
   refine qdp (fuel := 1) [12] hs hcl hqC_30 fun a hs => ?_
   refine qsA 13 0 [ci x0.x.n, C.slc g_x0x.1 x0.x.ops.length g_x0x.2.1, C.slc g_x0x.2.2.1 x0.x.blocks.length g_x0x.2.2.2.1] hs rfl rfl rfl fun a w hs => ?_
   refine ⟨fun h => absurd h (by decide), ?_⟩
   replace hs := hs.pick [2] (L' := [(2, pp b_28)]) (by kernel_rfl)
   refine Vk.dDone (by kernel_rfl) ?_
   refine hK29 _ _ ?_
   clear hK29
   refine wp_ret ?_
   refine hKP26 _ _ ?_
   refine hKR26 _ _ ?_
   refine Vk.retC (P := Tryz.prog) (fn := Tryz.f70) [ci x0.x.n, C.slc g_x0x.1 x0.x.ops.length g_x0x.2.1, C.slc g_x0x.2.2.1 x0.x.blocks.length g_x0x.2.2.2.1] hs rfl (by kernel_rfl) (sz := 3) (by kernel_rfl) rfl (CellsAt.all 0 rfl) ⟨_, _, _, rfl, hs.own, fun a hs => ?_⟩
   replace hcl : Own κ w C_15 := by rw [hC_15]; exact (hs.own.too [4, 5, 6, 7, 8, 9, 3, 10] 11)
   refine ⟨fun _ => hcl, ?_⟩
   obtain ⟨v_33, h_32, hm⟩ := bind_t hm
   refine qdc 27 (visorref18_Same.ok _ _ _ _ h_32 _ _ (pt b_28 (blk [ci x0.x.n, C.slc g_x0x.1 x0.x.ops.length g_x0x.2.1, C.slc g_x0x.2.2.1 x0.x.blocks.length g_x0x.2.2.2.1] 91) :: rowp Ar19x0ops_22 cr19x0ops_23 103 6 Tapi_Op.cells v_21.ops :: rowp Ar19x0blocks_24 cr19x0blocks_25 119 3 Tapi_Span.cells v_21.blocks :: bagL (Twire_Machine.parts b_x0m x0.m g_x0m) :: pt b_x0x (blk (Tvisorref19_M.obj x0.x g_x0x.1 g_x0x.2.1 g_x0x.2.2.1 g_x0x.2.2.2.1 g_x0x.2.2.2.2.1 g_x0x.2.2.2.2.2.1 g_x0x.2.2.2.2.2.2.1 g_x0x.2.2.2.2.2.2.2) 54) :: rowp g_x0x.1 g_x0x.2.1 103 6 Tapi_Op.cells x0.x.ops :: rowp g_x0x.2.2.1 g_x0x.2.2.2.1 119 3 Tapi_Span.cells x0.x.blocks :: rowp g_x0x.2.2.2.2.1 g_x0x.2.2.2.2.2.1 23 1 (eI .u64) x0.x.val :: rdp κ g_x0x.2.2.2.2.2.2.1 g_x0x.2.2.2.2.2.2.2 1 (eI .u64) x0.x.tape.l :: rowp Ar4x0_7 cr4x0_8 23 1 (eI .u64) v_6 :: pt b_2 (blk (Tvisorlaw20_Pair.obj x0 b_x0m b_x0x A_x0l c_x0l A_x0v c_x0v) 30) :: S) Ar19x0ops_22 cr19x0ops_23 (Sl.lift (fun w ho => (Own.to (S' := rowp Ar19x0ops_22 cr19x0ops_23 103 6 Tapi_Op.cells v_21.ops :: S) ho [1] 11 (by kernel_rfl) (by kernel_rfl))) (Own.rowSl 0 (Own.to (S' := rowp Ar19x0ops_22 cr19x0ops_23 103 6 Tapi_Op.cells v_21.ops :: S) hs.own [1] 11 (by kernel_rfl) (by kernel_rfl)) rfl)) Ar19x0blocks_24 cr19x0blocks_25 (Sl.lift (fun w ho => (Own.to (S' := rowp Ar19x0blocks_24 cr19x0blocks_25 119 3 Tapi_Span.cells v_21.blocks :: S) ho [2] 11 (by kernel_rfl) (by kernel_rfl))) (Own.rowSl 0 (Own.to (S' := rowp Ar19x0blocks_24 cr19x0blocks_25 119 3 Tapi_Span.cells v_21.blocks :: S) hs.own [2] 11 (by kernel_rfl) (by kernel_rfl)) rfl)) g_x0x.1 g_x0x.2.1 (Sl.lift (fun w ho => (Own.to (S' := rowp g_x0x.1 g_x0x.2.1 103 6 Tapi_Op.cells x0.x.ops :: S) ho [5] 11 (by kernel_rfl) (by kernel_rfl))) (Own.rowSl 0 (Own.to (S' := rowp g_x0x.1 g_x0x.2.1 103 6 Tapi_Op.cells x0.x.ops :: S) hs.own [5] 11 (by kernel_rfl) (by kernel_rfl)) rfl)) g_x0x.2.2.1 g_x0x.2.2.2.1 (Sl.lift (fun w ho => (Own.to (S' := rowp g_x0x.2.2.1 g_x0x.2.2.2.1 119 3 Tapi_Span.cells x0.x.blocks :: S) ho [6] 11 (by kernel_rfl) (by kernel_rfl))) (Own.rowSl 0 (Own.to (S' := rowp g_x0x.2.2.1 g_x0x.2.2.2.1 119 3 Tapi_Span.cells x0.x.blocks :: S) hs.own [6] 11 (by kernel_rfl) (by kernel_rfl)) rfl)) hs.own) hs fun w a hs => ?_
   replace hcl : Own κ w C_15 := by rw [hC_15]; exact (hs.own.too [4, 5, 6, 7, 8, 9, 3, 10] 11)
   refine ⟨fun _ => hcl, ?_⟩
   refine qdp (fuel := 0) [28, 29] hs hcl hqC_15 fun a hs => ?_
   replace hs := hs.pick [1, 3, 37] (L' := [(1, pp b_2), (3, .slice Ar4x0_7 v_6.length cr4x0_8), (37, .bool (!v_33))]) (by kernel_rfl)
   refine Vk.dDone (by kernel_rfl) ?_
   replace hs := hs.bagG (l := Tvisorref19_M.parts κ b_x0x x0.x g_x0x) (S' := pt b_28 (blk [ci x0.x.n, C.slc g_x0x.1 x0.x.ops.length g_x0x.2.1, C.slc g_x0x.2.2.1 x0.x.blocks.length g_x0x.2.2.2.1] 91) :: rowp Ar19x0ops_22 cr19x0ops_23 103 6 Tapi_Op.cells v_21.ops :: rowp Ar19x0blocks_24 cr19x0blocks_25 119 3 Tapi_Span.cells v_21.blocks :: bagL (Twire_Machine.parts b_x0m x0.m g_x0m) :: rowp Ar4x0_7 cr4x0_8 23 1 (eI .u64) v_6 :: pt b_2 (blk (Tvisorlaw20_Pair.obj x0 b_x0m b_x0x A_x0l c_x0l A_x0v c_x0v) 30) :: S) hs.own.f8.f8.f8.f8.f8
   exact hj10 (!v_33) hm _ _ (hs.go [1, 3, 37] [6, 4, 0, 5] 7 (by kernel_rfl) (by kernel_rfl) (by kernel_rfl))


def share_Value.j1 (k : Nat) (rec7 : Int → Int → Option (Int)) (q_9 : Int) (p_26 : Int) : Option (Int) := rec7 p_26 (IntKind.i64.wrap (q_9 + 1))
def share_Value.l1 (x0 : List Int) (x1 : Cells) : Nat → Int → Int → Option (Int)
 | 0, _, _ => none
 | k + 1, q_8, q_9 => (bif decide (q_9 < 3) then (if 0 ≤ q_9 ∧ q_9 < 3 then (getI .i64 x1 q_9.toNat).bind fun v_16 => (bif (decide (v_16 ≥ 0)) && (decide (v_16 < ((x0.length : Nat) : Int))) then (if 0 ≤ v_16 then (x0[v_16.toNat]?).bind fun e_22 => share_Value.j1 k (share_Value.l1 x0 x1 k) q_9 (bxor .u64 q_8 e_22) else none) else share_Value.j1 k (share_Value.l1 x0 x1 k) q_9 q_8) else none) else some q_8)
abbrev share_Value.R (κ : Ctx) (S : List HP) (x0 : List Int) (x1 : Cells) (A_x0 : Option Addr) (c_x0 : Nat) (r : Int) : Ending → World → Prop := fun e w' => e = .returned (vw r) ∧ Own κ w' (S)
def share_Value.m (k : Nat) (x0 : List Int) (x1 : Cells) : Option Int := (if x1.length = 3 then (share_Value.l1 x0 x1 k 0 0).bind fun p_27 => some p_27 else none)

set_option maxRecDepth 100000 in
set_option maxHeartbeats 4000000 in
theorem share_Value.ok (k : Nat) (x0 : List Int) (x1 : Cells) (r : Int) (hm : share_Value.m k x0 x1 = some r) (κ : Ctx) (w : World) (S : List HP) (A_x0 : Option Addr) (c_x0 : Nat) (hx_x0 : Sl κ S A_x0 c_x0 1 (eI .u64) x0) (ho : Own κ w (S)) :
  Calls Tryz.prog 42 #[.slice A_x0 x0.length c_x0, .agg (vals x1)] w (share_Value.R κ S x0 x1 A_x0 c_x0 r) := by
 unfold share_Value.m at hm
 generalize hRR : share_Value.R κ S x0 x1 A_x0 c_x0 r = RR
 refine qen [(0, .slice A_x0 x0.length c_x0), (1, .agg (vals x1))] Tryz.func42 Tryz.ntmps42 ho fun a hs => ?_
 refine qsr fun K1 hK1 => ?_
 refine qbx 1 35 x1 3 hs fun b_2 w a hs => ?_
 refine qpk 1 [0, 3] hs fun a hs => hK1 _ _ ?_
 clear hK1
 refine qsk 1 [0, 3, 5] hs fun a hs => ?_
 refine Vk.seq fun K4 hK4 => ?_
 refine qsr fun K5 hK5 => ?_
 refine qpu 1 hs fun a hs => ?_
 obtain ⟨h_6, hm⟩ := ite_t hm
 refine qlw 0 hs rfl h_6 fun a hs => ?_
 refine qpk 1 [0, 5, 9, 10] hs fun a hs => hK5 _ _ ?_
 clear hK5
 refine wp_block ?_
 obtain ⟨r7, hl7, hm⟩ := bind_t hm
 have hx7 : ∀ (p_27 : Int), r7 = p_27 → ∀ (a : Act) (w : World), St 29 a w κ [(5, vw p_27)] (S) → K4 a w := by
  intro p_27 he a w hs
  subst r7
  refine hK4 _ _ ?_
  clear hK4
  refine qse 2 [(4, vw p_27)] hs fun a hs => ?_
  refine wp_ret ?_
  exact qr1 (vw p_27) hs rfl hRR (by cases hm; exact ⟨rfl, hs.own⟩)
 refine Vk.loopBy (fun k (s : Int × Int) a w => share_Value.l1 x0 x1 k s.1 s.2 = some r7 ∧ St 29 a w κ [(0, .slice A_x0 x0.length c_x0), (5, vw s.1), (9, .agg (vals x1)), (10, vi s.2)] (S)) k (0, 0) ⟨hl7, hs.go [0, 5, 9, 10] [] 1 (by kernel_rfl) (by kernel_rfl) (by kernel_rfl)⟩ (fun s a w h => by obtain ⟨h1, _⟩ := h; simp [share_Value.l1] at h1) (fun k KL7 ih s a w h => ?_)
 obtain ⟨q_8, q_9⟩ := s
 obtain ⟨hm, hs⟩ := h
 try dsimp only at hm hs
 rw [share_Value.l1] at hm
 refine qsk 1 [0, 5, 9, 10, 11] hs fun a hs => ?_
 refine Vk.seq fun K11 hK11 => ?_
 refine qcs (decide (q_9 < 3)) hs (fun hb => ?_) fun hb => ?_
 ·replace hm := bif_t hm hb
  refine wp_skip ?_
  refine hK11 _ _ ?_
  clear hK11
  refine Vk.seq fun K12 hK12 => ?_
  have hj12 : ∀ (p_26 : Int), share_Value.j1 k (share_Value.l1 x0 x1 k) q_9 p_26 = some r7 → ∀ (a : Act) (w : World), St 29 a w κ [(0, .slice A_x0 x0.length c_x0), (5, vw p_26), (9, .agg (vals x1)), (10, vi q_9)] (S) → K12 a w := by
   intro p_26 hm a w hs
   unfold share_Value.j1 at hm
   refine hK12 _ _ ?_
   refine Vk.region ?_
   refine qpk 2 [0, 5, 9, 10] hs fun a hs => ?_
   refine ih (p_26, (IntKind.i64.wrap (q_9 + 1))) _ _ ⟨hm, hs.go [0, 5, 9, 10] [] 0 (by kernel_rfl) (by kernel_rfl) (by kernel_rfl)⟩
  refine wp_block ?_
  refine qsr fun K13 hK13 => ?_
  obtain ⟨h_14, hm⟩ := ite_t hm
  obtain ⟨v_16, h_15, hm⟩ := bind_t hm
  refine qva (vi v_16) (op := (.index 33 (.tmp 9) (.tmp 10))) hs (fun o ho => run_idxVal (k := .i64) (cs := x1) (c := ci v_16) ho (by kernel_rfl) (by kernel_rfl) (len := 3) (et := 3) (by kernel_rfl) (by kernel_rfl) (by kernel_rfl) (by kernel_rfl) h_14 (getI_some h_15) _) fun a hs => ?_
  refine qpk 1 [0, 5, 7, 9, 10] hs fun a hs => hK13 _ _ ?_
  clear hK13
  refine qsr fun K17 hK17 => ?_
  refine qpu 3 hs fun a hs => ?_
  refine qsc 15 5 hs fun a hs => ?_
  refine qpk 0 [0, 5, 7, 9, 10, 20] hs fun a hs => hK17 _ _ ?_
  clear hK17
  refine qcs ((decide (v_16 ≥ 0)) && (decide (v_16 < ((x0.length : Nat) : Int)))) hs (fun hb => ?_) fun hb => ?_
  ·replace hm := bif_t hm hb
   refine Vk.region ?_
   refine qpu 3 hs fun a hs => ?_
   obtain ⟨h_19, hm⟩ := ite_t hm
   obtain ⟨e_22, h_20, hm⟩ := bind_t hm
   obtain ⟨b_23, o_24, hA_25, h_21⟩ := Sl.elem hx_x0 h_20
   refine qva (.pointer (some ⟨b_23, o_24 + v_16.toNat * 1, none⟩)) (op := (.indexAddr 24 (.tmp 22) (.tmp 23))) hs (fun o ho => run_idxSlc (k := .i64) ho (cap := c_x0) (len := x0.length) ((congrArg (fun A => Value.slice A (x0.length) (c_x0)) hA_25) ▸ (by kernel_rfl)) (by kernel_rfl) (by kernel_rfl) (idx_ok h_19 h_20) _) fun a hs => ?_
   refine qva (vw e_22) (op := (.load 23 (.tmp 24))) hs (fun o ho => run_load1 (c := cw e_22) ho (by kernel_rfl) (by kernel_rfl) (fun w ho => h_21 w ho 0 _ rfl) _ hs.own) fun a hs => ?_
   refine qpe 2 [(0, .slice A_x0 x0.length c_x0), (5, vw (bxor .u64 q_8 e_22)), (9, .agg (vals x1)), (10, vi q_9)] hs fun a hs => ?_
   exact hj12 (bxor .u64 q_8 e_22) hm _ _ (hs.go [0, 5, 9, 10] [] 0 (by kernel_rfl) (by kernel_rfl) (by kernel_rfl))
  ·replace hm := bif_f hm hb
   refine wp_skip ?_
   exact hj12 q_8 hm _ _ (hs.go [0, 5, 9, 10] [] 0 (by kernel_rfl) (by kernel_rfl) (by kernel_rfl))
 ·replace hm := bif_f hm hb
  refine wp_exit ?_
  exact hx7 q_8 (Option.some.inj hm).symm _ _ (hs.go [5] [] 0 (by kernel_rfl) (by kernel_rfl) (by kernel_rfl))


def visorlaw23_awake.j2 (k : Nat) (p_69 : Bool) : Option (Bool) := some p_69
def visorlaw23_awake.j1 (k : Nat) (p_42 : Twire_Machine) (p_44 : Cells) : Option (Bool) := (both_Any.m k p_42 1 []).bind fun v_48 => (if v_48.1.length = 3 then (wire_Machine_Values.m k v_48.2).bind fun v_55 => (if p_44.length = 3 then (share_Value.m k v_55 p_44).bind fun v_62 => (bif v_62 == 1 then (share_Value.m k v_55 v_48.1).bind fun v_65 => (bif v_65 == 0 then (wire_Machine_Err.m k v_48.2).bind fun v_68 => visorlaw23_awake.j2 k (v_68 == 0) else visorlaw23_awake.j2 k false) else visorlaw23_awake.j2 k false) else none) else none)
abbrev visorlaw23_awake.R (κ : Ctx) (S : List HP) (r : Bool) : Ending → World → Prop := fun e w' => e = .returned (.bool r) ∧ Own κ w' (S)
def visorlaw23_awake.m (k : Nat) : Option Bool := ((visorlaw20_Begins.m k 2 ([1, 2] : List Int) 99).bind fun v => match v with | (.inl v_8) => some false | (.inr v_15) => (bif !v_15.2.2.2.2 then some false else (share_Public.m k v_15.1 6).bind fun v_33 => (share_Public.m k v_33.2 3).bind fun v_36 => (both_Less.m k v_36.2 1 v_33.1 v_36.1).bind fun v_39 => (if v_39.1.length = 3 then visorlaw23_awake.j1 k v_39.2 v_39.1 else none)))

set_option maxRecDepth 100000 in
set_option maxHeartbeats 4000000 in
theorem visorlaw23_awake.ok (k : Nat) (r : Bool) (hm : visorlaw23_awake.m k = some r) (κ : Ctx) (w : World) (S : List HP) (ho : Own κ w (S)) :
  Calls Tryz.prog 41 #[] w (visorlaw23_awake.R κ S r) := by
 unfold visorlaw23_awake.m at hm
 generalize hRR : visorlaw23_awake.R κ S r = RR
 refine qen [] Tryz.func41 Tryz.ntmps41 ho fun a hs => ?_
 refine qse 1 [] hs fun a hs => ?_
 refine qsr fun K2 hK2 => ?_
 refine Vk.step (Vk.buildOp (sz := 1) (by_ := 8) (t := 24) (e := 23) (parts := #[(0, (.const (vw 1))), (1, (.const (vw 2)))]) (zs := vals [cw 0]) ([1, 2] : List Int) (eI .u64) (some 7) hs (by kernel_rfl) (by kernel_rfl) (by kernel_rfl) (by kernel_rfl) (by decide) rfl (fun x _ => rfl) (Nat.le_of_ble_eq_true (by kernel_rfl)) (by kernel_rfl) fun A_3 w a hs => ?_)
 replace hs := hs.toRd 0 rfl
 obtain ⟨v_7, h_6, hm⟩ := bind_t hm
 refine Vk.step (Vk.call (some 8) 6 #[vi 2, .slice A_3 (([1, 2] : List Int).length) 2, vi 99] hs (by kernel_rfl) (by kernel_rfl) (by kernel_rfl) ?_)
 refine (visorlaw20_Begins.ok k 2 ([1, 2] : List Int) 99 v_7 h_6 κ w (S) A_3 2 hs.own).mono ?_
 rintro _ w (⟨v_8, rfl, br5x0x_9, Ar5x0l_10, cr5x0l_11, Ar5x0v_12, cr5x0v_13, rfl, how⟩ | ⟨v_15, rfl, br5x0m_16, br5x0x_17, Ar5x0l_18, cr5x0l_19, Ar5x0v_20, cr5x0v_21, rfl, how⟩)
 ·dsimp only at hm
  refine ⟨_, _, _, rfl, how, fun a hs => ?_⟩
  refine qpu 3 hs fun a hs => ?_
  refine qal 30 [C.ptr none, C.ptr none, C.slc none 0 0, C.slc none 0 0] 1 hs fun b_14 w a hs => ?_
  refine qsa 0 [C.ptr none, cp br5x0x_9, C.slc Ar5x0l_10 v_8.2.1.length cr5x0l_11, C.slc Ar5x0v_12 v_8.2.2.length cr5x0v_13] hs rfl fun a w hs => ?_
  refine qpk 1 [1, 2] hs fun a hs => hK2 _ _ ?_
  refine Vk.seq fun K23 hK23 => ?_
  refine qsk 2 [1, 12] hs fun a hs => ?_
  refine qct hs ?_
  refine qse 1 [(0, .bool false)] hs fun a hs => ?_
  refine wp_ret ?_
  exact qr1 (.bool false) hs rfl hRR (by cases hm; exact ⟨rfl, (hs.own.too [] 4)⟩)
 ·dsimp only at hm
  refine ⟨_, _, _, rfl, how, fun a hs => ?_⟩
  refine qpu 3 hs fun a hs => ?_
  refine qal 30 [C.ptr none, C.ptr none, C.slc none 0 0, C.slc none 0 0] 1 hs fun b_22 w a hs => ?_
  refine qsa 0 [cp br5x0m_16, cp br5x0x_17, C.slc Ar5x0l_18 v_15.2.2.1.length cr5x0l_19, C.slc Ar5x0v_20 v_15.2.2.2.1.length cr5x0v_21] hs rfl fun a w hs => ?_
  refine qpk 1 [1, 2] hs fun a hs => hK2 _ _ ?_
  refine Vk.seq fun K26 hK26 => ?_
  refine qsk 2 [1, 12] hs fun a hs => ?_
  refine qcs (!v_15.2.2.2.2) hs (fun hb => ?_) fun hb => ?_
  ·replace hm := bif_t hm hb
   refine qse 1 [(0, .bool false)] hs fun a hs => ?_
   refine wp_ret ?_
   exact qr1 (.bool false) hs rfl hRR (by cases hm; exact ⟨rfl, (hs.own.too [] 5)⟩)
  ·replace hm := bif_f hm hb
   refine wp_skip ?_
   refine hK26 _ _ ?_
   clear hK26
   refine Vk.seq fun K29 hK29 => ?_
   have hj29 : ∀ (p_42 : Twire_Machine) (p_44 : Cells), visorlaw23_awake.j1 k p_42 p_44 = some r → ∀ (b_43 : Nat) (a : Act) (w : World), St 44 a w κ [(1, pp b_22), (3, pp b_43)] (pt b_22 (blk [cp br5x0m_16, cp br5x0x_17, C.slc Ar5x0l_18 v_15.2.2.1.length cr5x0l_19, C.slc Ar5x0v_20 v_15.2.2.2.1.length cr5x0v_21] 30) :: Twire_Machine.own br5x0m_16 p_42 :: Tvisorref19_M.own κ br5x0x_17 v_15.2.1 :: rowp Ar5x0l_18 cr5x0l_19 35 3 eC v_15.2.2.1 :: rowp Ar5x0v_20 cr5x0v_21 23 1 (eI .u64) v_15.2.2.2.1 :: pt b_43 (blk p_44 35) :: S) → K29 a w := by
    intro p_42 p_44 hm b_43 a w hs
    unfold visorlaw23_awake.j1 at hm
    refine hK29 _ _ ?_
    refine qsr fun K45 hK45 => ?_
    refine qpu 1 hs fun a hs => ?_
    refine qld 0 (cp br5x0m_16) hs rfl fun a hs => ?_
    obtain ⟨v_48, h_47, hm⟩ := bind_t hm
    refine qcl (both_Any.ok _ _ _ _ _ h_47 _ _ _ br5x0m_16 none 0 Sl.nil hs.own.f1) hs fun w a hs => ?_
    refine qal 35 [ci 0, ci 0, ci 0] 4 hs fun b_49 w a hs => ?_
    obtain ⟨h_50, hm⟩ := ite_t hm
    refine qsb 0 v_48.1 hs rfl h_50 rfl fun a w hs => ?_
    refine qpe 0 [(1, pp b_22), (3, pp b_43), (4, pp b_49)] hs fun a hs => hK45 _ _ ?_
    clear hK45
    refine qsr fun K51 hK51 => ?_
    refine qpu 1 hs fun a hs => ?_
    refine qld 2 (cp br5x0m_16) hs rfl fun a hs => ?_
    obtain ⟨g_52, hs⟩ := hs.unex 1 rfl
    obtain ⟨v_55, h_54, hm⟩ := bind_t hm
    refine Vk.step (Vk.call (some 27) 20 #[pp br5x0m_16] hs (by kernel_rfl) (by kernel_rfl) (by kernel_rfl) ?_)
    refine (wire_Machine_Values.ok k v_48.2 v_55 h_54 κ w (pt b_49 (blk v_48.1 35) :: pt b_22 (blk [cp br5x0m_16, cp br5x0x_17, C.slc Ar5x0l_18 v_15.2.2.1.length cr5x0l_19, C.slc Ar5x0v_20 v_15.2.2.2.1.length cr5x0v_21] 30) :: Tvisorref19_M.own κ br5x0x_17 v_15.2.1 :: rowp Ar5x0l_18 cr5x0l_19 35 3 eC v_15.2.2.1 :: rowp Ar5x0v_20 cr5x0v_21 23 1 (eI .u64) v_15.2.2.2.1 :: pt b_43 (blk p_44 35) :: S) br5x0m_16 g_52 hs.own.f1).mono ?_
    rintro _ w ⟨Ar53x0_56, cr53x0_57, rfl, how⟩
    refine ⟨_, _, _, rfl, how, fun a hs => ?_⟩
    refine qpk 1 [1, 3, 4, 5] hs fun a hs => hK51 _ _ ?_
    clear hK51
    refine Vk.seq fun K58 hK58 => ?_
    have hj58 : ∀ (p_69 : Bool), visorlaw23_awake.j2 k p_69 = some r → ∀ (a : Act) (w : World), St 44 a w κ [(0, .bool p_69)] (S) → K58 a w := by
     intro p_69 hm a w hs
     unfold visorlaw23_awake.j2 at hm
     refine hK58 _ _ ?_
     refine wp_ret ?_
     exact qr1 (.bool p_69) hs rfl hRR (by cases hm; exact ⟨rfl, hs.own⟩)
    refine Vk.region ?_
    refine qpu 1 hs fun a hs => ?_
    obtain ⟨h_59, hm⟩ := ite_t hm
    refine qlw 7 hs rfl h_59 fun a hs => ?_
    obtain ⟨v_62, h_61, hm⟩ := bind_t hm
    refine qcl (share_Value.ok _ _ _ _ h_61 _ _ (rowp Ar53x0_56 cr53x0_57 23 1 (eI .u64) v_55 :: bagL (Twire_Machine.parts br5x0m_16 v_48.2 g_52) :: pt b_49 (blk v_48.1 35) :: pt b_22 (blk [cp br5x0m_16, cp br5x0x_17, C.slc Ar5x0l_18 v_15.2.2.1.length cr5x0l_19, C.slc Ar5x0v_20 v_15.2.2.2.1.length cr5x0v_21] 30) :: Tvisorref19_M.own κ br5x0x_17 v_15.2.1 :: rowp Ar5x0l_18 cr5x0l_19 35 3 eC v_15.2.2.1 :: rowp Ar5x0v_20 cr5x0v_21 23 1 (eI .u64) v_15.2.2.2.1 :: pt b_43 (blk p_44 35) :: S) Ar53x0_56 cr53x0_57 (Sl.lift (fun w ho => (Own.to (S' := rowp Ar53x0_56 cr53x0_57 23 1 (eI .u64) v_55 :: S) ho [0] 8 (by kernel_rfl) (by kernel_rfl))) (Own.rowSl 0 (Own.to (S' := rowp Ar53x0_56 cr53x0_57 23 1 (eI .u64) v_55 :: S) hs.own [0] 8 (by kernel_rfl) (by kernel_rfl)) rfl)) hs.own) hs fun w a hs => ?_
    refine qpu 2 hs fun a hs => ?_
    rcases Bool.eq_false_or_eq_true (v_62 == 1) with hb | hb
    ·replace hm := bif_t hm hb
     replace hs := hs.known (t := 32) hb (by kernel_rfl)
     refine qpu 1 hs fun a hs => ?_
     refine qlw 2 hs rfl h_50 fun a hs => ?_
     obtain ⟨v_65, h_64, hm⟩ := bind_t hm
     refine qcl (share_Value.ok _ _ _ _ h_64 _ _ (rowp Ar53x0_56 cr53x0_57 23 1 (eI .u64) v_55 :: bagL (Twire_Machine.parts br5x0m_16 v_48.2 g_52) :: pt b_49 (blk v_48.1 35) :: pt b_22 (blk [cp br5x0m_16, cp br5x0x_17, C.slc Ar5x0l_18 v_15.2.2.1.length cr5x0l_19, C.slc Ar5x0v_20 v_15.2.2.2.1.length cr5x0v_21] 30) :: Tvisorref19_M.own κ br5x0x_17 v_15.2.1 :: rowp Ar5x0l_18 cr5x0l_19 35 3 eC v_15.2.2.1 :: rowp Ar5x0v_20 cr5x0v_21 23 1 (eI .u64) v_15.2.2.2.1 :: pt b_43 (blk p_44 35) :: S) Ar53x0_56 cr53x0_57 (Sl.lift (fun w ho => (Own.to (S' := rowp Ar53x0_56 cr53x0_57 23 1 (eI .u64) v_55 :: S) ho [0] 8 (by kernel_rfl) (by kernel_rfl))) (Own.rowSl 0 (Own.to (S' := rowp Ar53x0_56 cr53x0_57 23 1 (eI .u64) v_55 :: S) hs.own [0] 8 (by kernel_rfl) (by kernel_rfl)) rfl)) hs.own) hs fun w a hs => ?_
     refine qpu 3 hs fun a hs => ?_
     rcases Bool.eq_false_or_eq_true (v_65 == 0) with hb | hb
     ·replace hm := bif_t hm hb
      replace hs := hs.known (t := 38) hb (by kernel_rfl)
      refine qpu 1 hs fun a hs => ?_
      refine qld 3 (cp br5x0m_16) hs rfl fun a hs => ?_
      obtain ⟨v_68, h_67, hm⟩ := bind_t hm
      refine qcl (wire_Machine_Err.ok _ _ _ h_67 _ _ _ br5x0m_16 g_52 hs.own.f1) hs fun w a hs => ?_
      refine qpe 3 [(0, .bool (v_68 == 0))] hs fun a hs => ?_
      replace hs := hs.toEx (Twire_Machine.parts br5x0m_16 v_48.2) g_52 0 rfl
      exact hj58 (v_68 == 0) hm _ _ (hs.go [0] [] 8 (by kernel_rfl) (by kernel_rfl) (by kernel_rfl))
     ·replace hm := bif_f hm hb
      replace hs := hs.known (t := 38) hb (by kernel_rfl)
      refine qpe 6 [(0, .bool false)] hs fun a hs => ?_
      replace hs := hs.toEx (Twire_Machine.parts br5x0m_16 v_48.2) g_52 1 rfl
      exact hj58 false hm _ _ (hs.go [0] [] 8 (by kernel_rfl) (by kernel_rfl) (by kernel_rfl))
    ·replace hm := bif_f hm hb
     replace hs := hs.known (t := 32) hb (by kernel_rfl)
     refine qpe 12 [(0, .bool false)] hs fun a hs => ?_
     replace hs := hs.toEx (Twire_Machine.parts br5x0m_16 v_48.2) g_52 1 rfl
     exact hj58 false hm _ _ (hs.go [0] [] 8 (by kernel_rfl) (by kernel_rfl) (by kernel_rfl))
   obtain ⟨C_30, hC_30⟩ := qC hs.own.f1.drop
   refine qdr 10 κ C_30 hs fun w hs hqC_30 => ?_
   have hcl := qO hC_30 hs.own.f1.drop
   refine qdp (fuel := 8) [0, 2, 5] hs hcl hqC_30 fun a hs => ?_
   refine qdl 1 0 (cp br5x0m_16) hs hcl hqC_30 hC_30 rfl fun a hs => ?_
   refine qdl 3 0 (cp br5x0m_16) hs hcl hqC_30 hC_30 rfl fun a hs => ?_
   refine qdl 6 0 (cp br5x0m_16) hs hcl hqC_30 hC_30 rfl fun a hs => ?_
   refine Vk.dMany2 (i0 := 4) (i1 := 9) (by kernel_rfl) ?_ ?_
   ·obtain ⟨v_33, h_32, hm⟩ := bind_t hm
    refine qco (share_Public.ok _ _ _ _ h_32 _ _ _ br5x0m_16 hs.own.f1) hs fun w a hs => ?_
    replace hcl := qO hC_30 hs.own.drop
    refine ⟨fun _ => hcl, ?_⟩
    refine Vk.dMany2 (i0 := 7) (i1 := 9) (by kernel_rfl) ?_ ?_
    ·obtain ⟨v_36, h_35, hm⟩ := bind_t hm
     refine qco (share_Public.ok _ _ _ _ h_35 _ _ _ br5x0m_16 hs.own) hs fun w a hs => ?_
     replace hcl := qO hC_30 hs.own.drop
     refine ⟨fun _ => hcl, ?_⟩
     refine Vk.dMany2 (i0 := 8) (i1 := 9) (by kernel_rfl) ?_ ?_
     ·obtain ⟨v_39, h_38, hm⟩ := bind_t hm
      refine qco (both_Less.ok _ _ _ _ _ _ h_38 _ _ _ br5x0m_16 hs.own) hs fun w a hs => ?_
      replace hcl := qO hC_30 hs.own.drop
      refine ⟨fun _ => hcl, ?_⟩
      refine Vk.dOnly (i := 9) (by kernel_rfl) (Vk.alloc 3 35 [ci 0, ci 0, ci 0] hs (by kernel_rfl) (by kernel_rfl) (by kernel_rfl) fun b_40 w a hs => ?_)
      replace hcl := qO hC_30 hs.own.f1.drop.drop
      refine ⟨fun _ => hcl, ?_⟩
      obtain ⟨h_41, hm⟩ := ite_t hm
      refine qsA 10 0 v_39.1 hs rfl h_41 rfl fun a w hs => ?_
      refine ⟨fun h => absurd h (by decide), ?_⟩
      replace hs := hs.pick [1, 3] (L' := [(1, pp b_22), (3, pp b_40)]) (by kernel_rfl)
      refine Vk.dDone (by kernel_rfl) ?_
      exact hj29 v_39.2 v_39.1 hm b_40 _ _ (hs.go [1, 3] [2, 1, 3, 4, 5, 0] 6 (by kernel_rfl) (by kernel_rfl) (by kernel_rfl))
     ·refine Vk.alloc 3 35 [ci 0, ci 0, ci 0] hs (by kernel_rfl) (by kernel_rfl) (by kernel_rfl) fun b_37 w a hs => ?_
      replace hcl := qO hC_30 hs.own.f1.drop.drop
      refine ⟨fun _ => hcl, ?_⟩
      obtain ⟨v_40, h_39, hm⟩ := bind_t hm
      refine qdc 8 (both_Less.ok _ _ _ _ _ _ h_39 _ _ _ br5x0m_16 hs.own.f1) hs fun w a hs => ?_
      replace hcl := qO hC_30 hs.own.f1.drop.drop
      refine ⟨fun _ => hcl, ?_⟩
      obtain ⟨h_41, hm⟩ := ite_t hm
      refine qsA 10 1 v_40.1 hs rfl h_41 rfl fun a w hs => ?_
      refine ⟨fun h => absurd h (by decide), ?_⟩
      replace hs := hs.pick [1, 3] (L' := [(1, pp b_22), (3, pp b_37)]) (by kernel_rfl)
      refine Vk.dDone (by kernel_rfl) ?_
      exact hj29 v_40.2 v_40.1 hm b_37 _ _ (hs.go [1, 3] [2, 0, 3, 4, 5, 1] 6 (by kernel_rfl) (by kernel_rfl) (by kernel_rfl))
    ·refine Vk.alloc 3 35 [ci 0, ci 0, ci 0] hs (by kernel_rfl) (by kernel_rfl) (by kernel_rfl) fun b_34 w a hs => ?_
     replace hcl := qO hC_30 hs.own.f1.drop.drop
     refine ⟨fun _ => hcl, ?_⟩
     obtain ⟨v_37, h_36, hm⟩ := bind_t hm
     refine qdc 7 (share_Public.ok _ _ _ _ h_36 _ _ _ br5x0m_16 hs.own.f1) hs fun w a hs => ?_
     replace hcl := qO hC_30 hs.own.f1.drop.drop
     refine ⟨fun _ => hcl, ?_⟩
     obtain ⟨v_40, h_39, hm⟩ := bind_t hm
     refine qdc 8 (both_Less.ok _ _ _ _ _ _ h_39 _ _ _ br5x0m_16 hs.own) hs fun w a hs => ?_
     replace hcl := qO hC_30 hs.own.f1.drop.drop
     refine ⟨fun _ => hcl, ?_⟩
     obtain ⟨h_41, hm⟩ := ite_t hm
     refine qsA 10 1 v_40.1 hs rfl h_41 rfl fun a w hs => ?_
     refine ⟨fun h => absurd h (by decide), ?_⟩
     replace hs := hs.pick [1, 3] (L' := [(1, pp b_22), (3, pp b_34)]) (by kernel_rfl)
     refine Vk.dDone (by kernel_rfl) ?_
     exact hj29 v_40.2 v_40.1 hm b_34 _ _ (hs.go [1, 3] [2, 0, 3, 4, 5, 1] 6 (by kernel_rfl) (by kernel_rfl) (by kernel_rfl))
   ·refine Vk.alloc 3 35 [ci 0, ci 0, ci 0] hs (by kernel_rfl) (by kernel_rfl) (by kernel_rfl) fun b_31 w a hs => ?_
    replace hcl := qO hC_30 hs.own.f2.drop.drop
    refine ⟨fun _ => hcl, ?_⟩
    obtain ⟨v_34, h_33, hm⟩ := bind_t hm
    refine qdc 4 (share_Public.ok _ _ _ _ h_33 _ _ _ br5x0m_16 hs.own.f2) hs fun w a hs => ?_
    replace hcl := qO hC_30 hs.own.f1.drop.drop
    refine ⟨fun _ => hcl, ?_⟩
    obtain ⟨v_37, h_36, hm⟩ := bind_t hm
    refine qdc 7 (share_Public.ok _ _ _ _ h_36 _ _ _ br5x0m_16 hs.own) hs fun w a hs => ?_
    replace hcl := qO hC_30 hs.own.f1.drop.drop
    refine ⟨fun _ => hcl, ?_⟩
    obtain ⟨v_40, h_39, hm⟩ := bind_t hm
    refine qdc 8 (both_Less.ok _ _ _ _ _ _ h_39 _ _ _ br5x0m_16 hs.own) hs fun w a hs => ?_
    replace hcl := qO hC_30 hs.own.f1.drop.drop
    refine ⟨fun _ => hcl, ?_⟩
    obtain ⟨h_41, hm⟩ := ite_t hm
    refine qsA 10 1 v_40.1 hs rfl h_41 rfl fun a w hs => ?_
    refine ⟨fun h => absurd h (by decide), ?_⟩
    replace hs := hs.pick [1, 3] (L' := [(1, pp b_22), (3, pp b_31)]) (by kernel_rfl)
    refine Vk.dDone (by kernel_rfl) ?_
    exact hj29 v_40.2 v_40.1 hm b_31 _ _ (hs.go [1, 3] [2, 0, 3, 4, 5, 1] 6 (by kernel_rfl) (by kernel_rfl) (by kernel_rfl))


def visorlaw23_meant.l1 (x1 : List Int) : Nat → Int → Int → Option (Int)
 | 0, _, _ => none
 | k + 1, q_67, q_68 => (bif decide (q_68 < ((x1.length : Nat) : Int)) then (if 0 ≤ q_68 then (x1[q_68.toNat]?).bind fun e_75 => visorlaw23_meant.l1 x1 k (bor .u64 q_67 e_75) (IntKind.i64.wrap (q_68 + 1)) else none) else some q_67)
abbrev visorlaw23_meant.R (κ : Ctx) (S : List HP) (x0 : Tvisorlaw23_Asked) (x1 : List Int) (A_x0l : Option Addr) (c_x0l : Nat) (A_x0masks : Option Addr) (c_x0masks : Nat) (A_x1 : Option Addr) (c_x1 : Nat) (r : Int) : Ending → World → Prop := fun e w' => e = .returned (vw r) ∧ Own κ w' (S)
def visorlaw23_meant.m (k : Nat) (x0 : Tvisorlaw23_Asked) (x1 : List Int) : Option Int := (bif x0.kind == 0 then (if 0 ≤ (0 : Int) then (x1[0]?).bind fun e_11 => (if 0 ≤ (1 : Int) then (x1[1]?).bind fun e_18 => some (band .u64 e_11 e_18) else none) else none) else (bif x0.kind == 1 then (if 0 ≤ (1 : Int) then (x1[1]?).bind fun e_28 => (if 0 ≤ (0 : Int) then (x1[0]?).bind fun e_35 => (if 0 ≤ (1 : Int) then (x1[1]?).bind fun e_42 => some (IntKind.u64.wrap (e_28 - (band .u64 e_35 e_42))) else none) else none) else none) else (bif x0.kind == 2 then (if 0 ≤ (0 : Int) then (x1[0]?).bind fun e_52 => (if 0 ≤ (1 : Int) then (x1[1]?).bind fun e_59 => some (bor .u64 e_52 e_59) else none) else none) else (visorlaw23_meant.l1 x1 k 0 0).bind fun p_79 => some p_79)))

set_option maxRecDepth 100000 in
set_option maxHeartbeats 4000000 in
theorem visorlaw23_meant.ok (k : Nat) (x0 : Tvisorlaw23_Asked) (x1 : List Int) (r : Int) (hm : visorlaw23_meant.m k x0 x1 = some r) (κ : Ctx) (w : World) (S : List HP) (A_x0l : Option Addr) (c_x0l : Nat) (hx_x0l : Sl κ S A_x0l c_x0l 1 (eI .u64) x0.l) (A_x0masks : Option Addr) (c_x0masks : Nat) (hx_x0masks : Sl κ S A_x0masks c_x0masks 1 (eI .u64) x0.masks) (A_x1 : Option Addr) (c_x1 : Nat) (hx_x1 : Sl κ S A_x1 c_x1 1 (eI .u64) x1) (ho : Own κ w (S)) :
  Calls Tryz.prog 43 #[.agg (vals [C.bool x0.three, ci x0.kind, ci x0.byF, ci x0.width, C.slc A_x0l x0.l.length c_x0l, C.slc A_x0masks x0.masks.length c_x0masks]), .slice A_x1 x1.length c_x1] w (visorlaw23_meant.R κ S x0 x1 A_x0l c_x0l A_x0masks c_x0masks A_x1 c_x1 r) := by
 unfold visorlaw23_meant.m at hm
 generalize hRR : visorlaw23_meant.R κ S x0 x1 A_x0l c_x0l A_x0masks c_x0masks A_x1 c_x1 r = RR
 refine qen [(0, .agg (vals [C.bool x0.three, ci x0.kind, ci x0.byF, ci x0.width, C.slc A_x0l x0.l.length c_x0l, C.slc A_x0masks x0.masks.length c_x0masks])), (1, .slice A_x1 x1.length c_x1)] Tryz.func43 Tryz.ntmps43 ho fun a hs => ?_
 refine qsr fun K1 hK1 => ?_
 refine qbx 0 60 [C.bool x0.three, ci x0.kind, ci x0.byF, ci x0.width, C.slc A_x0l x0.l.length c_x0l, C.slc A_x0masks x0.masks.length c_x0masks] 2 hs fun b_2 w a hs => ?_
 refine qpk 1 [1, 2] hs fun a hs => hK1 _ _ ?_
 clear hK1
 refine Vk.seq fun K3 hK3 => ?_
 refine qsr fun K4 hK4 => ?_
 refine qpu 1 hs fun a hs => ?_
 refine qld 0 (ci x0.kind) hs rfl fun a hs => ?_
 refine qpk 0 [1, 8] hs fun a hs => hK4 _ _ ?_
 clear hK4
 refine wp_block ?_
 refine qsk 2 [1, 8, 9] hs fun a hs => ?_
 refine qcs (x0.kind == 0) hs (fun hb => ?_) fun hb => ?_
 ·replace hm := bif_t hm hb
  refine Vk.seq fun K6 hK6 => ?_
  obtain ⟨C_7, hC_7⟩ := qC hs.own
  refine qdr 8 κ C_7 hs fun w hs hqC_7 => ?_
  have hcl := qO hC_7 hs.own
  refine qdp (fuel := 6) [0, 3] hs hcl hqC_7 fun a hs => ?_
  obtain ⟨h_8, hm⟩ := ite_t hm
  obtain ⟨e_11, h_9, hm⟩ := bind_t hm
  obtain ⟨b_12, o_13, hA_14, h_10⟩ := Sl.elem hx_x1 h_9
  refine qdt 1 (.pointer (some ⟨b_12, o_13 + 0 * 1, none⟩)) (op := (.indexAddr 24 (.tmp 11) (.const (vi 0)))) hs hcl hqC_7 (fun w hw o ho => by rw [hC_7] at hw; exact run_idxSlc (k := .i64) ho (cap := c_x1) (len := x1.length) ((congrArg (fun A => Value.slice A (x1.length) (c_x1)) hA_14) ▸ (by kernel_rfl)) (by kernel_rfl) (by kernel_rfl) (idx_ok h_8 h_9) _) fun a hs => ?_
  refine qdt 2 (vw e_11) (op := (.load 23 (.tmp 12))) hs hcl hqC_7 (fun w hw o ho => by rw [hC_7] at hw; exact run_load1 (c := cw e_11) ho (by kernel_rfl) (by kernel_rfl) (fun w ho => h_10 w ho 0 _ rfl) _ hw.drop) fun a hs => ?_
  obtain ⟨h_15, hm⟩ := ite_t hm
  obtain ⟨e_18, h_16, hm⟩ := bind_t hm
  obtain ⟨b_19, o_20, hA_21, h_17⟩ := Sl.elem hx_x1 h_16
  refine qdt 4 (.pointer (some ⟨b_19, o_20 + 1 * 1, none⟩)) (op := (.indexAddr 24 (.tmp 14) (.const (vi 1)))) hs hcl hqC_7 (fun w hw o ho => by rw [hC_7] at hw; exact run_idxSlc (k := .i64) ho (cap := c_x1) (len := x1.length) ((congrArg (fun A => Value.slice A (x1.length) (c_x1)) hA_21) ▸ (by kernel_rfl)) (by kernel_rfl) (by kernel_rfl) (idx_ok h_15 h_16) _) fun a hs => ?_
  refine qdt 5 (vw e_18) (op := (.load 23 (.tmp 15))) hs hcl hqC_7 (fun w hw o ho => by rw [hC_7] at hw; exact run_load1 (c := cw e_18) ho (by kernel_rfl) (by kernel_rfl) (fun w ho => h_17 w ho 0 _ rfl) _ hw.drop) fun a hs => ?_
  refine qdp (fuel := 0) [6, 7] hs hcl hqC_7 fun a hs => ?_
  replace hs := hs.pick [4] (L' := [(4, vw (band .u64 e_11 e_18))]) (by kernel_rfl)
  refine Vk.dDone (by kernel_rfl) ?_
  refine hK6 _ _ ?_
  clear hK6
  refine wp_ret ?_
  exact qr1 (vw (band .u64 e_11 e_18)) hs rfl hRR (by cases hm; exact ⟨rfl, hs.own.drop⟩)
 ·replace hm := bif_f hm hb
  refine qsk 2 [1, 8, 18] hs fun a hs => ?_
  refine qcs (x0.kind == 1) hs (fun hb => ?_) fun hb => ?_
  ·replace hm := bif_t hm hb
   refine Vk.seq fun K23 hK23 => ?_
   obtain ⟨C_24, hC_24⟩ := qC hs.own
   refine qdr 12 κ C_24 hs fun w hs hqC_24 => ?_
   have hcl := qO hC_24 hs.own
   refine qdp (fuel := 9) [0, 3, 6] hs hcl hqC_24 fun a hs => ?_
   obtain ⟨h_25, hm⟩ := ite_t hm
   obtain ⟨e_28, h_26, hm⟩ := bind_t hm
   obtain ⟨b_29, o_30, hA_31, h_27⟩ := Sl.elem hx_x1 h_26
   refine qdt 1 (.pointer (some ⟨b_29, o_30 + 1 * 1, none⟩)) (op := (.indexAddr 24 (.tmp 20) (.const (vi 1)))) hs hcl hqC_24 (fun w hw o ho => by rw [hC_24] at hw; exact run_idxSlc (k := .i64) ho (cap := c_x1) (len := x1.length) ((congrArg (fun A => Value.slice A (x1.length) (c_x1)) hA_31) ▸ (by kernel_rfl)) (by kernel_rfl) (by kernel_rfl) (idx_ok h_25 h_26) _) fun a hs => ?_
   refine qdt 2 (vw e_28) (op := (.load 23 (.tmp 21))) hs hcl hqC_24 (fun w hw o ho => by rw [hC_24] at hw; exact run_load1 (c := cw e_28) ho (by kernel_rfl) (by kernel_rfl) (fun w ho => h_27 w ho 0 _ rfl) _ hw.drop) fun a hs => ?_
   obtain ⟨h_32, hm⟩ := ite_t hm
   obtain ⟨e_35, h_33, hm⟩ := bind_t hm
   obtain ⟨b_36, o_37, hA_38, h_34⟩ := Sl.elem hx_x1 h_33
   refine qdt 4 (.pointer (some ⟨b_36, o_37 + 0 * 1, none⟩)) (op := (.indexAddr 24 (.tmp 23) (.const (vi 0)))) hs hcl hqC_24 (fun w hw o ho => by rw [hC_24] at hw; exact run_idxSlc (k := .i64) ho (cap := c_x1) (len := x1.length) ((congrArg (fun A => Value.slice A (x1.length) (c_x1)) hA_38) ▸ (by kernel_rfl)) (by kernel_rfl) (by kernel_rfl) (idx_ok h_32 h_33) _) fun a hs => ?_
   refine qdt 5 (vw e_35) (op := (.load 23 (.tmp 24))) hs hcl hqC_24 (fun w hw o ho => by rw [hC_24] at hw; exact run_load1 (c := cw e_35) ho (by kernel_rfl) (by kernel_rfl) (fun w ho => h_34 w ho 0 _ rfl) _ hw.drop) fun a hs => ?_
   obtain ⟨h_39, hm⟩ := ite_t hm
   obtain ⟨e_42, h_40, hm⟩ := bind_t hm
   obtain ⟨b_43, o_44, hA_45, h_41⟩ := Sl.elem hx_x1 h_40
   refine qdt 7 (.pointer (some ⟨b_43, o_44 + 1 * 1, none⟩)) (op := (.indexAddr 24 (.tmp 26) (.const (vi 1)))) hs hcl hqC_24 (fun w hw o ho => by rw [hC_24] at hw; exact run_idxSlc (k := .i64) ho (cap := c_x1) (len := x1.length) ((congrArg (fun A => Value.slice A (x1.length) (c_x1)) hA_45) ▸ (by kernel_rfl)) (by kernel_rfl) (by kernel_rfl) (idx_ok h_39 h_40) _) fun a hs => ?_
   refine qdt 8 (vw e_42) (op := (.load 23 (.tmp 27))) hs hcl hqC_24 (fun w hw o ho => by rw [hC_24] at hw; exact run_load1 (c := cw e_42) ho (by kernel_rfl) (by kernel_rfl) (fun w ho => h_41 w ho 0 _ rfl) _ hw.drop) fun a hs => ?_
   refine qdp (fuel := 0) [9, 10, 11] hs hcl hqC_24 fun a hs => ?_
   replace hs := hs.pick [4] (L' := [(4, vw (IntKind.u64.wrap (e_28 - (band .u64 e_35 e_42))))]) (by kernel_rfl)
   refine Vk.dDone (by kernel_rfl) ?_
   refine hK23 _ _ ?_
   clear hK23
   refine wp_ret ?_
   exact qr1 (vw (IntKind.u64.wrap (e_28 - (band .u64 e_35 e_42)))) hs rfl hRR (by cases hm; exact ⟨rfl, hs.own.drop⟩)
  ·replace hm := bif_f hm hb
   refine qsk 2 [1, 31] hs fun a hs => ?_
   refine qcs (x0.kind == 2) hs (fun hb => ?_) fun hb => ?_
   ·replace hm := bif_t hm hb
    refine Vk.seq fun K47 hK47 => ?_
    obtain ⟨C_48, hC_48⟩ := qC hs.own
    refine qdr 8 κ C_48 hs fun w hs hqC_48 => ?_
    have hcl := qO hC_48 hs.own
    refine qdp (fuel := 6) [0, 3] hs hcl hqC_48 fun a hs => ?_
    obtain ⟨h_49, hm⟩ := ite_t hm
    obtain ⟨e_52, h_50, hm⟩ := bind_t hm
    obtain ⟨b_53, o_54, hA_55, h_51⟩ := Sl.elem hx_x1 h_50
    refine qdt 1 (.pointer (some ⟨b_53, o_54 + 0 * 1, none⟩)) (op := (.indexAddr 24 (.tmp 33) (.const (vi 0)))) hs hcl hqC_48 (fun w hw o ho => by rw [hC_48] at hw; exact run_idxSlc (k := .i64) ho (cap := c_x1) (len := x1.length) ((congrArg (fun A => Value.slice A (x1.length) (c_x1)) hA_55) ▸ (by kernel_rfl)) (by kernel_rfl) (by kernel_rfl) (idx_ok h_49 h_50) _) fun a hs => ?_
    refine qdt 2 (vw e_52) (op := (.load 23 (.tmp 34))) hs hcl hqC_48 (fun w hw o ho => by rw [hC_48] at hw; exact run_load1 (c := cw e_52) ho (by kernel_rfl) (by kernel_rfl) (fun w ho => h_51 w ho 0 _ rfl) _ hw.drop) fun a hs => ?_
    obtain ⟨h_56, hm⟩ := ite_t hm
    obtain ⟨e_59, h_57, hm⟩ := bind_t hm
    obtain ⟨b_60, o_61, hA_62, h_58⟩ := Sl.elem hx_x1 h_57
    refine qdt 4 (.pointer (some ⟨b_60, o_61 + 1 * 1, none⟩)) (op := (.indexAddr 24 (.tmp 36) (.const (vi 1)))) hs hcl hqC_48 (fun w hw o ho => by rw [hC_48] at hw; exact run_idxSlc (k := .i64) ho (cap := c_x1) (len := x1.length) ((congrArg (fun A => Value.slice A (x1.length) (c_x1)) hA_62) ▸ (by kernel_rfl)) (by kernel_rfl) (by kernel_rfl) (idx_ok h_56 h_57) _) fun a hs => ?_
    refine qdt 5 (vw e_59) (op := (.load 23 (.tmp 37))) hs hcl hqC_48 (fun w hw o ho => by rw [hC_48] at hw; exact run_load1 (c := cw e_59) ho (by kernel_rfl) (by kernel_rfl) (fun w ho => h_58 w ho 0 _ rfl) _ hw.drop) fun a hs => ?_
    refine qdp (fuel := 0) [6, 7] hs hcl hqC_48 fun a hs => ?_
    replace hs := hs.pick [4] (L' := [(4, vw (bor .u64 e_52 e_59))]) (by kernel_rfl)
    refine Vk.dDone (by kernel_rfl) ?_
    refine hK47 _ _ ?_
    clear hK47
    refine wp_ret ?_
    exact qr1 (vw (bor .u64 e_52 e_59)) hs rfl hRR (by cases hm; exact ⟨rfl, hs.own.drop⟩)
   ·replace hm := bif_f hm hb
    refine wp_skip ?_
    refine hK3 _ _ ?_
    clear hK3
    refine qse 1 [(1, .slice A_x1 x1.length c_x1), (5, vw 0)] hs fun a hs => ?_
    refine Vk.seq fun K64 hK64 => ?_
    refine qsk 1 [1, 5, 6] hs fun a hs => ?_
    refine wp_block ?_
    obtain ⟨r66, hl66, hm⟩ := bind_t hm
    have hx66 : ∀ (p_79 : Int), r66 = p_79 → ∀ (a : Act) (w : World), St 53 a w κ [(5, vw p_79)] (S) → K64 a w := by
     intro p_79 he a w hs
     subst r66
     refine hK64 _ _ ?_
     clear hK64
     refine qse 2 [(4, vw p_79)] hs fun a hs => ?_
     refine wp_ret ?_
     exact qr1 (vw p_79) hs rfl hRR (by cases hm; exact ⟨rfl, hs.own⟩)
    refine Vk.loopBy (fun k (s : Int × Int) a w => visorlaw23_meant.l1 x1 k s.1 s.2 = some r66 ∧ St 53 a w κ [(1, .slice A_x1 x1.length c_x1), (5, vw s.1), (6, vi s.2)] (S)) k (0, 0) ⟨hl66, hs.go [1, 5, 6] [] 1 (by kernel_rfl) (by kernel_rfl) (by kernel_rfl)⟩ (fun s a w h => by obtain ⟨h1, _⟩ := h; simp [visorlaw23_meant.l1] at h1) (fun k KL66 ih s a w h => ?_)
    obtain ⟨q_67, q_68⟩ := s
    obtain ⟨hm, hs⟩ := h
    try dsimp only at hm hs
    rw [visorlaw23_meant.l1] at hm
    refine Vk.seq fun K69 hK69 => ?_
    refine qsk 4 [1, 5, 6, 43] hs fun a hs => ?_
    refine qcs (decide (q_68 < ((x1.length : Nat) : Int))) hs (fun hb => ?_) fun hb => ?_
    ·replace hm := bif_t hm hb
     refine wp_skip ?_
     refine hK69 _ _ ?_
     clear hK69
     refine Vk.seq fun K71 hK71 => ?_
     refine wp_block ?_
     refine Vk.region ?_
     refine qpu 3 hs fun a hs => ?_
     obtain ⟨h_72, hm⟩ := ite_t hm
     obtain ⟨e_75, h_73, hm⟩ := bind_t hm
     obtain ⟨b_76, o_77, hA_78, h_74⟩ := Sl.elem hx_x1 h_73
     refine qva (.pointer (some ⟨b_76, o_77 + q_68.toNat * 1, none⟩)) (op := (.indexAddr 24 (.tmp 47) (.tmp 48))) hs (fun o ho => run_idxSlc (k := .i64) ho (cap := c_x1) (len := x1.length) ((congrArg (fun A => Value.slice A (x1.length) (c_x1)) hA_78) ▸ (by kernel_rfl)) (by kernel_rfl) (by kernel_rfl) (idx_ok h_72 h_73) _) fun a hs => ?_
     refine qva (vw e_75) (op := (.load 23 (.tmp 49))) hs (fun o ho => run_load1 (c := cw e_75) ho (by kernel_rfl) (by kernel_rfl) (fun w ho => h_74 w ho 0 _ rfl) _ hs.own) fun a hs => ?_
     refine qpk 2 [1, 5, 6] hs fun a hs => hK71 _ _ ?_
     clear hK71
     refine Vk.region ?_
     refine qpk 3 [1, 5, 6] hs fun a hs => ?_
     refine ih ((bor .u64 q_67 e_75), (IntKind.i64.wrap (q_68 + 1))) _ _ ⟨hm, hs.go [1, 5, 6] [] 0 (by kernel_rfl) (by kernel_rfl) (by kernel_rfl)⟩
    ·replace hm := bif_f hm hb
     refine wp_exit ?_
     exact hx66 q_67 (Option.some.inj hm).symm _ _ (hs.go [5] [] 0 (by kernel_rfl) (by kernel_rfl) (by kernel_rfl))

end Go.Proofs.YtflgefjocjpjaaaGreat
