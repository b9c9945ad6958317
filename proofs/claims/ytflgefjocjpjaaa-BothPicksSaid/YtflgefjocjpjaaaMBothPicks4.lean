/- Of each Go function that BothPicks comes to: a model in plain Lean, and that the program's call does what the model says; no condition. -/
import Derived.Test.YtflgefjocjpjaaaProg
import Derived.Test.YtflgefjocjpjaaaVdcndbchb
import Derived.Test.YtflgefjocjpjaaaMBothPicks3
namespace Go.Proofs.Ytflgefjocjpjaaa
open Go Go.Vk
set_option linter.unusedVariables false


def visorlaw23_BothPicks.j5 (k : Nat) (p_196 : Bool) : Option (Bool) := some p_196
def visorlaw23_BothPicks.j4 (k : Nat) (x2 : Cells) (p_104 : Cells) (p_127 : Twire_Machine) (p_128 : Tvisorref19_M) (p_130 : Cells) (p_149 : Bool) : Option (Bool) := (bif p_149 then some false else (bif p_128.e != 0 then (visorlaw23_awake.m k).bind fun v_161 => some v_161 else (wire_Machine_Values.m k p_127).bind fun v_166 => (if p_104.length = 3 then (getI .u64 x2 (1)).bind fun v_173 => (getI .u64 x2 (1)).bind fun v_175 => (getI .u64 x2 (0)).bind fun v_177 => (getI .u64 x2 (2)).bind fun v_179 => (getI .u64 x2 (0)).bind fun v_181 => (share_Value.m k v_166 p_104).bind fun v_184 => (bif v_184 == (IntKind.u64.wrap ((IntKind.u64.wrap (v_173 - (band .u64 v_175 v_177))) + (band .u64 v_179 v_181))) then (if p_130.length = 3 then (getI .u64 x2 (1)).bind fun v_187 => (getI .u64 x2 (2)).bind fun v_189 => (share_Value.m k v_166 p_130).bind fun v_192 => (bif ((Int.tmod v_192 2) == 1) == (v_187 == v_189) then (visorlaw23_awake.m k).bind fun v_195 => visorlaw23_BothPicks.j5 k v_195 else visorlaw23_BothPicks.j5 k false) else none) else visorlaw23_BothPicks.j5 k false) else none)))
def visorlaw23_BothPicks.j3 (k : Nat) (x2 : Cells) (v_19 : Twire_Machine × Tvisorref19_M × List Cells × List Int × Bool) (p_104 : Cells) (p_106 : Cells) (p_127 : Twire_Machine) (p_128 : Tvisorref19_M) (p_130 : Cells) (p_132 : Cells) : Option (Bool) := (if p_104.length = 3 then (if p_106.length = 3 then (if Kinds ((List.replicate 3 [LK.int .i64]).flatten) p_104 then (if Kinds ((List.replicate 3 [LK.int .i64]).flatten) p_106 then (bif !(ceq p_104 p_106) then visorlaw23_BothPicks.j4 k x2 p_104 p_127 p_128 p_130 true else (if p_130.length = 3 then (if p_132.length = 3 then (if Kinds ((List.replicate 3 [LK.int .i64]).flatten) p_130 then (if Kinds ((List.replicate 3 [LK.int .i64]).flatten) p_132 then (bif !(ceq p_130 p_132) then visorlaw23_BothPicks.j4 k x2 p_104 p_127 p_128 p_130 true else (visorlaw20_Pair_Like.m k (⟨p_127, p_128, v_19.2.2.1, v_19.2.2.2.1⟩ : Tvisorlaw20_Pair)).bind fun v_148 => visorlaw23_BothPicks.j4 k x2 p_104 p_127 p_128 p_130 (!v_148)) else none) else none) else none) else none)) else none) else none) else none) else none)
def visorlaw23_BothPicks.j2 (k : Nat) (x1 : Int) (x2 : Cells) (v_19 : Twire_Machine × Tvisorref19_M × List Cells × List Int × Bool) (p_70 : Cells) (p_71 : Cells) (p_101 : Twire_Machine) (p_102 : Tvisorref19_M) (p_104 : Cells) (p_106 : Cells) : Option (Bool) := (part? p_70 (3) 3).bind fun v_110 => (part? p_70 (6) 3).bind fun v_112 => (part? p_71 (3) 3).bind fun v_114 => (part? p_71 (6) 3).bind fun v_116 => (both_Alike.m k p_101 x1 v_110 v_112).bind fun v_119 => (visorref23_Alike.m k p_102 x1 v_114 v_116).bind fun v_122 => (if v_119.1.length = 3 then (if v_122.1.length = 3 then visorlaw23_BothPicks.j3 k x2 v_19 p_104 p_106 v_119.2 v_122.2 v_119.1 v_122.1 else none) else none)
def visorlaw23_BothPicks.l1 (x2 : Cells) : Nat → Twire_Machine → Tvisorref19_M → Cells → Cells → Int → Option (Twire_Machine × Tvisorref19_M × Cells × Cells)
 | 0, _, _, _, _, _ => none
 | k + 1, q_39, q_40, q_41, q_42, q_43 => (bif decide (q_43 < 3) then (if 0 ≤ q_43 ∧ q_43 < 3 then (getI .u64 x2 (0 + q_43.toNat * 1)).bind fun v_51 => (share_Public.m k q_39 v_51).bind fun v_54 => (if 0 ≤ q_43 ∧ q_43 < 3 then (if v_54.1.length = 3 then (if 0 + q_43.toNat * 3 + v_54.1.length ≤ q_41.length then (if 0 ≤ q_43 ∧ q_43 < 3 then (getI .u64 x2 (0 + q_43.toNat * 1)).bind fun v_61 => (visorref20_Const.m k q_40 3 v_61).bind fun v_64 => (if 0 ≤ q_43 ∧ q_43 < 3 then (if v_64.1.length = 3 then (if 0 + q_43.toNat * 3 + v_64.1.length ≤ q_42.length then visorlaw23_BothPicks.l1 x2 k v_54.2 v_64.2 (splice q_41 (0 + q_43.toNat * 3) v_54.1) (splice q_42 (0 + q_43.toNat * 3) v_64.1) (IntKind.i64.wrap (q_43 + 1)) else none) else none) else none) else none) else none) else none) else none) else none) else some (q_39, q_40, q_41, q_42))
def visorlaw23_BothPicks.j1 (k : Nat) (x1 : Int) (x2 : Cells) (x3 : List Int) (p_6 : Int) : Option (Bool) := ((visorlaw20_Begins.m k p_6 x3 2000).bind fun v => match v with | (.inl v_12) => some false | (.inr v_19) => (bif !v_19.2.2.2.2 then some false else (visorlaw23_BothPicks.l1 x2 k v_19.1 v_19.2.1 [ci 0, ci 0, ci 0, ci 0, ci 0, ci 0, ci 0, ci 0, ci 0] [ci 0, ci 0, ci 0, ci 0, ci 0, ci 0, ci 0, ci 0, ci 0] 0).bind fun x => match x with | (p_68, p_69, p_70, p_71) => (part? p_70 (0) 3).bind fun v_80 => (part? p_70 (3) 3).bind fun v_82 => (part? p_70 (6) 3).bind fun v_84 => (part? p_71 (0) 3).bind fun v_86 => (part? p_71 (3) 3).bind fun v_88 => (part? p_71 (6) 3).bind fun v_90 => (both_Pick.m k p_68 x1 v_80 v_82 v_84).bind fun v_93 => (visorref23_Pick.m k p_69 x1 v_86 v_88 v_90).bind fun v_96 => (if v_93.1.length = 3 then (if v_96.1.length = 3 then visorlaw23_BothPicks.j2 k x1 x2 v_19 p_70 p_71 v_93.2 v_96.2 v_93.1 v_96.1 else none) else none)))
abbrev visorlaw23_BothPicks.R (κ : Ctx) (S : List HP) (x0 : Bool) (x1 : Int) (x2 : Cells) (x3 : List Int) (A_x3 : Option Addr) (c_x3 : Nat) (r : Bool) : Ending → World → Prop := fun e w' => e = .returned (.bool r) ∧ Own κ w' (S)
def visorlaw23_BothPicks.m (k : Nat) (x0 : Bool) (x1 : Int) (x2 : Cells) (x3 : List Int) : Option Bool := (bif x0 then visorlaw23_BothPicks.j1 k x1 x2 x3 3 else visorlaw23_BothPicks.j1 k x1 x2 x3 2)

set_option maxRecDepth 100000 in
set_option maxHeartbeats 4000000 in
theorem visorlaw23_BothPicks.ok (k : Nat) (x0 : Bool) (x1 : Int) (x2 : Cells) (x3 : List Int) (r : Bool) (hm : visorlaw23_BothPicks.m k x0 x1 x2 x3 = some r) (κ : Ctx) (w : World) (S : List HP) (A_x3 : Option Addr) (c_x3 : Nat) (hx_x3 : Sl κ [] A_x3 c_x3 1 (eI .u64) x3) (ho : Own κ w (S)) :
  Calls Try.prog 12 #[.bool x0, vi x1, .agg (vals x2), .slice A_x3 x3.length c_x3] w (visorlaw23_BothPicks.R κ S x0 x1 x2 x3 A_x3 c_x3 r) := by
 have ht_x3 := hx_x3
 generalize hRR : visorlaw23_BothPicks.R κ S x0 x1 x2 x3 A_x3 c_x3 r = RR
 replace hx_x3 := Sl.top (S := S) hx_x3
 unfold visorlaw23_BothPicks.m at hm
 refine qen [(0, .bool x0), (1, vi x1), (2, .agg (vals x2)), (3, .slice A_x3 x3.length c_x3)] Try.func12 Try.ntmps12 ho fun a hs => ?_
 refine qsr fun K1 hK1 => ?_
 refine qbx 2 36 x2 6 hs fun b_2 w a hs => ?_
 refine qpk 1 [0, 1, 3, 6] hs fun a hs => hK1 _ _ ?_
 clear hK1
 refine qsk 1 [0, 1, 3, 6, 9] hs fun a hs => ?_
 refine Vk.seq fun K4 hK4 => ?_
 have hj4 : ∀ (p_6 : Int), visorlaw23_BothPicks.j1 k x1 x2 x3 p_6 = some r → ∀ (a : Act) (w : World), St 144 a w κ [(1, vi x1), (3, .slice A_x3 x3.length c_x3), (6, pp b_2), (9, vi p_6)] (pt b_2 (blk x2 36) :: S) → K4 a w := by
  intro p_6 hm a w hs
  unfold visorlaw23_BothPicks.j1 at hm
  refine hK4 _ _ ?_
  refine qsr fun K7 hK7 => ?_
  refine qpu 2 hs fun a hs => ?_
  replace hs := hs.addRd ht_x3
  obtain ⟨v_11, h_10, hm⟩ := bind_t hm
  refine Vk.step (Vk.call (some 24) 18 #[vi p_6, .slice A_x3 x3.length c_x3, vi 2000] hs (by kernel_rfl) (by kernel_rfl) (by kernel_rfl) ?_)
  refine (visorlaw20_Begins.ok k p_6 x3 2000 v_11 h_10 κ w (pt b_2 (blk x2 36) :: S) A_x3 c_x3 hs.own).mono ?_
  rintro _ w (⟨v_12, rfl, br9x0x_13, Ar9x0l_14, cr9x0l_15, Ar9x0v_16, cr9x0v_17, rfl, how⟩ | ⟨v_19, rfl, br9x0m_20, br9x0x_21, Ar9x0l_22, cr9x0l_23, Ar9x0v_24, cr9x0v_25, rfl, how⟩)
  ·dsimp only at hm
   refine ⟨_, _, _, rfl, how, fun a hs => ?_⟩
   refine qpu 3 hs fun a hs => ?_
   refine qal 45 [C.ptr none, C.ptr none, C.slc none 0 0, C.slc none 0 0] 10 hs fun b_18 w a hs => ?_
   refine qsa 0 [C.ptr none, cp br9x0x_13, C.slc Ar9x0l_14 v_12.2.1.length cr9x0l_15, C.slc Ar9x0v_16 v_12.2.2.length cr9x0v_17] hs rfl fun a w hs => ?_
   refine qpk 1 [1, 6, 10, 11] hs fun a hs => hK7 _ _ ?_
   refine Vk.seq fun K27 hK27 => ?_
   refine qsk 2 [1, 6, 10, 28] hs fun a hs => ?_
   refine qct hs ?_
   refine qse 1 [(8, .bool false)] hs fun a hs => ?_
   refine wp_ret ?_
   exact qr1 (.bool false) hs rfl hRR (by cases hm; exact ⟨rfl, (hs.own.too [] 5)⟩)
  ·dsimp only at hm
   refine ⟨_, _, _, rfl, how, fun a hs => ?_⟩
   refine qpu 3 hs fun a hs => ?_
   refine qal 45 [C.ptr none, C.ptr none, C.slc none 0 0, C.slc none 0 0] 10 hs fun b_26 w a hs => ?_
   refine qsa 0 [cp br9x0m_20, cp br9x0x_21, C.slc Ar9x0l_22 v_19.2.2.1.length cr9x0l_23, C.slc Ar9x0v_24 v_19.2.2.2.1.length cr9x0v_25] hs rfl fun a w hs => ?_
   refine qpk 1 [1, 6, 10, 11] hs fun a hs => hK7 _ _ ?_
   refine Vk.seq fun K30 hK30 => ?_
   refine qsk 2 [1, 6, 10, 28] hs fun a hs => ?_
   refine qcs (!v_19.2.2.2.2) hs (fun hb => ?_) fun hb => ?_
   ·replace hm := bif_t hm hb
    refine qse 1 [(8, .bool false)] hs fun a hs => ?_
    refine wp_ret ?_
    exact qr1 (.bool false) hs rfl hRR (by cases hm; exact ⟨rfl, (hs.own.too [] 6)⟩)
   ·replace hm := bif_f hm hb
    refine wp_skip ?_
    refine hK30 _ _ ?_
    clear hK30
    refine qsr fun K33 hK33 => ?_
    refine qpu 2 hs fun a hs => ?_
    refine qal 121 [ci 0, ci 0, ci 0, ci 0, ci 0, ci 0, ci 0, ci 0, ci 0] 12 hs fun b_34 w a hs => ?_
    refine qal 121 [ci 0, ci 0, ci 0, ci 0, ci 0, ci 0, ci 0, ci 0, ci 0] 13 hs fun b_35 w a hs => ?_
    refine qsa 1 [ci 0, ci 0, ci 0, ci 0, ci 0, ci 0, ci 0, ci 0, ci 0] hs rfl fun a w hs => ?_
    refine qsa 0 [ci 0, ci 0, ci 0, ci 0, ci 0, ci 0, ci 0, ci 0, ci 0] hs rfl fun a w hs => ?_
    refine qpk 0 [1, 6, 10, 12, 13] hs fun a hs => hK33 _ _ ?_
    clear hK33
    refine Vk.seq fun K36 hK36 => ?_
    refine qsk 1 [1, 6, 10, 12, 13, 14] hs fun a hs => ?_
    refine wp_block ?_
    obtain ⟨r38, hl38, hm⟩ := bind_t hm
    have hx38 : ∀ (p_68 : Twire_Machine) (p_69 : Tvisorref19_M) (p_70 : Cells) (p_71 : Cells), r38 = (p_68, p_69, p_70, p_71) → ∀ (a : Act) (w : World), St 144 a w κ [(1, vi x1), (6, pp b_2), (10, pp b_26), (12, pp b_34), (13, pp b_35)] (pt b_2 (blk x2 36) :: pt b_26 (blk [cp br9x0m_20, cp br9x0x_21, C.slc Ar9x0l_22 v_19.2.2.1.length cr9x0l_23, C.slc Ar9x0v_24 v_19.2.2.2.1.length cr9x0v_25] 45) :: Twire_Machine.own br9x0m_20 p_68 :: Tvisorref19_M.own κ br9x0x_21 p_69 :: rowp Ar9x0l_22 cr9x0l_23 28 3 eC v_19.2.2.1 :: rowp Ar9x0v_24 cr9x0v_25 32 1 (eI .u64) v_19.2.2.2.1 :: pt b_34 (blk p_70 121) :: pt b_35 (blk p_71 121) :: S) → K36 a w := by
     intro p_68 p_69 p_70 p_71 he a w hs
     subst r38
     refine hK36 _ _ ?_
     clear hK36
     refine Vk.seq fun K77 hK77 => ?_
     have hj77 : ∀ (p_101 : Twire_Machine) (p_102 : Tvisorref19_M) (p_104 : Cells) (p_106 : Cells), visorlaw23_BothPicks.j2 k x1 x2 v_19 p_70 p_71 p_101 p_102 p_104 p_106 = some r → ∀ (b_103 : Nat) (b_105 : Nat) (a : Act) (w : World), St 144 a w κ [(1, vi x1), (6, pp b_2), (10, pp b_26), (12, pp b_34), (13, pp b_35), (15, pp b_103), (16, pp b_105)] (pt b_2 (blk x2 36) :: pt b_26 (blk [cp br9x0m_20, cp br9x0x_21, C.slc Ar9x0l_22 v_19.2.2.1.length cr9x0l_23, C.slc Ar9x0v_24 v_19.2.2.2.1.length cr9x0v_25] 45) :: Twire_Machine.own br9x0m_20 p_101 :: Tvisorref19_M.own κ br9x0x_21 p_102 :: rowp Ar9x0l_22 cr9x0l_23 28 3 eC v_19.2.2.1 :: rowp Ar9x0v_24 cr9x0v_25 32 1 (eI .u64) v_19.2.2.2.1 :: pt b_34 (blk p_70 121) :: pt b_35 (blk p_71 121) :: pt b_103 (blk p_104 28) :: pt b_105 (blk p_106 28) :: S) → K77 a w := by
      intro p_101 p_102 p_104 p_106 hm b_103 b_105 a w hs
      unfold visorlaw23_BothPicks.j2 at hm
      refine hK77 _ _ ?_
      refine Vk.seq fun K107 hK107 => ?_
      have hj107 : ∀ (p_127 : Twire_Machine) (p_128 : Tvisorref19_M) (p_130 : Cells) (p_132 : Cells), visorlaw23_BothPicks.j3 k x2 v_19 p_104 p_106 p_127 p_128 p_130 p_132 = some r → ∀ (b_129 : Nat) (b_131 : Nat) (a : Act) (w : World), St 144 a w κ [(6, pp b_2), (10, pp b_26), (15, pp b_103), (16, pp b_105), (17, pp b_129), (18, pp b_131)] (pt b_2 (blk x2 36) :: pt b_26 (blk [cp br9x0m_20, cp br9x0x_21, C.slc Ar9x0l_22 v_19.2.2.1.length cr9x0l_23, C.slc Ar9x0v_24 v_19.2.2.2.1.length cr9x0v_25] 45) :: Twire_Machine.own br9x0m_20 p_127 :: Tvisorref19_M.own κ br9x0x_21 p_128 :: rowp Ar9x0l_22 cr9x0l_23 28 3 eC v_19.2.2.1 :: rowp Ar9x0v_24 cr9x0v_25 32 1 (eI .u64) v_19.2.2.2.1 :: pt b_103 (blk p_104 28) :: pt b_105 (blk p_106 28) :: pt b_129 (blk p_130 28) :: pt b_131 (blk p_132 28) :: S) → K107 a w := by
       intro p_127 p_128 p_130 p_132 hm b_129 b_131 a w hs
       unfold visorlaw23_BothPicks.j3 at hm
       refine hK107 _ _ ?_
       refine Vk.seq fun K133 hK133 => ?_
       refine Vk.seq fun K134 hK134 => ?_
       have hj134 : ∀ (p_149 : Bool), visorlaw23_BothPicks.j4 k x2 p_104 p_127 p_128 p_130 p_149 = some r → ∀ (a : Act) (w : World), St 144 a w κ [(6, pp b_2), (10, pp b_26), (15, pp b_103), (17, pp b_129), (99, .bool p_149)] (pt b_2 (blk x2 36) :: pt b_26 (blk [cp br9x0m_20, cp br9x0x_21, C.slc Ar9x0l_22 v_19.2.2.1.length cr9x0l_23, C.slc Ar9x0v_24 v_19.2.2.2.1.length cr9x0v_25] 45) :: Twire_Machine.own br9x0m_20 p_127 :: Tvisorref19_M.own κ br9x0x_21 p_128 :: rowp Ar9x0l_22 cr9x0l_23 28 3 eC v_19.2.2.1 :: rowp Ar9x0v_24 cr9x0v_25 32 1 (eI .u64) v_19.2.2.2.1 :: pt b_103 (blk p_104 28) :: pt b_129 (blk p_130 28) :: S) → K134 a w := by
        intro p_149 hm a w hs
        unfold visorlaw23_BothPicks.j4 at hm
        refine hK134 _ _ ?_
        refine qcs (p_149) hs (fun hb => ?_) fun hb => ?_
        ·replace hm := bif_t hm hb
         refine qse 1 [(8, .bool false)] hs fun a hs => ?_
         refine wp_ret ?_
         exact qr1 (.bool false) hs rfl hRR (by cases hm; exact ⟨rfl, (hs.own.too [] 8)⟩)
        ·replace hm := bif_f hm hb
         refine wp_skip ?_
         refine hK133 _ _ ?_
         clear hK133
         refine Vk.seq fun K151 hK151 => ?_
         refine qsr fun K152 hK152 => ?_
         refine qpu 1 hs fun a hs => ?_
         refine qld 1 (cp br9x0x_21) hs rfl fun a hs => ?_
         refine qpu 2 hs fun a hs => ?_
         obtain ⟨g_153, hs⟩ := hs.unbag 3 rfl
         refine qld 0 (ci p_128.e) hs rfl fun a hs => ?_
         refine qpk 1 [6, 10, 15, 17, 105] hs fun a hs => hK152 _ _ ?_
         clear hK152
         refine qcs (p_128.e != 0) hs (fun hb => ?_) fun hb => ?_
         ·replace hm := bif_t hm hb
          refine qsr fun K158 hK158 => ?_
          obtain ⟨v_161, h_160, hm⟩ := bind_t hm
          refine qcl (visorlaw23_awake.ok _ _ h_160 _ _ (pt br9x0x_21 (blk (Tvisorref19_M.obj p_128 g_153.1 g_153.2.1 g_153.2.2.1 g_153.2.2.2.1 g_153.2.2.2.2.1 g_153.2.2.2.2.2.1 g_153.2.2.2.2.2.2.1 g_153.2.2.2.2.2.2.2) 64) :: rowp g_153.1 g_153.2.1 93 6 Tapi_Op.cells p_128.ops :: rowp g_153.2.2.1 g_153.2.2.2.1 175 3 Tapi_Span.cells p_128.blocks :: rowp g_153.2.2.2.2.1 g_153.2.2.2.2.2.1 32 1 (eI .u64) p_128.val :: rdp κ g_153.2.2.2.2.2.2.1 g_153.2.2.2.2.2.2.2 1 (eI .u64) p_128.tape.l :: pt b_2 (blk x2 36) :: pt b_26 (blk [cp br9x0m_20, cp br9x0x_21, C.slc Ar9x0l_22 v_19.2.2.1.length cr9x0l_23, C.slc Ar9x0v_24 v_19.2.2.2.1.length cr9x0v_25] 45) :: Twire_Machine.own br9x0m_20 p_127 :: rowp Ar9x0l_22 cr9x0l_23 28 3 eC v_19.2.2.1 :: rowp Ar9x0v_24 cr9x0v_25 32 1 (eI .u64) v_19.2.2.2.1 :: pt b_103 (blk p_104 28) :: pt b_129 (blk p_130 28) :: S) hs.own) hs fun w a hs => ?_
          refine qpe 1 [(8, .bool v_161)] hs fun a hs => hK158 _ _ ?_
          clear hK158
          refine wp_ret ?_
          exact qr1 (.bool v_161) hs rfl hRR (by cases hm; exact ⟨rfl, (hs.own.too [] 12)⟩)
         ·replace hm := bif_f hm hb
          refine wp_skip ?_
          refine hK151 _ _ ?_
          clear hK151
          refine qsr fun K162 hK162 => ?_
          refine qpu 1 hs fun a hs => ?_
          refine qld 6 (cp br9x0m_20) hs rfl fun a hs => ?_
          obtain ⟨g_163, hs⟩ := hs.unex 7 rfl
          obtain ⟨v_166, h_165, hm⟩ := bind_t hm
          refine Vk.step (Vk.call (some 109) 22 #[pp br9x0m_20] hs (by kernel_rfl) (by kernel_rfl) (by kernel_rfl) ?_)
          refine (wire_Machine_Values.ok k p_127 v_166 h_165 κ w (pt br9x0x_21 (blk (Tvisorref19_M.obj p_128 g_153.1 g_153.2.1 g_153.2.2.1 g_153.2.2.2.1 g_153.2.2.2.2.1 g_153.2.2.2.2.2.1 g_153.2.2.2.2.2.2.1 g_153.2.2.2.2.2.2.2) 64) :: rowp g_153.1 g_153.2.1 93 6 Tapi_Op.cells p_128.ops :: rowp g_153.2.2.1 g_153.2.2.2.1 175 3 Tapi_Span.cells p_128.blocks :: rowp g_153.2.2.2.2.1 g_153.2.2.2.2.2.1 32 1 (eI .u64) p_128.val :: rdp κ g_153.2.2.2.2.2.2.1 g_153.2.2.2.2.2.2.2 1 (eI .u64) p_128.tape.l :: pt b_2 (blk x2 36) :: pt b_26 (blk [cp br9x0m_20, cp br9x0x_21, C.slc Ar9x0l_22 v_19.2.2.1.length cr9x0l_23, C.slc Ar9x0v_24 v_19.2.2.2.1.length cr9x0v_25] 45) :: rowp Ar9x0l_22 cr9x0l_23 28 3 eC v_19.2.2.1 :: rowp Ar9x0v_24 cr9x0v_25 32 1 (eI .u64) v_19.2.2.2.1 :: pt b_103 (blk p_104 28) :: pt b_129 (blk p_130 28) :: S) br9x0m_20 g_163 hs.own.f7).mono ?_
          rintro _ w ⟨Ar164x0_167, cr164x0_168, rfl, how⟩
          refine ⟨_, _, _, rfl, how, fun a hs => ?_⟩
          refine qpk 1 [6, 15, 17, 19] hs fun a hs => hK162 _ _ ?_
          clear hK162
          refine Vk.seq fun K169 hK169 => ?_
          have hj169 : ∀ (p_196 : Bool), visorlaw23_BothPicks.j5 k p_196 = some r → ∀ (a : Act) (w : World), St 144 a w κ [(8, .bool p_196)] (S) → K169 a w := by
           intro p_196 hm a w hs
           unfold visorlaw23_BothPicks.j5 at hm
           refine hK169 _ _ ?_
           refine wp_ret ?_
           exact qr1 (.bool p_196) hs rfl hRR (by cases hm; exact ⟨rfl, hs.own⟩)
          obtain ⟨C_170, hC_170⟩ := qC hs.own
          refine qdr 35 κ C_170 hs fun w hs hqC_170 => ?_
          have hcl := qO hC_170 hs.own
          refine qdp (fuel := 29) [0, 3, 5, 7, 11, 13] hs hcl hqC_170 fun a hs => ?_
          obtain ⟨h_171, hm⟩ := ite_t hm
          refine qdw 1 11 hs hcl hqC_170 hC_170 rfl h_171 fun a hs => ?_
          obtain ⟨v_173, h_172, hm⟩ := bind_t hm
          refine qdi 4 7 hs hcl hqC_170 hC_170 rfl h_172 fun a hs => ?_
          obtain ⟨v_175, h_174, hm⟩ := bind_t hm
          refine qdi 6 7 hs hcl hqC_170 hC_170 rfl h_174 fun a hs => ?_
          obtain ⟨v_177, h_176, hm⟩ := bind_t hm
          refine qdi 8 7 hs hcl hqC_170 hC_170 rfl h_176 fun a hs => ?_
          refine qdp (fuel := 23) [9, 10] hs hcl hqC_170 fun a hs => ?_
          obtain ⟨v_179, h_178, hm⟩ := bind_t hm
          refine qdi 12 7 hs hcl hqC_170 hC_170 rfl h_178 fun a hs => ?_
          obtain ⟨v_181, h_180, hm⟩ := bind_t hm
          refine qdi 14 7 hs hcl hqC_170 hC_170 rfl h_180 fun a hs => ?_
          refine qdp (fuel := 19) [15, 16] hs hcl hqC_170 fun a hs => ?_
          obtain ⟨v_184, h_183, hm⟩ := bind_t hm
          refine qdc 2 (share_Value.ok _ _ _ _ h_183 _ _ (rowp Ar164x0_167 cr164x0_168 32 1 (eI .u64) v_166 :: bagL (Twire_Machine.parts br9x0m_20 p_127 g_163) :: pt br9x0x_21 (blk (Tvisorref19_M.obj p_128 g_153.1 g_153.2.1 g_153.2.2.1 g_153.2.2.2.1 g_153.2.2.2.2.1 g_153.2.2.2.2.2.1 g_153.2.2.2.2.2.2.1 g_153.2.2.2.2.2.2.2) 64) :: rowp g_153.1 g_153.2.1 93 6 Tapi_Op.cells p_128.ops :: rowp g_153.2.2.1 g_153.2.2.2.1 175 3 Tapi_Span.cells p_128.blocks :: rowp g_153.2.2.2.2.1 g_153.2.2.2.2.2.1 32 1 (eI .u64) p_128.val :: rdp κ g_153.2.2.2.2.2.2.1 g_153.2.2.2.2.2.2.2 1 (eI .u64) p_128.tape.l :: pt b_2 (blk x2 36) :: pt b_26 (blk [cp br9x0m_20, cp br9x0x_21, C.slc Ar9x0l_22 v_19.2.2.1.length cr9x0l_23, C.slc Ar9x0v_24 v_19.2.2.2.1.length cr9x0v_25] 45) :: rowp Ar9x0l_22 cr9x0l_23 28 3 eC v_19.2.2.1 :: rowp Ar9x0v_24 cr9x0v_25 32 1 (eI .u64) v_19.2.2.2.1 :: pt b_103 (blk p_104 28) :: pt b_129 (blk p_130 28) :: S) Ar164x0_167 cr164x0_168 (Sl.lift (fun w ho => (Own.to (S' := rowp Ar164x0_167 cr164x0_168 32 1 (eI .u64) v_166 :: S) ho [0] 13 (by kernel_rfl) (by kernel_rfl))) (Own.rowSl 0 (Own.to (S' := rowp Ar164x0_167 cr164x0_168 32 1 (eI .u64) v_166 :: S) hs.own [0] 13 (by kernel_rfl) (by kernel_rfl)) rfl)) hs.own) hs fun w a hs => ?_
          replace hcl := qO hC_170 hs.own
          refine ⟨fun _ => hcl, ?_⟩
          refine qdp (fuel := 16) [17, 18] hs hcl hqC_170 fun a hs => ?_
          rcases Bool.eq_false_or_eq_true (v_184 == (IntKind.u64.wrap ((IntKind.u64.wrap (v_173 - (band .u64 v_175 v_177))) + (band .u64 v_179 v_181)))) with hb | hb
          ·replace hm := bif_t hm hb
           replace hs := hs.known (t := 128) hb (by kernel_rfl)
           refine qdp (fuel := 13) [19, 24, 26] hs hcl hqC_170 fun a hs => ?_
           obtain ⟨h_185, hm⟩ := ite_t hm
           refine qdw 20 12 hs hcl hqC_170 hC_170 rfl h_185 fun a hs => ?_
           obtain ⟨v_187, h_186, hm⟩ := bind_t hm
           refine qdi 25 7 hs hcl hqC_170 hC_170 rfl h_186 fun a hs => ?_
           obtain ⟨v_189, h_188, hm⟩ := bind_t hm
           refine qdi 27 7 hs hcl hqC_170 hC_170 rfl h_188 fun a hs => ?_
           refine qdp (fuel := 9) [28] hs hcl hqC_170 fun a hs => ?_
           obtain ⟨v_192, h_191, hm⟩ := bind_t hm
           refine qdc 21 (share_Value.ok _ _ _ _ h_191 _ _ (rowp Ar164x0_167 cr164x0_168 32 1 (eI .u64) v_166 :: bagL (Twire_Machine.parts br9x0m_20 p_127 g_163) :: pt br9x0x_21 (blk (Tvisorref19_M.obj p_128 g_153.1 g_153.2.1 g_153.2.2.1 g_153.2.2.2.1 g_153.2.2.2.2.1 g_153.2.2.2.2.2.1 g_153.2.2.2.2.2.2.1 g_153.2.2.2.2.2.2.2) 64) :: rowp g_153.1 g_153.2.1 93 6 Tapi_Op.cells p_128.ops :: rowp g_153.2.2.1 g_153.2.2.2.1 175 3 Tapi_Span.cells p_128.blocks :: rowp g_153.2.2.2.2.1 g_153.2.2.2.2.2.1 32 1 (eI .u64) p_128.val :: rdp κ g_153.2.2.2.2.2.2.1 g_153.2.2.2.2.2.2.2 1 (eI .u64) p_128.tape.l :: pt b_2 (blk x2 36) :: pt b_26 (blk [cp br9x0m_20, cp br9x0x_21, C.slc Ar9x0l_22 v_19.2.2.1.length cr9x0l_23, C.slc Ar9x0v_24 v_19.2.2.2.1.length cr9x0v_25] 45) :: rowp Ar9x0l_22 cr9x0l_23 28 3 eC v_19.2.2.1 :: rowp Ar9x0v_24 cr9x0v_25 32 1 (eI .u64) v_19.2.2.2.1 :: pt b_103 (blk p_104 28) :: pt b_129 (blk p_130 28) :: S) Ar164x0_167 cr164x0_168 (Sl.lift (fun w ho => (Own.to (S' := rowp Ar164x0_167 cr164x0_168 32 1 (eI .u64) v_166 :: S) ho [0] 13 (by kernel_rfl) (by kernel_rfl))) (Own.rowSl 0 (Own.to (S' := rowp Ar164x0_167 cr164x0_168 32 1 (eI .u64) v_166 :: S) hs.own [0] 13 (by kernel_rfl) (by kernel_rfl)) rfl)) hs.own) hs fun w a hs => ?_
           replace hcl := qO hC_170 hs.own
           refine ⟨fun _ => hcl, ?_⟩
           refine qdp (fuel := 3) [22, 23, 29, 30, 31] hs hcl hqC_170 fun a hs => ?_
           rcases Bool.eq_false_or_eq_true (((Int.tmod v_192 2) == 1) == (v_187 == v_189)) with hb | hb
           ·replace hm := bif_t hm hb
            replace hs := hs.known (t := 141) hb (by kernel_rfl)
            obtain ⟨v_195, h_194, hm⟩ := bind_t hm
            refine qdc 32 (visorlaw23_awake.ok _ _ h_194 _ _ (rowp Ar164x0_167 cr164x0_168 32 1 (eI .u64) v_166 :: bagL (Twire_Machine.parts br9x0m_20 p_127 g_163) :: pt br9x0x_21 (blk (Tvisorref19_M.obj p_128 g_153.1 g_153.2.1 g_153.2.2.1 g_153.2.2.2.1 g_153.2.2.2.2.1 g_153.2.2.2.2.2.1 g_153.2.2.2.2.2.2.1 g_153.2.2.2.2.2.2.2) 64) :: rowp g_153.1 g_153.2.1 93 6 Tapi_Op.cells p_128.ops :: rowp g_153.2.2.1 g_153.2.2.2.1 175 3 Tapi_Span.cells p_128.blocks :: rowp g_153.2.2.2.2.1 g_153.2.2.2.2.2.1 32 1 (eI .u64) p_128.val :: rdp κ g_153.2.2.2.2.2.2.1 g_153.2.2.2.2.2.2.2 1 (eI .u64) p_128.tape.l :: pt b_2 (blk x2 36) :: pt b_26 (blk [cp br9x0m_20, cp br9x0x_21, C.slc Ar9x0l_22 v_19.2.2.1.length cr9x0l_23, C.slc Ar9x0v_24 v_19.2.2.2.1.length cr9x0v_25] 45) :: rowp Ar9x0l_22 cr9x0l_23 28 3 eC v_19.2.2.1 :: rowp Ar9x0v_24 cr9x0v_25 32 1 (eI .u64) v_19.2.2.2.1 :: pt b_103 (blk p_104 28) :: pt b_129 (blk p_130 28) :: S) hs.own) hs fun w a hs => ?_
            replace hcl := qO hC_170 hs.own
            refine ⟨fun _ => hcl, ?_⟩
            refine qdp (fuel := 0) [33, 34] hs hcl hqC_170 fun a hs => ?_
            replace hs := hs.pick [8] (L' := [(8, .bool v_195)]) (by kernel_rfl)
            refine Vk.dDone (by kernel_rfl) ?_
            replace hs := hs.bagG (l := Tvisorref19_M.parts κ br9x0x_21 p_128 g_153) (S' := rowp Ar164x0_167 cr164x0_168 32 1 (eI .u64) v_166 :: bagL (Twire_Machine.parts br9x0m_20 p_127 g_163) :: pt b_2 (blk x2 36) :: pt b_26 (blk [cp br9x0m_20, cp br9x0x_21, C.slc Ar9x0l_22 v_19.2.2.1.length cr9x0l_23, C.slc Ar9x0v_24 v_19.2.2.2.1.length cr9x0v_25] 45) :: rowp Ar9x0l_22 cr9x0l_23 28 3 eC v_19.2.2.1 :: rowp Ar9x0v_24 cr9x0v_25 32 1 (eI .u64) v_19.2.2.2.1 :: pt b_103 (blk p_104 28) :: pt b_129 (blk p_130 28) :: S) hs.own.f6.f6.f6.f6.f6
            replace hs := hs.toEx (Tvisorref19_M.parts κ br9x0x_21 p_128) g_153 0 rfl
            replace hs := hs.toEx (Twire_Machine.parts br9x0m_20 p_127) g_163 2 rfl
            exact hj169 v_195 hm _ _ (hs.go [8] [] 9 (by kernel_rfl) (by kernel_rfl) (by kernel_rfl))
           ·replace hm := bif_f hm hb
            replace hs := hs.known (t := 141) hb (by kernel_rfl)
            refine qdp (fuel := 0) [32, 33, 34] hs hcl hqC_170 fun a hs => ?_
            replace hs := hs.pick [8] (L' := [(8, .bool false)]) (by kernel_rfl)
            refine Vk.dDone (by kernel_rfl) ?_
            replace hs := hs.bagG (l := Tvisorref19_M.parts κ br9x0x_21 p_128 g_153) (S' := rowp Ar164x0_167 cr164x0_168 32 1 (eI .u64) v_166 :: bagL (Twire_Machine.parts br9x0m_20 p_127 g_163) :: pt b_2 (blk x2 36) :: pt b_26 (blk [cp br9x0m_20, cp br9x0x_21, C.slc Ar9x0l_22 v_19.2.2.1.length cr9x0l_23, C.slc Ar9x0v_24 v_19.2.2.2.1.length cr9x0v_25] 45) :: rowp Ar9x0l_22 cr9x0l_23 28 3 eC v_19.2.2.1 :: rowp Ar9x0v_24 cr9x0v_25 32 1 (eI .u64) v_19.2.2.2.1 :: pt b_103 (blk p_104 28) :: pt b_129 (blk p_130 28) :: S) hs.own.f6.f6.f6.f6.f6
            replace hs := hs.toEx (Tvisorref19_M.parts κ br9x0x_21 p_128) g_153 0 rfl
            replace hs := hs.toEx (Twire_Machine.parts br9x0m_20 p_127) g_163 2 rfl
            exact hj169 false hm _ _ (hs.go [8] [] 9 (by kernel_rfl) (by kernel_rfl) (by kernel_rfl))
          ·replace hm := bif_f hm hb
           replace hs := hs.known (t := 128) hb (by kernel_rfl)
           refine qdp (fuel := 0) [19, 20, 21, 22, 23, 24, 25, 26, 27, 28, 29, 30, 31, 32, 33, 34] hs hcl hqC_170 fun a hs => ?_
           replace hs := hs.pick [8] (L' := [(8, .bool false)]) (by kernel_rfl)
           refine Vk.dDone (by kernel_rfl) ?_
           replace hs := hs.bagG (l := Tvisorref19_M.parts κ br9x0x_21 p_128 g_153) (S' := rowp Ar164x0_167 cr164x0_168 32 1 (eI .u64) v_166 :: bagL (Twire_Machine.parts br9x0m_20 p_127 g_163) :: pt b_2 (blk x2 36) :: pt b_26 (blk [cp br9x0m_20, cp br9x0x_21, C.slc Ar9x0l_22 v_19.2.2.1.length cr9x0l_23, C.slc Ar9x0v_24 v_19.2.2.2.1.length cr9x0v_25] 45) :: rowp Ar9x0l_22 cr9x0l_23 28 3 eC v_19.2.2.1 :: rowp Ar9x0v_24 cr9x0v_25 32 1 (eI .u64) v_19.2.2.2.1 :: pt b_103 (blk p_104 28) :: pt b_129 (blk p_130 28) :: S) hs.own.f6.f6.f6.f6.f6
           replace hs := hs.toEx (Tvisorref19_M.parts κ br9x0x_21 p_128) g_153 0 rfl
           replace hs := hs.toEx (Twire_Machine.parts br9x0m_20 p_127) g_163 2 rfl
           exact hj169 false hm _ _ (hs.go [8] [] 9 (by kernel_rfl) (by kernel_rfl) (by kernel_rfl))
       refine Vk.region ?_
       obtain ⟨h_135, hm⟩ := ite_t hm
       refine qlw 6 hs rfl h_135 fun a hs => ?_
       obtain ⟨h_136, hm⟩ := ite_t hm
       refine qlw 7 hs rfl h_136 fun a hs => ?_
       obtain ⟨h_137, hm⟩ := ite_t hm
       obtain ⟨h_138, hm⟩ := ite_t hm
       refine qva (.bool (!(ceq p_104 p_106))) (op := (.binOp .neq 28 (.tmp 87) (.tmp 88) 28)) hs (fun o ho => run_neqV (ks := ((List.replicate 3 [LK.int .i64]).flatten)) (cs := p_104) (us := p_106) ho (by kernel_rfl) (by kernel_rfl) (by kernel_rfl) h_137 h_138 _) fun a hs => ?_
       refine qpu 1 hs fun a hs => ?_
       rcases Bool.eq_false_or_eq_true (!(ceq p_104 p_106)) with hb | hb
       ·replace hm := bif_t hm hb
        replace hs := hs.known (t := 90) hb (by kernel_rfl)
        refine qpe 9 [(6, pp b_2), (10, pp b_26), (15, pp b_103), (17, pp b_129), (99, .bool true)] hs fun a hs => ?_
        exact hj134 true hm _ _ (hs.go [6, 10, 15, 17, 99] [0, 1, 2, 3, 4, 5, 6, 8] 10 (by kernel_rfl) (by kernel_rfl) (by kernel_rfl))
       ·replace hm := bif_f hm hb
        replace hs := hs.known (t := 90) hb (by kernel_rfl)
        obtain ⟨h_140, hm⟩ := ite_t hm
        refine qlw 8 hs rfl h_140 fun a hs => ?_
        obtain ⟨h_141, hm⟩ := ite_t hm
        refine qlw 9 hs rfl h_141 fun a hs => ?_
        obtain ⟨h_142, hm⟩ := ite_t hm
        obtain ⟨h_143, hm⟩ := ite_t hm
        refine qva (.bool (!(ceq p_130 p_132))) (op := (.binOp .neq 28 (.tmp 91) (.tmp 92) 28)) hs (fun o ho => run_neqV (ks := ((List.replicate 3 [LK.int .i64]).flatten)) (cs := p_130) (us := p_132) ho (by kernel_rfl) (by kernel_rfl) (by kernel_rfl) h_142 h_143 _) fun a hs => ?_
        refine qpu 2 hs fun a hs => ?_
        rcases Bool.eq_false_or_eq_true (!(ceq p_130 p_132)) with hb | hb
        ·replace hm := bif_t hm hb
         replace hs := hs.known (t := 95) hb (by kernel_rfl)
         refine qpe 4 [(6, pp b_2), (10, pp b_26), (15, pp b_103), (17, pp b_129), (99, .bool true)] hs fun a hs => ?_
         exact hj134 true hm _ _ (hs.go [6, 10, 15, 17, 99] [0, 1, 2, 3, 4, 5, 6, 8] 10 (by kernel_rfl) (by kernel_rfl) (by kernel_rfl))
        ·replace hm := bif_f hm hb
         replace hs := hs.known (t := 95) hb (by kernel_rfl)
         refine qln 1 ([cp br9x0m_20, cp br9x0x_21, C.slc Ar9x0l_22 v_19.2.2.1.length cr9x0l_23, C.slc Ar9x0v_24 v_19.2.2.2.1.length cr9x0v_25]) hs rfl fun a hs => ?_
         obtain ⟨g_144, hs⟩ := hs.unex 2 rfl
         obtain ⟨g_145, hs⟩ := hs.unex 3 rfl
         obtain ⟨v_148, h_147, hm⟩ := bind_t hm
         refine qcl (visorlaw20_Pair_Like.ok _ _ _ h_147 _ _ _ br9x0m_20 g_144 br9x0x_21 g_145 Ar9x0l_22 cr9x0l_23 (Sl.lift (fun w ho => (Own.to (S' := rowp Ar9x0l_22 cr9x0l_23 28 3 eC v_19.2.2.1 :: S) ho [2] 8 (by kernel_rfl) (by kernel_rfl))) (Own.rowSl 0 (Own.to (S' := rowp Ar9x0l_22 cr9x0l_23 28 3 eC v_19.2.2.1 :: S) hs.own [4] 10 (by kernel_rfl) (by kernel_rfl)) rfl)) Ar9x0v_24 cr9x0v_25 (Sl.lift (fun w ho => (Own.to (S' := rowp Ar9x0v_24 cr9x0v_25 32 1 (eI .u64) v_19.2.2.2.1 :: S) ho [3] 8 (by kernel_rfl) (by kernel_rfl))) (Own.rowSl 0 (Own.to (S' := rowp Ar9x0v_24 cr9x0v_25 32 1 (eI .u64) v_19.2.2.2.1 :: S) hs.own [5] 10 (by kernel_rfl) (by kernel_rfl)) rfl)) hs.own.f3.f3) hs fun w a hs => ?_
         refine qpe 2 [(6, pp b_2), (10, pp b_26), (15, pp b_103), (17, pp b_129), (99, .bool (!v_148))] hs fun a hs => ?_
         replace hs := hs.toEx (Twire_Machine.parts br9x0m_20 p_127) g_144 0 rfl
         replace hs := hs.toEx (Tvisorref19_M.parts κ br9x0x_21 p_128) g_145 1 rfl
         exact hj134 (!v_148) hm _ _ (hs.go [6, 10, 15, 17, 99] [2, 3, 0, 1, 4, 5, 6, 8] 10 (by kernel_rfl) (by kernel_rfl) (by kernel_rfl))
      obtain ⟨C_108, hC_108⟩ := qC hs.own.f3.drop.f2.drop
      refine qdr 19 κ C_108 hs fun w hs hqC_108 => ?_
      have hcl := qO hC_108 hs.own.f3.drop.f2.drop
      refine qdp (fuel := 12) [0, 2, 3, 5, 8, 10, 11, 13] hs hcl hqC_108 fun a hs => ?_
      refine qdl 1 1 (cp br9x0m_20) hs hcl hqC_108 hC_108 rfl fun a hs => ?_
      obtain ⟨v_110, h_109, hm⟩ := bind_t hm
      refine qdt 4 (.agg (vals v_110)) (op := (.load 28 (.tmp 74))) hs hcl hqC_108 (fun w hw o ho => by rw [hC_108] at hw; exact run_loadN (cs := v_110) ho (by kernel_rfl) (by kernel_rfl) (part?_some h_109).2.2 (CellsAt.own (off := 3) 4 rfl h_109) _ hw) fun a hs => ?_
      obtain ⟨v_112, h_111, hm⟩ := bind_t hm
      refine qdt 6 (.agg (vals v_112)) (op := (.load 28 (.tmp 76))) hs hcl hqC_108 (fun w hw o ho => by rw [hC_108] at hw; exact run_loadN (cs := v_112) ho (by kernel_rfl) (by kernel_rfl) (part?_some h_111).2.2 (CellsAt.own (off := 6) 4 rfl h_111) _ hw) fun a hs => ?_
      refine qdl 9 1 (cp br9x0x_21) hs hcl hqC_108 hC_108 rfl fun a hs => ?_
      obtain ⟨v_114, h_113, hm⟩ := bind_t hm
      refine qdt 12 (.agg (vals v_114)) (op := (.load 28 (.tmp 82))) hs hcl hqC_108 (fun w hw o ho => by rw [hC_108] at hw; exact run_loadN (cs := v_114) ho (by kernel_rfl) (by kernel_rfl) (part?_some h_113).2.2 (CellsAt.own (off := 3) 5 rfl h_113) _ hw) fun a hs => ?_
      obtain ⟨v_116, h_115, hm⟩ := bind_t hm
      refine qdt 14 (.agg (vals v_116)) (op := (.load 28 (.tmp 84))) hs hcl hqC_108 (fun w hw o ho => by rw [hC_108] at hw; exact run_loadN (cs := v_116) ho (by kernel_rfl) (by kernel_rfl) (part?_some h_115).2.2 (CellsAt.own (off := 6) 5 rfl h_115) _ hw) fun a hs => ?_
      refine Vk.dMany3 (i0 := 7) (i1 := 16) (i2 := 17) (by kernel_rfl) ?_ ?_ ?_
      ·obtain ⟨v_119, h_118, hm⟩ := bind_t hm
       refine qco (both_Alike.ok _ _ _ _ _ _ h_118 _ _ _ br9x0m_20 hs.own.f2) hs fun w a hs => ?_
       replace hcl := qO hC_108 hs.own.f3.drop.drop
       refine ⟨fun _ => hcl, ?_⟩
       refine Vk.dMany3 (i0 := 15) (i1 := 16) (i2 := 17) (by kernel_rfl) ?_ ?_ ?_
       ·obtain ⟨v_122, h_121, hm⟩ := bind_t hm
        refine qco (visorref23_Alike.ok _ _ _ _ _ _ h_121 _ _ _ br9x0x_21 hs.own.f3) hs fun w a hs => ?_
        replace hcl := qO hC_108 hs.own.f1.drop.drop
        refine ⟨fun _ => hcl, ?_⟩
        refine Vk.dMany2 (i0 := 16) (i1 := 17) (by kernel_rfl) ?_ ?_
        ·refine Vk.alloc 17 28 [ci 0, ci 0, ci 0] hs (by kernel_rfl) (by kernel_rfl) (by kernel_rfl) fun b_123 w a hs => ?_
         replace hcl := qO hC_108 hs.own.f2.drop.f1.drop.drop
         refine ⟨fun _ => hcl, ?_⟩
         refine Vk.dOnly (i := 17) (by kernel_rfl) (Vk.alloc 18 28 [ci 0, ci 0, ci 0] hs (by kernel_rfl) (by kernel_rfl) (by kernel_rfl) fun b_124 w a hs => ?_)
         replace hcl : Own κ w C_108 := by rw [hC_108]; exact (hs.own.too [4, 5, 6, 7, 8, 9, 10, 11] 12)
         refine ⟨fun _ => hcl, ?_⟩
         obtain ⟨h_125, hm⟩ := ite_t hm
         refine qsA 18 1 v_119.1 hs rfl h_125 rfl fun a w hs => ?_
         replace hcl : Own κ w C_108 := by rw [hC_108]; exact (hs.own.too [4, 5, 6, 7, 8, 9, 10, 11] 12)
         refine ⟨fun _ => hcl, ?_⟩
         obtain ⟨h_126, hm⟩ := ite_t hm
         refine qsA 19 0 v_122.1 hs rfl h_126 rfl fun a w hs => ?_
         refine ⟨fun h => absurd h (by decide), ?_⟩
         replace hs := hs.pick [6, 10, 15, 16, 17, 18] (L' := [(6, pp b_2), (10, pp b_26), (15, pp b_103), (16, pp b_105), (17, pp b_123), (18, pp b_124)]) (by kernel_rfl)
         refine Vk.dDone (by kernel_rfl) ?_
         exact hj107 v_119.2 v_122.2 v_119.1 v_122.1 hm b_123 b_124 _ _ (hs.go [6, 10, 15, 16, 17, 18] [4, 5, 3, 2, 6, 7, 10, 11, 1, 0] 12 (by kernel_rfl) (by kernel_rfl) (by kernel_rfl))
        ·refine Vk.alloc 18 28 [ci 0, ci 0, ci 0] hs (by kernel_rfl) (by kernel_rfl) (by kernel_rfl) fun b_123 w a hs => ?_
         replace hcl := qO hC_108 hs.own.f2.drop.f1.drop.drop
         refine ⟨fun _ => hcl, ?_⟩
         refine Vk.dOnly (i := 16) (by kernel_rfl) (Vk.alloc 17 28 [ci 0, ci 0, ci 0] hs (by kernel_rfl) (by kernel_rfl) (by kernel_rfl) fun b_124 w a hs => ?_)
         replace hcl : Own κ w C_108 := by rw [hC_108]; exact (hs.own.too [4, 5, 6, 7, 8, 9, 10, 11] 12)
         refine ⟨fun _ => hcl, ?_⟩
         obtain ⟨h_125, hm⟩ := ite_t hm
         refine qsA 18 0 v_119.1 hs rfl h_125 rfl fun a w hs => ?_
         replace hcl : Own κ w C_108 := by rw [hC_108]; exact (hs.own.too [4, 5, 6, 7, 8, 9, 10, 11] 12)
         refine ⟨fun _ => hcl, ?_⟩
         obtain ⟨h_126, hm⟩ := ite_t hm
         refine qsA 19 1 v_122.1 hs rfl h_126 rfl fun a w hs => ?_
         refine ⟨fun h => absurd h (by decide), ?_⟩
         replace hs := hs.pick [6, 10, 15, 16, 17, 18] (L' := [(6, pp b_2), (10, pp b_26), (15, pp b_103), (16, pp b_105), (17, pp b_124), (18, pp b_123)]) (by kernel_rfl)
         refine Vk.dDone (by kernel_rfl) ?_
         exact hj107 v_119.2 v_122.2 v_119.1 v_122.1 hm b_124 b_123 _ _ (hs.go [6, 10, 15, 16, 17, 18] [4, 5, 3, 2, 6, 7, 10, 11, 0, 1] 12 (by kernel_rfl) (by kernel_rfl) (by kernel_rfl))
       ·refine Vk.alloc 17 28 [ci 0, ci 0, ci 0] hs (by kernel_rfl) (by kernel_rfl) (by kernel_rfl) fun b_120 w a hs => ?_
        replace hcl := qO hC_108 hs.own.f4.drop.f1.drop.drop
        refine ⟨fun _ => hcl, ?_⟩
        refine Vk.dMany2 (i0 := 15) (i1 := 17) (by kernel_rfl) ?_ ?_
        ·obtain ⟨v_123, h_122, hm⟩ := bind_t hm
         refine qco (visorref23_Alike.ok _ _ _ _ _ _ h_122 _ _ _ br9x0x_21 hs.own.f4) hs fun w a hs => ?_
         replace hcl := qO hC_108 hs.own.f2.drop.f1.drop.drop
         refine ⟨fun _ => hcl, ?_⟩
         refine Vk.dOnly (i := 17) (by kernel_rfl) (Vk.alloc 18 28 [ci 0, ci 0, ci 0] hs (by kernel_rfl) (by kernel_rfl) (by kernel_rfl) fun b_124 w a hs => ?_)
         replace hcl : Own κ w C_108 := by rw [hC_108]; exact (hs.own.too [4, 5, 6, 7, 8, 9, 10, 11] 12)
         refine ⟨fun _ => hcl, ?_⟩
         obtain ⟨h_125, hm⟩ := ite_t hm
         refine qsA 18 2 v_119.1 hs rfl h_125 rfl fun a w hs => ?_
         replace hcl : Own κ w C_108 := by rw [hC_108]; exact (hs.own.too [4, 5, 6, 7, 8, 9, 10, 11] 12)
         refine ⟨fun _ => hcl, ?_⟩
         obtain ⟨h_126, hm⟩ := ite_t hm
         refine qsA 19 0 v_123.1 hs rfl h_126 rfl fun a w hs => ?_
         refine ⟨fun h => absurd h (by decide), ?_⟩
         replace hs := hs.pick [6, 10, 15, 16, 17, 18] (L' := [(6, pp b_2), (10, pp b_26), (15, pp b_103), (16, pp b_105), (17, pp b_120), (18, pp b_124)]) (by kernel_rfl)
         refine Vk.dDone (by kernel_rfl) ?_
         exact hj107 v_119.2 v_123.2 v_119.1 v_123.1 hm b_120 b_124 _ _ (hs.go [6, 10, 15, 16, 17, 18] [4, 5, 3, 1, 6, 7, 10, 11, 2, 0] 12 (by kernel_rfl) (by kernel_rfl) (by kernel_rfl))
        ·refine Vk.alloc 18 28 [ci 0, ci 0, ci 0] hs (by kernel_rfl) (by kernel_rfl) (by kernel_rfl) fun b_121 w a hs => ?_
         replace hcl : Own κ w C_108 := by rw [hC_108]; exact (hs.own.too [3, 4, 6, 7, 8, 9, 10, 11] 12)
         refine ⟨fun _ => hcl, ?_⟩
         obtain ⟨v_124, h_123, hm⟩ := bind_t hm
         refine qdc 15 (visorref23_Alike.ok _ _ _ _ _ _ h_123 _ _ _ br9x0x_21 hs.own.f5) hs fun w a hs => ?_
         replace hcl : Own κ w C_108 := by rw [hC_108]; exact (hs.own.too [4, 5, 6, 7, 8, 9, 10, 11] 12)
         refine ⟨fun _ => hcl, ?_⟩
         obtain ⟨h_125, hm⟩ := ite_t hm
         refine qsA 18 2 v_119.1 hs rfl h_125 rfl fun a w hs => ?_
         replace hcl : Own κ w C_108 := by rw [hC_108]; exact (hs.own.too [4, 5, 6, 7, 8, 9, 10, 11] 12)
         refine ⟨fun _ => hcl, ?_⟩
         obtain ⟨h_126, hm⟩ := ite_t hm
         refine qsA 19 1 v_124.1 hs rfl h_126 rfl fun a w hs => ?_
         refine ⟨fun h => absurd h (by decide), ?_⟩
         replace hs := hs.pick [6, 10, 15, 16, 17, 18] (L' := [(6, pp b_2), (10, pp b_26), (15, pp b_103), (16, pp b_105), (17, pp b_120), (18, pp b_121)]) (by kernel_rfl)
         refine Vk.dDone (by kernel_rfl) ?_
         exact hj107 v_119.2 v_124.2 v_119.1 v_124.1 hm b_120 b_121 _ _ (hs.go [6, 10, 15, 16, 17, 18] [4, 5, 3, 0, 6, 7, 10, 11, 2, 1] 12 (by kernel_rfl) (by kernel_rfl) (by kernel_rfl))
       ·refine Vk.alloc 18 28 [ci 0, ci 0, ci 0] hs (by kernel_rfl) (by kernel_rfl) (by kernel_rfl) fun b_120 w a hs => ?_
        replace hcl := qO hC_108 hs.own.f4.drop.f1.drop.drop
        refine ⟨fun _ => hcl, ?_⟩
        refine Vk.dMany2 (i0 := 15) (i1 := 16) (by kernel_rfl) ?_ ?_
        ·obtain ⟨v_123, h_122, hm⟩ := bind_t hm
         refine qco (visorref23_Alike.ok _ _ _ _ _ _ h_122 _ _ _ br9x0x_21 hs.own.f4) hs fun w a hs => ?_
         replace hcl := qO hC_108 hs.own.f2.drop.f1.drop.drop
         refine ⟨fun _ => hcl, ?_⟩
         refine Vk.dOnly (i := 16) (by kernel_rfl) (Vk.alloc 17 28 [ci 0, ci 0, ci 0] hs (by kernel_rfl) (by kernel_rfl) (by kernel_rfl) fun b_124 w a hs => ?_)
         replace hcl : Own κ w C_108 := by rw [hC_108]; exact (hs.own.too [4, 5, 6, 7, 8, 9, 10, 11] 12)
         refine ⟨fun _ => hcl, ?_⟩
         obtain ⟨h_125, hm⟩ := ite_t hm
         refine qsA 18 0 v_119.1 hs rfl h_125 rfl fun a w hs => ?_
         replace hcl : Own κ w C_108 := by rw [hC_108]; exact (hs.own.too [4, 5, 6, 7, 8, 9, 10, 11] 12)
         refine ⟨fun _ => hcl, ?_⟩
         obtain ⟨h_126, hm⟩ := ite_t hm
         refine qsA 19 2 v_123.1 hs rfl h_126 rfl fun a w hs => ?_
         refine ⟨fun h => absurd h (by decide), ?_⟩
         replace hs := hs.pick [6, 10, 15, 16, 17, 18] (L' := [(6, pp b_2), (10, pp b_26), (15, pp b_103), (16, pp b_105), (17, pp b_124), (18, pp b_120)]) (by kernel_rfl)
         refine Vk.dDone (by kernel_rfl) ?_
         exact hj107 v_119.2 v_123.2 v_119.1 v_123.1 hm b_124 b_120 _ _ (hs.go [6, 10, 15, 16, 17, 18] [4, 5, 3, 1, 6, 7, 10, 11, 0, 2] 12 (by kernel_rfl) (by kernel_rfl) (by kernel_rfl))
        ·refine Vk.alloc 17 28 [ci 0, ci 0, ci 0] hs (by kernel_rfl) (by kernel_rfl) (by kernel_rfl) fun b_121 w a hs => ?_
         replace hcl : Own κ w C_108 := by rw [hC_108]; exact (hs.own.too [3, 4, 6, 7, 8, 9, 10, 11] 12)
         refine ⟨fun _ => hcl, ?_⟩
         obtain ⟨v_124, h_123, hm⟩ := bind_t hm
         refine qdc 15 (visorref23_Alike.ok _ _ _ _ _ _ h_123 _ _ _ br9x0x_21 hs.own.f5) hs fun w a hs => ?_
         replace hcl : Own κ w C_108 := by rw [hC_108]; exact (hs.own.too [4, 5, 6, 7, 8, 9, 10, 11] 12)
         refine ⟨fun _ => hcl, ?_⟩
         obtain ⟨h_125, hm⟩ := ite_t hm
         refine qsA 18 1 v_119.1 hs rfl h_125 rfl fun a w hs => ?_
         replace hcl : Own κ w C_108 := by rw [hC_108]; exact (hs.own.too [4, 5, 6, 7, 8, 9, 10, 11] 12)
         refine ⟨fun _ => hcl, ?_⟩
         obtain ⟨h_126, hm⟩ := ite_t hm
         refine qsA 19 2 v_124.1 hs rfl h_126 rfl fun a w hs => ?_
         refine ⟨fun h => absurd h (by decide), ?_⟩
         replace hs := hs.pick [6, 10, 15, 16, 17, 18] (L' := [(6, pp b_2), (10, pp b_26), (15, pp b_103), (16, pp b_105), (17, pp b_121), (18, pp b_120)]) (by kernel_rfl)
         refine Vk.dDone (by kernel_rfl) ?_
         exact hj107 v_119.2 v_124.2 v_119.1 v_124.1 hm b_121 b_120 _ _ (hs.go [6, 10, 15, 16, 17, 18] [4, 5, 3, 0, 6, 7, 10, 11, 1, 2] 12 (by kernel_rfl) (by kernel_rfl) (by kernel_rfl))
      ·refine Vk.alloc 17 28 [ci 0, ci 0, ci 0] hs (by kernel_rfl) (by kernel_rfl) (by kernel_rfl) fun b_117 w a hs => ?_
       replace hcl := qO hC_108 hs.own.f4.drop.f3.drop.drop
       refine ⟨fun _ => hcl, ?_⟩
       refine Vk.dMany2 (i0 := 7) (i1 := 17) (by kernel_rfl) ?_ ?_
       ·obtain ⟨v_120, h_119, hm⟩ := bind_t hm
        refine qco (both_Alike.ok _ _ _ _ _ _ h_119 _ _ _ br9x0m_20 hs.own.f3) hs fun w a hs => ?_
        replace hcl := qO hC_108 hs.own.f4.drop.f1.drop.drop
        refine ⟨fun _ => hcl, ?_⟩
        refine Vk.dMany2 (i0 := 15) (i1 := 17) (by kernel_rfl) ?_ ?_
        ·obtain ⟨v_123, h_122, hm⟩ := bind_t hm
         refine qco (visorref23_Alike.ok _ _ _ _ _ _ h_122 _ _ _ br9x0x_21 hs.own.f4) hs fun w a hs => ?_
         replace hcl := qO hC_108 hs.own.f2.drop.f1.drop.drop
         refine ⟨fun _ => hcl, ?_⟩
         refine Vk.dOnly (i := 17) (by kernel_rfl) (Vk.alloc 18 28 [ci 0, ci 0, ci 0] hs (by kernel_rfl) (by kernel_rfl) (by kernel_rfl) fun b_124 w a hs => ?_)
         replace hcl : Own κ w C_108 := by rw [hC_108]; exact (hs.own.too [4, 5, 6, 7, 8, 9, 10, 11] 12)
         refine ⟨fun _ => hcl, ?_⟩
         obtain ⟨h_125, hm⟩ := ite_t hm
         refine qsA 18 3 v_120.1 hs rfl h_125 rfl fun a w hs => ?_
         replace hcl : Own κ w C_108 := by rw [hC_108]; exact (hs.own.too [4, 5, 6, 7, 8, 9, 10, 11] 12)
         refine ⟨fun _ => hcl, ?_⟩
         obtain ⟨h_126, hm⟩ := ite_t hm
         refine qsA 19 0 v_123.1 hs rfl h_126 rfl fun a w hs => ?_
         refine ⟨fun h => absurd h (by decide), ?_⟩
         replace hs := hs.pick [6, 10, 15, 16, 17, 18] (L' := [(6, pp b_2), (10, pp b_26), (15, pp b_103), (16, pp b_105), (17, pp b_117), (18, pp b_124)]) (by kernel_rfl)
         refine Vk.dDone (by kernel_rfl) ?_
         exact hj107 v_120.2 v_123.2 v_120.1 v_123.1 hm b_117 b_124 _ _ (hs.go [6, 10, 15, 16, 17, 18] [4, 5, 2, 1, 6, 7, 10, 11, 3, 0] 12 (by kernel_rfl) (by kernel_rfl) (by kernel_rfl))
        ·refine Vk.alloc 18 28 [ci 0, ci 0, ci 0] hs (by kernel_rfl) (by kernel_rfl) (by kernel_rfl) fun b_121 w a hs => ?_
         replace hcl : Own κ w C_108 := by rw [hC_108]; exact (hs.own.too [3, 4, 6, 7, 8, 9, 10, 11] 12)
         refine ⟨fun _ => hcl, ?_⟩
         obtain ⟨v_124, h_123, hm⟩ := bind_t hm
         refine qdc 15 (visorref23_Alike.ok _ _ _ _ _ _ h_123 _ _ _ br9x0x_21 hs.own.f5) hs fun w a hs => ?_
         replace hcl : Own κ w C_108 := by rw [hC_108]; exact (hs.own.too [4, 5, 6, 7, 8, 9, 10, 11] 12)
         refine ⟨fun _ => hcl, ?_⟩
         obtain ⟨h_125, hm⟩ := ite_t hm
         refine qsA 18 3 v_120.1 hs rfl h_125 rfl fun a w hs => ?_
         replace hcl : Own κ w C_108 := by rw [hC_108]; exact (hs.own.too [4, 5, 6, 7, 8, 9, 10, 11] 12)
         refine ⟨fun _ => hcl, ?_⟩
         obtain ⟨h_126, hm⟩ := ite_t hm
         refine qsA 19 1 v_124.1 hs rfl h_126 rfl fun a w hs => ?_
         refine ⟨fun h => absurd h (by decide), ?_⟩
         replace hs := hs.pick [6, 10, 15, 16, 17, 18] (L' := [(6, pp b_2), (10, pp b_26), (15, pp b_103), (16, pp b_105), (17, pp b_117), (18, pp b_121)]) (by kernel_rfl)
         refine Vk.dDone (by kernel_rfl) ?_
         exact hj107 v_120.2 v_124.2 v_120.1 v_124.1 hm b_117 b_121 _ _ (hs.go [6, 10, 15, 16, 17, 18] [4, 5, 2, 0, 6, 7, 10, 11, 3, 1] 12 (by kernel_rfl) (by kernel_rfl) (by kernel_rfl))
       ·refine Vk.alloc 18 28 [ci 0, ci 0, ci 0] hs (by kernel_rfl) (by kernel_rfl) (by kernel_rfl) fun b_118 w a hs => ?_
        replace hcl : Own κ w C_108 := by rw [hC_108]; exact (hs.own.too [2, 3, 6, 7, 8, 9, 10, 11] 12)
        refine ⟨fun _ => hcl, ?_⟩
        obtain ⟨v_121, h_120, hm⟩ := bind_t hm
        refine qdc 7 (both_Alike.ok _ _ _ _ _ _ h_120 _ _ _ br9x0m_20 hs.own.f4) hs fun w a hs => ?_
        replace hcl : Own κ w C_108 := by rw [hC_108]; exact (hs.own.too [3, 4, 6, 7, 8, 9, 10, 11] 12)
        refine ⟨fun _ => hcl, ?_⟩
        obtain ⟨v_124, h_123, hm⟩ := bind_t hm
        refine qdc 15 (visorref23_Alike.ok _ _ _ _ _ _ h_123 _ _ _ br9x0x_21 hs.own.f5) hs fun w a hs => ?_
        replace hcl : Own κ w C_108 := by rw [hC_108]; exact (hs.own.too [4, 5, 6, 7, 8, 9, 10, 11] 12)
        refine ⟨fun _ => hcl, ?_⟩
        obtain ⟨h_125, hm⟩ := ite_t hm
        refine qsA 18 3 v_121.1 hs rfl h_125 rfl fun a w hs => ?_
        replace hcl : Own κ w C_108 := by rw [hC_108]; exact (hs.own.too [4, 5, 6, 7, 8, 9, 10, 11] 12)
        refine ⟨fun _ => hcl, ?_⟩
        obtain ⟨h_126, hm⟩ := ite_t hm
        refine qsA 19 2 v_124.1 hs rfl h_126 rfl fun a w hs => ?_
        refine ⟨fun h => absurd h (by decide), ?_⟩
        replace hs := hs.pick [6, 10, 15, 16, 17, 18] (L' := [(6, pp b_2), (10, pp b_26), (15, pp b_103), (16, pp b_105), (17, pp b_117), (18, pp b_118)]) (by kernel_rfl)
        refine Vk.dDone (by kernel_rfl) ?_
        exact hj107 v_121.2 v_124.2 v_121.1 v_124.1 hm b_117 b_118 _ _ (hs.go [6, 10, 15, 16, 17, 18] [4, 5, 1, 0, 6, 7, 10, 11, 3, 2] 12 (by kernel_rfl) (by kernel_rfl) (by kernel_rfl))
      ·refine Vk.alloc 18 28 [ci 0, ci 0, ci 0] hs (by kernel_rfl) (by kernel_rfl) (by kernel_rfl) fun b_117 w a hs => ?_
       replace hcl := qO hC_108 hs.own.f4.drop.f3.drop.drop
       refine ⟨fun _ => hcl, ?_⟩
       refine Vk.dMany2 (i0 := 7) (i1 := 16) (by kernel_rfl) ?_ ?_
       ·obtain ⟨v_120, h_119, hm⟩ := bind_t hm
        refine qco (both_Alike.ok _ _ _ _ _ _ h_119 _ _ _ br9x0m_20 hs.own.f3) hs fun w a hs => ?_
        replace hcl := qO hC_108 hs.own.f4.drop.f1.drop.drop
        refine ⟨fun _ => hcl, ?_⟩
        refine Vk.dMany2 (i0 := 15) (i1 := 16) (by kernel_rfl) ?_ ?_
        ·obtain ⟨v_123, h_122, hm⟩ := bind_t hm
         refine qco (visorref23_Alike.ok _ _ _ _ _ _ h_122 _ _ _ br9x0x_21 hs.own.f4) hs fun w a hs => ?_
         replace hcl := qO hC_108 hs.own.f2.drop.f1.drop.drop
         refine ⟨fun _ => hcl, ?_⟩
         refine Vk.dOnly (i := 16) (by kernel_rfl) (Vk.alloc 17 28 [ci 0, ci 0, ci 0] hs (by kernel_rfl) (by kernel_rfl) (by kernel_rfl) fun b_124 w a hs => ?_)
         replace hcl : Own κ w C_108 := by rw [hC_108]; exact (hs.own.too [4, 5, 6, 7, 8, 9, 10, 11] 12)
         refine ⟨fun _ => hcl, ?_⟩
         obtain ⟨h_125, hm⟩ := ite_t hm
         refine qsA 18 0 v_120.1 hs rfl h_125 rfl fun a w hs => ?_
         replace hcl : Own κ w C_108 := by rw [hC_108]; exact (hs.own.too [4, 5, 6, 7, 8, 9, 10, 11] 12)
         refine ⟨fun _ => hcl, ?_⟩
         obtain ⟨h_126, hm⟩ := ite_t hm
         refine qsA 19 3 v_123.1 hs rfl h_126 rfl fun a w hs => ?_
         refine ⟨fun h => absurd h (by decide), ?_⟩
         replace hs := hs.pick [6, 10, 15, 16, 17, 18] (L' := [(6, pp b_2), (10, pp b_26), (15, pp b_103), (16, pp b_105), (17, pp b_124), (18, pp b_117)]) (by kernel_rfl)
         refine Vk.dDone (by kernel_rfl) ?_
         exact hj107 v_120.2 v_123.2 v_120.1 v_123.1 hm b_124 b_117 _ _ (hs.go [6, 10, 15, 16, 17, 18] [4, 5, 2, 1, 6, 7, 10, 11, 0, 3] 12 (by kernel_rfl) (by kernel_rfl) (by kernel_rfl))
        ·refine Vk.alloc 17 28 [ci 0, ci 0, ci 0] hs (by kernel_rfl) (by kernel_rfl) (by kernel_rfl) fun b_121 w a hs => ?_
         replace hcl : Own κ w C_108 := by rw [hC_108]; exact (hs.own.too [3, 4, 6, 7, 8, 9, 10, 11] 12)
         refine ⟨fun _ => hcl, ?_⟩
         obtain ⟨v_124, h_123, hm⟩ := bind_t hm
         refine qdc 15 (visorref23_Alike.ok _ _ _ _ _ _ h_123 _ _ _ br9x0x_21 hs.own.f5) hs fun w a hs => ?_
         replace hcl : Own κ w C_108 := by rw [hC_108]; exact (hs.own.too [4, 5, 6, 7, 8, 9, 10, 11] 12)
         refine ⟨fun _ => hcl, ?_⟩
         obtain ⟨h_125, hm⟩ := ite_t hm
         refine qsA 18 1 v_120.1 hs rfl h_125 rfl fun a w hs => ?_
         replace hcl : Own κ w C_108 := by rw [hC_108]; exact (hs.own.too [4, 5, 6, 7, 8, 9, 10, 11] 12)
         refine ⟨fun _ => hcl, ?_⟩
         obtain ⟨h_126, hm⟩ := ite_t hm
         refine qsA 19 3 v_124.1 hs rfl h_126 rfl fun a w hs => ?_
         refine ⟨fun h => absurd h (by decide), ?_⟩
         replace hs := hs.pick [6, 10, 15, 16, 17, 18] (L' := [(6, pp b_2), (10, pp b_26), (15, pp b_103), (16, pp b_105), (17, pp b_121), (18, pp b_117)]) (by kernel_rfl)
         refine Vk.dDone (by kernel_rfl) ?_
         exact hj107 v_120.2 v_124.2 v_120.1 v_124.1 hm b_121 b_117 _ _ (hs.go [6, 10, 15, 16, 17, 18] [4, 5, 2, 0, 6, 7, 10, 11, 1, 3] 12 (by kernel_rfl) (by kernel_rfl) (by kernel_rfl))
       ·refine Vk.alloc 17 28 [ci 0, ci 0, ci 0] hs (by kernel_rfl) (by kernel_rfl) (by kernel_rfl) fun b_118 w a hs => ?_
        replace hcl : Own κ w C_108 := by rw [hC_108]; exact (hs.own.too [2, 3, 6, 7, 8, 9, 10, 11] 12)
        refine ⟨fun _ => hcl, ?_⟩
        obtain ⟨v_121, h_120, hm⟩ := bind_t hm
        refine qdc 7 (both_Alike.ok _ _ _ _ _ _ h_120 _ _ _ br9x0m_20 hs.own.f4) hs fun w a hs => ?_
        replace hcl : Own κ w C_108 := by rw [hC_108]; exact (hs.own.too [3, 4, 6, 7, 8, 9, 10, 11] 12)
        refine ⟨fun _ => hcl, ?_⟩
        obtain ⟨v_124, h_123, hm⟩ := bind_t hm
        refine qdc 15 (visorref23_Alike.ok _ _ _ _ _ _ h_123 _ _ _ br9x0x_21 hs.own.f5) hs fun w a hs => ?_
        replace hcl : Own κ w C_108 := by rw [hC_108]; exact (hs.own.too [4, 5, 6, 7, 8, 9, 10, 11] 12)
        refine ⟨fun _ => hcl, ?_⟩
        obtain ⟨h_125, hm⟩ := ite_t hm
        refine qsA 18 2 v_121.1 hs rfl h_125 rfl fun a w hs => ?_
        replace hcl : Own κ w C_108 := by rw [hC_108]; exact (hs.own.too [4, 5, 6, 7, 8, 9, 10, 11] 12)
        refine ⟨fun _ => hcl, ?_⟩
        obtain ⟨h_126, hm⟩ := ite_t hm
        refine qsA 19 3 v_124.1 hs rfl h_126 rfl fun a w hs => ?_
        refine ⟨fun h => absurd h (by decide), ?_⟩
        replace hs := hs.pick [6, 10, 15, 16, 17, 18] (L' := [(6, pp b_2), (10, pp b_26), (15, pp b_103), (16, pp b_105), (17, pp b_118), (18, pp b_117)]) (by kernel_rfl)
        refine Vk.dDone (by kernel_rfl) ?_
        exact hj107 v_121.2 v_124.2 v_121.1 v_124.1 hm b_118 b_117 _ _ (hs.go [6, 10, 15, 16, 17, 18] [4, 5, 1, 0, 6, 7, 10, 11, 2, 3] 12 (by kernel_rfl) (by kernel_rfl) (by kernel_rfl))
     obtain ⟨C_78, hC_78⟩ := qC hs.own.f3.drop.f2.drop
     refine qdr 23 κ C_78 hs fun w hs hqC_78 => ?_
     have hcl := qO hC_78 hs.own.f3.drop.f2.drop
     refine qdp (fuel := 14) [0, 2, 3, 5, 7, 10, 12, 13, 15, 17] hs hcl hqC_78 fun a hs => ?_
     refine qdl 1 1 (cp br9x0m_20) hs hcl hqC_78 hC_78 rfl fun a hs => ?_
     obtain ⟨v_80, h_79, hm⟩ := bind_t hm
     refine qdt 4 (.agg (vals v_80)) (op := (.load 28 (.tmp 54))) hs hcl hqC_78 (fun w hw o ho => by rw [hC_78] at hw; exact run_loadN (cs := v_80) ho (by kernel_rfl) (by kernel_rfl) (part?_some h_79).2.2 (CellsAt.own (off := 0) 4 rfl h_79) _ hw) fun a hs => ?_
     obtain ⟨v_82, h_81, hm⟩ := bind_t hm
     refine qdt 6 (.agg (vals v_82)) (op := (.load 28 (.tmp 56))) hs hcl hqC_78 (fun w hw o ho => by rw [hC_78] at hw; exact run_loadN (cs := v_82) ho (by kernel_rfl) (by kernel_rfl) (part?_some h_81).2.2 (CellsAt.own (off := 3) 4 rfl h_81) _ hw) fun a hs => ?_
     obtain ⟨v_84, h_83, hm⟩ := bind_t hm
     refine qdt 8 (.agg (vals v_84)) (op := (.load 28 (.tmp 58))) hs hcl hqC_78 (fun w hw o ho => by rw [hC_78] at hw; exact run_loadN (cs := v_84) ho (by kernel_rfl) (by kernel_rfl) (part?_some h_83).2.2 (CellsAt.own (off := 6) 4 rfl h_83) _ hw) fun a hs => ?_
     refine qdl 11 1 (cp br9x0x_21) hs hcl hqC_78 hC_78 rfl fun a hs => ?_
     obtain ⟨v_86, h_85, hm⟩ := bind_t hm
     refine qdt 14 (.agg (vals v_86)) (op := (.load 28 (.tmp 64))) hs hcl hqC_78 (fun w hw o ho => by rw [hC_78] at hw; exact run_loadN (cs := v_86) ho (by kernel_rfl) (by kernel_rfl) (part?_some h_85).2.2 (CellsAt.own (off := 0) 5 rfl h_85) _ hw) fun a hs => ?_
     obtain ⟨v_88, h_87, hm⟩ := bind_t hm
     refine qdt 16 (.agg (vals v_88)) (op := (.load 28 (.tmp 66))) hs hcl hqC_78 (fun w hw o ho => by rw [hC_78] at hw; exact run_loadN (cs := v_88) ho (by kernel_rfl) (by kernel_rfl) (part?_some h_87).2.2 (CellsAt.own (off := 3) 5 rfl h_87) _ hw) fun a hs => ?_
     obtain ⟨v_90, h_89, hm⟩ := bind_t hm
     refine qdt 18 (.agg (vals v_90)) (op := (.load 28 (.tmp 68))) hs hcl hqC_78 (fun w hw o ho => by rw [hC_78] at hw; exact run_loadN (cs := v_90) ho (by kernel_rfl) (by kernel_rfl) (part?_some h_89).2.2 (CellsAt.own (off := 6) 5 rfl h_89) _ hw) fun a hs => ?_
     refine Vk.dMany3 (i0 := 9) (i1 := 20) (i2 := 21) (by kernel_rfl) ?_ ?_ ?_
     ·obtain ⟨v_93, h_92, hm⟩ := bind_t hm
      refine qco (both_Pick.ok _ _ _ _ _ _ _ h_92 _ _ _ br9x0m_20 hs.own.f2) hs fun w a hs => ?_
      replace hcl := qO hC_78 hs.own.f3.drop.drop
      refine ⟨fun _ => hcl, ?_⟩
      refine Vk.dMany3 (i0 := 19) (i1 := 20) (i2 := 21) (by kernel_rfl) ?_ ?_ ?_
      ·obtain ⟨v_96, h_95, hm⟩ := bind_t hm
       refine qco (visorref23_Pick.ok _ _ _ _ _ _ _ h_95 _ _ _ br9x0x_21 hs.own.f3) hs fun w a hs => ?_
       replace hcl := qO hC_78 hs.own.f1.drop.drop
       refine ⟨fun _ => hcl, ?_⟩
       refine Vk.dMany2 (i0 := 20) (i1 := 21) (by kernel_rfl) ?_ ?_
       ·refine Vk.alloc 15 28 [ci 0, ci 0, ci 0] hs (by kernel_rfl) (by kernel_rfl) (by kernel_rfl) fun b_97 w a hs => ?_
        replace hcl := qO hC_78 hs.own.f2.drop.f1.drop.drop
        refine ⟨fun _ => hcl, ?_⟩
        refine Vk.dOnly (i := 21) (by kernel_rfl) (Vk.alloc 16 28 [ci 0, ci 0, ci 0] hs (by kernel_rfl) (by kernel_rfl) (by kernel_rfl) fun b_98 w a hs => ?_)
        replace hcl : Own κ w C_78 := by rw [hC_78]; exact (hs.own.too [4, 5, 6, 7, 8, 9] 10)
        refine ⟨fun _ => hcl, ?_⟩
        obtain ⟨h_99, hm⟩ := ite_t hm
        refine qsA 22 1 v_93.1 hs rfl h_99 rfl fun a w hs => ?_
        replace hcl : Own κ w C_78 := by rw [hC_78]; exact (hs.own.too [4, 5, 6, 7, 8, 9] 10)
        refine ⟨fun _ => hcl, ?_⟩
        obtain ⟨h_100, hm⟩ := ite_t hm
        refine qsA 23 0 v_96.1 hs rfl h_100 rfl fun a w hs => ?_
        refine ⟨fun h => absurd h (by decide), ?_⟩
        replace hs := hs.pick [1, 6, 10, 12, 13, 15, 16] (L' := [(1, vi x1), (6, pp b_2), (10, pp b_26), (12, pp b_34), (13, pp b_35), (15, pp b_97), (16, pp b_98)]) (by kernel_rfl)
        refine Vk.dDone (by kernel_rfl) ?_
        exact hj77 v_93.2 v_96.2 v_93.1 v_96.1 hm b_97 b_98 _ _ (hs.go [1, 6, 10, 12, 13, 15, 16] [4, 5, 3, 2, 6, 7, 8, 9, 1, 0] 10 (by kernel_rfl) (by kernel_rfl) (by kernel_rfl))
       ·refine Vk.alloc 16 28 [ci 0, ci 0, ci 0] hs (by kernel_rfl) (by kernel_rfl) (by kernel_rfl) fun b_97 w a hs => ?_
        replace hcl := qO hC_78 hs.own.f2.drop.f1.drop.drop
        refine ⟨fun _ => hcl, ?_⟩
        refine Vk.dOnly (i := 20) (by kernel_rfl) (Vk.alloc 15 28 [ci 0, ci 0, ci 0] hs (by kernel_rfl) (by kernel_rfl) (by kernel_rfl) fun b_98 w a hs => ?_)
        replace hcl : Own κ w C_78 := by rw [hC_78]; exact (hs.own.too [4, 5, 6, 7, 8, 9] 10)
        refine ⟨fun _ => hcl, ?_⟩
        obtain ⟨h_99, hm⟩ := ite_t hm
        refine qsA 22 0 v_93.1 hs rfl h_99 rfl fun a w hs => ?_
        replace hcl : Own κ w C_78 := by rw [hC_78]; exact (hs.own.too [4, 5, 6, 7, 8, 9] 10)
        refine ⟨fun _ => hcl, ?_⟩
        obtain ⟨h_100, hm⟩ := ite_t hm
        refine qsA 23 1 v_96.1 hs rfl h_100 rfl fun a w hs => ?_
        refine ⟨fun h => absurd h (by decide), ?_⟩
        replace hs := hs.pick [1, 6, 10, 12, 13, 15, 16] (L' := [(1, vi x1), (6, pp b_2), (10, pp b_26), (12, pp b_34), (13, pp b_35), (15, pp b_98), (16, pp b_97)]) (by kernel_rfl)
        refine Vk.dDone (by kernel_rfl) ?_
        exact hj77 v_93.2 v_96.2 v_93.1 v_96.1 hm b_98 b_97 _ _ (hs.go [1, 6, 10, 12, 13, 15, 16] [4, 5, 3, 2, 6, 7, 8, 9, 0, 1] 10 (by kernel_rfl) (by kernel_rfl) (by kernel_rfl))
      ·refine Vk.alloc 15 28 [ci 0, ci 0, ci 0] hs (by kernel_rfl) (by kernel_rfl) (by kernel_rfl) fun b_94 w a hs => ?_
       replace hcl := qO hC_78 hs.own.f4.drop.f1.drop.drop
       refine ⟨fun _ => hcl, ?_⟩
       refine Vk.dMany2 (i0 := 19) (i1 := 21) (by kernel_rfl) ?_ ?_
       ·obtain ⟨v_97, h_96, hm⟩ := bind_t hm
        refine qco (visorref23_Pick.ok _ _ _ _ _ _ _ h_96 _ _ _ br9x0x_21 hs.own.f4) hs fun w a hs => ?_
        replace hcl := qO hC_78 hs.own.f2.drop.f1.drop.drop
        refine ⟨fun _ => hcl, ?_⟩
        refine Vk.dOnly (i := 21) (by kernel_rfl) (Vk.alloc 16 28 [ci 0, ci 0, ci 0] hs (by kernel_rfl) (by kernel_rfl) (by kernel_rfl) fun b_98 w a hs => ?_)
        replace hcl : Own κ w C_78 := by rw [hC_78]; exact (hs.own.too [4, 5, 6, 7, 8, 9] 10)
        refine ⟨fun _ => hcl, ?_⟩
        obtain ⟨h_99, hm⟩ := ite_t hm
        refine qsA 22 2 v_93.1 hs rfl h_99 rfl fun a w hs => ?_
        replace hcl : Own κ w C_78 := by rw [hC_78]; exact (hs.own.too [4, 5, 6, 7, 8, 9] 10)
        refine ⟨fun _ => hcl, ?_⟩
        obtain ⟨h_100, hm⟩ := ite_t hm
        refine qsA 23 0 v_97.1 hs rfl h_100 rfl fun a w hs => ?_
        refine ⟨fun h => absurd h (by decide), ?_⟩
        replace hs := hs.pick [1, 6, 10, 12, 13, 15, 16] (L' := [(1, vi x1), (6, pp b_2), (10, pp b_26), (12, pp b_34), (13, pp b_35), (15, pp b_94), (16, pp b_98)]) (by kernel_rfl)
        refine Vk.dDone (by kernel_rfl) ?_
        exact hj77 v_93.2 v_97.2 v_93.1 v_97.1 hm b_94 b_98 _ _ (hs.go [1, 6, 10, 12, 13, 15, 16] [4, 5, 3, 1, 6, 7, 8, 9, 2, 0] 10 (by kernel_rfl) (by kernel_rfl) (by kernel_rfl))
       ·refine Vk.alloc 16 28 [ci 0, ci 0, ci 0] hs (by kernel_rfl) (by kernel_rfl) (by kernel_rfl) fun b_95 w a hs => ?_
        replace hcl : Own κ w C_78 := by rw [hC_78]; exact (hs.own.too [3, 4, 6, 7, 8, 9] 10)
        refine ⟨fun _ => hcl, ?_⟩
        obtain ⟨v_98, h_97, hm⟩ := bind_t hm
        refine qdc 19 (visorref23_Pick.ok _ _ _ _ _ _ _ h_97 _ _ _ br9x0x_21 hs.own.f5) hs fun w a hs => ?_
        replace hcl : Own κ w C_78 := by rw [hC_78]; exact (hs.own.too [4, 5, 6, 7, 8, 9] 10)
        refine ⟨fun _ => hcl, ?_⟩
        obtain ⟨h_99, hm⟩ := ite_t hm
        refine qsA 22 2 v_93.1 hs rfl h_99 rfl fun a w hs => ?_
        replace hcl : Own κ w C_78 := by rw [hC_78]; exact (hs.own.too [4, 5, 6, 7, 8, 9] 10)
        refine ⟨fun _ => hcl, ?_⟩
        obtain ⟨h_100, hm⟩ := ite_t hm
        refine qsA 23 1 v_98.1 hs rfl h_100 rfl fun a w hs => ?_
        refine ⟨fun h => absurd h (by decide), ?_⟩
        replace hs := hs.pick [1, 6, 10, 12, 13, 15, 16] (L' := [(1, vi x1), (6, pp b_2), (10, pp b_26), (12, pp b_34), (13, pp b_35), (15, pp b_94), (16, pp b_95)]) (by kernel_rfl)
        refine Vk.dDone (by kernel_rfl) ?_
        exact hj77 v_93.2 v_98.2 v_93.1 v_98.1 hm b_94 b_95 _ _ (hs.go [1, 6, 10, 12, 13, 15, 16] [4, 5, 3, 0, 6, 7, 8, 9, 2, 1] 10 (by kernel_rfl) (by kernel_rfl) (by kernel_rfl))
      ·refine Vk.alloc 16 28 [ci 0, ci 0, ci 0] hs (by kernel_rfl) (by kernel_rfl) (by kernel_rfl) fun b_94 w a hs => ?_
       replace hcl := qO hC_78 hs.own.f4.drop.f1.drop.drop
       refine ⟨fun _ => hcl, ?_⟩
       refine Vk.dMany2 (i0 := 19) (i1 := 20) (by kernel_rfl) ?_ ?_
       ·obtain ⟨v_97, h_96, hm⟩ := bind_t hm
        refine qco (visorref23_Pick.ok _ _ _ _ _ _ _ h_96 _ _ _ br9x0x_21 hs.own.f4) hs fun w a hs => ?_
        replace hcl := qO hC_78 hs.own.f2.drop.f1.drop.drop
        refine ⟨fun _ => hcl, ?_⟩
        refine Vk.dOnly (i := 20) (by kernel_rfl) (Vk.alloc 15 28 [ci 0, ci 0, ci 0] hs (by kernel_rfl) (by kernel_rfl) (by kernel_rfl) fun b_98 w a hs => ?_)
        replace hcl : Own κ w C_78 := by rw [hC_78]; exact (hs.own.too [4, 5, 6, 7, 8, 9] 10)
        refine ⟨fun _ => hcl, ?_⟩
        obtain ⟨h_99, hm⟩ := ite_t hm
        refine qsA 22 0 v_93.1 hs rfl h_99 rfl fun a w hs => ?_
        replace hcl : Own κ w C_78 := by rw [hC_78]; exact (hs.own.too [4, 5, 6, 7, 8, 9] 10)
        refine ⟨fun _ => hcl, ?_⟩
        obtain ⟨h_100, hm⟩ := ite_t hm
        refine qsA 23 2 v_97.1 hs rfl h_100 rfl fun a w hs => ?_
        refine ⟨fun h => absurd h (by decide), ?_⟩
        replace hs := hs.pick [1, 6, 10, 12, 13, 15, 16] (L' := [(1, vi x1), (6, pp b_2), (10, pp b_26), (12, pp b_34), (13, pp b_35), (15, pp b_98), (16, pp b_94)]) (by kernel_rfl)
        refine Vk.dDone (by kernel_rfl) ?_
        exact hj77 v_93.2 v_97.2 v_93.1 v_97.1 hm b_98 b_94 _ _ (hs.go [1, 6, 10, 12, 13, 15, 16] [4, 5, 3, 1, 6, 7, 8, 9, 0, 2] 10 (by kernel_rfl) (by kernel_rfl) (by kernel_rfl))
       ·refine Vk.alloc 15 28 [ci 0, ci 0, ci 0] hs (by kernel_rfl) (by kernel_rfl) (by kernel_rfl) fun b_95 w a hs => ?_
        replace hcl : Own κ w C_78 := by rw [hC_78]; exact (hs.own.too [3, 4, 6, 7, 8, 9] 10)
        refine ⟨fun _ => hcl, ?_⟩
        obtain ⟨v_98, h_97, hm⟩ := bind_t hm
        refine qdc 19 (visorref23_Pick.ok _ _ _ _ _ _ _ h_97 _ _ _ br9x0x_21 hs.own.f5) hs fun w a hs => ?_
        replace hcl : Own κ w C_78 := by rw [hC_78]; exact (hs.own.too [4, 5, 6, 7, 8, 9] 10)
        refine ⟨fun _ => hcl, ?_⟩
        obtain ⟨h_99, hm⟩ := ite_t hm
        refine qsA 22 1 v_93.1 hs rfl h_99 rfl fun a w hs => ?_
        replace hcl : Own κ w C_78 := by rw [hC_78]; exact (hs.own.too [4, 5, 6, 7, 8, 9] 10)
        refine ⟨fun _ => hcl, ?_⟩
        obtain ⟨h_100, hm⟩ := ite_t hm
        refine qsA 23 2 v_98.1 hs rfl h_100 rfl fun a w hs => ?_
        refine ⟨fun h => absurd h (by decide), ?_⟩
        replace hs := hs.pick [1, 6, 10, 12, 13, 15, 16] (L' := [(1, vi x1), (6, pp b_2), (10, pp b_26), (12, pp b_34), (13, pp b_35), (15, pp b_95), (16, pp b_94)]) (by kernel_rfl)
        refine Vk.dDone (by kernel_rfl) ?_
        exact hj77 v_93.2 v_98.2 v_93.1 v_98.1 hm b_95 b_94 _ _ (hs.go [1, 6, 10, 12, 13, 15, 16] [4, 5, 3, 0, 6, 7, 8, 9, 1, 2] 10 (by kernel_rfl) (by kernel_rfl) (by kernel_rfl))
     ·refine Vk.alloc 15 28 [ci 0, ci 0, ci 0] hs (by kernel_rfl) (by kernel_rfl) (by kernel_rfl) fun b_91 w a hs => ?_
      replace hcl := qO hC_78 hs.own.f4.drop.f3.drop.drop
      refine ⟨fun _ => hcl, ?_⟩
      refine Vk.dMany2 (i0 := 9) (i1 := 21) (by kernel_rfl) ?_ ?_
      ·obtain ⟨v_94, h_93, hm⟩ := bind_t hm
       refine qco (both_Pick.ok _ _ _ _ _ _ _ h_93 _ _ _ br9x0m_20 hs.own.f3) hs fun w a hs => ?_
       replace hcl := qO hC_78 hs.own.f4.drop.f1.drop.drop
       refine ⟨fun _ => hcl, ?_⟩
       refine Vk.dMany2 (i0 := 19) (i1 := 21) (by kernel_rfl) ?_ ?_
       ·obtain ⟨v_97, h_96, hm⟩ := bind_t hm
        refine qco (visorref23_Pick.ok _ _ _ _ _ _ _ h_96 _ _ _ br9x0x_21 hs.own.f4) hs fun w a hs => ?_
        replace hcl := qO hC_78 hs.own.f2.drop.f1.drop.drop
        refine ⟨fun _ => hcl, ?_⟩
        refine Vk.dOnly (i := 21) (by kernel_rfl) (Vk.alloc 16 28 [ci 0, ci 0, ci 0] hs (by kernel_rfl) (by kernel_rfl) (by kernel_rfl) fun b_98 w a hs => ?_)
        replace hcl : Own κ w C_78 := by rw [hC_78]; exact (hs.own.too [4, 5, 6, 7, 8, 9] 10)
        refine ⟨fun _ => hcl, ?_⟩
        obtain ⟨h_99, hm⟩ := ite_t hm
        refine qsA 22 3 v_94.1 hs rfl h_99 rfl fun a w hs => ?_
        replace hcl : Own κ w C_78 := by rw [hC_78]; exact (hs.own.too [4, 5, 6, 7, 8, 9] 10)
        refine ⟨fun _ => hcl, ?_⟩
        obtain ⟨h_100, hm⟩ := ite_t hm
        refine qsA 23 0 v_97.1 hs rfl h_100 rfl fun a w hs => ?_
        refine ⟨fun h => absurd h (by decide), ?_⟩
        replace hs := hs.pick [1, 6, 10, 12, 13, 15, 16] (L' := [(1, vi x1), (6, pp b_2), (10, pp b_26), (12, pp b_34), (13, pp b_35), (15, pp b_91), (16, pp b_98)]) (by kernel_rfl)
        refine Vk.dDone (by kernel_rfl) ?_
        exact hj77 v_94.2 v_97.2 v_94.1 v_97.1 hm b_91 b_98 _ _ (hs.go [1, 6, 10, 12, 13, 15, 16] [4, 5, 2, 1, 6, 7, 8, 9, 3, 0] 10 (by kernel_rfl) (by kernel_rfl) (by kernel_rfl))
       ·refine Vk.alloc 16 28 [ci 0, ci 0, ci 0] hs (by kernel_rfl) (by kernel_rfl) (by kernel_rfl) fun b_95 w a hs => ?_
        replace hcl : Own κ w C_78 := by rw [hC_78]; exact (hs.own.too [3, 4, 6, 7, 8, 9] 10)
        refine ⟨fun _ => hcl, ?_⟩
        obtain ⟨v_98, h_97, hm⟩ := bind_t hm
        refine qdc 19 (visorref23_Pick.ok _ _ _ _ _ _ _ h_97 _ _ _ br9x0x_21 hs.own.f5) hs fun w a hs => ?_
        replace hcl : Own κ w C_78 := by rw [hC_78]; exact (hs.own.too [4, 5, 6, 7, 8, 9] 10)
        refine ⟨fun _ => hcl, ?_⟩
        obtain ⟨h_99, hm⟩ := ite_t hm
        refine qsA 22 3 v_94.1 hs rfl h_99 rfl fun a w hs => ?_
        replace hcl : Own κ w C_78 := by rw [hC_78]; exact (hs.own.too [4, 5, 6, 7, 8, 9] 10)
        refine ⟨fun _ => hcl, ?_⟩
        obtain ⟨h_100, hm⟩ := ite_t hm
        refine qsA 23 1 v_98.1 hs rfl h_100 rfl fun a w hs => ?_
        refine ⟨fun h => absurd h (by decide), ?_⟩
        replace hs := hs.pick [1, 6, 10, 12, 13, 15, 16] (L' := [(1, vi x1), (6, pp b_2), (10, pp b_26), (12, pp b_34), (13, pp b_35), (15, pp b_91), (16, pp b_95)]) (by kernel_rfl)
        refine Vk.dDone (by kernel_rfl) ?_
        exact hj77 v_94.2 v_98.2 v_94.1 v_98.1 hm b_91 b_95 _ _ (hs.go [1, 6, 10, 12, 13, 15, 16] [4, 5, 2, 0, 6, 7, 8, 9, 3, 1] 10 (by kernel_rfl) (by kernel_rfl) (by kernel_rfl))
      ·refine Vk.alloc 16 28 [ci 0, ci 0, ci 0] hs (by kernel_rfl) (by kernel_rfl) (by kernel_rfl) fun b_92 w a hs => ?_
       replace hcl : Own κ w C_78 := by rw [hC_78]; exact (hs.own.too [2, 3, 6, 7, 8, 9] 10)
       refine ⟨fun _ => hcl, ?_⟩
       obtain ⟨v_95, h_94, hm⟩ := bind_t hm
       refine qdc 9 (both_Pick.ok _ _ _ _ _ _ _ h_94 _ _ _ br9x0m_20 hs.own.f4) hs fun w a hs => ?_
       replace hcl : Own κ w C_78 := by rw [hC_78]; exact (hs.own.too [3, 4, 6, 7, 8, 9] 10)
       refine ⟨fun _ => hcl, ?_⟩
       obtain ⟨v_98, h_97, hm⟩ := bind_t hm
       refine qdc 19 (visorref23_Pick.ok _ _ _ _ _ _ _ h_97 _ _ _ br9x0x_21 hs.own.f5) hs fun w a hs => ?_
       replace hcl : Own κ w C_78 := by rw [hC_78]; exact (hs.own.too [4, 5, 6, 7, 8, 9] 10)
       refine ⟨fun _ => hcl, ?_⟩
       obtain ⟨h_99, hm⟩ := ite_t hm
       refine qsA 22 3 v_95.1 hs rfl h_99 rfl fun a w hs => ?_
       replace hcl : Own κ w C_78 := by rw [hC_78]; exact (hs.own.too [4, 5, 6, 7, 8, 9] 10)
       refine ⟨fun _ => hcl, ?_⟩
       obtain ⟨h_100, hm⟩ := ite_t hm
       refine qsA 23 2 v_98.1 hs rfl h_100 rfl fun a w hs => ?_
       refine ⟨fun h => absurd h (by decide), ?_⟩
       replace hs := hs.pick [1, 6, 10, 12, 13, 15, 16] (L' := [(1, vi x1), (6, pp b_2), (10, pp b_26), (12, pp b_34), (13, pp b_35), (15, pp b_91), (16, pp b_92)]) (by kernel_rfl)
       refine Vk.dDone (by kernel_rfl) ?_
       exact hj77 v_95.2 v_98.2 v_95.1 v_98.1 hm b_91 b_92 _ _ (hs.go [1, 6, 10, 12, 13, 15, 16] [4, 5, 1, 0, 6, 7, 8, 9, 3, 2] 10 (by kernel_rfl) (by kernel_rfl) (by kernel_rfl))
     ·refine Vk.alloc 16 28 [ci 0, ci 0, ci 0] hs (by kernel_rfl) (by kernel_rfl) (by kernel_rfl) fun b_91 w a hs => ?_
      replace hcl := qO hC_78 hs.own.f4.drop.f3.drop.drop
      refine ⟨fun _ => hcl, ?_⟩
      refine Vk.dMany2 (i0 := 9) (i1 := 20) (by kernel_rfl) ?_ ?_
      ·obtain ⟨v_94, h_93, hm⟩ := bind_t hm
       refine qco (both_Pick.ok _ _ _ _ _ _ _ h_93 _ _ _ br9x0m_20 hs.own.f3) hs fun w a hs => ?_
       replace hcl := qO hC_78 hs.own.f4.drop.f1.drop.drop
       refine ⟨fun _ => hcl, ?_⟩
       refine Vk.dMany2 (i0 := 19) (i1 := 20) (by kernel_rfl) ?_ ?_
       ·obtain ⟨v_97, h_96, hm⟩ := bind_t hm
        refine qco (visorref23_Pick.ok _ _ _ _ _ _ _ h_96 _ _ _ br9x0x_21 hs.own.f4) hs fun w a hs => ?_
        replace hcl := qO hC_78 hs.own.f2.drop.f1.drop.drop
        refine ⟨fun _ => hcl, ?_⟩
        refine Vk.dOnly (i := 20) (by kernel_rfl) (Vk.alloc 15 28 [ci 0, ci 0, ci 0] hs (by kernel_rfl) (by kernel_rfl) (by kernel_rfl) fun b_98 w a hs => ?_)
        replace hcl : Own κ w C_78 := by rw [hC_78]; exact (hs.own.too [4, 5, 6, 7, 8, 9] 10)
        refine ⟨fun _ => hcl, ?_⟩
        obtain ⟨h_99, hm⟩ := ite_t hm
        refine qsA 22 0 v_94.1 hs rfl h_99 rfl fun a w hs => ?_
        replace hcl : Own κ w C_78 := by rw [hC_78]; exact (hs.own.too [4, 5, 6, 7, 8, 9] 10)
        refine ⟨fun _ => hcl, ?_⟩
        obtain ⟨h_100, hm⟩ := ite_t hm
        refine qsA 23 3 v_97.1 hs rfl h_100 rfl fun a w hs => ?_
        refine ⟨fun h => absurd h (by decide), ?_⟩
        replace hs := hs.pick [1, 6, 10, 12, 13, 15, 16] (L' := [(1, vi x1), (6, pp b_2), (10, pp b_26), (12, pp b_34), (13, pp b_35), (15, pp b_98), (16, pp b_91)]) (by kernel_rfl)
        refine Vk.dDone (by kernel_rfl) ?_
        exact hj77 v_94.2 v_97.2 v_94.1 v_97.1 hm b_98 b_91 _ _ (hs.go [1, 6, 10, 12, 13, 15, 16] [4, 5, 2, 1, 6, 7, 8, 9, 0, 3] 10 (by kernel_rfl) (by kernel_rfl) (by kernel_rfl))
       ·refine Vk.alloc 15 28 [ci 0, ci 0, ci 0] hs (by kernel_rfl) (by kernel_rfl) (by kernel_rfl) fun b_95 w a hs => ?_
        replace hcl : Own κ w C_78 := by rw [hC_78]; exact (hs.own.too [3, 4, 6, 7, 8, 9] 10)
        refine ⟨fun _ => hcl, ?_⟩
        obtain ⟨v_98, h_97, hm⟩ := bind_t hm
        refine qdc 19 (visorref23_Pick.ok _ _ _ _ _ _ _ h_97 _ _ _ br9x0x_21 hs.own.f5) hs fun w a hs => ?_
        replace hcl : Own κ w C_78 := by rw [hC_78]; exact (hs.own.too [4, 5, 6, 7, 8, 9] 10)
        refine ⟨fun _ => hcl, ?_⟩
        obtain ⟨h_99, hm⟩ := ite_t hm
        refine qsA 22 1 v_94.1 hs rfl h_99 rfl fun a w hs => ?_
        replace hcl : Own κ w C_78 := by rw [hC_78]; exact (hs.own.too [4, 5, 6, 7, 8, 9] 10)
        refine ⟨fun _ => hcl, ?_⟩
        obtain ⟨h_100, hm⟩ := ite_t hm
        refine qsA 23 3 v_98.1 hs rfl h_100 rfl fun a w hs => ?_
        refine ⟨fun h => absurd h (by decide), ?_⟩
        replace hs := hs.pick [1, 6, 10, 12, 13, 15, 16] (L' := [(1, vi x1), (6, pp b_2), (10, pp b_26), (12, pp b_34), (13, pp b_35), (15, pp b_95), (16, pp b_91)]) (by kernel_rfl)
        refine Vk.dDone (by kernel_rfl) ?_
        exact hj77 v_94.2 v_98.2 v_94.1 v_98.1 hm b_95 b_91 _ _ (hs.go [1, 6, 10, 12, 13, 15, 16] [4, 5, 2, 0, 6, 7, 8, 9, 1, 3] 10 (by kernel_rfl) (by kernel_rfl) (by kernel_rfl))
      ·refine Vk.alloc 15 28 [ci 0, ci 0, ci 0] hs (by kernel_rfl) (by kernel_rfl) (by kernel_rfl) fun b_92 w a hs => ?_
       replace hcl : Own κ w C_78 := by rw [hC_78]; exact (hs.own.too [2, 3, 6, 7, 8, 9] 10)
       refine ⟨fun _ => hcl, ?_⟩
       obtain ⟨v_95, h_94, hm⟩ := bind_t hm
       refine qdc 9 (both_Pick.ok _ _ _ _ _ _ _ h_94 _ _ _ br9x0m_20 hs.own.f4) hs fun w a hs => ?_
       replace hcl : Own κ w C_78 := by rw [hC_78]; exact (hs.own.too [3, 4, 6, 7, 8, 9] 10)
       refine ⟨fun _ => hcl, ?_⟩
       obtain ⟨v_98, h_97, hm⟩ := bind_t hm
       refine qdc 19 (visorref23_Pick.ok _ _ _ _ _ _ _ h_97 _ _ _ br9x0x_21 hs.own.f5) hs fun w a hs => ?_
       replace hcl : Own κ w C_78 := by rw [hC_78]; exact (hs.own.too [4, 5, 6, 7, 8, 9] 10)
       refine ⟨fun _ => hcl, ?_⟩
       obtain ⟨h_99, hm⟩ := ite_t hm
       refine qsA 22 2 v_95.1 hs rfl h_99 rfl fun a w hs => ?_
       replace hcl : Own κ w C_78 := by rw [hC_78]; exact (hs.own.too [4, 5, 6, 7, 8, 9] 10)
       refine ⟨fun _ => hcl, ?_⟩
       obtain ⟨h_100, hm⟩ := ite_t hm
       refine qsA 23 3 v_98.1 hs rfl h_100 rfl fun a w hs => ?_
       refine ⟨fun h => absurd h (by decide), ?_⟩
       replace hs := hs.pick [1, 6, 10, 12, 13, 15, 16] (L' := [(1, vi x1), (6, pp b_2), (10, pp b_26), (12, pp b_34), (13, pp b_35), (15, pp b_92), (16, pp b_91)]) (by kernel_rfl)
       refine Vk.dDone (by kernel_rfl) ?_
       exact hj77 v_95.2 v_98.2 v_95.1 v_98.1 hm b_92 b_91 _ _ (hs.go [1, 6, 10, 12, 13, 15, 16] [4, 5, 1, 0, 6, 7, 8, 9, 2, 3] 10 (by kernel_rfl) (by kernel_rfl) (by kernel_rfl))
    refine Vk.loopBy (fun k (s : Twire_Machine × Tvisorref19_M × Cells × Cells × Int) a w => visorlaw23_BothPicks.l1 x2 k s.1 s.2.1 s.2.2.1 s.2.2.2.1 s.2.2.2.2 = some r38 ∧ St 144 a w κ [(1, vi x1), (6, pp b_2), (10, pp b_26), (12, pp b_34), (13, pp b_35), (14, vi s.2.2.2.2)] (pt b_2 (blk x2 36) :: pt b_26 (blk [cp br9x0m_20, cp br9x0x_21, C.slc Ar9x0l_22 v_19.2.2.1.length cr9x0l_23, C.slc Ar9x0v_24 v_19.2.2.2.1.length cr9x0v_25] 45) :: Twire_Machine.own br9x0m_20 s.1 :: Tvisorref19_M.own κ br9x0x_21 s.2.1 :: rowp Ar9x0l_22 cr9x0l_23 28 3 eC v_19.2.2.1 :: rowp Ar9x0v_24 cr9x0v_25 32 1 (eI .u64) v_19.2.2.2.1 :: pt b_34 (blk s.2.2.1 121) :: pt b_35 (blk s.2.2.2.1 121) :: S)) k (v_19.1, v_19.2.1, [ci 0, ci 0, ci 0, ci 0, ci 0, ci 0, ci 0, ci 0, ci 0], [ci 0, ci 0, ci 0, ci 0, ci 0, ci 0, ci 0, ci 0, ci 0], 0) ⟨hl38, hs.go [1, 6, 10, 12, 13, 14] [7, 2, 3, 4, 5, 6, 1, 0] 8 (by kernel_rfl) (by kernel_rfl) (by kernel_rfl)⟩ (fun s a w h => by obtain ⟨h1, _⟩ := h; simp [visorlaw23_BothPicks.l1] at h1) (fun k KL38 ih s a w h => ?_)
    obtain ⟨q_39, q_40, q_41, q_42, q_43⟩ := s
    obtain ⟨hm, hs⟩ := h
    try dsimp only at hm hs
    rw [visorlaw23_BothPicks.l1] at hm
    refine Vk.seq fun K44 hK44 => ?_
    refine qsk 2 [1, 6, 10, 12, 13, 14, 32] hs fun a hs => ?_
    refine qcs (decide (q_43 < 3)) hs (fun hb => ?_) fun hb => ?_
    ·replace hm := bif_t hm hb
     refine wp_skip ?_
     refine hK44 _ _ ?_
     clear hK44
     refine Vk.seq fun K46 hK46 => ?_
     refine wp_block ?_
     refine Vk.seq fun K47 hK47 => ?_
     obtain ⟨C_48, hC_48⟩ := qC hs.own.f2.drop
     refine qdr 8 κ C_48 hs fun w hs hqC_48 => ?_
     have hcl := qO hC_48 hs.own.f2.drop
     refine qdp (fuel := 6) [0, 1, 3] hs hcl hqC_48 fun a hs => ?_
     refine qdl 2 1 (cp br9x0m_20) hs hcl hqC_48 hC_48 rfl fun a hs => ?_
     obtain ⟨h_49, hm⟩ := ite_t hm
     refine qdx 4 b_2 0 1 hs hcl hqC_48 h_49 fun a hs => ?_
     obtain ⟨v_51, h_50, hm⟩ := bind_t hm
     refine qdi 5 0 hs hcl hqC_48 hC_48 rfl h_50 fun a hs => ?_
     obtain ⟨v_54, h_53, hm⟩ := bind_t hm
     refine qdc 6 (share_Public.ok _ _ _ _ h_53 _ _ _ br9x0m_20 hs.own.f2) hs fun w a hs => ?_
     replace hcl := qO hC_48 hs.own.drop
     refine ⟨fun _ => hcl, ?_⟩
     obtain ⟨h_55, hm⟩ := ite_t hm
     refine qdx 7 b_34 0 3 hs hcl hqC_48 h_55 fun a hs => ?_
     obtain ⟨h_56, hm⟩ := ite_t hm
     obtain ⟨h_57, hm⟩ := ite_t hm
     refine Vk.dOnly (i := 8) (by kernel_rfl) (Vk.storeN (b := b_34) (ty := 28) (x := (.tmp 42)) (y := (.tmp 41)) (off := 0 + q_43.toNat * 3) (sz := 3) v_54.1 6 hs (by kernel_rfl) (by kernel_rfl) (by kernel_rfl) (by kernel_rfl) (by kernel_rfl) h_56 (by kernel_rfl) rfl h_57 fun a w hs => ?_)
     refine ⟨fun h => absurd h (by decide), ?_⟩
     replace hs := hs.pick [1, 6, 10, 12, 13, 14] (L' := [(1, vi x1), (6, pp b_2), (10, pp b_26), (12, pp b_34), (13, pp b_35), (14, vi q_43)]) (by kernel_rfl)
     refine Vk.dDone (by kernel_rfl) ?_
     refine hK47 _ _ ?_
     clear hK47
     obtain ⟨C_58, hC_58⟩ := qC hs.own.f3.drop
     refine qdr 8 κ C_58 hs fun w hs hqC_58 => ?_
     have hcl := qO hC_58 hs.own.f3.drop
     refine qdp (fuel := 6) [0, 1, 3] hs hcl hqC_58 fun a hs => ?_
     refine qdl 2 2 (cp br9x0x_21) hs hcl hqC_58 hC_58 rfl fun a hs => ?_
     obtain ⟨h_59, hm⟩ := ite_t hm
     refine qdx 4 b_2 0 1 hs hcl hqC_58 h_59 fun a hs => ?_
     obtain ⟨v_61, h_60, hm⟩ := bind_t hm
     refine qdi 5 1 hs hcl hqC_58 hC_58 rfl h_60 fun a hs => ?_
     obtain ⟨v_64, h_63, hm⟩ := bind_t hm
     refine qdc 6 (visorref20_Const.ok _ _ _ _ _ h_63 _ _ _ br9x0x_21 hs.own.f3) hs fun w a hs => ?_
     replace hcl := qO hC_58 hs.own.drop
     refine ⟨fun _ => hcl, ?_⟩
     obtain ⟨h_65, hm⟩ := ite_t hm
     refine qdx 7 b_35 0 3 hs hcl hqC_58 h_65 fun a hs => ?_
     obtain ⟨h_66, hm⟩ := ite_t hm
     obtain ⟨h_67, hm⟩ := ite_t hm
     refine Vk.dOnly (i := 8) (by kernel_rfl) (Vk.storeN (b := b_35) (ty := 28) (x := (.tmp 50)) (y := (.tmp 49)) (off := 0 + q_43.toNat * 3) (sz := 3) v_64.1 7 hs (by kernel_rfl) (by kernel_rfl) (by kernel_rfl) (by kernel_rfl) (by kernel_rfl) h_66 (by kernel_rfl) rfl h_67 fun a w hs => ?_)
     refine ⟨fun h => absurd h (by decide), ?_⟩
     replace hs := hs.pick [1, 6, 10, 12, 13, 14] (L' := [(1, vi x1), (6, pp b_2), (10, pp b_26), (12, pp b_34), (13, pp b_35), (14, vi q_43)]) (by kernel_rfl)
     refine Vk.dDone (by kernel_rfl) ?_
     refine hK46 _ _ ?_
     clear hK46
     refine Vk.region ?_
     refine qpk 3 [1, 6, 10, 12, 13, 14] hs fun a hs => ?_
     refine ih (v_54.2, v_64.2, (splice q_41 (0 + q_43.toNat * 3) v_54.1), (splice q_42 (0 + q_43.toNat * 3) v_64.1), (IntKind.i64.wrap (q_43 + 1))) _ _ ⟨hm, hs.go [1, 6, 10, 12, 13, 14] [2, 3, 1, 0, 4, 5, 6, 7] 8 (by kernel_rfl) (by kernel_rfl) (by kernel_rfl)⟩
    ·replace hm := bif_f hm hb
     refine wp_exit ?_
     exact hx38 q_39 q_40 q_41 q_42 (Option.some.inj hm).symm _ _ (hs.go [1, 6, 10, 12, 13] [0, 1, 2, 3, 4, 5, 6, 7] 8 (by kernel_rfl) (by kernel_rfl) (by kernel_rfl))
 refine qsk 1 [1, 3, 6, 9, 20] hs fun a hs => ?_
 refine qcs (x0) hs (fun hb => ?_) fun hb => ?_
 ·replace hm := bif_t hm hb
  refine Vk.region ?_
  refine qpe 1 [(1, vi x1), (3, .slice A_x3 x3.length c_x3), (6, pp b_2), (9, vi 3)] hs fun a hs => ?_
  exact hj4 3 hm _ _ (hs.go [1, 3, 6, 9] [0] 1 (by kernel_rfl) (by kernel_rfl) (by kernel_rfl))
 ·replace hm := bif_f hm hb
  refine wp_skip ?_
  exact hj4 2 hm _ _ (hs.go [1, 3, 6, 9] [0] 1 (by kernel_rfl) (by kernel_rfl) (by kernel_rfl))

end Go.Proofs.Ytflgefjocjpjaaa
