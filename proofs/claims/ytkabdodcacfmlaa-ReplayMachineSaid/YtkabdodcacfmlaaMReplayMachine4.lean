/- Of each Go function that ReplayMachine comes to: a model in plain Lean, and that the program's call does what the model says; no condition. -/
import Derived.Test.YtkabdodcacfmlaaProg
import Derived.Test.YtkabdodcacfmlaaVdoapibmo
import Derived.Test.YtkabdodcacfmlaaMReplayMachine3
namespace Go.Proofs.Ytkabdodcacfmlaa
open Go Go.Vk
set_option linter.unusedVariables false


def visorlaw29_ReplayMachine.j7 (k : Nat) (p_248 : Bool) : Option (Bool) := some p_248
def visorlaw29_ReplayMachine.j6 (k : Nat) (rec129 : (List Int) → Int → Option (List Int)) (q_133 : Int) (p_175 : List Int) : Option (List Int) := rec129 p_175 (IntKind.i64.wrap (q_133 + 1))
def visorlaw29_ReplayMachine.l1 (p_83 : Tapi_Trace) (p_92 : List Int) : Nat → (List Int) → Int → Option (List Int)
 | 0, _, _ => none
 | k + 1, q_132, q_133 => (bif decide (q_133 < ((p_83.ops.length : Nat) : Int)) then (if 0 ≤ q_133 then (p_83.ops[q_133.toNat]?).bind fun e_141 => (bif e_141.kind == 2 then (if 0 ≤ q_133 then (p_83.ops[q_133.toNat]?).bind fun e_149 => (if 0 ≤ q_133 then (p_92[q_133.toNat]?).bind fun e_158 => (visorref29_Word.m k p_92 e_149.a).bind fun v_164 => (visorref29_Word.m k p_92 e_149.b).bind fun v_167 => (if (q_132.length + ([bxor .u64 (bxor .u64 e_158 v_164) v_167] : List Int).length) * 8 ≤ 140737488355328 then visorlaw29_ReplayMachine.j6 k (visorlaw29_ReplayMachine.l1 p_83 p_92 k) q_133 (q_132 ++ ([bxor .u64 (bxor .u64 e_158 v_164) v_167] : List Int)) else none) else none) else none) else visorlaw29_ReplayMachine.j6 k (visorlaw29_ReplayMachine.l1 p_83 p_92 k) q_133 q_132) else none) else some q_132)
def visorlaw29_ReplayMachine.j5 (k : Nat) (p_13 : List Int) (p_83 : Tapi_Trace) (p_92 : List Int) (v_97 : Cells) (p_125 : List Int) : Option (Bool) := (visorlaw29_ReplayMachine.l1 p_83 p_92 k ([] : List Int) 0).bind fun p_178 => (getI .i64 v_97 (1)).bind fun v_186 => (if ((0 : Int) ≤ v_186) ∧ 0 ≤ v_186.toNat ∧ v_186.toNat ≤ p_13.length then (replay_Run.m k p_83 p_178 (cut p_13 (0) (v_186.toNat))).bind fun v_196 => (getI .i64 v_97 (1)).bind fun v_202 => (if ((0 : Int) ≤ v_202) ∧ 0 ≤ v_202.toNat ∧ v_202.toNat ≤ p_13.length then (replay_Run.m k p_83 p_125 (cut p_13 (0) (v_202.toNat))).bind fun v_212 => (getI .i64 v_97 (1)).bind fun v_218 => (if ((0 : Int) ≤ v_218) ∧ 0 ≤ v_218.toNat ∧ v_218.toNat ≤ p_13.length then (replay_Opened.m k p_83 v_212.1).bind fun v_228 => (replay_Blind.m k p_83 v_228 (cut p_13 (0) (v_218.toNat))).bind fun v_233 => (bif ((v_196.2 == 0) && (v_212.2 == 0)) && (v_233.2 == 0) then (visorref29_Same.m k v_196.1 p_92).bind fun v_241 => (bif v_241 then (visorref29_Same.m k v_212.1 v_233.1).bind fun v_244 => (bif v_244 then (visorlaw29_awake.m k).bind fun v_247 => visorlaw29_ReplayMachine.j7 k v_247 else visorlaw29_ReplayMachine.j7 k false) else visorlaw29_ReplayMachine.j7 k false) else visorlaw29_ReplayMachine.j7 k false) else none) else none) else none)
def visorlaw29_ReplayMachine.j4 (k : Nat) (p_13 : List Int) (p_83 : Tapi_Trace) (p_92 : List Int) (v_97 : Cells) (p_110 : Bool) : Option (Bool) := (bif p_110 then some false else (getI .i64 v_97 (2)).bind fun v_115 => (if (0 : Int) ≤ v_115 ∧ (v_115 : Int) ≤ v_115 ∧ (8 : Int) * v_115 ≤ 281474976710656 then visorlaw29_ReplayMachine.j5 k p_13 p_83 p_92 v_97 (List.replicate v_115.toNat 0 : List Int) else none))
def visorlaw29_ReplayMachine.j3 (k : Nat) (p_13 : List Int) (p_83 : Tapi_Trace) (p_92 : List Int) : Option (Bool) := (visorref18_Tally.m k p_83).bind fun v_97 => (if v_97.length = 13 then (visorref18_Right.m k p_83).bind fun v_104 => (bif !v_104 then visorlaw29_ReplayMachine.j4 k p_13 p_83 p_92 v_97 true else (getI .i64 v_97 (1)).bind fun v_108 => visorlaw29_ReplayMachine.j4 k p_13 p_83 p_92 v_97 ((decide (v_108 > ((p_13.length : Nat) : Int))) || (((p_92.length : Nat) : Int) != ((p_83.ops.length : Nat) : Int)))) else none)
def visorlaw29_ReplayMachine.j2 (k : Nat) (p_13 : List Int) (p_50 : Twire_Machine) (p_52 : Tvisorref19_M) (p_55 : List Cells) (p_58 : List Int) (p_59 : Bool) : Option (Bool) := (bif !p_59 then (visorlaw29_awake.m k).bind fun v_65 => some v_65 else (wire_Machine_Trace.m k p_50).bind fun v_71 => (wire_Machine_Values.m k p_50).bind fun v_78 => visorlaw29_ReplayMachine.j3 k p_13 v_71 v_78)
def visorlaw29_ReplayMachine.j1 (k : Nat) (x0 : Bool) (x1 : List Tvisorlaw27_Act) (p_13 : List Int) : Option (Bool) := ((visorlaw27_Makes.m k x0 x1 p_13).bind fun v => match v with | (.inl v_19) => (visorlaw29_awake.m k).bind fun v_47 => some v_47 | (.inr (.inl v_26)) => visorlaw29_ReplayMachine.j2 k p_13 v_26.1 v_26.2.1 v_26.2.2.1 v_26.2.2.2 false | (.inr (.inr v_34)) => visorlaw29_ReplayMachine.j2 k p_13 v_34.1 v_34.2.1 v_34.2.2.1 v_34.2.2.2.1 v_34.2.2.2.2)
abbrev visorlaw29_ReplayMachine.R (κ : Ctx) (S : List HP) (x0 : Bool) (x1 : List Tvisorlaw27_Act) (x2 : List Int) (A_x1 : Option Addr) (c_x1 : Nat) (A_x2 : Option Addr) (c_x2 : Nat) (r : Bool) : Ending → World → Prop := fun e w' => e = .returned (.bool r) ∧ Ow κ w' (S)
def visorlaw29_ReplayMachine.m (k : Nat) (x0 : Bool) (x1 : List Tvisorlaw27_Act) (x2 : List Int) : Option Bool := (bif decide (((x2.length : Nat) : Int) > 500) then (if ((0 : Int) ≤ 500) ∧ 0 ≤ 500 ∧ 500 ≤ x2.length then visorlaw29_ReplayMachine.j1 k x0 x1 (cut x2 (0) (500)) else none) else visorlaw29_ReplayMachine.j1 k x0 x1 x2)

set_option maxRecDepth 100000 in
set_option maxHeartbeats 4000000 in
theorem visorlaw29_ReplayMachine.ok (k : Nat) (x0 : Bool) (x1 : List Tvisorlaw27_Act) (x2 : List Int) (r : Bool) (hm : visorlaw29_ReplayMachine.m k x0 x1 x2 = some r) (κ : Ctx) (w : World) (S : List HP) (A_x1 : Option Addr) (c_x1 : Nat) (hx_x1 : Sl κ [] A_x1 c_x1 6 Tvisorlaw27_Act.cells x1) (A_x2 : Option Addr) (c_x2 : Nat) (hx_x2 : Sl κ [] A_x2 c_x2 1 (eI .u64) x2) (ho : Ow κ w (S)) :
  Calls Try.prog 3 #[.bool x0, .slice A_x1 x1.length c_x1, .slice A_x2 x2.length c_x2] w (visorlaw29_ReplayMachine.R κ S x0 x1 x2 A_x1 c_x1 A_x2 c_x2 r) := by
 have ht_x1 := hx_x1
 generalize hRR : visorlaw29_ReplayMachine.R κ S x0 x1 x2 A_x1 c_x1 A_x2 c_x2 r = RR
 replace hx_x1 := Sl.top (S := S) hx_x1
 have ht_x2 := hx_x2
 replace hx_x2 := Sl.top (S := S) hx_x2
 unfold visorlaw29_ReplayMachine.m at hm
 refine qen [(0, .bool x0), (1, .slice A_x1 x1.length c_x1), (2, .slice A_x2 x2.length c_x2)] Try.func3 Try.ntmps3 ho fun a hs => ?_
 refine qsk 1 [0, 1, 2] hs fun a hs => ?_
 refine Vk.seq fun K2 hK2 => ?_
 have hj2 : ∀ (p_13 : List Int), visorlaw29_ReplayMachine.j1 k x0 x1 p_13 = some r → ∀ (A_11 : Option Addr) (c_12 : Nat) (ht_14 : Sl κ [] A_11 c_12 1 (eI .u64) p_13) (a : Act) (w : World), St 158 a w κ [(0, .bool x0), (1, .slice A_x1 x1.length c_x1), (2, .slice A_11 p_13.length c_12)] (S) → K2 a w := by
  intro p_13 hm A_11 c_12 ht_14 a w hs
  unfold visorlaw29_ReplayMachine.j1 at hm
  refine hK2 _ _ ?_
  refine Vk.seq fun K15 hK15 => ?_
  have hj249 : ∀ (p_50 : Twire_Machine) (p_52 : Tvisorref19_M) (p_55 : List Cells) (p_58 : List Int) (p_59 : Bool), visorlaw29_ReplayMachine.j2 k p_13 p_50 p_52 p_55 p_58 p_59 = some r → ∀ (b_48 : Nat) (b_49 : Nat) (b_51 : Nat) (A_53 : Option Addr) (c_54 : Nat) (A_56 : Option Addr) (c_57 : Nat) (a : Act) (w : World), St 158 a w κ [(2, .slice A_11 p_13.length c_12), (7, pp b_48), (8, .bool p_59)] (pt b_48 (blk [cp b_49, cp b_51, C.slc A_53 p_55.length c_54, C.slc A_56 p_58.length c_57] 28) :: Twire_Machine.own b_49 p_50 :: Tvisorref19_M.own κ b_51 p_52 :: rowp A_53 c_54 56 3 eC p_55 :: rowp A_56 c_57 41 1 (eI .u64) p_58 :: S) → K15 a w := by
   intro p_50 p_52 p_55 p_58 p_59 hm b_48 b_49 b_51 A_53 c_54 A_56 c_57 a w hs
   unfold visorlaw29_ReplayMachine.j2 at hm
   refine hK15 _ _ ?_
   refine Vk.seq fun K60 hK60 => ?_
   refine qsk 2 [2, 7, 35] hs fun a hs => ?_
   refine qcs (!p_59) hs (fun hb => ?_) fun hb => ?_
   ·replace hm := bif_t hm hb
    refine qsr fun K62 hK62 => ?_
    obtain ⟨v_65, h_64, hm⟩ := bind_t hm
    refine qcl (visorlaw29_awake.ok _ _ h_64 _ _ (pt b_48 (blk [cp b_49, cp b_51, C.slc A_53 p_55.length c_54, C.slc A_56 p_58.length c_57] 28) :: Twire_Machine.own b_49 p_50 :: Tvisorref19_M.own κ b_51 p_52 :: rowp A_53 c_54 56 3 eC p_55 :: rowp A_56 c_57 41 1 (eI .u64) p_58 :: S) hs.own) hs fun w a hs => ?_
    refine qpe 1 [(6, .bool v_65)] hs fun a hs => hK62 _ _ ?_
    clear hK62
    refine wp_ret ?_
    exact qr1 (.bool v_65) hs rfl hRR (by cases hm; exact ⟨rfl, (hs.own.too [] 5)⟩)
   ·replace hm := bif_f hm hb
    refine wp_skip ?_
    refine hK60 _ _ ?_
    clear hK60
    refine Vk.seq fun K66 hK66 => ?_
    have hj66 : ∀ (p_83 : Tapi_Trace) (p_92 : List Int), visorlaw29_ReplayMachine.j3 k p_13 p_83 p_92 = some r → ∀ (b_82 : Nat) (A_84 : Option Addr) (c_85 : Nat) (A_87 : Option Addr) (c_88 : Nat) (A_90 : Option Addr) (c_91 : Nat) (a : Act) (w : World), St 158 a w κ [(2, .slice A_11 p_13.length c_12), (9, pp b_82), (10, .slice A_90 p_92.length c_91)] (pt b_82 (blk (Tapi_Trace.obj p_83 A_84 c_85 A_87 c_88) 35) :: rowp A_84 c_85 43 6 Tapi_Op.cells p_83.ops :: rowp A_87 c_88 73 3 Tapi_Span.cells p_83.blocks :: rowp A_90 c_91 41 1 (eI .u64) p_92 :: S) → K66 a w := by
     intro p_83 p_92 hm b_82 A_84 c_85 A_87 c_88 A_90 c_91 a w hs
     unfold visorlaw29_ReplayMachine.j3 at hm
     refine hK66 _ _ ?_
     refine qsr fun K94 hK94 => ?_
     refine qln 0 ([ci p_83.n, C.slc A_84 p_83.ops.length c_85, C.slc A_87 p_83.blocks.length c_88]) hs rfl fun a hs => ?_
     obtain ⟨v_97, h_96, hm⟩ := bind_t hm
     refine qcl (visorref18_Tally.ok _ _ _ h_96 _ _ (pt b_82 (blk (Tapi_Trace.obj p_83 A_84 c_85 A_87 c_88) 35) :: rowp A_84 c_85 43 6 Tapi_Op.cells p_83.ops :: rowp A_87 c_88 73 3 Tapi_Span.cells p_83.blocks :: rowp A_90 c_91 41 1 (eI .u64) p_92 :: S) A_84 c_85 (Sl.lift (fun w ho => (Ow.to (S' := rowp A_84 c_85 43 6 Tapi_Op.cells p_83.ops :: S) ho [1] 4 (by kernel_rfl) (by kernel_rfl))) (Ow.rowSl 0 (Ow.to (S' := rowp A_84 c_85 43 6 Tapi_Op.cells p_83.ops :: S) hs.own [1] 4 (by kernel_rfl) (by kernel_rfl)) rfl)) A_87 c_88 (Sl.lift (fun w ho => (Ow.to (S' := rowp A_87 c_88 73 3 Tapi_Span.cells p_83.blocks :: S) ho [2] 4 (by kernel_rfl) (by kernel_rfl))) (Ow.rowSl 0 (Ow.to (S' := rowp A_87 c_88 73 3 Tapi_Span.cells p_83.blocks :: S) hs.own [2] 4 (by kernel_rfl) (by kernel_rfl)) rfl)) hs.own) hs fun w a hs => ?_
     refine qal 38 [ci 0, ci 0, ci 0, ci 0, ci 0, ci 0, ci 0, ci 0, ci 0, ci 0, ci 0, ci 0, ci 0] 11 hs fun b_98 w a hs => ?_
     obtain ⟨h_99, hm⟩ := ite_t hm
     refine qsb 0 v_97 hs rfl h_99 rfl fun a w hs => ?_
     refine qpk 0 [2, 9, 10, 11] hs fun a hs => hK94 _ _ ?_
     clear hK94
     refine Vk.seq fun K100 hK100 => ?_
     refine Vk.seq fun K101 hK101 => ?_
     have hj101 : ∀ (p_110 : Bool), visorlaw29_ReplayMachine.j4 k p_13 p_83 p_92 v_97 p_110 = some r → ∀ (a : Act) (w : World), St 158 a w κ [(2, .slice A_11 p_13.length c_12), (9, pp b_82), (10, .slice A_90 p_92.length c_91), (11, pp b_98), (62, .bool p_110)] (pt b_82 (blk (Tapi_Trace.obj p_83 A_84 c_85 A_87 c_88) 35) :: rowp A_84 c_85 43 6 Tapi_Op.cells p_83.ops :: rowp A_87 c_88 73 3 Tapi_Span.cells p_83.blocks :: rowp A_90 c_91 41 1 (eI .u64) p_92 :: pt b_98 (blk v_97 38) :: S) → K101 a w := by
      intro p_110 hm a w hs
      unfold visorlaw29_ReplayMachine.j4 at hm
      refine hK101 _ _ ?_
      refine qcs (p_110) hs (fun hb => ?_) fun hb => ?_
      ·replace hm := bif_t hm hb
       refine qse 1 [(6, .bool false)] hs fun a hs => ?_
       refine wp_ret ?_
       exact qr1 (.bool false) hs rfl hRR (by cases hm; exact ⟨rfl, (hs.own.too [] 5)⟩)
      ·replace hm := bif_f hm hb
       refine wp_skip ?_
       refine hK100 _ _ ?_
       clear hK100
       refine Vk.seq fun K112 hK112 => ?_
       have hj112 : ∀ (p_125 : List Int), visorlaw29_ReplayMachine.j5 k p_13 p_83 p_92 v_97 p_125 = some r → ∀ (A_121 : Option Addr) (A_123 : Option Addr) (c_124 : Nat) (a : Act) (w : World), St 158 a w κ [(2, .slice A_11 p_13.length c_12), (9, pp b_82), (10, .slice A_90 p_92.length c_91), (11, pp b_98), (12, .slice A_121 (([] : List Int).length) 0), (13, .slice A_123 p_125.length c_124)] (pt b_82 (blk (Tapi_Trace.obj p_83 A_84 c_85 A_87 c_88) 35) :: rowp A_84 c_85 43 6 Tapi_Op.cells p_83.ops :: rowp A_87 c_88 73 3 Tapi_Span.cells p_83.blocks :: rowp A_90 c_91 41 1 (eI .u64) p_92 :: pt b_98 (blk v_97 38) :: rowp A_121 0 41 1 (eI .u64) ([] : List Int) :: rowp A_123 c_124 41 1 (eI .u64) p_125 :: S) → K112 a w := by
        intro p_125 hm A_121 A_123 c_124 a w hs
        unfold visorlaw29_ReplayMachine.j5 at hm
        refine hK112 _ _ ?_
        refine Vk.seq fun K127 hK127 => ?_
        refine qsk 1 [2, 9, 10, 11, 12, 13, 14] hs fun a hs => ?_
        refine wp_block ?_
        obtain ⟨r129, hl129, hm⟩ := bind_t hm
        have hx129 : ∀ (p_178 : List Int), r129 = p_178 → ∀ (A_176 : Option Addr) (c_177 : Nat) (a : Act) (w : World), St 158 a w κ [(2, .slice A_11 p_13.length c_12), (9, pp b_82), (10, .slice A_90 p_92.length c_91), (11, pp b_98), (12, .slice A_176 p_178.length c_177), (13, .slice A_123 p_125.length c_124)] (pt b_82 (blk (Tapi_Trace.obj p_83 A_84 c_85 A_87 c_88) 35) :: rowp A_84 c_85 43 6 Tapi_Op.cells p_83.ops :: rowp A_87 c_88 73 3 Tapi_Span.cells p_83.blocks :: rowp A_90 c_91 41 1 (eI .u64) p_92 :: pt b_98 (blk v_97 38) :: rowp A_176 c_177 41 1 (eI .u64) p_178 :: rowp A_123 c_124 41 1 (eI .u64) p_125 :: S) → K127 a w := by
         intro p_178 he A_176 c_177 a w hs
         subst r129
         refine hK127 _ _ ?_
         clear hK127
         refine Vk.seq fun K183 hK183 => ?_
         obtain ⟨C_184, hC_184⟩ := qC hs.own
         refine qdr 12 κ C_184 hs fun w hs hqC_184 => ?_
         have hcl := qO hC_184 hs.own
         refine qdp (fuel := 9) [1, 2, 3] hs hcl hqC_184 fun a hs => ?_
         refine qdn 0 0 ([ci p_83.n, C.slc A_84 p_83.ops.length c_85, C.slc A_87 p_83.blocks.length c_88]) hs hcl hqC_184 hC_184 rfl fun a hs => ?_
         obtain ⟨v_186, h_185, hm⟩ := bind_t hm
         refine qdi 4 4 hs hcl hqC_184 hC_184 rfl h_185 fun a hs => ?_
         obtain ⟨h_187, hm⟩ := ite_t hm
         obtain ⟨A_188, c_189, eA_190, ec_191, hx_192⟩ := Sl.sub ht_14 h_187.2
         have ht_193 := hx_192
         replace hx_192 := Sl.top (S := S) hx_192
         refine qdt 5 (.slice A_188 ((cut p_13 (0) (v_186.toNat)).length) c_189) (op := (.slice 23 (.tmp 106) none (some (.tmp 108)) none)) hs hcl hqC_184 (fun w hw o ho => by rw [hC_184] at hw; exact run_sub (sz := 1) (e := 41) h_187.2 eA_190 ec_191 (Sl.le ht_14) ho (by kernel_rfl) (by kernel_rfl) (by kernel_rfl) rfl ⟨.i64, v_186, by kernel_rfl, h_187.1, rfl⟩ _) fun a hs => ?_
         obtain ⟨v_196, h_195, hm⟩ := bind_t hm
         refine Vk.dOnly (i := 6) (by kernel_rfl) (Vk.call (some 110) 11 #[.agg (vals [ci p_83.n, C.slc A_84 p_83.ops.length c_85, C.slc A_87 p_83.blocks.length c_88]), .slice A_176 p_178.length c_177, .slice A_188 ((cut p_13 (0) (v_186.toNat)).length) c_189] hs (by kernel_rfl) (by kernel_rfl) (by kernel_rfl) ?_)
         refine (replay_Run.ok k p_83 p_178 (cut p_13 (0) (v_186.toNat)) v_196 h_195 κ w (pt b_82 (blk (Tapi_Trace.obj p_83 A_84 c_85 A_87 c_88) 35) :: rowp A_84 c_85 43 6 Tapi_Op.cells p_83.ops :: rowp A_87 c_88 73 3 Tapi_Span.cells p_83.blocks :: rowp A_90 c_91 41 1 (eI .u64) p_92 :: pt b_98 (blk v_97 38) :: rowp A_176 c_177 41 1 (eI .u64) p_178 :: rowp A_123 c_124 41 1 (eI .u64) p_125 :: S) A_84 c_85 (Sl.lift (fun w ho => (Ow.to (S' := rowp A_84 c_85 43 6 Tapi_Op.cells p_83.ops :: S) ho [1] 7 (by kernel_rfl) (by kernel_rfl))) (Ow.rowSl 0 (Ow.to (S' := rowp A_84 c_85 43 6 Tapi_Op.cells p_83.ops :: S) hs.own [1] 7 (by kernel_rfl) (by kernel_rfl)) rfl)) A_87 c_88 (Sl.lift (fun w ho => (Ow.to (S' := rowp A_87 c_88 73 3 Tapi_Span.cells p_83.blocks :: S) ho [2] 7 (by kernel_rfl) (by kernel_rfl))) (Ow.rowSl 0 (Ow.to (S' := rowp A_87 c_88 73 3 Tapi_Span.cells p_83.blocks :: S) hs.own [2] 7 (by kernel_rfl) (by kernel_rfl)) rfl)) A_176 c_177 (Sl.lift (fun w ho => (Ow.to (S' := rowp A_176 c_177 41 1 (eI .u64) p_178 :: S) ho [5] 7 (by kernel_rfl) (by kernel_rfl))) (Ow.rowSl 0 (Ow.to (S' := rowp A_176 c_177 41 1 (eI .u64) p_178 :: S) hs.own [5] 7 (by kernel_rfl) (by kernel_rfl)) rfl)) A_188 c_189 hx_192.less.less.less.less.less.less.less hs.own).mono ?_
         rintro _ w ⟨Ar194x0_197, cr194x0_198, rfl, how⟩
         refine ⟨_, _, _, rfl, how, fun a hs => ?_⟩
         replace hcl := qO hC_184 hs.own.drop
         refine ⟨fun _ => hcl, ?_⟩
         refine qdp (fuel := 0) [7, 8, 9, 10, 11] hs hcl hqC_184 fun a hs => ?_
         replace hs := hs.pick [2, 9, 10, 11, 13, 16, 17] (L' := [(2, .slice A_11 p_13.length c_12), (9, pp b_82), (10, .slice A_90 p_92.length c_91), (11, pp b_98), (13, .slice A_123 p_125.length c_124), (16, .slice Ar194x0_197 v_196.1.length cr194x0_198), (17, vi v_196.2)]) (by kernel_rfl)
         refine Vk.dDone (by kernel_rfl) ?_
         refine hK183 _ _ ?_
         clear hK183
         refine Vk.seq fun K199 hK199 => ?_
         obtain ⟨C_200, hC_200⟩ := qC hs.own
         refine qdr 12 κ C_200 hs fun w hs hqC_200 => ?_
         have hcl := qO hC_200 hs.own
         refine qdp (fuel := 9) [1, 2, 3] hs hcl hqC_200 fun a hs => ?_
         refine qdn 0 1 ([ci p_83.n, C.slc A_84 p_83.ops.length c_85, C.slc A_87 p_83.blocks.length c_88]) hs hcl hqC_200 hC_200 rfl fun a hs => ?_
         obtain ⟨v_202, h_201, hm⟩ := bind_t hm
         refine qdi 4 5 hs hcl hqC_200 hC_200 rfl h_201 fun a hs => ?_
         obtain ⟨h_203, hm⟩ := ite_t hm
         obtain ⟨A_204, c_205, eA_206, ec_207, hx_208⟩ := Sl.sub ht_14 h_203.2
         have ht_209 := hx_208
         replace hx_208 := Sl.top (S := S) hx_208
         refine qdt 5 (.slice A_204 ((cut p_13 (0) (v_202.toNat)).length) c_205) (op := (.slice 23 (.tmp 116) none (some (.tmp 118)) none)) hs hcl hqC_200 (fun w hw o ho => by rw [hC_200] at hw; exact run_sub (sz := 1) (e := 41) h_203.2 eA_206 ec_207 (Sl.le ht_14) ho (by kernel_rfl) (by kernel_rfl) (by kernel_rfl) rfl ⟨.i64, v_202, by kernel_rfl, h_203.1, rfl⟩ _) fun a hs => ?_
         obtain ⟨v_212, h_211, hm⟩ := bind_t hm
         refine Vk.dOnly (i := 6) (by kernel_rfl) (Vk.call (some 120) 11 #[.agg (vals [ci p_83.n, C.slc A_84 p_83.ops.length c_85, C.slc A_87 p_83.blocks.length c_88]), .slice A_123 p_125.length c_124, .slice A_204 ((cut p_13 (0) (v_202.toNat)).length) c_205] hs (by kernel_rfl) (by kernel_rfl) (by kernel_rfl) ?_)
         refine (replay_Run.ok k p_83 p_125 (cut p_13 (0) (v_202.toNat)) v_212 h_211 κ w (rowp Ar194x0_197 cr194x0_198 41 1 (eI .u64) v_196.1 :: pt b_82 (blk (Tapi_Trace.obj p_83 A_84 c_85 A_87 c_88) 35) :: rowp A_84 c_85 43 6 Tapi_Op.cells p_83.ops :: rowp A_87 c_88 73 3 Tapi_Span.cells p_83.blocks :: rowp A_90 c_91 41 1 (eI .u64) p_92 :: pt b_98 (blk v_97 38) :: rowp A_176 c_177 41 1 (eI .u64) p_178 :: rowp A_123 c_124 41 1 (eI .u64) p_125 :: S) A_84 c_85 (Sl.lift (fun w ho => (Ow.to (S' := rowp A_84 c_85 43 6 Tapi_Op.cells p_83.ops :: S) ho [2] 8 (by kernel_rfl) (by kernel_rfl))) (Ow.rowSl 0 (Ow.to (S' := rowp A_84 c_85 43 6 Tapi_Op.cells p_83.ops :: S) hs.own [2] 8 (by kernel_rfl) (by kernel_rfl)) rfl)) A_87 c_88 (Sl.lift (fun w ho => (Ow.to (S' := rowp A_87 c_88 73 3 Tapi_Span.cells p_83.blocks :: S) ho [3] 8 (by kernel_rfl) (by kernel_rfl))) (Ow.rowSl 0 (Ow.to (S' := rowp A_87 c_88 73 3 Tapi_Span.cells p_83.blocks :: S) hs.own [3] 8 (by kernel_rfl) (by kernel_rfl)) rfl)) A_123 c_124 ((Ow.rowSl 0 hs.own.drop.drop.drop.drop.drop.drop.drop rfl).less.less.less.less.less.less.less) A_204 c_205 hx_208.less.less.less.less.less.less.less.less hs.own).mono ?_
         rintro _ w ⟨Ar210x0_213, cr210x0_214, rfl, how⟩
         refine ⟨_, _, _, rfl, how, fun a hs => ?_⟩
         replace hcl := qO hC_200 hs.own.drop
         refine ⟨fun _ => hcl, ?_⟩
         refine qdp (fuel := 0) [7, 8, 9, 10, 11] hs hcl hqC_200 fun a hs => ?_
         replace hs := hs.pick [2, 9, 10, 11, 16, 17, 18, 19] (L' := [(2, .slice A_11 p_13.length c_12), (9, pp b_82), (10, .slice A_90 p_92.length c_91), (11, pp b_98), (16, .slice Ar194x0_197 v_196.1.length cr194x0_198), (17, vi v_196.2), (18, .slice Ar210x0_213 v_212.1.length cr210x0_214), (19, vi v_212.2)]) (by kernel_rfl)
         refine Vk.dDone (by kernel_rfl) ?_
         refine hK199 _ _ ?_
         clear hK199
         refine Vk.seq fun K215 hK215 => ?_
         obtain ⟨C_216, hC_216⟩ := qC hs.own
         refine qdr 14 κ C_216 hs fun w hs hqC_216 => ?_
         have hcl := qO hC_216 hs.own
         refine qdp (fuel := 11) [2, 4, 5] hs hcl hqC_216 fun a hs => ?_
         refine qdn 0 2 ([ci p_83.n, C.slc A_84 p_83.ops.length c_85, C.slc A_87 p_83.blocks.length c_88]) hs hcl hqC_216 hC_216 rfl fun a hs => ?_
         refine qdn 1 2 ([ci p_83.n, C.slc A_84 p_83.ops.length c_85, C.slc A_87 p_83.blocks.length c_88]) hs hcl hqC_216 hC_216 rfl fun a hs => ?_
         obtain ⟨v_218, h_217, hm⟩ := bind_t hm
         refine qdi 6 6 hs hcl hqC_216 hC_216 rfl h_217 fun a hs => ?_
         obtain ⟨h_219, hm⟩ := ite_t hm
         obtain ⟨A_220, c_221, eA_222, ec_223, hx_224⟩ := Sl.sub ht_14 h_219.2
         have ht_225 := hx_224
         replace hx_224 := Sl.top (S := S) hx_224
         refine qdt 7 (.slice A_220 ((cut p_13 (0) (v_218.toNat)).length) c_221) (op := (.slice 23 (.tmp 128) none (some (.tmp 130)) none)) hs hcl hqC_216 (fun w hw o ho => by rw [hC_216] at hw; exact run_sub (sz := 1) (e := 41) h_219.2 eA_222 ec_223 (Sl.le ht_14) ho (by kernel_rfl) (by kernel_rfl) (by kernel_rfl) rfl ⟨.i64, v_218, by kernel_rfl, h_219.1, rfl⟩ _) fun a hs => ?_
         obtain ⟨v_228, h_227, hm⟩ := bind_t hm
         refine Vk.dOnly (i := 3) (by kernel_rfl) (Vk.call (some 127) 13 #[.agg (vals [ci p_83.n, C.slc A_84 p_83.ops.length c_85, C.slc A_87 p_83.blocks.length c_88]), .slice Ar210x0_213 v_212.1.length cr210x0_214] hs (by kernel_rfl) (by kernel_rfl) (by kernel_rfl) ?_)
         refine (replay_Opened.ok k p_83 v_212.1 v_228 h_227 κ w (rowp Ar210x0_213 cr210x0_214 41 1 (eI .u64) v_212.1 :: rowp Ar194x0_197 cr194x0_198 41 1 (eI .u64) v_196.1 :: pt b_82 (blk (Tapi_Trace.obj p_83 A_84 c_85 A_87 c_88) 35) :: rowp A_84 c_85 43 6 Tapi_Op.cells p_83.ops :: rowp A_87 c_88 73 3 Tapi_Span.cells p_83.blocks :: rowp A_90 c_91 41 1 (eI .u64) p_92 :: pt b_98 (blk v_97 38) :: rowp A_176 c_177 41 1 (eI .u64) p_178 :: rowp A_123 c_124 41 1 (eI .u64) p_125 :: S) A_84 c_85 (Sl.lift (fun w ho => (Ow.to (S' := rowp A_84 c_85 43 6 Tapi_Op.cells p_83.ops :: S) ho [3] 9 (by kernel_rfl) (by kernel_rfl))) (Ow.rowSl 0 (Ow.to (S' := rowp A_84 c_85 43 6 Tapi_Op.cells p_83.ops :: S) hs.own [3] 9 (by kernel_rfl) (by kernel_rfl)) rfl)) A_87 c_88 (Sl.lift (fun w ho => (Ow.to (S' := rowp A_87 c_88 73 3 Tapi_Span.cells p_83.blocks :: S) ho [4] 9 (by kernel_rfl) (by kernel_rfl))) (Ow.rowSl 0 (Ow.to (S' := rowp A_87 c_88 73 3 Tapi_Span.cells p_83.blocks :: S) hs.own [4] 9 (by kernel_rfl) (by kernel_rfl)) rfl)) Ar210x0_213 cr210x0_214 (Sl.lift (fun w ho => (Ow.to (S' := rowp Ar210x0_213 cr210x0_214 41 1 (eI .u64) v_212.1 :: S) ho [0] 9 (by kernel_rfl) (by kernel_rfl))) (Ow.rowSl 0 (Ow.to (S' := rowp Ar210x0_213 cr210x0_214 41 1 (eI .u64) v_212.1 :: S) hs.own [0] 9 (by kernel_rfl) (by kernel_rfl)) rfl)) hs.own).mono ?_
         rintro _ w ⟨Ar226x0_229, cr226x0_230, rfl, how⟩
         refine ⟨_, _, _, rfl, how, fun a hs => ?_⟩
         replace hcl := qO hC_216 hs.own.drop
         refine ⟨fun _ => hcl, ?_⟩
         obtain ⟨v_233, h_232, hm⟩ := bind_t hm
         refine Vk.dOnly (i := 8) (by kernel_rfl) (Vk.call (some 132) 12 #[.agg (vals [ci p_83.n, C.slc A_84 p_83.ops.length c_85, C.slc A_87 p_83.blocks.length c_88]), .slice Ar226x0_229 v_228.length cr226x0_230, .slice A_220 ((cut p_13 (0) (v_218.toNat)).length) c_221] hs (by kernel_rfl) (by kernel_rfl) (by kernel_rfl) ?_)
         refine (replay_Blind.ok k p_83 v_228 (cut p_13 (0) (v_218.toNat)) v_233 h_232 κ w (rowp Ar226x0_229 cr226x0_230 41 1 (eI .u64) v_228 :: rowp Ar210x0_213 cr210x0_214 41 1 (eI .u64) v_212.1 :: rowp Ar194x0_197 cr194x0_198 41 1 (eI .u64) v_196.1 :: pt b_82 (blk (Tapi_Trace.obj p_83 A_84 c_85 A_87 c_88) 35) :: rowp A_84 c_85 43 6 Tapi_Op.cells p_83.ops :: rowp A_87 c_88 73 3 Tapi_Span.cells p_83.blocks :: rowp A_90 c_91 41 1 (eI .u64) p_92 :: pt b_98 (blk v_97 38) :: rowp A_176 c_177 41 1 (eI .u64) p_178 :: rowp A_123 c_124 41 1 (eI .u64) p_125 :: S) A_84 c_85 (Sl.lift (fun w ho => (Ow.to (S' := rowp A_84 c_85 43 6 Tapi_Op.cells p_83.ops :: S) ho [4] 10 (by kernel_rfl) (by kernel_rfl))) (Ow.rowSl 0 (Ow.to (S' := rowp A_84 c_85 43 6 Tapi_Op.cells p_83.ops :: S) hs.own [4] 10 (by kernel_rfl) (by kernel_rfl)) rfl)) A_87 c_88 (Sl.lift (fun w ho => (Ow.to (S' := rowp A_87 c_88 73 3 Tapi_Span.cells p_83.blocks :: S) ho [5] 10 (by kernel_rfl) (by kernel_rfl))) (Ow.rowSl 0 (Ow.to (S' := rowp A_87 c_88 73 3 Tapi_Span.cells p_83.blocks :: S) hs.own [5] 10 (by kernel_rfl) (by kernel_rfl)) rfl)) Ar226x0_229 cr226x0_230 (Sl.lift (fun w ho => (Ow.to (S' := rowp Ar226x0_229 cr226x0_230 41 1 (eI .u64) v_228 :: S) ho [0] 10 (by kernel_rfl) (by kernel_rfl))) (Ow.rowSl 0 (Ow.to (S' := rowp Ar226x0_229 cr226x0_230 41 1 (eI .u64) v_228 :: S) hs.own [0] 10 (by kernel_rfl) (by kernel_rfl)) rfl)) A_220 c_221 hx_224.less.less.less.less.less.less.less.less.less.less hs.own).mono ?_
         rintro _ w ⟨Ar231x0_234, cr231x0_235, rfl, how⟩
         refine ⟨_, _, _, rfl, how, fun a hs => ?_⟩
         replace hcl := qO hC_216 hs.own.f1.drop.drop
         refine ⟨fun _ => hcl, ?_⟩
         refine qdp (fuel := 0) [9, 10, 11, 12, 13] hs hcl hqC_216 fun a hs => ?_
         replace hs := hs.pick [10, 16, 17, 18, 19, 20, 21] (L' := [(10, .slice A_90 p_92.length c_91), (16, .slice Ar194x0_197 v_196.1.length cr194x0_198), (17, vi v_196.2), (18, .slice Ar210x0_213 v_212.1.length cr210x0_214), (19, vi v_212.2), (20, .slice Ar231x0_234 v_233.1.length cr231x0_235), (21, vi v_233.2)]) (by kernel_rfl)
         refine Vk.dDone (by kernel_rfl) ?_
         refine hK215 _ _ ?_
         clear hK215
         refine Vk.seq fun K236 hK236 => ?_
         have hj236 : ∀ (p_248 : Bool), visorlaw29_ReplayMachine.j7 k p_248 = some r → ∀ (a : Act) (w : World), St 158 a w κ [(6, .bool p_248)] (S) → K236 a w := by
          intro p_248 hm a w hs
          unfold visorlaw29_ReplayMachine.j7 at hm
          refine hK236 _ _ ?_
          refine wp_ret ?_
          exact qr1 (.bool p_248) hs rfl hRR (by cases hm; exact ⟨rfl, hs.own⟩)
         refine Vk.region ?_
         refine qpu 3 hs fun a hs => ?_
         refine qsc 137 3 hs fun a hs => ?_
         refine qpu 1 hs fun a hs => ?_
         refine qsc 141 3 hs fun a hs => ?_
         refine qpu 1 hs fun a hs => ?_
         rcases Bool.eq_false_or_eq_true (((v_196.2 == 0) && (v_212.2 == 0)) && (v_233.2 == 0)) with hb | hb
         ·replace hm := bif_t hm hb
          replace hs := hs.known (t := 145) hb (by kernel_rfl)
          refine qpu 2 hs fun a hs => ?_
          obtain ⟨v_241, h_240, hm⟩ := bind_t hm
          refine qcl (visorref29_Same.ok _ _ _ _ h_240 _ _ (rowp Ar231x0_234 cr231x0_235 41 1 (eI .u64) v_233.1 :: rowp Ar226x0_229 cr226x0_230 41 1 (eI .u64) v_228 :: rowp Ar210x0_213 cr210x0_214 41 1 (eI .u64) v_212.1 :: rowp Ar194x0_197 cr194x0_198 41 1 (eI .u64) v_196.1 :: pt b_82 (blk (Tapi_Trace.obj p_83 A_84 c_85 A_87 c_88) 35) :: rowp A_84 c_85 43 6 Tapi_Op.cells p_83.ops :: rowp A_87 c_88 73 3 Tapi_Span.cells p_83.blocks :: rowp A_90 c_91 41 1 (eI .u64) p_92 :: pt b_98 (blk v_97 38) :: rowp A_176 c_177 41 1 (eI .u64) p_178 :: rowp A_123 c_124 41 1 (eI .u64) p_125 :: S) Ar194x0_197 cr194x0_198 (Sl.lift (fun w ho => (Ow.to (S' := rowp Ar194x0_197 cr194x0_198 41 1 (eI .u64) v_196.1 :: S) ho [3] 11 (by kernel_rfl) (by kernel_rfl))) (Ow.rowSl 0 (Ow.to (S' := rowp Ar194x0_197 cr194x0_198 41 1 (eI .u64) v_196.1 :: S) hs.own [3] 11 (by kernel_rfl) (by kernel_rfl)) rfl)) A_90 c_91 (Sl.lift (fun w ho => (Ow.to (S' := rowp A_90 c_91 41 1 (eI .u64) p_92 :: S) ho [7] 11 (by kernel_rfl) (by kernel_rfl))) (Ow.rowSl 0 (Ow.to (S' := rowp A_90 c_91 41 1 (eI .u64) p_92 :: S) hs.own [7] 11 (by kernel_rfl) (by kernel_rfl)) rfl)) hs.own) hs fun w a hs => ?_
          refine qpu 2 hs fun a hs => ?_
          rcases Bool.eq_false_or_eq_true (v_241) with hb | hb
          ·replace hm := bif_t hm hb
           replace hs := hs.known (t := 150) hb (by kernel_rfl)
           refine qpu 2 hs fun a hs => ?_
           obtain ⟨v_244, h_243, hm⟩ := bind_t hm
           refine qcl (visorref29_Same.ok _ _ _ _ h_243 _ _ (rowp Ar231x0_234 cr231x0_235 41 1 (eI .u64) v_233.1 :: rowp Ar226x0_229 cr226x0_230 41 1 (eI .u64) v_228 :: rowp Ar210x0_213 cr210x0_214 41 1 (eI .u64) v_212.1 :: rowp Ar194x0_197 cr194x0_198 41 1 (eI .u64) v_196.1 :: pt b_82 (blk (Tapi_Trace.obj p_83 A_84 c_85 A_87 c_88) 35) :: rowp A_84 c_85 43 6 Tapi_Op.cells p_83.ops :: rowp A_87 c_88 73 3 Tapi_Span.cells p_83.blocks :: rowp A_90 c_91 41 1 (eI .u64) p_92 :: pt b_98 (blk v_97 38) :: rowp A_176 c_177 41 1 (eI .u64) p_178 :: rowp A_123 c_124 41 1 (eI .u64) p_125 :: S) Ar210x0_213 cr210x0_214 (Sl.lift (fun w ho => (Ow.to (S' := rowp Ar210x0_213 cr210x0_214 41 1 (eI .u64) v_212.1 :: S) ho [2] 11 (by kernel_rfl) (by kernel_rfl))) (Ow.rowSl 0 (Ow.to (S' := rowp Ar210x0_213 cr210x0_214 41 1 (eI .u64) v_212.1 :: S) hs.own [2] 11 (by kernel_rfl) (by kernel_rfl)) rfl)) Ar231x0_234 cr231x0_235 (Sl.lift (fun w ho => (Ow.to (S' := rowp Ar231x0_234 cr231x0_235 41 1 (eI .u64) v_233.1 :: S) ho [0] 11 (by kernel_rfl) (by kernel_rfl))) (Ow.rowSl 0 (Ow.to (S' := rowp Ar231x0_234 cr231x0_235 41 1 (eI .u64) v_233.1 :: S) hs.own [0] 11 (by kernel_rfl) (by kernel_rfl)) rfl)) hs.own) hs fun w a hs => ?_
           refine qpu 2 hs fun a hs => ?_
           rcases Bool.eq_false_or_eq_true (v_244) with hb | hb
           ·replace hm := bif_t hm hb
            replace hs := hs.known (t := 155) hb (by kernel_rfl)
            obtain ⟨v_247, h_246, hm⟩ := bind_t hm
            refine qcl (visorlaw29_awake.ok _ _ h_246 _ _ (rowp Ar231x0_234 cr231x0_235 41 1 (eI .u64) v_233.1 :: rowp Ar226x0_229 cr226x0_230 41 1 (eI .u64) v_228 :: rowp Ar210x0_213 cr210x0_214 41 1 (eI .u64) v_212.1 :: rowp Ar194x0_197 cr194x0_198 41 1 (eI .u64) v_196.1 :: pt b_82 (blk (Tapi_Trace.obj p_83 A_84 c_85 A_87 c_88) 35) :: rowp A_84 c_85 43 6 Tapi_Op.cells p_83.ops :: rowp A_87 c_88 73 3 Tapi_Span.cells p_83.blocks :: rowp A_90 c_91 41 1 (eI .u64) p_92 :: pt b_98 (blk v_97 38) :: rowp A_176 c_177 41 1 (eI .u64) p_178 :: rowp A_123 c_124 41 1 (eI .u64) p_125 :: S) hs.own) hs fun w a hs => ?_
            refine qpe 2 [(6, .bool v_247)] hs fun a hs => ?_
            exact hj236 v_247 hm _ _ (hs.go [6] [] 11 (by kernel_rfl) (by kernel_rfl) (by kernel_rfl))
           ·replace hm := bif_f hm hb
            replace hs := hs.known (t := 155) hb (by kernel_rfl)
            refine qpe 3 [(6, .bool false)] hs fun a hs => ?_
            exact hj236 false hm _ _ (hs.go [6] [] 11 (by kernel_rfl) (by kernel_rfl) (by kernel_rfl))
          ·replace hm := bif_f hm hb
           replace hs := hs.known (t := 150) hb (by kernel_rfl)
           refine qpe 8 [(6, .bool false)] hs fun a hs => ?_
           exact hj236 false hm _ _ (hs.go [6] [] 11 (by kernel_rfl) (by kernel_rfl) (by kernel_rfl))
         ·replace hm := bif_f hm hb
          replace hs := hs.known (t := 145) hb (by kernel_rfl)
          refine qpe 13 [(6, .bool false)] hs fun a hs => ?_
          exact hj236 false hm _ _ (hs.go [6] [] 11 (by kernel_rfl) (by kernel_rfl) (by kernel_rfl))
        refine Vk.loopBy (fun k (s : List Int × Int) a w => ∃ (A_130 : Option Addr), ∃ (c_131 : Nat), visorlaw29_ReplayMachine.l1 p_83 p_92 k s.1 s.2 = some r129 ∧ St 158 a w κ [(2, .slice A_11 p_13.length c_12), (9, pp b_82), (10, .slice A_90 p_92.length c_91), (11, pp b_98), (12, .slice A_130 s.1.length c_131), (13, .slice A_123 p_125.length c_124), (14, vi s.2)] (pt b_82 (blk (Tapi_Trace.obj p_83 A_84 c_85 A_87 c_88) 35) :: rowp A_84 c_85 43 6 Tapi_Op.cells p_83.ops :: rowp A_87 c_88 73 3 Tapi_Span.cells p_83.blocks :: rowp A_90 c_91 41 1 (eI .u64) p_92 :: pt b_98 (blk v_97 38) :: rowp A_130 c_131 41 1 (eI .u64) s.1 :: rowp A_123 c_124 41 1 (eI .u64) p_125 :: S)) k (([] : List Int), 0) ⟨A_121, 0, hl129, hs.go [2, 9, 10, 11, 12, 13, 14] [0, 1, 2, 3, 4, 5, 6] 7 (by kernel_rfl) (by kernel_rfl) (by kernel_rfl)⟩ (fun s a w h => by obtain ⟨_, _, h1, _⟩ := h; simp [visorlaw29_ReplayMachine.l1] at h1) (fun k KL129 ih s a w h => ?_)
        obtain ⟨q_132, q_133⟩ := s
        obtain ⟨A_130, c_131, hm, hs⟩ := h
        try dsimp only at hm hs
        rw [visorlaw29_ReplayMachine.l1] at hm
        refine Vk.seq fun K134 hK134 => ?_
        refine qsr fun K135 hK135 => ?_
        refine qpu 2 hs fun a hs => ?_
        refine qld 0 (C.slc A_84 p_83.ops.length c_85) hs rfl fun a hs => ?_
        refine qpk 2 [2, 9, 10, 11, 12, 13, 14, 71] hs fun a hs => hK135 _ _ ?_
        clear hK135
        refine qcs (decide (q_133 < ((p_83.ops.length : Nat) : Int))) hs (fun hb => ?_) fun hb => ?_
        ·replace hm := bif_t hm hb
         refine wp_skip ?_
         refine hK134 _ _ ?_
         clear hK134
         refine Vk.seq fun K136 hK136 => ?_
         have hj136 : ∀ (p_175 : List Int), visorlaw29_ReplayMachine.j6 k (visorlaw29_ReplayMachine.l1 p_83 p_92 k) q_133 p_175 = some r129 → ∀ (A_173 : Option Addr) (c_174 : Nat) (a : Act) (w : World), St 158 a w κ [(2, .slice A_11 p_13.length c_12), (9, pp b_82), (10, .slice A_90 p_92.length c_91), (11, pp b_98), (12, .slice A_173 p_175.length c_174), (13, .slice A_123 p_125.length c_124), (14, vi q_133)] (pt b_82 (blk (Tapi_Trace.obj p_83 A_84 c_85 A_87 c_88) 35) :: rowp A_84 c_85 43 6 Tapi_Op.cells p_83.ops :: rowp A_87 c_88 73 3 Tapi_Span.cells p_83.blocks :: rowp A_90 c_91 41 1 (eI .u64) p_92 :: pt b_98 (blk v_97 38) :: rowp A_173 c_174 41 1 (eI .u64) p_175 :: rowp A_123 c_124 41 1 (eI .u64) p_125 :: S) → K136 a w := by
          intro p_175 hm A_173 c_174 a w hs
          unfold visorlaw29_ReplayMachine.j6 at hm
          refine hK136 _ _ ?_
          refine Vk.region ?_
          refine qpk 3 [2, 9, 10, 11, 12, 13, 14] hs fun a hs => ?_
          refine ih (p_175, (IntKind.i64.wrap (q_133 + 1))) _ _ ⟨A_173, c_174, hm, hs.go [2, 9, 10, 11, 12, 13, 14] [0, 1, 2, 3, 4, 5, 6] 7 (by kernel_rfl) (by kernel_rfl) (by kernel_rfl)⟩
         refine wp_block ?_
         refine qsr fun K137 hK137 => ?_
         refine qpu 1 hs fun a hs => ?_
         refine qld 0 (C.slc A_84 p_83.ops.length c_85) hs rfl fun a hs => ?_
         refine qpu 1 hs fun a hs => ?_
         obtain ⟨h_138, hm⟩ := ite_t hm
         obtain ⟨e_141, h_139, hm⟩ := bind_t hm
         obtain ⟨b_142, o_143, hA_144, h_140⟩ := Sl.elem (Ow.rowSl 0 (Ow.to (S' := rowp A_84 c_85 43 6 Tapi_Op.cells p_83.ops :: S) hs.own [1] 7 (by kernel_rfl) (by kernel_rfl)) rfl) h_139
         refine qva (.pointer (some ⟨b_142, o_143 + q_133.toNat * 6, none⟩)) (op := (.indexAddr 32 (.tmp 75) (.tmp 76))) hs (fun o ho => run_idxSlc (k := .i64) ho (cap := c_85) (len := p_83.ops.length) ((congrArg (fun A => Value.slice A (p_83.ops.length) (c_85)) hA_144) ▸ (by kernel_rfl)) (by kernel_rfl) (by kernel_rfl) (idx_ok h_138 h_139) _) fun a hs => ?_
         refine qpu 1 hs fun a hs => ?_
         refine qva (vi e_141.kind) (op := (.load 3 (.tmp 78))) hs (fun o ho => run_load1 (b := b_142) (off := o_143 + q_133.toNat * 6) (c := ci e_141.kind) ho (by kernel_rfl) (by kernel_rfl) (CellsAt.cell h_140 (i := 0) (by kernel_rfl)) _ (Ow.to (S' := rowp A_84 c_85 43 6 Tapi_Op.cells p_83.ops :: S) hs.own [1] 7 (by kernel_rfl) (by kernel_rfl))) fun a hs => ?_
         refine qpk 1 [2, 9, 10, 11, 12, 13, 14, 80] hs fun a hs => hK137 _ _ ?_
         clear hK137
         refine qcs (e_141.kind == 2) hs (fun hb => ?_) fun hb => ?_
         ·replace hm := bif_t hm hb
          refine qsr fun K145 hK145 => ?_
          refine qpu 1 hs fun a hs => ?_
          refine qld 0 (C.slc A_84 p_83.ops.length c_85) hs rfl fun a hs => ?_
          refine qpu 1 hs fun a hs => ?_
          obtain ⟨h_146, hm⟩ := ite_t hm
          obtain ⟨e_149, h_147, hm⟩ := bind_t hm
          obtain ⟨b_150, o_151, hA_152, h_148⟩ := Sl.elem (Ow.rowSl 0 (Ow.to (S' := rowp A_84 c_85 43 6 Tapi_Op.cells p_83.ops :: S) hs.own [1] 7 (by kernel_rfl) (by kernel_rfl)) rfl) h_147
          refine qva (.pointer (some ⟨b_150, o_151 + q_133.toNat * 6, none⟩)) (op := (.indexAddr 32 (.tmp 82) (.tmp 83))) hs (fun o ho => run_idxSlc (k := .i64) ho (cap := c_85) (len := p_83.ops.length) ((congrArg (fun A => Value.slice A (p_83.ops.length) (c_85)) hA_152) ▸ (by kernel_rfl)) (by kernel_rfl) (by kernel_rfl) (idx_ok h_146 h_147) _) fun a hs => ?_
          refine qva (.agg (vals [ci e_149.kind, ci e_149.dom, ci e_149.a, ci e_149.b, ci e_149.d, cw e_149.c])) (op := (.load 43 (.tmp 84))) hs (fun o ho => run_loadN (cs := [ci e_149.kind, ci e_149.dom, ci e_149.a, ci e_149.b, ci e_149.d, cw e_149.c]) ho (by kernel_rfl) (by kernel_rfl) rfl h_148 _ (Ow.to (S' := rowp A_84 c_85 43 6 Tapi_Op.cells p_83.ops :: S) hs.own [1] 7 (by kernel_rfl) (by kernel_rfl))) fun a hs => ?_
          refine qal 43 [ci 0, ci 0, ci 0, ci 0, ci 0, cw 0] 15 hs fun b_153 w a hs => ?_
          refine qsa 0 [ci e_149.kind, ci e_149.dom, ci e_149.a, ci e_149.b, ci e_149.d, cw e_149.c] hs rfl fun a w hs => ?_
          refine qpe 0 [(2, .slice A_11 p_13.length c_12), (9, pp b_82), (10, .slice A_90 p_92.length c_91), (11, pp b_98), (12, .slice A_130 q_132.length c_131), (13, .slice A_123 p_125.length c_124), (14, vi q_133), (15, pp b_153)] hs fun a hs => hK145 _ _ ?_
          clear hK145
          obtain ⟨C_154, hC_154⟩ : ∃ X0 : List HP, X0 = (pt b_153 (blk (Tapi_Op.cells e_149) 43) :: pt b_82 (blk (Tapi_Trace.obj p_83 A_84 c_85 A_87 c_88) 35) :: rowp A_84 c_85 43 6 Tapi_Op.cells p_83.ops :: rowp A_87 c_88 73 3 Tapi_Span.cells p_83.blocks :: rowp A_90 c_91 41 1 (eI .u64) p_92 :: pt b_98 (blk v_97 38) :: rowp A_130 c_131 41 1 (eI .u64) q_132 :: rowp A_123 c_124 41 1 (eI .u64) p_125 :: S) := ⟨_, rfl⟩
          refine qdr 16 κ C_154 hs fun w hs hqC_154 => ?_
          have hcz : Ow κ w (pt b_153 (blk (Tapi_Op.cells e_149) 43) :: pt b_82 (blk (Tapi_Trace.obj p_83 A_84 c_85 A_87 c_88) 35) :: rowp A_84 c_85 43 6 Tapi_Op.cells p_83.ops :: rowp A_87 c_88 73 3 Tapi_Span.cells p_83.blocks :: rowp A_90 c_91 41 1 (eI .u64) p_92 :: pt b_98 (blk v_97 38) :: rowp A_130 c_131 41 1 (eI .u64) q_132 :: rowp A_123 c_124 41 1 (eI .u64) p_125 :: S) := hs.own
          have hcl : Ow κ w C_154 := by rw [hC_154]; exact hcz
          refine qdp (fuel := 11) [0, 1, 2, 5, 6, 10, 11] hs hcl hqC_154 fun a hs => ?_
          obtain ⟨h_155, hm⟩ := ite_t hm
          obtain ⟨e_158, h_156, hm⟩ := bind_t hm
          obtain ⟨b_159, o_160, hA_161, h_157⟩ := Sl.elem (Ow.rowSl 0 (Ow.to (S' := rowp A_90 c_91 41 1 (eI .u64) p_92 :: S) hcz [4] 8 (by kernel_rfl) (by kernel_rfl)) rfl) h_156
          refine qdt 3 (.pointer (some ⟨b_159, o_160 + q_133.toNat * 1, none⟩)) (op := (.indexAddr 23 (.tmp 87) (.tmp 88))) hs hcl hqC_154 (fun w hw o ho => by rw [hC_154] at hw; exact run_idxSlc (k := .i64) ho (cap := c_91) (len := p_92.length) ((congrArg (fun A => Value.slice A (p_92.length) (c_91)) hA_161) ▸ (by kernel_rfl)) (by kernel_rfl) (by kernel_rfl) (idx_ok h_155 h_156) _) fun a hs => ?_
          refine qdt 4 (vw e_158) (op := (.load 41 (.tmp 89))) hs hcl hqC_154 (fun w hw o ho => by rw [hC_154] at hw; exact run_load1 (c := cw e_158) ho (by kernel_rfl) (by kernel_rfl) (fun w ho => h_157 w ho 0 _ rfl) _ (Ow.to (S' := rowp A_90 c_91 41 1 (eI .u64) p_92 :: S) hw [4] 8 (by kernel_rfl) (by kernel_rfl))) fun a hs => ?_
          refine qdl 7 0 (ci e_149.a) hs hcl hqC_154 hC_154 rfl fun a hs => ?_
          refine qdl 12 0 (ci e_149.b) hs hcl hqC_154 hC_154 rfl fun a hs => ?_
          obtain ⟨v_164, h_163, hm⟩ := bind_t hm
          refine qdc 8 (visorref29_Word.ok _ _ _ _ h_163 _ _ (pt b_153 (blk (Tapi_Op.cells e_149) 43) :: pt b_82 (blk (Tapi_Trace.obj p_83 A_84 c_85 A_87 c_88) 35) :: rowp A_84 c_85 43 6 Tapi_Op.cells p_83.ops :: rowp A_87 c_88 73 3 Tapi_Span.cells p_83.blocks :: rowp A_90 c_91 41 1 (eI .u64) p_92 :: pt b_98 (blk v_97 38) :: rowp A_130 c_131 41 1 (eI .u64) q_132 :: rowp A_123 c_124 41 1 (eI .u64) p_125 :: S) A_90 c_91 (Sl.lift (fun w ho => (Ow.to (S' := rowp A_90 c_91 41 1 (eI .u64) p_92 :: S) ho [4] 8 (by kernel_rfl) (by kernel_rfl))) (Ow.rowSl 0 (Ow.to (S' := rowp A_90 c_91 41 1 (eI .u64) p_92 :: S) hs.own [4] 8 (by kernel_rfl) (by kernel_rfl)) rfl)) hs.own) hs fun w a hs => ?_
          replace hcl := qO hC_154 hs.own
          refine ⟨fun _ => hcl, ?_⟩
          refine qdp (fuel := 5) [9] hs hcl hqC_154 fun a hs => ?_
          obtain ⟨v_167, h_166, hm⟩ := bind_t hm
          refine qdc 13 (visorref29_Word.ok _ _ _ _ h_166 _ _ (pt b_153 (blk (Tapi_Op.cells e_149) 43) :: pt b_82 (blk (Tapi_Trace.obj p_83 A_84 c_85 A_87 c_88) 35) :: rowp A_84 c_85 43 6 Tapi_Op.cells p_83.ops :: rowp A_87 c_88 73 3 Tapi_Span.cells p_83.blocks :: rowp A_90 c_91 41 1 (eI .u64) p_92 :: pt b_98 (blk v_97 38) :: rowp A_130 c_131 41 1 (eI .u64) q_132 :: rowp A_123 c_124 41 1 (eI .u64) p_125 :: S) A_90 c_91 (Sl.lift (fun w ho => (Ow.to (S' := rowp A_90 c_91 41 1 (eI .u64) p_92 :: S) ho [4] 8 (by kernel_rfl) (by kernel_rfl))) (Ow.rowSl 0 (Ow.to (S' := rowp A_90 c_91 41 1 (eI .u64) p_92 :: S) hs.own [4] 8 (by kernel_rfl) (by kernel_rfl)) rfl)) hs.own) hs fun w a hs => ?_
          replace hcl := qO hC_154 hs.own
          refine ⟨fun _ => hcl, ?_⟩
          refine qdp (fuel := 3) [14] hs hcl hqC_154 fun a hs => ?_
          refine Vk.dOnly (i := 15) (by kernel_rfl) (Vk.buildOp (sz := 1) (by_ := 8) (t := 23) (e := 41) (parts := #[(0, (.tmp 100))]) (zs := vals [cw 0]) ([bxor .u64 (bxor .u64 e_158 v_164) v_167] : List Int) (eI .u64) (some 101) hs (by kernel_rfl) (by kernel_rfl) (by kernel_rfl) (by kernel_rfl) (by decide) rfl (fun x _ => rfl) (Nat.le_of_ble_eq_true (by kernel_rfl)) (by kernel_rfl) fun A_168 w a hs => ?_)
          replace hcl := qO hC_154 hs.own.drop
          refine ⟨fun _ => hcl, ?_⟩
          obtain ⟨h_170, hm⟩ := ite_t hm
          refine Vk.dOnly (i := 16) (by kernel_rfl) (Vk.appendOp (x := (.tmp 86)) (y := (.tmp 101)) (e := 41) (t := 23) (by_ := 8) (sz := 1) (enc := (eI .u64)) (A := A_130) (cap := c_131) (xs := q_132) (ys := ([bxor .u64 (bxor .u64 e_158 v_164) v_167] : List Int)) (B := A_168) (c2 := 1) 7 (some 102) hs (by kernel_rfl) (by kernel_rfl) (by kernel_rfl) (by kernel_rfl) rfl (Sl.lift (fun w ho => (Ow.to (S' := rowp A_168 1 41 1 (eI .u64) ([bxor .u64 (bxor .u64 e_158 v_164) v_167] : List Int) :: S) ho [0] 9 (by kernel_rfl) (by kernel_rfl))) (Ow.rowSl 0 (Ow.to (S' := rowp A_168 1 41 1 (eI .u64) ([bxor .u64 (bxor .u64 e_158 v_164) v_167] : List Int) :: S) hs.own [0] 9 (by kernel_rfl) (by kernel_rfl)) rfl)) (by kernel_rfl) (by kernel_rfl) (by decide) (by decide) h_170 fun A_171 c_172 w a hs => ?_)
          refine ⟨fun h => absurd h (by decide), ?_⟩
          refine Vk.dOnly (i := 17) (by kernel_rfl) (Vk.dPure1 [(12, .slice A_171 ((q_132 ++ ([bxor .u64 (bxor .u64 e_158 v_164) v_167] : List Int)).length) c_172)] hs (by kernel_rfl) fun a hs => ?_)
          refine ⟨fun h => absurd h (by decide), ?_⟩
          replace hs := hs.pick [2, 9, 10, 11, 12, 13, 14] (L' := [(2, .slice A_11 p_13.length c_12), (9, pp b_82), (10, .slice A_90 p_92.length c_91), (11, pp b_98), (12, .slice A_171 ((q_132 ++ ([bxor .u64 (bxor .u64 e_158 v_164) v_167] : List Int)).length) c_172), (13, .slice A_123 p_125.length c_124), (14, vi q_133)]) (by kernel_rfl)
          refine Vk.dDone (by kernel_rfl) ?_
          exact hj136 (q_132 ++ ([bxor .u64 (bxor .u64 e_158 v_164) v_167] : List Int)) hm A_171 c_172 _ _ (hs.go [2, 9, 10, 11, 12, 13, 14] [2, 3, 4, 5, 6, 7, 8] 9 (by kernel_rfl) (by kernel_rfl) (by kernel_rfl))
         ·replace hm := bif_f hm hb
          refine wp_skip ?_
          exact hj136 q_132 hm A_130 c_131 _ _ (hs.go [2, 9, 10, 11, 12, 13, 14] [0, 1, 2, 3, 4, 5, 6] 7 (by kernel_rfl) (by kernel_rfl) (by kernel_rfl))
        ·replace hm := bif_f hm hb
         refine wp_exit ?_
         exact hx129 q_132 (Option.some.inj hm).symm A_130 c_131 _ _ (hs.go [2, 9, 10, 11, 12, 13] [0, 1, 2, 3, 4, 5, 6] 7 (by kernel_rfl) (by kernel_rfl) (by kernel_rfl))
       obtain ⟨C_113, hC_113⟩ := qC hs.own
       refine qdr 6 κ C_113 hs fun w hs hqC_113 => ?_
       have hcl := qO hC_113 hs.own
       refine qdp (fuel := 5) [1] hs hcl hqC_113 fun a hs => ?_
       obtain ⟨v_115, h_114, hm⟩ := bind_t hm
       refine qdi 2 4 hs hcl hqC_113 hC_113 rfl h_114 fun a hs => ?_
       refine Vk.dMany2 (i0 := 0) (i1 := 3) (by kernel_rfl) ?_ ?_
       ·exact by
         refine Vk.buildOp (sz := 1) (by_ := 8) (t := 23) (e := 41) (parts := #[]) (zs := vals [cw 0]) ([] : List Int) (eI .u64) (some 63) hs (by kernel_rfl) (by kernel_rfl) (by kernel_rfl) (by kernel_rfl) (by decide) rfl (fun x _ => rfl) (Nat.le_of_ble_eq_true (by kernel_rfl)) (by kernel_rfl) fun A_116 w a hs => ?_
         replace hcl := qO hC_113 hs.own.drop
         refine ⟨fun _ => hcl, ?_⟩
         refine qdp (fuel := 2) [4] hs hcl hqC_113 fun a hs => ?_
         obtain ⟨h_118, hm⟩ := ite_t hm
         refine Vk.dOnly (i := 3) (by kernel_rfl) (Vk.makeOp (x := (.tmp 65)) (y := (.tmp 65)) (kl := .i64) (kc := .i64) (enc := (eI .u64)) (sz := 1) (by_ := 8) (t := 23) (e := 41) (0) (some 66) hs (by kernel_rfl) (by kernel_rfl) (by kernel_rfl) (by kernel_rfl) (by kernel_rfl) (by kernel_rfl) rfl (by decide) h_118 (by decide) fun A_119 w a hs => ?_)
         replace hcl := qO hC_113 hs.own.f1.drop.drop
         refine ⟨fun _ => hcl, ?_⟩
         refine qdp (fuel := 0) [5] hs hcl hqC_113 fun a hs => ?_
         replace hs := hs.pick [2, 9, 10, 11, 12, 13] (L' := [(2, .slice A_11 p_13.length c_12), (9, pp b_82), (10, .slice A_90 p_92.length c_91), (11, pp b_98), (12, .slice A_116 (([] : List Int).length) 0), (13, .slice A_119 ((List.replicate v_115.toNat 0 : List Int).length) v_115.toNat)]) (by kernel_rfl)
         refine Vk.dDone (by kernel_rfl) ?_
         exact hj112 (List.replicate v_115.toNat 0 : List Int) hm A_116 A_119 v_115.toNat _ _ (hs.go [2, 9, 10, 11, 12, 13] [2, 3, 4, 5, 6, 1, 0] 7 (by kernel_rfl) (by kernel_rfl) (by kernel_rfl))
       ·exact by
         obtain ⟨h_116, hm⟩ := ite_t hm
         refine Vk.makeOp (x := (.tmp 65)) (y := (.tmp 65)) (kl := .i64) (kc := .i64) (enc := (eI .u64)) (sz := 1) (by_ := 8) (t := 23) (e := 41) (0) (some 66) hs (by kernel_rfl) (by kernel_rfl) (by kernel_rfl) (by kernel_rfl) (by kernel_rfl) (by kernel_rfl) rfl (by decide) h_116 (by decide) fun A_117 w a hs => ?_
         replace hcl := qO hC_113 hs.own.drop
         refine ⟨fun _ => hcl, ?_⟩
         refine Vk.dOnly (i := 0) (by kernel_rfl) (Vk.buildOp (sz := 1) (by_ := 8) (t := 23) (e := 41) (parts := #[]) (zs := vals [cw 0]) ([] : List Int) (eI .u64) (some 63) hs (by kernel_rfl) (by kernel_rfl) (by kernel_rfl) (by kernel_rfl) (by decide) rfl (fun x _ => rfl) (Nat.le_of_ble_eq_true (by kernel_rfl)) (by kernel_rfl) fun A_119 w a hs => ?_)
         replace hcl := qO hC_113 hs.own.f1.drop.drop
         refine ⟨fun _ => hcl, ?_⟩
         refine qdp (fuel := 0) [4, 5] hs hcl hqC_113 fun a hs => ?_
         replace hs := hs.pick [2, 9, 10, 11, 12, 13] (L' := [(2, .slice A_11 p_13.length c_12), (9, pp b_82), (10, .slice A_90 p_92.length c_91), (11, pp b_98), (12, .slice A_119 (([] : List Int).length) 0), (13, .slice A_117 ((List.replicate v_115.toNat 0 : List Int).length) v_115.toNat)]) (by kernel_rfl)
         refine Vk.dDone (by kernel_rfl) ?_
         exact hj112 (List.replicate v_115.toNat 0 : List Int) hm A_119 A_117 v_115.toNat _ _ (hs.go [2, 9, 10, 11, 12, 13] [2, 3, 4, 5, 6, 0, 1] 7 (by kernel_rfl) (by kernel_rfl) (by kernel_rfl))
     refine Vk.region ?_
     refine qln 1 ([ci p_83.n, C.slc A_84 p_83.ops.length c_85, C.slc A_87 p_83.blocks.length c_88]) hs rfl fun a hs => ?_
     obtain ⟨v_104, h_103, hm⟩ := bind_t hm
     refine qcl (visorref18_Right.ok _ _ _ h_103 _ _ (pt b_98 (blk v_97 38) :: pt b_82 (blk (Tapi_Trace.obj p_83 A_84 c_85 A_87 c_88) 35) :: rowp A_84 c_85 43 6 Tapi_Op.cells p_83.ops :: rowp A_87 c_88 73 3 Tapi_Span.cells p_83.blocks :: rowp A_90 c_91 41 1 (eI .u64) p_92 :: S) A_84 c_85 (Sl.lift (fun w ho => (Ow.to (S' := rowp A_84 c_85 43 6 Tapi_Op.cells p_83.ops :: S) ho [2] 5 (by kernel_rfl) (by kernel_rfl))) (Ow.rowSl 0 (Ow.to (S' := rowp A_84 c_85 43 6 Tapi_Op.cells p_83.ops :: S) hs.own [2] 5 (by kernel_rfl) (by kernel_rfl)) rfl)) A_87 c_88 (Sl.lift (fun w ho => (Ow.to (S' := rowp A_87 c_88 73 3 Tapi_Span.cells p_83.blocks :: S) ho [3] 5 (by kernel_rfl) (by kernel_rfl))) (Ow.rowSl 0 (Ow.to (S' := rowp A_87 c_88 73 3 Tapi_Span.cells p_83.blocks :: S) hs.own [3] 5 (by kernel_rfl) (by kernel_rfl)) rfl)) hs.own) hs fun w a hs => ?_
     refine qpu 2 hs fun a hs => ?_
     rcases Bool.eq_false_or_eq_true (!v_104) with hb | hb
     ·replace hm := bif_t hm hb
      replace hs := hs.known (t := 48) hb (by kernel_rfl)
      refine qpe 14 [(2, .slice A_11 p_13.length c_12), (9, pp b_82), (10, .slice A_90 p_92.length c_91), (11, pp b_98), (62, .bool true)] hs fun a hs => ?_
      exact hj101 true hm _ _ (hs.go [2, 9, 10, 11, 62] [1, 2, 3, 4, 0] 5 (by kernel_rfl) (by kernel_rfl) (by kernel_rfl))
     ·replace hm := bif_f hm hb
      replace hs := hs.known (t := 48) hb (by kernel_rfl)
      refine qpu 1 hs fun a hs => ?_
      obtain ⟨v_108, h_107, hm⟩ := bind_t hm
      refine qli 0 hs rfl h_107 fun a hs => ?_
      refine qpu 5 hs fun a hs => ?_
      suffices hj_109 : ∀ a, St 158 a w κ [(2, .slice A_11 p_13.length c_12), (9, pp b_82), (10, .slice A_90 p_92.length c_91), (11, pp b_98), (45, .agg (vals [ci p_83.n, C.slc A_84 p_83.ops.length c_85, C.slc A_87 p_83.blocks.length c_88])), (46, .bool v_104), (47, .bool (!v_104)), (48, .bool false), (49, .pointer (some ⟨b_98, 1, none⟩)), (50, vi v_108), (51, .slice A_11 p_13.length c_12), (52, vi ((p_13.length : Nat) : Int)), (53, .bool (decide (v_108 > ((p_13.length : Nat) : Int)))), (54, .bool (decide (v_108 > ((p_13.length : Nat) : Int)))), (55, .bool (decide (v_108 > ((p_13.length : Nat) : Int)))), (62, .bool ((decide (v_108 > ((p_13.length : Nat) : Int))) || (((p_92.length : Nat) : Int) != ((p_83.ops.length : Nat) : Int))))] (pt b_98 (blk v_97 38) :: pt b_82 (blk (Tapi_Trace.obj p_83 A_84 c_85 A_87 c_88) 35) :: rowp A_84 c_85 43 6 Tapi_Op.cells p_83.ops :: rowp A_87 c_88 73 3 Tapi_Span.cells p_83.blocks :: rowp A_90 c_91 41 1 (eI .u64) p_92 :: S) → wpFrom Try.prog _ _ 18 a w by
       rcases Bool.eq_false_or_eq_true (decide (v_108 > ((p_13.length : Nat) : Int))) with hb | hb
       ·replace hs := hs.known (t := 55) hb (by kernel_rfl)
        refine qpu 7 hs fun a hs => ?_
        have hq := hs.pick [2, 9, 10, 11, 45, 46, 47, 48, 49, 50, 51, 52, 53, 54, 55, 62] (L' := [(2, .slice A_11 p_13.length c_12), (9, pp b_82), (10, .slice A_90 p_92.length c_91), (11, pp b_98), (45, .agg (vals [ci p_83.n, C.slc A_84 p_83.ops.length c_85, C.slc A_87 p_83.blocks.length c_88])), (46, .bool v_104), (47, .bool (!v_104)), (48, .bool false), (49, .pointer (some ⟨b_98, 1, none⟩)), (50, vi v_108), (51, .slice A_11 p_13.length c_12), (52, vi ((p_13.length : Nat) : Int)), (53, .bool (decide (v_108 > ((p_13.length : Nat) : Int)))), (54, .bool (decide (v_108 > ((p_13.length : Nat) : Int)))), (55, .bool true), (62, .bool true)]) (by kernel_rfl)
        exact hj_109 _ (hq.conv (by first | (rw [hb] <;> rfl) | rfl))
       ·replace hs := hs.known (t := 55) hb (by kernel_rfl)
        refine qpu 3 hs fun a hs => ?_
        refine qld 1 (C.slc A_84 p_83.ops.length c_85) hs rfl fun a hs => ?_
        refine qpu 3 hs fun a hs => ?_
        have hq := hs.pick [2, 9, 10, 11, 45, 46, 47, 48, 49, 50, 51, 52, 53, 54, 55, 62] (L' := [(2, .slice A_11 p_13.length c_12), (9, pp b_82), (10, .slice A_90 p_92.length c_91), (11, pp b_98), (45, .agg (vals [ci p_83.n, C.slc A_84 p_83.ops.length c_85, C.slc A_87 p_83.blocks.length c_88])), (46, .bool v_104), (47, .bool (!v_104)), (48, .bool false), (49, .pointer (some ⟨b_98, 1, none⟩)), (50, vi v_108), (51, .slice A_11 p_13.length c_12), (52, vi ((p_13.length : Nat) : Int)), (53, .bool (decide (v_108 > ((p_13.length : Nat) : Int)))), (54, .bool (decide (v_108 > ((p_13.length : Nat) : Int)))), (55, .bool false), (62, .bool (((p_92.length : Nat) : Int) != ((p_83.ops.length : Nat) : Int)))]) (by kernel_rfl)
        exact hj_109 _ (hq.conv (by first | (rw [hb] <;> rfl) | rfl))
      intro a hs
      refine qpe 0 [(2, .slice A_11 p_13.length c_12), (9, pp b_82), (10, .slice A_90 p_92.length c_91), (11, pp b_98), (62, .bool ((decide (v_108 > ((p_13.length : Nat) : Int))) || (((p_92.length : Nat) : Int) != ((p_83.ops.length : Nat) : Int))))] hs fun a hs => ?_
      exact hj101 ((decide (v_108 > ((p_13.length : Nat) : Int))) || (((p_92.length : Nat) : Int) != ((p_83.ops.length : Nat) : Int))) hm _ _ (hs.go [2, 9, 10, 11, 62] [1, 2, 3, 4, 0] 5 (by kernel_rfl) (by kernel_rfl) (by kernel_rfl))
    obtain ⟨C_67, hC_67⟩ := qC hs.own.f1.drop
    refine qdr 9 κ C_67 hs fun w hs hqC_67 => ?_
    have hcl := qO hC_67 hs.own.f1.drop
    refine qdp (fuel := 7) [0, 3] hs hcl hqC_67 fun a hs => ?_
    refine qdl 1 0 (cp b_49) hs hcl hqC_67 hC_67 rfl fun a hs => ?_
    refine qdl 4 0 (cp b_49) hs hcl hqC_67 hC_67 rfl fun a hs => ?_
    refine Vk.dMany2 (i0 := 2) (i1 := 6) (by kernel_rfl) ?_ ?_
    ·exact by
      obtain ⟨g_68, hs⟩ := hs.unex 1 rfl
      obtain ⟨v_71, h_70, hm⟩ := bind_t hm
      refine Vk.call (some 39) 6 #[pp b_49] hs (by kernel_rfl) (by kernel_rfl) (by kernel_rfl) ?_
      refine (wire_Machine_Trace.ok k p_50 v_71 h_70 κ w (pt b_48 (blk [cp b_49, cp b_51, C.slc A_53 p_55.length c_54, C.slc A_56 p_58.length c_57] 28) :: Tvisorref19_M.own κ b_51 p_52 :: rowp A_53 c_54 56 3 eC p_55 :: rowp A_56 c_57 41 1 (eI .u64) p_58 :: S) b_49 g_68 hs.own.f1).mono ?_
      rintro _ w ⟨Ar69x0ops_72, cr69x0ops_73, Ar69x0blocks_74, cr69x0blocks_75, rfl, how⟩
      refine ⟨_, _, _, rfl, how, fun a hs => ?_⟩
      replace hcl := qO hC_67 hs.own.f2.drop.f1.drop.drop
      refine ⟨fun _ => hcl, ?_⟩
      refine Vk.dMany2 (i0 := 5) (i1 := 6) (by kernel_rfl) ?_ ?_
      ·exact by
        obtain ⟨v_78, h_77, hm⟩ := bind_t hm
        refine Vk.call (some 42) 7 #[pp b_49] hs (by kernel_rfl) (by kernel_rfl) (by kernel_rfl) ?_
        refine (wire_Machine_Values.ok k p_50 v_78 h_77 κ w (rowp Ar69x0ops_72 cr69x0ops_73 43 6 Tapi_Op.cells v_71.ops :: rowp Ar69x0blocks_74 cr69x0blocks_75 73 3 Tapi_Span.cells v_71.blocks :: pt b_48 (blk [cp b_49, cp b_51, C.slc A_53 p_55.length c_54, C.slc A_56 p_58.length c_57] 28) :: Tvisorref19_M.own κ b_51 p_52 :: rowp A_53 c_54 56 3 eC p_55 :: rowp A_56 c_57 41 1 (eI .u64) p_58 :: S) b_49 g_68 hs.own.f2).mono ?_
        rintro _ w ⟨Ar76x0_79, cr76x0_80, rfl, how⟩
        refine ⟨_, _, _, rfl, how, fun a hs => ?_⟩
        replace hcl : Ow κ w C_67 := by rw [hC_67]; exact (hs.own.too [4, 5, 6, 7] 8)
        refine ⟨fun _ => hcl, ?_⟩
        refine Vk.dOnly (i := 6) (by kernel_rfl) (Vk.alloc 9 35 [ci 0, C.slc none 0 0, C.slc none 0 0] hs (by kernel_rfl) (by kernel_rfl) (by kernel_rfl) fun b_81 w a hs => ?_)
        replace hcl : Ow κ w C_67 := by rw [hC_67]; exact (hs.own.too [5, 6, 7, 8] 9)
        refine ⟨fun _ => hcl, ?_⟩
        refine qsA 7 0 [ci v_71.n, C.slc Ar69x0ops_72 v_71.ops.length cr69x0ops_73, C.slc Ar69x0blocks_74 v_71.blocks.length cr69x0blocks_75] hs rfl rfl rfl fun a w hs => ?_
        replace hcl : Ow κ w C_67 := by rw [hC_67]; exact (hs.own.too [5, 6, 7, 8] 9)
        refine ⟨fun _ => hcl, ?_⟩
        refine qdp (fuel := 0) [8] hs hcl hqC_67 fun a hs => ?_
        replace hs := hs.pick [2, 9, 10] (L' := [(2, .slice A_11 p_13.length c_12), (9, pp b_81), (10, .slice Ar76x0_79 v_78.length cr76x0_80)]) (by kernel_rfl)
        refine Vk.dDone (by kernel_rfl) ?_
        replace hs := hs.toEx (Twire_Machine.parts b_49 p_50) g_68 2 rfl
        exact hj66 v_71 v_78 hm b_81 Ar69x0ops_72 cr69x0ops_73 Ar69x0blocks_74 cr69x0blocks_75 Ar76x0_79 cr76x0_80 _ _ (hs.go [2, 9, 10] [0, 3, 4, 1] 9 (by kernel_rfl) (by kernel_rfl) (by kernel_rfl))
      ·exact by
        refine Vk.alloc 9 35 [ci 0, C.slc none 0 0, C.slc none 0 0] hs (by kernel_rfl) (by kernel_rfl) (by kernel_rfl) fun b_76 w a hs => ?_
        replace hcl : Ow κ w C_67 := by rw [hC_67]; exact (hs.own.too [4, 5, 6, 7] 8)
        refine ⟨fun _ => hcl, ?_⟩
        obtain ⟨v_79, h_78, hm⟩ := bind_t hm
        refine Vk.dOnly (i := 5) (by kernel_rfl) (Vk.call (some 42) 7 #[pp b_49] hs (by kernel_rfl) (by kernel_rfl) (by kernel_rfl) ?_)
        refine (wire_Machine_Values.ok k p_50 v_79 h_78 κ w (pt b_76 (blk [ci 0, C.slc none 0 0, C.slc none 0 0] 35) :: rowp Ar69x0ops_72 cr69x0ops_73 43 6 Tapi_Op.cells v_71.ops :: rowp Ar69x0blocks_74 cr69x0blocks_75 73 3 Tapi_Span.cells v_71.blocks :: pt b_48 (blk [cp b_49, cp b_51, C.slc A_53 p_55.length c_54, C.slc A_56 p_58.length c_57] 28) :: Tvisorref19_M.own κ b_51 p_52 :: rowp A_53 c_54 56 3 eC p_55 :: rowp A_56 c_57 41 1 (eI .u64) p_58 :: S) b_49 g_68 hs.own.f3).mono ?_
        rintro _ w ⟨Ar77x0_80, cr77x0_81, rfl, how⟩
        refine ⟨_, _, _, rfl, how, fun a hs => ?_⟩
        replace hcl : Ow κ w C_67 := by rw [hC_67]; exact (hs.own.too [5, 6, 7, 8] 9)
        refine ⟨fun _ => hcl, ?_⟩
        refine qsA 7 2 [ci v_71.n, C.slc Ar69x0ops_72 v_71.ops.length cr69x0ops_73, C.slc Ar69x0blocks_74 v_71.blocks.length cr69x0blocks_75] hs rfl rfl rfl fun a w hs => ?_
        replace hcl : Ow κ w C_67 := by rw [hC_67]; exact (hs.own.too [5, 6, 7, 8] 9)
        refine ⟨fun _ => hcl, ?_⟩
        refine qdp (fuel := 0) [8] hs hcl hqC_67 fun a hs => ?_
        replace hs := hs.pick [2, 9, 10] (L' := [(2, .slice A_11 p_13.length c_12), (9, pp b_76), (10, .slice Ar77x0_80 v_79.length cr77x0_81)]) (by kernel_rfl)
        refine Vk.dDone (by kernel_rfl) ?_
        replace hs := hs.toEx (Twire_Machine.parts b_49 p_50) g_68 1 rfl
        exact hj66 v_71 v_79 hm b_76 Ar69x0ops_72 cr69x0ops_73 Ar69x0blocks_74 cr69x0blocks_75 Ar77x0_80 cr77x0_81 _ _ (hs.go [2, 9, 10] [2, 3, 4, 0] 9 (by kernel_rfl) (by kernel_rfl) (by kernel_rfl))
    ·exact by
      refine Vk.alloc 9 35 [ci 0, C.slc none 0 0, C.slc none 0 0] hs (by kernel_rfl) (by kernel_rfl) (by kernel_rfl) fun b_68 w a hs => ?_
      replace hcl := qO hC_67 hs.own.f2.drop.drop
      refine ⟨fun _ => hcl, ?_⟩
      obtain ⟨g_69, hs⟩ := hs.unex 2 rfl
      obtain ⟨v_72, h_71, hm⟩ := bind_t hm
      refine Vk.dOnly (i := 2) (by kernel_rfl) (Vk.call (some 39) 6 #[pp b_49] hs (by kernel_rfl) (by kernel_rfl) (by kernel_rfl) ?_)
      refine (wire_Machine_Trace.ok k p_50 v_72 h_71 κ w (pt b_68 (blk [ci 0, C.slc none 0 0, C.slc none 0 0] 35) :: pt b_48 (blk [cp b_49, cp b_51, C.slc A_53 p_55.length c_54, C.slc A_56 p_58.length c_57] 28) :: Tvisorref19_M.own κ b_51 p_52 :: rowp A_53 c_54 56 3 eC p_55 :: rowp A_56 c_57 41 1 (eI .u64) p_58 :: S) b_49 g_69 hs.own.f2).mono ?_
      rintro _ w ⟨Ar70x0ops_73, cr70x0ops_74, Ar70x0blocks_75, cr70x0blocks_76, rfl, how⟩
      refine ⟨_, _, _, rfl, how, fun a hs => ?_⟩
      replace hcl : Ow κ w C_67 := by rw [hC_67]; exact (hs.own.too [4, 5, 6, 7] 8)
      refine ⟨fun _ => hcl, ?_⟩
      obtain ⟨v_79, h_78, hm⟩ := bind_t hm
      refine Vk.dOnly (i := 5) (by kernel_rfl) (Vk.call (some 42) 7 #[pp b_49] hs (by kernel_rfl) (by kernel_rfl) (by kernel_rfl) ?_)
      refine (wire_Machine_Values.ok k p_50 v_79 h_78 κ w (rowp Ar70x0ops_73 cr70x0ops_74 43 6 Tapi_Op.cells v_72.ops :: rowp Ar70x0blocks_75 cr70x0blocks_76 73 3 Tapi_Span.cells v_72.blocks :: pt b_68 (blk [ci 0, C.slc none 0 0, C.slc none 0 0] 35) :: pt b_48 (blk [cp b_49, cp b_51, C.slc A_53 p_55.length c_54, C.slc A_56 p_58.length c_57] 28) :: Tvisorref19_M.own κ b_51 p_52 :: rowp A_53 c_54 56 3 eC p_55 :: rowp A_56 c_57 41 1 (eI .u64) p_58 :: S) b_49 g_69 hs.own.f2).mono ?_
      rintro _ w ⟨Ar77x0_80, cr77x0_81, rfl, how⟩
      refine ⟨_, _, _, rfl, how, fun a hs => ?_⟩
      replace hcl : Ow κ w C_67 := by rw [hC_67]; exact (hs.own.too [5, 6, 7, 8] 9)
      refine ⟨fun _ => hcl, ?_⟩
      refine qsA 7 4 [ci v_72.n, C.slc Ar70x0ops_73 v_72.ops.length cr70x0ops_74, C.slc Ar70x0blocks_75 v_72.blocks.length cr70x0blocks_76] hs rfl rfl rfl fun a w hs => ?_
      replace hcl : Ow κ w C_67 := by rw [hC_67]; exact (hs.own.too [5, 6, 7, 8] 9)
      refine ⟨fun _ => hcl, ?_⟩
      refine qdp (fuel := 0) [8] hs hcl hqC_67 fun a hs => ?_
      replace hs := hs.pick [2, 9, 10] (L' := [(2, .slice A_11 p_13.length c_12), (9, pp b_68), (10, .slice Ar77x0_80 v_79.length cr77x0_81)]) (by kernel_rfl)
      refine Vk.dDone (by kernel_rfl) ?_
      replace hs := hs.toEx (Twire_Machine.parts b_49 p_50) g_69 1 rfl
      exact hj66 v_72 v_79 hm b_68 Ar70x0ops_73 cr70x0ops_74 Ar70x0blocks_75 cr70x0blocks_76 Ar77x0_80 cr77x0_81 _ _ (hs.go [2, 9, 10] [4, 2, 3, 0] 9 (by kernel_rfl) (by kernel_rfl) (by kernel_rfl))
  refine Vk.region ?_
  refine qpu 3 hs fun a hs => ?_
  obtain ⟨v_18, h_17, hm⟩ := bind_t hm
  refine Vk.step (Vk.call (some 31) 4 #[.bool x0, .slice A_x1 x1.length c_x1, .slice A_11 p_13.length c_12] hs (by kernel_rfl) (by kernel_rfl) (by kernel_rfl) ?_)
  refine (visorlaw27_Makes.ok k x0 x1 p_13 v_18 h_17 κ w (S) A_x1 c_x1 ht_x1 A_11 c_12 ht_14 hs.own).mono ?_
  rintro _ w (⟨v_19, rfl, br16x0x_20, Ar16x0l_21, cr16x0l_22, Ar16x0v_23, cr16x0v_24, rfl, how⟩ | ⟨v_26, rfl, br16x0m_27, br16x0x_28, Ar16x0l_29, cr16x0l_30, Ar16x0v_31, cr16x0v_32, rfl, how⟩ | ⟨v_34, rfl, br16x0m_35, br16x0x_36, Ar16x0l_37, cr16x0l_38, Ar16x0v_39, cr16x0v_40, rfl, how⟩)
  ·dsimp only at hm
   refine ⟨_, _, _, rfl, how, fun a hs => ?_⟩
   refine qpu 3 hs fun a hs => ?_
   refine qal 28 [C.ptr none, C.ptr none, C.slc none 0 0, C.slc none 0 0] 7 hs fun b_25 w a hs => ?_
   refine qsa 0 [C.ptr none, cp br16x0x_20, C.slc Ar16x0l_21 v_19.2.1.length cr16x0l_22, C.slc Ar16x0v_23 v_19.2.2.length cr16x0v_24] hs rfl fun a w hs => ?_
   refine qpk 1 [2, 7, 8] hs fun a hs => hK15 _ _ ?_
   refine Vk.seq fun K42 hK42 => ?_
   refine qsk 2 [2, 7, 35] hs fun a hs => ?_
   refine qct hs ?_
   refine qsr fun K44 hK44 => ?_
   obtain ⟨v_47, h_46, hm⟩ := bind_t hm
   refine Vk.step (Vk.call (some 36) 5 #[] hs (by kernel_rfl) (by kernel_rfl) (by kernel_rfl) ?_)
   refine (visorlaw29_awake.ok k v_47 h_46 κ w (pt b_25 (blk [C.ptr none, cp br16x0x_20, C.slc Ar16x0l_21 v_19.2.1.length cr16x0l_22, C.slc Ar16x0v_23 v_19.2.2.length cr16x0v_24] 28) :: Tvisorref19_M.own κ br16x0x_20 v_19.1 :: rowp Ar16x0l_21 cr16x0l_22 56 3 eC v_19.2.1 :: rowp Ar16x0v_23 cr16x0v_24 41 1 (eI .u64) v_19.2.2 :: S) hs.own).mono ?_
   rintro _ w ⟨rfl, how⟩
   refine ⟨_, _, _, rfl, how, fun a hs => ?_⟩
   refine qpe 1 [(6, .bool v_47)] hs fun a hs => hK44 _ _ ?_
   clear hK44
   refine wp_ret ?_
   exact qr1 (.bool v_47) hs rfl hRR (by cases hm; exact ⟨rfl, (hs.own.too [] 4)⟩)
  ·dsimp only at hm
   refine ⟨_, _, _, rfl, how, fun a hs => ?_⟩
   refine qpu 3 hs fun a hs => ?_
   refine qal 28 [C.ptr none, C.ptr none, C.slc none 0 0, C.slc none 0 0] 7 hs fun b_33 w a hs => ?_
   refine qsa 0 [cp br16x0m_27, cp br16x0x_28, C.slc Ar16x0l_29 v_26.2.2.1.length cr16x0l_30, C.slc Ar16x0v_31 v_26.2.2.2.length cr16x0v_32] hs rfl fun a w hs => ?_
   refine qpe 1 [(2, .slice A_11 p_13.length c_12), (7, pp b_33), (8, .bool false)] hs fun a hs => ?_
   exact hj249 v_26.1 v_26.2.1 v_26.2.2.1 v_26.2.2.2 false hm b_33 br16x0m_27 br16x0x_28 Ar16x0l_29 cr16x0l_30 Ar16x0v_31 cr16x0v_32 _ _ (hs.go [2, 7, 8] [0, 1, 2, 3, 4] 5 (by kernel_rfl) (by kernel_rfl) (by kernel_rfl))
  ·dsimp only at hm
   refine ⟨_, _, _, rfl, how, fun a hs => ?_⟩
   refine qpu 3 hs fun a hs => ?_
   refine qal 28 [C.ptr none, C.ptr none, C.slc none 0 0, C.slc none 0 0] 7 hs fun b_41 w a hs => ?_
   refine qsa 0 [cp br16x0m_35, cp br16x0x_36, C.slc Ar16x0l_37 v_34.2.2.1.length cr16x0l_38, C.slc Ar16x0v_39 v_34.2.2.2.1.length cr16x0v_40] hs rfl fun a w hs => ?_
   refine qpe 1 [(2, .slice A_11 p_13.length c_12), (7, pp b_41), (8, .bool v_34.2.2.2.2)] hs fun a hs => ?_
   exact hj249 v_34.1 v_34.2.1 v_34.2.2.1 v_34.2.2.2.1 v_34.2.2.2.2 hm b_41 br16x0m_35 br16x0x_36 Ar16x0l_37 cr16x0l_38 Ar16x0v_39 cr16x0v_40 _ _ (hs.go [2, 7, 8] [0, 1, 2, 3, 4] 5 (by kernel_rfl) (by kernel_rfl) (by kernel_rfl))
 refine qsk 3 [0, 1, 2, 24] hs fun a hs => ?_
 refine qcs (decide (((x2.length : Nat) : Int) > 500)) hs (fun hb => ?_) fun hb => ?_
 ·replace hm := bif_t hm hb
  refine Vk.region ?_
  refine qpu 1 hs fun a hs => ?_
  obtain ⟨h_4, hm⟩ := ite_t hm
  obtain ⟨A_5, c_6, eA_7, ec_8, hx_9⟩ := Sl.sub ht_x2 h_4.2
  have ht_10 := hx_9
  replace hx_9 := Sl.top (S := S) hx_9
  refine qva (.slice A_5 ((cut x2 (0) (500)).length) c_6) (op := (.slice 23 (.tmp 25) none (some (.const (vi 500))) none)) hs (fun o ho => run_sub (sz := 1) (e := 41) h_4.2 eA_7 ec_8 (Sl.le ht_x2) ho (by kernel_rfl) (by kernel_rfl) (by kernel_rfl) rfl ⟨.i64, 500, by kernel_rfl, h_4.1, rfl⟩ _) fun a hs => ?_
  refine qpe 1 [(0, .bool x0), (1, .slice A_x1 x1.length c_x1), (2, .slice A_5 ((cut x2 (0) (500)).length) c_6)] hs fun a hs => ?_
  exact hj2 (cut x2 (0) (500)) hm A_5 c_6 ht_10 _ _ (hs.go [0, 1, 2] [] 0 (by kernel_rfl) (by kernel_rfl) (by kernel_rfl))
 ·replace hm := bif_f hm hb
  refine wp_skip ?_
  exact hj2 x2 hm A_x2 c_x2 ht_x2 _ _ (hs.go [0, 1, 2] [] 0 (by kernel_rfl) (by kernel_rfl) (by kernel_rfl))

end Go.Proofs.Ytkabdodcacfmlaa
