/- Of each Go function that SlicePlays comes to: a model in plain Lean, and that the program's call does what the model says; no condition. -/
import Derived.Test.YtflgefjocjpjaaaGreatProg
import Derived.Test.YtflgefjocjpjaaaGreatVokkakgfh
import Derived.Test.YtflgefjocjpjaaaGreatMSlicePlays2
namespace Go.Proofs.YtflgefjocjpjaaaGreat
open Go Go.Vk
set_option linter.unusedVariables false


def visorlaw33_SlicePlays.j13 (k : Nat) (p_299 : Bool) : Option (Bool) := some p_299
def visorlaw33_SlicePlays.j12 (k : Nat) (x1 : List Int) (x2 : List Int) (p_58 : Cells) (p_94 : Cells) (v_229 : List Int) (p_274 : Bool) : Option (Bool) := (bif p_274 then some false else (if p_58.length = 24 then (slice_Value.m k v_229 p_58).bind fun v_280 => (visorref33_Cut.m k x1).bind fun v_283 => (if Kinds ((List.replicate 8 [LK.int .u64]).flatten) v_280 then (if Kinds ((List.replicate 8 [LK.int .u64]).flatten) v_283 then (bif ceq v_280 v_283 then (if p_94.length = 24 then (slice_Value.m k v_229 p_94).bind fun v_290 => (visorref33_Cut.m k x2).bind fun v_293 => (if Kinds ((List.replicate 8 [LK.int .u64]).flatten) v_290 then (if Kinds ((List.replicate 8 [LK.int .u64]).flatten) v_293 then (bif ceq v_290 v_293 then (visorlaw33_awake.m k).bind fun v_298 => visorlaw33_SlicePlays.j13 k v_298 else visorlaw33_SlicePlays.j13 k false) else none) else none) else none) else visorlaw33_SlicePlays.j13 k false) else none) else none) else none))
def visorlaw33_SlicePlays.j11 (k : Nat) (x1 : List Int) (x2 : List Int) (p_58 : Cells) (p_94 : Cells) (p_154 : Cells) (p_174 : Cells) (p_191 : Twire_Machine) (p_192 : Tvisorref19_M) (p_194 : Cells) (p_196 : Cells) (p_223 : Bool) : Option (Bool) := (bif p_223 then some false else (wire_Machine_Values.m k p_191).bind fun v_229 => (bif p_192.e != 0 then (visorlaw33_awake.m k).bind fun v_242 => some v_242 else (if p_194.length = 24 then (if p_196.length = 24 then (slice_Value.m k v_229 p_194).bind fun v_250 => (visorref33_Value.m k p_192.val p_196).bind fun v_253 => (if Kinds ((List.replicate 8 [LK.int .u64]).flatten) v_250 then (if Kinds ((List.replicate 8 [LK.int .u64]).flatten) v_253 then (bif !(ceq v_250 v_253) then visorlaw33_SlicePlays.j12 k x1 x2 p_58 p_94 v_229 true else (if p_174.length = 24 then (slice_Value.m k v_229 p_174).bind fun v_259 => (visorref33_Cut.m k []).bind fun v_262 => (if Kinds ((List.replicate 8 [LK.int .u64]).flatten) v_259 then (if Kinds ((List.replicate 8 [LK.int .u64]).flatten) v_262 then (bif !(ceq v_259 v_262) then visorlaw33_SlicePlays.j12 k x1 x2 p_58 p_94 v_229 true else (if p_154.length = 24 then (slice_Value.m k v_229 p_154).bind fun v_268 => (visorref33_Cut.m k x2).bind fun v_271 => (if Kinds ((List.replicate 8 [LK.int .u64]).flatten) v_268 then (if Kinds ((List.replicate 8 [LK.int .u64]).flatten) v_271 then visorlaw33_SlicePlays.j12 k x1 x2 p_58 p_94 v_229 (!(ceq v_268 v_271)) else none) else none) else none)) else none) else none) else none)) else none) else none) else none) else none)))
def visorlaw33_SlicePlays.j10 (k : Nat) (x1 : List Int) (x2 : List Int) (v_25 : Twire_Machine × Tvisorref19_M × List Cells × List Int × Bool) (p_58 : Cells) (p_94 : Cells) (p_134 : Cells) (p_136 : Cells) (p_154 : Cells) (p_156 : Cells) (p_174 : Cells) (p_176 : Cells) (p_191 : Twire_Machine) (p_192 : Tvisorref19_M) (p_194 : Cells) (p_196 : Cells) : Option (Bool) := (if p_134.length = 24 then (if p_136.length = 24 then (if Kinds ((List.replicate 8 ((List.replicate 3 [LK.int .i64]).flatten)).flatten) p_134 then (if Kinds ((List.replicate 8 ((List.replicate 3 [LK.int .i64]).flatten)).flatten) p_136 then (bif !(ceq p_134 p_136) then visorlaw33_SlicePlays.j11 k x1 x2 p_58 p_94 p_154 p_174 p_191 p_192 p_194 p_196 true else (if p_154.length = 24 then (if p_156.length = 24 then (if Kinds ((List.replicate 8 ((List.replicate 3 [LK.int .i64]).flatten)).flatten) p_154 then (if Kinds ((List.replicate 8 ((List.replicate 3 [LK.int .i64]).flatten)).flatten) p_156 then (bif !(ceq p_154 p_156) then visorlaw33_SlicePlays.j11 k x1 x2 p_58 p_94 p_154 p_174 p_191 p_192 p_194 p_196 true else (if p_174.length = 24 then (if p_176.length = 24 then (if Kinds ((List.replicate 8 ((List.replicate 3 [LK.int .i64]).flatten)).flatten) p_174 then (if Kinds ((List.replicate 8 ((List.replicate 3 [LK.int .i64]).flatten)).flatten) p_176 then (bif !(ceq p_174 p_176) then visorlaw33_SlicePlays.j11 k x1 x2 p_58 p_94 p_154 p_174 p_191 p_192 p_194 p_196 true else (if p_194.length = 24 then (if p_196.length = 24 then (if Kinds ((List.replicate 8 ((List.replicate 3 [LK.int .i64]).flatten)).flatten) p_194 then (if Kinds ((List.replicate 8 ((List.replicate 3 [LK.int .i64]).flatten)).flatten) p_196 then (bif !(ceq p_194 p_196) then visorlaw33_SlicePlays.j11 k x1 x2 p_58 p_94 p_154 p_174 p_191 p_192 p_194 p_196 true else (visorlaw20_Pair_Like.m k (⟨p_191, p_192, v_25.2.2.1, v_25.2.2.2.1⟩ : Tvisorlaw20_Pair)).bind fun v_222 => visorlaw33_SlicePlays.j11 k x1 x2 p_58 p_94 p_154 p_174 p_191 p_192 p_194 p_196 (!v_222)) else none) else none) else none) else none)) else none) else none) else none) else none)) else none) else none) else none) else none)) else none) else none) else none) else none)
def visorlaw33_SlicePlays.j9 (k : Nat) (x1 : List Int) (x2 : List Int) (x3 : Int) (v_25 : Twire_Machine × Tvisorref19_M × List Cells × List Int × Bool) (p_42 : Int) (p_58 : Cells) (p_94 : Cells) (p_134 : Cells) (p_136 : Cells) (p_154 : Cells) (p_156 : Cells) (p_171 : Twire_Machine) (p_172 : Tvisorref19_M) (p_174 : Cells) (p_176 : Cells) : Option (Bool) := (if p_134.length = 24 then (if p_136.length = 24 then (slice_One.m k p_171 (IntKind.i64.wrap (8 + (Int.tmod (IntKind.i64.wrap x3) 4))) p_134 p_42).bind fun v_183 => (visorref33_One.m k p_172 (IntKind.i64.wrap (8 + (Int.tmod (IntKind.i64.wrap x3) 4))) p_136 p_42).bind fun v_186 => (if v_183.1.length = 24 then (if v_186.1.length = 24 then visorlaw33_SlicePlays.j10 k x1 x2 v_25 p_58 p_94 p_134 p_136 p_154 p_156 p_174 p_176 v_183.2 v_186.2 v_183.1 v_186.1 else none) else none) else none) else none)
def visorlaw33_SlicePlays.j8 (k : Nat) (x1 : List Int) (x2 : List Int) (x3 : Int) (v_25 : Twire_Machine × Tvisorref19_M × List Cells × List Int × Bool) (p_42 : Int) (p_58 : Cells) (p_94 : Cells) (p_134 : Cells) (p_136 : Cells) (p_151 : Twire_Machine) (p_152 : Tvisorref19_M) (p_154 : Cells) (p_156 : Cells) : Option (Bool) := (if p_154.length = 24 then (if p_156.length = 24 then (slice_AddTold.m k p_151 p_154 x2).bind fun v_163 => (visorref33_Add.m k p_152 4 p_156 x2).bind fun v_166 => (if v_163.1.length = 24 then (if v_166.1.length = 24 then visorlaw33_SlicePlays.j9 k x1 x2 x3 v_25 p_42 p_58 p_94 p_134 p_136 p_154 p_156 v_163.2 v_166.2 v_163.1 v_166.1 else none) else none) else none) else none)
def visorlaw33_SlicePlays.j7 (k : Nat) (x1 : List Int) (x2 : List Int) (x3 : Int) (v_25 : Twire_Machine × Tvisorref19_M × List Cells × List Int × Bool) (p_42 : Int) (p_58 : Cells) (p_94 : Cells) (p_131 : Twire_Machine) (p_132 : Tvisorref19_M) (p_134 : Cells) (p_136 : Cells) : Option (Bool) := (if p_134.length = 24 then (if p_136.length = 24 then (slice_Add.m k p_131 p_134 x1).bind fun v_143 => (visorref33_Add.m k p_132 3 p_136 x1).bind fun v_146 => (if v_143.1.length = 24 then (if v_146.1.length = 24 then visorlaw33_SlicePlays.j8 k x1 x2 x3 v_25 p_42 p_58 p_94 p_134 p_136 v_143.2 v_146.2 v_143.1 v_146.1 else none) else none) else none) else none)
def visorlaw33_SlicePlays.j6 (k : Nat) (x1 : List Int) (x2 : List Int) (x3 : Int) (v_25 : Twire_Machine × Tvisorref19_M × List Cells × List Int × Bool) (p_42 : Int) (p_58 : Cells) (p_60 : Cells) (p_91 : Twire_Machine) (p_92 : Tvisorref19_M) (p_94 : Cells) (p_96 : Cells) (p_113 : Bool) : Option (Bool) := (bif p_113 then some false else (if p_58.length = 24 then (if p_94.length = 24 then (if p_60.length = 24 then (if p_96.length = 24 then (slice_Xor.m k p_91 p_58 p_94).bind fun v_123 => (visorref33_Xor.m k p_92 p_60 p_96).bind fun v_126 => (if v_123.1.length = 24 then (if v_126.1.length = 24 then visorlaw33_SlicePlays.j7 k x1 x2 x3 v_25 p_42 p_58 p_94 v_123.2 v_126.2 v_123.1 v_126.1 else none) else none) else none) else none) else none) else none))
def visorlaw33_SlicePlays.j5 (k : Nat) (x1 : List Int) (x2 : List Int) (x3 : Int) (v_25 : Twire_Machine × Tvisorref19_M × List Cells × List Int × Bool) (p_42 : Int) (p_58 : Cells) (p_60 : Cells) (p_76 : Cells) (p_78 : Cells) (p_91 : Twire_Machine) (p_92 : Tvisorref19_M) (p_94 : Cells) (p_96 : Cells) : Option (Bool) := (if p_58.length = 24 then (if p_60.length = 24 then (if Kinds ((List.replicate 8 ((List.replicate 3 [LK.int .i64]).flatten)).flatten) p_58 then (if Kinds ((List.replicate 8 ((List.replicate 3 [LK.int .i64]).flatten)).flatten) p_60 then (bif !(ceq p_58 p_60) then visorlaw33_SlicePlays.j6 k x1 x2 x3 v_25 p_42 p_58 p_60 p_91 p_92 p_94 p_96 true else (if p_76.length = 24 then (if p_78.length = 24 then (if Kinds ((List.replicate 8 ((List.replicate 3 [LK.int .i64]).flatten)).flatten) p_76 then (if Kinds ((List.replicate 8 ((List.replicate 3 [LK.int .i64]).flatten)).flatten) p_78 then (bif !(ceq p_76 p_78) then visorlaw33_SlicePlays.j6 k x1 x2 x3 v_25 p_42 p_58 p_60 p_91 p_92 p_94 p_96 true else (if p_94.length = 24 then (if p_96.length = 24 then (if Kinds ((List.replicate 8 ((List.replicate 3 [LK.int .i64]).flatten)).flatten) p_94 then (if Kinds ((List.replicate 8 ((List.replicate 3 [LK.int .i64]).flatten)).flatten) p_96 then visorlaw33_SlicePlays.j6 k x1 x2 x3 v_25 p_42 p_58 p_60 p_91 p_92 p_94 p_96 (!(ceq p_94 p_96)) else none) else none) else none) else none)) else none) else none) else none) else none)) else none) else none) else none) else none)
def visorlaw33_SlicePlays.j4 (k : Nat) (x1 : List Int) (x2 : List Int) (x3 : Int) (v_25 : Twire_Machine × Tvisorref19_M × List Cells × List Int × Bool) (p_42 : Int) (p_58 : Cells) (p_60 : Cells) (p_73 : Twire_Machine) (p_74 : Tvisorref19_M) (p_76 : Cells) (p_78 : Cells) : Option (Bool) := (slice_Encode.m k p_73 x2).bind fun v_83 => (visorref33_Encode.m k p_74 x2).bind fun v_86 => (if v_83.1.length = 24 then (if v_86.1.length = 24 then visorlaw33_SlicePlays.j5 k x1 x2 x3 v_25 p_42 p_58 p_60 p_76 p_78 v_83.2 v_86.2 v_83.1 v_86.1 else none) else none)
def visorlaw33_SlicePlays.j3 (k : Nat) (x1 : List Int) (x2 : List Int) (x3 : Int) (v_25 : Twire_Machine × Tvisorref19_M × List Cells × List Int × Bool) (p_42 : Int) (p_55 : Twire_Machine) (p_56 : Tvisorref19_M) (p_58 : Cells) (p_60 : Cells) : Option (Bool) := (slice_Told.m k p_55 x2).bind fun v_65 => (visorref33_Const.m k p_56 4 x2).bind fun v_68 => (if v_65.1.length = 24 then (if v_68.1.length = 24 then visorlaw33_SlicePlays.j4 k x1 x2 x3 v_25 p_42 p_58 p_60 v_65.2 v_68.2 v_65.1 v_68.1 else none) else none)
def visorlaw33_SlicePlays.j2 (k : Nat) (x1 : List Int) (x2 : List Int) (x3 : Int) (v_25 : Twire_Machine × Tvisorref19_M × List Cells × List Int × Bool) (p_42 : Int) : Option (Bool) := (slice_Public.m k v_25.1 x1).bind fun v_47 => (visorref33_Const.m k v_25.2.1 3 x1).bind fun v_50 => (if v_47.1.length = 24 then (if v_50.1.length = 24 then visorlaw33_SlicePlays.j3 k x1 x2 x3 v_25 p_42 v_47.2 v_50.2 v_47.1 v_50.1 else none) else none)
def visorlaw33_SlicePlays.j1 (k : Nat) (x1 : List Int) (x2 : List Int) (x3 : Int) (x4 : Int) (x5 : List Int) (p_5 : Int) : Option (Bool) := (bif (decide (((x1.length : Nat) : Int) > 100)) || (decide (((x2.length : Nat) : Int) > 100)) then (visorlaw33_awake.m k).bind fun v_12 => some v_12 else ((visorlaw20_Begins.m k p_5 x5 2000).bind fun v => match v with | (.inl v_18) => some false | (.inr v_25) => (bif !v_25.2.2.2.2 then some false else (bif decide ((IntKind.i64.wrap (8 + (Int.tmod (IntKind.i64.wrap x3) 4))) > 8) then visorlaw33_SlicePlays.j2 k x1 x2 x3 v_25 (Int.tmod x4 64) else visorlaw33_SlicePlays.j2 k x1 x2 x3 v_25 x4))))
abbrev visorlaw33_SlicePlays.R (κ : Ctx) (S : List HP) (x0 : Bool) (x1 : List Int) (x2 : List Int) (x3 : Int) (x4 : Int) (x5 : List Int) (A_x1 : Option Addr) (c_x1 : Nat) (A_x2 : Option Addr) (c_x2 : Nat) (A_x5 : Option Addr) (c_x5 : Nat) (r : Bool) : Ending → World → Prop := fun e w' => e = .returned (.bool r) ∧ Ow κ w' (S)
def visorlaw33_SlicePlays.m (k : Nat) (x0 : Bool) (x1 : List Int) (x2 : List Int) (x3 : Int) (x4 : Int) (x5 : List Int) : Option Bool := (bif x0 then visorlaw33_SlicePlays.j1 k x1 x2 x3 x4 x5 3 else visorlaw33_SlicePlays.j1 k x1 x2 x3 x4 x5 2)

def tlN : Nat → Code → Code
 | 0, c => c
 | n + 1, .seq _ b => tlN n b
 | _ + 1, c => c

set_option maxRecDepth 100000 in
set_option maxHeartbeats 4000000 in
theorem visorlaw33_SlicePlays.ok.tail (k : Nat) (x0 : Bool) (x1 : List Int) (x2 : List Int) (x3 : Int) (x4 : Int) (x5 : List Int) (r : Bool) (κ : Ctx) (S : List HP) (A_x1 : Option Addr) (c_x1 : Nat) (hx_x1 : Sl κ [] A_x1 c_x1 1 (eI .u8) x1) (A_x2 : Option Addr) (c_x2 : Nat) (hx_x2 : Sl κ [] A_x2 c_x2 1 (eI .u8) x2) (A_x5 : Option Addr) (c_x5 : Nat) (hx_x5 : Sl κ [] A_x5 c_x5 1 (eI .u64) x5) (v_25 : Twire_Machine × Tvisorref19_M × List Cells × List Int × Bool) (p_42 : Int) (p_58 : Cells) (p_94 : Cells) (p_134 : Cells) (p_136 : Cells) (b_32 : Nat) (b_57 : Nat) (b_93 : Nat) (b_133 : Nat) (b_135 : Nat) (br15x0m_26 : Nat) (br15x0x_27 : Nat) (Ar15x0l_28 : Option Addr) (cr15x0l_29 : Nat) (Ar15x0v_30 : Option Addr) (cr15x0v_31 : Nat) (RR : Ending → World → Prop) (hRR : visorlaw33_SlicePlays.R κ S x0 x1 x2 x3 x4 x5 A_x1 c_x1 A_x2 c_x2 A_x5 c_x5 r = RR) : ∀ (p_151 : Twire_Machine) (p_152 : Tvisorref19_M) (p_154 : Cells) (p_156 : Cells), visorlaw33_SlicePlays.j8 k x1 x2 x3 v_25 p_42 p_58 p_94 p_134 p_136 p_151 p_152 p_154 p_156 = some r → ∀ (b_153 : Nat) (b_155 : Nat) (a : Act) (w : World), St 213 a w κ [(1, .slice A_x1 x1.length c_x1), (2, .slice A_x2 x2.length c_x2), (4, vw p_42), (14, pp b_32), (16, vi (IntKind.i64.wrap (8 + (Int.tmod (IntKind.i64.wrap x3) 4)))), (17, pp b_57), (21, pp b_93), (23, pp b_133), (24, pp b_135), (25, pp b_153), (26, pp b_155)] (pt b_32 (blk [cp br15x0m_26, cp br15x0x_27, C.slc Ar15x0l_28 v_25.2.2.1.length cr15x0l_29, C.slc Ar15x0v_30 v_25.2.2.2.1.length cr15x0v_31] 30) :: Twire_Machine.own br15x0m_26 p_151 :: Tvisorref19_M.own κ br15x0x_27 p_152 :: rowp Ar15x0l_28 cr15x0l_29 35 3 eC v_25.2.2.1 :: rowp Ar15x0v_30 cr15x0v_31 23 1 (eI .u64) v_25.2.2.2.1 :: pt b_57 (blk p_58 37) :: pt b_93 (blk p_94 37) :: pt b_133 (blk p_134 37) :: pt b_135 (blk p_136 37) :: pt b_153 (blk p_154 37) :: pt b_155 (blk p_156 37) :: S) → Code.wp Tryz.prog (tlN 14 (Tryz.f3.body.getD .skip)) (bodyPost Tryz.prog Tryz.f3 RR) a w := by
 have ht_x1 := hx_x1
 replace hx_x1 := Sl.top (S := S) hx_x1
 have ht_x2 := hx_x2
 replace hx_x2 := Sl.top (S := S) hx_x2
 have ht_x5 := hx_x5
 replace hx_x5 := Sl.top (S := S) hx_x5
 intro p_151 p_152 p_154 p_156 hm b_153 b_155 a w hs
 unfold visorlaw33_SlicePlays.j8 at hm
 refine Vk.seq fun K157 hK157 => ?_
 have hj157 : ∀ (p_171 : Twire_Machine) (p_172 : Tvisorref19_M) (p_174 : Cells) (p_176 : Cells), visorlaw33_SlicePlays.j9 k x1 x2 x3 v_25 p_42 p_58 p_94 p_134 p_136 p_154 p_156 p_171 p_172 p_174 p_176 = some r → ∀ (b_173 : Nat) (b_175 : Nat) (a : Act) (w : World), St 213 a w κ [(1, .slice A_x1 x1.length c_x1), (2, .slice A_x2 x2.length c_x2), (4, vw p_42), (14, pp b_32), (16, vi (IntKind.i64.wrap (8 + (Int.tmod (IntKind.i64.wrap x3) 4)))), (17, pp b_57), (21, pp b_93), (23, pp b_133), (24, pp b_135), (25, pp b_153), (26, pp b_155), (27, pp b_173), (28, pp b_175)] (pt b_32 (blk [cp br15x0m_26, cp br15x0x_27, C.slc Ar15x0l_28 v_25.2.2.1.length cr15x0l_29, C.slc Ar15x0v_30 v_25.2.2.2.1.length cr15x0v_31] 30) :: Twire_Machine.own br15x0m_26 p_171 :: Tvisorref19_M.own κ br15x0x_27 p_172 :: rowp Ar15x0l_28 cr15x0l_29 35 3 eC v_25.2.2.1 :: rowp Ar15x0v_30 cr15x0v_31 23 1 (eI .u64) v_25.2.2.2.1 :: pt b_57 (blk p_58 37) :: pt b_93 (blk p_94 37) :: pt b_133 (blk p_134 37) :: pt b_135 (blk p_136 37) :: pt b_153 (blk p_154 37) :: pt b_155 (blk p_156 37) :: pt b_173 (blk p_174 37) :: pt b_175 (blk p_176 37) :: S) → K157 a w := by
  intro p_171 p_172 p_174 p_176 hm b_173 b_175 a w hs
  unfold visorlaw33_SlicePlays.j9 at hm
  refine hK157 _ _ ?_
  refine Vk.seq fun K177 hK177 => ?_
  have hj177 : ∀ (p_191 : Twire_Machine) (p_192 : Tvisorref19_M) (p_194 : Cells) (p_196 : Cells), visorlaw33_SlicePlays.j10 k x1 x2 v_25 p_58 p_94 p_134 p_136 p_154 p_156 p_174 p_176 p_191 p_192 p_194 p_196 = some r → ∀ (b_193 : Nat) (b_195 : Nat) (a : Act) (w : World), St 213 a w κ [(1, .slice A_x1 x1.length c_x1), (2, .slice A_x2 x2.length c_x2), (14, pp b_32), (17, pp b_57), (21, pp b_93), (23, pp b_133), (24, pp b_135), (25, pp b_153), (26, pp b_155), (27, pp b_173), (28, pp b_175), (29, pp b_193), (30, pp b_195)] (pt b_32 (blk [cp br15x0m_26, cp br15x0x_27, C.slc Ar15x0l_28 v_25.2.2.1.length cr15x0l_29, C.slc Ar15x0v_30 v_25.2.2.2.1.length cr15x0v_31] 30) :: Twire_Machine.own br15x0m_26 p_191 :: Tvisorref19_M.own κ br15x0x_27 p_192 :: rowp Ar15x0l_28 cr15x0l_29 35 3 eC v_25.2.2.1 :: rowp Ar15x0v_30 cr15x0v_31 23 1 (eI .u64) v_25.2.2.2.1 :: pt b_57 (blk p_58 37) :: pt b_93 (blk p_94 37) :: pt b_133 (blk p_134 37) :: pt b_135 (blk p_136 37) :: pt b_153 (blk p_154 37) :: pt b_155 (blk p_156 37) :: pt b_173 (blk p_174 37) :: pt b_175 (blk p_176 37) :: pt b_193 (blk p_194 37) :: pt b_195 (blk p_196 37) :: S) → K177 a w := by
   intro p_191 p_192 p_194 p_196 hm b_193 b_195 a w hs
   unfold visorlaw33_SlicePlays.j10 at hm
   refine hK177 _ _ ?_
   refine Vk.seq fun K197 hK197 => ?_
   refine Vk.seq fun K198 hK198 => ?_
   have hj198 : ∀ (p_223 : Bool), visorlaw33_SlicePlays.j11 k x1 x2 p_58 p_94 p_154 p_174 p_191 p_192 p_194 p_196 p_223 = some r → ∀ (a : Act) (w : World), St 213 a w κ [(1, .slice A_x1 x1.length c_x1), (2, .slice A_x2 x2.length c_x2), (14, pp b_32), (17, pp b_57), (21, pp b_93), (25, pp b_153), (27, pp b_173), (29, pp b_193), (30, pp b_195), (159, .bool p_223)] (pt b_32 (blk [cp br15x0m_26, cp br15x0x_27, C.slc Ar15x0l_28 v_25.2.2.1.length cr15x0l_29, C.slc Ar15x0v_30 v_25.2.2.2.1.length cr15x0v_31] 30) :: Twire_Machine.own br15x0m_26 p_191 :: Tvisorref19_M.own κ br15x0x_27 p_192 :: rowp Ar15x0l_28 cr15x0l_29 35 3 eC v_25.2.2.1 :: rowp Ar15x0v_30 cr15x0v_31 23 1 (eI .u64) v_25.2.2.2.1 :: pt b_57 (blk p_58 37) :: pt b_93 (blk p_94 37) :: pt b_153 (blk p_154 37) :: pt b_173 (blk p_174 37) :: pt b_193 (blk p_194 37) :: pt b_195 (blk p_196 37) :: S) → K198 a w := by
    intro p_223 hm a w hs
    unfold visorlaw33_SlicePlays.j11 at hm
    refine hK198 _ _ ?_
    refine qcs (p_223) hs (fun hb => ?_) fun hb => ?_
    ·replace hm := bif_t hm hb
     refine qse 1 [(12, .bool false)] hs fun a hs => ?_
     refine wp_ret ?_
     exact qr1 (.bool false) hs rfl hRR (by cases hm; exact ⟨rfl, (hs.own.too [] 11)⟩)
    ·replace hm := bif_f hm hb
     refine wp_skip ?_
     refine hK197 _ _ ?_
     clear hK197
     refine qsr fun K225 hK225 => ?_
     refine qpu 1 hs fun a hs => ?_
     refine qld 0 (cp br15x0m_26) hs rfl fun a hs => ?_
     obtain ⟨g_226, hs⟩ := hs.unex 1 rfl
     obtain ⟨v_229, h_228, hm⟩ := bind_t hm
     refine Vk.step (Vk.call (some 162) 20 #[pp br15x0m_26] hs (by kernel_rfl) (by kernel_rfl) (by kernel_rfl) ?_)
     refine (wire_Machine_Values.ok k p_191 v_229 h_228 κ w (pt b_32 (blk [cp br15x0m_26, cp br15x0x_27, C.slc Ar15x0l_28 v_25.2.2.1.length cr15x0l_29, C.slc Ar15x0v_30 v_25.2.2.2.1.length cr15x0v_31] 30) :: Tvisorref19_M.own κ br15x0x_27 p_192 :: rowp Ar15x0l_28 cr15x0l_29 35 3 eC v_25.2.2.1 :: rowp Ar15x0v_30 cr15x0v_31 23 1 (eI .u64) v_25.2.2.2.1 :: pt b_57 (blk p_58 37) :: pt b_93 (blk p_94 37) :: pt b_153 (blk p_154 37) :: pt b_173 (blk p_174 37) :: pt b_193 (blk p_194 37) :: pt b_195 (blk p_196 37) :: S) br15x0m_26 g_226 hs.own.f1).mono ?_
     rintro _ w ⟨Ar227x0_230, cr227x0_231, rfl, how⟩
     refine ⟨_, _, _, rfl, how, fun a hs => ?_⟩
     refine qpe 1 [(1, .slice A_x1 x1.length c_x1), (2, .slice A_x2 x2.length c_x2), (14, pp b_32), (17, pp b_57), (21, pp b_93), (25, pp b_153), (27, pp b_173), (29, pp b_193), (30, pp b_195), (31, .slice Ar227x0_230 v_229.length cr227x0_231)] hs fun a hs => hK225 _ _ ?_
     clear hK225
     refine Vk.seq fun K232 hK232 => ?_
     refine qsr fun K233 hK233 => ?_
     refine qpu 1 hs fun a hs => ?_
     refine qld 2 (cp br15x0x_27) hs rfl fun a hs => ?_
     refine qpu 2 hs fun a hs => ?_
     obtain ⟨g_234, hs⟩ := hs.unbag 3 rfl
     refine qld 0 (ci p_192.e) hs rfl fun a hs => ?_
     refine qpk 1 [1, 2, 14, 17, 21, 25, 27, 29, 30, 31, 168] hs fun a hs => hK233 _ _ ?_
     clear hK233
     refine qcs (p_192.e != 0) hs (fun hb => ?_) fun hb => ?_
     ·replace hm := bif_t hm hb
      refine qsr fun K239 hK239 => ?_
      obtain ⟨v_242, h_241, hm⟩ := bind_t hm
      refine qcl (visorlaw33_awake.ok _ _ h_241 _ _ (pt br15x0x_27 (blk (Tvisorref19_M.obj p_192 g_234.1 g_234.2.1 g_234.2.2.1 g_234.2.2.2.1 g_234.2.2.2.2.1 g_234.2.2.2.2.2.1 g_234.2.2.2.2.2.2.1 g_234.2.2.2.2.2.2.2) 54) :: rowp g_234.1 g_234.2.1 103 6 Tapi_Op.cells p_192.ops :: rowp g_234.2.2.1 g_234.2.2.2.1 119 3 Tapi_Span.cells p_192.blocks :: rowp g_234.2.2.2.2.1 g_234.2.2.2.2.2.1 23 1 (eI .u64) p_192.val :: rdp κ g_234.2.2.2.2.2.2.1 g_234.2.2.2.2.2.2.2 1 (eI .u64) p_192.tape.l :: rowp Ar227x0_230 cr227x0_231 23 1 (eI .u64) v_229 :: bagL (Twire_Machine.parts br15x0m_26 p_191 g_226) :: pt b_32 (blk [cp br15x0m_26, cp br15x0x_27, C.slc Ar15x0l_28 v_25.2.2.1.length cr15x0l_29, C.slc Ar15x0v_30 v_25.2.2.2.1.length cr15x0v_31] 30) :: rowp Ar15x0l_28 cr15x0l_29 35 3 eC v_25.2.2.1 :: rowp Ar15x0v_30 cr15x0v_31 23 1 (eI .u64) v_25.2.2.2.1 :: pt b_57 (blk p_58 37) :: pt b_93 (blk p_94 37) :: pt b_153 (blk p_154 37) :: pt b_173 (blk p_174 37) :: pt b_193 (blk p_194 37) :: pt b_195 (blk p_196 37) :: S) hs.own) hs fun w a hs => ?_
      refine qpe 1 [(12, .bool v_242)] hs fun a hs => hK239 _ _ ?_
      clear hK239
      refine wp_ret ?_
      replace hs := hs.toEx (Twire_Machine.parts br15x0m_26 p_191) g_226 6 rfl
      exact qr1 (.bool v_242) hs rfl hRR (by cases hm; exact ⟨rfl, (hs.own.too [] 16)⟩)
     ·replace hm := bif_f hm hb
      refine wp_skip ?_
      refine hK232 _ _ ?_
      clear hK232
      refine Vk.seq fun K243 hK243 => ?_
      refine Vk.seq fun K244 hK244 => ?_
      have hj244 : ∀ (p_274 : Bool), visorlaw33_SlicePlays.j12 k x1 x2 p_58 p_94 v_229 p_274 = some r → ∀ (a : Act) (w : World), St 213 a w κ [(1, .slice A_x1 x1.length c_x1), (2, .slice A_x2 x2.length c_x2), (17, pp b_57), (21, pp b_93), (31, .slice Ar227x0_230 v_229.length cr227x0_231), (195, .bool p_274)] (pt b_57 (blk p_58 37) :: pt b_93 (blk p_94 37) :: rowp Ar227x0_230 cr227x0_231 23 1 (eI .u64) v_229 :: S) → K244 a w := by
       intro p_274 hm a w hs
       unfold visorlaw33_SlicePlays.j12 at hm
       refine hK244 _ _ ?_
       refine qcs (p_274) hs (fun hb => ?_) fun hb => ?_
       ·replace hm := bif_t hm hb
        refine qse 1 [(12, .bool false)] hs fun a hs => ?_
        refine wp_ret ?_
        exact qr1 (.bool false) hs rfl hRR (by cases hm; exact ⟨rfl, hs.own.f2.drop.f1.drop.drop⟩)
       ·replace hm := bif_f hm hb
        refine wp_skip ?_
        refine hK243 _ _ ?_
        clear hK243
        refine Vk.seq fun K276 hK276 => ?_
        have hj276 : ∀ (p_299 : Bool), visorlaw33_SlicePlays.j13 k p_299 = some r → ∀ (a : Act) (w : World), St 213 a w κ [(12, .bool p_299)] (S) → K276 a w := by
         intro p_299 hm a w hs
         unfold visorlaw33_SlicePlays.j13 at hm
         refine hK276 _ _ ?_
         refine wp_ret ?_
         exact qr1 (.bool p_299) hs rfl hRR (by cases hm; exact ⟨rfl, hs.own⟩)
        refine Vk.region ?_
        refine qpu 1 hs fun a hs => ?_
        obtain ⟨h_277, hm⟩ := ite_t hm
        refine qlw 0 hs rfl h_277 fun a hs => ?_
        obtain ⟨v_280, h_279, hm⟩ := bind_t hm
        refine qcl (slice_Value.ok _ _ _ _ h_279 _ _ (pt b_57 (blk p_58 37) :: pt b_93 (blk p_94 37) :: rowp Ar227x0_230 cr227x0_231 23 1 (eI .u64) v_229 :: S) Ar227x0_230 cr227x0_231 ((Ow.rowSl 0 hs.own.drop.drop rfl).less.less) hs.own) hs fun w a hs => ?_
        refine qpu 1 hs fun a hs => ?_
        obtain ⟨v_283, h_282, hm⟩ := bind_t hm
        refine qcl (visorref33_Cut.ok _ _ _ h_282 _ _ (pt b_57 (blk p_58 37) :: pt b_93 (blk p_94 37) :: rowp Ar227x0_230 cr227x0_231 23 1 (eI .u64) v_229 :: S) A_x1 c_x1 hx_x1.less.less.less hs.own) hs fun w a hs => ?_
        obtain ⟨h_284, hm⟩ := ite_t hm
        obtain ⟨h_285, hm⟩ := ite_t hm
        refine qva (.bool (ceq v_280 v_283)) (op := (.binOp .eql 55 (.tmp 198) (.tmp 200) 55)) hs (fun o ho => run_eqV (ks := (List.replicate 8 [LK.int .u64]).flatten) (cs := v_280) (us := v_283) ho (by kernel_rfl) (by kernel_rfl) (by kernel_rfl) h_284 h_285 _) fun a hs => ?_
        refine qpu 1 hs fun a hs => ?_
        rcases Bool.eq_false_or_eq_true (ceq v_280 v_283) with hb | hb
        ·replace hm := bif_t hm hb
         replace hs := hs.known (t := 202) hb (by kernel_rfl)
         refine qpu 1 hs fun a hs => ?_
         obtain ⟨h_287, hm⟩ := ite_t hm
         refine qlw 1 hs rfl h_287 fun a hs => ?_
         obtain ⟨v_290, h_289, hm⟩ := bind_t hm
         refine qcl (slice_Value.ok _ _ _ _ h_289 _ _ (pt b_57 (blk p_58 37) :: pt b_93 (blk p_94 37) :: rowp Ar227x0_230 cr227x0_231 23 1 (eI .u64) v_229 :: S) Ar227x0_230 cr227x0_231 ((Ow.rowSl 0 hs.own.drop.drop rfl).less.less) hs.own) hs fun w a hs => ?_
         refine qpu 1 hs fun a hs => ?_
         obtain ⟨v_293, h_292, hm⟩ := bind_t hm
         refine qcl (visorref33_Cut.ok _ _ _ h_292 _ _ (pt b_57 (blk p_58 37) :: pt b_93 (blk p_94 37) :: rowp Ar227x0_230 cr227x0_231 23 1 (eI .u64) v_229 :: S) A_x2 c_x2 hx_x2.less.less.less hs.own) hs fun w a hs => ?_
         obtain ⟨h_294, hm⟩ := ite_t hm
         obtain ⟨h_295, hm⟩ := ite_t hm
         refine qva (.bool (ceq v_290 v_293)) (op := (.binOp .eql 55 (.tmp 205) (.tmp 207) 55)) hs (fun o ho => run_eqV (ks := (List.replicate 8 [LK.int .u64]).flatten) (cs := v_290) (us := v_293) ho (by kernel_rfl) (by kernel_rfl) (by kernel_rfl) h_294 h_295 _) fun a hs => ?_
         refine qpu 2 hs fun a hs => ?_
         rcases Bool.eq_false_or_eq_true (ceq v_290 v_293) with hb | hb
         ·replace hm := bif_t hm hb
          replace hs := hs.known (t := 210) hb (by kernel_rfl)
          obtain ⟨v_298, h_297, hm⟩ := bind_t hm
          refine qcl (visorlaw33_awake.ok _ _ h_297 _ _ (pt b_57 (blk p_58 37) :: pt b_93 (blk p_94 37) :: rowp Ar227x0_230 cr227x0_231 23 1 (eI .u64) v_229 :: S) hs.own) hs fun w a hs => ?_
          refine qpe 2 [(12, .bool v_298)] hs fun a hs => ?_
          exact hj276 v_298 hm _ _ (hs.go [12] [] 3 (by kernel_rfl) (by kernel_rfl) (by kernel_rfl))
         ·replace hm := bif_f hm hb
          replace hs := hs.known (t := 210) hb (by kernel_rfl)
          refine qpe 3 [(12, .bool false)] hs fun a hs => ?_
          exact hj276 false hm _ _ (hs.go [12] [] 3 (by kernel_rfl) (by kernel_rfl) (by kernel_rfl))
        ·replace hm := bif_f hm hb
         replace hs := hs.known (t := 202) hb (by kernel_rfl)
         refine qpe 11 [(12, .bool false)] hs fun a hs => ?_
         exact hj276 false hm _ _ (hs.go [12] [] 3 (by kernel_rfl) (by kernel_rfl) (by kernel_rfl))
      obtain ⟨C_245, hC_245⟩ := qC hs.own
      refine qdr 26 κ C_245 hs fun w hs hqC_245 => ?_
      have hcl := qO hC_245 hs.own
      refine qdp (fuel := 24) [0, 3] hs hcl hqC_245 fun a hs => ?_
      obtain ⟨h_246, hm⟩ := ite_t hm
      refine qdw 1 14 hs hcl hqC_245 hC_245 rfl h_246 fun a hs => ?_
      refine qdl 4 7 (cp br15x0x_27) hs hcl hqC_245 hC_245 rfl fun a hs => ?_
      refine qdp (fuel := 20) [5, 6] hs hcl hqC_245 fun a hs => ?_
      refine qdl 7 0 (C.slc g_234.2.2.2.2.1 p_192.val.length g_234.2.2.2.2.2.1) hs hcl hqC_245 hC_245 rfl fun a hs => ?_
      obtain ⟨h_247, hm⟩ := ite_t hm
      refine qdw 8 15 hs hcl hqC_245 hC_245 rfl h_247 fun a hs => ?_
      obtain ⟨v_250, h_249, hm⟩ := bind_t hm
      refine qdc 2 (slice_Value.ok _ _ _ _ h_249 _ _ (pt br15x0x_27 (blk (Tvisorref19_M.obj p_192 g_234.1 g_234.2.1 g_234.2.2.1 g_234.2.2.2.1 g_234.2.2.2.2.1 g_234.2.2.2.2.2.1 g_234.2.2.2.2.2.2.1 g_234.2.2.2.2.2.2.2) 54) :: rowp g_234.1 g_234.2.1 103 6 Tapi_Op.cells p_192.ops :: rowp g_234.2.2.1 g_234.2.2.2.1 119 3 Tapi_Span.cells p_192.blocks :: rowp g_234.2.2.2.2.1 g_234.2.2.2.2.2.1 23 1 (eI .u64) p_192.val :: rdp κ g_234.2.2.2.2.2.2.1 g_234.2.2.2.2.2.2.2 1 (eI .u64) p_192.tape.l :: rowp Ar227x0_230 cr227x0_231 23 1 (eI .u64) v_229 :: bagL (Twire_Machine.parts br15x0m_26 p_191 g_226) :: pt b_32 (blk [cp br15x0m_26, cp br15x0x_27, C.slc Ar15x0l_28 v_25.2.2.1.length cr15x0l_29, C.slc Ar15x0v_30 v_25.2.2.2.1.length cr15x0v_31] 30) :: rowp Ar15x0l_28 cr15x0l_29 35 3 eC v_25.2.2.1 :: rowp Ar15x0v_30 cr15x0v_31 23 1 (eI .u64) v_25.2.2.2.1 :: pt b_57 (blk p_58 37) :: pt b_93 (blk p_94 37) :: pt b_153 (blk p_154 37) :: pt b_173 (blk p_174 37) :: pt b_193 (blk p_194 37) :: pt b_195 (blk p_196 37) :: S) Ar227x0_230 cr227x0_231 (Sl.lift (fun w ho => (Ow.to (S' := rowp Ar227x0_230 cr227x0_231 23 1 (eI .u64) v_229 :: S) ho [5] 16 (by kernel_rfl) (by kernel_rfl))) (Ow.rowSl 0 (Ow.to (S' := rowp Ar227x0_230 cr227x0_231 23 1 (eI .u64) v_229 :: S) hs.own [5] 16 (by kernel_rfl) (by kernel_rfl)) rfl)) hs.own) hs fun w a hs => ?_
      replace hcl := qO hC_245 hs.own
      refine ⟨fun _ => hcl, ?_⟩
      obtain ⟨v_253, h_252, hm⟩ := bind_t hm
      refine qdc 9 (visorref33_Value.ok _ _ _ _ h_252 _ _ (pt br15x0x_27 (blk (Tvisorref19_M.obj p_192 g_234.1 g_234.2.1 g_234.2.2.1 g_234.2.2.2.1 g_234.2.2.2.2.1 g_234.2.2.2.2.2.1 g_234.2.2.2.2.2.2.1 g_234.2.2.2.2.2.2.2) 54) :: rowp g_234.1 g_234.2.1 103 6 Tapi_Op.cells p_192.ops :: rowp g_234.2.2.1 g_234.2.2.2.1 119 3 Tapi_Span.cells p_192.blocks :: rowp g_234.2.2.2.2.1 g_234.2.2.2.2.2.1 23 1 (eI .u64) p_192.val :: rdp κ g_234.2.2.2.2.2.2.1 g_234.2.2.2.2.2.2.2 1 (eI .u64) p_192.tape.l :: rowp Ar227x0_230 cr227x0_231 23 1 (eI .u64) v_229 :: bagL (Twire_Machine.parts br15x0m_26 p_191 g_226) :: pt b_32 (blk [cp br15x0m_26, cp br15x0x_27, C.slc Ar15x0l_28 v_25.2.2.1.length cr15x0l_29, C.slc Ar15x0v_30 v_25.2.2.2.1.length cr15x0v_31] 30) :: rowp Ar15x0l_28 cr15x0l_29 35 3 eC v_25.2.2.1 :: rowp Ar15x0v_30 cr15x0v_31 23 1 (eI .u64) v_25.2.2.2.1 :: pt b_57 (blk p_58 37) :: pt b_93 (blk p_94 37) :: pt b_153 (blk p_154 37) :: pt b_173 (blk p_174 37) :: pt b_193 (blk p_194 37) :: pt b_195 (blk p_196 37) :: S) g_234.2.2.2.2.1 g_234.2.2.2.2.2.1 (Sl.lift (fun w ho => (Ow.to (S' := rowp g_234.2.2.2.2.1 g_234.2.2.2.2.2.1 23 1 (eI .u64) p_192.val :: S) ho [3] 16 (by kernel_rfl) (by kernel_rfl))) (Ow.rowSl 0 (Ow.to (S' := rowp g_234.2.2.2.2.1 g_234.2.2.2.2.2.1 23 1 (eI .u64) p_192.val :: S) hs.own [3] 16 (by kernel_rfl) (by kernel_rfl)) rfl)) hs.own) hs fun w a hs => ?_
      replace hcl := qO hC_245 hs.own
      refine ⟨fun _ => hcl, ?_⟩
      obtain ⟨h_254, hm⟩ := ite_t hm
      obtain ⟨h_255, hm⟩ := ite_t hm
      refine qdt 10 (.bool (!(ceq v_250 v_253))) (op := (.binOp .neq 55 (.tmp 172) (.tmp 179) 55)) hs hcl hqC_245 (fun w hw o ho => by rw [hC_245] at hw; exact run_neqV (ks := (List.replicate 8 [LK.int .u64]).flatten) (cs := v_250) (us := v_253) ho (by kernel_rfl) (by kernel_rfl) (by kernel_rfl) h_254 h_255 _) fun a hs => ?_
      refine qdp (fuel := 14) [11] hs hcl hqC_245 fun a hs => ?_
      rcases Bool.eq_false_or_eq_true (!(ceq v_250 v_253)) with hb | hb
      ·replace hm := bif_t hm hb
       replace hs := hs.known (t := 181) hb (by kernel_rfl)
       refine qdp (fuel := 0) [12, 13, 14, 15, 16, 17, 18, 19, 20, 21, 22, 23, 24, 25] hs hcl hqC_245 fun a hs => ?_
       replace hs := hs.pick [1, 2, 17, 21, 31, 195] (L' := [(1, .slice A_x1 x1.length c_x1), (2, .slice A_x2 x2.length c_x2), (17, pp b_57), (21, pp b_93), (31, .slice Ar227x0_230 v_229.length cr227x0_231), (195, .bool true)]) (by kernel_rfl)
       refine Vk.dDone (by kernel_rfl) ?_
       replace hs := hs.bagG (l := Tvisorref19_M.parts κ br15x0x_27 p_192 g_234) (S' := rowp Ar227x0_230 cr227x0_231 23 1 (eI .u64) v_229 :: bagL (Twire_Machine.parts br15x0m_26 p_191 g_226) :: pt b_32 (blk [cp br15x0m_26, cp br15x0x_27, C.slc Ar15x0l_28 v_25.2.2.1.length cr15x0l_29, C.slc Ar15x0v_30 v_25.2.2.2.1.length cr15x0v_31] 30) :: rowp Ar15x0l_28 cr15x0l_29 35 3 eC v_25.2.2.1 :: rowp Ar15x0v_30 cr15x0v_31 23 1 (eI .u64) v_25.2.2.2.1 :: pt b_57 (blk p_58 37) :: pt b_93 (blk p_94 37) :: pt b_153 (blk p_154 37) :: pt b_173 (blk p_174 37) :: pt b_193 (blk p_194 37) :: pt b_195 (blk p_196 37) :: S) hs.own
       replace hs := hs.toEx (Tvisorref19_M.parts κ br15x0x_27 p_192) g_234 0 rfl
       replace hs := hs.toEx (Twire_Machine.parts br15x0m_26 p_191) g_226 2 rfl
       exact hj244 true hm _ _ (hs.go [1, 2, 17, 21, 31, 195] [6, 7, 1] 12 (by kernel_rfl) (by kernel_rfl) (by kernel_rfl))
      ·replace hm := bif_f hm hb
       replace hs := hs.known (t := 181) hb (by kernel_rfl)
       refine qdp (fuel := 13) [12] hs hcl hqC_245 fun a hs => ?_
       obtain ⟨h_256, hm⟩ := ite_t hm
       refine qdw 13 13 hs hcl hqC_245 hC_245 rfl h_256 fun a hs => ?_
       obtain ⟨v_259, h_258, hm⟩ := bind_t hm
       refine qdc 14 (slice_Value.ok _ _ _ _ h_258 _ _ (pt br15x0x_27 (blk (Tvisorref19_M.obj p_192 g_234.1 g_234.2.1 g_234.2.2.1 g_234.2.2.2.1 g_234.2.2.2.2.1 g_234.2.2.2.2.2.1 g_234.2.2.2.2.2.2.1 g_234.2.2.2.2.2.2.2) 54) :: rowp g_234.1 g_234.2.1 103 6 Tapi_Op.cells p_192.ops :: rowp g_234.2.2.1 g_234.2.2.2.1 119 3 Tapi_Span.cells p_192.blocks :: rowp g_234.2.2.2.2.1 g_234.2.2.2.2.2.1 23 1 (eI .u64) p_192.val :: rdp κ g_234.2.2.2.2.2.2.1 g_234.2.2.2.2.2.2.2 1 (eI .u64) p_192.tape.l :: rowp Ar227x0_230 cr227x0_231 23 1 (eI .u64) v_229 :: bagL (Twire_Machine.parts br15x0m_26 p_191 g_226) :: pt b_32 (blk [cp br15x0m_26, cp br15x0x_27, C.slc Ar15x0l_28 v_25.2.2.1.length cr15x0l_29, C.slc Ar15x0v_30 v_25.2.2.2.1.length cr15x0v_31] 30) :: rowp Ar15x0l_28 cr15x0l_29 35 3 eC v_25.2.2.1 :: rowp Ar15x0v_30 cr15x0v_31 23 1 (eI .u64) v_25.2.2.2.1 :: pt b_57 (blk p_58 37) :: pt b_93 (blk p_94 37) :: pt b_153 (blk p_154 37) :: pt b_173 (blk p_174 37) :: pt b_193 (blk p_194 37) :: pt b_195 (blk p_196 37) :: S) Ar227x0_230 cr227x0_231 (Sl.lift (fun w ho => (Ow.to (S' := rowp Ar227x0_230 cr227x0_231 23 1 (eI .u64) v_229 :: S) ho [5] 16 (by kernel_rfl) (by kernel_rfl))) (Ow.rowSl 0 (Ow.to (S' := rowp Ar227x0_230 cr227x0_231 23 1 (eI .u64) v_229 :: S) hs.own [5] 16 (by kernel_rfl) (by kernel_rfl)) rfl)) hs.own) hs fun w a hs => ?_
       replace hcl := qO hC_245 hs.own
       refine ⟨fun _ => hcl, ?_⟩
       obtain ⟨v_262, h_261, hm⟩ := bind_t hm
       refine qdc 15 (visorref33_Cut.ok _ _ _ h_261 _ _ (pt br15x0x_27 (blk (Tvisorref19_M.obj p_192 g_234.1 g_234.2.1 g_234.2.2.1 g_234.2.2.2.1 g_234.2.2.2.2.1 g_234.2.2.2.2.2.1 g_234.2.2.2.2.2.2.1 g_234.2.2.2.2.2.2.2) 54) :: rowp g_234.1 g_234.2.1 103 6 Tapi_Op.cells p_192.ops :: rowp g_234.2.2.1 g_234.2.2.2.1 119 3 Tapi_Span.cells p_192.blocks :: rowp g_234.2.2.2.2.1 g_234.2.2.2.2.2.1 23 1 (eI .u64) p_192.val :: rdp κ g_234.2.2.2.2.2.2.1 g_234.2.2.2.2.2.2.2 1 (eI .u64) p_192.tape.l :: rowp Ar227x0_230 cr227x0_231 23 1 (eI .u64) v_229 :: bagL (Twire_Machine.parts br15x0m_26 p_191 g_226) :: pt b_32 (blk [cp br15x0m_26, cp br15x0x_27, C.slc Ar15x0l_28 v_25.2.2.1.length cr15x0l_29, C.slc Ar15x0v_30 v_25.2.2.2.1.length cr15x0v_31] 30) :: rowp Ar15x0l_28 cr15x0l_29 35 3 eC v_25.2.2.1 :: rowp Ar15x0v_30 cr15x0v_31 23 1 (eI .u64) v_25.2.2.2.1 :: pt b_57 (blk p_58 37) :: pt b_93 (blk p_94 37) :: pt b_153 (blk p_154 37) :: pt b_173 (blk p_174 37) :: pt b_193 (blk p_194 37) :: pt b_195 (blk p_196 37) :: S) none 0 Sl.nil hs.own) hs fun w a hs => ?_
       replace hcl := qO hC_245 hs.own
       refine ⟨fun _ => hcl, ?_⟩
       obtain ⟨h_263, hm⟩ := ite_t hm
       obtain ⟨h_264, hm⟩ := ite_t hm
       refine qdt 16 (.bool (!(ceq v_259 v_262))) (op := (.binOp .neq 55 (.tmp 184) (.tmp 185) 55)) hs hcl hqC_245 (fun w hw o ho => by rw [hC_245] at hw; exact run_neqV (ks := (List.replicate 8 [LK.int .u64]).flatten) (cs := v_259) (us := v_262) ho (by kernel_rfl) (by kernel_rfl) (by kernel_rfl) h_263 h_264 _) fun a hs => ?_
       refine qdp (fuel := 7) [17, 18] hs hcl hqC_245 fun a hs => ?_
       rcases Bool.eq_false_or_eq_true (!(ceq v_259 v_262)) with hb | hb
       ·replace hm := bif_t hm hb
        replace hs := hs.known (t := 188) hb (by kernel_rfl)
        refine qdp (fuel := 0) [19, 20, 21, 22, 23, 24, 25] hs hcl hqC_245 fun a hs => ?_
        replace hs := hs.pick [1, 2, 17, 21, 31, 195] (L' := [(1, .slice A_x1 x1.length c_x1), (2, .slice A_x2 x2.length c_x2), (17, pp b_57), (21, pp b_93), (31, .slice Ar227x0_230 v_229.length cr227x0_231), (195, .bool true)]) (by kernel_rfl)
        refine Vk.dDone (by kernel_rfl) ?_
        replace hs := hs.bagG (l := Tvisorref19_M.parts κ br15x0x_27 p_192 g_234) (S' := rowp Ar227x0_230 cr227x0_231 23 1 (eI .u64) v_229 :: bagL (Twire_Machine.parts br15x0m_26 p_191 g_226) :: pt b_32 (blk [cp br15x0m_26, cp br15x0x_27, C.slc Ar15x0l_28 v_25.2.2.1.length cr15x0l_29, C.slc Ar15x0v_30 v_25.2.2.2.1.length cr15x0v_31] 30) :: rowp Ar15x0l_28 cr15x0l_29 35 3 eC v_25.2.2.1 :: rowp Ar15x0v_30 cr15x0v_31 23 1 (eI .u64) v_25.2.2.2.1 :: pt b_57 (blk p_58 37) :: pt b_93 (blk p_94 37) :: pt b_153 (blk p_154 37) :: pt b_173 (blk p_174 37) :: pt b_193 (blk p_194 37) :: pt b_195 (blk p_196 37) :: S) hs.own
        replace hs := hs.toEx (Tvisorref19_M.parts κ br15x0x_27 p_192) g_234 0 rfl
        replace hs := hs.toEx (Twire_Machine.parts br15x0m_26 p_191) g_226 2 rfl
        exact hj244 true hm _ _ (hs.go [1, 2, 17, 21, 31, 195] [6, 7, 1] 12 (by kernel_rfl) (by kernel_rfl) (by kernel_rfl))
       ·replace hm := bif_f hm hb
        replace hs := hs.known (t := 188) hb (by kernel_rfl)
        refine qdp (fuel := 5) [19, 22] hs hcl hqC_245 fun a hs => ?_
        obtain ⟨h_265, hm⟩ := ite_t hm
        refine qdw 20 12 hs hcl hqC_245 hC_245 rfl h_265 fun a hs => ?_
        obtain ⟨v_268, h_267, hm⟩ := bind_t hm
        refine qdc 21 (slice_Value.ok _ _ _ _ h_267 _ _ (pt br15x0x_27 (blk (Tvisorref19_M.obj p_192 g_234.1 g_234.2.1 g_234.2.2.1 g_234.2.2.2.1 g_234.2.2.2.2.1 g_234.2.2.2.2.2.1 g_234.2.2.2.2.2.2.1 g_234.2.2.2.2.2.2.2) 54) :: rowp g_234.1 g_234.2.1 103 6 Tapi_Op.cells p_192.ops :: rowp g_234.2.2.1 g_234.2.2.2.1 119 3 Tapi_Span.cells p_192.blocks :: rowp g_234.2.2.2.2.1 g_234.2.2.2.2.2.1 23 1 (eI .u64) p_192.val :: rdp κ g_234.2.2.2.2.2.2.1 g_234.2.2.2.2.2.2.2 1 (eI .u64) p_192.tape.l :: rowp Ar227x0_230 cr227x0_231 23 1 (eI .u64) v_229 :: bagL (Twire_Machine.parts br15x0m_26 p_191 g_226) :: pt b_32 (blk [cp br15x0m_26, cp br15x0x_27, C.slc Ar15x0l_28 v_25.2.2.1.length cr15x0l_29, C.slc Ar15x0v_30 v_25.2.2.2.1.length cr15x0v_31] 30) :: rowp Ar15x0l_28 cr15x0l_29 35 3 eC v_25.2.2.1 :: rowp Ar15x0v_30 cr15x0v_31 23 1 (eI .u64) v_25.2.2.2.1 :: pt b_57 (blk p_58 37) :: pt b_93 (blk p_94 37) :: pt b_153 (blk p_154 37) :: pt b_173 (blk p_174 37) :: pt b_193 (blk p_194 37) :: pt b_195 (blk p_196 37) :: S) Ar227x0_230 cr227x0_231 (Sl.lift (fun w ho => (Ow.to (S' := rowp Ar227x0_230 cr227x0_231 23 1 (eI .u64) v_229 :: S) ho [5] 16 (by kernel_rfl) (by kernel_rfl))) (Ow.rowSl 0 (Ow.to (S' := rowp Ar227x0_230 cr227x0_231 23 1 (eI .u64) v_229 :: S) hs.own [5] 16 (by kernel_rfl) (by kernel_rfl)) rfl)) hs.own) hs fun w a hs => ?_
        replace hcl := qO hC_245 hs.own
        refine ⟨fun _ => hcl, ?_⟩
        obtain ⟨v_271, h_270, hm⟩ := bind_t hm
        refine qdc 23 (visorref33_Cut.ok _ _ _ h_270 _ _ (pt br15x0x_27 (blk (Tvisorref19_M.obj p_192 g_234.1 g_234.2.1 g_234.2.2.1 g_234.2.2.2.1 g_234.2.2.2.2.1 g_234.2.2.2.2.2.1 g_234.2.2.2.2.2.2.1 g_234.2.2.2.2.2.2.2) 54) :: rowp g_234.1 g_234.2.1 103 6 Tapi_Op.cells p_192.ops :: rowp g_234.2.2.1 g_234.2.2.2.1 119 3 Tapi_Span.cells p_192.blocks :: rowp g_234.2.2.2.2.1 g_234.2.2.2.2.2.1 23 1 (eI .u64) p_192.val :: rdp κ g_234.2.2.2.2.2.2.1 g_234.2.2.2.2.2.2.2 1 (eI .u64) p_192.tape.l :: rowp Ar227x0_230 cr227x0_231 23 1 (eI .u64) v_229 :: bagL (Twire_Machine.parts br15x0m_26 p_191 g_226) :: pt b_32 (blk [cp br15x0m_26, cp br15x0x_27, C.slc Ar15x0l_28 v_25.2.2.1.length cr15x0l_29, C.slc Ar15x0v_30 v_25.2.2.2.1.length cr15x0v_31] 30) :: rowp Ar15x0l_28 cr15x0l_29 35 3 eC v_25.2.2.1 :: rowp Ar15x0v_30 cr15x0v_31 23 1 (eI .u64) v_25.2.2.2.1 :: pt b_57 (blk p_58 37) :: pt b_93 (blk p_94 37) :: pt b_153 (blk p_154 37) :: pt b_173 (blk p_174 37) :: pt b_193 (blk p_194 37) :: pt b_195 (blk p_196 37) :: S) A_x2 c_x2 hx_x2.less.less.less.less.less.less.less.less.less.less.less.less.less.less.less.less hs.own) hs fun w a hs => ?_
        replace hcl := qO hC_245 hs.own
        refine ⟨fun _ => hcl, ?_⟩
        obtain ⟨h_272, hm⟩ := ite_t hm
        obtain ⟨h_273, hm⟩ := ite_t hm
        refine qdt 24 (.bool (!(ceq v_268 v_271))) (op := (.binOp .neq 55 (.tmp 191) (.tmp 193) 55)) hs hcl hqC_245 (fun w hw o ho => by rw [hC_245] at hw; exact run_neqV (ks := (List.replicate 8 [LK.int .u64]).flatten) (cs := v_268) (us := v_271) ho (by kernel_rfl) (by kernel_rfl) (by kernel_rfl) h_272 h_273 _) fun a hs => ?_
        refine qdp (fuel := 0) [25] hs hcl hqC_245 fun a hs => ?_
        replace hs := hs.pick [1, 2, 17, 21, 31, 195] (L' := [(1, .slice A_x1 x1.length c_x1), (2, .slice A_x2 x2.length c_x2), (17, pp b_57), (21, pp b_93), (31, .slice Ar227x0_230 v_229.length cr227x0_231), (195, .bool (!(ceq v_268 v_271)))]) (by kernel_rfl)
        refine Vk.dDone (by kernel_rfl) ?_
        replace hs := hs.bagG (l := Tvisorref19_M.parts κ br15x0x_27 p_192 g_234) (S' := rowp Ar227x0_230 cr227x0_231 23 1 (eI .u64) v_229 :: bagL (Twire_Machine.parts br15x0m_26 p_191 g_226) :: pt b_32 (blk [cp br15x0m_26, cp br15x0x_27, C.slc Ar15x0l_28 v_25.2.2.1.length cr15x0l_29, C.slc Ar15x0v_30 v_25.2.2.2.1.length cr15x0v_31] 30) :: rowp Ar15x0l_28 cr15x0l_29 35 3 eC v_25.2.2.1 :: rowp Ar15x0v_30 cr15x0v_31 23 1 (eI .u64) v_25.2.2.2.1 :: pt b_57 (blk p_58 37) :: pt b_93 (blk p_94 37) :: pt b_153 (blk p_154 37) :: pt b_173 (blk p_174 37) :: pt b_193 (blk p_194 37) :: pt b_195 (blk p_196 37) :: S) hs.own
        replace hs := hs.toEx (Tvisorref19_M.parts κ br15x0x_27 p_192) g_234 0 rfl
        replace hs := hs.toEx (Twire_Machine.parts br15x0m_26 p_191) g_226 2 rfl
        exact hj244 (!(ceq v_268 v_271)) hm _ _ (hs.go [1, 2, 17, 21, 31, 195] [6, 7, 1] 12 (by kernel_rfl) (by kernel_rfl) (by kernel_rfl))
   refine Vk.region ?_
   obtain ⟨h_199, hm⟩ := ite_t hm
   refine qlw 7 hs rfl h_199 fun a hs => ?_
   obtain ⟨h_200, hm⟩ := ite_t hm
   refine qlw 8 hs rfl h_200 fun a hs => ?_
   obtain ⟨h_201, hm⟩ := ite_t hm
   obtain ⟨h_202, hm⟩ := ite_t hm
   refine qva (.bool (!(ceq p_134 p_136))) (op := (.binOp .neq 37 (.tmp 137) (.tmp 138) 37)) hs (fun o ho => run_neqV (ks := (List.replicate 8 ((List.replicate 3 [LK.int .i64]).flatten)).flatten) (cs := p_134) (us := p_136) ho (by kernel_rfl) (by kernel_rfl) (by kernel_rfl) h_201 h_202 _) fun a hs => ?_
   refine qpu 1 hs fun a hs => ?_
   rcases Bool.eq_false_or_eq_true (!(ceq p_134 p_136)) with hb | hb
   ·replace hm := bif_t hm hb
    replace hs := hs.known (t := 140) hb (by kernel_rfl)
    refine qpe 19 [(1, .slice A_x1 x1.length c_x1), (2, .slice A_x2 x2.length c_x2), (14, pp b_32), (17, pp b_57), (21, pp b_93), (25, pp b_153), (27, pp b_173), (29, pp b_193), (30, pp b_195), (159, .bool true)] hs fun a hs => ?_
    exact hj198 true hm _ _ (hs.go [1, 2, 14, 17, 21, 25, 27, 29, 30, 159] [0, 1, 2, 3, 4, 5, 6, 9, 11, 13, 14] 15 (by kernel_rfl) (by kernel_rfl) (by kernel_rfl))
   ·replace hm := bif_f hm hb
    replace hs := hs.known (t := 140) hb (by kernel_rfl)
    obtain ⟨h_204, hm⟩ := ite_t hm
    refine qlw 9 hs rfl h_204 fun a hs => ?_
    obtain ⟨h_205, hm⟩ := ite_t hm
    refine qlw 10 hs rfl h_205 fun a hs => ?_
    obtain ⟨h_206, hm⟩ := ite_t hm
    obtain ⟨h_207, hm⟩ := ite_t hm
    refine qva (.bool (!(ceq p_154 p_156))) (op := (.binOp .neq 37 (.tmp 141) (.tmp 142) 37)) hs (fun o ho => run_neqV (ks := (List.replicate 8 ((List.replicate 3 [LK.int .i64]).flatten)).flatten) (cs := p_154) (us := p_156) ho (by kernel_rfl) (by kernel_rfl) (by kernel_rfl) h_206 h_207 _) fun a hs => ?_
    refine qpu 2 hs fun a hs => ?_
    rcases Bool.eq_false_or_eq_true (!(ceq p_154 p_156)) with hb | hb
    ·replace hm := bif_t hm hb
     replace hs := hs.known (t := 145) hb (by kernel_rfl)
     refine qpe 14 [(1, .slice A_x1 x1.length c_x1), (2, .slice A_x2 x2.length c_x2), (14, pp b_32), (17, pp b_57), (21, pp b_93), (25, pp b_153), (27, pp b_173), (29, pp b_193), (30, pp b_195), (159, .bool true)] hs fun a hs => ?_
     exact hj198 true hm _ _ (hs.go [1, 2, 14, 17, 21, 25, 27, 29, 30, 159] [0, 1, 2, 3, 4, 5, 6, 9, 11, 13, 14] 15 (by kernel_rfl) (by kernel_rfl) (by kernel_rfl))
    ·replace hm := bif_f hm hb
     replace hs := hs.known (t := 145) hb (by kernel_rfl)
     obtain ⟨h_209, hm⟩ := ite_t hm
     refine qlw 11 hs rfl h_209 fun a hs => ?_
     obtain ⟨h_210, hm⟩ := ite_t hm
     refine qlw 12 hs rfl h_210 fun a hs => ?_
     obtain ⟨h_211, hm⟩ := ite_t hm
     obtain ⟨h_212, hm⟩ := ite_t hm
     refine qva (.bool (!(ceq p_174 p_176))) (op := (.binOp .neq 37 (.tmp 146) (.tmp 147) 37)) hs (fun o ho => run_neqV (ks := (List.replicate 8 ((List.replicate 3 [LK.int .i64]).flatten)).flatten) (cs := p_174) (us := p_176) ho (by kernel_rfl) (by kernel_rfl) (by kernel_rfl) h_211 h_212 _) fun a hs => ?_
     refine qpu 2 hs fun a hs => ?_
     rcases Bool.eq_false_or_eq_true (!(ceq p_174 p_176)) with hb | hb
     ·replace hm := bif_t hm hb
      replace hs := hs.known (t := 150) hb (by kernel_rfl)
      refine qpe 9 [(1, .slice A_x1 x1.length c_x1), (2, .slice A_x2 x2.length c_x2), (14, pp b_32), (17, pp b_57), (21, pp b_93), (25, pp b_153), (27, pp b_173), (29, pp b_193), (30, pp b_195), (159, .bool true)] hs fun a hs => ?_
      exact hj198 true hm _ _ (hs.go [1, 2, 14, 17, 21, 25, 27, 29, 30, 159] [0, 1, 2, 3, 4, 5, 6, 9, 11, 13, 14] 15 (by kernel_rfl) (by kernel_rfl) (by kernel_rfl))
     ·replace hm := bif_f hm hb
      replace hs := hs.known (t := 150) hb (by kernel_rfl)
      obtain ⟨h_214, hm⟩ := ite_t hm
      refine qlw 13 hs rfl h_214 fun a hs => ?_
      obtain ⟨h_215, hm⟩ := ite_t hm
      refine qlw 14 hs rfl h_215 fun a hs => ?_
      obtain ⟨h_216, hm⟩ := ite_t hm
      obtain ⟨h_217, hm⟩ := ite_t hm
      refine qva (.bool (!(ceq p_194 p_196))) (op := (.binOp .neq 37 (.tmp 151) (.tmp 152) 37)) hs (fun o ho => run_neqV (ks := (List.replicate 8 ((List.replicate 3 [LK.int .i64]).flatten)).flatten) (cs := p_194) (us := p_196) ho (by kernel_rfl) (by kernel_rfl) (by kernel_rfl) h_216 h_217 _) fun a hs => ?_
      refine qpu 2 hs fun a hs => ?_
      rcases Bool.eq_false_or_eq_true (!(ceq p_194 p_196)) with hb | hb
      ·replace hm := bif_t hm hb
       replace hs := hs.known (t := 155) hb (by kernel_rfl)
       refine qpe 4 [(1, .slice A_x1 x1.length c_x1), (2, .slice A_x2 x2.length c_x2), (14, pp b_32), (17, pp b_57), (21, pp b_93), (25, pp b_153), (27, pp b_173), (29, pp b_193), (30, pp b_195), (159, .bool true)] hs fun a hs => ?_
       exact hj198 true hm _ _ (hs.go [1, 2, 14, 17, 21, 25, 27, 29, 30, 159] [0, 1, 2, 3, 4, 5, 6, 9, 11, 13, 14] 15 (by kernel_rfl) (by kernel_rfl) (by kernel_rfl))
      ·replace hm := bif_f hm hb
       replace hs := hs.known (t := 155) hb (by kernel_rfl)
       refine qln 0 ([cp br15x0m_26, cp br15x0x_27, C.slc Ar15x0l_28 v_25.2.2.1.length cr15x0l_29, C.slc Ar15x0v_30 v_25.2.2.2.1.length cr15x0v_31]) hs rfl fun a hs => ?_
       obtain ⟨g_218, hs⟩ := hs.unex 1 rfl
       obtain ⟨g_219, hs⟩ := hs.unex 2 rfl
       obtain ⟨v_222, h_221, hm⟩ := bind_t hm
       refine qcl (visorlaw20_Pair_Like.ok _ _ _ h_221 _ _ _ br15x0m_26 g_218 br15x0x_27 g_219 Ar15x0l_28 cr15x0l_29 (Sl.lift (fun w ho => (Ow.to (S' := rowp Ar15x0l_28 cr15x0l_29 35 3 eC v_25.2.2.1 :: S) ho [1] 13 (by kernel_rfl) (by kernel_rfl))) (Ow.rowSl 0 (Ow.to (S' := rowp Ar15x0l_28 cr15x0l_29 35 3 eC v_25.2.2.1 :: S) hs.own [3] 15 (by kernel_rfl) (by kernel_rfl)) rfl)) Ar15x0v_30 cr15x0v_31 (Sl.lift (fun w ho => (Ow.to (S' := rowp Ar15x0v_30 cr15x0v_31 23 1 (eI .u64) v_25.2.2.2.1 :: S) ho [2] 13 (by kernel_rfl) (by kernel_rfl))) (Ow.rowSl 0 (Ow.to (S' := rowp Ar15x0v_30 cr15x0v_31 23 1 (eI .u64) v_25.2.2.2.1 :: S) hs.own [4] 15 (by kernel_rfl) (by kernel_rfl)) rfl)) hs.own.f2.f2) hs fun w a hs => ?_
       refine qpe 2 [(1, .slice A_x1 x1.length c_x1), (2, .slice A_x2 x2.length c_x2), (14, pp b_32), (17, pp b_57), (21, pp b_93), (25, pp b_153), (27, pp b_173), (29, pp b_193), (30, pp b_195), (159, .bool (!v_222))] hs fun a hs => ?_
       replace hs := hs.toEx (Twire_Machine.parts br15x0m_26 p_191) g_218 0 rfl
       replace hs := hs.toEx (Tvisorref19_M.parts κ br15x0x_27 p_192) g_219 1 rfl
       exact hj198 (!v_222) hm _ _ (hs.go [1, 2, 14, 17, 21, 25, 27, 29, 30, 159] [2, 0, 1, 3, 4, 5, 6, 9, 11, 13, 14] 15 (by kernel_rfl) (by kernel_rfl) (by kernel_rfl))
  obtain ⟨C_178, hC_178⟩ := qC hs.own.f2.drop.f1.drop
  refine qdr 15 κ C_178 hs fun w hs hqC_178 => ?_
  have hcl := qO hC_178 hs.own.f2.drop.f1.drop
  refine qdp (fuel := 10) [0, 2, 4, 6, 8, 10] hs hcl hqC_178 fun a hs => ?_
  refine qdl 1 0 (cp br15x0m_26) hs hcl hqC_178 hC_178 rfl fun a hs => ?_
  obtain ⟨h_179, hm⟩ := ite_t hm
  refine qdw 3 5 hs hcl hqC_178 hC_178 rfl h_179 fun a hs => ?_
  refine qdl 7 0 (cp br15x0x_27) hs hcl hqC_178 hC_178 rfl fun a hs => ?_
  obtain ⟨h_180, hm⟩ := ite_t hm
  refine qdw 9 6 hs hcl hqC_178 hC_178 rfl h_180 fun a hs => ?_
  refine Vk.dMany3 (i0 := 5) (i1 := 12) (i2 := 13) (by kernel_rfl) ?_ ?_ ?_
  ·exact by
    obtain ⟨v_183, h_182, hm⟩ := bind_t hm
    refine qco (slice_One.ok _ _ _ _ _ _ h_182 _ _ _ br15x0m_26 hs.own.f1) hs fun w a hs => ?_
    replace hcl := qO hC_178 hs.own.f2.drop.drop
    refine ⟨fun _ => hcl, ?_⟩
    refine Vk.dMany3 (i0 := 11) (i1 := 12) (i2 := 13) (by kernel_rfl) ?_ ?_ ?_
    ·exact by
      obtain ⟨v_186, h_185, hm⟩ := bind_t hm
      refine qco (visorref33_One.ok _ _ _ _ _ _ h_185 _ _ _ br15x0x_27 hs.own.f2) hs fun w a hs => ?_
      replace hcl := qO hC_178 hs.own.f1.drop.drop
      refine ⟨fun _ => hcl, ?_⟩
      refine Vk.dMany2 (i0 := 12) (i1 := 13) (by kernel_rfl) ?_ ?_
      ·exact by
        refine Vk.alloc 29 37 [ci 0, ci 0, ci 0, ci 0, ci 0, ci 0, ci 0, ci 0, ci 0, ci 0, ci 0, ci 0, ci 0, ci 0, ci 0, ci 0, ci 0, ci 0, ci 0, ci 0, ci 0, ci 0, ci 0, ci 0] hs (by kernel_rfl) (by kernel_rfl) (by kernel_rfl) fun b_187 w a hs => ?_
        replace hcl := qO hC_178 hs.own.f2.drop.f1.drop.drop
        refine ⟨fun _ => hcl, ?_⟩
        refine Vk.dOnly (i := 13) (by kernel_rfl) (Vk.alloc 30 37 [ci 0, ci 0, ci 0, ci 0, ci 0, ci 0, ci 0, ci 0, ci 0, ci 0, ci 0, ci 0, ci 0, ci 0, ci 0, ci 0, ci 0, ci 0, ci 0, ci 0, ci 0, ci 0, ci 0, ci 0] hs (by kernel_rfl) (by kernel_rfl) (by kernel_rfl) fun b_188 w a hs => ?_)
        replace hcl : Ow κ w C_178 := by rw [hC_178]; exact (hs.own.too [4, 5, 6, 7, 8, 9, 10, 11, 12, 13, 14] 15)
        refine ⟨fun _ => hcl, ?_⟩
        obtain ⟨h_189, hm⟩ := ite_t hm
        refine qsA 14 1 v_183.1 hs rfl h_189 rfl fun a w hs => ?_
        replace hcl : Ow κ w C_178 := by rw [hC_178]; exact (hs.own.too [4, 5, 6, 7, 8, 9, 10, 11, 12, 13, 14] 15)
        refine ⟨fun _ => hcl, ?_⟩
        obtain ⟨h_190, hm⟩ := ite_t hm
        refine qsA 15 0 v_186.1 hs rfl h_190 rfl fun a w hs => ?_
        refine ⟨fun h => absurd h (by decide), ?_⟩
        replace hs := hs.pick [1, 2, 14, 17, 21, 23, 24, 25, 26, 27, 28, 29, 30] (L' := [(1, .slice A_x1 x1.length c_x1), (2, .slice A_x2 x2.length c_x2), (14, pp b_32), (17, pp b_57), (21, pp b_93), (23, pp b_133), (24, pp b_135), (25, pp b_153), (26, pp b_155), (27, pp b_173), (28, pp b_175), (29, pp b_187), (30, pp b_188)]) (by kernel_rfl)
        refine Vk.dDone (by kernel_rfl) ?_
        exact hj177 v_183.2 v_186.2 v_183.1 v_186.1 hm b_187 b_188 _ _ (hs.go [1, 2, 14, 17, 21, 23, 24, 25, 26, 27, 28, 29, 30] [4, 3, 2, 5, 6, 7, 8, 9, 10, 11, 12, 13, 14, 1, 0] 15 (by kernel_rfl) (by kernel_rfl) (by kernel_rfl))
      ·exact by
        refine Vk.alloc 30 37 [ci 0, ci 0, ci 0, ci 0, ci 0, ci 0, ci 0, ci 0, ci 0, ci 0, ci 0, ci 0, ci 0, ci 0, ci 0, ci 0, ci 0, ci 0, ci 0, ci 0, ci 0, ci 0, ci 0, ci 0] hs (by kernel_rfl) (by kernel_rfl) (by kernel_rfl) fun b_187 w a hs => ?_
        replace hcl := qO hC_178 hs.own.f2.drop.f1.drop.drop
        refine ⟨fun _ => hcl, ?_⟩
        refine Vk.dOnly (i := 12) (by kernel_rfl) (Vk.alloc 29 37 [ci 0, ci 0, ci 0, ci 0, ci 0, ci 0, ci 0, ci 0, ci 0, ci 0, ci 0, ci 0, ci 0, ci 0, ci 0, ci 0, ci 0, ci 0, ci 0, ci 0, ci 0, ci 0, ci 0, ci 0] hs (by kernel_rfl) (by kernel_rfl) (by kernel_rfl) fun b_188 w a hs => ?_)
        replace hcl : Ow κ w C_178 := by rw [hC_178]; exact (hs.own.too [4, 5, 6, 7, 8, 9, 10, 11, 12, 13, 14] 15)
        refine ⟨fun _ => hcl, ?_⟩
        obtain ⟨h_189, hm⟩ := ite_t hm
        refine qsA 14 0 v_183.1 hs rfl h_189 rfl fun a w hs => ?_
        replace hcl : Ow κ w C_178 := by rw [hC_178]; exact (hs.own.too [4, 5, 6, 7, 8, 9, 10, 11, 12, 13, 14] 15)
        refine ⟨fun _ => hcl, ?_⟩
        obtain ⟨h_190, hm⟩ := ite_t hm
        refine qsA 15 1 v_186.1 hs rfl h_190 rfl fun a w hs => ?_
        refine ⟨fun h => absurd h (by decide), ?_⟩
        replace hs := hs.pick [1, 2, 14, 17, 21, 23, 24, 25, 26, 27, 28, 29, 30] (L' := [(1, .slice A_x1 x1.length c_x1), (2, .slice A_x2 x2.length c_x2), (14, pp b_32), (17, pp b_57), (21, pp b_93), (23, pp b_133), (24, pp b_135), (25, pp b_153), (26, pp b_155), (27, pp b_173), (28, pp b_175), (29, pp b_188), (30, pp b_187)]) (by kernel_rfl)
        refine Vk.dDone (by kernel_rfl) ?_
        exact hj177 v_183.2 v_186.2 v_183.1 v_186.1 hm b_188 b_187 _ _ (hs.go [1, 2, 14, 17, 21, 23, 24, 25, 26, 27, 28, 29, 30] [4, 3, 2, 5, 6, 7, 8, 9, 10, 11, 12, 13, 14, 0, 1] 15 (by kernel_rfl) (by kernel_rfl) (by kernel_rfl))
    ·exact by
      refine Vk.alloc 29 37 [ci 0, ci 0, ci 0, ci 0, ci 0, ci 0, ci 0, ci 0, ci 0, ci 0, ci 0, ci 0, ci 0, ci 0, ci 0, ci 0, ci 0, ci 0, ci 0, ci 0, ci 0, ci 0, ci 0, ci 0] hs (by kernel_rfl) (by kernel_rfl) (by kernel_rfl) fun b_184 w a hs => ?_
      replace hcl := qO hC_178 hs.own.f3.drop.f1.drop.drop
      refine ⟨fun _ => hcl, ?_⟩
      refine Vk.dMany2 (i0 := 11) (i1 := 13) (by kernel_rfl) ?_ ?_
      ·exact by
        obtain ⟨v_187, h_186, hm⟩ := bind_t hm
        refine qco (visorref33_One.ok _ _ _ _ _ _ h_186 _ _ _ br15x0x_27 hs.own.f3) hs fun w a hs => ?_
        replace hcl := qO hC_178 hs.own.f2.drop.f1.drop.drop
        refine ⟨fun _ => hcl, ?_⟩
        refine Vk.dOnly (i := 13) (by kernel_rfl) (Vk.alloc 30 37 [ci 0, ci 0, ci 0, ci 0, ci 0, ci 0, ci 0, ci 0, ci 0, ci 0, ci 0, ci 0, ci 0, ci 0, ci 0, ci 0, ci 0, ci 0, ci 0, ci 0, ci 0, ci 0, ci 0, ci 0] hs (by kernel_rfl) (by kernel_rfl) (by kernel_rfl) fun b_188 w a hs => ?_)
        replace hcl : Ow κ w C_178 := by rw [hC_178]; exact (hs.own.too [4, 5, 6, 7, 8, 9, 10, 11, 12, 13, 14] 15)
        refine ⟨fun _ => hcl, ?_⟩
        obtain ⟨h_189, hm⟩ := ite_t hm
        refine qsA 14 2 v_183.1 hs rfl h_189 rfl fun a w hs => ?_
        replace hcl : Ow κ w C_178 := by rw [hC_178]; exact (hs.own.too [4, 5, 6, 7, 8, 9, 10, 11, 12, 13, 14] 15)
        refine ⟨fun _ => hcl, ?_⟩
        obtain ⟨h_190, hm⟩ := ite_t hm
        refine qsA 15 0 v_187.1 hs rfl h_190 rfl fun a w hs => ?_
        refine ⟨fun h => absurd h (by decide), ?_⟩
        replace hs := hs.pick [1, 2, 14, 17, 21, 23, 24, 25, 26, 27, 28, 29, 30] (L' := [(1, .slice A_x1 x1.length c_x1), (2, .slice A_x2 x2.length c_x2), (14, pp b_32), (17, pp b_57), (21, pp b_93), (23, pp b_133), (24, pp b_135), (25, pp b_153), (26, pp b_155), (27, pp b_173), (28, pp b_175), (29, pp b_184), (30, pp b_188)]) (by kernel_rfl)
        refine Vk.dDone (by kernel_rfl) ?_
        exact hj177 v_183.2 v_187.2 v_183.1 v_187.1 hm b_184 b_188 _ _ (hs.go [1, 2, 14, 17, 21, 23, 24, 25, 26, 27, 28, 29, 30] [4, 3, 1, 5, 6, 7, 8, 9, 10, 11, 12, 13, 14, 2, 0] 15 (by kernel_rfl) (by kernel_rfl) (by kernel_rfl))
      ·exact by
        refine Vk.alloc 30 37 [ci 0, ci 0, ci 0, ci 0, ci 0, ci 0, ci 0, ci 0, ci 0, ci 0, ci 0, ci 0, ci 0, ci 0, ci 0, ci 0, ci 0, ci 0, ci 0, ci 0, ci 0, ci 0, ci 0, ci 0] hs (by kernel_rfl) (by kernel_rfl) (by kernel_rfl) fun b_185 w a hs => ?_
        replace hcl : Ow κ w C_178 := by rw [hC_178]; exact (hs.own.too [3, 5, 6, 7, 8, 9, 10, 11, 12, 13, 14] 15)
        refine ⟨fun _ => hcl, ?_⟩
        obtain ⟨v_188, h_187, hm⟩ := bind_t hm
        refine qdc 11 (visorref33_One.ok _ _ _ _ _ _ h_187 _ _ _ br15x0x_27 hs.own.f4) hs fun w a hs => ?_
        replace hcl : Ow κ w C_178 := by rw [hC_178]; exact (hs.own.too [4, 5, 6, 7, 8, 9, 10, 11, 12, 13, 14] 15)
        refine ⟨fun _ => hcl, ?_⟩
        obtain ⟨h_189, hm⟩ := ite_t hm
        refine qsA 14 2 v_183.1 hs rfl h_189 rfl fun a w hs => ?_
        replace hcl : Ow κ w C_178 := by rw [hC_178]; exact (hs.own.too [4, 5, 6, 7, 8, 9, 10, 11, 12, 13, 14] 15)
        refine ⟨fun _ => hcl, ?_⟩
        obtain ⟨h_190, hm⟩ := ite_t hm
        refine qsA 15 1 v_188.1 hs rfl h_190 rfl fun a w hs => ?_
        refine ⟨fun h => absurd h (by decide), ?_⟩
        replace hs := hs.pick [1, 2, 14, 17, 21, 23, 24, 25, 26, 27, 28, 29, 30] (L' := [(1, .slice A_x1 x1.length c_x1), (2, .slice A_x2 x2.length c_x2), (14, pp b_32), (17, pp b_57), (21, pp b_93), (23, pp b_133), (24, pp b_135), (25, pp b_153), (26, pp b_155), (27, pp b_173), (28, pp b_175), (29, pp b_184), (30, pp b_185)]) (by kernel_rfl)
        refine Vk.dDone (by kernel_rfl) ?_
        exact hj177 v_183.2 v_188.2 v_183.1 v_188.1 hm b_184 b_185 _ _ (hs.go [1, 2, 14, 17, 21, 23, 24, 25, 26, 27, 28, 29, 30] [4, 3, 0, 5, 6, 7, 8, 9, 10, 11, 12, 13, 14, 2, 1] 15 (by kernel_rfl) (by kernel_rfl) (by kernel_rfl))
    ·exact by
      refine Vk.alloc 30 37 [ci 0, ci 0, ci 0, ci 0, ci 0, ci 0, ci 0, ci 0, ci 0, ci 0, ci 0, ci 0, ci 0, ci 0, ci 0, ci 0, ci 0, ci 0, ci 0, ci 0, ci 0, ci 0, ci 0, ci 0] hs (by kernel_rfl) (by kernel_rfl) (by kernel_rfl) fun b_184 w a hs => ?_
      replace hcl := qO hC_178 hs.own.f3.drop.f1.drop.drop
      refine ⟨fun _ => hcl, ?_⟩
      refine Vk.dMany2 (i0 := 11) (i1 := 12) (by kernel_rfl) ?_ ?_
      ·exact by
        obtain ⟨v_187, h_186, hm⟩ := bind_t hm
        refine qco (visorref33_One.ok _ _ _ _ _ _ h_186 _ _ _ br15x0x_27 hs.own.f3) hs fun w a hs => ?_
        replace hcl := qO hC_178 hs.own.f2.drop.f1.drop.drop
        refine ⟨fun _ => hcl, ?_⟩
        refine Vk.dOnly (i := 12) (by kernel_rfl) (Vk.alloc 29 37 [ci 0, ci 0, ci 0, ci 0, ci 0, ci 0, ci 0, ci 0, ci 0, ci 0, ci 0, ci 0, ci 0, ci 0, ci 0, ci 0, ci 0, ci 0, ci 0, ci 0, ci 0, ci 0, ci 0, ci 0] hs (by kernel_rfl) (by kernel_rfl) (by kernel_rfl) fun b_188 w a hs => ?_)
        replace hcl : Ow κ w C_178 := by rw [hC_178]; exact (hs.own.too [4, 5, 6, 7, 8, 9, 10, 11, 12, 13, 14] 15)
        refine ⟨fun _ => hcl, ?_⟩
        obtain ⟨h_189, hm⟩ := ite_t hm
        refine qsA 14 0 v_183.1 hs rfl h_189 rfl fun a w hs => ?_
        replace hcl : Ow κ w C_178 := by rw [hC_178]; exact (hs.own.too [4, 5, 6, 7, 8, 9, 10, 11, 12, 13, 14] 15)
        refine ⟨fun _ => hcl, ?_⟩
        obtain ⟨h_190, hm⟩ := ite_t hm
        refine qsA 15 2 v_187.1 hs rfl h_190 rfl fun a w hs => ?_
        refine ⟨fun h => absurd h (by decide), ?_⟩
        replace hs := hs.pick [1, 2, 14, 17, 21, 23, 24, 25, 26, 27, 28, 29, 30] (L' := [(1, .slice A_x1 x1.length c_x1), (2, .slice A_x2 x2.length c_x2), (14, pp b_32), (17, pp b_57), (21, pp b_93), (23, pp b_133), (24, pp b_135), (25, pp b_153), (26, pp b_155), (27, pp b_173), (28, pp b_175), (29, pp b_188), (30, pp b_184)]) (by kernel_rfl)
        refine Vk.dDone (by kernel_rfl) ?_
        exact hj177 v_183.2 v_187.2 v_183.1 v_187.1 hm b_188 b_184 _ _ (hs.go [1, 2, 14, 17, 21, 23, 24, 25, 26, 27, 28, 29, 30] [4, 3, 1, 5, 6, 7, 8, 9, 10, 11, 12, 13, 14, 0, 2] 15 (by kernel_rfl) (by kernel_rfl) (by kernel_rfl))
      ·exact by
        refine Vk.alloc 29 37 [ci 0, ci 0, ci 0, ci 0, ci 0, ci 0, ci 0, ci 0, ci 0, ci 0, ci 0, ci 0, ci 0, ci 0, ci 0, ci 0, ci 0, ci 0, ci 0, ci 0, ci 0, ci 0, ci 0, ci 0] hs (by kernel_rfl) (by kernel_rfl) (by kernel_rfl) fun b_185 w a hs => ?_
        replace hcl : Ow κ w C_178 := by rw [hC_178]; exact (hs.own.too [3, 5, 6, 7, 8, 9, 10, 11, 12, 13, 14] 15)
        refine ⟨fun _ => hcl, ?_⟩
        obtain ⟨v_188, h_187, hm⟩ := bind_t hm
        refine qdc 11 (visorref33_One.ok _ _ _ _ _ _ h_187 _ _ _ br15x0x_27 hs.own.f4) hs fun w a hs => ?_
        replace hcl : Ow κ w C_178 := by rw [hC_178]; exact (hs.own.too [4, 5, 6, 7, 8, 9, 10, 11, 12, 13, 14] 15)
        refine ⟨fun _ => hcl, ?_⟩
        obtain ⟨h_189, hm⟩ := ite_t hm
        refine qsA 14 1 v_183.1 hs rfl h_189 rfl fun a w hs => ?_
        replace hcl : Ow κ w C_178 := by rw [hC_178]; exact (hs.own.too [4, 5, 6, 7, 8, 9, 10, 11, 12, 13, 14] 15)
        refine ⟨fun _ => hcl, ?_⟩
        obtain ⟨h_190, hm⟩ := ite_t hm
        refine qsA 15 2 v_188.1 hs rfl h_190 rfl fun a w hs => ?_
        refine ⟨fun h => absurd h (by decide), ?_⟩
        replace hs := hs.pick [1, 2, 14, 17, 21, 23, 24, 25, 26, 27, 28, 29, 30] (L' := [(1, .slice A_x1 x1.length c_x1), (2, .slice A_x2 x2.length c_x2), (14, pp b_32), (17, pp b_57), (21, pp b_93), (23, pp b_133), (24, pp b_135), (25, pp b_153), (26, pp b_155), (27, pp b_173), (28, pp b_175), (29, pp b_185), (30, pp b_184)]) (by kernel_rfl)
        refine Vk.dDone (by kernel_rfl) ?_
        exact hj177 v_183.2 v_188.2 v_183.1 v_188.1 hm b_185 b_184 _ _ (hs.go [1, 2, 14, 17, 21, 23, 24, 25, 26, 27, 28, 29, 30] [4, 3, 0, 5, 6, 7, 8, 9, 10, 11, 12, 13, 14, 1, 2] 15 (by kernel_rfl) (by kernel_rfl) (by kernel_rfl))
  ·exact by
    refine Vk.alloc 29 37 [ci 0, ci 0, ci 0, ci 0, ci 0, ci 0, ci 0, ci 0, ci 0, ci 0, ci 0, ci 0, ci 0, ci 0, ci 0, ci 0, ci 0, ci 0, ci 0, ci 0, ci 0, ci 0, ci 0, ci 0] hs (by kernel_rfl) (by kernel_rfl) (by kernel_rfl) fun b_181 w a hs => ?_
    replace hcl := qO hC_178 hs.own.f3.drop.f2.drop.drop
    refine ⟨fun _ => hcl, ?_⟩
    refine Vk.dMany2 (i0 := 5) (i1 := 13) (by kernel_rfl) ?_ ?_
    ·exact by
      obtain ⟨v_184, h_183, hm⟩ := bind_t hm
      refine qco (slice_One.ok _ _ _ _ _ _ h_183 _ _ _ br15x0m_26 hs.own.f2) hs fun w a hs => ?_
      replace hcl := qO hC_178 hs.own.f3.drop.f1.drop.drop
      refine ⟨fun _ => hcl, ?_⟩
      refine Vk.dMany2 (i0 := 11) (i1 := 13) (by kernel_rfl) ?_ ?_
      ·exact by
        obtain ⟨v_187, h_186, hm⟩ := bind_t hm
        refine qco (visorref33_One.ok _ _ _ _ _ _ h_186 _ _ _ br15x0x_27 hs.own.f3) hs fun w a hs => ?_
        replace hcl := qO hC_178 hs.own.f2.drop.f1.drop.drop
        refine ⟨fun _ => hcl, ?_⟩
        refine Vk.dOnly (i := 13) (by kernel_rfl) (Vk.alloc 30 37 [ci 0, ci 0, ci 0, ci 0, ci 0, ci 0, ci 0, ci 0, ci 0, ci 0, ci 0, ci 0, ci 0, ci 0, ci 0, ci 0, ci 0, ci 0, ci 0, ci 0, ci 0, ci 0, ci 0, ci 0] hs (by kernel_rfl) (by kernel_rfl) (by kernel_rfl) fun b_188 w a hs => ?_)
        replace hcl : Ow κ w C_178 := by rw [hC_178]; exact (hs.own.too [4, 5, 6, 7, 8, 9, 10, 11, 12, 13, 14] 15)
        refine ⟨fun _ => hcl, ?_⟩
        obtain ⟨h_189, hm⟩ := ite_t hm
        refine qsA 14 3 v_184.1 hs rfl h_189 rfl fun a w hs => ?_
        replace hcl : Ow κ w C_178 := by rw [hC_178]; exact (hs.own.too [4, 5, 6, 7, 8, 9, 10, 11, 12, 13, 14] 15)
        refine ⟨fun _ => hcl, ?_⟩
        obtain ⟨h_190, hm⟩ := ite_t hm
        refine qsA 15 0 v_187.1 hs rfl h_190 rfl fun a w hs => ?_
        refine ⟨fun h => absurd h (by decide), ?_⟩
        replace hs := hs.pick [1, 2, 14, 17, 21, 23, 24, 25, 26, 27, 28, 29, 30] (L' := [(1, .slice A_x1 x1.length c_x1), (2, .slice A_x2 x2.length c_x2), (14, pp b_32), (17, pp b_57), (21, pp b_93), (23, pp b_133), (24, pp b_135), (25, pp b_153), (26, pp b_155), (27, pp b_173), (28, pp b_175), (29, pp b_181), (30, pp b_188)]) (by kernel_rfl)
        refine Vk.dDone (by kernel_rfl) ?_
        exact hj177 v_184.2 v_187.2 v_184.1 v_187.1 hm b_181 b_188 _ _ (hs.go [1, 2, 14, 17, 21, 23, 24, 25, 26, 27, 28, 29, 30] [4, 2, 1, 5, 6, 7, 8, 9, 10, 11, 12, 13, 14, 3, 0] 15 (by kernel_rfl) (by kernel_rfl) (by kernel_rfl))
      ·exact by
        refine Vk.alloc 30 37 [ci 0, ci 0, ci 0, ci 0, ci 0, ci 0, ci 0, ci 0, ci 0, ci 0, ci 0, ci 0, ci 0, ci 0, ci 0, ci 0, ci 0, ci 0, ci 0, ci 0, ci 0, ci 0, ci 0, ci 0] hs (by kernel_rfl) (by kernel_rfl) (by kernel_rfl) fun b_185 w a hs => ?_
        replace hcl : Ow κ w C_178 := by rw [hC_178]; exact (hs.own.too [3, 5, 6, 7, 8, 9, 10, 11, 12, 13, 14] 15)
        refine ⟨fun _ => hcl, ?_⟩
        obtain ⟨v_188, h_187, hm⟩ := bind_t hm
        refine qdc 11 (visorref33_One.ok _ _ _ _ _ _ h_187 _ _ _ br15x0x_27 hs.own.f4) hs fun w a hs => ?_
        replace hcl : Ow κ w C_178 := by rw [hC_178]; exact (hs.own.too [4, 5, 6, 7, 8, 9, 10, 11, 12, 13, 14] 15)
        refine ⟨fun _ => hcl, ?_⟩
        obtain ⟨h_189, hm⟩ := ite_t hm
        refine qsA 14 3 v_184.1 hs rfl h_189 rfl fun a w hs => ?_
        replace hcl : Ow κ w C_178 := by rw [hC_178]; exact (hs.own.too [4, 5, 6, 7, 8, 9, 10, 11, 12, 13, 14] 15)
        refine ⟨fun _ => hcl, ?_⟩
        obtain ⟨h_190, hm⟩ := ite_t hm
        refine qsA 15 1 v_188.1 hs rfl h_190 rfl fun a w hs => ?_
        refine ⟨fun h => absurd h (by decide), ?_⟩
        replace hs := hs.pick [1, 2, 14, 17, 21, 23, 24, 25, 26, 27, 28, 29, 30] (L' := [(1, .slice A_x1 x1.length c_x1), (2, .slice A_x2 x2.length c_x2), (14, pp b_32), (17, pp b_57), (21, pp b_93), (23, pp b_133), (24, pp b_135), (25, pp b_153), (26, pp b_155), (27, pp b_173), (28, pp b_175), (29, pp b_181), (30, pp b_185)]) (by kernel_rfl)
        refine Vk.dDone (by kernel_rfl) ?_
        exact hj177 v_184.2 v_188.2 v_184.1 v_188.1 hm b_181 b_185 _ _ (hs.go [1, 2, 14, 17, 21, 23, 24, 25, 26, 27, 28, 29, 30] [4, 2, 0, 5, 6, 7, 8, 9, 10, 11, 12, 13, 14, 3, 1] 15 (by kernel_rfl) (by kernel_rfl) (by kernel_rfl))
    ·exact by
      refine Vk.alloc 30 37 [ci 0, ci 0, ci 0, ci 0, ci 0, ci 0, ci 0, ci 0, ci 0, ci 0, ci 0, ci 0, ci 0, ci 0, ci 0, ci 0, ci 0, ci 0, ci 0, ci 0, ci 0, ci 0, ci 0, ci 0] hs (by kernel_rfl) (by kernel_rfl) (by kernel_rfl) fun b_182 w a hs => ?_
      replace hcl : Ow κ w C_178 := by rw [hC_178]; exact (hs.own.too [2, 5, 6, 7, 8, 9, 10, 11, 12, 13, 14] 15)
      refine ⟨fun _ => hcl, ?_⟩
      obtain ⟨v_185, h_184, hm⟩ := bind_t hm
      refine qdc 5 (slice_One.ok _ _ _ _ _ _ h_184 _ _ _ br15x0m_26 hs.own.f3) hs fun w a hs => ?_
      replace hcl : Ow κ w C_178 := by rw [hC_178]; exact (hs.own.too [3, 5, 6, 7, 8, 9, 10, 11, 12, 13, 14] 15)
      refine ⟨fun _ => hcl, ?_⟩
      obtain ⟨v_188, h_187, hm⟩ := bind_t hm
      refine qdc 11 (visorref33_One.ok _ _ _ _ _ _ h_187 _ _ _ br15x0x_27 hs.own.f4) hs fun w a hs => ?_
      replace hcl : Ow κ w C_178 := by rw [hC_178]; exact (hs.own.too [4, 5, 6, 7, 8, 9, 10, 11, 12, 13, 14] 15)
      refine ⟨fun _ => hcl, ?_⟩
      obtain ⟨h_189, hm⟩ := ite_t hm
      refine qsA 14 3 v_185.1 hs rfl h_189 rfl fun a w hs => ?_
      replace hcl : Ow κ w C_178 := by rw [hC_178]; exact (hs.own.too [4, 5, 6, 7, 8, 9, 10, 11, 12, 13, 14] 15)
      refine ⟨fun _ => hcl, ?_⟩
      obtain ⟨h_190, hm⟩ := ite_t hm
      refine qsA 15 2 v_188.1 hs rfl h_190 rfl fun a w hs => ?_
      refine ⟨fun h => absurd h (by decide), ?_⟩
      replace hs := hs.pick [1, 2, 14, 17, 21, 23, 24, 25, 26, 27, 28, 29, 30] (L' := [(1, .slice A_x1 x1.length c_x1), (2, .slice A_x2 x2.length c_x2), (14, pp b_32), (17, pp b_57), (21, pp b_93), (23, pp b_133), (24, pp b_135), (25, pp b_153), (26, pp b_155), (27, pp b_173), (28, pp b_175), (29, pp b_181), (30, pp b_182)]) (by kernel_rfl)
      refine Vk.dDone (by kernel_rfl) ?_
      exact hj177 v_185.2 v_188.2 v_185.1 v_188.1 hm b_181 b_182 _ _ (hs.go [1, 2, 14, 17, 21, 23, 24, 25, 26, 27, 28, 29, 30] [4, 1, 0, 5, 6, 7, 8, 9, 10, 11, 12, 13, 14, 3, 2] 15 (by kernel_rfl) (by kernel_rfl) (by kernel_rfl))
  ·exact by
    refine Vk.alloc 30 37 [ci 0, ci 0, ci 0, ci 0, ci 0, ci 0, ci 0, ci 0, ci 0, ci 0, ci 0, ci 0, ci 0, ci 0, ci 0, ci 0, ci 0, ci 0, ci 0, ci 0, ci 0, ci 0, ci 0, ci 0] hs (by kernel_rfl) (by kernel_rfl) (by kernel_rfl) fun b_181 w a hs => ?_
    replace hcl := qO hC_178 hs.own.f3.drop.f2.drop.drop
    refine ⟨fun _ => hcl, ?_⟩
    refine Vk.dMany2 (i0 := 5) (i1 := 12) (by kernel_rfl) ?_ ?_
    ·exact by
      obtain ⟨v_184, h_183, hm⟩ := bind_t hm
      refine qco (slice_One.ok _ _ _ _ _ _ h_183 _ _ _ br15x0m_26 hs.own.f2) hs fun w a hs => ?_
      replace hcl := qO hC_178 hs.own.f3.drop.f1.drop.drop
      refine ⟨fun _ => hcl, ?_⟩
      refine Vk.dMany2 (i0 := 11) (i1 := 12) (by kernel_rfl) ?_ ?_
      ·exact by
        obtain ⟨v_187, h_186, hm⟩ := bind_t hm
        refine qco (visorref33_One.ok _ _ _ _ _ _ h_186 _ _ _ br15x0x_27 hs.own.f3) hs fun w a hs => ?_
        replace hcl := qO hC_178 hs.own.f2.drop.f1.drop.drop
        refine ⟨fun _ => hcl, ?_⟩
        refine Vk.dOnly (i := 12) (by kernel_rfl) (Vk.alloc 29 37 [ci 0, ci 0, ci 0, ci 0, ci 0, ci 0, ci 0, ci 0, ci 0, ci 0, ci 0, ci 0, ci 0, ci 0, ci 0, ci 0, ci 0, ci 0, ci 0, ci 0, ci 0, ci 0, ci 0, ci 0] hs (by kernel_rfl) (by kernel_rfl) (by kernel_rfl) fun b_188 w a hs => ?_)
        replace hcl : Ow κ w C_178 := by rw [hC_178]; exact (hs.own.too [4, 5, 6, 7, 8, 9, 10, 11, 12, 13, 14] 15)
        refine ⟨fun _ => hcl, ?_⟩
        obtain ⟨h_189, hm⟩ := ite_t hm
        refine qsA 14 0 v_184.1 hs rfl h_189 rfl fun a w hs => ?_
        replace hcl : Ow κ w C_178 := by rw [hC_178]; exact (hs.own.too [4, 5, 6, 7, 8, 9, 10, 11, 12, 13, 14] 15)
        refine ⟨fun _ => hcl, ?_⟩
        obtain ⟨h_190, hm⟩ := ite_t hm
        refine qsA 15 3 v_187.1 hs rfl h_190 rfl fun a w hs => ?_
        refine ⟨fun h => absurd h (by decide), ?_⟩
        replace hs := hs.pick [1, 2, 14, 17, 21, 23, 24, 25, 26, 27, 28, 29, 30] (L' := [(1, .slice A_x1 x1.length c_x1), (2, .slice A_x2 x2.length c_x2), (14, pp b_32), (17, pp b_57), (21, pp b_93), (23, pp b_133), (24, pp b_135), (25, pp b_153), (26, pp b_155), (27, pp b_173), (28, pp b_175), (29, pp b_188), (30, pp b_181)]) (by kernel_rfl)
        refine Vk.dDone (by kernel_rfl) ?_
        exact hj177 v_184.2 v_187.2 v_184.1 v_187.1 hm b_188 b_181 _ _ (hs.go [1, 2, 14, 17, 21, 23, 24, 25, 26, 27, 28, 29, 30] [4, 2, 1, 5, 6, 7, 8, 9, 10, 11, 12, 13, 14, 0, 3] 15 (by kernel_rfl) (by kernel_rfl) (by kernel_rfl))
      ·exact by
        refine Vk.alloc 29 37 [ci 0, ci 0, ci 0, ci 0, ci 0, ci 0, ci 0, ci 0, ci 0, ci 0, ci 0, ci 0, ci 0, ci 0, ci 0, ci 0, ci 0, ci 0, ci 0, ci 0, ci 0, ci 0, ci 0, ci 0] hs (by kernel_rfl) (by kernel_rfl) (by kernel_rfl) fun b_185 w a hs => ?_
        replace hcl : Ow κ w C_178 := by rw [hC_178]; exact (hs.own.too [3, 5, 6, 7, 8, 9, 10, 11, 12, 13, 14] 15)
        refine ⟨fun _ => hcl, ?_⟩
        obtain ⟨v_188, h_187, hm⟩ := bind_t hm
        refine qdc 11 (visorref33_One.ok _ _ _ _ _ _ h_187 _ _ _ br15x0x_27 hs.own.f4) hs fun w a hs => ?_
        replace hcl : Ow κ w C_178 := by rw [hC_178]; exact (hs.own.too [4, 5, 6, 7, 8, 9, 10, 11, 12, 13, 14] 15)
        refine ⟨fun _ => hcl, ?_⟩
        obtain ⟨h_189, hm⟩ := ite_t hm
        refine qsA 14 1 v_184.1 hs rfl h_189 rfl fun a w hs => ?_
        replace hcl : Ow κ w C_178 := by rw [hC_178]; exact (hs.own.too [4, 5, 6, 7, 8, 9, 10, 11, 12, 13, 14] 15)
        refine ⟨fun _ => hcl, ?_⟩
        obtain ⟨h_190, hm⟩ := ite_t hm
        refine qsA 15 3 v_188.1 hs rfl h_190 rfl fun a w hs => ?_
        refine ⟨fun h => absurd h (by decide), ?_⟩
        replace hs := hs.pick [1, 2, 14, 17, 21, 23, 24, 25, 26, 27, 28, 29, 30] (L' := [(1, .slice A_x1 x1.length c_x1), (2, .slice A_x2 x2.length c_x2), (14, pp b_32), (17, pp b_57), (21, pp b_93), (23, pp b_133), (24, pp b_135), (25, pp b_153), (26, pp b_155), (27, pp b_173), (28, pp b_175), (29, pp b_185), (30, pp b_181)]) (by kernel_rfl)
        refine Vk.dDone (by kernel_rfl) ?_
        exact hj177 v_184.2 v_188.2 v_184.1 v_188.1 hm b_185 b_181 _ _ (hs.go [1, 2, 14, 17, 21, 23, 24, 25, 26, 27, 28, 29, 30] [4, 2, 0, 5, 6, 7, 8, 9, 10, 11, 12, 13, 14, 1, 3] 15 (by kernel_rfl) (by kernel_rfl) (by kernel_rfl))
    ·exact by
      refine Vk.alloc 29 37 [ci 0, ci 0, ci 0, ci 0, ci 0, ci 0, ci 0, ci 0, ci 0, ci 0, ci 0, ci 0, ci 0, ci 0, ci 0, ci 0, ci 0, ci 0, ci 0, ci 0, ci 0, ci 0, ci 0, ci 0] hs (by kernel_rfl) (by kernel_rfl) (by kernel_rfl) fun b_182 w a hs => ?_
      replace hcl : Ow κ w C_178 := by rw [hC_178]; exact (hs.own.too [2, 5, 6, 7, 8, 9, 10, 11, 12, 13, 14] 15)
      refine ⟨fun _ => hcl, ?_⟩
      obtain ⟨v_185, h_184, hm⟩ := bind_t hm
      refine qdc 5 (slice_One.ok _ _ _ _ _ _ h_184 _ _ _ br15x0m_26 hs.own.f3) hs fun w a hs => ?_
      replace hcl : Ow κ w C_178 := by rw [hC_178]; exact (hs.own.too [3, 5, 6, 7, 8, 9, 10, 11, 12, 13, 14] 15)
      refine ⟨fun _ => hcl, ?_⟩
      obtain ⟨v_188, h_187, hm⟩ := bind_t hm
      refine qdc 11 (visorref33_One.ok _ _ _ _ _ _ h_187 _ _ _ br15x0x_27 hs.own.f4) hs fun w a hs => ?_
      replace hcl : Ow κ w C_178 := by rw [hC_178]; exact (hs.own.too [4, 5, 6, 7, 8, 9, 10, 11, 12, 13, 14] 15)
      refine ⟨fun _ => hcl, ?_⟩
      obtain ⟨h_189, hm⟩ := ite_t hm
      refine qsA 14 2 v_185.1 hs rfl h_189 rfl fun a w hs => ?_
      replace hcl : Ow κ w C_178 := by rw [hC_178]; exact (hs.own.too [4, 5, 6, 7, 8, 9, 10, 11, 12, 13, 14] 15)
      refine ⟨fun _ => hcl, ?_⟩
      obtain ⟨h_190, hm⟩ := ite_t hm
      refine qsA 15 3 v_188.1 hs rfl h_190 rfl fun a w hs => ?_
      refine ⟨fun h => absurd h (by decide), ?_⟩
      replace hs := hs.pick [1, 2, 14, 17, 21, 23, 24, 25, 26, 27, 28, 29, 30] (L' := [(1, .slice A_x1 x1.length c_x1), (2, .slice A_x2 x2.length c_x2), (14, pp b_32), (17, pp b_57), (21, pp b_93), (23, pp b_133), (24, pp b_135), (25, pp b_153), (26, pp b_155), (27, pp b_173), (28, pp b_175), (29, pp b_182), (30, pp b_181)]) (by kernel_rfl)
      refine Vk.dDone (by kernel_rfl) ?_
      exact hj177 v_185.2 v_188.2 v_185.1 v_188.1 hm b_182 b_181 _ _ (hs.go [1, 2, 14, 17, 21, 23, 24, 25, 26, 27, 28, 29, 30] [4, 1, 0, 5, 6, 7, 8, 9, 10, 11, 12, 13, 14, 2, 3] 15 (by kernel_rfl) (by kernel_rfl) (by kernel_rfl))
 obtain ⟨C_158, hC_158⟩ := qC hs.own.f2.drop.f1.drop
 refine qdr 13 κ C_158 hs fun w hs hqC_158 => ?_
 have hcl := qO hC_158 hs.own.f2.drop.f1.drop
 refine qdp (fuel := 10) [0, 3, 5, 8] hs hcl hqC_158 fun a hs => ?_
 refine qdl 1 0 (cp br15x0m_26) hs hcl hqC_158 hC_158 rfl fun a hs => ?_
 obtain ⟨h_159, hm⟩ := ite_t hm
 refine qdw 2 7 hs hcl hqC_158 hC_158 rfl h_159 fun a hs => ?_
 refine qdl 6 0 (cp br15x0x_27) hs hcl hqC_158 hC_158 rfl fun a hs => ?_
 obtain ⟨h_160, hm⟩ := ite_t hm
 refine qdw 7 8 hs hcl hqC_158 hC_158 rfl h_160 fun a hs => ?_
 refine Vk.dMany3 (i0 := 4) (i1 := 10) (i2 := 11) (by kernel_rfl) ?_ ?_ ?_
 ·exact by
   obtain ⟨v_163, h_162, hm⟩ := bind_t hm
   refine qco (slice_AddTold.ok _ _ _ _ _ h_162 _ _ _ br15x0m_26 A_x2 c_x2 hx_x2.less.less.less.less.less.less.less.less.less.less hs.own.f1) hs fun w a hs => ?_
   replace hcl := qO hC_158 hs.own.f2.drop.drop
   refine ⟨fun _ => hcl, ?_⟩
   refine Vk.dMany3 (i0 := 9) (i1 := 10) (i2 := 11) (by kernel_rfl) ?_ ?_ ?_
   ·exact by
     obtain ⟨v_166, h_165, hm⟩ := bind_t hm
     refine qco (visorref33_Add.ok _ _ _ _ _ _ h_165 _ _ _ br15x0x_27 A_x2 c_x2 hx_x2.less.less.less.less.less.less.less.less.less.less hs.own.f2) hs fun w a hs => ?_
     replace hcl := qO hC_158 hs.own.f1.drop.drop
     refine ⟨fun _ => hcl, ?_⟩
     refine Vk.dMany2 (i0 := 10) (i1 := 11) (by kernel_rfl) ?_ ?_
     ·exact by
       refine Vk.alloc 27 37 [ci 0, ci 0, ci 0, ci 0, ci 0, ci 0, ci 0, ci 0, ci 0, ci 0, ci 0, ci 0, ci 0, ci 0, ci 0, ci 0, ci 0, ci 0, ci 0, ci 0, ci 0, ci 0, ci 0, ci 0] hs (by kernel_rfl) (by kernel_rfl) (by kernel_rfl) fun b_167 w a hs => ?_
       replace hcl := qO hC_158 hs.own.f2.drop.f1.drop.drop
       refine ⟨fun _ => hcl, ?_⟩
       refine Vk.dOnly (i := 11) (by kernel_rfl) (Vk.alloc 28 37 [ci 0, ci 0, ci 0, ci 0, ci 0, ci 0, ci 0, ci 0, ci 0, ci 0, ci 0, ci 0, ci 0, ci 0, ci 0, ci 0, ci 0, ci 0, ci 0, ci 0, ci 0, ci 0, ci 0, ci 0] hs (by kernel_rfl) (by kernel_rfl) (by kernel_rfl) fun b_168 w a hs => ?_)
       replace hcl : Ow κ w C_158 := by rw [hC_158]; exact (hs.own.too [4, 5, 6, 7, 8, 9, 10, 11, 12] 13)
       refine ⟨fun _ => hcl, ?_⟩
       obtain ⟨h_169, hm⟩ := ite_t hm
       refine qsA 12 1 v_163.1 hs rfl h_169 rfl fun a w hs => ?_
       replace hcl : Ow κ w C_158 := by rw [hC_158]; exact (hs.own.too [4, 5, 6, 7, 8, 9, 10, 11, 12] 13)
       refine ⟨fun _ => hcl, ?_⟩
       obtain ⟨h_170, hm⟩ := ite_t hm
       refine qsA 13 0 v_166.1 hs rfl h_170 rfl fun a w hs => ?_
       refine ⟨fun h => absurd h (by decide), ?_⟩
       replace hs := hs.pick [1, 2, 4, 14, 16, 17, 21, 23, 24, 25, 26, 27, 28] (L' := [(1, .slice A_x1 x1.length c_x1), (2, .slice A_x2 x2.length c_x2), (4, vw p_42), (14, pp b_32), (16, vi (IntKind.i64.wrap (8 + (Int.tmod (IntKind.i64.wrap x3) 4)))), (17, pp b_57), (21, pp b_93), (23, pp b_133), (24, pp b_135), (25, pp b_153), (26, pp b_155), (27, pp b_167), (28, pp b_168)]) (by kernel_rfl)
       refine Vk.dDone (by kernel_rfl) ?_
       exact hj157 v_163.2 v_166.2 v_163.1 v_166.1 hm b_167 b_168 _ _ (hs.go [1, 2, 4, 14, 16, 17, 21, 23, 24, 25, 26, 27, 28] [4, 3, 2, 5, 6, 7, 8, 9, 10, 11, 12, 1, 0] 13 (by kernel_rfl) (by kernel_rfl) (by kernel_rfl))
     ·exact by
       refine Vk.alloc 28 37 [ci 0, ci 0, ci 0, ci 0, ci 0, ci 0, ci 0, ci 0, ci 0, ci 0, ci 0, ci 0, ci 0, ci 0, ci 0, ci 0, ci 0, ci 0, ci 0, ci 0, ci 0, ci 0, ci 0, ci 0] hs (by kernel_rfl) (by kernel_rfl) (by kernel_rfl) fun b_167 w a hs => ?_
       replace hcl := qO hC_158 hs.own.f2.drop.f1.drop.drop
       refine ⟨fun _ => hcl, ?_⟩
       refine Vk.dOnly (i := 10) (by kernel_rfl) (Vk.alloc 27 37 [ci 0, ci 0, ci 0, ci 0, ci 0, ci 0, ci 0, ci 0, ci 0, ci 0, ci 0, ci 0, ci 0, ci 0, ci 0, ci 0, ci 0, ci 0, ci 0, ci 0, ci 0, ci 0, ci 0, ci 0] hs (by kernel_rfl) (by kernel_rfl) (by kernel_rfl) fun b_168 w a hs => ?_)
       replace hcl : Ow κ w C_158 := by rw [hC_158]; exact (hs.own.too [4, 5, 6, 7, 8, 9, 10, 11, 12] 13)
       refine ⟨fun _ => hcl, ?_⟩
       obtain ⟨h_169, hm⟩ := ite_t hm
       refine qsA 12 0 v_163.1 hs rfl h_169 rfl fun a w hs => ?_
       replace hcl : Ow κ w C_158 := by rw [hC_158]; exact (hs.own.too [4, 5, 6, 7, 8, 9, 10, 11, 12] 13)
       refine ⟨fun _ => hcl, ?_⟩
       obtain ⟨h_170, hm⟩ := ite_t hm
       refine qsA 13 1 v_166.1 hs rfl h_170 rfl fun a w hs => ?_
       refine ⟨fun h => absurd h (by decide), ?_⟩
       replace hs := hs.pick [1, 2, 4, 14, 16, 17, 21, 23, 24, 25, 26, 27, 28] (L' := [(1, .slice A_x1 x1.length c_x1), (2, .slice A_x2 x2.length c_x2), (4, vw p_42), (14, pp b_32), (16, vi (IntKind.i64.wrap (8 + (Int.tmod (IntKind.i64.wrap x3) 4)))), (17, pp b_57), (21, pp b_93), (23, pp b_133), (24, pp b_135), (25, pp b_153), (26, pp b_155), (27, pp b_168), (28, pp b_167)]) (by kernel_rfl)
       refine Vk.dDone (by kernel_rfl) ?_
       exact hj157 v_163.2 v_166.2 v_163.1 v_166.1 hm b_168 b_167 _ _ (hs.go [1, 2, 4, 14, 16, 17, 21, 23, 24, 25, 26, 27, 28] [4, 3, 2, 5, 6, 7, 8, 9, 10, 11, 12, 0, 1] 13 (by kernel_rfl) (by kernel_rfl) (by kernel_rfl))
   ·exact by
     refine Vk.alloc 27 37 [ci 0, ci 0, ci 0, ci 0, ci 0, ci 0, ci 0, ci 0, ci 0, ci 0, ci 0, ci 0, ci 0, ci 0, ci 0, ci 0, ci 0, ci 0, ci 0, ci 0, ci 0, ci 0, ci 0, ci 0] hs (by kernel_rfl) (by kernel_rfl) (by kernel_rfl) fun b_164 w a hs => ?_
     replace hcl := qO hC_158 hs.own.f3.drop.f1.drop.drop
     refine ⟨fun _ => hcl, ?_⟩
     refine Vk.dMany2 (i0 := 9) (i1 := 11) (by kernel_rfl) ?_ ?_
     ·exact by
       obtain ⟨v_167, h_166, hm⟩ := bind_t hm
       refine qco (visorref33_Add.ok _ _ _ _ _ _ h_166 _ _ _ br15x0x_27 A_x2 c_x2 hx_x2.less.less.less.less.less.less.less.less.less.less.less hs.own.f3) hs fun w a hs => ?_
       replace hcl := qO hC_158 hs.own.f2.drop.f1.drop.drop
       refine ⟨fun _ => hcl, ?_⟩
       refine Vk.dOnly (i := 11) (by kernel_rfl) (Vk.alloc 28 37 [ci 0, ci 0, ci 0, ci 0, ci 0, ci 0, ci 0, ci 0, ci 0, ci 0, ci 0, ci 0, ci 0, ci 0, ci 0, ci 0, ci 0, ci 0, ci 0, ci 0, ci 0, ci 0, ci 0, ci 0] hs (by kernel_rfl) (by kernel_rfl) (by kernel_rfl) fun b_168 w a hs => ?_)
       replace hcl : Ow κ w C_158 := by rw [hC_158]; exact (hs.own.too [4, 5, 6, 7, 8, 9, 10, 11, 12] 13)
       refine ⟨fun _ => hcl, ?_⟩
       obtain ⟨h_169, hm⟩ := ite_t hm
       refine qsA 12 2 v_163.1 hs rfl h_169 rfl fun a w hs => ?_
       replace hcl : Ow κ w C_158 := by rw [hC_158]; exact (hs.own.too [4, 5, 6, 7, 8, 9, 10, 11, 12] 13)
       refine ⟨fun _ => hcl, ?_⟩
       obtain ⟨h_170, hm⟩ := ite_t hm
       refine qsA 13 0 v_167.1 hs rfl h_170 rfl fun a w hs => ?_
       refine ⟨fun h => absurd h (by decide), ?_⟩
       replace hs := hs.pick [1, 2, 4, 14, 16, 17, 21, 23, 24, 25, 26, 27, 28] (L' := [(1, .slice A_x1 x1.length c_x1), (2, .slice A_x2 x2.length c_x2), (4, vw p_42), (14, pp b_32), (16, vi (IntKind.i64.wrap (8 + (Int.tmod (IntKind.i64.wrap x3) 4)))), (17, pp b_57), (21, pp b_93), (23, pp b_133), (24, pp b_135), (25, pp b_153), (26, pp b_155), (27, pp b_164), (28, pp b_168)]) (by kernel_rfl)
       refine Vk.dDone (by kernel_rfl) ?_
       exact hj157 v_163.2 v_167.2 v_163.1 v_167.1 hm b_164 b_168 _ _ (hs.go [1, 2, 4, 14, 16, 17, 21, 23, 24, 25, 26, 27, 28] [4, 3, 1, 5, 6, 7, 8, 9, 10, 11, 12, 2, 0] 13 (by kernel_rfl) (by kernel_rfl) (by kernel_rfl))
     ·exact by
       refine Vk.alloc 28 37 [ci 0, ci 0, ci 0, ci 0, ci 0, ci 0, ci 0, ci 0, ci 0, ci 0, ci 0, ci 0, ci 0, ci 0, ci 0, ci 0, ci 0, ci 0, ci 0, ci 0, ci 0, ci 0, ci 0, ci 0] hs (by kernel_rfl) (by kernel_rfl) (by kernel_rfl) fun b_165 w a hs => ?_
       replace hcl : Ow κ w C_158 := by rw [hC_158]; exact (hs.own.too [3, 5, 6, 7, 8, 9, 10, 11, 12] 13)
       refine ⟨fun _ => hcl, ?_⟩
       obtain ⟨v_168, h_167, hm⟩ := bind_t hm
       refine qdc 9 (visorref33_Add.ok _ _ _ _ _ _ h_167 _ _ _ br15x0x_27 A_x2 c_x2 hx_x2.less.less.less.less.less.less.less.less.less.less.less.less hs.own.f4) hs fun w a hs => ?_
       replace hcl : Ow κ w C_158 := by rw [hC_158]; exact (hs.own.too [4, 5, 6, 7, 8, 9, 10, 11, 12] 13)
       refine ⟨fun _ => hcl, ?_⟩
       obtain ⟨h_169, hm⟩ := ite_t hm
       refine qsA 12 2 v_163.1 hs rfl h_169 rfl fun a w hs => ?_
       replace hcl : Ow κ w C_158 := by rw [hC_158]; exact (hs.own.too [4, 5, 6, 7, 8, 9, 10, 11, 12] 13)
       refine ⟨fun _ => hcl, ?_⟩
       obtain ⟨h_170, hm⟩ := ite_t hm
       refine qsA 13 1 v_168.1 hs rfl h_170 rfl fun a w hs => ?_
       refine ⟨fun h => absurd h (by decide), ?_⟩
       replace hs := hs.pick [1, 2, 4, 14, 16, 17, 21, 23, 24, 25, 26, 27, 28] (L' := [(1, .slice A_x1 x1.length c_x1), (2, .slice A_x2 x2.length c_x2), (4, vw p_42), (14, pp b_32), (16, vi (IntKind.i64.wrap (8 + (Int.tmod (IntKind.i64.wrap x3) 4)))), (17, pp b_57), (21, pp b_93), (23, pp b_133), (24, pp b_135), (25, pp b_153), (26, pp b_155), (27, pp b_164), (28, pp b_165)]) (by kernel_rfl)
       refine Vk.dDone (by kernel_rfl) ?_
       exact hj157 v_163.2 v_168.2 v_163.1 v_168.1 hm b_164 b_165 _ _ (hs.go [1, 2, 4, 14, 16, 17, 21, 23, 24, 25, 26, 27, 28] [4, 3, 0, 5, 6, 7, 8, 9, 10, 11, 12, 2, 1] 13 (by kernel_rfl) (by kernel_rfl) (by kernel_rfl))
   ·exact by
     refine Vk.alloc 28 37 [ci 0, ci 0, ci 0, ci 0, ci 0, ci 0, ci 0, ci 0, ci 0, ci 0, ci 0, ci 0, ci 0, ci 0, ci 0, ci 0, ci 0, ci 0, ci 0, ci 0, ci 0, ci 0, ci 0, ci 0] hs (by kernel_rfl) (by kernel_rfl) (by kernel_rfl) fun b_164 w a hs => ?_
     replace hcl := qO hC_158 hs.own.f3.drop.f1.drop.drop
     refine ⟨fun _ => hcl, ?_⟩
     refine Vk.dMany2 (i0 := 9) (i1 := 10) (by kernel_rfl) ?_ ?_
     ·exact by
       obtain ⟨v_167, h_166, hm⟩ := bind_t hm
       refine qco (visorref33_Add.ok _ _ _ _ _ _ h_166 _ _ _ br15x0x_27 A_x2 c_x2 hx_x2.less.less.less.less.less.less.less.less.less.less.less hs.own.f3) hs fun w a hs => ?_
       replace hcl := qO hC_158 hs.own.f2.drop.f1.drop.drop
       refine ⟨fun _ => hcl, ?_⟩
       refine Vk.dOnly (i := 10) (by kernel_rfl) (Vk.alloc 27 37 [ci 0, ci 0, ci 0, ci 0, ci 0, ci 0, ci 0, ci 0, ci 0, ci 0, ci 0, ci 0, ci 0, ci 0, ci 0, ci 0, ci 0, ci 0, ci 0, ci 0, ci 0, ci 0, ci 0, ci 0] hs (by kernel_rfl) (by kernel_rfl) (by kernel_rfl) fun b_168 w a hs => ?_)
       replace hcl : Ow κ w C_158 := by rw [hC_158]; exact (hs.own.too [4, 5, 6, 7, 8, 9, 10, 11, 12] 13)
       refine ⟨fun _ => hcl, ?_⟩
       obtain ⟨h_169, hm⟩ := ite_t hm
       refine qsA 12 0 v_163.1 hs rfl h_169 rfl fun a w hs => ?_
       replace hcl : Ow κ w C_158 := by rw [hC_158]; exact (hs.own.too [4, 5, 6, 7, 8, 9, 10, 11, 12] 13)
       refine ⟨fun _ => hcl, ?_⟩
       obtain ⟨h_170, hm⟩ := ite_t hm
       refine qsA 13 2 v_167.1 hs rfl h_170 rfl fun a w hs => ?_
       refine ⟨fun h => absurd h (by decide), ?_⟩
       replace hs := hs.pick [1, 2, 4, 14, 16, 17, 21, 23, 24, 25, 26, 27, 28] (L' := [(1, .slice A_x1 x1.length c_x1), (2, .slice A_x2 x2.length c_x2), (4, vw p_42), (14, pp b_32), (16, vi (IntKind.i64.wrap (8 + (Int.tmod (IntKind.i64.wrap x3) 4)))), (17, pp b_57), (21, pp b_93), (23, pp b_133), (24, pp b_135), (25, pp b_153), (26, pp b_155), (27, pp b_168), (28, pp b_164)]) (by kernel_rfl)
       refine Vk.dDone (by kernel_rfl) ?_
       exact hj157 v_163.2 v_167.2 v_163.1 v_167.1 hm b_168 b_164 _ _ (hs.go [1, 2, 4, 14, 16, 17, 21, 23, 24, 25, 26, 27, 28] [4, 3, 1, 5, 6, 7, 8, 9, 10, 11, 12, 0, 2] 13 (by kernel_rfl) (by kernel_rfl) (by kernel_rfl))
     ·exact by
       refine Vk.alloc 27 37 [ci 0, ci 0, ci 0, ci 0, ci 0, ci 0, ci 0, ci 0, ci 0, ci 0, ci 0, ci 0, ci 0, ci 0, ci 0, ci 0, ci 0, ci 0, ci 0, ci 0, ci 0, ci 0, ci 0, ci 0] hs (by kernel_rfl) (by kernel_rfl) (by kernel_rfl) fun b_165 w a hs => ?_
       replace hcl : Ow κ w C_158 := by rw [hC_158]; exact (hs.own.too [3, 5, 6, 7, 8, 9, 10, 11, 12] 13)
       refine ⟨fun _ => hcl, ?_⟩
       obtain ⟨v_168, h_167, hm⟩ := bind_t hm
       refine qdc 9 (visorref33_Add.ok _ _ _ _ _ _ h_167 _ _ _ br15x0x_27 A_x2 c_x2 hx_x2.less.less.less.less.less.less.less.less.less.less.less.less hs.own.f4) hs fun w a hs => ?_
       replace hcl : Ow κ w C_158 := by rw [hC_158]; exact (hs.own.too [4, 5, 6, 7, 8, 9, 10, 11, 12] 13)
       refine ⟨fun _ => hcl, ?_⟩
       obtain ⟨h_169, hm⟩ := ite_t hm
       refine qsA 12 1 v_163.1 hs rfl h_169 rfl fun a w hs => ?_
       replace hcl : Ow κ w C_158 := by rw [hC_158]; exact (hs.own.too [4, 5, 6, 7, 8, 9, 10, 11, 12] 13)
       refine ⟨fun _ => hcl, ?_⟩
       obtain ⟨h_170, hm⟩ := ite_t hm
       refine qsA 13 2 v_168.1 hs rfl h_170 rfl fun a w hs => ?_
       refine ⟨fun h => absurd h (by decide), ?_⟩
       replace hs := hs.pick [1, 2, 4, 14, 16, 17, 21, 23, 24, 25, 26, 27, 28] (L' := [(1, .slice A_x1 x1.length c_x1), (2, .slice A_x2 x2.length c_x2), (4, vw p_42), (14, pp b_32), (16, vi (IntKind.i64.wrap (8 + (Int.tmod (IntKind.i64.wrap x3) 4)))), (17, pp b_57), (21, pp b_93), (23, pp b_133), (24, pp b_135), (25, pp b_153), (26, pp b_155), (27, pp b_165), (28, pp b_164)]) (by kernel_rfl)
       refine Vk.dDone (by kernel_rfl) ?_
       exact hj157 v_163.2 v_168.2 v_163.1 v_168.1 hm b_165 b_164 _ _ (hs.go [1, 2, 4, 14, 16, 17, 21, 23, 24, 25, 26, 27, 28] [4, 3, 0, 5, 6, 7, 8, 9, 10, 11, 12, 1, 2] 13 (by kernel_rfl) (by kernel_rfl) (by kernel_rfl))
 ·exact by
   refine Vk.alloc 27 37 [ci 0, ci 0, ci 0, ci 0, ci 0, ci 0, ci 0, ci 0, ci 0, ci 0, ci 0, ci 0, ci 0, ci 0, ci 0, ci 0, ci 0, ci 0, ci 0, ci 0, ci 0, ci 0, ci 0, ci 0] hs (by kernel_rfl) (by kernel_rfl) (by kernel_rfl) fun b_161 w a hs => ?_
   replace hcl := qO hC_158 hs.own.f3.drop.f2.drop.drop
   refine ⟨fun _ => hcl, ?_⟩
   refine Vk.dMany2 (i0 := 4) (i1 := 11) (by kernel_rfl) ?_ ?_
   ·exact by
     obtain ⟨v_164, h_163, hm⟩ := bind_t hm
     refine qco (slice_AddTold.ok _ _ _ _ _ h_163 _ _ _ br15x0m_26 A_x2 c_x2 hx_x2.less.less.less.less.less.less.less.less.less.less.less hs.own.f2) hs fun w a hs => ?_
     replace hcl := qO hC_158 hs.own.f3.drop.f1.drop.drop
     refine ⟨fun _ => hcl, ?_⟩
     refine Vk.dMany2 (i0 := 9) (i1 := 11) (by kernel_rfl) ?_ ?_
     ·exact by
       obtain ⟨v_167, h_166, hm⟩ := bind_t hm
       refine qco (visorref33_Add.ok _ _ _ _ _ _ h_166 _ _ _ br15x0x_27 A_x2 c_x2 hx_x2.less.less.less.less.less.less.less.less.less.less.less hs.own.f3) hs fun w a hs => ?_
       replace hcl := qO hC_158 hs.own.f2.drop.f1.drop.drop
       refine ⟨fun _ => hcl, ?_⟩
       refine Vk.dOnly (i := 11) (by kernel_rfl) (Vk.alloc 28 37 [ci 0, ci 0, ci 0, ci 0, ci 0, ci 0, ci 0, ci 0, ci 0, ci 0, ci 0, ci 0, ci 0, ci 0, ci 0, ci 0, ci 0, ci 0, ci 0, ci 0, ci 0, ci 0, ci 0, ci 0] hs (by kernel_rfl) (by kernel_rfl) (by kernel_rfl) fun b_168 w a hs => ?_)
       replace hcl : Ow κ w C_158 := by rw [hC_158]; exact (hs.own.too [4, 5, 6, 7, 8, 9, 10, 11, 12] 13)
       refine ⟨fun _ => hcl, ?_⟩
       obtain ⟨h_169, hm⟩ := ite_t hm
       refine qsA 12 3 v_164.1 hs rfl h_169 rfl fun a w hs => ?_
       replace hcl : Ow κ w C_158 := by rw [hC_158]; exact (hs.own.too [4, 5, 6, 7, 8, 9, 10, 11, 12] 13)
       refine ⟨fun _ => hcl, ?_⟩
       obtain ⟨h_170, hm⟩ := ite_t hm
       refine qsA 13 0 v_167.1 hs rfl h_170 rfl fun a w hs => ?_
       refine ⟨fun h => absurd h (by decide), ?_⟩
       replace hs := hs.pick [1, 2, 4, 14, 16, 17, 21, 23, 24, 25, 26, 27, 28] (L' := [(1, .slice A_x1 x1.length c_x1), (2, .slice A_x2 x2.length c_x2), (4, vw p_42), (14, pp b_32), (16, vi (IntKind.i64.wrap (8 + (Int.tmod (IntKind.i64.wrap x3) 4)))), (17, pp b_57), (21, pp b_93), (23, pp b_133), (24, pp b_135), (25, pp b_153), (26, pp b_155), (27, pp b_161), (28, pp b_168)]) (by kernel_rfl)
       refine Vk.dDone (by kernel_rfl) ?_
       exact hj157 v_164.2 v_167.2 v_164.1 v_167.1 hm b_161 b_168 _ _ (hs.go [1, 2, 4, 14, 16, 17, 21, 23, 24, 25, 26, 27, 28] [4, 2, 1, 5, 6, 7, 8, 9, 10, 11, 12, 3, 0] 13 (by kernel_rfl) (by kernel_rfl) (by kernel_rfl))
     ·exact by
       refine Vk.alloc 28 37 [ci 0, ci 0, ci 0, ci 0, ci 0, ci 0, ci 0, ci 0, ci 0, ci 0, ci 0, ci 0, ci 0, ci 0, ci 0, ci 0, ci 0, ci 0, ci 0, ci 0, ci 0, ci 0, ci 0, ci 0] hs (by kernel_rfl) (by kernel_rfl) (by kernel_rfl) fun b_165 w a hs => ?_
       replace hcl : Ow κ w C_158 := by rw [hC_158]; exact (hs.own.too [3, 5, 6, 7, 8, 9, 10, 11, 12] 13)
       refine ⟨fun _ => hcl, ?_⟩
       obtain ⟨v_168, h_167, hm⟩ := bind_t hm
       refine qdc 9 (visorref33_Add.ok _ _ _ _ _ _ h_167 _ _ _ br15x0x_27 A_x2 c_x2 hx_x2.less.less.less.less.less.less.less.less.less.less.less.less hs.own.f4) hs fun w a hs => ?_
       replace hcl : Ow κ w C_158 := by rw [hC_158]; exact (hs.own.too [4, 5, 6, 7, 8, 9, 10, 11, 12] 13)
       refine ⟨fun _ => hcl, ?_⟩
       obtain ⟨h_169, hm⟩ := ite_t hm
       refine qsA 12 3 v_164.1 hs rfl h_169 rfl fun a w hs => ?_
       replace hcl : Ow κ w C_158 := by rw [hC_158]; exact (hs.own.too [4, 5, 6, 7, 8, 9, 10, 11, 12] 13)
       refine ⟨fun _ => hcl, ?_⟩
       obtain ⟨h_170, hm⟩ := ite_t hm
       refine qsA 13 1 v_168.1 hs rfl h_170 rfl fun a w hs => ?_
       refine ⟨fun h => absurd h (by decide), ?_⟩
       replace hs := hs.pick [1, 2, 4, 14, 16, 17, 21, 23, 24, 25, 26, 27, 28] (L' := [(1, .slice A_x1 x1.length c_x1), (2, .slice A_x2 x2.length c_x2), (4, vw p_42), (14, pp b_32), (16, vi (IntKind.i64.wrap (8 + (Int.tmod (IntKind.i64.wrap x3) 4)))), (17, pp b_57), (21, pp b_93), (23, pp b_133), (24, pp b_135), (25, pp b_153), (26, pp b_155), (27, pp b_161), (28, pp b_165)]) (by kernel_rfl)
       refine Vk.dDone (by kernel_rfl) ?_
       exact hj157 v_164.2 v_168.2 v_164.1 v_168.1 hm b_161 b_165 _ _ (hs.go [1, 2, 4, 14, 16, 17, 21, 23, 24, 25, 26, 27, 28] [4, 2, 0, 5, 6, 7, 8, 9, 10, 11, 12, 3, 1] 13 (by kernel_rfl) (by kernel_rfl) (by kernel_rfl))
   ·exact by
     refine Vk.alloc 28 37 [ci 0, ci 0, ci 0, ci 0, ci 0, ci 0, ci 0, ci 0, ci 0, ci 0, ci 0, ci 0, ci 0, ci 0, ci 0, ci 0, ci 0, ci 0, ci 0, ci 0, ci 0, ci 0, ci 0, ci 0] hs (by kernel_rfl) (by kernel_rfl) (by kernel_rfl) fun b_162 w a hs => ?_
     replace hcl : Ow κ w C_158 := by rw [hC_158]; exact (hs.own.too [2, 5, 6, 7, 8, 9, 10, 11, 12] 13)
     refine ⟨fun _ => hcl, ?_⟩
     obtain ⟨v_165, h_164, hm⟩ := bind_t hm
     refine qdc 4 (slice_AddTold.ok _ _ _ _ _ h_164 _ _ _ br15x0m_26 A_x2 c_x2 hx_x2.less.less.less.less.less.less.less.less.less.less.less.less hs.own.f3) hs fun w a hs => ?_
     replace hcl : Ow κ w C_158 := by rw [hC_158]; exact (hs.own.too [3, 5, 6, 7, 8, 9, 10, 11, 12] 13)
     refine ⟨fun _ => hcl, ?_⟩
     obtain ⟨v_168, h_167, hm⟩ := bind_t hm
     refine qdc 9 (visorref33_Add.ok _ _ _ _ _ _ h_167 _ _ _ br15x0x_27 A_x2 c_x2 hx_x2.less.less.less.less.less.less.less.less.less.less.less.less hs.own.f4) hs fun w a hs => ?_
     replace hcl : Ow κ w C_158 := by rw [hC_158]; exact (hs.own.too [4, 5, 6, 7, 8, 9, 10, 11, 12] 13)
     refine ⟨fun _ => hcl, ?_⟩
     obtain ⟨h_169, hm⟩ := ite_t hm
     refine qsA 12 3 v_165.1 hs rfl h_169 rfl fun a w hs => ?_
     replace hcl : Ow κ w C_158 := by rw [hC_158]; exact (hs.own.too [4, 5, 6, 7, 8, 9, 10, 11, 12] 13)
     refine ⟨fun _ => hcl, ?_⟩
     obtain ⟨h_170, hm⟩ := ite_t hm
     refine qsA 13 2 v_168.1 hs rfl h_170 rfl fun a w hs => ?_
     refine ⟨fun h => absurd h (by decide), ?_⟩
     replace hs := hs.pick [1, 2, 4, 14, 16, 17, 21, 23, 24, 25, 26, 27, 28] (L' := [(1, .slice A_x1 x1.length c_x1), (2, .slice A_x2 x2.length c_x2), (4, vw p_42), (14, pp b_32), (16, vi (IntKind.i64.wrap (8 + (Int.tmod (IntKind.i64.wrap x3) 4)))), (17, pp b_57), (21, pp b_93), (23, pp b_133), (24, pp b_135), (25, pp b_153), (26, pp b_155), (27, pp b_161), (28, pp b_162)]) (by kernel_rfl)
     refine Vk.dDone (by kernel_rfl) ?_
     exact hj157 v_165.2 v_168.2 v_165.1 v_168.1 hm b_161 b_162 _ _ (hs.go [1, 2, 4, 14, 16, 17, 21, 23, 24, 25, 26, 27, 28] [4, 1, 0, 5, 6, 7, 8, 9, 10, 11, 12, 3, 2] 13 (by kernel_rfl) (by kernel_rfl) (by kernel_rfl))
 ·exact by
   refine Vk.alloc 28 37 [ci 0, ci 0, ci 0, ci 0, ci 0, ci 0, ci 0, ci 0, ci 0, ci 0, ci 0, ci 0, ci 0, ci 0, ci 0, ci 0, ci 0, ci 0, ci 0, ci 0, ci 0, ci 0, ci 0, ci 0] hs (by kernel_rfl) (by kernel_rfl) (by kernel_rfl) fun b_161 w a hs => ?_
   replace hcl := qO hC_158 hs.own.f3.drop.f2.drop.drop
   refine ⟨fun _ => hcl, ?_⟩
   refine Vk.dMany2 (i0 := 4) (i1 := 10) (by kernel_rfl) ?_ ?_
   ·exact by
     obtain ⟨v_164, h_163, hm⟩ := bind_t hm
     refine qco (slice_AddTold.ok _ _ _ _ _ h_163 _ _ _ br15x0m_26 A_x2 c_x2 hx_x2.less.less.less.less.less.less.less.less.less.less.less hs.own.f2) hs fun w a hs => ?_
     replace hcl := qO hC_158 hs.own.f3.drop.f1.drop.drop
     refine ⟨fun _ => hcl, ?_⟩
     refine Vk.dMany2 (i0 := 9) (i1 := 10) (by kernel_rfl) ?_ ?_
     ·exact by
       obtain ⟨v_167, h_166, hm⟩ := bind_t hm
       refine qco (visorref33_Add.ok _ _ _ _ _ _ h_166 _ _ _ br15x0x_27 A_x2 c_x2 hx_x2.less.less.less.less.less.less.less.less.less.less.less hs.own.f3) hs fun w a hs => ?_
       replace hcl := qO hC_158 hs.own.f2.drop.f1.drop.drop
       refine ⟨fun _ => hcl, ?_⟩
       refine Vk.dOnly (i := 10) (by kernel_rfl) (Vk.alloc 27 37 [ci 0, ci 0, ci 0, ci 0, ci 0, ci 0, ci 0, ci 0, ci 0, ci 0, ci 0, ci 0, ci 0, ci 0, ci 0, ci 0, ci 0, ci 0, ci 0, ci 0, ci 0, ci 0, ci 0, ci 0] hs (by kernel_rfl) (by kernel_rfl) (by kernel_rfl) fun b_168 w a hs => ?_)
       replace hcl : Ow κ w C_158 := by rw [hC_158]; exact (hs.own.too [4, 5, 6, 7, 8, 9, 10, 11, 12] 13)
       refine ⟨fun _ => hcl, ?_⟩
       obtain ⟨h_169, hm⟩ := ite_t hm
       refine qsA 12 0 v_164.1 hs rfl h_169 rfl fun a w hs => ?_
       replace hcl : Ow κ w C_158 := by rw [hC_158]; exact (hs.own.too [4, 5, 6, 7, 8, 9, 10, 11, 12] 13)
       refine ⟨fun _ => hcl, ?_⟩
       obtain ⟨h_170, hm⟩ := ite_t hm
       refine qsA 13 3 v_167.1 hs rfl h_170 rfl fun a w hs => ?_
       refine ⟨fun h => absurd h (by decide), ?_⟩
       replace hs := hs.pick [1, 2, 4, 14, 16, 17, 21, 23, 24, 25, 26, 27, 28] (L' := [(1, .slice A_x1 x1.length c_x1), (2, .slice A_x2 x2.length c_x2), (4, vw p_42), (14, pp b_32), (16, vi (IntKind.i64.wrap (8 + (Int.tmod (IntKind.i64.wrap x3) 4)))), (17, pp b_57), (21, pp b_93), (23, pp b_133), (24, pp b_135), (25, pp b_153), (26, pp b_155), (27, pp b_168), (28, pp b_161)]) (by kernel_rfl)
       refine Vk.dDone (by kernel_rfl) ?_
       exact hj157 v_164.2 v_167.2 v_164.1 v_167.1 hm b_168 b_161 _ _ (hs.go [1, 2, 4, 14, 16, 17, 21, 23, 24, 25, 26, 27, 28] [4, 2, 1, 5, 6, 7, 8, 9, 10, 11, 12, 0, 3] 13 (by kernel_rfl) (by kernel_rfl) (by kernel_rfl))
     ·exact by
       refine Vk.alloc 27 37 [ci 0, ci 0, ci 0, ci 0, ci 0, ci 0, ci 0, ci 0, ci 0, ci 0, ci 0, ci 0, ci 0, ci 0, ci 0, ci 0, ci 0, ci 0, ci 0, ci 0, ci 0, ci 0, ci 0, ci 0] hs (by kernel_rfl) (by kernel_rfl) (by kernel_rfl) fun b_165 w a hs => ?_
       replace hcl : Ow κ w C_158 := by rw [hC_158]; exact (hs.own.too [3, 5, 6, 7, 8, 9, 10, 11, 12] 13)
       refine ⟨fun _ => hcl, ?_⟩
       obtain ⟨v_168, h_167, hm⟩ := bind_t hm
       refine qdc 9 (visorref33_Add.ok _ _ _ _ _ _ h_167 _ _ _ br15x0x_27 A_x2 c_x2 hx_x2.less.less.less.less.less.less.less.less.less.less.less.less hs.own.f4) hs fun w a hs => ?_
       replace hcl : Ow κ w C_158 := by rw [hC_158]; exact (hs.own.too [4, 5, 6, 7, 8, 9, 10, 11, 12] 13)
       refine ⟨fun _ => hcl, ?_⟩
       obtain ⟨h_169, hm⟩ := ite_t hm
       refine qsA 12 1 v_164.1 hs rfl h_169 rfl fun a w hs => ?_
       replace hcl : Ow κ w C_158 := by rw [hC_158]; exact (hs.own.too [4, 5, 6, 7, 8, 9, 10, 11, 12] 13)
       refine ⟨fun _ => hcl, ?_⟩
       obtain ⟨h_170, hm⟩ := ite_t hm
       refine qsA 13 3 v_168.1 hs rfl h_170 rfl fun a w hs => ?_
       refine ⟨fun h => absurd h (by decide), ?_⟩
       replace hs := hs.pick [1, 2, 4, 14, 16, 17, 21, 23, 24, 25, 26, 27, 28] (L' := [(1, .slice A_x1 x1.length c_x1), (2, .slice A_x2 x2.length c_x2), (4, vw p_42), (14, pp b_32), (16, vi (IntKind.i64.wrap (8 + (Int.tmod (IntKind.i64.wrap x3) 4)))), (17, pp b_57), (21, pp b_93), (23, pp b_133), (24, pp b_135), (25, pp b_153), (26, pp b_155), (27, pp b_165), (28, pp b_161)]) (by kernel_rfl)
       refine Vk.dDone (by kernel_rfl) ?_
       exact hj157 v_164.2 v_168.2 v_164.1 v_168.1 hm b_165 b_161 _ _ (hs.go [1, 2, 4, 14, 16, 17, 21, 23, 24, 25, 26, 27, 28] [4, 2, 0, 5, 6, 7, 8, 9, 10, 11, 12, 1, 3] 13 (by kernel_rfl) (by kernel_rfl) (by kernel_rfl))
   ·exact by
     refine Vk.alloc 27 37 [ci 0, ci 0, ci 0, ci 0, ci 0, ci 0, ci 0, ci 0, ci 0, ci 0, ci 0, ci 0, ci 0, ci 0, ci 0, ci 0, ci 0, ci 0, ci 0, ci 0, ci 0, ci 0, ci 0, ci 0] hs (by kernel_rfl) (by kernel_rfl) (by kernel_rfl) fun b_162 w a hs => ?_
     replace hcl : Ow κ w C_158 := by rw [hC_158]; exact (hs.own.too [2, 5, 6, 7, 8, 9, 10, 11, 12] 13)
     refine ⟨fun _ => hcl, ?_⟩
     obtain ⟨v_165, h_164, hm⟩ := bind_t hm
     refine qdc 4 (slice_AddTold.ok _ _ _ _ _ h_164 _ _ _ br15x0m_26 A_x2 c_x2 hx_x2.less.less.less.less.less.less.less.less.less.less.less.less hs.own.f3) hs fun w a hs => ?_
     replace hcl : Ow κ w C_158 := by rw [hC_158]; exact (hs.own.too [3, 5, 6, 7, 8, 9, 10, 11, 12] 13)
     refine ⟨fun _ => hcl, ?_⟩
     obtain ⟨v_168, h_167, hm⟩ := bind_t hm
     refine qdc 9 (visorref33_Add.ok _ _ _ _ _ _ h_167 _ _ _ br15x0x_27 A_x2 c_x2 hx_x2.less.less.less.less.less.less.less.less.less.less.less.less hs.own.f4) hs fun w a hs => ?_
     replace hcl : Ow κ w C_158 := by rw [hC_158]; exact (hs.own.too [4, 5, 6, 7, 8, 9, 10, 11, 12] 13)
     refine ⟨fun _ => hcl, ?_⟩
     obtain ⟨h_169, hm⟩ := ite_t hm
     refine qsA 12 2 v_165.1 hs rfl h_169 rfl fun a w hs => ?_
     replace hcl : Ow κ w C_158 := by rw [hC_158]; exact (hs.own.too [4, 5, 6, 7, 8, 9, 10, 11, 12] 13)
     refine ⟨fun _ => hcl, ?_⟩
     obtain ⟨h_170, hm⟩ := ite_t hm
     refine qsA 13 3 v_168.1 hs rfl h_170 rfl fun a w hs => ?_
     refine ⟨fun h => absurd h (by decide), ?_⟩
     replace hs := hs.pick [1, 2, 4, 14, 16, 17, 21, 23, 24, 25, 26, 27, 28] (L' := [(1, .slice A_x1 x1.length c_x1), (2, .slice A_x2 x2.length c_x2), (4, vw p_42), (14, pp b_32), (16, vi (IntKind.i64.wrap (8 + (Int.tmod (IntKind.i64.wrap x3) 4)))), (17, pp b_57), (21, pp b_93), (23, pp b_133), (24, pp b_135), (25, pp b_153), (26, pp b_155), (27, pp b_162), (28, pp b_161)]) (by kernel_rfl)
     refine Vk.dDone (by kernel_rfl) ?_
     exact hj157 v_165.2 v_168.2 v_165.1 v_168.1 hm b_162 b_161 _ _ (hs.go [1, 2, 4, 14, 16, 17, 21, 23, 24, 25, 26, 27, 28] [4, 1, 0, 5, 6, 7, 8, 9, 10, 11, 12, 2, 3] 13 (by kernel_rfl) (by kernel_rfl) (by kernel_rfl))

set_option maxRecDepth 100000 in
set_option maxHeartbeats 4000000 in
theorem visorlaw33_SlicePlays.ok (k : Nat) (x0 : Bool) (x1 : List Int) (x2 : List Int) (x3 : Int) (x4 : Int) (x5 : List Int) (r : Bool) (hm : visorlaw33_SlicePlays.m k x0 x1 x2 x3 x4 x5 = some r) (κ : Ctx) (w : World) (S : List HP) (A_x1 : Option Addr) (c_x1 : Nat) (hx_x1 : Sl κ [] A_x1 c_x1 1 (eI .u8) x1) (A_x2 : Option Addr) (c_x2 : Nat) (hx_x2 : Sl κ [] A_x2 c_x2 1 (eI .u8) x2) (A_x5 : Option Addr) (c_x5 : Nat) (hx_x5 : Sl κ [] A_x5 c_x5 1 (eI .u64) x5) (ho : Ow κ w (S)) :
  Calls Tryz.prog 3 #[.bool x0, .slice A_x1 x1.length c_x1, .slice A_x2 x2.length c_x2, .int .u8 x3, vw x4, .slice A_x5 x5.length c_x5] w (visorlaw33_SlicePlays.R κ S x0 x1 x2 x3 x4 x5 A_x1 c_x1 A_x2 c_x2 A_x5 c_x5 r) := by
 have ht_x1 := hx_x1
 generalize hRR : visorlaw33_SlicePlays.R κ S x0 x1 x2 x3 x4 x5 A_x1 c_x1 A_x2 c_x2 A_x5 c_x5 r = RR
 replace hx_x1 := Sl.top (S := S) hx_x1
 have ht_x2 := hx_x2
 replace hx_x2 := Sl.top (S := S) hx_x2
 have ht_x5 := hx_x5
 replace hx_x5 := Sl.top (S := S) hx_x5
 unfold visorlaw33_SlicePlays.m at hm
 refine qen [(0, .bool x0), (1, .slice A_x1 x1.length c_x1), (2, .slice A_x2 x2.length c_x2), (3, .int .u8 x3), (4, vw x4), (5, .slice A_x5 x5.length c_x5)] Tryz.func3 Tryz.ntmps3 ho fun a hs => ?_
 refine qsk 1 [0, 1, 2, 3, 4, 5] hs fun a hs => ?_
 refine qsk 1 [0, 1, 2, 3, 4, 5, 13] hs fun a hs => ?_
 refine Vk.seq fun K3 hK3 => ?_
 have hj3 : ∀ (p_5 : Int), visorlaw33_SlicePlays.j1 k x1 x2 x3 x4 x5 p_5 = some r → ∀ (a : Act) (w : World), St 213 a w κ [(1, .slice A_x1 x1.length c_x1), (2, .slice A_x2 x2.length c_x2), (3, .int .u8 x3), (4, vw x4), (5, .slice A_x5 x5.length c_x5), (13, vi p_5)] (S) → K3 a w := by
  intro p_5 hm a w hs
  unfold visorlaw33_SlicePlays.j1 at hm
  refine hK3 _ _ ?_
  refine Vk.seq fun K6 hK6 => ?_
  refine qsr fun K7 hK7 => ?_
  refine qpu 4 hs fun a hs => ?_
  refine qsc 36 4 hs fun a hs => ?_
  refine qpk 0 [1, 2, 3, 4, 5, 13, 40] hs fun a hs => hK7 _ _ ?_
  clear hK7
  refine qcs ((decide (((x1.length : Nat) : Int) > 100)) || (decide (((x2.length : Nat) : Int) > 100))) hs (fun hb => ?_) fun hb => ?_
  ·replace hm := bif_t hm hb
   refine qsr fun K9 hK9 => ?_
   obtain ⟨v_12, h_11, hm⟩ := bind_t hm
   refine qcl (visorlaw33_awake.ok _ _ h_11 _ _ (S) hs.own) hs fun w a hs => ?_
   refine qpe 1 [(12, .bool v_12)] hs fun a hs => hK9 _ _ ?_
   clear hK9
   refine wp_ret ?_
   exact qr1 (.bool v_12) hs rfl hRR (by cases hm; exact ⟨rfl, hs.own⟩)
  ·replace hm := bif_f hm hb
   refine wp_skip ?_
   refine hK6 _ _ ?_
   clear hK6
   refine qsr fun K13 hK13 => ?_
   refine qpu 2 hs fun a hs => ?_
   replace hs := hs.addRd ht_x5
   obtain ⟨v_17, h_16, hm⟩ := bind_t hm
   refine Vk.step (Vk.call (some 45) 6 #[vi p_5, .slice A_x5 x5.length c_x5, vi 2000] hs (by kernel_rfl) (by kernel_rfl) (by kernel_rfl) ?_)
   refine (visorlaw20_Begins.ok k p_5 x5 2000 v_17 h_16 κ w (S) A_x5 c_x5 hs.own).mono ?_
   rintro _ w (⟨v_18, rfl, br15x0x_19, Ar15x0l_20, cr15x0l_21, Ar15x0v_22, cr15x0v_23, rfl, how⟩ | ⟨v_25, rfl, br15x0m_26, br15x0x_27, Ar15x0l_28, cr15x0l_29, Ar15x0v_30, cr15x0v_31, rfl, how⟩)
   ·dsimp only at hm
    refine ⟨_, _, _, rfl, how, fun a hs => ?_⟩
    refine qpu 3 hs fun a hs => ?_
    refine qal 30 [C.ptr none, C.ptr none, C.slc none 0 0, C.slc none 0 0] 14 hs fun b_24 w a hs => ?_
    refine qsa 0 [C.ptr none, cp br15x0x_19, C.slc Ar15x0l_20 v_18.2.1.length cr15x0l_21, C.slc Ar15x0v_22 v_18.2.2.length cr15x0v_23] hs rfl fun a w hs => ?_
    refine qpk 1 [1, 2, 3, 4, 14, 15] hs fun a hs => hK13 _ _ ?_
    refine Vk.seq fun K33 hK33 => ?_
    refine qsk 2 [1, 2, 3, 4, 14, 49] hs fun a hs => ?_
    refine qct hs ?_
    refine qse 1 [(12, .bool false)] hs fun a hs => ?_
    refine wp_ret ?_
    exact qr1 (.bool false) hs rfl hRR (by cases hm; exact ⟨rfl, (hs.own.too [] 4)⟩)
   ·dsimp only at hm
    refine ⟨_, _, _, rfl, how, fun a hs => ?_⟩
    refine qpu 3 hs fun a hs => ?_
    refine qal 30 [C.ptr none, C.ptr none, C.slc none 0 0, C.slc none 0 0] 14 hs fun b_32 w a hs => ?_
    refine qsa 0 [cp br15x0m_26, cp br15x0x_27, C.slc Ar15x0l_28 v_25.2.2.1.length cr15x0l_29, C.slc Ar15x0v_30 v_25.2.2.2.1.length cr15x0v_31] hs rfl fun a w hs => ?_
    refine qpk 1 [1, 2, 3, 4, 14, 15] hs fun a hs => hK13 _ _ ?_
    refine Vk.seq fun K36 hK36 => ?_
    refine qsk 2 [1, 2, 3, 4, 14, 49] hs fun a hs => ?_
    refine qcs (!v_25.2.2.2.2) hs (fun hb => ?_) fun hb => ?_
    ·replace hm := bif_t hm hb
     refine qse 1 [(12, .bool false)] hs fun a hs => ?_
     refine wp_ret ?_
     exact qr1 (.bool false) hs rfl hRR (by cases hm; exact ⟨rfl, (hs.own.too [] 5)⟩)
    ·replace hm := bif_f hm hb
     refine wp_skip ?_
     refine hK36 _ _ ?_
     clear hK36
     refine qsk 5 [1, 2, 4, 14, 16] hs fun a hs => ?_
     refine Vk.seq fun K40 hK40 => ?_
     have hj40 : ∀ (p_42 : Int), visorlaw33_SlicePlays.j2 k x1 x2 x3 v_25 p_42 = some r → ∀ (a : Act) (w : World), St 213 a w κ [(1, .slice A_x1 x1.length c_x1), (2, .slice A_x2 x2.length c_x2), (4, vw p_42), (14, pp b_32), (16, vi (IntKind.i64.wrap (8 + (Int.tmod (IntKind.i64.wrap x3) 4))))] (pt b_32 (blk [cp br15x0m_26, cp br15x0x_27, C.slc Ar15x0l_28 v_25.2.2.1.length cr15x0l_29, C.slc Ar15x0v_30 v_25.2.2.2.1.length cr15x0v_31] 30) :: Twire_Machine.own br15x0m_26 v_25.1 :: Tvisorref19_M.own κ br15x0x_27 v_25.2.1 :: rowp Ar15x0l_28 cr15x0l_29 35 3 eC v_25.2.2.1 :: rowp Ar15x0v_30 cr15x0v_31 23 1 (eI .u64) v_25.2.2.2.1 :: S) → K40 a w := by
      intro p_42 hm a w hs
      unfold visorlaw33_SlicePlays.j2 at hm
      refine hK40 _ _ ?_
      refine Vk.seq fun K43 hK43 => ?_
      have hj43 : ∀ (p_55 : Twire_Machine) (p_56 : Tvisorref19_M) (p_58 : Cells) (p_60 : Cells), visorlaw33_SlicePlays.j3 k x1 x2 x3 v_25 p_42 p_55 p_56 p_58 p_60 = some r → ∀ (b_57 : Nat) (b_59 : Nat) (a : Act) (w : World), St 213 a w κ [(1, .slice A_x1 x1.length c_x1), (2, .slice A_x2 x2.length c_x2), (4, vw p_42), (14, pp b_32), (16, vi (IntKind.i64.wrap (8 + (Int.tmod (IntKind.i64.wrap x3) 4)))), (17, pp b_57), (18, pp b_59)] (pt b_32 (blk [cp br15x0m_26, cp br15x0x_27, C.slc Ar15x0l_28 v_25.2.2.1.length cr15x0l_29, C.slc Ar15x0v_30 v_25.2.2.2.1.length cr15x0v_31] 30) :: Twire_Machine.own br15x0m_26 p_55 :: Tvisorref19_M.own κ br15x0x_27 p_56 :: rowp Ar15x0l_28 cr15x0l_29 35 3 eC v_25.2.2.1 :: rowp Ar15x0v_30 cr15x0v_31 23 1 (eI .u64) v_25.2.2.2.1 :: pt b_57 (blk p_58 37) :: pt b_59 (blk p_60 37) :: S) → K43 a w := by
       intro p_55 p_56 p_58 p_60 hm b_57 b_59 a w hs
       unfold visorlaw33_SlicePlays.j3 at hm
       refine hK43 _ _ ?_
       refine Vk.seq fun K61 hK61 => ?_
       have hj61 : ∀ (p_73 : Twire_Machine) (p_74 : Tvisorref19_M) (p_76 : Cells) (p_78 : Cells), visorlaw33_SlicePlays.j4 k x1 x2 x3 v_25 p_42 p_58 p_60 p_73 p_74 p_76 p_78 = some r → ∀ (b_75 : Nat) (b_77 : Nat) (a : Act) (w : World), St 213 a w κ [(1, .slice A_x1 x1.length c_x1), (2, .slice A_x2 x2.length c_x2), (4, vw p_42), (14, pp b_32), (16, vi (IntKind.i64.wrap (8 + (Int.tmod (IntKind.i64.wrap x3) 4)))), (17, pp b_57), (18, pp b_59), (19, pp b_75), (20, pp b_77)] (pt b_32 (blk [cp br15x0m_26, cp br15x0x_27, C.slc Ar15x0l_28 v_25.2.2.1.length cr15x0l_29, C.slc Ar15x0v_30 v_25.2.2.2.1.length cr15x0v_31] 30) :: Twire_Machine.own br15x0m_26 p_73 :: Tvisorref19_M.own κ br15x0x_27 p_74 :: rowp Ar15x0l_28 cr15x0l_29 35 3 eC v_25.2.2.1 :: rowp Ar15x0v_30 cr15x0v_31 23 1 (eI .u64) v_25.2.2.2.1 :: pt b_57 (blk p_58 37) :: pt b_59 (blk p_60 37) :: pt b_75 (blk p_76 37) :: pt b_77 (blk p_78 37) :: S) → K61 a w := by
        intro p_73 p_74 p_76 p_78 hm b_75 b_77 a w hs
        unfold visorlaw33_SlicePlays.j4 at hm
        refine hK61 _ _ ?_
        refine Vk.seq fun K79 hK79 => ?_
        have hj79 : ∀ (p_91 : Twire_Machine) (p_92 : Tvisorref19_M) (p_94 : Cells) (p_96 : Cells), visorlaw33_SlicePlays.j5 k x1 x2 x3 v_25 p_42 p_58 p_60 p_76 p_78 p_91 p_92 p_94 p_96 = some r → ∀ (b_93 : Nat) (b_95 : Nat) (a : Act) (w : World), St 213 a w κ [(1, .slice A_x1 x1.length c_x1), (2, .slice A_x2 x2.length c_x2), (4, vw p_42), (14, pp b_32), (16, vi (IntKind.i64.wrap (8 + (Int.tmod (IntKind.i64.wrap x3) 4)))), (17, pp b_57), (18, pp b_59), (19, pp b_75), (20, pp b_77), (21, pp b_93), (22, pp b_95)] (pt b_32 (blk [cp br15x0m_26, cp br15x0x_27, C.slc Ar15x0l_28 v_25.2.2.1.length cr15x0l_29, C.slc Ar15x0v_30 v_25.2.2.2.1.length cr15x0v_31] 30) :: Twire_Machine.own br15x0m_26 p_91 :: Tvisorref19_M.own κ br15x0x_27 p_92 :: rowp Ar15x0l_28 cr15x0l_29 35 3 eC v_25.2.2.1 :: rowp Ar15x0v_30 cr15x0v_31 23 1 (eI .u64) v_25.2.2.2.1 :: pt b_57 (blk p_58 37) :: pt b_59 (blk p_60 37) :: pt b_75 (blk p_76 37) :: pt b_77 (blk p_78 37) :: pt b_93 (blk p_94 37) :: pt b_95 (blk p_96 37) :: S) → K79 a w := by
         intro p_91 p_92 p_94 p_96 hm b_93 b_95 a w hs
         unfold visorlaw33_SlicePlays.j5 at hm
         refine hK79 _ _ ?_
         refine Vk.seq fun K97 hK97 => ?_
         refine Vk.seq fun K98 hK98 => ?_
         have hj98 : ∀ (p_113 : Bool), visorlaw33_SlicePlays.j6 k x1 x2 x3 v_25 p_42 p_58 p_60 p_91 p_92 p_94 p_96 p_113 = some r → ∀ (a : Act) (w : World), St 213 a w κ [(1, .slice A_x1 x1.length c_x1), (2, .slice A_x2 x2.length c_x2), (4, vw p_42), (14, pp b_32), (16, vi (IntKind.i64.wrap (8 + (Int.tmod (IntKind.i64.wrap x3) 4)))), (17, pp b_57), (18, pp b_59), (21, pp b_93), (22, pp b_95), (94, .bool p_113)] (pt b_32 (blk [cp br15x0m_26, cp br15x0x_27, C.slc Ar15x0l_28 v_25.2.2.1.length cr15x0l_29, C.slc Ar15x0v_30 v_25.2.2.2.1.length cr15x0v_31] 30) :: Twire_Machine.own br15x0m_26 p_91 :: Tvisorref19_M.own κ br15x0x_27 p_92 :: rowp Ar15x0l_28 cr15x0l_29 35 3 eC v_25.2.2.1 :: rowp Ar15x0v_30 cr15x0v_31 23 1 (eI .u64) v_25.2.2.2.1 :: pt b_57 (blk p_58 37) :: pt b_59 (blk p_60 37) :: pt b_93 (blk p_94 37) :: pt b_95 (blk p_96 37) :: S) → K98 a w := by
          intro p_113 hm a w hs
          unfold visorlaw33_SlicePlays.j6 at hm
          refine hK98 _ _ ?_
          refine qcs (p_113) hs (fun hb => ?_) fun hb => ?_
          ·replace hm := bif_t hm hb
           refine qse 1 [(12, .bool false)] hs fun a hs => ?_
           refine wp_ret ?_
           exact qr1 (.bool false) hs rfl hRR (by cases hm; exact ⟨rfl, (hs.own.too [] 9)⟩)
          ·replace hm := bif_f hm hb
           refine wp_skip ?_
           refine hK97 _ _ ?_
           clear hK97
           refine Vk.seq fun K115 hK115 => ?_
           have hj115 : ∀ (p_131 : Twire_Machine) (p_132 : Tvisorref19_M) (p_134 : Cells) (p_136 : Cells), visorlaw33_SlicePlays.j7 k x1 x2 x3 v_25 p_42 p_58 p_94 p_131 p_132 p_134 p_136 = some r → ∀ (b_133 : Nat) (b_135 : Nat) (a : Act) (w : World), St 213 a w κ [(1, .slice A_x1 x1.length c_x1), (2, .slice A_x2 x2.length c_x2), (4, vw p_42), (14, pp b_32), (16, vi (IntKind.i64.wrap (8 + (Int.tmod (IntKind.i64.wrap x3) 4)))), (17, pp b_57), (21, pp b_93), (23, pp b_133), (24, pp b_135)] (pt b_32 (blk [cp br15x0m_26, cp br15x0x_27, C.slc Ar15x0l_28 v_25.2.2.1.length cr15x0l_29, C.slc Ar15x0v_30 v_25.2.2.2.1.length cr15x0v_31] 30) :: Twire_Machine.own br15x0m_26 p_131 :: Tvisorref19_M.own κ br15x0x_27 p_132 :: rowp Ar15x0l_28 cr15x0l_29 35 3 eC v_25.2.2.1 :: rowp Ar15x0v_30 cr15x0v_31 23 1 (eI .u64) v_25.2.2.2.1 :: pt b_57 (blk p_58 37) :: pt b_93 (blk p_94 37) :: pt b_133 (blk p_134 37) :: pt b_135 (blk p_136 37) :: S) → K115 a w := by
            intro p_131 p_132 p_134 p_136 hm b_133 b_135 a w hs
            unfold visorlaw33_SlicePlays.j7 at hm
            refine hK115 _ _ ?_
            refine Vk.seq fun K137 hK137 => ?_
            have hj137 : ∀ (p_151 : Twire_Machine) (p_152 : Tvisorref19_M) (p_154 : Cells) (p_156 : Cells), visorlaw33_SlicePlays.j8 k x1 x2 x3 v_25 p_42 p_58 p_94 p_134 p_136 p_151 p_152 p_154 p_156 = some r → ∀ (b_153 : Nat) (b_155 : Nat) (a : Act) (w : World), St 213 a w κ [(1, .slice A_x1 x1.length c_x1), (2, .slice A_x2 x2.length c_x2), (4, vw p_42), (14, pp b_32), (16, vi (IntKind.i64.wrap (8 + (Int.tmod (IntKind.i64.wrap x3) 4)))), (17, pp b_57), (21, pp b_93), (23, pp b_133), (24, pp b_135), (25, pp b_153), (26, pp b_155)] (pt b_32 (blk [cp br15x0m_26, cp br15x0x_27, C.slc Ar15x0l_28 v_25.2.2.1.length cr15x0l_29, C.slc Ar15x0v_30 v_25.2.2.2.1.length cr15x0v_31] 30) :: Twire_Machine.own br15x0m_26 p_151 :: Tvisorref19_M.own κ br15x0x_27 p_152 :: rowp Ar15x0l_28 cr15x0l_29 35 3 eC v_25.2.2.1 :: rowp Ar15x0v_30 cr15x0v_31 23 1 (eI .u64) v_25.2.2.2.1 :: pt b_57 (blk p_58 37) :: pt b_93 (blk p_94 37) :: pt b_133 (blk p_134 37) :: pt b_135 (blk p_136 37) :: pt b_153 (blk p_154 37) :: pt b_155 (blk p_156 37) :: S) → K137 a w := by
             intro p_151 p_152 p_154 p_156 hm b_153 b_155 a w hs
             exact hK137 _ _ (visorlaw33_SlicePlays.ok.tail k x0 x1 x2 x3 x4 x5 r κ S A_x1 c_x1 ht_x1 A_x2 c_x2 ht_x2 A_x5 c_x5 ht_x5 v_25 p_42 p_58 p_94 p_134 p_136 b_32 b_57 b_93 b_133 b_135 br15x0m_26 br15x0x_27 Ar15x0l_28 cr15x0l_29 Ar15x0v_30 cr15x0v_31 RR hRR p_151 p_152 p_154 p_156 hm b_153 b_155 a w hs)
            obtain ⟨C_138, hC_138⟩ := qC hs.own.f2.drop.f1.drop
            refine qdr 13 κ C_138 hs fun w hs hqC_138 => ?_
            have hcl := qO hC_138 hs.own.f2.drop.f1.drop
            refine qdp (fuel := 10) [0, 3, 5, 8] hs hcl hqC_138 fun a hs => ?_
            refine qdl 1 0 (cp br15x0m_26) hs hcl hqC_138 hC_138 rfl fun a hs => ?_
            obtain ⟨h_139, hm⟩ := ite_t hm
            refine qdw 2 5 hs hcl hqC_138 hC_138 rfl h_139 fun a hs => ?_
            refine qdl 6 0 (cp br15x0x_27) hs hcl hqC_138 hC_138 rfl fun a hs => ?_
            obtain ⟨h_140, hm⟩ := ite_t hm
            refine qdw 7 6 hs hcl hqC_138 hC_138 rfl h_140 fun a hs => ?_
            refine Vk.dMany3 (i0 := 4) (i1 := 10) (i2 := 11) (by kernel_rfl) ?_ ?_ ?_
            ·exact by
              obtain ⟨v_143, h_142, hm⟩ := bind_t hm
              refine qco (slice_Add.ok _ _ _ _ _ h_142 _ _ _ br15x0m_26 A_x1 c_x1 hx_x1.less.less.less.less.less.less.less.less hs.own.f1) hs fun w a hs => ?_
              replace hcl := qO hC_138 hs.own.f2.drop.drop
              refine ⟨fun _ => hcl, ?_⟩
              refine Vk.dMany3 (i0 := 9) (i1 := 10) (i2 := 11) (by kernel_rfl) ?_ ?_ ?_
              ·exact by
                obtain ⟨v_146, h_145, hm⟩ := bind_t hm
                refine qco (visorref33_Add.ok _ _ _ _ _ _ h_145 _ _ _ br15x0x_27 A_x1 c_x1 hx_x1.less.less.less.less.less.less.less.less hs.own.f2) hs fun w a hs => ?_
                replace hcl := qO hC_138 hs.own.f1.drop.drop
                refine ⟨fun _ => hcl, ?_⟩
                refine Vk.dMany2 (i0 := 10) (i1 := 11) (by kernel_rfl) ?_ ?_
                ·exact by
                  refine Vk.alloc 25 37 [ci 0, ci 0, ci 0, ci 0, ci 0, ci 0, ci 0, ci 0, ci 0, ci 0, ci 0, ci 0, ci 0, ci 0, ci 0, ci 0, ci 0, ci 0, ci 0, ci 0, ci 0, ci 0, ci 0, ci 0] hs (by kernel_rfl) (by kernel_rfl) (by kernel_rfl) fun b_147 w a hs => ?_
                  replace hcl := qO hC_138 hs.own.f2.drop.f1.drop.drop
                  refine ⟨fun _ => hcl, ?_⟩
                  refine Vk.dOnly (i := 11) (by kernel_rfl) (Vk.alloc 26 37 [ci 0, ci 0, ci 0, ci 0, ci 0, ci 0, ci 0, ci 0, ci 0, ci 0, ci 0, ci 0, ci 0, ci 0, ci 0, ci 0, ci 0, ci 0, ci 0, ci 0, ci 0, ci 0, ci 0, ci 0] hs (by kernel_rfl) (by kernel_rfl) (by kernel_rfl) fun b_148 w a hs => ?_)
                  replace hcl : Ow κ w C_138 := by rw [hC_138]; exact (hs.own.too [4, 5, 6, 7, 8, 9, 10] 11)
                  refine ⟨fun _ => hcl, ?_⟩
                  obtain ⟨h_149, hm⟩ := ite_t hm
                  refine qsA 12 1 v_143.1 hs rfl h_149 rfl fun a w hs => ?_
                  replace hcl : Ow κ w C_138 := by rw [hC_138]; exact (hs.own.too [4, 5, 6, 7, 8, 9, 10] 11)
                  refine ⟨fun _ => hcl, ?_⟩
                  obtain ⟨h_150, hm⟩ := ite_t hm
                  refine qsA 13 0 v_146.1 hs rfl h_150 rfl fun a w hs => ?_
                  refine ⟨fun h => absurd h (by decide), ?_⟩
                  replace hs := hs.pick [1, 2, 4, 14, 16, 17, 21, 23, 24, 25, 26] (L' := [(1, .slice A_x1 x1.length c_x1), (2, .slice A_x2 x2.length c_x2), (4, vw p_42), (14, pp b_32), (16, vi (IntKind.i64.wrap (8 + (Int.tmod (IntKind.i64.wrap x3) 4)))), (17, pp b_57), (21, pp b_93), (23, pp b_133), (24, pp b_135), (25, pp b_147), (26, pp b_148)]) (by kernel_rfl)
                  refine Vk.dDone (by kernel_rfl) ?_
                  exact hj137 v_143.2 v_146.2 v_143.1 v_146.1 hm b_147 b_148 _ _ (hs.go [1, 2, 4, 14, 16, 17, 21, 23, 24, 25, 26] [4, 3, 2, 5, 6, 7, 8, 9, 10, 1, 0] 11 (by kernel_rfl) (by kernel_rfl) (by kernel_rfl))
                ·exact by
                  refine Vk.alloc 26 37 [ci 0, ci 0, ci 0, ci 0, ci 0, ci 0, ci 0, ci 0, ci 0, ci 0, ci 0, ci 0, ci 0, ci 0, ci 0, ci 0, ci 0, ci 0, ci 0, ci 0, ci 0, ci 0, ci 0, ci 0] hs (by kernel_rfl) (by kernel_rfl) (by kernel_rfl) fun b_147 w a hs => ?_
                  replace hcl := qO hC_138 hs.own.f2.drop.f1.drop.drop
                  refine ⟨fun _ => hcl, ?_⟩
                  refine Vk.dOnly (i := 10) (by kernel_rfl) (Vk.alloc 25 37 [ci 0, ci 0, ci 0, ci 0, ci 0, ci 0, ci 0, ci 0, ci 0, ci 0, ci 0, ci 0, ci 0, ci 0, ci 0, ci 0, ci 0, ci 0, ci 0, ci 0, ci 0, ci 0, ci 0, ci 0] hs (by kernel_rfl) (by kernel_rfl) (by kernel_rfl) fun b_148 w a hs => ?_)
                  replace hcl : Ow κ w C_138 := by rw [hC_138]; exact (hs.own.too [4, 5, 6, 7, 8, 9, 10] 11)
                  refine ⟨fun _ => hcl, ?_⟩
                  obtain ⟨h_149, hm⟩ := ite_t hm
                  refine qsA 12 0 v_143.1 hs rfl h_149 rfl fun a w hs => ?_
                  replace hcl : Ow κ w C_138 := by rw [hC_138]; exact (hs.own.too [4, 5, 6, 7, 8, 9, 10] 11)
                  refine ⟨fun _ => hcl, ?_⟩
                  obtain ⟨h_150, hm⟩ := ite_t hm
                  refine qsA 13 1 v_146.1 hs rfl h_150 rfl fun a w hs => ?_
                  refine ⟨fun h => absurd h (by decide), ?_⟩
                  replace hs := hs.pick [1, 2, 4, 14, 16, 17, 21, 23, 24, 25, 26] (L' := [(1, .slice A_x1 x1.length c_x1), (2, .slice A_x2 x2.length c_x2), (4, vw p_42), (14, pp b_32), (16, vi (IntKind.i64.wrap (8 + (Int.tmod (IntKind.i64.wrap x3) 4)))), (17, pp b_57), (21, pp b_93), (23, pp b_133), (24, pp b_135), (25, pp b_148), (26, pp b_147)]) (by kernel_rfl)
                  refine Vk.dDone (by kernel_rfl) ?_
                  exact hj137 v_143.2 v_146.2 v_143.1 v_146.1 hm b_148 b_147 _ _ (hs.go [1, 2, 4, 14, 16, 17, 21, 23, 24, 25, 26] [4, 3, 2, 5, 6, 7, 8, 9, 10, 0, 1] 11 (by kernel_rfl) (by kernel_rfl) (by kernel_rfl))
              ·exact by
                refine Vk.alloc 25 37 [ci 0, ci 0, ci 0, ci 0, ci 0, ci 0, ci 0, ci 0, ci 0, ci 0, ci 0, ci 0, ci 0, ci 0, ci 0, ci 0, ci 0, ci 0, ci 0, ci 0, ci 0, ci 0, ci 0, ci 0] hs (by kernel_rfl) (by kernel_rfl) (by kernel_rfl) fun b_144 w a hs => ?_
                replace hcl := qO hC_138 hs.own.f3.drop.f1.drop.drop
                refine ⟨fun _ => hcl, ?_⟩
                refine Vk.dMany2 (i0 := 9) (i1 := 11) (by kernel_rfl) ?_ ?_
                ·exact by
                  obtain ⟨v_147, h_146, hm⟩ := bind_t hm
                  refine qco (visorref33_Add.ok _ _ _ _ _ _ h_146 _ _ _ br15x0x_27 A_x1 c_x1 hx_x1.less.less.less.less.less.less.less.less.less hs.own.f3) hs fun w a hs => ?_
                  replace hcl := qO hC_138 hs.own.f2.drop.f1.drop.drop
                  refine ⟨fun _ => hcl, ?_⟩
                  refine Vk.dOnly (i := 11) (by kernel_rfl) (Vk.alloc 26 37 [ci 0, ci 0, ci 0, ci 0, ci 0, ci 0, ci 0, ci 0, ci 0, ci 0, ci 0, ci 0, ci 0, ci 0, ci 0, ci 0, ci 0, ci 0, ci 0, ci 0, ci 0, ci 0, ci 0, ci 0] hs (by kernel_rfl) (by kernel_rfl) (by kernel_rfl) fun b_148 w a hs => ?_)
                  replace hcl : Ow κ w C_138 := by rw [hC_138]; exact (hs.own.too [4, 5, 6, 7, 8, 9, 10] 11)
                  refine ⟨fun _ => hcl, ?_⟩
                  obtain ⟨h_149, hm⟩ := ite_t hm
                  refine qsA 12 2 v_143.1 hs rfl h_149 rfl fun a w hs => ?_
                  replace hcl : Ow κ w C_138 := by rw [hC_138]; exact (hs.own.too [4, 5, 6, 7, 8, 9, 10] 11)
                  refine ⟨fun _ => hcl, ?_⟩
                  obtain ⟨h_150, hm⟩ := ite_t hm
                  refine qsA 13 0 v_147.1 hs rfl h_150 rfl fun a w hs => ?_
                  refine ⟨fun h => absurd h (by decide), ?_⟩
                  replace hs := hs.pick [1, 2, 4, 14, 16, 17, 21, 23, 24, 25, 26] (L' := [(1, .slice A_x1 x1.length c_x1), (2, .slice A_x2 x2.length c_x2), (4, vw p_42), (14, pp b_32), (16, vi (IntKind.i64.wrap (8 + (Int.tmod (IntKind.i64.wrap x3) 4)))), (17, pp b_57), (21, pp b_93), (23, pp b_133), (24, pp b_135), (25, pp b_144), (26, pp b_148)]) (by kernel_rfl)
                  refine Vk.dDone (by kernel_rfl) ?_
                  exact hj137 v_143.2 v_147.2 v_143.1 v_147.1 hm b_144 b_148 _ _ (hs.go [1, 2, 4, 14, 16, 17, 21, 23, 24, 25, 26] [4, 3, 1, 5, 6, 7, 8, 9, 10, 2, 0] 11 (by kernel_rfl) (by kernel_rfl) (by kernel_rfl))
                ·exact by
                  refine Vk.alloc 26 37 [ci 0, ci 0, ci 0, ci 0, ci 0, ci 0, ci 0, ci 0, ci 0, ci 0, ci 0, ci 0, ci 0, ci 0, ci 0, ci 0, ci 0, ci 0, ci 0, ci 0, ci 0, ci 0, ci 0, ci 0] hs (by kernel_rfl) (by kernel_rfl) (by kernel_rfl) fun b_145 w a hs => ?_
                  replace hcl : Ow κ w C_138 := by rw [hC_138]; exact (hs.own.too [3, 5, 6, 7, 8, 9, 10] 11)
                  refine ⟨fun _ => hcl, ?_⟩
                  obtain ⟨v_148, h_147, hm⟩ := bind_t hm
                  refine qdc 9 (visorref33_Add.ok _ _ _ _ _ _ h_147 _ _ _ br15x0x_27 A_x1 c_x1 hx_x1.less.less.less.less.less.less.less.less.less.less hs.own.f4) hs fun w a hs => ?_
                  replace hcl : Ow κ w C_138 := by rw [hC_138]; exact (hs.own.too [4, 5, 6, 7, 8, 9, 10] 11)
                  refine ⟨fun _ => hcl, ?_⟩
                  obtain ⟨h_149, hm⟩ := ite_t hm
                  refine qsA 12 2 v_143.1 hs rfl h_149 rfl fun a w hs => ?_
                  replace hcl : Ow κ w C_138 := by rw [hC_138]; exact (hs.own.too [4, 5, 6, 7, 8, 9, 10] 11)
                  refine ⟨fun _ => hcl, ?_⟩
                  obtain ⟨h_150, hm⟩ := ite_t hm
                  refine qsA 13 1 v_148.1 hs rfl h_150 rfl fun a w hs => ?_
                  refine ⟨fun h => absurd h (by decide), ?_⟩
                  replace hs := hs.pick [1, 2, 4, 14, 16, 17, 21, 23, 24, 25, 26] (L' := [(1, .slice A_x1 x1.length c_x1), (2, .slice A_x2 x2.length c_x2), (4, vw p_42), (14, pp b_32), (16, vi (IntKind.i64.wrap (8 + (Int.tmod (IntKind.i64.wrap x3) 4)))), (17, pp b_57), (21, pp b_93), (23, pp b_133), (24, pp b_135), (25, pp b_144), (26, pp b_145)]) (by kernel_rfl)
                  refine Vk.dDone (by kernel_rfl) ?_
                  exact hj137 v_143.2 v_148.2 v_143.1 v_148.1 hm b_144 b_145 _ _ (hs.go [1, 2, 4, 14, 16, 17, 21, 23, 24, 25, 26] [4, 3, 0, 5, 6, 7, 8, 9, 10, 2, 1] 11 (by kernel_rfl) (by kernel_rfl) (by kernel_rfl))
              ·exact by
                refine Vk.alloc 26 37 [ci 0, ci 0, ci 0, ci 0, ci 0, ci 0, ci 0, ci 0, ci 0, ci 0, ci 0, ci 0, ci 0, ci 0, ci 0, ci 0, ci 0, ci 0, ci 0, ci 0, ci 0, ci 0, ci 0, ci 0] hs (by kernel_rfl) (by kernel_rfl) (by kernel_rfl) fun b_144 w a hs => ?_
                replace hcl := qO hC_138 hs.own.f3.drop.f1.drop.drop
                refine ⟨fun _ => hcl, ?_⟩
                refine Vk.dMany2 (i0 := 9) (i1 := 10) (by kernel_rfl) ?_ ?_
                ·exact by
                  obtain ⟨v_147, h_146, hm⟩ := bind_t hm
                  refine qco (visorref33_Add.ok _ _ _ _ _ _ h_146 _ _ _ br15x0x_27 A_x1 c_x1 hx_x1.less.less.less.less.less.less.less.less.less hs.own.f3) hs fun w a hs => ?_
                  replace hcl := qO hC_138 hs.own.f2.drop.f1.drop.drop
                  refine ⟨fun _ => hcl, ?_⟩
                  refine Vk.dOnly (i := 10) (by kernel_rfl) (Vk.alloc 25 37 [ci 0, ci 0, ci 0, ci 0, ci 0, ci 0, ci 0, ci 0, ci 0, ci 0, ci 0, ci 0, ci 0, ci 0, ci 0, ci 0, ci 0, ci 0, ci 0, ci 0, ci 0, ci 0, ci 0, ci 0] hs (by kernel_rfl) (by kernel_rfl) (by kernel_rfl) fun b_148 w a hs => ?_)
                  replace hcl : Ow κ w C_138 := by rw [hC_138]; exact (hs.own.too [4, 5, 6, 7, 8, 9, 10] 11)
                  refine ⟨fun _ => hcl, ?_⟩
                  obtain ⟨h_149, hm⟩ := ite_t hm
                  refine qsA 12 0 v_143.1 hs rfl h_149 rfl fun a w hs => ?_
                  replace hcl : Ow κ w C_138 := by rw [hC_138]; exact (hs.own.too [4, 5, 6, 7, 8, 9, 10] 11)
                  refine ⟨fun _ => hcl, ?_⟩
                  obtain ⟨h_150, hm⟩ := ite_t hm
                  refine qsA 13 2 v_147.1 hs rfl h_150 rfl fun a w hs => ?_
                  refine ⟨fun h => absurd h (by decide), ?_⟩
                  replace hs := hs.pick [1, 2, 4, 14, 16, 17, 21, 23, 24, 25, 26] (L' := [(1, .slice A_x1 x1.length c_x1), (2, .slice A_x2 x2.length c_x2), (4, vw p_42), (14, pp b_32), (16, vi (IntKind.i64.wrap (8 + (Int.tmod (IntKind.i64.wrap x3) 4)))), (17, pp b_57), (21, pp b_93), (23, pp b_133), (24, pp b_135), (25, pp b_148), (26, pp b_144)]) (by kernel_rfl)
                  refine Vk.dDone (by kernel_rfl) ?_
                  exact hj137 v_143.2 v_147.2 v_143.1 v_147.1 hm b_148 b_144 _ _ (hs.go [1, 2, 4, 14, 16, 17, 21, 23, 24, 25, 26] [4, 3, 1, 5, 6, 7, 8, 9, 10, 0, 2] 11 (by kernel_rfl) (by kernel_rfl) (by kernel_rfl))
                ·exact by
                  refine Vk.alloc 25 37 [ci 0, ci 0, ci 0, ci 0, ci 0, ci 0, ci 0, ci 0, ci 0, ci 0, ci 0, ci 0, ci 0, ci 0, ci 0, ci 0, ci 0, ci 0, ci 0, ci 0, ci 0, ci 0, ci 0, ci 0] hs (by kernel_rfl) (by kernel_rfl) (by kernel_rfl) fun b_145 w a hs => ?_
                  replace hcl : Ow κ w C_138 := by rw [hC_138]; exact (hs.own.too [3, 5, 6, 7, 8, 9, 10] 11)
                  refine ⟨fun _ => hcl, ?_⟩
                  obtain ⟨v_148, h_147, hm⟩ := bind_t hm
                  refine qdc 9 (visorref33_Add.ok _ _ _ _ _ _ h_147 _ _ _ br15x0x_27 A_x1 c_x1 hx_x1.less.less.less.less.less.less.less.less.less.less hs.own.f4) hs fun w a hs => ?_
                  replace hcl : Ow κ w C_138 := by rw [hC_138]; exact (hs.own.too [4, 5, 6, 7, 8, 9, 10] 11)
                  refine ⟨fun _ => hcl, ?_⟩
                  obtain ⟨h_149, hm⟩ := ite_t hm
                  refine qsA 12 1 v_143.1 hs rfl h_149 rfl fun a w hs => ?_
                  replace hcl : Ow κ w C_138 := by rw [hC_138]; exact (hs.own.too [4, 5, 6, 7, 8, 9, 10] 11)
                  refine ⟨fun _ => hcl, ?_⟩
                  obtain ⟨h_150, hm⟩ := ite_t hm
                  refine qsA 13 2 v_148.1 hs rfl h_150 rfl fun a w hs => ?_
                  refine ⟨fun h => absurd h (by decide), ?_⟩
                  replace hs := hs.pick [1, 2, 4, 14, 16, 17, 21, 23, 24, 25, 26] (L' := [(1, .slice A_x1 x1.length c_x1), (2, .slice A_x2 x2.length c_x2), (4, vw p_42), (14, pp b_32), (16, vi (IntKind.i64.wrap (8 + (Int.tmod (IntKind.i64.wrap x3) 4)))), (17, pp b_57), (21, pp b_93), (23, pp b_133), (24, pp b_135), (25, pp b_145), (26, pp b_144)]) (by kernel_rfl)
                  refine Vk.dDone (by kernel_rfl) ?_
                  exact hj137 v_143.2 v_148.2 v_143.1 v_148.1 hm b_145 b_144 _ _ (hs.go [1, 2, 4, 14, 16, 17, 21, 23, 24, 25, 26] [4, 3, 0, 5, 6, 7, 8, 9, 10, 1, 2] 11 (by kernel_rfl) (by kernel_rfl) (by kernel_rfl))
            ·exact by
              refine Vk.alloc 25 37 [ci 0, ci 0, ci 0, ci 0, ci 0, ci 0, ci 0, ci 0, ci 0, ci 0, ci 0, ci 0, ci 0, ci 0, ci 0, ci 0, ci 0, ci 0, ci 0, ci 0, ci 0, ci 0, ci 0, ci 0] hs (by kernel_rfl) (by kernel_rfl) (by kernel_rfl) fun b_141 w a hs => ?_
              replace hcl := qO hC_138 hs.own.f3.drop.f2.drop.drop
              refine ⟨fun _ => hcl, ?_⟩
              refine Vk.dMany2 (i0 := 4) (i1 := 11) (by kernel_rfl) ?_ ?_
              ·exact by
                obtain ⟨v_144, h_143, hm⟩ := bind_t hm
                refine qco (slice_Add.ok _ _ _ _ _ h_143 _ _ _ br15x0m_26 A_x1 c_x1 hx_x1.less.less.less.less.less.less.less.less.less hs.own.f2) hs fun w a hs => ?_
                replace hcl := qO hC_138 hs.own.f3.drop.f1.drop.drop
                refine ⟨fun _ => hcl, ?_⟩
                refine Vk.dMany2 (i0 := 9) (i1 := 11) (by kernel_rfl) ?_ ?_
                ·exact by
                  obtain ⟨v_147, h_146, hm⟩ := bind_t hm
                  refine qco (visorref33_Add.ok _ _ _ _ _ _ h_146 _ _ _ br15x0x_27 A_x1 c_x1 hx_x1.less.less.less.less.less.less.less.less.less hs.own.f3) hs fun w a hs => ?_
                  replace hcl := qO hC_138 hs.own.f2.drop.f1.drop.drop
                  refine ⟨fun _ => hcl, ?_⟩
                  refine Vk.dOnly (i := 11) (by kernel_rfl) (Vk.alloc 26 37 [ci 0, ci 0, ci 0, ci 0, ci 0, ci 0, ci 0, ci 0, ci 0, ci 0, ci 0, ci 0, ci 0, ci 0, ci 0, ci 0, ci 0, ci 0, ci 0, ci 0, ci 0, ci 0, ci 0, ci 0] hs (by kernel_rfl) (by kernel_rfl) (by kernel_rfl) fun b_148 w a hs => ?_)
                  replace hcl : Ow κ w C_138 := by rw [hC_138]; exact (hs.own.too [4, 5, 6, 7, 8, 9, 10] 11)
                  refine ⟨fun _ => hcl, ?_⟩
                  obtain ⟨h_149, hm⟩ := ite_t hm
                  refine qsA 12 3 v_144.1 hs rfl h_149 rfl fun a w hs => ?_
                  replace hcl : Ow κ w C_138 := by rw [hC_138]; exact (hs.own.too [4, 5, 6, 7, 8, 9, 10] 11)
                  refine ⟨fun _ => hcl, ?_⟩
                  obtain ⟨h_150, hm⟩ := ite_t hm
                  refine qsA 13 0 v_147.1 hs rfl h_150 rfl fun a w hs => ?_
                  refine ⟨fun h => absurd h (by decide), ?_⟩
                  replace hs := hs.pick [1, 2, 4, 14, 16, 17, 21, 23, 24, 25, 26] (L' := [(1, .slice A_x1 x1.length c_x1), (2, .slice A_x2 x2.length c_x2), (4, vw p_42), (14, pp b_32), (16, vi (IntKind.i64.wrap (8 + (Int.tmod (IntKind.i64.wrap x3) 4)))), (17, pp b_57), (21, pp b_93), (23, pp b_133), (24, pp b_135), (25, pp b_141), (26, pp b_148)]) (by kernel_rfl)
                  refine Vk.dDone (by kernel_rfl) ?_
                  exact hj137 v_144.2 v_147.2 v_144.1 v_147.1 hm b_141 b_148 _ _ (hs.go [1, 2, 4, 14, 16, 17, 21, 23, 24, 25, 26] [4, 2, 1, 5, 6, 7, 8, 9, 10, 3, 0] 11 (by kernel_rfl) (by kernel_rfl) (by kernel_rfl))
                ·exact by
                  refine Vk.alloc 26 37 [ci 0, ci 0, ci 0, ci 0, ci 0, ci 0, ci 0, ci 0, ci 0, ci 0, ci 0, ci 0, ci 0, ci 0, ci 0, ci 0, ci 0, ci 0, ci 0, ci 0, ci 0, ci 0, ci 0, ci 0] hs (by kernel_rfl) (by kernel_rfl) (by kernel_rfl) fun b_145 w a hs => ?_
                  replace hcl : Ow κ w C_138 := by rw [hC_138]; exact (hs.own.too [3, 5, 6, 7, 8, 9, 10] 11)
                  refine ⟨fun _ => hcl, ?_⟩
                  obtain ⟨v_148, h_147, hm⟩ := bind_t hm
                  refine qdc 9 (visorref33_Add.ok _ _ _ _ _ _ h_147 _ _ _ br15x0x_27 A_x1 c_x1 hx_x1.less.less.less.less.less.less.less.less.less.less hs.own.f4) hs fun w a hs => ?_
                  replace hcl : Ow κ w C_138 := by rw [hC_138]; exact (hs.own.too [4, 5, 6, 7, 8, 9, 10] 11)
                  refine ⟨fun _ => hcl, ?_⟩
                  obtain ⟨h_149, hm⟩ := ite_t hm
                  refine qsA 12 3 v_144.1 hs rfl h_149 rfl fun a w hs => ?_
                  replace hcl : Ow κ w C_138 := by rw [hC_138]; exact (hs.own.too [4, 5, 6, 7, 8, 9, 10] 11)
                  refine ⟨fun _ => hcl, ?_⟩
                  obtain ⟨h_150, hm⟩ := ite_t hm
                  refine qsA 13 1 v_148.1 hs rfl h_150 rfl fun a w hs => ?_
                  refine ⟨fun h => absurd h (by decide), ?_⟩
                  replace hs := hs.pick [1, 2, 4, 14, 16, 17, 21, 23, 24, 25, 26] (L' := [(1, .slice A_x1 x1.length c_x1), (2, .slice A_x2 x2.length c_x2), (4, vw p_42), (14, pp b_32), (16, vi (IntKind.i64.wrap (8 + (Int.tmod (IntKind.i64.wrap x3) 4)))), (17, pp b_57), (21, pp b_93), (23, pp b_133), (24, pp b_135), (25, pp b_141), (26, pp b_145)]) (by kernel_rfl)
                  refine Vk.dDone (by kernel_rfl) ?_
                  exact hj137 v_144.2 v_148.2 v_144.1 v_148.1 hm b_141 b_145 _ _ (hs.go [1, 2, 4, 14, 16, 17, 21, 23, 24, 25, 26] [4, 2, 0, 5, 6, 7, 8, 9, 10, 3, 1] 11 (by kernel_rfl) (by kernel_rfl) (by kernel_rfl))
              ·exact by
                refine Vk.alloc 26 37 [ci 0, ci 0, ci 0, ci 0, ci 0, ci 0, ci 0, ci 0, ci 0, ci 0, ci 0, ci 0, ci 0, ci 0, ci 0, ci 0, ci 0, ci 0, ci 0, ci 0, ci 0, ci 0, ci 0, ci 0] hs (by kernel_rfl) (by kernel_rfl) (by kernel_rfl) fun b_142 w a hs => ?_
                replace hcl : Ow κ w C_138 := by rw [hC_138]; exact (hs.own.too [2, 5, 6, 7, 8, 9, 10] 11)
                refine ⟨fun _ => hcl, ?_⟩
                obtain ⟨v_145, h_144, hm⟩ := bind_t hm
                refine qdc 4 (slice_Add.ok _ _ _ _ _ h_144 _ _ _ br15x0m_26 A_x1 c_x1 hx_x1.less.less.less.less.less.less.less.less.less.less hs.own.f3) hs fun w a hs => ?_
                replace hcl : Ow κ w C_138 := by rw [hC_138]; exact (hs.own.too [3, 5, 6, 7, 8, 9, 10] 11)
                refine ⟨fun _ => hcl, ?_⟩
                obtain ⟨v_148, h_147, hm⟩ := bind_t hm
                refine qdc 9 (visorref33_Add.ok _ _ _ _ _ _ h_147 _ _ _ br15x0x_27 A_x1 c_x1 hx_x1.less.less.less.less.less.less.less.less.less.less hs.own.f4) hs fun w a hs => ?_
                replace hcl : Ow κ w C_138 := by rw [hC_138]; exact (hs.own.too [4, 5, 6, 7, 8, 9, 10] 11)
                refine ⟨fun _ => hcl, ?_⟩
                obtain ⟨h_149, hm⟩ := ite_t hm
                refine qsA 12 3 v_145.1 hs rfl h_149 rfl fun a w hs => ?_
                replace hcl : Ow κ w C_138 := by rw [hC_138]; exact (hs.own.too [4, 5, 6, 7, 8, 9, 10] 11)
                refine ⟨fun _ => hcl, ?_⟩
                obtain ⟨h_150, hm⟩ := ite_t hm
                refine qsA 13 2 v_148.1 hs rfl h_150 rfl fun a w hs => ?_
                refine ⟨fun h => absurd h (by decide), ?_⟩
                replace hs := hs.pick [1, 2, 4, 14, 16, 17, 21, 23, 24, 25, 26] (L' := [(1, .slice A_x1 x1.length c_x1), (2, .slice A_x2 x2.length c_x2), (4, vw p_42), (14, pp b_32), (16, vi (IntKind.i64.wrap (8 + (Int.tmod (IntKind.i64.wrap x3) 4)))), (17, pp b_57), (21, pp b_93), (23, pp b_133), (24, pp b_135), (25, pp b_141), (26, pp b_142)]) (by kernel_rfl)
                refine Vk.dDone (by kernel_rfl) ?_
                exact hj137 v_145.2 v_148.2 v_145.1 v_148.1 hm b_141 b_142 _ _ (hs.go [1, 2, 4, 14, 16, 17, 21, 23, 24, 25, 26] [4, 1, 0, 5, 6, 7, 8, 9, 10, 3, 2] 11 (by kernel_rfl) (by kernel_rfl) (by kernel_rfl))
            ·exact by
              refine Vk.alloc 26 37 [ci 0, ci 0, ci 0, ci 0, ci 0, ci 0, ci 0, ci 0, ci 0, ci 0, ci 0, ci 0, ci 0, ci 0, ci 0, ci 0, ci 0, ci 0, ci 0, ci 0, ci 0, ci 0, ci 0, ci 0] hs (by kernel_rfl) (by kernel_rfl) (by kernel_rfl) fun b_141 w a hs => ?_
              replace hcl := qO hC_138 hs.own.f3.drop.f2.drop.drop
              refine ⟨fun _ => hcl, ?_⟩
              refine Vk.dMany2 (i0 := 4) (i1 := 10) (by kernel_rfl) ?_ ?_
              ·exact by
                obtain ⟨v_144, h_143, hm⟩ := bind_t hm
                refine qco (slice_Add.ok _ _ _ _ _ h_143 _ _ _ br15x0m_26 A_x1 c_x1 hx_x1.less.less.less.less.less.less.less.less.less hs.own.f2) hs fun w a hs => ?_
                replace hcl := qO hC_138 hs.own.f3.drop.f1.drop.drop
                refine ⟨fun _ => hcl, ?_⟩
                refine Vk.dMany2 (i0 := 9) (i1 := 10) (by kernel_rfl) ?_ ?_
                ·exact by
                  obtain ⟨v_147, h_146, hm⟩ := bind_t hm
                  refine qco (visorref33_Add.ok _ _ _ _ _ _ h_146 _ _ _ br15x0x_27 A_x1 c_x1 hx_x1.less.less.less.less.less.less.less.less.less hs.own.f3) hs fun w a hs => ?_
                  replace hcl := qO hC_138 hs.own.f2.drop.f1.drop.drop
                  refine ⟨fun _ => hcl, ?_⟩
                  refine Vk.dOnly (i := 10) (by kernel_rfl) (Vk.alloc 25 37 [ci 0, ci 0, ci 0, ci 0, ci 0, ci 0, ci 0, ci 0, ci 0, ci 0, ci 0, ci 0, ci 0, ci 0, ci 0, ci 0, ci 0, ci 0, ci 0, ci 0, ci 0, ci 0, ci 0, ci 0] hs (by kernel_rfl) (by kernel_rfl) (by kernel_rfl) fun b_148 w a hs => ?_)
                  replace hcl : Ow κ w C_138 := by rw [hC_138]; exact (hs.own.too [4, 5, 6, 7, 8, 9, 10] 11)
                  refine ⟨fun _ => hcl, ?_⟩
                  obtain ⟨h_149, hm⟩ := ite_t hm
                  refine qsA 12 0 v_144.1 hs rfl h_149 rfl fun a w hs => ?_
                  replace hcl : Ow κ w C_138 := by rw [hC_138]; exact (hs.own.too [4, 5, 6, 7, 8, 9, 10] 11)
                  refine ⟨fun _ => hcl, ?_⟩
                  obtain ⟨h_150, hm⟩ := ite_t hm
                  refine qsA 13 3 v_147.1 hs rfl h_150 rfl fun a w hs => ?_
                  refine ⟨fun h => absurd h (by decide), ?_⟩
                  replace hs := hs.pick [1, 2, 4, 14, 16, 17, 21, 23, 24, 25, 26] (L' := [(1, .slice A_x1 x1.length c_x1), (2, .slice A_x2 x2.length c_x2), (4, vw p_42), (14, pp b_32), (16, vi (IntKind.i64.wrap (8 + (Int.tmod (IntKind.i64.wrap x3) 4)))), (17, pp b_57), (21, pp b_93), (23, pp b_133), (24, pp b_135), (25, pp b_148), (26, pp b_141)]) (by kernel_rfl)
                  refine Vk.dDone (by kernel_rfl) ?_
                  exact hj137 v_144.2 v_147.2 v_144.1 v_147.1 hm b_148 b_141 _ _ (hs.go [1, 2, 4, 14, 16, 17, 21, 23, 24, 25, 26] [4, 2, 1, 5, 6, 7, 8, 9, 10, 0, 3] 11 (by kernel_rfl) (by kernel_rfl) (by kernel_rfl))
                ·exact by
                  refine Vk.alloc 25 37 [ci 0, ci 0, ci 0, ci 0, ci 0, ci 0, ci 0, ci 0, ci 0, ci 0, ci 0, ci 0, ci 0, ci 0, ci 0, ci 0, ci 0, ci 0, ci 0, ci 0, ci 0, ci 0, ci 0, ci 0] hs (by kernel_rfl) (by kernel_rfl) (by kernel_rfl) fun b_145 w a hs => ?_
                  replace hcl : Ow κ w C_138 := by rw [hC_138]; exact (hs.own.too [3, 5, 6, 7, 8, 9, 10] 11)
                  refine ⟨fun _ => hcl, ?_⟩
                  obtain ⟨v_148, h_147, hm⟩ := bind_t hm
                  refine qdc 9 (visorref33_Add.ok _ _ _ _ _ _ h_147 _ _ _ br15x0x_27 A_x1 c_x1 hx_x1.less.less.less.less.less.less.less.less.less.less hs.own.f4) hs fun w a hs => ?_
                  replace hcl : Ow κ w C_138 := by rw [hC_138]; exact (hs.own.too [4, 5, 6, 7, 8, 9, 10] 11)
                  refine ⟨fun _ => hcl, ?_⟩
                  obtain ⟨h_149, hm⟩ := ite_t hm
                  refine qsA 12 1 v_144.1 hs rfl h_149 rfl fun a w hs => ?_
                  replace hcl : Ow κ w C_138 := by rw [hC_138]; exact (hs.own.too [4, 5, 6, 7, 8, 9, 10] 11)
                  refine ⟨fun _ => hcl, ?_⟩
                  obtain ⟨h_150, hm⟩ := ite_t hm
                  refine qsA 13 3 v_148.1 hs rfl h_150 rfl fun a w hs => ?_
                  refine ⟨fun h => absurd h (by decide), ?_⟩
                  replace hs := hs.pick [1, 2, 4, 14, 16, 17, 21, 23, 24, 25, 26] (L' := [(1, .slice A_x1 x1.length c_x1), (2, .slice A_x2 x2.length c_x2), (4, vw p_42), (14, pp b_32), (16, vi (IntKind.i64.wrap (8 + (Int.tmod (IntKind.i64.wrap x3) 4)))), (17, pp b_57), (21, pp b_93), (23, pp b_133), (24, pp b_135), (25, pp b_145), (26, pp b_141)]) (by kernel_rfl)
                  refine Vk.dDone (by kernel_rfl) ?_
                  exact hj137 v_144.2 v_148.2 v_144.1 v_148.1 hm b_145 b_141 _ _ (hs.go [1, 2, 4, 14, 16, 17, 21, 23, 24, 25, 26] [4, 2, 0, 5, 6, 7, 8, 9, 10, 1, 3] 11 (by kernel_rfl) (by kernel_rfl) (by kernel_rfl))
              ·exact by
                refine Vk.alloc 25 37 [ci 0, ci 0, ci 0, ci 0, ci 0, ci 0, ci 0, ci 0, ci 0, ci 0, ci 0, ci 0, ci 0, ci 0, ci 0, ci 0, ci 0, ci 0, ci 0, ci 0, ci 0, ci 0, ci 0, ci 0] hs (by kernel_rfl) (by kernel_rfl) (by kernel_rfl) fun b_142 w a hs => ?_
                replace hcl : Ow κ w C_138 := by rw [hC_138]; exact (hs.own.too [2, 5, 6, 7, 8, 9, 10] 11)
                refine ⟨fun _ => hcl, ?_⟩
                obtain ⟨v_145, h_144, hm⟩ := bind_t hm
                refine qdc 4 (slice_Add.ok _ _ _ _ _ h_144 _ _ _ br15x0m_26 A_x1 c_x1 hx_x1.less.less.less.less.less.less.less.less.less.less hs.own.f3) hs fun w a hs => ?_
                replace hcl : Ow κ w C_138 := by rw [hC_138]; exact (hs.own.too [3, 5, 6, 7, 8, 9, 10] 11)
                refine ⟨fun _ => hcl, ?_⟩
                obtain ⟨v_148, h_147, hm⟩ := bind_t hm
                refine qdc 9 (visorref33_Add.ok _ _ _ _ _ _ h_147 _ _ _ br15x0x_27 A_x1 c_x1 hx_x1.less.less.less.less.less.less.less.less.less.less hs.own.f4) hs fun w a hs => ?_
                replace hcl : Ow κ w C_138 := by rw [hC_138]; exact (hs.own.too [4, 5, 6, 7, 8, 9, 10] 11)
                refine ⟨fun _ => hcl, ?_⟩
                obtain ⟨h_149, hm⟩ := ite_t hm
                refine qsA 12 2 v_145.1 hs rfl h_149 rfl fun a w hs => ?_
                replace hcl : Ow κ w C_138 := by rw [hC_138]; exact (hs.own.too [4, 5, 6, 7, 8, 9, 10] 11)
                refine ⟨fun _ => hcl, ?_⟩
                obtain ⟨h_150, hm⟩ := ite_t hm
                refine qsA 13 3 v_148.1 hs rfl h_150 rfl fun a w hs => ?_
                refine ⟨fun h => absurd h (by decide), ?_⟩
                replace hs := hs.pick [1, 2, 4, 14, 16, 17, 21, 23, 24, 25, 26] (L' := [(1, .slice A_x1 x1.length c_x1), (2, .slice A_x2 x2.length c_x2), (4, vw p_42), (14, pp b_32), (16, vi (IntKind.i64.wrap (8 + (Int.tmod (IntKind.i64.wrap x3) 4)))), (17, pp b_57), (21, pp b_93), (23, pp b_133), (24, pp b_135), (25, pp b_142), (26, pp b_141)]) (by kernel_rfl)
                refine Vk.dDone (by kernel_rfl) ?_
                exact hj137 v_145.2 v_148.2 v_145.1 v_148.1 hm b_142 b_141 _ _ (hs.go [1, 2, 4, 14, 16, 17, 21, 23, 24, 25, 26] [4, 1, 0, 5, 6, 7, 8, 9, 10, 2, 3] 11 (by kernel_rfl) (by kernel_rfl) (by kernel_rfl))
           obtain ⟨C_116, hC_116⟩ := qC hs.own.f2.drop.f1.drop
           refine qdr 13 κ C_116 hs fun w hs hqC_116 => ?_
           have hcl := qO hC_116 hs.own.f2.drop.f1.drop
           refine qdp (fuel := 12) [0, 5] hs hcl hqC_116 fun a hs => ?_
           refine qdl 1 0 (cp br15x0m_26) hs hcl hqC_116 hC_116 rfl fun a hs => ?_
           obtain ⟨h_117, hm⟩ := ite_t hm
           refine qdw 2 3 hs hcl hqC_116 hC_116 rfl h_117 fun a hs => ?_
           obtain ⟨h_118, hm⟩ := ite_t hm
           refine qdw 3 5 hs hcl hqC_116 hC_116 rfl h_118 fun a hs => ?_
           refine qdl 6 0 (cp br15x0x_27) hs hcl hqC_116 hC_116 rfl fun a hs => ?_
           obtain ⟨h_119, hm⟩ := ite_t hm
           refine qdw 7 4 hs hcl hqC_116 hC_116 rfl h_119 fun a hs => ?_
           obtain ⟨h_120, hm⟩ := ite_t hm
           refine qdw 8 6 hs hcl hqC_116 hC_116 rfl h_120 fun a hs => ?_
           refine Vk.dMany3 (i0 := 4) (i1 := 10) (i2 := 11) (by kernel_rfl) ?_ ?_ ?_
           ·exact by
             obtain ⟨v_123, h_122, hm⟩ := bind_t hm
             refine qco (slice_Xor.ok _ _ _ _ _ h_122 _ _ _ br15x0m_26 hs.own.f1) hs fun w a hs => ?_
             replace hcl := qO hC_116 hs.own.f2.drop.drop
             refine ⟨fun _ => hcl, ?_⟩
             refine Vk.dMany3 (i0 := 9) (i1 := 10) (i2 := 11) (by kernel_rfl) ?_ ?_ ?_
             ·exact by
               obtain ⟨v_126, h_125, hm⟩ := bind_t hm
               refine qco (visorref33_Xor.ok _ _ _ _ _ h_125 _ _ _ br15x0x_27 hs.own.f2) hs fun w a hs => ?_
               replace hcl := qO hC_116 hs.own.f1.drop.drop
               refine ⟨fun _ => hcl, ?_⟩
               refine Vk.dMany2 (i0 := 10) (i1 := 11) (by kernel_rfl) ?_ ?_
               ·exact by
                 refine Vk.alloc 23 37 [ci 0, ci 0, ci 0, ci 0, ci 0, ci 0, ci 0, ci 0, ci 0, ci 0, ci 0, ci 0, ci 0, ci 0, ci 0, ci 0, ci 0, ci 0, ci 0, ci 0, ci 0, ci 0, ci 0, ci 0] hs (by kernel_rfl) (by kernel_rfl) (by kernel_rfl) fun b_127 w a hs => ?_
                 replace hcl := qO hC_116 hs.own.f2.drop.f1.drop.drop
                 refine ⟨fun _ => hcl, ?_⟩
                 refine Vk.dOnly (i := 11) (by kernel_rfl) (Vk.alloc 24 37 [ci 0, ci 0, ci 0, ci 0, ci 0, ci 0, ci 0, ci 0, ci 0, ci 0, ci 0, ci 0, ci 0, ci 0, ci 0, ci 0, ci 0, ci 0, ci 0, ci 0, ci 0, ci 0, ci 0, ci 0] hs (by kernel_rfl) (by kernel_rfl) (by kernel_rfl) fun b_128 w a hs => ?_)
                 replace hcl : Ow κ w C_116 := by rw [hC_116]; exact (hs.own.too [4, 5, 6, 7, 8, 9, 10] 11)
                 refine ⟨fun _ => hcl, ?_⟩
                 obtain ⟨h_129, hm⟩ := ite_t hm
                 refine qsA 12 1 v_123.1 hs rfl h_129 rfl fun a w hs => ?_
                 replace hcl : Ow κ w C_116 := by rw [hC_116]; exact (hs.own.too [4, 5, 6, 7, 8, 9, 10] 11)
                 refine ⟨fun _ => hcl, ?_⟩
                 obtain ⟨h_130, hm⟩ := ite_t hm
                 refine qsA 13 0 v_126.1 hs rfl h_130 rfl fun a w hs => ?_
                 refine ⟨fun h => absurd h (by decide), ?_⟩
                 replace hs := hs.pick [1, 2, 4, 14, 16, 17, 21, 23, 24] (L' := [(1, .slice A_x1 x1.length c_x1), (2, .slice A_x2 x2.length c_x2), (4, vw p_42), (14, pp b_32), (16, vi (IntKind.i64.wrap (8 + (Int.tmod (IntKind.i64.wrap x3) 4)))), (17, pp b_57), (21, pp b_93), (23, pp b_127), (24, pp b_128)]) (by kernel_rfl)
                 refine Vk.dDone (by kernel_rfl) ?_
                 exact hj115 v_123.2 v_126.2 v_123.1 v_126.1 hm b_127 b_128 _ _ (hs.go [1, 2, 4, 14, 16, 17, 21, 23, 24] [4, 3, 2, 5, 6, 7, 9, 1, 0] 11 (by kernel_rfl) (by kernel_rfl) (by kernel_rfl))
               ·exact by
                 refine Vk.alloc 24 37 [ci 0, ci 0, ci 0, ci 0, ci 0, ci 0, ci 0, ci 0, ci 0, ci 0, ci 0, ci 0, ci 0, ci 0, ci 0, ci 0, ci 0, ci 0, ci 0, ci 0, ci 0, ci 0, ci 0, ci 0] hs (by kernel_rfl) (by kernel_rfl) (by kernel_rfl) fun b_127 w a hs => ?_
                 replace hcl := qO hC_116 hs.own.f2.drop.f1.drop.drop
                 refine ⟨fun _ => hcl, ?_⟩
                 refine Vk.dOnly (i := 10) (by kernel_rfl) (Vk.alloc 23 37 [ci 0, ci 0, ci 0, ci 0, ci 0, ci 0, ci 0, ci 0, ci 0, ci 0, ci 0, ci 0, ci 0, ci 0, ci 0, ci 0, ci 0, ci 0, ci 0, ci 0, ci 0, ci 0, ci 0, ci 0] hs (by kernel_rfl) (by kernel_rfl) (by kernel_rfl) fun b_128 w a hs => ?_)
                 replace hcl : Ow κ w C_116 := by rw [hC_116]; exact (hs.own.too [4, 5, 6, 7, 8, 9, 10] 11)
                 refine ⟨fun _ => hcl, ?_⟩
                 obtain ⟨h_129, hm⟩ := ite_t hm
                 refine qsA 12 0 v_123.1 hs rfl h_129 rfl fun a w hs => ?_
                 replace hcl : Ow κ w C_116 := by rw [hC_116]; exact (hs.own.too [4, 5, 6, 7, 8, 9, 10] 11)
                 refine ⟨fun _ => hcl, ?_⟩
                 obtain ⟨h_130, hm⟩ := ite_t hm
                 refine qsA 13 1 v_126.1 hs rfl h_130 rfl fun a w hs => ?_
                 refine ⟨fun h => absurd h (by decide), ?_⟩
                 replace hs := hs.pick [1, 2, 4, 14, 16, 17, 21, 23, 24] (L' := [(1, .slice A_x1 x1.length c_x1), (2, .slice A_x2 x2.length c_x2), (4, vw p_42), (14, pp b_32), (16, vi (IntKind.i64.wrap (8 + (Int.tmod (IntKind.i64.wrap x3) 4)))), (17, pp b_57), (21, pp b_93), (23, pp b_128), (24, pp b_127)]) (by kernel_rfl)
                 refine Vk.dDone (by kernel_rfl) ?_
                 exact hj115 v_123.2 v_126.2 v_123.1 v_126.1 hm b_128 b_127 _ _ (hs.go [1, 2, 4, 14, 16, 17, 21, 23, 24] [4, 3, 2, 5, 6, 7, 9, 0, 1] 11 (by kernel_rfl) (by kernel_rfl) (by kernel_rfl))
             ·exact by
               refine Vk.alloc 23 37 [ci 0, ci 0, ci 0, ci 0, ci 0, ci 0, ci 0, ci 0, ci 0, ci 0, ci 0, ci 0, ci 0, ci 0, ci 0, ci 0, ci 0, ci 0, ci 0, ci 0, ci 0, ci 0, ci 0, ci 0] hs (by kernel_rfl) (by kernel_rfl) (by kernel_rfl) fun b_124 w a hs => ?_
               replace hcl := qO hC_116 hs.own.f3.drop.f1.drop.drop
               refine ⟨fun _ => hcl, ?_⟩
               refine Vk.dMany2 (i0 := 9) (i1 := 11) (by kernel_rfl) ?_ ?_
               ·exact by
                 obtain ⟨v_127, h_126, hm⟩ := bind_t hm
                 refine qco (visorref33_Xor.ok _ _ _ _ _ h_126 _ _ _ br15x0x_27 hs.own.f3) hs fun w a hs => ?_
                 replace hcl := qO hC_116 hs.own.f2.drop.f1.drop.drop
                 refine ⟨fun _ => hcl, ?_⟩
                 refine Vk.dOnly (i := 11) (by kernel_rfl) (Vk.alloc 24 37 [ci 0, ci 0, ci 0, ci 0, ci 0, ci 0, ci 0, ci 0, ci 0, ci 0, ci 0, ci 0, ci 0, ci 0, ci 0, ci 0, ci 0, ci 0, ci 0, ci 0, ci 0, ci 0, ci 0, ci 0] hs (by kernel_rfl) (by kernel_rfl) (by kernel_rfl) fun b_128 w a hs => ?_)
                 replace hcl : Ow κ w C_116 := by rw [hC_116]; exact (hs.own.too [4, 5, 6, 7, 8, 9, 10] 11)
                 refine ⟨fun _ => hcl, ?_⟩
                 obtain ⟨h_129, hm⟩ := ite_t hm
                 refine qsA 12 2 v_123.1 hs rfl h_129 rfl fun a w hs => ?_
                 replace hcl : Ow κ w C_116 := by rw [hC_116]; exact (hs.own.too [4, 5, 6, 7, 8, 9, 10] 11)
                 refine ⟨fun _ => hcl, ?_⟩
                 obtain ⟨h_130, hm⟩ := ite_t hm
                 refine qsA 13 0 v_127.1 hs rfl h_130 rfl fun a w hs => ?_
                 refine ⟨fun h => absurd h (by decide), ?_⟩
                 replace hs := hs.pick [1, 2, 4, 14, 16, 17, 21, 23, 24] (L' := [(1, .slice A_x1 x1.length c_x1), (2, .slice A_x2 x2.length c_x2), (4, vw p_42), (14, pp b_32), (16, vi (IntKind.i64.wrap (8 + (Int.tmod (IntKind.i64.wrap x3) 4)))), (17, pp b_57), (21, pp b_93), (23, pp b_124), (24, pp b_128)]) (by kernel_rfl)
                 refine Vk.dDone (by kernel_rfl) ?_
                 exact hj115 v_123.2 v_127.2 v_123.1 v_127.1 hm b_124 b_128 _ _ (hs.go [1, 2, 4, 14, 16, 17, 21, 23, 24] [4, 3, 1, 5, 6, 7, 9, 2, 0] 11 (by kernel_rfl) (by kernel_rfl) (by kernel_rfl))
               ·exact by
                 refine Vk.alloc 24 37 [ci 0, ci 0, ci 0, ci 0, ci 0, ci 0, ci 0, ci 0, ci 0, ci 0, ci 0, ci 0, ci 0, ci 0, ci 0, ci 0, ci 0, ci 0, ci 0, ci 0, ci 0, ci 0, ci 0, ci 0] hs (by kernel_rfl) (by kernel_rfl) (by kernel_rfl) fun b_125 w a hs => ?_
                 replace hcl : Ow κ w C_116 := by rw [hC_116]; exact (hs.own.too [3, 5, 6, 7, 8, 9, 10] 11)
                 refine ⟨fun _ => hcl, ?_⟩
                 obtain ⟨v_128, h_127, hm⟩ := bind_t hm
                 refine qdc 9 (visorref33_Xor.ok _ _ _ _ _ h_127 _ _ _ br15x0x_27 hs.own.f4) hs fun w a hs => ?_
                 replace hcl : Ow κ w C_116 := by rw [hC_116]; exact (hs.own.too [4, 5, 6, 7, 8, 9, 10] 11)
                 refine ⟨fun _ => hcl, ?_⟩
                 obtain ⟨h_129, hm⟩ := ite_t hm
                 refine qsA 12 2 v_123.1 hs rfl h_129 rfl fun a w hs => ?_
                 replace hcl : Ow κ w C_116 := by rw [hC_116]; exact (hs.own.too [4, 5, 6, 7, 8, 9, 10] 11)
                 refine ⟨fun _ => hcl, ?_⟩
                 obtain ⟨h_130, hm⟩ := ite_t hm
                 refine qsA 13 1 v_128.1 hs rfl h_130 rfl fun a w hs => ?_
                 refine ⟨fun h => absurd h (by decide), ?_⟩
                 replace hs := hs.pick [1, 2, 4, 14, 16, 17, 21, 23, 24] (L' := [(1, .slice A_x1 x1.length c_x1), (2, .slice A_x2 x2.length c_x2), (4, vw p_42), (14, pp b_32), (16, vi (IntKind.i64.wrap (8 + (Int.tmod (IntKind.i64.wrap x3) 4)))), (17, pp b_57), (21, pp b_93), (23, pp b_124), (24, pp b_125)]) (by kernel_rfl)
                 refine Vk.dDone (by kernel_rfl) ?_
                 exact hj115 v_123.2 v_128.2 v_123.1 v_128.1 hm b_124 b_125 _ _ (hs.go [1, 2, 4, 14, 16, 17, 21, 23, 24] [4, 3, 0, 5, 6, 7, 9, 2, 1] 11 (by kernel_rfl) (by kernel_rfl) (by kernel_rfl))
             ·exact by
               refine Vk.alloc 24 37 [ci 0, ci 0, ci 0, ci 0, ci 0, ci 0, ci 0, ci 0, ci 0, ci 0, ci 0, ci 0, ci 0, ci 0, ci 0, ci 0, ci 0, ci 0, ci 0, ci 0, ci 0, ci 0, ci 0, ci 0] hs (by kernel_rfl) (by kernel_rfl) (by kernel_rfl) fun b_124 w a hs => ?_
               replace hcl := qO hC_116 hs.own.f3.drop.f1.drop.drop
               refine ⟨fun _ => hcl, ?_⟩
               refine Vk.dMany2 (i0 := 9) (i1 := 10) (by kernel_rfl) ?_ ?_
               ·exact by
                 obtain ⟨v_127, h_126, hm⟩ := bind_t hm
                 refine qco (visorref33_Xor.ok _ _ _ _ _ h_126 _ _ _ br15x0x_27 hs.own.f3) hs fun w a hs => ?_
                 replace hcl := qO hC_116 hs.own.f2.drop.f1.drop.drop
                 refine ⟨fun _ => hcl, ?_⟩
                 refine Vk.dOnly (i := 10) (by kernel_rfl) (Vk.alloc 23 37 [ci 0, ci 0, ci 0, ci 0, ci 0, ci 0, ci 0, ci 0, ci 0, ci 0, ci 0, ci 0, ci 0, ci 0, ci 0, ci 0, ci 0, ci 0, ci 0, ci 0, ci 0, ci 0, ci 0, ci 0] hs (by kernel_rfl) (by kernel_rfl) (by kernel_rfl) fun b_128 w a hs => ?_)
                 replace hcl : Ow κ w C_116 := by rw [hC_116]; exact (hs.own.too [4, 5, 6, 7, 8, 9, 10] 11)
                 refine ⟨fun _ => hcl, ?_⟩
                 obtain ⟨h_129, hm⟩ := ite_t hm
                 refine qsA 12 0 v_123.1 hs rfl h_129 rfl fun a w hs => ?_
                 replace hcl : Ow κ w C_116 := by rw [hC_116]; exact (hs.own.too [4, 5, 6, 7, 8, 9, 10] 11)
                 refine ⟨fun _ => hcl, ?_⟩
                 obtain ⟨h_130, hm⟩ := ite_t hm
                 refine qsA 13 2 v_127.1 hs rfl h_130 rfl fun a w hs => ?_
                 refine ⟨fun h => absurd h (by decide), ?_⟩
                 replace hs := hs.pick [1, 2, 4, 14, 16, 17, 21, 23, 24] (L' := [(1, .slice A_x1 x1.length c_x1), (2, .slice A_x2 x2.length c_x2), (4, vw p_42), (14, pp b_32), (16, vi (IntKind.i64.wrap (8 + (Int.tmod (IntKind.i64.wrap x3) 4)))), (17, pp b_57), (21, pp b_93), (23, pp b_128), (24, pp b_124)]) (by kernel_rfl)
                 refine Vk.dDone (by kernel_rfl) ?_
                 exact hj115 v_123.2 v_127.2 v_123.1 v_127.1 hm b_128 b_124 _ _ (hs.go [1, 2, 4, 14, 16, 17, 21, 23, 24] [4, 3, 1, 5, 6, 7, 9, 0, 2] 11 (by kernel_rfl) (by kernel_rfl) (by kernel_rfl))
               ·exact by
                 refine Vk.alloc 23 37 [ci 0, ci 0, ci 0, ci 0, ci 0, ci 0, ci 0, ci 0, ci 0, ci 0, ci 0, ci 0, ci 0, ci 0, ci 0, ci 0, ci 0, ci 0, ci 0, ci 0, ci 0, ci 0, ci 0, ci 0] hs (by kernel_rfl) (by kernel_rfl) (by kernel_rfl) fun b_125 w a hs => ?_
                 replace hcl : Ow κ w C_116 := by rw [hC_116]; exact (hs.own.too [3, 5, 6, 7, 8, 9, 10] 11)
                 refine ⟨fun _ => hcl, ?_⟩
                 obtain ⟨v_128, h_127, hm⟩ := bind_t hm
                 refine qdc 9 (visorref33_Xor.ok _ _ _ _ _ h_127 _ _ _ br15x0x_27 hs.own.f4) hs fun w a hs => ?_
                 replace hcl : Ow κ w C_116 := by rw [hC_116]; exact (hs.own.too [4, 5, 6, 7, 8, 9, 10] 11)
                 refine ⟨fun _ => hcl, ?_⟩
                 obtain ⟨h_129, hm⟩ := ite_t hm
                 refine qsA 12 1 v_123.1 hs rfl h_129 rfl fun a w hs => ?_
                 replace hcl : Ow κ w C_116 := by rw [hC_116]; exact (hs.own.too [4, 5, 6, 7, 8, 9, 10] 11)
                 refine ⟨fun _ => hcl, ?_⟩
                 obtain ⟨h_130, hm⟩ := ite_t hm
                 refine qsA 13 2 v_128.1 hs rfl h_130 rfl fun a w hs => ?_
                 refine ⟨fun h => absurd h (by decide), ?_⟩
                 replace hs := hs.pick [1, 2, 4, 14, 16, 17, 21, 23, 24] (L' := [(1, .slice A_x1 x1.length c_x1), (2, .slice A_x2 x2.length c_x2), (4, vw p_42), (14, pp b_32), (16, vi (IntKind.i64.wrap (8 + (Int.tmod (IntKind.i64.wrap x3) 4)))), (17, pp b_57), (21, pp b_93), (23, pp b_125), (24, pp b_124)]) (by kernel_rfl)
                 refine Vk.dDone (by kernel_rfl) ?_
                 exact hj115 v_123.2 v_128.2 v_123.1 v_128.1 hm b_125 b_124 _ _ (hs.go [1, 2, 4, 14, 16, 17, 21, 23, 24] [4, 3, 0, 5, 6, 7, 9, 1, 2] 11 (by kernel_rfl) (by kernel_rfl) (by kernel_rfl))
           ·exact by
             refine Vk.alloc 23 37 [ci 0, ci 0, ci 0, ci 0, ci 0, ci 0, ci 0, ci 0, ci 0, ci 0, ci 0, ci 0, ci 0, ci 0, ci 0, ci 0, ci 0, ci 0, ci 0, ci 0, ci 0, ci 0, ci 0, ci 0] hs (by kernel_rfl) (by kernel_rfl) (by kernel_rfl) fun b_121 w a hs => ?_
             replace hcl := qO hC_116 hs.own.f3.drop.f2.drop.drop
             refine ⟨fun _ => hcl, ?_⟩
             refine Vk.dMany2 (i0 := 4) (i1 := 11) (by kernel_rfl) ?_ ?_
             ·exact by
               obtain ⟨v_124, h_123, hm⟩ := bind_t hm
               refine qco (slice_Xor.ok _ _ _ _ _ h_123 _ _ _ br15x0m_26 hs.own.f2) hs fun w a hs => ?_
               replace hcl := qO hC_116 hs.own.f3.drop.f1.drop.drop
               refine ⟨fun _ => hcl, ?_⟩
               refine Vk.dMany2 (i0 := 9) (i1 := 11) (by kernel_rfl) ?_ ?_
               ·exact by
                 obtain ⟨v_127, h_126, hm⟩ := bind_t hm
                 refine qco (visorref33_Xor.ok _ _ _ _ _ h_126 _ _ _ br15x0x_27 hs.own.f3) hs fun w a hs => ?_
                 replace hcl := qO hC_116 hs.own.f2.drop.f1.drop.drop
                 refine ⟨fun _ => hcl, ?_⟩
                 refine Vk.dOnly (i := 11) (by kernel_rfl) (Vk.alloc 24 37 [ci 0, ci 0, ci 0, ci 0, ci 0, ci 0, ci 0, ci 0, ci 0, ci 0, ci 0, ci 0, ci 0, ci 0, ci 0, ci 0, ci 0, ci 0, ci 0, ci 0, ci 0, ci 0, ci 0, ci 0] hs (by kernel_rfl) (by kernel_rfl) (by kernel_rfl) fun b_128 w a hs => ?_)
                 replace hcl : Ow κ w C_116 := by rw [hC_116]; exact (hs.own.too [4, 5, 6, 7, 8, 9, 10] 11)
                 refine ⟨fun _ => hcl, ?_⟩
                 obtain ⟨h_129, hm⟩ := ite_t hm
                 refine qsA 12 3 v_124.1 hs rfl h_129 rfl fun a w hs => ?_
                 replace hcl : Ow κ w C_116 := by rw [hC_116]; exact (hs.own.too [4, 5, 6, 7, 8, 9, 10] 11)
                 refine ⟨fun _ => hcl, ?_⟩
                 obtain ⟨h_130, hm⟩ := ite_t hm
                 refine qsA 13 0 v_127.1 hs rfl h_130 rfl fun a w hs => ?_
                 refine ⟨fun h => absurd h (by decide), ?_⟩
                 replace hs := hs.pick [1, 2, 4, 14, 16, 17, 21, 23, 24] (L' := [(1, .slice A_x1 x1.length c_x1), (2, .slice A_x2 x2.length c_x2), (4, vw p_42), (14, pp b_32), (16, vi (IntKind.i64.wrap (8 + (Int.tmod (IntKind.i64.wrap x3) 4)))), (17, pp b_57), (21, pp b_93), (23, pp b_121), (24, pp b_128)]) (by kernel_rfl)
                 refine Vk.dDone (by kernel_rfl) ?_
                 exact hj115 v_124.2 v_127.2 v_124.1 v_127.1 hm b_121 b_128 _ _ (hs.go [1, 2, 4, 14, 16, 17, 21, 23, 24] [4, 2, 1, 5, 6, 7, 9, 3, 0] 11 (by kernel_rfl) (by kernel_rfl) (by kernel_rfl))
               ·exact by
                 refine Vk.alloc 24 37 [ci 0, ci 0, ci 0, ci 0, ci 0, ci 0, ci 0, ci 0, ci 0, ci 0, ci 0, ci 0, ci 0, ci 0, ci 0, ci 0, ci 0, ci 0, ci 0, ci 0, ci 0, ci 0, ci 0, ci 0] hs (by kernel_rfl) (by kernel_rfl) (by kernel_rfl) fun b_125 w a hs => ?_
                 replace hcl : Ow κ w C_116 := by rw [hC_116]; exact (hs.own.too [3, 5, 6, 7, 8, 9, 10] 11)
                 refine ⟨fun _ => hcl, ?_⟩
                 obtain ⟨v_128, h_127, hm⟩ := bind_t hm
                 refine qdc 9 (visorref33_Xor.ok _ _ _ _ _ h_127 _ _ _ br15x0x_27 hs.own.f4) hs fun w a hs => ?_
                 replace hcl : Ow κ w C_116 := by rw [hC_116]; exact (hs.own.too [4, 5, 6, 7, 8, 9, 10] 11)
                 refine ⟨fun _ => hcl, ?_⟩
                 obtain ⟨h_129, hm⟩ := ite_t hm
                 refine qsA 12 3 v_124.1 hs rfl h_129 rfl fun a w hs => ?_
                 replace hcl : Ow κ w C_116 := by rw [hC_116]; exact (hs.own.too [4, 5, 6, 7, 8, 9, 10] 11)
                 refine ⟨fun _ => hcl, ?_⟩
                 obtain ⟨h_130, hm⟩ := ite_t hm
                 refine qsA 13 1 v_128.1 hs rfl h_130 rfl fun a w hs => ?_
                 refine ⟨fun h => absurd h (by decide), ?_⟩
                 replace hs := hs.pick [1, 2, 4, 14, 16, 17, 21, 23, 24] (L' := [(1, .slice A_x1 x1.length c_x1), (2, .slice A_x2 x2.length c_x2), (4, vw p_42), (14, pp b_32), (16, vi (IntKind.i64.wrap (8 + (Int.tmod (IntKind.i64.wrap x3) 4)))), (17, pp b_57), (21, pp b_93), (23, pp b_121), (24, pp b_125)]) (by kernel_rfl)
                 refine Vk.dDone (by kernel_rfl) ?_
                 exact hj115 v_124.2 v_128.2 v_124.1 v_128.1 hm b_121 b_125 _ _ (hs.go [1, 2, 4, 14, 16, 17, 21, 23, 24] [4, 2, 0, 5, 6, 7, 9, 3, 1] 11 (by kernel_rfl) (by kernel_rfl) (by kernel_rfl))
             ·exact by
               refine Vk.alloc 24 37 [ci 0, ci 0, ci 0, ci 0, ci 0, ci 0, ci 0, ci 0, ci 0, ci 0, ci 0, ci 0, ci 0, ci 0, ci 0, ci 0, ci 0, ci 0, ci 0, ci 0, ci 0, ci 0, ci 0, ci 0] hs (by kernel_rfl) (by kernel_rfl) (by kernel_rfl) fun b_122 w a hs => ?_
               replace hcl : Ow κ w C_116 := by rw [hC_116]; exact (hs.own.too [2, 5, 6, 7, 8, 9, 10] 11)
               refine ⟨fun _ => hcl, ?_⟩
               obtain ⟨v_125, h_124, hm⟩ := bind_t hm
               refine qdc 4 (slice_Xor.ok _ _ _ _ _ h_124 _ _ _ br15x0m_26 hs.own.f3) hs fun w a hs => ?_
               replace hcl : Ow κ w C_116 := by rw [hC_116]; exact (hs.own.too [3, 5, 6, 7, 8, 9, 10] 11)
               refine ⟨fun _ => hcl, ?_⟩
               obtain ⟨v_128, h_127, hm⟩ := bind_t hm
               refine qdc 9 (visorref33_Xor.ok _ _ _ _ _ h_127 _ _ _ br15x0x_27 hs.own.f4) hs fun w a hs => ?_
               replace hcl : Ow κ w C_116 := by rw [hC_116]; exact (hs.own.too [4, 5, 6, 7, 8, 9, 10] 11)
               refine ⟨fun _ => hcl, ?_⟩
               obtain ⟨h_129, hm⟩ := ite_t hm
               refine qsA 12 3 v_125.1 hs rfl h_129 rfl fun a w hs => ?_
               replace hcl : Ow κ w C_116 := by rw [hC_116]; exact (hs.own.too [4, 5, 6, 7, 8, 9, 10] 11)
               refine ⟨fun _ => hcl, ?_⟩
               obtain ⟨h_130, hm⟩ := ite_t hm
               refine qsA 13 2 v_128.1 hs rfl h_130 rfl fun a w hs => ?_
               refine ⟨fun h => absurd h (by decide), ?_⟩
               replace hs := hs.pick [1, 2, 4, 14, 16, 17, 21, 23, 24] (L' := [(1, .slice A_x1 x1.length c_x1), (2, .slice A_x2 x2.length c_x2), (4, vw p_42), (14, pp b_32), (16, vi (IntKind.i64.wrap (8 + (Int.tmod (IntKind.i64.wrap x3) 4)))), (17, pp b_57), (21, pp b_93), (23, pp b_121), (24, pp b_122)]) (by kernel_rfl)
               refine Vk.dDone (by kernel_rfl) ?_
               exact hj115 v_125.2 v_128.2 v_125.1 v_128.1 hm b_121 b_122 _ _ (hs.go [1, 2, 4, 14, 16, 17, 21, 23, 24] [4, 1, 0, 5, 6, 7, 9, 3, 2] 11 (by kernel_rfl) (by kernel_rfl) (by kernel_rfl))
           ·exact by
             refine Vk.alloc 24 37 [ci 0, ci 0, ci 0, ci 0, ci 0, ci 0, ci 0, ci 0, ci 0, ci 0, ci 0, ci 0, ci 0, ci 0, ci 0, ci 0, ci 0, ci 0, ci 0, ci 0, ci 0, ci 0, ci 0, ci 0] hs (by kernel_rfl) (by kernel_rfl) (by kernel_rfl) fun b_121 w a hs => ?_
             replace hcl := qO hC_116 hs.own.f3.drop.f2.drop.drop
             refine ⟨fun _ => hcl, ?_⟩
             refine Vk.dMany2 (i0 := 4) (i1 := 10) (by kernel_rfl) ?_ ?_
             ·exact by
               obtain ⟨v_124, h_123, hm⟩ := bind_t hm
               refine qco (slice_Xor.ok _ _ _ _ _ h_123 _ _ _ br15x0m_26 hs.own.f2) hs fun w a hs => ?_
               replace hcl := qO hC_116 hs.own.f3.drop.f1.drop.drop
               refine ⟨fun _ => hcl, ?_⟩
               refine Vk.dMany2 (i0 := 9) (i1 := 10) (by kernel_rfl) ?_ ?_
               ·exact by
                 obtain ⟨v_127, h_126, hm⟩ := bind_t hm
                 refine qco (visorref33_Xor.ok _ _ _ _ _ h_126 _ _ _ br15x0x_27 hs.own.f3) hs fun w a hs => ?_
                 replace hcl := qO hC_116 hs.own.f2.drop.f1.drop.drop
                 refine ⟨fun _ => hcl, ?_⟩
                 refine Vk.dOnly (i := 10) (by kernel_rfl) (Vk.alloc 23 37 [ci 0, ci 0, ci 0, ci 0, ci 0, ci 0, ci 0, ci 0, ci 0, ci 0, ci 0, ci 0, ci 0, ci 0, ci 0, ci 0, ci 0, ci 0, ci 0, ci 0, ci 0, ci 0, ci 0, ci 0] hs (by kernel_rfl) (by kernel_rfl) (by kernel_rfl) fun b_128 w a hs => ?_)
                 replace hcl : Ow κ w C_116 := by rw [hC_116]; exact (hs.own.too [4, 5, 6, 7, 8, 9, 10] 11)
                 refine ⟨fun _ => hcl, ?_⟩
                 obtain ⟨h_129, hm⟩ := ite_t hm
                 refine qsA 12 0 v_124.1 hs rfl h_129 rfl fun a w hs => ?_
                 replace hcl : Ow κ w C_116 := by rw [hC_116]; exact (hs.own.too [4, 5, 6, 7, 8, 9, 10] 11)
                 refine ⟨fun _ => hcl, ?_⟩
                 obtain ⟨h_130, hm⟩ := ite_t hm
                 refine qsA 13 3 v_127.1 hs rfl h_130 rfl fun a w hs => ?_
                 refine ⟨fun h => absurd h (by decide), ?_⟩
                 replace hs := hs.pick [1, 2, 4, 14, 16, 17, 21, 23, 24] (L' := [(1, .slice A_x1 x1.length c_x1), (2, .slice A_x2 x2.length c_x2), (4, vw p_42), (14, pp b_32), (16, vi (IntKind.i64.wrap (8 + (Int.tmod (IntKind.i64.wrap x3) 4)))), (17, pp b_57), (21, pp b_93), (23, pp b_128), (24, pp b_121)]) (by kernel_rfl)
                 refine Vk.dDone (by kernel_rfl) ?_
                 exact hj115 v_124.2 v_127.2 v_124.1 v_127.1 hm b_128 b_121 _ _ (hs.go [1, 2, 4, 14, 16, 17, 21, 23, 24] [4, 2, 1, 5, 6, 7, 9, 0, 3] 11 (by kernel_rfl) (by kernel_rfl) (by kernel_rfl))
               ·exact by
                 refine Vk.alloc 23 37 [ci 0, ci 0, ci 0, ci 0, ci 0, ci 0, ci 0, ci 0, ci 0, ci 0, ci 0, ci 0, ci 0, ci 0, ci 0, ci 0, ci 0, ci 0, ci 0, ci 0, ci 0, ci 0, ci 0, ci 0] hs (by kernel_rfl) (by kernel_rfl) (by kernel_rfl) fun b_125 w a hs => ?_
                 replace hcl : Ow κ w C_116 := by rw [hC_116]; exact (hs.own.too [3, 5, 6, 7, 8, 9, 10] 11)
                 refine ⟨fun _ => hcl, ?_⟩
                 obtain ⟨v_128, h_127, hm⟩ := bind_t hm
                 refine qdc 9 (visorref33_Xor.ok _ _ _ _ _ h_127 _ _ _ br15x0x_27 hs.own.f4) hs fun w a hs => ?_
                 replace hcl : Ow κ w C_116 := by rw [hC_116]; exact (hs.own.too [4, 5, 6, 7, 8, 9, 10] 11)
                 refine ⟨fun _ => hcl, ?_⟩
                 obtain ⟨h_129, hm⟩ := ite_t hm
                 refine qsA 12 1 v_124.1 hs rfl h_129 rfl fun a w hs => ?_
                 replace hcl : Ow κ w C_116 := by rw [hC_116]; exact (hs.own.too [4, 5, 6, 7, 8, 9, 10] 11)
                 refine ⟨fun _ => hcl, ?_⟩
                 obtain ⟨h_130, hm⟩ := ite_t hm
                 refine qsA 13 3 v_128.1 hs rfl h_130 rfl fun a w hs => ?_
                 refine ⟨fun h => absurd h (by decide), ?_⟩
                 replace hs := hs.pick [1, 2, 4, 14, 16, 17, 21, 23, 24] (L' := [(1, .slice A_x1 x1.length c_x1), (2, .slice A_x2 x2.length c_x2), (4, vw p_42), (14, pp b_32), (16, vi (IntKind.i64.wrap (8 + (Int.tmod (IntKind.i64.wrap x3) 4)))), (17, pp b_57), (21, pp b_93), (23, pp b_125), (24, pp b_121)]) (by kernel_rfl)
                 refine Vk.dDone (by kernel_rfl) ?_
                 exact hj115 v_124.2 v_128.2 v_124.1 v_128.1 hm b_125 b_121 _ _ (hs.go [1, 2, 4, 14, 16, 17, 21, 23, 24] [4, 2, 0, 5, 6, 7, 9, 1, 3] 11 (by kernel_rfl) (by kernel_rfl) (by kernel_rfl))
             ·exact by
               refine Vk.alloc 23 37 [ci 0, ci 0, ci 0, ci 0, ci 0, ci 0, ci 0, ci 0, ci 0, ci 0, ci 0, ci 0, ci 0, ci 0, ci 0, ci 0, ci 0, ci 0, ci 0, ci 0, ci 0, ci 0, ci 0, ci 0] hs (by kernel_rfl) (by kernel_rfl) (by kernel_rfl) fun b_122 w a hs => ?_
               replace hcl : Ow κ w C_116 := by rw [hC_116]; exact (hs.own.too [2, 5, 6, 7, 8, 9, 10] 11)
               refine ⟨fun _ => hcl, ?_⟩
               obtain ⟨v_125, h_124, hm⟩ := bind_t hm
               refine qdc 4 (slice_Xor.ok _ _ _ _ _ h_124 _ _ _ br15x0m_26 hs.own.f3) hs fun w a hs => ?_
               replace hcl : Ow κ w C_116 := by rw [hC_116]; exact (hs.own.too [3, 5, 6, 7, 8, 9, 10] 11)
               refine ⟨fun _ => hcl, ?_⟩
               obtain ⟨v_128, h_127, hm⟩ := bind_t hm
               refine qdc 9 (visorref33_Xor.ok _ _ _ _ _ h_127 _ _ _ br15x0x_27 hs.own.f4) hs fun w a hs => ?_
               replace hcl : Ow κ w C_116 := by rw [hC_116]; exact (hs.own.too [4, 5, 6, 7, 8, 9, 10] 11)
               refine ⟨fun _ => hcl, ?_⟩
               obtain ⟨h_129, hm⟩ := ite_t hm
               refine qsA 12 2 v_125.1 hs rfl h_129 rfl fun a w hs => ?_
               replace hcl : Ow κ w C_116 := by rw [hC_116]; exact (hs.own.too [4, 5, 6, 7, 8, 9, 10] 11)
               refine ⟨fun _ => hcl, ?_⟩
               obtain ⟨h_130, hm⟩ := ite_t hm
               refine qsA 13 3 v_128.1 hs rfl h_130 rfl fun a w hs => ?_
               refine ⟨fun h => absurd h (by decide), ?_⟩
               replace hs := hs.pick [1, 2, 4, 14, 16, 17, 21, 23, 24] (L' := [(1, .slice A_x1 x1.length c_x1), (2, .slice A_x2 x2.length c_x2), (4, vw p_42), (14, pp b_32), (16, vi (IntKind.i64.wrap (8 + (Int.tmod (IntKind.i64.wrap x3) 4)))), (17, pp b_57), (21, pp b_93), (23, pp b_122), (24, pp b_121)]) (by kernel_rfl)
               refine Vk.dDone (by kernel_rfl) ?_
               exact hj115 v_125.2 v_128.2 v_125.1 v_128.1 hm b_122 b_121 _ _ (hs.go [1, 2, 4, 14, 16, 17, 21, 23, 24] [4, 1, 0, 5, 6, 7, 9, 2, 3] 11 (by kernel_rfl) (by kernel_rfl) (by kernel_rfl))
         refine Vk.region ?_
         obtain ⟨h_99, hm⟩ := ite_t hm
         refine qlw 5 hs rfl h_99 fun a hs => ?_
         obtain ⟨h_100, hm⟩ := ite_t hm
         refine qlw 6 hs rfl h_100 fun a hs => ?_
         obtain ⟨h_101, hm⟩ := ite_t hm
         obtain ⟨h_102, hm⟩ := ite_t hm
         refine qva (.bool (!(ceq p_58 p_60))) (op := (.binOp .neq 37 (.tmp 82) (.tmp 83) 37)) hs (fun o ho => run_neqV (ks := (List.replicate 8 ((List.replicate 3 [LK.int .i64]).flatten)).flatten) (cs := p_58) (us := p_60) ho (by kernel_rfl) (by kernel_rfl) (by kernel_rfl) h_101 h_102 _) fun a hs => ?_
         refine qpu 1 hs fun a hs => ?_
         rcases Bool.eq_false_or_eq_true (!(ceq p_58 p_60)) with hb | hb
         ·replace hm := bif_t hm hb
          replace hs := hs.known (t := 85) hb (by kernel_rfl)
          refine qpe 9 [(1, .slice A_x1 x1.length c_x1), (2, .slice A_x2 x2.length c_x2), (4, vw p_42), (14, pp b_32), (16, vi (IntKind.i64.wrap (8 + (Int.tmod (IntKind.i64.wrap x3) 4)))), (17, pp b_57), (18, pp b_59), (21, pp b_93), (22, pp b_95), (94, .bool true)] hs fun a hs => ?_
          exact hj98 true hm _ _ (hs.go [1, 2, 4, 14, 16, 17, 18, 21, 22, 94] [0, 1, 2, 3, 4, 5, 6, 9, 10] 11 (by kernel_rfl) (by kernel_rfl) (by kernel_rfl))
         ·replace hm := bif_f hm hb
          replace hs := hs.known (t := 85) hb (by kernel_rfl)
          obtain ⟨h_104, hm⟩ := ite_t hm
          refine qlw 7 hs rfl h_104 fun a hs => ?_
          obtain ⟨h_105, hm⟩ := ite_t hm
          refine qlw 8 hs rfl h_105 fun a hs => ?_
          obtain ⟨h_106, hm⟩ := ite_t hm
          obtain ⟨h_107, hm⟩ := ite_t hm
          refine qva (.bool (!(ceq p_76 p_78))) (op := (.binOp .neq 37 (.tmp 86) (.tmp 87) 37)) hs (fun o ho => run_neqV (ks := (List.replicate 8 ((List.replicate 3 [LK.int .i64]).flatten)).flatten) (cs := p_76) (us := p_78) ho (by kernel_rfl) (by kernel_rfl) (by kernel_rfl) h_106 h_107 _) fun a hs => ?_
          refine qpu 2 hs fun a hs => ?_
          rcases Bool.eq_false_or_eq_true (!(ceq p_76 p_78)) with hb | hb
          ·replace hm := bif_t hm hb
           replace hs := hs.known (t := 90) hb (by kernel_rfl)
           refine qpe 4 [(1, .slice A_x1 x1.length c_x1), (2, .slice A_x2 x2.length c_x2), (4, vw p_42), (14, pp b_32), (16, vi (IntKind.i64.wrap (8 + (Int.tmod (IntKind.i64.wrap x3) 4)))), (17, pp b_57), (18, pp b_59), (21, pp b_93), (22, pp b_95), (94, .bool true)] hs fun a hs => ?_
           exact hj98 true hm _ _ (hs.go [1, 2, 4, 14, 16, 17, 18, 21, 22, 94] [0, 1, 2, 3, 4, 5, 6, 9, 10] 11 (by kernel_rfl) (by kernel_rfl) (by kernel_rfl))
          ·replace hm := bif_f hm hb
           replace hs := hs.known (t := 90) hb (by kernel_rfl)
           obtain ⟨h_109, hm⟩ := ite_t hm
           refine qlw 9 hs rfl h_109 fun a hs => ?_
           obtain ⟨h_110, hm⟩ := ite_t hm
           refine qlw 10 hs rfl h_110 fun a hs => ?_
           obtain ⟨h_111, hm⟩ := ite_t hm
           obtain ⟨h_112, hm⟩ := ite_t hm
           refine qva (.bool (!(ceq p_94 p_96))) (op := (.binOp .neq 37 (.tmp 91) (.tmp 92) 37)) hs (fun o ho => run_neqV (ks := (List.replicate 8 ((List.replicate 3 [LK.int .i64]).flatten)).flatten) (cs := p_94) (us := p_96) ho (by kernel_rfl) (by kernel_rfl) (by kernel_rfl) h_111 h_112 _) fun a hs => ?_
           refine qpe 1 [(1, .slice A_x1 x1.length c_x1), (2, .slice A_x2 x2.length c_x2), (4, vw p_42), (14, pp b_32), (16, vi (IntKind.i64.wrap (8 + (Int.tmod (IntKind.i64.wrap x3) 4)))), (17, pp b_57), (18, pp b_59), (21, pp b_93), (22, pp b_95), (94, .bool (!(ceq p_94 p_96)))] hs fun a hs => ?_
           exact hj98 (!(ceq p_94 p_96)) hm _ _ (hs.go [1, 2, 4, 14, 16, 17, 18, 21, 22, 94] [0, 1, 2, 3, 4, 5, 6, 9, 10] 11 (by kernel_rfl) (by kernel_rfl) (by kernel_rfl))
        obtain ⟨C_80, hC_80⟩ := qC hs.own.f2.drop.f1.drop
        refine qdr 11 κ C_80 hs fun w hs hqC_80 => ?_
        have hcl := qO hC_80 hs.own.f2.drop.f1.drop
        refine qdp (fuel := 8) [0, 2, 4, 6] hs hcl hqC_80 fun a hs => ?_
        refine qdl 1 0 (cp br15x0m_26) hs hcl hqC_80 hC_80 rfl fun a hs => ?_
        refine qdl 5 0 (cp br15x0x_27) hs hcl hqC_80 hC_80 rfl fun a hs => ?_
        refine Vk.dMany3 (i0 := 3) (i1 := 8) (i2 := 9) (by kernel_rfl) ?_ ?_ ?_
        ·exact by
          obtain ⟨v_83, h_82, hm⟩ := bind_t hm
          refine qco (slice_Encode.ok _ _ _ _ h_82 _ _ _ br15x0m_26 A_x2 c_x2 hx_x2.less.less.less.less.less.less.less.less hs.own.f1) hs fun w a hs => ?_
          replace hcl := qO hC_80 hs.own.f2.drop.drop
          refine ⟨fun _ => hcl, ?_⟩
          refine Vk.dMany3 (i0 := 7) (i1 := 8) (i2 := 9) (by kernel_rfl) ?_ ?_ ?_
          ·exact by
            obtain ⟨v_86, h_85, hm⟩ := bind_t hm
            refine qco (visorref33_Encode.ok _ _ _ _ h_85 _ _ _ br15x0x_27 A_x2 c_x2 hx_x2.less.less.less.less.less.less.less.less hs.own.f2) hs fun w a hs => ?_
            replace hcl := qO hC_80 hs.own.f1.drop.drop
            refine ⟨fun _ => hcl, ?_⟩
            refine Vk.dMany2 (i0 := 8) (i1 := 9) (by kernel_rfl) ?_ ?_
            ·exact by
              refine Vk.alloc 21 37 [ci 0, ci 0, ci 0, ci 0, ci 0, ci 0, ci 0, ci 0, ci 0, ci 0, ci 0, ci 0, ci 0, ci 0, ci 0, ci 0, ci 0, ci 0, ci 0, ci 0, ci 0, ci 0, ci 0, ci 0] hs (by kernel_rfl) (by kernel_rfl) (by kernel_rfl) fun b_87 w a hs => ?_
              replace hcl := qO hC_80 hs.own.f2.drop.f1.drop.drop
              refine ⟨fun _ => hcl, ?_⟩
              refine Vk.dOnly (i := 9) (by kernel_rfl) (Vk.alloc 22 37 [ci 0, ci 0, ci 0, ci 0, ci 0, ci 0, ci 0, ci 0, ci 0, ci 0, ci 0, ci 0, ci 0, ci 0, ci 0, ci 0, ci 0, ci 0, ci 0, ci 0, ci 0, ci 0, ci 0, ci 0] hs (by kernel_rfl) (by kernel_rfl) (by kernel_rfl) fun b_88 w a hs => ?_)
              replace hcl : Ow κ w C_80 := by rw [hC_80]; exact (hs.own.too [4, 5, 6, 7, 8, 9, 10] 11)
              refine ⟨fun _ => hcl, ?_⟩
              obtain ⟨h_89, hm⟩ := ite_t hm
              refine qsA 10 1 v_83.1 hs rfl h_89 rfl fun a w hs => ?_
              replace hcl : Ow κ w C_80 := by rw [hC_80]; exact (hs.own.too [4, 5, 6, 7, 8, 9, 10] 11)
              refine ⟨fun _ => hcl, ?_⟩
              obtain ⟨h_90, hm⟩ := ite_t hm
              refine qsA 11 0 v_86.1 hs rfl h_90 rfl fun a w hs => ?_
              refine ⟨fun h => absurd h (by decide), ?_⟩
              replace hs := hs.pick [1, 2, 4, 14, 16, 17, 18, 19, 20, 21, 22] (L' := [(1, .slice A_x1 x1.length c_x1), (2, .slice A_x2 x2.length c_x2), (4, vw p_42), (14, pp b_32), (16, vi (IntKind.i64.wrap (8 + (Int.tmod (IntKind.i64.wrap x3) 4)))), (17, pp b_57), (18, pp b_59), (19, pp b_75), (20, pp b_77), (21, pp b_87), (22, pp b_88)]) (by kernel_rfl)
              refine Vk.dDone (by kernel_rfl) ?_
              exact hj79 v_83.2 v_86.2 v_83.1 v_86.1 hm b_87 b_88 _ _ (hs.go [1, 2, 4, 14, 16, 17, 18, 19, 20, 21, 22] [4, 3, 2, 5, 6, 7, 8, 9, 10, 1, 0] 11 (by kernel_rfl) (by kernel_rfl) (by kernel_rfl))
            ·exact by
              refine Vk.alloc 22 37 [ci 0, ci 0, ci 0, ci 0, ci 0, ci 0, ci 0, ci 0, ci 0, ci 0, ci 0, ci 0, ci 0, ci 0, ci 0, ci 0, ci 0, ci 0, ci 0, ci 0, ci 0, ci 0, ci 0, ci 0] hs (by kernel_rfl) (by kernel_rfl) (by kernel_rfl) fun b_87 w a hs => ?_
              replace hcl := qO hC_80 hs.own.f2.drop.f1.drop.drop
              refine ⟨fun _ => hcl, ?_⟩
              refine Vk.dOnly (i := 8) (by kernel_rfl) (Vk.alloc 21 37 [ci 0, ci 0, ci 0, ci 0, ci 0, ci 0, ci 0, ci 0, ci 0, ci 0, ci 0, ci 0, ci 0, ci 0, ci 0, ci 0, ci 0, ci 0, ci 0, ci 0, ci 0, ci 0, ci 0, ci 0] hs (by kernel_rfl) (by kernel_rfl) (by kernel_rfl) fun b_88 w a hs => ?_)
              replace hcl : Ow κ w C_80 := by rw [hC_80]; exact (hs.own.too [4, 5, 6, 7, 8, 9, 10] 11)
              refine ⟨fun _ => hcl, ?_⟩
              obtain ⟨h_89, hm⟩ := ite_t hm
              refine qsA 10 0 v_83.1 hs rfl h_89 rfl fun a w hs => ?_
              replace hcl : Ow κ w C_80 := by rw [hC_80]; exact (hs.own.too [4, 5, 6, 7, 8, 9, 10] 11)
              refine ⟨fun _ => hcl, ?_⟩
              obtain ⟨h_90, hm⟩ := ite_t hm
              refine qsA 11 1 v_86.1 hs rfl h_90 rfl fun a w hs => ?_
              refine ⟨fun h => absurd h (by decide), ?_⟩
              replace hs := hs.pick [1, 2, 4, 14, 16, 17, 18, 19, 20, 21, 22] (L' := [(1, .slice A_x1 x1.length c_x1), (2, .slice A_x2 x2.length c_x2), (4, vw p_42), (14, pp b_32), (16, vi (IntKind.i64.wrap (8 + (Int.tmod (IntKind.i64.wrap x3) 4)))), (17, pp b_57), (18, pp b_59), (19, pp b_75), (20, pp b_77), (21, pp b_88), (22, pp b_87)]) (by kernel_rfl)
              refine Vk.dDone (by kernel_rfl) ?_
              exact hj79 v_83.2 v_86.2 v_83.1 v_86.1 hm b_88 b_87 _ _ (hs.go [1, 2, 4, 14, 16, 17, 18, 19, 20, 21, 22] [4, 3, 2, 5, 6, 7, 8, 9, 10, 0, 1] 11 (by kernel_rfl) (by kernel_rfl) (by kernel_rfl))
          ·exact by
            refine Vk.alloc 21 37 [ci 0, ci 0, ci 0, ci 0, ci 0, ci 0, ci 0, ci 0, ci 0, ci 0, ci 0, ci 0, ci 0, ci 0, ci 0, ci 0, ci 0, ci 0, ci 0, ci 0, ci 0, ci 0, ci 0, ci 0] hs (by kernel_rfl) (by kernel_rfl) (by kernel_rfl) fun b_84 w a hs => ?_
            replace hcl := qO hC_80 hs.own.f3.drop.f1.drop.drop
            refine ⟨fun _ => hcl, ?_⟩
            refine Vk.dMany2 (i0 := 7) (i1 := 9) (by kernel_rfl) ?_ ?_
            ·exact by
              obtain ⟨v_87, h_86, hm⟩ := bind_t hm
              refine qco (visorref33_Encode.ok _ _ _ _ h_86 _ _ _ br15x0x_27 A_x2 c_x2 hx_x2.less.less.less.less.less.less.less.less.less hs.own.f3) hs fun w a hs => ?_
              replace hcl := qO hC_80 hs.own.f2.drop.f1.drop.drop
              refine ⟨fun _ => hcl, ?_⟩
              refine Vk.dOnly (i := 9) (by kernel_rfl) (Vk.alloc 22 37 [ci 0, ci 0, ci 0, ci 0, ci 0, ci 0, ci 0, ci 0, ci 0, ci 0, ci 0, ci 0, ci 0, ci 0, ci 0, ci 0, ci 0, ci 0, ci 0, ci 0, ci 0, ci 0, ci 0, ci 0] hs (by kernel_rfl) (by kernel_rfl) (by kernel_rfl) fun b_88 w a hs => ?_)
              replace hcl : Ow κ w C_80 := by rw [hC_80]; exact (hs.own.too [4, 5, 6, 7, 8, 9, 10] 11)
              refine ⟨fun _ => hcl, ?_⟩
              obtain ⟨h_89, hm⟩ := ite_t hm
              refine qsA 10 2 v_83.1 hs rfl h_89 rfl fun a w hs => ?_
              replace hcl : Ow κ w C_80 := by rw [hC_80]; exact (hs.own.too [4, 5, 6, 7, 8, 9, 10] 11)
              refine ⟨fun _ => hcl, ?_⟩
              obtain ⟨h_90, hm⟩ := ite_t hm
              refine qsA 11 0 v_87.1 hs rfl h_90 rfl fun a w hs => ?_
              refine ⟨fun h => absurd h (by decide), ?_⟩
              replace hs := hs.pick [1, 2, 4, 14, 16, 17, 18, 19, 20, 21, 22] (L' := [(1, .slice A_x1 x1.length c_x1), (2, .slice A_x2 x2.length c_x2), (4, vw p_42), (14, pp b_32), (16, vi (IntKind.i64.wrap (8 + (Int.tmod (IntKind.i64.wrap x3) 4)))), (17, pp b_57), (18, pp b_59), (19, pp b_75), (20, pp b_77), (21, pp b_84), (22, pp b_88)]) (by kernel_rfl)
              refine Vk.dDone (by kernel_rfl) ?_
              exact hj79 v_83.2 v_87.2 v_83.1 v_87.1 hm b_84 b_88 _ _ (hs.go [1, 2, 4, 14, 16, 17, 18, 19, 20, 21, 22] [4, 3, 1, 5, 6, 7, 8, 9, 10, 2, 0] 11 (by kernel_rfl) (by kernel_rfl) (by kernel_rfl))
            ·exact by
              refine Vk.alloc 22 37 [ci 0, ci 0, ci 0, ci 0, ci 0, ci 0, ci 0, ci 0, ci 0, ci 0, ci 0, ci 0, ci 0, ci 0, ci 0, ci 0, ci 0, ci 0, ci 0, ci 0, ci 0, ci 0, ci 0, ci 0] hs (by kernel_rfl) (by kernel_rfl) (by kernel_rfl) fun b_85 w a hs => ?_
              replace hcl : Ow κ w C_80 := by rw [hC_80]; exact (hs.own.too [3, 5, 6, 7, 8, 9, 10] 11)
              refine ⟨fun _ => hcl, ?_⟩
              obtain ⟨v_88, h_87, hm⟩ := bind_t hm
              refine qdc 7 (visorref33_Encode.ok _ _ _ _ h_87 _ _ _ br15x0x_27 A_x2 c_x2 hx_x2.less.less.less.less.less.less.less.less.less.less hs.own.f4) hs fun w a hs => ?_
              replace hcl : Ow κ w C_80 := by rw [hC_80]; exact (hs.own.too [4, 5, 6, 7, 8, 9, 10] 11)
              refine ⟨fun _ => hcl, ?_⟩
              obtain ⟨h_89, hm⟩ := ite_t hm
              refine qsA 10 2 v_83.1 hs rfl h_89 rfl fun a w hs => ?_
              replace hcl : Ow κ w C_80 := by rw [hC_80]; exact (hs.own.too [4, 5, 6, 7, 8, 9, 10] 11)
              refine ⟨fun _ => hcl, ?_⟩
              obtain ⟨h_90, hm⟩ := ite_t hm
              refine qsA 11 1 v_88.1 hs rfl h_90 rfl fun a w hs => ?_
              refine ⟨fun h => absurd h (by decide), ?_⟩
              replace hs := hs.pick [1, 2, 4, 14, 16, 17, 18, 19, 20, 21, 22] (L' := [(1, .slice A_x1 x1.length c_x1), (2, .slice A_x2 x2.length c_x2), (4, vw p_42), (14, pp b_32), (16, vi (IntKind.i64.wrap (8 + (Int.tmod (IntKind.i64.wrap x3) 4)))), (17, pp b_57), (18, pp b_59), (19, pp b_75), (20, pp b_77), (21, pp b_84), (22, pp b_85)]) (by kernel_rfl)
              refine Vk.dDone (by kernel_rfl) ?_
              exact hj79 v_83.2 v_88.2 v_83.1 v_88.1 hm b_84 b_85 _ _ (hs.go [1, 2, 4, 14, 16, 17, 18, 19, 20, 21, 22] [4, 3, 0, 5, 6, 7, 8, 9, 10, 2, 1] 11 (by kernel_rfl) (by kernel_rfl) (by kernel_rfl))
          ·exact by
            refine Vk.alloc 22 37 [ci 0, ci 0, ci 0, ci 0, ci 0, ci 0, ci 0, ci 0, ci 0, ci 0, ci 0, ci 0, ci 0, ci 0, ci 0, ci 0, ci 0, ci 0, ci 0, ci 0, ci 0, ci 0, ci 0, ci 0] hs (by kernel_rfl) (by kernel_rfl) (by kernel_rfl) fun b_84 w a hs => ?_
            replace hcl := qO hC_80 hs.own.f3.drop.f1.drop.drop
            refine ⟨fun _ => hcl, ?_⟩
            refine Vk.dMany2 (i0 := 7) (i1 := 8) (by kernel_rfl) ?_ ?_
            ·exact by
              obtain ⟨v_87, h_86, hm⟩ := bind_t hm
              refine qco (visorref33_Encode.ok _ _ _ _ h_86 _ _ _ br15x0x_27 A_x2 c_x2 hx_x2.less.less.less.less.less.less.less.less.less hs.own.f3) hs fun w a hs => ?_
              replace hcl := qO hC_80 hs.own.f2.drop.f1.drop.drop
              refine ⟨fun _ => hcl, ?_⟩
              refine Vk.dOnly (i := 8) (by kernel_rfl) (Vk.alloc 21 37 [ci 0, ci 0, ci 0, ci 0, ci 0, ci 0, ci 0, ci 0, ci 0, ci 0, ci 0, ci 0, ci 0, ci 0, ci 0, ci 0, ci 0, ci 0, ci 0, ci 0, ci 0, ci 0, ci 0, ci 0] hs (by kernel_rfl) (by kernel_rfl) (by kernel_rfl) fun b_88 w a hs => ?_)
              replace hcl : Ow κ w C_80 := by rw [hC_80]; exact (hs.own.too [4, 5, 6, 7, 8, 9, 10] 11)
              refine ⟨fun _ => hcl, ?_⟩
              obtain ⟨h_89, hm⟩ := ite_t hm
              refine qsA 10 0 v_83.1 hs rfl h_89 rfl fun a w hs => ?_
              replace hcl : Ow κ w C_80 := by rw [hC_80]; exact (hs.own.too [4, 5, 6, 7, 8, 9, 10] 11)
              refine ⟨fun _ => hcl, ?_⟩
              obtain ⟨h_90, hm⟩ := ite_t hm
              refine qsA 11 2 v_87.1 hs rfl h_90 rfl fun a w hs => ?_
              refine ⟨fun h => absurd h (by decide), ?_⟩
              replace hs := hs.pick [1, 2, 4, 14, 16, 17, 18, 19, 20, 21, 22] (L' := [(1, .slice A_x1 x1.length c_x1), (2, .slice A_x2 x2.length c_x2), (4, vw p_42), (14, pp b_32), (16, vi (IntKind.i64.wrap (8 + (Int.tmod (IntKind.i64.wrap x3) 4)))), (17, pp b_57), (18, pp b_59), (19, pp b_75), (20, pp b_77), (21, pp b_88), (22, pp b_84)]) (by kernel_rfl)
              refine Vk.dDone (by kernel_rfl) ?_
              exact hj79 v_83.2 v_87.2 v_83.1 v_87.1 hm b_88 b_84 _ _ (hs.go [1, 2, 4, 14, 16, 17, 18, 19, 20, 21, 22] [4, 3, 1, 5, 6, 7, 8, 9, 10, 0, 2] 11 (by kernel_rfl) (by kernel_rfl) (by kernel_rfl))
            ·exact by
              refine Vk.alloc 21 37 [ci 0, ci 0, ci 0, ci 0, ci 0, ci 0, ci 0, ci 0, ci 0, ci 0, ci 0, ci 0, ci 0, ci 0, ci 0, ci 0, ci 0, ci 0, ci 0, ci 0, ci 0, ci 0, ci 0, ci 0] hs (by kernel_rfl) (by kernel_rfl) (by kernel_rfl) fun b_85 w a hs => ?_
              replace hcl : Ow κ w C_80 := by rw [hC_80]; exact (hs.own.too [3, 5, 6, 7, 8, 9, 10] 11)
              refine ⟨fun _ => hcl, ?_⟩
              obtain ⟨v_88, h_87, hm⟩ := bind_t hm
              refine qdc 7 (visorref33_Encode.ok _ _ _ _ h_87 _ _ _ br15x0x_27 A_x2 c_x2 hx_x2.less.less.less.less.less.less.less.less.less.less hs.own.f4) hs fun w a hs => ?_
              replace hcl : Ow κ w C_80 := by rw [hC_80]; exact (hs.own.too [4, 5, 6, 7, 8, 9, 10] 11)
              refine ⟨fun _ => hcl, ?_⟩
              obtain ⟨h_89, hm⟩ := ite_t hm
              refine qsA 10 1 v_83.1 hs rfl h_89 rfl fun a w hs => ?_
              replace hcl : Ow κ w C_80 := by rw [hC_80]; exact (hs.own.too [4, 5, 6, 7, 8, 9, 10] 11)
              refine ⟨fun _ => hcl, ?_⟩
              obtain ⟨h_90, hm⟩ := ite_t hm
              refine qsA 11 2 v_88.1 hs rfl h_90 rfl fun a w hs => ?_
              refine ⟨fun h => absurd h (by decide), ?_⟩
              replace hs := hs.pick [1, 2, 4, 14, 16, 17, 18, 19, 20, 21, 22] (L' := [(1, .slice A_x1 x1.length c_x1), (2, .slice A_x2 x2.length c_x2), (4, vw p_42), (14, pp b_32), (16, vi (IntKind.i64.wrap (8 + (Int.tmod (IntKind.i64.wrap x3) 4)))), (17, pp b_57), (18, pp b_59), (19, pp b_75), (20, pp b_77), (21, pp b_85), (22, pp b_84)]) (by kernel_rfl)
              refine Vk.dDone (by kernel_rfl) ?_
              exact hj79 v_83.2 v_88.2 v_83.1 v_88.1 hm b_85 b_84 _ _ (hs.go [1, 2, 4, 14, 16, 17, 18, 19, 20, 21, 22] [4, 3, 0, 5, 6, 7, 8, 9, 10, 1, 2] 11 (by kernel_rfl) (by kernel_rfl) (by kernel_rfl))
        ·exact by
          refine Vk.alloc 21 37 [ci 0, ci 0, ci 0, ci 0, ci 0, ci 0, ci 0, ci 0, ci 0, ci 0, ci 0, ci 0, ci 0, ci 0, ci 0, ci 0, ci 0, ci 0, ci 0, ci 0, ci 0, ci 0, ci 0, ci 0] hs (by kernel_rfl) (by kernel_rfl) (by kernel_rfl) fun b_81 w a hs => ?_
          replace hcl := qO hC_80 hs.own.f3.drop.f2.drop.drop
          refine ⟨fun _ => hcl, ?_⟩
          refine Vk.dMany2 (i0 := 3) (i1 := 9) (by kernel_rfl) ?_ ?_
          ·exact by
            obtain ⟨v_84, h_83, hm⟩ := bind_t hm
            refine qco (slice_Encode.ok _ _ _ _ h_83 _ _ _ br15x0m_26 A_x2 c_x2 hx_x2.less.less.less.less.less.less.less.less.less hs.own.f2) hs fun w a hs => ?_
            replace hcl := qO hC_80 hs.own.f3.drop.f1.drop.drop
            refine ⟨fun _ => hcl, ?_⟩
            refine Vk.dMany2 (i0 := 7) (i1 := 9) (by kernel_rfl) ?_ ?_
            ·exact by
              obtain ⟨v_87, h_86, hm⟩ := bind_t hm
              refine qco (visorref33_Encode.ok _ _ _ _ h_86 _ _ _ br15x0x_27 A_x2 c_x2 hx_x2.less.less.less.less.less.less.less.less.less hs.own.f3) hs fun w a hs => ?_
              replace hcl := qO hC_80 hs.own.f2.drop.f1.drop.drop
              refine ⟨fun _ => hcl, ?_⟩
              refine Vk.dOnly (i := 9) (by kernel_rfl) (Vk.alloc 22 37 [ci 0, ci 0, ci 0, ci 0, ci 0, ci 0, ci 0, ci 0, ci 0, ci 0, ci 0, ci 0, ci 0, ci 0, ci 0, ci 0, ci 0, ci 0, ci 0, ci 0, ci 0, ci 0, ci 0, ci 0] hs (by kernel_rfl) (by kernel_rfl) (by kernel_rfl) fun b_88 w a hs => ?_)
              replace hcl : Ow κ w C_80 := by rw [hC_80]; exact (hs.own.too [4, 5, 6, 7, 8, 9, 10] 11)
              refine ⟨fun _ => hcl, ?_⟩
              obtain ⟨h_89, hm⟩ := ite_t hm
              refine qsA 10 3 v_84.1 hs rfl h_89 rfl fun a w hs => ?_
              replace hcl : Ow κ w C_80 := by rw [hC_80]; exact (hs.own.too [4, 5, 6, 7, 8, 9, 10] 11)
              refine ⟨fun _ => hcl, ?_⟩
              obtain ⟨h_90, hm⟩ := ite_t hm
              refine qsA 11 0 v_87.1 hs rfl h_90 rfl fun a w hs => ?_
              refine ⟨fun h => absurd h (by decide), ?_⟩
              replace hs := hs.pick [1, 2, 4, 14, 16, 17, 18, 19, 20, 21, 22] (L' := [(1, .slice A_x1 x1.length c_x1), (2, .slice A_x2 x2.length c_x2), (4, vw p_42), (14, pp b_32), (16, vi (IntKind.i64.wrap (8 + (Int.tmod (IntKind.i64.wrap x3) 4)))), (17, pp b_57), (18, pp b_59), (19, pp b_75), (20, pp b_77), (21, pp b_81), (22, pp b_88)]) (by kernel_rfl)
              refine Vk.dDone (by kernel_rfl) ?_
              exact hj79 v_84.2 v_87.2 v_84.1 v_87.1 hm b_81 b_88 _ _ (hs.go [1, 2, 4, 14, 16, 17, 18, 19, 20, 21, 22] [4, 2, 1, 5, 6, 7, 8, 9, 10, 3, 0] 11 (by kernel_rfl) (by kernel_rfl) (by kernel_rfl))
            ·exact by
              refine Vk.alloc 22 37 [ci 0, ci 0, ci 0, ci 0, ci 0, ci 0, ci 0, ci 0, ci 0, ci 0, ci 0, ci 0, ci 0, ci 0, ci 0, ci 0, ci 0, ci 0, ci 0, ci 0, ci 0, ci 0, ci 0, ci 0] hs (by kernel_rfl) (by kernel_rfl) (by kernel_rfl) fun b_85 w a hs => ?_
              replace hcl : Ow κ w C_80 := by rw [hC_80]; exact (hs.own.too [3, 5, 6, 7, 8, 9, 10] 11)
              refine ⟨fun _ => hcl, ?_⟩
              obtain ⟨v_88, h_87, hm⟩ := bind_t hm
              refine qdc 7 (visorref33_Encode.ok _ _ _ _ h_87 _ _ _ br15x0x_27 A_x2 c_x2 hx_x2.less.less.less.less.less.less.less.less.less.less hs.own.f4) hs fun w a hs => ?_
              replace hcl : Ow κ w C_80 := by rw [hC_80]; exact (hs.own.too [4, 5, 6, 7, 8, 9, 10] 11)
              refine ⟨fun _ => hcl, ?_⟩
              obtain ⟨h_89, hm⟩ := ite_t hm
              refine qsA 10 3 v_84.1 hs rfl h_89 rfl fun a w hs => ?_
              replace hcl : Ow κ w C_80 := by rw [hC_80]; exact (hs.own.too [4, 5, 6, 7, 8, 9, 10] 11)
              refine ⟨fun _ => hcl, ?_⟩
              obtain ⟨h_90, hm⟩ := ite_t hm
              refine qsA 11 1 v_88.1 hs rfl h_90 rfl fun a w hs => ?_
              refine ⟨fun h => absurd h (by decide), ?_⟩
              replace hs := hs.pick [1, 2, 4, 14, 16, 17, 18, 19, 20, 21, 22] (L' := [(1, .slice A_x1 x1.length c_x1), (2, .slice A_x2 x2.length c_x2), (4, vw p_42), (14, pp b_32), (16, vi (IntKind.i64.wrap (8 + (Int.tmod (IntKind.i64.wrap x3) 4)))), (17, pp b_57), (18, pp b_59), (19, pp b_75), (20, pp b_77), (21, pp b_81), (22, pp b_85)]) (by kernel_rfl)
              refine Vk.dDone (by kernel_rfl) ?_
              exact hj79 v_84.2 v_88.2 v_84.1 v_88.1 hm b_81 b_85 _ _ (hs.go [1, 2, 4, 14, 16, 17, 18, 19, 20, 21, 22] [4, 2, 0, 5, 6, 7, 8, 9, 10, 3, 1] 11 (by kernel_rfl) (by kernel_rfl) (by kernel_rfl))
          ·exact by
            refine Vk.alloc 22 37 [ci 0, ci 0, ci 0, ci 0, ci 0, ci 0, ci 0, ci 0, ci 0, ci 0, ci 0, ci 0, ci 0, ci 0, ci 0, ci 0, ci 0, ci 0, ci 0, ci 0, ci 0, ci 0, ci 0, ci 0] hs (by kernel_rfl) (by kernel_rfl) (by kernel_rfl) fun b_82 w a hs => ?_
            replace hcl : Ow κ w C_80 := by rw [hC_80]; exact (hs.own.too [2, 5, 6, 7, 8, 9, 10] 11)
            refine ⟨fun _ => hcl, ?_⟩
            obtain ⟨v_85, h_84, hm⟩ := bind_t hm
            refine qdc 3 (slice_Encode.ok _ _ _ _ h_84 _ _ _ br15x0m_26 A_x2 c_x2 hx_x2.less.less.less.less.less.less.less.less.less.less hs.own.f3) hs fun w a hs => ?_
            replace hcl : Ow κ w C_80 := by rw [hC_80]; exact (hs.own.too [3, 5, 6, 7, 8, 9, 10] 11)
            refine ⟨fun _ => hcl, ?_⟩
            obtain ⟨v_88, h_87, hm⟩ := bind_t hm
            refine qdc 7 (visorref33_Encode.ok _ _ _ _ h_87 _ _ _ br15x0x_27 A_x2 c_x2 hx_x2.less.less.less.less.less.less.less.less.less.less hs.own.f4) hs fun w a hs => ?_
            replace hcl : Ow κ w C_80 := by rw [hC_80]; exact (hs.own.too [4, 5, 6, 7, 8, 9, 10] 11)
            refine ⟨fun _ => hcl, ?_⟩
            obtain ⟨h_89, hm⟩ := ite_t hm
            refine qsA 10 3 v_85.1 hs rfl h_89 rfl fun a w hs => ?_
            replace hcl : Ow κ w C_80 := by rw [hC_80]; exact (hs.own.too [4, 5, 6, 7, 8, 9, 10] 11)
            refine ⟨fun _ => hcl, ?_⟩
            obtain ⟨h_90, hm⟩ := ite_t hm
            refine qsA 11 2 v_88.1 hs rfl h_90 rfl fun a w hs => ?_
            refine ⟨fun h => absurd h (by decide), ?_⟩
            replace hs := hs.pick [1, 2, 4, 14, 16, 17, 18, 19, 20, 21, 22] (L' := [(1, .slice A_x1 x1.length c_x1), (2, .slice A_x2 x2.length c_x2), (4, vw p_42), (14, pp b_32), (16, vi (IntKind.i64.wrap (8 + (Int.tmod (IntKind.i64.wrap x3) 4)))), (17, pp b_57), (18, pp b_59), (19, pp b_75), (20, pp b_77), (21, pp b_81), (22, pp b_82)]) (by kernel_rfl)
            refine Vk.dDone (by kernel_rfl) ?_
            exact hj79 v_85.2 v_88.2 v_85.1 v_88.1 hm b_81 b_82 _ _ (hs.go [1, 2, 4, 14, 16, 17, 18, 19, 20, 21, 22] [4, 1, 0, 5, 6, 7, 8, 9, 10, 3, 2] 11 (by kernel_rfl) (by kernel_rfl) (by kernel_rfl))
        ·exact by
          refine Vk.alloc 22 37 [ci 0, ci 0, ci 0, ci 0, ci 0, ci 0, ci 0, ci 0, ci 0, ci 0, ci 0, ci 0, ci 0, ci 0, ci 0, ci 0, ci 0, ci 0, ci 0, ci 0, ci 0, ci 0, ci 0, ci 0] hs (by kernel_rfl) (by kernel_rfl) (by kernel_rfl) fun b_81 w a hs => ?_
          replace hcl := qO hC_80 hs.own.f3.drop.f2.drop.drop
          refine ⟨fun _ => hcl, ?_⟩
          refine Vk.dMany2 (i0 := 3) (i1 := 8) (by kernel_rfl) ?_ ?_
          ·exact by
            obtain ⟨v_84, h_83, hm⟩ := bind_t hm
            refine qco (slice_Encode.ok _ _ _ _ h_83 _ _ _ br15x0m_26 A_x2 c_x2 hx_x2.less.less.less.less.less.less.less.less.less hs.own.f2) hs fun w a hs => ?_
            replace hcl := qO hC_80 hs.own.f3.drop.f1.drop.drop
            refine ⟨fun _ => hcl, ?_⟩
            refine Vk.dMany2 (i0 := 7) (i1 := 8) (by kernel_rfl) ?_ ?_
            ·exact by
              obtain ⟨v_87, h_86, hm⟩ := bind_t hm
              refine qco (visorref33_Encode.ok _ _ _ _ h_86 _ _ _ br15x0x_27 A_x2 c_x2 hx_x2.less.less.less.less.less.less.less.less.less hs.own.f3) hs fun w a hs => ?_
              replace hcl := qO hC_80 hs.own.f2.drop.f1.drop.drop
              refine ⟨fun _ => hcl, ?_⟩
              refine Vk.dOnly (i := 8) (by kernel_rfl) (Vk.alloc 21 37 [ci 0, ci 0, ci 0, ci 0, ci 0, ci 0, ci 0, ci 0, ci 0, ci 0, ci 0, ci 0, ci 0, ci 0, ci 0, ci 0, ci 0, ci 0, ci 0, ci 0, ci 0, ci 0, ci 0, ci 0] hs (by kernel_rfl) (by kernel_rfl) (by kernel_rfl) fun b_88 w a hs => ?_)
              replace hcl : Ow κ w C_80 := by rw [hC_80]; exact (hs.own.too [4, 5, 6, 7, 8, 9, 10] 11)
              refine ⟨fun _ => hcl, ?_⟩
              obtain ⟨h_89, hm⟩ := ite_t hm
              refine qsA 10 0 v_84.1 hs rfl h_89 rfl fun a w hs => ?_
              replace hcl : Ow κ w C_80 := by rw [hC_80]; exact (hs.own.too [4, 5, 6, 7, 8, 9, 10] 11)
              refine ⟨fun _ => hcl, ?_⟩
              obtain ⟨h_90, hm⟩ := ite_t hm
              refine qsA 11 3 v_87.1 hs rfl h_90 rfl fun a w hs => ?_
              refine ⟨fun h => absurd h (by decide), ?_⟩
              replace hs := hs.pick [1, 2, 4, 14, 16, 17, 18, 19, 20, 21, 22] (L' := [(1, .slice A_x1 x1.length c_x1), (2, .slice A_x2 x2.length c_x2), (4, vw p_42), (14, pp b_32), (16, vi (IntKind.i64.wrap (8 + (Int.tmod (IntKind.i64.wrap x3) 4)))), (17, pp b_57), (18, pp b_59), (19, pp b_75), (20, pp b_77), (21, pp b_88), (22, pp b_81)]) (by kernel_rfl)
              refine Vk.dDone (by kernel_rfl) ?_
              exact hj79 v_84.2 v_87.2 v_84.1 v_87.1 hm b_88 b_81 _ _ (hs.go [1, 2, 4, 14, 16, 17, 18, 19, 20, 21, 22] [4, 2, 1, 5, 6, 7, 8, 9, 10, 0, 3] 11 (by kernel_rfl) (by kernel_rfl) (by kernel_rfl))
            ·exact by
              refine Vk.alloc 21 37 [ci 0, ci 0, ci 0, ci 0, ci 0, ci 0, ci 0, ci 0, ci 0, ci 0, ci 0, ci 0, ci 0, ci 0, ci 0, ci 0, ci 0, ci 0, ci 0, ci 0, ci 0, ci 0, ci 0, ci 0] hs (by kernel_rfl) (by kernel_rfl) (by kernel_rfl) fun b_85 w a hs => ?_
              replace hcl : Ow κ w C_80 := by rw [hC_80]; exact (hs.own.too [3, 5, 6, 7, 8, 9, 10] 11)
              refine ⟨fun _ => hcl, ?_⟩
              obtain ⟨v_88, h_87, hm⟩ := bind_t hm
              refine qdc 7 (visorref33_Encode.ok _ _ _ _ h_87 _ _ _ br15x0x_27 A_x2 c_x2 hx_x2.less.less.less.less.less.less.less.less.less.less hs.own.f4) hs fun w a hs => ?_
              replace hcl : Ow κ w C_80 := by rw [hC_80]; exact (hs.own.too [4, 5, 6, 7, 8, 9, 10] 11)
              refine ⟨fun _ => hcl, ?_⟩
              obtain ⟨h_89, hm⟩ := ite_t hm
              refine qsA 10 1 v_84.1 hs rfl h_89 rfl fun a w hs => ?_
              replace hcl : Ow κ w C_80 := by rw [hC_80]; exact (hs.own.too [4, 5, 6, 7, 8, 9, 10] 11)
              refine ⟨fun _ => hcl, ?_⟩
              obtain ⟨h_90, hm⟩ := ite_t hm
              refine qsA 11 3 v_88.1 hs rfl h_90 rfl fun a w hs => ?_
              refine ⟨fun h => absurd h (by decide), ?_⟩
              replace hs := hs.pick [1, 2, 4, 14, 16, 17, 18, 19, 20, 21, 22] (L' := [(1, .slice A_x1 x1.length c_x1), (2, .slice A_x2 x2.length c_x2), (4, vw p_42), (14, pp b_32), (16, vi (IntKind.i64.wrap (8 + (Int.tmod (IntKind.i64.wrap x3) 4)))), (17, pp b_57), (18, pp b_59), (19, pp b_75), (20, pp b_77), (21, pp b_85), (22, pp b_81)]) (by kernel_rfl)
              refine Vk.dDone (by kernel_rfl) ?_
              exact hj79 v_84.2 v_88.2 v_84.1 v_88.1 hm b_85 b_81 _ _ (hs.go [1, 2, 4, 14, 16, 17, 18, 19, 20, 21, 22] [4, 2, 0, 5, 6, 7, 8, 9, 10, 1, 3] 11 (by kernel_rfl) (by kernel_rfl) (by kernel_rfl))
          ·exact by
            refine Vk.alloc 21 37 [ci 0, ci 0, ci 0, ci 0, ci 0, ci 0, ci 0, ci 0, ci 0, ci 0, ci 0, ci 0, ci 0, ci 0, ci 0, ci 0, ci 0, ci 0, ci 0, ci 0, ci 0, ci 0, ci 0, ci 0] hs (by kernel_rfl) (by kernel_rfl) (by kernel_rfl) fun b_82 w a hs => ?_
            replace hcl : Ow κ w C_80 := by rw [hC_80]; exact (hs.own.too [2, 5, 6, 7, 8, 9, 10] 11)
            refine ⟨fun _ => hcl, ?_⟩
            obtain ⟨v_85, h_84, hm⟩ := bind_t hm
            refine qdc 3 (slice_Encode.ok _ _ _ _ h_84 _ _ _ br15x0m_26 A_x2 c_x2 hx_x2.less.less.less.less.less.less.less.less.less.less hs.own.f3) hs fun w a hs => ?_
            replace hcl : Ow κ w C_80 := by rw [hC_80]; exact (hs.own.too [3, 5, 6, 7, 8, 9, 10] 11)
            refine ⟨fun _ => hcl, ?_⟩
            obtain ⟨v_88, h_87, hm⟩ := bind_t hm
            refine qdc 7 (visorref33_Encode.ok _ _ _ _ h_87 _ _ _ br15x0x_27 A_x2 c_x2 hx_x2.less.less.less.less.less.less.less.less.less.less hs.own.f4) hs fun w a hs => ?_
            replace hcl : Ow κ w C_80 := by rw [hC_80]; exact (hs.own.too [4, 5, 6, 7, 8, 9, 10] 11)
            refine ⟨fun _ => hcl, ?_⟩
            obtain ⟨h_89, hm⟩ := ite_t hm
            refine qsA 10 2 v_85.1 hs rfl h_89 rfl fun a w hs => ?_
            replace hcl : Ow κ w C_80 := by rw [hC_80]; exact (hs.own.too [4, 5, 6, 7, 8, 9, 10] 11)
            refine ⟨fun _ => hcl, ?_⟩
            obtain ⟨h_90, hm⟩ := ite_t hm
            refine qsA 11 3 v_88.1 hs rfl h_90 rfl fun a w hs => ?_
            refine ⟨fun h => absurd h (by decide), ?_⟩
            replace hs := hs.pick [1, 2, 4, 14, 16, 17, 18, 19, 20, 21, 22] (L' := [(1, .slice A_x1 x1.length c_x1), (2, .slice A_x2 x2.length c_x2), (4, vw p_42), (14, pp b_32), (16, vi (IntKind.i64.wrap (8 + (Int.tmod (IntKind.i64.wrap x3) 4)))), (17, pp b_57), (18, pp b_59), (19, pp b_75), (20, pp b_77), (21, pp b_82), (22, pp b_81)]) (by kernel_rfl)
            refine Vk.dDone (by kernel_rfl) ?_
            exact hj79 v_85.2 v_88.2 v_85.1 v_88.1 hm b_82 b_81 _ _ (hs.go [1, 2, 4, 14, 16, 17, 18, 19, 20, 21, 22] [4, 1, 0, 5, 6, 7, 8, 9, 10, 2, 3] 11 (by kernel_rfl) (by kernel_rfl) (by kernel_rfl))
       obtain ⟨C_62, hC_62⟩ := qC hs.own.f2.drop.f1.drop
       refine qdr 11 κ C_62 hs fun w hs hqC_62 => ?_
       have hcl := qO hC_62 hs.own.f2.drop.f1.drop
       refine qdp (fuel := 8) [0, 2, 4, 6] hs hcl hqC_62 fun a hs => ?_
       refine qdl 1 0 (cp br15x0m_26) hs hcl hqC_62 hC_62 rfl fun a hs => ?_
       refine qdl 5 0 (cp br15x0x_27) hs hcl hqC_62 hC_62 rfl fun a hs => ?_
       refine Vk.dMany3 (i0 := 3) (i1 := 8) (i2 := 9) (by kernel_rfl) ?_ ?_ ?_
       ·exact by
         obtain ⟨v_65, h_64, hm⟩ := bind_t hm
         refine qco (slice_Told.ok _ _ _ _ h_64 _ _ _ br15x0m_26 A_x2 c_x2 hx_x2.less.less.less.less.less.less hs.own.f1) hs fun w a hs => ?_
         replace hcl := qO hC_62 hs.own.f2.drop.drop
         refine ⟨fun _ => hcl, ?_⟩
         refine Vk.dMany3 (i0 := 7) (i1 := 8) (i2 := 9) (by kernel_rfl) ?_ ?_ ?_
         ·exact by
           obtain ⟨v_68, h_67, hm⟩ := bind_t hm
           refine qco (visorref33_Const.ok _ _ _ _ _ h_67 _ _ _ br15x0x_27 A_x2 c_x2 hx_x2.less.less.less.less.less.less hs.own.f2) hs fun w a hs => ?_
           replace hcl := qO hC_62 hs.own.f1.drop.drop
           refine ⟨fun _ => hcl, ?_⟩
           refine Vk.dMany2 (i0 := 8) (i1 := 9) (by kernel_rfl) ?_ ?_
           ·exact by
             refine Vk.alloc 19 37 [ci 0, ci 0, ci 0, ci 0, ci 0, ci 0, ci 0, ci 0, ci 0, ci 0, ci 0, ci 0, ci 0, ci 0, ci 0, ci 0, ci 0, ci 0, ci 0, ci 0, ci 0, ci 0, ci 0, ci 0] hs (by kernel_rfl) (by kernel_rfl) (by kernel_rfl) fun b_69 w a hs => ?_
             replace hcl := qO hC_62 hs.own.f2.drop.f1.drop.drop
             refine ⟨fun _ => hcl, ?_⟩
             refine Vk.dOnly (i := 9) (by kernel_rfl) (Vk.alloc 20 37 [ci 0, ci 0, ci 0, ci 0, ci 0, ci 0, ci 0, ci 0, ci 0, ci 0, ci 0, ci 0, ci 0, ci 0, ci 0, ci 0, ci 0, ci 0, ci 0, ci 0, ci 0, ci 0, ci 0, ci 0] hs (by kernel_rfl) (by kernel_rfl) (by kernel_rfl) fun b_70 w a hs => ?_)
             replace hcl : Ow κ w C_62 := by rw [hC_62]; exact (hs.own.too [4, 5, 6, 7, 8] 9)
             refine ⟨fun _ => hcl, ?_⟩
             obtain ⟨h_71, hm⟩ := ite_t hm
             refine qsA 10 1 v_65.1 hs rfl h_71 rfl fun a w hs => ?_
             replace hcl : Ow κ w C_62 := by rw [hC_62]; exact (hs.own.too [4, 5, 6, 7, 8] 9)
             refine ⟨fun _ => hcl, ?_⟩
             obtain ⟨h_72, hm⟩ := ite_t hm
             refine qsA 11 0 v_68.1 hs rfl h_72 rfl fun a w hs => ?_
             refine ⟨fun h => absurd h (by decide), ?_⟩
             replace hs := hs.pick [1, 2, 4, 14, 16, 17, 18, 19, 20] (L' := [(1, .slice A_x1 x1.length c_x1), (2, .slice A_x2 x2.length c_x2), (4, vw p_42), (14, pp b_32), (16, vi (IntKind.i64.wrap (8 + (Int.tmod (IntKind.i64.wrap x3) 4)))), (17, pp b_57), (18, pp b_59), (19, pp b_69), (20, pp b_70)]) (by kernel_rfl)
             refine Vk.dDone (by kernel_rfl) ?_
             exact hj61 v_65.2 v_68.2 v_65.1 v_68.1 hm b_69 b_70 _ _ (hs.go [1, 2, 4, 14, 16, 17, 18, 19, 20] [4, 3, 2, 5, 6, 7, 8, 1, 0] 9 (by kernel_rfl) (by kernel_rfl) (by kernel_rfl))
           ·exact by
             refine Vk.alloc 20 37 [ci 0, ci 0, ci 0, ci 0, ci 0, ci 0, ci 0, ci 0, ci 0, ci 0, ci 0, ci 0, ci 0, ci 0, ci 0, ci 0, ci 0, ci 0, ci 0, ci 0, ci 0, ci 0, ci 0, ci 0] hs (by kernel_rfl) (by kernel_rfl) (by kernel_rfl) fun b_69 w a hs => ?_
             replace hcl := qO hC_62 hs.own.f2.drop.f1.drop.drop
             refine ⟨fun _ => hcl, ?_⟩
             refine Vk.dOnly (i := 8) (by kernel_rfl) (Vk.alloc 19 37 [ci 0, ci 0, ci 0, ci 0, ci 0, ci 0, ci 0, ci 0, ci 0, ci 0, ci 0, ci 0, ci 0, ci 0, ci 0, ci 0, ci 0, ci 0, ci 0, ci 0, ci 0, ci 0, ci 0, ci 0] hs (by kernel_rfl) (by kernel_rfl) (by kernel_rfl) fun b_70 w a hs => ?_)
             replace hcl : Ow κ w C_62 := by rw [hC_62]; exact (hs.own.too [4, 5, 6, 7, 8] 9)
             refine ⟨fun _ => hcl, ?_⟩
             obtain ⟨h_71, hm⟩ := ite_t hm
             refine qsA 10 0 v_65.1 hs rfl h_71 rfl fun a w hs => ?_
             replace hcl : Ow κ w C_62 := by rw [hC_62]; exact (hs.own.too [4, 5, 6, 7, 8] 9)
             refine ⟨fun _ => hcl, ?_⟩
             obtain ⟨h_72, hm⟩ := ite_t hm
             refine qsA 11 1 v_68.1 hs rfl h_72 rfl fun a w hs => ?_
             refine ⟨fun h => absurd h (by decide), ?_⟩
             replace hs := hs.pick [1, 2, 4, 14, 16, 17, 18, 19, 20] (L' := [(1, .slice A_x1 x1.length c_x1), (2, .slice A_x2 x2.length c_x2), (4, vw p_42), (14, pp b_32), (16, vi (IntKind.i64.wrap (8 + (Int.tmod (IntKind.i64.wrap x3) 4)))), (17, pp b_57), (18, pp b_59), (19, pp b_70), (20, pp b_69)]) (by kernel_rfl)
             refine Vk.dDone (by kernel_rfl) ?_
             exact hj61 v_65.2 v_68.2 v_65.1 v_68.1 hm b_70 b_69 _ _ (hs.go [1, 2, 4, 14, 16, 17, 18, 19, 20] [4, 3, 2, 5, 6, 7, 8, 0, 1] 9 (by kernel_rfl) (by kernel_rfl) (by kernel_rfl))
         ·exact by
           refine Vk.alloc 19 37 [ci 0, ci 0, ci 0, ci 0, ci 0, ci 0, ci 0, ci 0, ci 0, ci 0, ci 0, ci 0, ci 0, ci 0, ci 0, ci 0, ci 0, ci 0, ci 0, ci 0, ci 0, ci 0, ci 0, ci 0] hs (by kernel_rfl) (by kernel_rfl) (by kernel_rfl) fun b_66 w a hs => ?_
           replace hcl := qO hC_62 hs.own.f3.drop.f1.drop.drop
           refine ⟨fun _ => hcl, ?_⟩
           refine Vk.dMany2 (i0 := 7) (i1 := 9) (by kernel_rfl) ?_ ?_
           ·exact by
             obtain ⟨v_69, h_68, hm⟩ := bind_t hm
             refine qco (visorref33_Const.ok _ _ _ _ _ h_68 _ _ _ br15x0x_27 A_x2 c_x2 hx_x2.less.less.less.less.less.less.less hs.own.f3) hs fun w a hs => ?_
             replace hcl := qO hC_62 hs.own.f2.drop.f1.drop.drop
             refine ⟨fun _ => hcl, ?_⟩
             refine Vk.dOnly (i := 9) (by kernel_rfl) (Vk.alloc 20 37 [ci 0, ci 0, ci 0, ci 0, ci 0, ci 0, ci 0, ci 0, ci 0, ci 0, ci 0, ci 0, ci 0, ci 0, ci 0, ci 0, ci 0, ci 0, ci 0, ci 0, ci 0, ci 0, ci 0, ci 0] hs (by kernel_rfl) (by kernel_rfl) (by kernel_rfl) fun b_70 w a hs => ?_)
             replace hcl : Ow κ w C_62 := by rw [hC_62]; exact (hs.own.too [4, 5, 6, 7, 8] 9)
             refine ⟨fun _ => hcl, ?_⟩
             obtain ⟨h_71, hm⟩ := ite_t hm
             refine qsA 10 2 v_65.1 hs rfl h_71 rfl fun a w hs => ?_
             replace hcl : Ow κ w C_62 := by rw [hC_62]; exact (hs.own.too [4, 5, 6, 7, 8] 9)
             refine ⟨fun _ => hcl, ?_⟩
             obtain ⟨h_72, hm⟩ := ite_t hm
             refine qsA 11 0 v_69.1 hs rfl h_72 rfl fun a w hs => ?_
             refine ⟨fun h => absurd h (by decide), ?_⟩
             replace hs := hs.pick [1, 2, 4, 14, 16, 17, 18, 19, 20] (L' := [(1, .slice A_x1 x1.length c_x1), (2, .slice A_x2 x2.length c_x2), (4, vw p_42), (14, pp b_32), (16, vi (IntKind.i64.wrap (8 + (Int.tmod (IntKind.i64.wrap x3) 4)))), (17, pp b_57), (18, pp b_59), (19, pp b_66), (20, pp b_70)]) (by kernel_rfl)
             refine Vk.dDone (by kernel_rfl) ?_
             exact hj61 v_65.2 v_69.2 v_65.1 v_69.1 hm b_66 b_70 _ _ (hs.go [1, 2, 4, 14, 16, 17, 18, 19, 20] [4, 3, 1, 5, 6, 7, 8, 2, 0] 9 (by kernel_rfl) (by kernel_rfl) (by kernel_rfl))
           ·exact by
             refine Vk.alloc 20 37 [ci 0, ci 0, ci 0, ci 0, ci 0, ci 0, ci 0, ci 0, ci 0, ci 0, ci 0, ci 0, ci 0, ci 0, ci 0, ci 0, ci 0, ci 0, ci 0, ci 0, ci 0, ci 0, ci 0, ci 0] hs (by kernel_rfl) (by kernel_rfl) (by kernel_rfl) fun b_67 w a hs => ?_
             replace hcl : Ow κ w C_62 := by rw [hC_62]; exact (hs.own.too [3, 5, 6, 7, 8] 9)
             refine ⟨fun _ => hcl, ?_⟩
             obtain ⟨v_70, h_69, hm⟩ := bind_t hm
             refine qdc 7 (visorref33_Const.ok _ _ _ _ _ h_69 _ _ _ br15x0x_27 A_x2 c_x2 hx_x2.less.less.less.less.less.less.less.less hs.own.f4) hs fun w a hs => ?_
             replace hcl : Ow κ w C_62 := by rw [hC_62]; exact (hs.own.too [4, 5, 6, 7, 8] 9)
             refine ⟨fun _ => hcl, ?_⟩
             obtain ⟨h_71, hm⟩ := ite_t hm
             refine qsA 10 2 v_65.1 hs rfl h_71 rfl fun a w hs => ?_
             replace hcl : Ow κ w C_62 := by rw [hC_62]; exact (hs.own.too [4, 5, 6, 7, 8] 9)
             refine ⟨fun _ => hcl, ?_⟩
             obtain ⟨h_72, hm⟩ := ite_t hm
             refine qsA 11 1 v_70.1 hs rfl h_72 rfl fun a w hs => ?_
             refine ⟨fun h => absurd h (by decide), ?_⟩
             replace hs := hs.pick [1, 2, 4, 14, 16, 17, 18, 19, 20] (L' := [(1, .slice A_x1 x1.length c_x1), (2, .slice A_x2 x2.length c_x2), (4, vw p_42), (14, pp b_32), (16, vi (IntKind.i64.wrap (8 + (Int.tmod (IntKind.i64.wrap x3) 4)))), (17, pp b_57), (18, pp b_59), (19, pp b_66), (20, pp b_67)]) (by kernel_rfl)
             refine Vk.dDone (by kernel_rfl) ?_
             exact hj61 v_65.2 v_70.2 v_65.1 v_70.1 hm b_66 b_67 _ _ (hs.go [1, 2, 4, 14, 16, 17, 18, 19, 20] [4, 3, 0, 5, 6, 7, 8, 2, 1] 9 (by kernel_rfl) (by kernel_rfl) (by kernel_rfl))
         ·exact by
           refine Vk.alloc 20 37 [ci 0, ci 0, ci 0, ci 0, ci 0, ci 0, ci 0, ci 0, ci 0, ci 0, ci 0, ci 0, ci 0, ci 0, ci 0, ci 0, ci 0, ci 0, ci 0, ci 0, ci 0, ci 0, ci 0, ci 0] hs (by kernel_rfl) (by kernel_rfl) (by kernel_rfl) fun b_66 w a hs => ?_
           replace hcl := qO hC_62 hs.own.f3.drop.f1.drop.drop
           refine ⟨fun _ => hcl, ?_⟩
           refine Vk.dMany2 (i0 := 7) (i1 := 8) (by kernel_rfl) ?_ ?_
           ·exact by
             obtain ⟨v_69, h_68, hm⟩ := bind_t hm
             refine qco (visorref33_Const.ok _ _ _ _ _ h_68 _ _ _ br15x0x_27 A_x2 c_x2 hx_x2.less.less.less.less.less.less.less hs.own.f3) hs fun w a hs => ?_
             replace hcl := qO hC_62 hs.own.f2.drop.f1.drop.drop
             refine ⟨fun _ => hcl, ?_⟩
             refine Vk.dOnly (i := 8) (by kernel_rfl) (Vk.alloc 19 37 [ci 0, ci 0, ci 0, ci 0, ci 0, ci 0, ci 0, ci 0, ci 0, ci 0, ci 0, ci 0, ci 0, ci 0, ci 0, ci 0, ci 0, ci 0, ci 0, ci 0, ci 0, ci 0, ci 0, ci 0] hs (by kernel_rfl) (by kernel_rfl) (by kernel_rfl) fun b_70 w a hs => ?_)
             replace hcl : Ow κ w C_62 := by rw [hC_62]; exact (hs.own.too [4, 5, 6, 7, 8] 9)
             refine ⟨fun _ => hcl, ?_⟩
             obtain ⟨h_71, hm⟩ := ite_t hm
             refine qsA 10 0 v_65.1 hs rfl h_71 rfl fun a w hs => ?_
             replace hcl : Ow κ w C_62 := by rw [hC_62]; exact (hs.own.too [4, 5, 6, 7, 8] 9)
             refine ⟨fun _ => hcl, ?_⟩
             obtain ⟨h_72, hm⟩ := ite_t hm
             refine qsA 11 2 v_69.1 hs rfl h_72 rfl fun a w hs => ?_
             refine ⟨fun h => absurd h (by decide), ?_⟩
             replace hs := hs.pick [1, 2, 4, 14, 16, 17, 18, 19, 20] (L' := [(1, .slice A_x1 x1.length c_x1), (2, .slice A_x2 x2.length c_x2), (4, vw p_42), (14, pp b_32), (16, vi (IntKind.i64.wrap (8 + (Int.tmod (IntKind.i64.wrap x3) 4)))), (17, pp b_57), (18, pp b_59), (19, pp b_70), (20, pp b_66)]) (by kernel_rfl)
             refine Vk.dDone (by kernel_rfl) ?_
             exact hj61 v_65.2 v_69.2 v_65.1 v_69.1 hm b_70 b_66 _ _ (hs.go [1, 2, 4, 14, 16, 17, 18, 19, 20] [4, 3, 1, 5, 6, 7, 8, 0, 2] 9 (by kernel_rfl) (by kernel_rfl) (by kernel_rfl))
           ·exact by
             refine Vk.alloc 19 37 [ci 0, ci 0, ci 0, ci 0, ci 0, ci 0, ci 0, ci 0, ci 0, ci 0, ci 0, ci 0, ci 0, ci 0, ci 0, ci 0, ci 0, ci 0, ci 0, ci 0, ci 0, ci 0, ci 0, ci 0] hs (by kernel_rfl) (by kernel_rfl) (by kernel_rfl) fun b_67 w a hs => ?_
             replace hcl : Ow κ w C_62 := by rw [hC_62]; exact (hs.own.too [3, 5, 6, 7, 8] 9)
             refine ⟨fun _ => hcl, ?_⟩
             obtain ⟨v_70, h_69, hm⟩ := bind_t hm
             refine qdc 7 (visorref33_Const.ok _ _ _ _ _ h_69 _ _ _ br15x0x_27 A_x2 c_x2 hx_x2.less.less.less.less.less.less.less.less hs.own.f4) hs fun w a hs => ?_
             replace hcl : Ow κ w C_62 := by rw [hC_62]; exact (hs.own.too [4, 5, 6, 7, 8] 9)
             refine ⟨fun _ => hcl, ?_⟩
             obtain ⟨h_71, hm⟩ := ite_t hm
             refine qsA 10 1 v_65.1 hs rfl h_71 rfl fun a w hs => ?_
             replace hcl : Ow κ w C_62 := by rw [hC_62]; exact (hs.own.too [4, 5, 6, 7, 8] 9)
             refine ⟨fun _ => hcl, ?_⟩
             obtain ⟨h_72, hm⟩ := ite_t hm
             refine qsA 11 2 v_70.1 hs rfl h_72 rfl fun a w hs => ?_
             refine ⟨fun h => absurd h (by decide), ?_⟩
             replace hs := hs.pick [1, 2, 4, 14, 16, 17, 18, 19, 20] (L' := [(1, .slice A_x1 x1.length c_x1), (2, .slice A_x2 x2.length c_x2), (4, vw p_42), (14, pp b_32), (16, vi (IntKind.i64.wrap (8 + (Int.tmod (IntKind.i64.wrap x3) 4)))), (17, pp b_57), (18, pp b_59), (19, pp b_67), (20, pp b_66)]) (by kernel_rfl)
             refine Vk.dDone (by kernel_rfl) ?_
             exact hj61 v_65.2 v_70.2 v_65.1 v_70.1 hm b_67 b_66 _ _ (hs.go [1, 2, 4, 14, 16, 17, 18, 19, 20] [4, 3, 0, 5, 6, 7, 8, 1, 2] 9 (by kernel_rfl) (by kernel_rfl) (by kernel_rfl))
       ·exact by
         refine Vk.alloc 19 37 [ci 0, ci 0, ci 0, ci 0, ci 0, ci 0, ci 0, ci 0, ci 0, ci 0, ci 0, ci 0, ci 0, ci 0, ci 0, ci 0, ci 0, ci 0, ci 0, ci 0, ci 0, ci 0, ci 0, ci 0] hs (by kernel_rfl) (by kernel_rfl) (by kernel_rfl) fun b_63 w a hs => ?_
         replace hcl := qO hC_62 hs.own.f3.drop.f2.drop.drop
         refine ⟨fun _ => hcl, ?_⟩
         refine Vk.dMany2 (i0 := 3) (i1 := 9) (by kernel_rfl) ?_ ?_
         ·exact by
           obtain ⟨v_66, h_65, hm⟩ := bind_t hm
           refine qco (slice_Told.ok _ _ _ _ h_65 _ _ _ br15x0m_26 A_x2 c_x2 hx_x2.less.less.less.less.less.less.less hs.own.f2) hs fun w a hs => ?_
           replace hcl := qO hC_62 hs.own.f3.drop.f1.drop.drop
           refine ⟨fun _ => hcl, ?_⟩
           refine Vk.dMany2 (i0 := 7) (i1 := 9) (by kernel_rfl) ?_ ?_
           ·exact by
             obtain ⟨v_69, h_68, hm⟩ := bind_t hm
             refine qco (visorref33_Const.ok _ _ _ _ _ h_68 _ _ _ br15x0x_27 A_x2 c_x2 hx_x2.less.less.less.less.less.less.less hs.own.f3) hs fun w a hs => ?_
             replace hcl := qO hC_62 hs.own.f2.drop.f1.drop.drop
             refine ⟨fun _ => hcl, ?_⟩
             refine Vk.dOnly (i := 9) (by kernel_rfl) (Vk.alloc 20 37 [ci 0, ci 0, ci 0, ci 0, ci 0, ci 0, ci 0, ci 0, ci 0, ci 0, ci 0, ci 0, ci 0, ci 0, ci 0, ci 0, ci 0, ci 0, ci 0, ci 0, ci 0, ci 0, ci 0, ci 0] hs (by kernel_rfl) (by kernel_rfl) (by kernel_rfl) fun b_70 w a hs => ?_)
             replace hcl : Ow κ w C_62 := by rw [hC_62]; exact (hs.own.too [4, 5, 6, 7, 8] 9)
             refine ⟨fun _ => hcl, ?_⟩
             obtain ⟨h_71, hm⟩ := ite_t hm
             refine qsA 10 3 v_66.1 hs rfl h_71 rfl fun a w hs => ?_
             replace hcl : Ow κ w C_62 := by rw [hC_62]; exact (hs.own.too [4, 5, 6, 7, 8] 9)
             refine ⟨fun _ => hcl, ?_⟩
             obtain ⟨h_72, hm⟩ := ite_t hm
             refine qsA 11 0 v_69.1 hs rfl h_72 rfl fun a w hs => ?_
             refine ⟨fun h => absurd h (by decide), ?_⟩
             replace hs := hs.pick [1, 2, 4, 14, 16, 17, 18, 19, 20] (L' := [(1, .slice A_x1 x1.length c_x1), (2, .slice A_x2 x2.length c_x2), (4, vw p_42), (14, pp b_32), (16, vi (IntKind.i64.wrap (8 + (Int.tmod (IntKind.i64.wrap x3) 4)))), (17, pp b_57), (18, pp b_59), (19, pp b_63), (20, pp b_70)]) (by kernel_rfl)
             refine Vk.dDone (by kernel_rfl) ?_
             exact hj61 v_66.2 v_69.2 v_66.1 v_69.1 hm b_63 b_70 _ _ (hs.go [1, 2, 4, 14, 16, 17, 18, 19, 20] [4, 2, 1, 5, 6, 7, 8, 3, 0] 9 (by kernel_rfl) (by kernel_rfl) (by kernel_rfl))
           ·exact by
             refine Vk.alloc 20 37 [ci 0, ci 0, ci 0, ci 0, ci 0, ci 0, ci 0, ci 0, ci 0, ci 0, ci 0, ci 0, ci 0, ci 0, ci 0, ci 0, ci 0, ci 0, ci 0, ci 0, ci 0, ci 0, ci 0, ci 0] hs (by kernel_rfl) (by kernel_rfl) (by kernel_rfl) fun b_67 w a hs => ?_
             replace hcl : Ow κ w C_62 := by rw [hC_62]; exact (hs.own.too [3, 5, 6, 7, 8] 9)
             refine ⟨fun _ => hcl, ?_⟩
             obtain ⟨v_70, h_69, hm⟩ := bind_t hm
             refine qdc 7 (visorref33_Const.ok _ _ _ _ _ h_69 _ _ _ br15x0x_27 A_x2 c_x2 hx_x2.less.less.less.less.less.less.less.less hs.own.f4) hs fun w a hs => ?_
             replace hcl : Ow κ w C_62 := by rw [hC_62]; exact (hs.own.too [4, 5, 6, 7, 8] 9)
             refine ⟨fun _ => hcl, ?_⟩
             obtain ⟨h_71, hm⟩ := ite_t hm
             refine qsA 10 3 v_66.1 hs rfl h_71 rfl fun a w hs => ?_
             replace hcl : Ow κ w C_62 := by rw [hC_62]; exact (hs.own.too [4, 5, 6, 7, 8] 9)
             refine ⟨fun _ => hcl, ?_⟩
             obtain ⟨h_72, hm⟩ := ite_t hm
             refine qsA 11 1 v_70.1 hs rfl h_72 rfl fun a w hs => ?_
             refine ⟨fun h => absurd h (by decide), ?_⟩
             replace hs := hs.pick [1, 2, 4, 14, 16, 17, 18, 19, 20] (L' := [(1, .slice A_x1 x1.length c_x1), (2, .slice A_x2 x2.length c_x2), (4, vw p_42), (14, pp b_32), (16, vi (IntKind.i64.wrap (8 + (Int.tmod (IntKind.i64.wrap x3) 4)))), (17, pp b_57), (18, pp b_59), (19, pp b_63), (20, pp b_67)]) (by kernel_rfl)
             refine Vk.dDone (by kernel_rfl) ?_
             exact hj61 v_66.2 v_70.2 v_66.1 v_70.1 hm b_63 b_67 _ _ (hs.go [1, 2, 4, 14, 16, 17, 18, 19, 20] [4, 2, 0, 5, 6, 7, 8, 3, 1] 9 (by kernel_rfl) (by kernel_rfl) (by kernel_rfl))
         ·exact by
           refine Vk.alloc 20 37 [ci 0, ci 0, ci 0, ci 0, ci 0, ci 0, ci 0, ci 0, ci 0, ci 0, ci 0, ci 0, ci 0, ci 0, ci 0, ci 0, ci 0, ci 0, ci 0, ci 0, ci 0, ci 0, ci 0, ci 0] hs (by kernel_rfl) (by kernel_rfl) (by kernel_rfl) fun b_64 w a hs => ?_
           replace hcl : Ow κ w C_62 := by rw [hC_62]; exact (hs.own.too [2, 5, 6, 7, 8] 9)
           refine ⟨fun _ => hcl, ?_⟩
           obtain ⟨v_67, h_66, hm⟩ := bind_t hm
           refine qdc 3 (slice_Told.ok _ _ _ _ h_66 _ _ _ br15x0m_26 A_x2 c_x2 hx_x2.less.less.less.less.less.less.less.less hs.own.f3) hs fun w a hs => ?_
           replace hcl : Ow κ w C_62 := by rw [hC_62]; exact (hs.own.too [3, 5, 6, 7, 8] 9)
           refine ⟨fun _ => hcl, ?_⟩
           obtain ⟨v_70, h_69, hm⟩ := bind_t hm
           refine qdc 7 (visorref33_Const.ok _ _ _ _ _ h_69 _ _ _ br15x0x_27 A_x2 c_x2 hx_x2.less.less.less.less.less.less.less.less hs.own.f4) hs fun w a hs => ?_
           replace hcl : Ow κ w C_62 := by rw [hC_62]; exact (hs.own.too [4, 5, 6, 7, 8] 9)
           refine ⟨fun _ => hcl, ?_⟩
           obtain ⟨h_71, hm⟩ := ite_t hm
           refine qsA 10 3 v_67.1 hs rfl h_71 rfl fun a w hs => ?_
           replace hcl : Ow κ w C_62 := by rw [hC_62]; exact (hs.own.too [4, 5, 6, 7, 8] 9)
           refine ⟨fun _ => hcl, ?_⟩
           obtain ⟨h_72, hm⟩ := ite_t hm
           refine qsA 11 2 v_70.1 hs rfl h_72 rfl fun a w hs => ?_
           refine ⟨fun h => absurd h (by decide), ?_⟩
           replace hs := hs.pick [1, 2, 4, 14, 16, 17, 18, 19, 20] (L' := [(1, .slice A_x1 x1.length c_x1), (2, .slice A_x2 x2.length c_x2), (4, vw p_42), (14, pp b_32), (16, vi (IntKind.i64.wrap (8 + (Int.tmod (IntKind.i64.wrap x3) 4)))), (17, pp b_57), (18, pp b_59), (19, pp b_63), (20, pp b_64)]) (by kernel_rfl)
           refine Vk.dDone (by kernel_rfl) ?_
           exact hj61 v_67.2 v_70.2 v_67.1 v_70.1 hm b_63 b_64 _ _ (hs.go [1, 2, 4, 14, 16, 17, 18, 19, 20] [4, 1, 0, 5, 6, 7, 8, 3, 2] 9 (by kernel_rfl) (by kernel_rfl) (by kernel_rfl))
       ·exact by
         refine Vk.alloc 20 37 [ci 0, ci 0, ci 0, ci 0, ci 0, ci 0, ci 0, ci 0, ci 0, ci 0, ci 0, ci 0, ci 0, ci 0, ci 0, ci 0, ci 0, ci 0, ci 0, ci 0, ci 0, ci 0, ci 0, ci 0] hs (by kernel_rfl) (by kernel_rfl) (by kernel_rfl) fun b_63 w a hs => ?_
         replace hcl := qO hC_62 hs.own.f3.drop.f2.drop.drop
         refine ⟨fun _ => hcl, ?_⟩
         refine Vk.dMany2 (i0 := 3) (i1 := 8) (by kernel_rfl) ?_ ?_
         ·exact by
           obtain ⟨v_66, h_65, hm⟩ := bind_t hm
           refine qco (slice_Told.ok _ _ _ _ h_65 _ _ _ br15x0m_26 A_x2 c_x2 hx_x2.less.less.less.less.less.less.less hs.own.f2) hs fun w a hs => ?_
           replace hcl := qO hC_62 hs.own.f3.drop.f1.drop.drop
           refine ⟨fun _ => hcl, ?_⟩
           refine Vk.dMany2 (i0 := 7) (i1 := 8) (by kernel_rfl) ?_ ?_
           ·exact by
             obtain ⟨v_69, h_68, hm⟩ := bind_t hm
             refine qco (visorref33_Const.ok _ _ _ _ _ h_68 _ _ _ br15x0x_27 A_x2 c_x2 hx_x2.less.less.less.less.less.less.less hs.own.f3) hs fun w a hs => ?_
             replace hcl := qO hC_62 hs.own.f2.drop.f1.drop.drop
             refine ⟨fun _ => hcl, ?_⟩
             refine Vk.dOnly (i := 8) (by kernel_rfl) (Vk.alloc 19 37 [ci 0, ci 0, ci 0, ci 0, ci 0, ci 0, ci 0, ci 0, ci 0, ci 0, ci 0, ci 0, ci 0, ci 0, ci 0, ci 0, ci 0, ci 0, ci 0, ci 0, ci 0, ci 0, ci 0, ci 0] hs (by kernel_rfl) (by kernel_rfl) (by kernel_rfl) fun b_70 w a hs => ?_)
             replace hcl : Ow κ w C_62 := by rw [hC_62]; exact (hs.own.too [4, 5, 6, 7, 8] 9)
             refine ⟨fun _ => hcl, ?_⟩
             obtain ⟨h_71, hm⟩ := ite_t hm
             refine qsA 10 0 v_66.1 hs rfl h_71 rfl fun a w hs => ?_
             replace hcl : Ow κ w C_62 := by rw [hC_62]; exact (hs.own.too [4, 5, 6, 7, 8] 9)
             refine ⟨fun _ => hcl, ?_⟩
             obtain ⟨h_72, hm⟩ := ite_t hm
             refine qsA 11 3 v_69.1 hs rfl h_72 rfl fun a w hs => ?_
             refine ⟨fun h => absurd h (by decide), ?_⟩
             replace hs := hs.pick [1, 2, 4, 14, 16, 17, 18, 19, 20] (L' := [(1, .slice A_x1 x1.length c_x1), (2, .slice A_x2 x2.length c_x2), (4, vw p_42), (14, pp b_32), (16, vi (IntKind.i64.wrap (8 + (Int.tmod (IntKind.i64.wrap x3) 4)))), (17, pp b_57), (18, pp b_59), (19, pp b_70), (20, pp b_63)]) (by kernel_rfl)
             refine Vk.dDone (by kernel_rfl) ?_
             exact hj61 v_66.2 v_69.2 v_66.1 v_69.1 hm b_70 b_63 _ _ (hs.go [1, 2, 4, 14, 16, 17, 18, 19, 20] [4, 2, 1, 5, 6, 7, 8, 0, 3] 9 (by kernel_rfl) (by kernel_rfl) (by kernel_rfl))
           ·exact by
             refine Vk.alloc 19 37 [ci 0, ci 0, ci 0, ci 0, ci 0, ci 0, ci 0, ci 0, ci 0, ci 0, ci 0, ci 0, ci 0, ci 0, ci 0, ci 0, ci 0, ci 0, ci 0, ci 0, ci 0, ci 0, ci 0, ci 0] hs (by kernel_rfl) (by kernel_rfl) (by kernel_rfl) fun b_67 w a hs => ?_
             replace hcl : Ow κ w C_62 := by rw [hC_62]; exact (hs.own.too [3, 5, 6, 7, 8] 9)
             refine ⟨fun _ => hcl, ?_⟩
             obtain ⟨v_70, h_69, hm⟩ := bind_t hm
             refine qdc 7 (visorref33_Const.ok _ _ _ _ _ h_69 _ _ _ br15x0x_27 A_x2 c_x2 hx_x2.less.less.less.less.less.less.less.less hs.own.f4) hs fun w a hs => ?_
             replace hcl : Ow κ w C_62 := by rw [hC_62]; exact (hs.own.too [4, 5, 6, 7, 8] 9)
             refine ⟨fun _ => hcl, ?_⟩
             obtain ⟨h_71, hm⟩ := ite_t hm
             refine qsA 10 1 v_66.1 hs rfl h_71 rfl fun a w hs => ?_
             replace hcl : Ow κ w C_62 := by rw [hC_62]; exact (hs.own.too [4, 5, 6, 7, 8] 9)
             refine ⟨fun _ => hcl, ?_⟩
             obtain ⟨h_72, hm⟩ := ite_t hm
             refine qsA 11 3 v_70.1 hs rfl h_72 rfl fun a w hs => ?_
             refine ⟨fun h => absurd h (by decide), ?_⟩
             replace hs := hs.pick [1, 2, 4, 14, 16, 17, 18, 19, 20] (L' := [(1, .slice A_x1 x1.length c_x1), (2, .slice A_x2 x2.length c_x2), (4, vw p_42), (14, pp b_32), (16, vi (IntKind.i64.wrap (8 + (Int.tmod (IntKind.i64.wrap x3) 4)))), (17, pp b_57), (18, pp b_59), (19, pp b_67), (20, pp b_63)]) (by kernel_rfl)
             refine Vk.dDone (by kernel_rfl) ?_
             exact hj61 v_66.2 v_70.2 v_66.1 v_70.1 hm b_67 b_63 _ _ (hs.go [1, 2, 4, 14, 16, 17, 18, 19, 20] [4, 2, 0, 5, 6, 7, 8, 1, 3] 9 (by kernel_rfl) (by kernel_rfl) (by kernel_rfl))
         ·exact by
           refine Vk.alloc 19 37 [ci 0, ci 0, ci 0, ci 0, ci 0, ci 0, ci 0, ci 0, ci 0, ci 0, ci 0, ci 0, ci 0, ci 0, ci 0, ci 0, ci 0, ci 0, ci 0, ci 0, ci 0, ci 0, ci 0, ci 0] hs (by kernel_rfl) (by kernel_rfl) (by kernel_rfl) fun b_64 w a hs => ?_
           replace hcl : Ow κ w C_62 := by rw [hC_62]; exact (hs.own.too [2, 5, 6, 7, 8] 9)
           refine ⟨fun _ => hcl, ?_⟩
           obtain ⟨v_67, h_66, hm⟩ := bind_t hm
           refine qdc 3 (slice_Told.ok _ _ _ _ h_66 _ _ _ br15x0m_26 A_x2 c_x2 hx_x2.less.less.less.less.less.less.less.less hs.own.f3) hs fun w a hs => ?_
           replace hcl : Ow κ w C_62 := by rw [hC_62]; exact (hs.own.too [3, 5, 6, 7, 8] 9)
           refine ⟨fun _ => hcl, ?_⟩
           obtain ⟨v_70, h_69, hm⟩ := bind_t hm
           refine qdc 7 (visorref33_Const.ok _ _ _ _ _ h_69 _ _ _ br15x0x_27 A_x2 c_x2 hx_x2.less.less.less.less.less.less.less.less hs.own.f4) hs fun w a hs => ?_
           replace hcl : Ow κ w C_62 := by rw [hC_62]; exact (hs.own.too [4, 5, 6, 7, 8] 9)
           refine ⟨fun _ => hcl, ?_⟩
           obtain ⟨h_71, hm⟩ := ite_t hm
           refine qsA 10 2 v_67.1 hs rfl h_71 rfl fun a w hs => ?_
           replace hcl : Ow κ w C_62 := by rw [hC_62]; exact (hs.own.too [4, 5, 6, 7, 8] 9)
           refine ⟨fun _ => hcl, ?_⟩
           obtain ⟨h_72, hm⟩ := ite_t hm
           refine qsA 11 3 v_70.1 hs rfl h_72 rfl fun a w hs => ?_
           refine ⟨fun h => absurd h (by decide), ?_⟩
           replace hs := hs.pick [1, 2, 4, 14, 16, 17, 18, 19, 20] (L' := [(1, .slice A_x1 x1.length c_x1), (2, .slice A_x2 x2.length c_x2), (4, vw p_42), (14, pp b_32), (16, vi (IntKind.i64.wrap (8 + (Int.tmod (IntKind.i64.wrap x3) 4)))), (17, pp b_57), (18, pp b_59), (19, pp b_64), (20, pp b_63)]) (by kernel_rfl)
           refine Vk.dDone (by kernel_rfl) ?_
           exact hj61 v_67.2 v_70.2 v_67.1 v_70.1 hm b_64 b_63 _ _ (hs.go [1, 2, 4, 14, 16, 17, 18, 19, 20] [4, 1, 0, 5, 6, 7, 8, 2, 3] 9 (by kernel_rfl) (by kernel_rfl) (by kernel_rfl))
      obtain ⟨C_44, hC_44⟩ := qC hs.own.f2.drop.f1.drop
      refine qdr 11 κ C_44 hs fun w hs hqC_44 => ?_
      have hcl := qO hC_44 hs.own.f2.drop.f1.drop
      refine qdp (fuel := 8) [0, 2, 4, 6] hs hcl hqC_44 fun a hs => ?_
      refine qdl 1 0 (cp br15x0m_26) hs hcl hqC_44 hC_44 rfl fun a hs => ?_
      refine qdl 5 0 (cp br15x0x_27) hs hcl hqC_44 hC_44 rfl fun a hs => ?_
      refine Vk.dMany3 (i0 := 3) (i1 := 8) (i2 := 9) (by kernel_rfl) ?_ ?_ ?_
      ·exact by
        obtain ⟨v_47, h_46, hm⟩ := bind_t hm
        refine qco (slice_Public.ok _ _ _ _ h_46 _ _ _ br15x0m_26 A_x1 c_x1 hx_x1.less.less.less.less hs.own.f1) hs fun w a hs => ?_
        replace hcl := qO hC_44 hs.own.f2.drop.drop
        refine ⟨fun _ => hcl, ?_⟩
        refine Vk.dMany3 (i0 := 7) (i1 := 8) (i2 := 9) (by kernel_rfl) ?_ ?_ ?_
        ·exact by
          obtain ⟨v_50, h_49, hm⟩ := bind_t hm
          refine qco (visorref33_Const.ok _ _ _ _ _ h_49 _ _ _ br15x0x_27 A_x1 c_x1 hx_x1.less.less.less.less hs.own.f2) hs fun w a hs => ?_
          replace hcl := qO hC_44 hs.own.f1.drop.drop
          refine ⟨fun _ => hcl, ?_⟩
          refine Vk.dMany2 (i0 := 8) (i1 := 9) (by kernel_rfl) ?_ ?_
          ·exact by
            refine Vk.alloc 17 37 [ci 0, ci 0, ci 0, ci 0, ci 0, ci 0, ci 0, ci 0, ci 0, ci 0, ci 0, ci 0, ci 0, ci 0, ci 0, ci 0, ci 0, ci 0, ci 0, ci 0, ci 0, ci 0, ci 0, ci 0] hs (by kernel_rfl) (by kernel_rfl) (by kernel_rfl) fun b_51 w a hs => ?_
            replace hcl := qO hC_44 hs.own.f2.drop.f1.drop.drop
            refine ⟨fun _ => hcl, ?_⟩
            refine Vk.dOnly (i := 9) (by kernel_rfl) (Vk.alloc 18 37 [ci 0, ci 0, ci 0, ci 0, ci 0, ci 0, ci 0, ci 0, ci 0, ci 0, ci 0, ci 0, ci 0, ci 0, ci 0, ci 0, ci 0, ci 0, ci 0, ci 0, ci 0, ci 0, ci 0, ci 0] hs (by kernel_rfl) (by kernel_rfl) (by kernel_rfl) fun b_52 w a hs => ?_)
            replace hcl : Ow κ w C_44 := by rw [hC_44]; exact (hs.own.too [4, 5, 6] 7)
            refine ⟨fun _ => hcl, ?_⟩
            obtain ⟨h_53, hm⟩ := ite_t hm
            refine qsA 10 1 v_47.1 hs rfl h_53 rfl fun a w hs => ?_
            replace hcl : Ow κ w C_44 := by rw [hC_44]; exact (hs.own.too [4, 5, 6] 7)
            refine ⟨fun _ => hcl, ?_⟩
            obtain ⟨h_54, hm⟩ := ite_t hm
            refine qsA 11 0 v_50.1 hs rfl h_54 rfl fun a w hs => ?_
            refine ⟨fun h => absurd h (by decide), ?_⟩
            replace hs := hs.pick [1, 2, 4, 14, 16, 17, 18] (L' := [(1, .slice A_x1 x1.length c_x1), (2, .slice A_x2 x2.length c_x2), (4, vw p_42), (14, pp b_32), (16, vi (IntKind.i64.wrap (8 + (Int.tmod (IntKind.i64.wrap x3) 4)))), (17, pp b_51), (18, pp b_52)]) (by kernel_rfl)
            refine Vk.dDone (by kernel_rfl) ?_
            exact hj43 v_47.2 v_50.2 v_47.1 v_50.1 hm b_51 b_52 _ _ (hs.go [1, 2, 4, 14, 16, 17, 18] [4, 3, 2, 5, 6, 1, 0] 7 (by kernel_rfl) (by kernel_rfl) (by kernel_rfl))
          ·exact by
            refine Vk.alloc 18 37 [ci 0, ci 0, ci 0, ci 0, ci 0, ci 0, ci 0, ci 0, ci 0, ci 0, ci 0, ci 0, ci 0, ci 0, ci 0, ci 0, ci 0, ci 0, ci 0, ci 0, ci 0, ci 0, ci 0, ci 0] hs (by kernel_rfl) (by kernel_rfl) (by kernel_rfl) fun b_51 w a hs => ?_
            replace hcl := qO hC_44 hs.own.f2.drop.f1.drop.drop
            refine ⟨fun _ => hcl, ?_⟩
            refine Vk.dOnly (i := 8) (by kernel_rfl) (Vk.alloc 17 37 [ci 0, ci 0, ci 0, ci 0, ci 0, ci 0, ci 0, ci 0, ci 0, ci 0, ci 0, ci 0, ci 0, ci 0, ci 0, ci 0, ci 0, ci 0, ci 0, ci 0, ci 0, ci 0, ci 0, ci 0] hs (by kernel_rfl) (by kernel_rfl) (by kernel_rfl) fun b_52 w a hs => ?_)
            replace hcl : Ow κ w C_44 := by rw [hC_44]; exact (hs.own.too [4, 5, 6] 7)
            refine ⟨fun _ => hcl, ?_⟩
            obtain ⟨h_53, hm⟩ := ite_t hm
            refine qsA 10 0 v_47.1 hs rfl h_53 rfl fun a w hs => ?_
            replace hcl : Ow κ w C_44 := by rw [hC_44]; exact (hs.own.too [4, 5, 6] 7)
            refine ⟨fun _ => hcl, ?_⟩
            obtain ⟨h_54, hm⟩ := ite_t hm
            refine qsA 11 1 v_50.1 hs rfl h_54 rfl fun a w hs => ?_
            refine ⟨fun h => absurd h (by decide), ?_⟩
            replace hs := hs.pick [1, 2, 4, 14, 16, 17, 18] (L' := [(1, .slice A_x1 x1.length c_x1), (2, .slice A_x2 x2.length c_x2), (4, vw p_42), (14, pp b_32), (16, vi (IntKind.i64.wrap (8 + (Int.tmod (IntKind.i64.wrap x3) 4)))), (17, pp b_52), (18, pp b_51)]) (by kernel_rfl)
            refine Vk.dDone (by kernel_rfl) ?_
            exact hj43 v_47.2 v_50.2 v_47.1 v_50.1 hm b_52 b_51 _ _ (hs.go [1, 2, 4, 14, 16, 17, 18] [4, 3, 2, 5, 6, 0, 1] 7 (by kernel_rfl) (by kernel_rfl) (by kernel_rfl))
        ·exact by
          refine Vk.alloc 17 37 [ci 0, ci 0, ci 0, ci 0, ci 0, ci 0, ci 0, ci 0, ci 0, ci 0, ci 0, ci 0, ci 0, ci 0, ci 0, ci 0, ci 0, ci 0, ci 0, ci 0, ci 0, ci 0, ci 0, ci 0] hs (by kernel_rfl) (by kernel_rfl) (by kernel_rfl) fun b_48 w a hs => ?_
          replace hcl := qO hC_44 hs.own.f3.drop.f1.drop.drop
          refine ⟨fun _ => hcl, ?_⟩
          refine Vk.dMany2 (i0 := 7) (i1 := 9) (by kernel_rfl) ?_ ?_
          ·exact by
            obtain ⟨v_51, h_50, hm⟩ := bind_t hm
            refine qco (visorref33_Const.ok _ _ _ _ _ h_50 _ _ _ br15x0x_27 A_x1 c_x1 hx_x1.less.less.less.less.less hs.own.f3) hs fun w a hs => ?_
            replace hcl := qO hC_44 hs.own.f2.drop.f1.drop.drop
            refine ⟨fun _ => hcl, ?_⟩
            refine Vk.dOnly (i := 9) (by kernel_rfl) (Vk.alloc 18 37 [ci 0, ci 0, ci 0, ci 0, ci 0, ci 0, ci 0, ci 0, ci 0, ci 0, ci 0, ci 0, ci 0, ci 0, ci 0, ci 0, ci 0, ci 0, ci 0, ci 0, ci 0, ci 0, ci 0, ci 0] hs (by kernel_rfl) (by kernel_rfl) (by kernel_rfl) fun b_52 w a hs => ?_)
            replace hcl : Ow κ w C_44 := by rw [hC_44]; exact (hs.own.too [4, 5, 6] 7)
            refine ⟨fun _ => hcl, ?_⟩
            obtain ⟨h_53, hm⟩ := ite_t hm
            refine qsA 10 2 v_47.1 hs rfl h_53 rfl fun a w hs => ?_
            replace hcl : Ow κ w C_44 := by rw [hC_44]; exact (hs.own.too [4, 5, 6] 7)
            refine ⟨fun _ => hcl, ?_⟩
            obtain ⟨h_54, hm⟩ := ite_t hm
            refine qsA 11 0 v_51.1 hs rfl h_54 rfl fun a w hs => ?_
            refine ⟨fun h => absurd h (by decide), ?_⟩
            replace hs := hs.pick [1, 2, 4, 14, 16, 17, 18] (L' := [(1, .slice A_x1 x1.length c_x1), (2, .slice A_x2 x2.length c_x2), (4, vw p_42), (14, pp b_32), (16, vi (IntKind.i64.wrap (8 + (Int.tmod (IntKind.i64.wrap x3) 4)))), (17, pp b_48), (18, pp b_52)]) (by kernel_rfl)
            refine Vk.dDone (by kernel_rfl) ?_
            exact hj43 v_47.2 v_51.2 v_47.1 v_51.1 hm b_48 b_52 _ _ (hs.go [1, 2, 4, 14, 16, 17, 18] [4, 3, 1, 5, 6, 2, 0] 7 (by kernel_rfl) (by kernel_rfl) (by kernel_rfl))
          ·exact by
            refine Vk.alloc 18 37 [ci 0, ci 0, ci 0, ci 0, ci 0, ci 0, ci 0, ci 0, ci 0, ci 0, ci 0, ci 0, ci 0, ci 0, ci 0, ci 0, ci 0, ci 0, ci 0, ci 0, ci 0, ci 0, ci 0, ci 0] hs (by kernel_rfl) (by kernel_rfl) (by kernel_rfl) fun b_49 w a hs => ?_
            replace hcl : Ow κ w C_44 := by rw [hC_44]; exact (hs.own.too [3, 5, 6] 7)
            refine ⟨fun _ => hcl, ?_⟩
            obtain ⟨v_52, h_51, hm⟩ := bind_t hm
            refine qdc 7 (visorref33_Const.ok _ _ _ _ _ h_51 _ _ _ br15x0x_27 A_x1 c_x1 hx_x1.less.less.less.less.less.less hs.own.f4) hs fun w a hs => ?_
            replace hcl : Ow κ w C_44 := by rw [hC_44]; exact (hs.own.too [4, 5, 6] 7)
            refine ⟨fun _ => hcl, ?_⟩
            obtain ⟨h_53, hm⟩ := ite_t hm
            refine qsA 10 2 v_47.1 hs rfl h_53 rfl fun a w hs => ?_
            replace hcl : Ow κ w C_44 := by rw [hC_44]; exact (hs.own.too [4, 5, 6] 7)
            refine ⟨fun _ => hcl, ?_⟩
            obtain ⟨h_54, hm⟩ := ite_t hm
            refine qsA 11 1 v_52.1 hs rfl h_54 rfl fun a w hs => ?_
            refine ⟨fun h => absurd h (by decide), ?_⟩
            replace hs := hs.pick [1, 2, 4, 14, 16, 17, 18] (L' := [(1, .slice A_x1 x1.length c_x1), (2, .slice A_x2 x2.length c_x2), (4, vw p_42), (14, pp b_32), (16, vi (IntKind.i64.wrap (8 + (Int.tmod (IntKind.i64.wrap x3) 4)))), (17, pp b_48), (18, pp b_49)]) (by kernel_rfl)
            refine Vk.dDone (by kernel_rfl) ?_
            exact hj43 v_47.2 v_52.2 v_47.1 v_52.1 hm b_48 b_49 _ _ (hs.go [1, 2, 4, 14, 16, 17, 18] [4, 3, 0, 5, 6, 2, 1] 7 (by kernel_rfl) (by kernel_rfl) (by kernel_rfl))
        ·exact by
          refine Vk.alloc 18 37 [ci 0, ci 0, ci 0, ci 0, ci 0, ci 0, ci 0, ci 0, ci 0, ci 0, ci 0, ci 0, ci 0, ci 0, ci 0, ci 0, ci 0, ci 0, ci 0, ci 0, ci 0, ci 0, ci 0, ci 0] hs (by kernel_rfl) (by kernel_rfl) (by kernel_rfl) fun b_48 w a hs => ?_
          replace hcl := qO hC_44 hs.own.f3.drop.f1.drop.drop
          refine ⟨fun _ => hcl, ?_⟩
          refine Vk.dMany2 (i0 := 7) (i1 := 8) (by kernel_rfl) ?_ ?_
          ·exact by
            obtain ⟨v_51, h_50, hm⟩ := bind_t hm
            refine qco (visorref33_Const.ok _ _ _ _ _ h_50 _ _ _ br15x0x_27 A_x1 c_x1 hx_x1.less.less.less.less.less hs.own.f3) hs fun w a hs => ?_
            replace hcl := qO hC_44 hs.own.f2.drop.f1.drop.drop
            refine ⟨fun _ => hcl, ?_⟩
            refine Vk.dOnly (i := 8) (by kernel_rfl) (Vk.alloc 17 37 [ci 0, ci 0, ci 0, ci 0, ci 0, ci 0, ci 0, ci 0, ci 0, ci 0, ci 0, ci 0, ci 0, ci 0, ci 0, ci 0, ci 0, ci 0, ci 0, ci 0, ci 0, ci 0, ci 0, ci 0] hs (by kernel_rfl) (by kernel_rfl) (by kernel_rfl) fun b_52 w a hs => ?_)
            replace hcl : Ow κ w C_44 := by rw [hC_44]; exact (hs.own.too [4, 5, 6] 7)
            refine ⟨fun _ => hcl, ?_⟩
            obtain ⟨h_53, hm⟩ := ite_t hm
            refine qsA 10 0 v_47.1 hs rfl h_53 rfl fun a w hs => ?_
            replace hcl : Ow κ w C_44 := by rw [hC_44]; exact (hs.own.too [4, 5, 6] 7)
            refine ⟨fun _ => hcl, ?_⟩
            obtain ⟨h_54, hm⟩ := ite_t hm
            refine qsA 11 2 v_51.1 hs rfl h_54 rfl fun a w hs => ?_
            refine ⟨fun h => absurd h (by decide), ?_⟩
            replace hs := hs.pick [1, 2, 4, 14, 16, 17, 18] (L' := [(1, .slice A_x1 x1.length c_x1), (2, .slice A_x2 x2.length c_x2), (4, vw p_42), (14, pp b_32), (16, vi (IntKind.i64.wrap (8 + (Int.tmod (IntKind.i64.wrap x3) 4)))), (17, pp b_52), (18, pp b_48)]) (by kernel_rfl)
            refine Vk.dDone (by kernel_rfl) ?_
            exact hj43 v_47.2 v_51.2 v_47.1 v_51.1 hm b_52 b_48 _ _ (hs.go [1, 2, 4, 14, 16, 17, 18] [4, 3, 1, 5, 6, 0, 2] 7 (by kernel_rfl) (by kernel_rfl) (by kernel_rfl))
          ·exact by
            refine Vk.alloc 17 37 [ci 0, ci 0, ci 0, ci 0, ci 0, ci 0, ci 0, ci 0, ci 0, ci 0, ci 0, ci 0, ci 0, ci 0, ci 0, ci 0, ci 0, ci 0, ci 0, ci 0, ci 0, ci 0, ci 0, ci 0] hs (by kernel_rfl) (by kernel_rfl) (by kernel_rfl) fun b_49 w a hs => ?_
            replace hcl : Ow κ w C_44 := by rw [hC_44]; exact (hs.own.too [3, 5, 6] 7)
            refine ⟨fun _ => hcl, ?_⟩
            obtain ⟨v_52, h_51, hm⟩ := bind_t hm
            refine qdc 7 (visorref33_Const.ok _ _ _ _ _ h_51 _ _ _ br15x0x_27 A_x1 c_x1 hx_x1.less.less.less.less.less.less hs.own.f4) hs fun w a hs => ?_
            replace hcl : Ow κ w C_44 := by rw [hC_44]; exact (hs.own.too [4, 5, 6] 7)
            refine ⟨fun _ => hcl, ?_⟩
            obtain ⟨h_53, hm⟩ := ite_t hm
            refine qsA 10 1 v_47.1 hs rfl h_53 rfl fun a w hs => ?_
            replace hcl : Ow κ w C_44 := by rw [hC_44]; exact (hs.own.too [4, 5, 6] 7)
            refine ⟨fun _ => hcl, ?_⟩
            obtain ⟨h_54, hm⟩ := ite_t hm
            refine qsA 11 2 v_52.1 hs rfl h_54 rfl fun a w hs => ?_
            refine ⟨fun h => absurd h (by decide), ?_⟩
            replace hs := hs.pick [1, 2, 4, 14, 16, 17, 18] (L' := [(1, .slice A_x1 x1.length c_x1), (2, .slice A_x2 x2.length c_x2), (4, vw p_42), (14, pp b_32), (16, vi (IntKind.i64.wrap (8 + (Int.tmod (IntKind.i64.wrap x3) 4)))), (17, pp b_49), (18, pp b_48)]) (by kernel_rfl)
            refine Vk.dDone (by kernel_rfl) ?_
            exact hj43 v_47.2 v_52.2 v_47.1 v_52.1 hm b_49 b_48 _ _ (hs.go [1, 2, 4, 14, 16, 17, 18] [4, 3, 0, 5, 6, 1, 2] 7 (by kernel_rfl) (by kernel_rfl) (by kernel_rfl))
      ·exact by
        refine Vk.alloc 17 37 [ci 0, ci 0, ci 0, ci 0, ci 0, ci 0, ci 0, ci 0, ci 0, ci 0, ci 0, ci 0, ci 0, ci 0, ci 0, ci 0, ci 0, ci 0, ci 0, ci 0, ci 0, ci 0, ci 0, ci 0] hs (by kernel_rfl) (by kernel_rfl) (by kernel_rfl) fun b_45 w a hs => ?_
        replace hcl := qO hC_44 hs.own.f3.drop.f2.drop.drop
        refine ⟨fun _ => hcl, ?_⟩
        refine Vk.dMany2 (i0 := 3) (i1 := 9) (by kernel_rfl) ?_ ?_
        ·exact by
          obtain ⟨v_48, h_47, hm⟩ := bind_t hm
          refine qco (slice_Public.ok _ _ _ _ h_47 _ _ _ br15x0m_26 A_x1 c_x1 hx_x1.less.less.less.less.less hs.own.f2) hs fun w a hs => ?_
          replace hcl := qO hC_44 hs.own.f3.drop.f1.drop.drop
          refine ⟨fun _ => hcl, ?_⟩
          refine Vk.dMany2 (i0 := 7) (i1 := 9) (by kernel_rfl) ?_ ?_
          ·exact by
            obtain ⟨v_51, h_50, hm⟩ := bind_t hm
            refine qco (visorref33_Const.ok _ _ _ _ _ h_50 _ _ _ br15x0x_27 A_x1 c_x1 hx_x1.less.less.less.less.less hs.own.f3) hs fun w a hs => ?_
            replace hcl := qO hC_44 hs.own.f2.drop.f1.drop.drop
            refine ⟨fun _ => hcl, ?_⟩
            refine Vk.dOnly (i := 9) (by kernel_rfl) (Vk.alloc 18 37 [ci 0, ci 0, ci 0, ci 0, ci 0, ci 0, ci 0, ci 0, ci 0, ci 0, ci 0, ci 0, ci 0, ci 0, ci 0, ci 0, ci 0, ci 0, ci 0, ci 0, ci 0, ci 0, ci 0, ci 0] hs (by kernel_rfl) (by kernel_rfl) (by kernel_rfl) fun b_52 w a hs => ?_)
            replace hcl : Ow κ w C_44 := by rw [hC_44]; exact (hs.own.too [4, 5, 6] 7)
            refine ⟨fun _ => hcl, ?_⟩
            obtain ⟨h_53, hm⟩ := ite_t hm
            refine qsA 10 3 v_48.1 hs rfl h_53 rfl fun a w hs => ?_
            replace hcl : Ow κ w C_44 := by rw [hC_44]; exact (hs.own.too [4, 5, 6] 7)
            refine ⟨fun _ => hcl, ?_⟩
            obtain ⟨h_54, hm⟩ := ite_t hm
            refine qsA 11 0 v_51.1 hs rfl h_54 rfl fun a w hs => ?_
            refine ⟨fun h => absurd h (by decide), ?_⟩
            replace hs := hs.pick [1, 2, 4, 14, 16, 17, 18] (L' := [(1, .slice A_x1 x1.length c_x1), (2, .slice A_x2 x2.length c_x2), (4, vw p_42), (14, pp b_32), (16, vi (IntKind.i64.wrap (8 + (Int.tmod (IntKind.i64.wrap x3) 4)))), (17, pp b_45), (18, pp b_52)]) (by kernel_rfl)
            refine Vk.dDone (by kernel_rfl) ?_
            exact hj43 v_48.2 v_51.2 v_48.1 v_51.1 hm b_45 b_52 _ _ (hs.go [1, 2, 4, 14, 16, 17, 18] [4, 2, 1, 5, 6, 3, 0] 7 (by kernel_rfl) (by kernel_rfl) (by kernel_rfl))
          ·exact by
            refine Vk.alloc 18 37 [ci 0, ci 0, ci 0, ci 0, ci 0, ci 0, ci 0, ci 0, ci 0, ci 0, ci 0, ci 0, ci 0, ci 0, ci 0, ci 0, ci 0, ci 0, ci 0, ci 0, ci 0, ci 0, ci 0, ci 0] hs (by kernel_rfl) (by kernel_rfl) (by kernel_rfl) fun b_49 w a hs => ?_
            replace hcl : Ow κ w C_44 := by rw [hC_44]; exact (hs.own.too [3, 5, 6] 7)
            refine ⟨fun _ => hcl, ?_⟩
            obtain ⟨v_52, h_51, hm⟩ := bind_t hm
            refine qdc 7 (visorref33_Const.ok _ _ _ _ _ h_51 _ _ _ br15x0x_27 A_x1 c_x1 hx_x1.less.less.less.less.less.less hs.own.f4) hs fun w a hs => ?_
            replace hcl : Ow κ w C_44 := by rw [hC_44]; exact (hs.own.too [4, 5, 6] 7)
            refine ⟨fun _ => hcl, ?_⟩
            obtain ⟨h_53, hm⟩ := ite_t hm
            refine qsA 10 3 v_48.1 hs rfl h_53 rfl fun a w hs => ?_
            replace hcl : Ow κ w C_44 := by rw [hC_44]; exact (hs.own.too [4, 5, 6] 7)
            refine ⟨fun _ => hcl, ?_⟩
            obtain ⟨h_54, hm⟩ := ite_t hm
            refine qsA 11 1 v_52.1 hs rfl h_54 rfl fun a w hs => ?_
            refine ⟨fun h => absurd h (by decide), ?_⟩
            replace hs := hs.pick [1, 2, 4, 14, 16, 17, 18] (L' := [(1, .slice A_x1 x1.length c_x1), (2, .slice A_x2 x2.length c_x2), (4, vw p_42), (14, pp b_32), (16, vi (IntKind.i64.wrap (8 + (Int.tmod (IntKind.i64.wrap x3) 4)))), (17, pp b_45), (18, pp b_49)]) (by kernel_rfl)
            refine Vk.dDone (by kernel_rfl) ?_
            exact hj43 v_48.2 v_52.2 v_48.1 v_52.1 hm b_45 b_49 _ _ (hs.go [1, 2, 4, 14, 16, 17, 18] [4, 2, 0, 5, 6, 3, 1] 7 (by kernel_rfl) (by kernel_rfl) (by kernel_rfl))
        ·exact by
          refine Vk.alloc 18 37 [ci 0, ci 0, ci 0, ci 0, ci 0, ci 0, ci 0, ci 0, ci 0, ci 0, ci 0, ci 0, ci 0, ci 0, ci 0, ci 0, ci 0, ci 0, ci 0, ci 0, ci 0, ci 0, ci 0, ci 0] hs (by kernel_rfl) (by kernel_rfl) (by kernel_rfl) fun b_46 w a hs => ?_
          replace hcl : Ow κ w C_44 := by rw [hC_44]; exact (hs.own.too [2, 5, 6] 7)
          refine ⟨fun _ => hcl, ?_⟩
          obtain ⟨v_49, h_48, hm⟩ := bind_t hm
          refine qdc 3 (slice_Public.ok _ _ _ _ h_48 _ _ _ br15x0m_26 A_x1 c_x1 hx_x1.less.less.less.less.less.less hs.own.f3) hs fun w a hs => ?_
          replace hcl : Ow κ w C_44 := by rw [hC_44]; exact (hs.own.too [3, 5, 6] 7)
          refine ⟨fun _ => hcl, ?_⟩
          obtain ⟨v_52, h_51, hm⟩ := bind_t hm
          refine qdc 7 (visorref33_Const.ok _ _ _ _ _ h_51 _ _ _ br15x0x_27 A_x1 c_x1 hx_x1.less.less.less.less.less.less hs.own.f4) hs fun w a hs => ?_
          replace hcl : Ow κ w C_44 := by rw [hC_44]; exact (hs.own.too [4, 5, 6] 7)
          refine ⟨fun _ => hcl, ?_⟩
          obtain ⟨h_53, hm⟩ := ite_t hm
          refine qsA 10 3 v_49.1 hs rfl h_53 rfl fun a w hs => ?_
          replace hcl : Ow κ w C_44 := by rw [hC_44]; exact (hs.own.too [4, 5, 6] 7)
          refine ⟨fun _ => hcl, ?_⟩
          obtain ⟨h_54, hm⟩ := ite_t hm
          refine qsA 11 2 v_52.1 hs rfl h_54 rfl fun a w hs => ?_
          refine ⟨fun h => absurd h (by decide), ?_⟩
          replace hs := hs.pick [1, 2, 4, 14, 16, 17, 18] (L' := [(1, .slice A_x1 x1.length c_x1), (2, .slice A_x2 x2.length c_x2), (4, vw p_42), (14, pp b_32), (16, vi (IntKind.i64.wrap (8 + (Int.tmod (IntKind.i64.wrap x3) 4)))), (17, pp b_45), (18, pp b_46)]) (by kernel_rfl)
          refine Vk.dDone (by kernel_rfl) ?_
          exact hj43 v_49.2 v_52.2 v_49.1 v_52.1 hm b_45 b_46 _ _ (hs.go [1, 2, 4, 14, 16, 17, 18] [4, 1, 0, 5, 6, 3, 2] 7 (by kernel_rfl) (by kernel_rfl) (by kernel_rfl))
      ·exact by
        refine Vk.alloc 18 37 [ci 0, ci 0, ci 0, ci 0, ci 0, ci 0, ci 0, ci 0, ci 0, ci 0, ci 0, ci 0, ci 0, ci 0, ci 0, ci 0, ci 0, ci 0, ci 0, ci 0, ci 0, ci 0, ci 0, ci 0] hs (by kernel_rfl) (by kernel_rfl) (by kernel_rfl) fun b_45 w a hs => ?_
        replace hcl := qO hC_44 hs.own.f3.drop.f2.drop.drop
        refine ⟨fun _ => hcl, ?_⟩
        refine Vk.dMany2 (i0 := 3) (i1 := 8) (by kernel_rfl) ?_ ?_
        ·exact by
          obtain ⟨v_48, h_47, hm⟩ := bind_t hm
          refine qco (slice_Public.ok _ _ _ _ h_47 _ _ _ br15x0m_26 A_x1 c_x1 hx_x1.less.less.less.less.less hs.own.f2) hs fun w a hs => ?_
          replace hcl := qO hC_44 hs.own.f3.drop.f1.drop.drop
          refine ⟨fun _ => hcl, ?_⟩
          refine Vk.dMany2 (i0 := 7) (i1 := 8) (by kernel_rfl) ?_ ?_
          ·exact by
            obtain ⟨v_51, h_50, hm⟩ := bind_t hm
            refine qco (visorref33_Const.ok _ _ _ _ _ h_50 _ _ _ br15x0x_27 A_x1 c_x1 hx_x1.less.less.less.less.less hs.own.f3) hs fun w a hs => ?_
            replace hcl := qO hC_44 hs.own.f2.drop.f1.drop.drop
            refine ⟨fun _ => hcl, ?_⟩
            refine Vk.dOnly (i := 8) (by kernel_rfl) (Vk.alloc 17 37 [ci 0, ci 0, ci 0, ci 0, ci 0, ci 0, ci 0, ci 0, ci 0, ci 0, ci 0, ci 0, ci 0, ci 0, ci 0, ci 0, ci 0, ci 0, ci 0, ci 0, ci 0, ci 0, ci 0, ci 0] hs (by kernel_rfl) (by kernel_rfl) (by kernel_rfl) fun b_52 w a hs => ?_)
            replace hcl : Ow κ w C_44 := by rw [hC_44]; exact (hs.own.too [4, 5, 6] 7)
            refine ⟨fun _ => hcl, ?_⟩
            obtain ⟨h_53, hm⟩ := ite_t hm
            refine qsA 10 0 v_48.1 hs rfl h_53 rfl fun a w hs => ?_
            replace hcl : Ow κ w C_44 := by rw [hC_44]; exact (hs.own.too [4, 5, 6] 7)
            refine ⟨fun _ => hcl, ?_⟩
            obtain ⟨h_54, hm⟩ := ite_t hm
            refine qsA 11 3 v_51.1 hs rfl h_54 rfl fun a w hs => ?_
            refine ⟨fun h => absurd h (by decide), ?_⟩
            replace hs := hs.pick [1, 2, 4, 14, 16, 17, 18] (L' := [(1, .slice A_x1 x1.length c_x1), (2, .slice A_x2 x2.length c_x2), (4, vw p_42), (14, pp b_32), (16, vi (IntKind.i64.wrap (8 + (Int.tmod (IntKind.i64.wrap x3) 4)))), (17, pp b_52), (18, pp b_45)]) (by kernel_rfl)
            refine Vk.dDone (by kernel_rfl) ?_
            exact hj43 v_48.2 v_51.2 v_48.1 v_51.1 hm b_52 b_45 _ _ (hs.go [1, 2, 4, 14, 16, 17, 18] [4, 2, 1, 5, 6, 0, 3] 7 (by kernel_rfl) (by kernel_rfl) (by kernel_rfl))
          ·exact by
            refine Vk.alloc 17 37 [ci 0, ci 0, ci 0, ci 0, ci 0, ci 0, ci 0, ci 0, ci 0, ci 0, ci 0, ci 0, ci 0, ci 0, ci 0, ci 0, ci 0, ci 0, ci 0, ci 0, ci 0, ci 0, ci 0, ci 0] hs (by kernel_rfl) (by kernel_rfl) (by kernel_rfl) fun b_49 w a hs => ?_
            replace hcl : Ow κ w C_44 := by rw [hC_44]; exact (hs.own.too [3, 5, 6] 7)
            refine ⟨fun _ => hcl, ?_⟩
            obtain ⟨v_52, h_51, hm⟩ := bind_t hm
            refine qdc 7 (visorref33_Const.ok _ _ _ _ _ h_51 _ _ _ br15x0x_27 A_x1 c_x1 hx_x1.less.less.less.less.less.less hs.own.f4) hs fun w a hs => ?_
            replace hcl : Ow κ w C_44 := by rw [hC_44]; exact (hs.own.too [4, 5, 6] 7)
            refine ⟨fun _ => hcl, ?_⟩
            obtain ⟨h_53, hm⟩ := ite_t hm
            refine qsA 10 1 v_48.1 hs rfl h_53 rfl fun a w hs => ?_
            replace hcl : Ow κ w C_44 := by rw [hC_44]; exact (hs.own.too [4, 5, 6] 7)
            refine ⟨fun _ => hcl, ?_⟩
            obtain ⟨h_54, hm⟩ := ite_t hm
            refine qsA 11 3 v_52.1 hs rfl h_54 rfl fun a w hs => ?_
            refine ⟨fun h => absurd h (by decide), ?_⟩
            replace hs := hs.pick [1, 2, 4, 14, 16, 17, 18] (L' := [(1, .slice A_x1 x1.length c_x1), (2, .slice A_x2 x2.length c_x2), (4, vw p_42), (14, pp b_32), (16, vi (IntKind.i64.wrap (8 + (Int.tmod (IntKind.i64.wrap x3) 4)))), (17, pp b_49), (18, pp b_45)]) (by kernel_rfl)
            refine Vk.dDone (by kernel_rfl) ?_
            exact hj43 v_48.2 v_52.2 v_48.1 v_52.1 hm b_49 b_45 _ _ (hs.go [1, 2, 4, 14, 16, 17, 18] [4, 2, 0, 5, 6, 1, 3] 7 (by kernel_rfl) (by kernel_rfl) (by kernel_rfl))
        ·exact by
          refine Vk.alloc 17 37 [ci 0, ci 0, ci 0, ci 0, ci 0, ci 0, ci 0, ci 0, ci 0, ci 0, ci 0, ci 0, ci 0, ci 0, ci 0, ci 0, ci 0, ci 0, ci 0, ci 0, ci 0, ci 0, ci 0, ci 0] hs (by kernel_rfl) (by kernel_rfl) (by kernel_rfl) fun b_46 w a hs => ?_
          replace hcl : Ow κ w C_44 := by rw [hC_44]; exact (hs.own.too [2, 5, 6] 7)
          refine ⟨fun _ => hcl, ?_⟩
          obtain ⟨v_49, h_48, hm⟩ := bind_t hm
          refine qdc 3 (slice_Public.ok _ _ _ _ h_48 _ _ _ br15x0m_26 A_x1 c_x1 hx_x1.less.less.less.less.less.less hs.own.f3) hs fun w a hs => ?_
          replace hcl : Ow κ w C_44 := by rw [hC_44]; exact (hs.own.too [3, 5, 6] 7)
          refine ⟨fun _ => hcl, ?_⟩
          obtain ⟨v_52, h_51, hm⟩ := bind_t hm
          refine qdc 7 (visorref33_Const.ok _ _ _ _ _ h_51 _ _ _ br15x0x_27 A_x1 c_x1 hx_x1.less.less.less.less.less.less hs.own.f4) hs fun w a hs => ?_
          replace hcl : Ow κ w C_44 := by rw [hC_44]; exact (hs.own.too [4, 5, 6] 7)
          refine ⟨fun _ => hcl, ?_⟩
          obtain ⟨h_53, hm⟩ := ite_t hm
          refine qsA 10 2 v_49.1 hs rfl h_53 rfl fun a w hs => ?_
          replace hcl : Ow κ w C_44 := by rw [hC_44]; exact (hs.own.too [4, 5, 6] 7)
          refine ⟨fun _ => hcl, ?_⟩
          obtain ⟨h_54, hm⟩ := ite_t hm
          refine qsA 11 3 v_52.1 hs rfl h_54 rfl fun a w hs => ?_
          refine ⟨fun h => absurd h (by decide), ?_⟩
          replace hs := hs.pick [1, 2, 4, 14, 16, 17, 18] (L' := [(1, .slice A_x1 x1.length c_x1), (2, .slice A_x2 x2.length c_x2), (4, vw p_42), (14, pp b_32), (16, vi (IntKind.i64.wrap (8 + (Int.tmod (IntKind.i64.wrap x3) 4)))), (17, pp b_46), (18, pp b_45)]) (by kernel_rfl)
          refine Vk.dDone (by kernel_rfl) ?_
          exact hj43 v_49.2 v_52.2 v_49.1 v_52.1 hm b_46 b_45 _ _ (hs.go [1, 2, 4, 14, 16, 17, 18] [4, 1, 0, 5, 6, 2, 3] 7 (by kernel_rfl) (by kernel_rfl) (by kernel_rfl))
     refine qsk 2 [1, 2, 4, 14, 16, 55] hs fun a hs => ?_
     refine qcs (decide ((IntKind.i64.wrap (8 + (Int.tmod (IntKind.i64.wrap x3) 4))) > 8)) hs (fun hb => ?_) fun hb => ?_
     ·replace hm := bif_t hm hb
      refine Vk.region ?_
      refine qpe 3 [(1, .slice A_x1 x1.length c_x1), (2, .slice A_x2 x2.length c_x2), (4, vw (Int.tmod x4 64)), (14, pp b_32), (16, vi (IntKind.i64.wrap (8 + (Int.tmod (IntKind.i64.wrap x3) 4))))] hs fun a hs => ?_
      exact hj40 (Int.tmod x4 64) hm _ _ (hs.go [1, 2, 4, 14, 16] [0, 1, 2, 3, 4] 5 (by kernel_rfl) (by kernel_rfl) (by kernel_rfl))
     ·replace hm := bif_f hm hb
      refine wp_skip ?_
      exact hj40 x4 hm _ _ (hs.go [1, 2, 4, 14, 16] [0, 1, 2, 3, 4] 5 (by kernel_rfl) (by kernel_rfl) (by kernel_rfl))
 refine qsk 1 [1, 2, 3, 4, 5, 13, 32] hs fun a hs => ?_
 refine qcs (x0) hs (fun hb => ?_) fun hb => ?_
 ·replace hm := bif_t hm hb
  refine Vk.region ?_
  refine qpe 1 [(1, .slice A_x1 x1.length c_x1), (2, .slice A_x2 x2.length c_x2), (3, .int .u8 x3), (4, vw x4), (5, .slice A_x5 x5.length c_x5), (13, vi 3)] hs fun a hs => ?_
  exact hj3 3 hm _ _ (hs.go [1, 2, 3, 4, 5, 13] [] 0 (by kernel_rfl) (by kernel_rfl) (by kernel_rfl))
 ·replace hm := bif_f hm hb
  refine wp_skip ?_
  exact hj3 2 hm _ _ (hs.go [1, 2, 3, 4, 5, 13] [] 0 (by kernel_rfl) (by kernel_rfl) (by kernel_rfl))

end Go.Proofs.YtflgefjocjpjaaaGreat
