/- GuardTells: whatever the input, the law returns true, and the input reads as it did; no condition. -/
import Derived.Test.YtflgefjocjpjaaaRows
import Derived.Test.YtflgefjocjpjaaaRGuardTells
import Derived.WalkKit
import Derived.ProofKit
import Derived.OpenShut

namespace Go.Proofs.Ytflgefjocjpjaaa
namespace guardTellsRow
open Go.ChangeShapes Go.WideShapes Go.ChangeAt Go.RowKit Go.Vk
open Go.ChangeMaps (open_string)
set_option linter.unusedVariables false

theorem own : ownKnob Try.prog.godebug = none := by kernel_rfl

set_option maxRecDepth 100000 in
set_option maxHeartbeats 2000000 in
theorem contract (H : Type) (enc : TypeId × Value → H) (W : World) (base : Nat) (args : Array Value) (ds gs : List (DataW H)) (before : List MemPlace)
    (hval : ∀ (j : Nat) t v, Try.f10.params[j]? = some t → args[j]? = some v → Value.okWide Try.prog W .any base t v)
    (hW : DataW.Whole enc Try.prog Try.f10.params.toList Rows.guardTellsSpec.vars false W args.toList ds gs before)
    (hz : (DataW.weightsEach Try.checked.prog (Try.f10.params.toList ++ Rows.guardTellsSpec.plain.varTypes Try.checked.prog) (ds ++ gs)).all (· ≤ reachBytes) = true) :
    Calls Try.prog 10 args W fun e W' => ∃ v, e = .returned v ∧ Rows.guardTellsSpec.post enc Try.prog Try.f10 false true false false W args v W' := by
  have hW' := hW
  obtain ⟨p, q, hA0, hV, rfl, hfz, hnd⟩ := hW
  have hA : DataW.TrodAll enc Try.prog W 0 (fun _ => true) true Try.f10.params.toList args.toList ds p := hA0
  rw [Try.params10] at hA hval
  obtain ⟨v0, vs0, d0, ds0, p0, q0, hargs, rfl, rfl, h0, r0⟩ := trodAll_cons hA
  obtain ⟨rfl, rfl, rfl⟩ := trodAll_nil r0
  obtain rfl : args = #[v0] := by cases args; simp_all
  obtain ⟨rfl, rfl⟩ := trodVars_none hV
  clear hA0
  obtain ⟨l0, rfl, n0, f0⟩ := open_structW 13 Try.underlying108 (by kernel_rfl) (hval 0 108 v0 rfl rfl) h0 (each_le hz 0 rfl rfl)
  obtain ⟨u0_0, e0_0, g0_0⟩ := fld_plain (ks := [LK.bool]) (l := l0) (o := 0) (f0 0 _ rfl).fld (s := 1) (by kernel_rfl) 1 (by kernel_rfl) rfl (by omega)
  obtain ⟨y0_0_0, u0_0_0, rfl, g0_0_0⟩ := fits_bool g0_0
  obtain rfl := fits_nil g0_0_0
  obtain ⟨u0_1, e0_1, g0_1⟩ := fld_plain (ks := [LK.int .i64]) (l := l0) (o := 1) (f0 1 _ rfl).fld (s := 1) (by kernel_rfl) 1 (by kernel_rfl) rfl (by omega)
  obtain ⟨y0_1_0, u0_1_0, rfl, by0_1_0, g0_1_0⟩ := fits_int g0_1
  obtain rfl := fits_nil g0_1_0
  obtain ⟨u0_2, e0_2, g0_2⟩ := fld_plain (ks := [LK.int .i64]) (l := l0) (o := 2) (f0 2 _ rfl).fld (s := 1) (by kernel_rfl) 1 (by kernel_rfl) rfl (by omega)
  obtain ⟨y0_2_0, u0_2_0, rfl, by0_2_0, g0_2_0⟩ := fits_int g0_2
  obtain rfl := fits_nil g0_2_0
  obtain ⟨u0_3, e0_3, g0_3⟩ := fld_plain (ks := [LK.int .u64, LK.int .u64, LK.int .u64, LK.int .u64, LK.int .u64, LK.int .u64, LK.int .u64, LK.int .u64]) (l := l0) (o := 3) (f0 3 _ rfl).fld (s := 8) (by kernel_rfl) 2 (by kernel_rfl) rfl (by omega)
  obtain ⟨y0_3_0, u0_3_0, rfl, by0_3_0, g0_3_0⟩ := fits_int g0_3
  obtain ⟨y0_3_1, u0_3_1, rfl, by0_3_1, g0_3_1⟩ := fits_int g0_3_0
  obtain ⟨y0_3_2, u0_3_2, rfl, by0_3_2, g0_3_2⟩ := fits_int g0_3_1
  obtain ⟨y0_3_3, u0_3_3, rfl, by0_3_3, g0_3_3⟩ := fits_int g0_3_2
  obtain ⟨y0_3_4, u0_3_4, rfl, by0_3_4, g0_3_4⟩ := fits_int g0_3_3
  obtain ⟨y0_3_5, u0_3_5, rfl, by0_3_5, g0_3_5⟩ := fits_int g0_3_4
  obtain ⟨y0_3_6, u0_3_6, rfl, by0_3_6, g0_3_6⟩ := fits_int g0_3_5
  obtain ⟨y0_3_7, u0_3_7, rfl, by0_3_7, g0_3_7⟩ := fits_int g0_3_6
  obtain rfl := fits_nil g0_3_7
  obtain ⟨u0_4, e0_4, g0_4⟩ := fld_plain (ks := [LK.int .u8]) (l := l0) (o := 11) (f0 4 _ rfl).fld (s := 1) (by kernel_rfl) 1 (by kernel_rfl) rfl (by omega)
  obtain ⟨y0_4_0, u0_4_0, rfl, by0_4_0, g0_4_0⟩ := fits_int g0_4
  obtain rfl := fits_nil g0_4_0
  obtain ⟨A0_5, c0_5, x0_5, e0_5, s0_5, w0_5, m0_5⟩ := fld_intsW (l := l0) (o := 12) (b := 8) (f0 5 _ rfl) (by kernel_rfl) Try.underlying25 (k := .u64) Try.underlying32 (by kernel_rfl) (by kernel_rfl)
  have hl0 : l0.drop 0 = List.map C.v [C.bool y0_0_0] ++ (List.map C.v [C.int .i64 y0_1_0] ++ (List.map C.v [C.int .i64 y0_2_0] ++ (List.map C.v [C.int .u64 y0_3_0, C.int .u64 y0_3_1, C.int .u64 y0_3_2, C.int .u64 y0_3_3, C.int .u64 y0_3_4, C.int .u64 y0_3_5, C.int .u64 y0_3_6, C.int .u64 y0_3_7] ++ (List.map C.v [C.int .u8 y0_4_0] ++ ([Value.slice A0_5 x0_5.length c0_5] ++ ([])))))) := by rw [glue1 l0 0 1, e0_0, glue1 l0 1 1, e0_1, glue1 l0 2 1, e0_2, glue1 l0 3 8, e0_3, glue1 l0 11 1, e0_4, glue1 l0 12 1, e0_5, List.drop_of_length_le (by omega)]
  rw [List.drop_zero] at hl0
  subst hl0
  obtain ⟨k, hm⟩ := GuardTells_pure (⟨y0_0_0, y0_1_0, y0_2_0, y0_3_0, y0_3_1, y0_3_2, y0_3_3, y0_3_4, y0_3_5, y0_3_6, y0_3_7, y0_4_0, x0_5⟩ : Tvisorlaw24_Asked) ⟨by0_1_0, by0_2_0, by0_3_0, by0_3_1, by0_3_2, by0_3_3, by0_3_4, by0_3_5, by0_3_6, by0_3_7, by0_4_0, w0_5, m0_5, trivial⟩
  refine (visorlaw24_GuardTells.ok k (⟨y0_0_0, y0_1_0, y0_2_0, y0_3_0, y0_3_1, y0_3_2, y0_3_3, y0_3_4, y0_3_5, y0_3_6, y0_3_7, y0_4_0, x0_5⟩ : Tvisorlaw24_Asked) true hm (Ctx.of W) W [] A0_5 c0_5 s0_5 (Ow.of W)).mono fun e W' ⟨he, ho⟩ => ?_
  subst he
  exact ⟨_, rfl, law_post (tb := 4) (by kernel_rfl) (by kernel_rfl) rfl (by kernel_rfl) rfl rfl rfl rfl hW' ho.below⟩

set_option maxRecDepth 100000 in
theorem lifted (os : Os) (started : os.Started) (H : Type) (enc : TypeId × Value → H) :
    ReturnsInHanded {} Try.checked os 10 .any (Rows.guardTellsSpec.pre6 enc Try.prog Try.f10 Rows.guardTellsRow.domain false) (Rows.guardTellsSpec.post enc Try.prog Try.f10 false true false false) := by
  refine returnsInHanded_of_change_sized (C := Try.checked) own started (by kernel_rfl) Try.func10
    (ChangeSpec.witness6 (enc := enc) (C := Try.checked) false ⟨#[], #[.agg #[.bool false, .int .i64 0, .int .i64 0, .int .u64 0, .int .u64 0, .int .u64 0, .int .u64 0, .int .u64 0, .int .u64 0, .int .u64 0, .int .u64 0, .int .u8 0, .slice none 0 0]], []⟩ 12 (by kernel_rfl) (by kernel_rfl) (by kernel_rfl) (by kernel_rfl)) ?_
  intro W base args ds gs before hval hW _ hz _
  exact contract H enc W base args ds gs before hval hW hz

theorem over : Rows.guardTellsRow.holds Try.pinned (OpenSpec.ofChange Rows.guardTellsSpec) :=
  OpenClaim.holds_of_wide 10 Try.f10 rfl rfl rfl rfl rfl rfl rfl ⟨rfl, rfl, rfl, rfl, rfl⟩ rfl rfl rfl rfl rfl (by kernel_rfl) Try.func10 (by kernel_rfl)
    (of_decide_eq_true (by kernel_rfl)) (by unfold Func.isWrapper; first | (rw [if_pos (by decide +kernel)]; kernel_rfl) | (rw [if_neg (by decide +kernel)]; exact ⟨rfl, rfl⟩))
    (fun os started H enc _ => lifted os started H enc)
end guardTellsRow

theorem guardTells_holds : Rows.GuardTellsSaid := guardTellsRow.over
end Go.Proofs.Ytflgefjocjpjaaa
#print axioms Go.Proofs.Ytflgefjocjpjaaa.guardTells_holds
