/- GuardShows: whatever the input, the law returns true, and the input reads as it did; no condition. -/
import Derived.Test.YtflgefjocjpjaaaRows
import Derived.Test.YtflgefjocjpjaaaRGuardShows
import Derived.WalkKit
import Derived.ProofKit
import Derived.OpenShut

namespace Go.Proofs.Ytflgefjocjpjaaa
namespace guardShowsRow
open Go.ChangeShapes Go.WideShapes Go.ChangeAt Go.RowKit Go.Vk
open Go.ChangeMaps (open_string)
set_option linter.unusedVariables false

theorem own : ownKnob Try.prog.godebug = none := by kernel_rfl

set_option maxRecDepth 100000 in
set_option maxHeartbeats 2000000 in
theorem contract (H : Type) (enc : TypeId × Value → H) (W : World) (base : Nat) (args : Array Value) (ds gs : List (DataW H)) (before : List MemPlace)
    (hval : ∀ (j : Nat) t v, Try.f9.params[j]? = some t → args[j]? = some v → Value.okWide Try.prog W .any base t v)
    (hW : DataW.Whole enc Try.prog Try.f9.params.toList Rows.guardShowsSpec.vars false W args.toList ds gs before)
    (hz : (DataW.weightsEach Try.checked.prog (Try.f9.params.toList ++ Rows.guardShowsSpec.plain.varTypes Try.checked.prog) (ds ++ gs)).all (· ≤ reachBytes) = true) :
    Calls Try.prog 9 args W fun e W' => ∃ v, e = .returned v ∧ Rows.guardShowsSpec.post enc Try.prog Try.f9 false true false false W args v W' := by
  have hW' := hW
  obtain ⟨p, q, hA0, hV, rfl, hfz, hnd⟩ := hW
  have hA : DataW.TrodAll enc Try.prog W 0 (fun _ => true) true Try.f9.params.toList args.toList ds p := hA0
  rw [Try.params9] at hA hval
  obtain ⟨v0, vs0, d0, ds0, p0, q0, hargs, rfl, rfl, h0, r0⟩ := trodAll_cons hA
  obtain ⟨v1, vs1, d1, ds1, p1, q1, rfl, rfl, rfl, h1, r1⟩ := trodAll_cons r0
  obtain ⟨v2, vs2, d2, ds2, p2, q2, rfl, rfl, rfl, h2, r2⟩ := trodAll_cons r1
  obtain ⟨v3, vs3, d3, ds3, p3, q3, rfl, rfl, rfl, h3, r3⟩ := trodAll_cons r2
  obtain ⟨rfl, rfl, rfl⟩ := trodAll_nil r3
  obtain rfl : args = #[v0, v1, v2, v3] := by cases args; simp_all
  obtain ⟨rfl, rfl⟩ := trodVars_none hV
  clear hA0
  obtain ⟨x0, rfl, rfl, rfl⟩ := open_bool Try.underlying4 (hval 0 4 v0 rfl rfl) h0
  obtain ⟨x1, rfl, w1, rfl⟩ := open_plain (ks := [LK.int .u64, LK.int .u64, LK.int .u64, LK.int .u64, LK.int .u64, LK.int .u64, LK.int .u64, LK.int .u64]) 2 (by kernel_rfl) (by kernel_rfl) ⟨8, by kernel_rfl⟩ (hval 1 80 v1 rfl rfl) h1
  obtain ⟨x2, rfl, rfl, rfl, w2⟩ := open_int Try.underlying5 (hval 2 5 v2 rfl rfl) h2
  obtain ⟨x3, rfl, w3, rfl⟩ := open_plain (ks := [LK.int .u64, LK.int .u64, LK.int .u64, LK.int .u64, LK.int .u64, LK.int .u64, LK.int .u64, LK.int .u64, LK.int .u64, LK.int .u64, LK.int .u64, LK.int .u64, LK.int .u64, LK.int .u64, LK.int .u64, LK.int .u64, LK.int .u64, LK.int .u64, LK.int .u64, LK.int .u64, LK.int .u64, LK.int .u64, LK.int .u64, LK.int .u64]) 2 (by kernel_rfl) (by kernel_rfl) ⟨24, by kernel_rfl⟩ (hval 3 98 v3 rfl rfl) h3
  obtain ⟨k, hm⟩ := GuardShows_pure x0 x1 x2 x3 w1 (wf_bounds w2) w3
  refine (visorlaw24_GuardShows.ok k x0 x1 x2 x3 true hm (Ctx.of W) W []  (Ow.of W)).mono fun e W' ⟨he, ho⟩ => ?_
  subst he
  exact ⟨_, rfl, law_post (tb := 4) (by kernel_rfl) (by kernel_rfl) rfl (by kernel_rfl) rfl rfl rfl rfl hW' ho.below⟩

set_option maxRecDepth 100000 in
theorem lifted (os : Os) (started : os.Started) (H : Type) (enc : TypeId × Value → H) :
    ReturnsInHanded {} Try.checked os 9 .any (Rows.guardShowsSpec.pre6 enc Try.prog Try.f9 Rows.guardShowsRow.domain false) (Rows.guardShowsSpec.post enc Try.prog Try.f9 false true false false) := by
  refine returnsInHanded_of_change_sized (C := Try.checked) own started (by kernel_rfl) Try.func9
    (ChangeSpec.witness6 (enc := enc) (C := Try.checked) false ⟨#[], #[.bool false, .agg #[.int .u64 0, .int .u64 0, .int .u64 0, .int .u64 0, .int .u64 0, .int .u64 0, .int .u64 0, .int .u64 0], .int .u8 0, .agg #[.int .u64 0, .int .u64 0, .int .u64 0, .int .u64 0, .int .u64 0, .int .u64 0, .int .u64 0, .int .u64 0, .int .u64 0, .int .u64 0, .int .u64 0, .int .u64 0, .int .u64 0, .int .u64 0, .int .u64 0, .int .u64 0, .int .u64 0, .int .u64 0, .int .u64 0, .int .u64 0, .int .u64 0, .int .u64 0, .int .u64 0, .int .u64 0]], []⟩ 12 (by kernel_rfl) (by kernel_rfl) (by kernel_rfl) (by kernel_rfl)) ?_
  intro W base args ds gs before hval hW _ hz _
  exact contract H enc W base args ds gs before hval hW hz

theorem over : Rows.guardShowsRow.holds Try.pinned (OpenSpec.ofChange Rows.guardShowsSpec) :=
  OpenClaim.holds_of_wide 9 Try.f9 rfl rfl rfl rfl rfl rfl rfl ⟨rfl, rfl, rfl, rfl, rfl⟩ rfl rfl rfl rfl rfl (by kernel_rfl) Try.func9 (by kernel_rfl)
    (of_decide_eq_true (by kernel_rfl)) (by unfold Func.isWrapper; first | (rw [if_pos (by decide +kernel)]; kernel_rfl) | (rw [if_neg (by decide +kernel)]; exact ⟨rfl, rfl⟩))
    (fun os started H enc _ => lifted os started H enc)
end guardShowsRow

theorem guardShows_holds : Rows.GuardShowsSaid := guardShowsRow.over
end Go.Proofs.Ytflgefjocjpjaaa
#print axioms Go.Proofs.Ytflgefjocjpjaaa.guardShows_holds
