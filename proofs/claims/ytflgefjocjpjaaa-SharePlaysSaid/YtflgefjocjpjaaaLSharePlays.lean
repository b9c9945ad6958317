/- SharePlays: whatever the input, the law returns true, and the input reads as it did; no condition. -/
import Derived.Test.YtflgefjocjpjaaaRows
import Derived.Test.YtflgefjocjpjaaaRSharePlays
import Derived.WalkKit
import Derived.ProofKit
import Derived.OpenShut

namespace Go.Proofs.Ytflgefjocjpjaaa
namespace sharePlaysRow
open Go.ChangeShapes Go.WideShapes Go.ChangeAt Go.RowKit Go.Vk
open Go.ChangeMaps (open_string)
set_option linter.unusedVariables false

theorem own : ownKnob Try.prog.godebug = none := by kernel_rfl

set_option maxRecDepth 100000 in
set_option maxHeartbeats 2000000 in
theorem contract (H : Type) (enc : TypeId × Value → H) (W : World) (base : Nat) (args : Array Value) (ds gs : List (DataW H)) (before : List MemPlace)
    (hval : ∀ (j : Nat) t v, Try.f5.params[j]? = some t → args[j]? = some v → Value.okWide Try.prog W .any base t v)
    (hW : DataW.Whole enc Try.prog Try.f5.params.toList Rows.sharePlaysSpec.vars false W args.toList ds gs before)
    (hz : (DataW.weightsEach Try.checked.prog (Try.f5.params.toList ++ Rows.sharePlaysSpec.plain.varTypes Try.checked.prog) (ds ++ gs)).all (· ≤ reachBytes) = true) :
    Calls Try.prog 5 args W fun e W' => ∃ v, e = .returned v ∧ Rows.sharePlaysSpec.post enc Try.prog Try.f5 false true false false W args v W' := by
  have hW' := hW
  obtain ⟨p, q, hA0, hV, rfl, hfz, hnd⟩ := hW
  have hA : DataW.TrodAll enc Try.prog W 0 (fun _ => true) true Try.f5.params.toList args.toList ds p := hA0
  rw [Try.params5] at hA hval
  obtain ⟨v0, vs0, d0, ds0, p0, q0, hargs, rfl, rfl, h0, r0⟩ := trodAll_cons hA
  obtain ⟨v1, vs1, d1, ds1, p1, q1, rfl, rfl, rfl, h1, r1⟩ := trodAll_cons r0
  obtain ⟨v2, vs2, d2, ds2, p2, q2, rfl, rfl, rfl, h2, r2⟩ := trodAll_cons r1
  obtain ⟨rfl, rfl, rfl⟩ := trodAll_nil r2
  obtain rfl : args = #[v0, v1, v2] := by cases args; simp_all
  obtain ⟨rfl, rfl⟩ := trodVars_none hV
  clear hA0
  obtain ⟨x0, rfl, rfl, rfl⟩ := open_bool Try.underlying4 (hval 0 4 v0 rfl rfl) h0
  obtain ⟨A1, c1, x1, rfl, s1, w1, m1⟩ := Vk.open_ints Try.underlying25 Try.underlying32 (by kernel_rfl) (hval 1 25 v1 rfl rfl) h1
  have z1 := trod_bytes (b := 8) Try.underlying25 h1 (by kernel_rfl) (each_le hz 1 rfl rfl)
  obtain ⟨A2, c2, y2, rfl, s2, w2, m2⟩ := Vk.open_slc (ks := [LK.int .i64, LK.int .i64, LK.int .i64, LK.int .i64, LK.int .u64]) Try.underlying54 2 (by kernel_rfl) (by kernel_rfl) (by decide) (hval 2 54 v2 rfl rfl) h2
  obtain ⟨x2, rfl, o2⟩ := Tvisorlaw20_Act.ofs w2
  have z2 := trod_bytes (b := 40) Try.underlying54 h2 (by kernel_rfl) (each_le hz 2 rfl rfl)
  have s2' := s2.map
  rw [List.length_map] at hW' ⊢
  obtain ⟨k, hm⟩ := SharePlays_pure x0 x1 x2 w1 z1 o2 (by rw [List.length_map] at z2; exact z2)
  refine (visorlaw20_SharePlays.ok k x0 x1 x2 true hm (Ctx.of W) W [] A1 c1 s1 A2 c2 s2' (Own.of W)).mono fun e W' ⟨he, ho⟩ => ?_
  subst he
  exact ⟨_, rfl, law_post (tb := 4) (by kernel_rfl) (by kernel_rfl) rfl (by kernel_rfl) rfl rfl rfl rfl hW' ho.below⟩

set_option maxRecDepth 100000 in
theorem lifted (os : Os) (started : os.Started) (H : Type) (enc : TypeId × Value → H) :
    ReturnsInHanded {} Try.checked os 5 .any (Rows.sharePlaysSpec.pre6 enc Try.prog Try.f5 Rows.sharePlaysRow.domain false) (Rows.sharePlaysSpec.post enc Try.prog Try.f5 false true false false) := by
  refine returnsInHanded_of_change_sized (C := Try.checked) own started (by kernel_rfl) Try.func5
    (ChangeSpec.witness6 (enc := enc) (C := Try.checked) false ⟨#[], #[.bool false, .slice none 0 0, .slice none 0 0], []⟩ 12 (by kernel_rfl) (by kernel_rfl) (by kernel_rfl) (by kernel_rfl)) ?_
  intro W base args ds gs before hval hW _ hz _
  exact contract H enc W base args ds gs before hval hW hz

theorem over : Rows.sharePlaysRow.holds Try.pinned (OpenSpec.ofChange Rows.sharePlaysSpec) :=
  OpenClaim.holds_of_wide 5 Try.f5 rfl rfl rfl rfl rfl rfl rfl ⟨rfl, rfl, rfl, rfl, rfl⟩ rfl rfl rfl rfl rfl (by kernel_rfl) Try.func5 (by kernel_rfl)
    (of_decide_eq_true (by kernel_rfl)) (by unfold Func.isWrapper; first | (rw [if_pos (by decide +kernel)]; kernel_rfl) | (rw [if_neg (by decide +kernel)]; exact ⟨rfl, rfl⟩))
    (fun os started H enc _ => lifted os started H enc)
end sharePlaysRow

theorem sharePlays_holds : Rows.SharePlaysSaid := sharePlaysRow.over
end Go.Proofs.Ytflgefjocjpjaaa
#print axioms Go.Proofs.Ytflgefjocjpjaaa.sharePlays_holds
