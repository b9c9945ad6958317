/- SlotsPlay: whatever the input, the law returns true, and the input reads as it did; no condition. -/
import Derived.Test.YtebgjmhkmmlpeaaRows
import Derived.Test.YtebgjmhkmmlpeaaRSlotsPlay
import Derived.WalkKit
import Derived.ProofKit
import Derived.OpenShut

namespace Go.Proofs.Ytebgjmhkmmlpeaa
namespace slotsPlayRow
open Go.ChangeShapes Go.WideShapes Go.ChangeAt Go.RowKit Go.Vk
open Go.ChangeMaps (open_string)
set_option linter.unusedVariables false

theorem own : ownKnob Try.prog.godebug = none := by kernel_rfl

set_option maxRecDepth 100000 in
set_option maxHeartbeats 2000000 in
theorem contract (H : Type) (enc : TypeId × Value → H) (W : World) (base : Nat) (args : Array Value) (ds gs : List (DataW H)) (before : List MemPlace)
    (hval : ∀ (j : Nat) t v, Try.f3.params[j]? = some t → args[j]? = some v → Value.okWide Try.prog W .any base t v)
    (hW : DataW.Whole enc Try.prog Try.f3.params.toList Rows.slotsPlaySpec.vars false W args.toList ds gs before)
    (hz : (DataW.weightsEach Try.checked.prog (Try.f3.params.toList ++ Rows.slotsPlaySpec.plain.varTypes Try.checked.prog) (ds ++ gs)).all (· ≤ reachBytes) = true) :
    Calls Try.prog 3 args W fun e W' => ∃ v, e = .returned v ∧ Rows.slotsPlaySpec.post enc Try.prog Try.f3 false true false false W args v W' := by
  have hW' := hW
  obtain ⟨p, q, hA0, hV, rfl, hfz, hnd⟩ := hW
  have hA : DataW.TrodAll enc Try.prog W 0 (fun _ => true) true Try.f3.params.toList args.toList ds p := hA0
  rw [Try.params3] at hA hval
  obtain ⟨v0, vs0, d0, ds0, p0, q0, hargs, rfl, rfl, h0, r0⟩ := trodAll_cons hA
  obtain ⟨rfl, rfl, rfl⟩ := trodAll_nil r0
  obtain rfl : args = #[v0] := by cases args; simp_all
  obtain ⟨rfl, rfl⟩ := trodVars_none hV
  clear hA0
  obtain ⟨A0, c0, y0, rfl, s0, w0, m0⟩ := Vk.open_slc (ks := [LK.int .i64, LK.int .i64, LK.int .i64, LK.int .i64]) Try.underlying22 2 (by kernel_rfl) (by kernel_rfl) (by decide) (hval 0 22 v0 rfl rfl) h0
  obtain ⟨x0, rfl, o0⟩ := Tvisorlaw48_Act.ofs w0
  have z0 := trod_bytes (b := 32) Try.underlying22 h0 (by kernel_rfl) (each_le hz 0 rfl rfl)
  have s0' := s0.map
  rw [List.length_map] at hW' ⊢
  obtain ⟨k, hm⟩ := SlotsPlay_pure x0 o0 (by rw [List.length_map] at z0; exact z0)
  refine (visorlaw48_SlotsPlay.ok k x0 true hm (Ctx.of W) W [] A0 c0 s0' (Ow.of W)).mono fun e W' ⟨he, ho⟩ => ?_
  subst he
  exact ⟨_, rfl, law_post (tb := 4) (by kernel_rfl) (by kernel_rfl) rfl (by kernel_rfl) rfl rfl rfl rfl hW' ho.below⟩

set_option maxRecDepth 100000 in
theorem lifted (os : Os) (started : os.Started) (H : Type) (enc : TypeId × Value → H) :
    ReturnsInHanded {} Try.checked os 3 .any (Rows.slotsPlaySpec.pre6 enc Try.prog Try.f3 Rows.slotsPlayRow.domain false) (Rows.slotsPlaySpec.post enc Try.prog Try.f3 false true false false) := by
  refine returnsInHanded_of_change_sized (C := Try.checked) own started (by kernel_rfl) Try.func3
    (ChangeSpec.witness6 (enc := enc) (C := Try.checked) false ⟨#[], #[.slice none 0 0], []⟩ 12 (by kernel_rfl) (by kernel_rfl) (by kernel_rfl) (by kernel_rfl)) ?_
  intro W base args ds gs before hval hW _ hz _
  exact contract H enc W base args ds gs before hval hW hz

theorem over : Rows.slotsPlayRow.holds Try.pinned (OpenSpec.ofChange Rows.slotsPlaySpec) :=
  OpenClaim.holds_of_wide 3 Try.f3 rfl rfl rfl rfl rfl rfl rfl ⟨rfl, rfl, rfl, rfl, rfl⟩ rfl rfl rfl rfl rfl (by kernel_rfl) Try.func3 (by kernel_rfl)
    (of_decide_eq_true (by kernel_rfl)) (by unfold Func.isWrapper; first | (rw [if_pos (by decide +kernel)]; kernel_rfl) | (rw [if_neg (by decide +kernel)]; exact ⟨rfl, rfl⟩))
    (fun os started H enc _ => lifted os started H enc)
end slotsPlayRow

theorem slotsPlay_holds : Rows.SlotsPlaySaid := slotsPlayRow.over
end Go.Proofs.Ytebgjmhkmmlpeaa
#print axioms Go.Proofs.Ytebgjmhkmmlpeaa.slotsPlay_holds
