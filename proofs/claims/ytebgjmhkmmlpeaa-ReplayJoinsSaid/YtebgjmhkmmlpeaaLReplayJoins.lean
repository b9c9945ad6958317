/- ReplayJoins: whatever the input, the law returns true, and the input reads as it did; no condition. -/
import Derived.Test.YtebgjmhkmmlpeaaRows
import Derived.Test.YtebgjmhkmmlpeaaRReplayJoins
import Derived.WalkKit
import Derived.ProofKit
import Derived.OpenShut

namespace Go.Proofs.Ytebgjmhkmmlpeaa
namespace replayJoinsRow
open Go.ChangeShapes Go.WideShapes Go.ChangeAt Go.RowKit Go.Vk
open Go.ChangeMaps (open_string)
set_option linter.unusedVariables false

theorem own : ownKnob Try.prog.godebug = none := by kernel_rfl

set_option maxRecDepth 100000 in
set_option maxHeartbeats 2000000 in
theorem contract (H : Type) (enc : TypeId × Value → H) (W : World) (base : Nat) (args : Array Value) (ds gs : List (DataW H)) (before : List MemPlace)
    (hval : ∀ (j : Nat) t v, Try.f6.params[j]? = some t → args[j]? = some v → Value.okWide Try.prog W .any base t v)
    (hW : DataW.Whole enc Try.prog Try.f6.params.toList Rows.replayJoinsSpec.vars false W args.toList ds gs before)
    (hz : (DataW.weightsEach Try.checked.prog (Try.f6.params.toList ++ Rows.replayJoinsSpec.plain.varTypes Try.checked.prog) (ds ++ gs)).all (· ≤ reachBytes) = true) :
    Calls Try.prog 6 args W fun e W' => ∃ v, e = .returned v ∧ Rows.replayJoinsSpec.post enc Try.prog Try.f6 false true false false W args v W' := by
  have hW' := hW
  obtain ⟨p, q, hA0, hV, rfl, hfz, hnd⟩ := hW
  have hA : DataW.TrodAll enc Try.prog W 0 (fun _ => true) true Try.f6.params.toList args.toList ds p := hA0
  rw [Try.params6] at hA hval
  obtain ⟨v0, vs0, d0, ds0, p0, q0, hargs, rfl, rfl, h0, r0⟩ := trodAll_cons hA
  obtain ⟨v1, vs1, d1, ds1, p1, q1, rfl, rfl, rfl, h1, r1⟩ := trodAll_cons r0
  obtain ⟨v2, vs2, d2, ds2, p2, q2, rfl, rfl, rfl, h2, r2⟩ := trodAll_cons r1
  obtain ⟨rfl, rfl, rfl⟩ := trodAll_nil r2
  obtain rfl : args = #[v0, v1, v2] := by cases args; simp_all
  obtain ⟨rfl, rfl⟩ := trodVars_none hV
  clear hA0
  obtain ⟨l0, rfl, n0, f0⟩ := open_structW 3 Try.underlying58 (by kernel_rfl) (hval 0 58 v0 rfl rfl) h0 (each_le hz 0 rfl rfl)
  obtain ⟨u0_0, e0_0, g0_0⟩ := fld_plain (ks := [LK.int .i64]) (l := l0) (o := 0) (f0 0 _ rfl).fld (s := 1) (by kernel_rfl) 1 (by kernel_rfl) rfl (by omega)
  obtain ⟨y0_0_0, u0_0_0, rfl, by0_0_0, g0_0_0⟩ := fits_int g0_0
  obtain rfl := fits_nil g0_0_0
  obtain ⟨A0_1, c0_1, z0_1, e0_1, s00_1, w0_1, m0_1⟩ := fld_slcW (ks := [LK.int .i64, LK.int .i64, LK.int .i64, LK.int .i64, LK.int .i64, LK.int .u64]) (l := l0) (o := 1) (b := 48) (f0 1 _ rfl) (by kernel_rfl) Try.underlying55 2 (by kernel_rfl) (by kernel_rfl) (by decide) (by kernel_rfl)
  obtain ⟨x0_1, rfl, o0_1⟩ := Tapi_Op.ofs w0_1
  have s0_1 := s00_1.map
  rw [List.length_map] at e0_1 m0_1
  obtain ⟨A0_2, c0_2, z0_2, e0_2, s00_2, w0_2, m0_2⟩ := fld_slcW (ks := [LK.int .i64, LK.int .i64, LK.int .i64]) (l := l0) (o := 2) (b := 24) (f0 2 _ rfl) (by kernel_rfl) Try.underlying56 2 (by kernel_rfl) (by kernel_rfl) (by decide) (by kernel_rfl)
  obtain ⟨x0_2, rfl, o0_2⟩ := Tapi_Span.ofs w0_2
  have s0_2 := s00_2.map
  rw [List.length_map] at e0_2 m0_2
  have hl0 : l0.drop 0 = List.map C.v [C.int .i64 y0_0_0] ++ ([Value.slice A0_1 x0_1.length c0_1] ++ ([Value.slice A0_2 x0_2.length c0_2] ++ ([]))) := by rw [glue1 l0 0 1, e0_0, glue1 l0 1 1, e0_1, glue1 l0 2 1, e0_2, List.drop_of_length_le (by omega)]
  rw [List.drop_zero] at hl0
  subst hl0
  obtain ⟨l1, rfl, n1, f1⟩ := open_structW 3 Try.underlying58 (by kernel_rfl) (hval 1 58 v1 rfl rfl) h1 (each_le hz 1 rfl rfl)
  obtain ⟨u1_0, e1_0, g1_0⟩ := fld_plain (ks := [LK.int .i64]) (l := l1) (o := 0) (f1 0 _ rfl).fld (s := 1) (by kernel_rfl) 1 (by kernel_rfl) rfl (by omega)
  obtain ⟨y1_0_0, u1_0_0, rfl, by1_0_0, g1_0_0⟩ := fits_int g1_0
  obtain rfl := fits_nil g1_0_0
  obtain ⟨A1_1, c1_1, z1_1, e1_1, s01_1, w1_1, m1_1⟩ := fld_slcW (ks := [LK.int .i64, LK.int .i64, LK.int .i64, LK.int .i64, LK.int .i64, LK.int .u64]) (l := l1) (o := 1) (b := 48) (f1 1 _ rfl) (by kernel_rfl) Try.underlying55 2 (by kernel_rfl) (by kernel_rfl) (by decide) (by kernel_rfl)
  obtain ⟨x1_1, rfl, o1_1⟩ := Tapi_Op.ofs w1_1
  have s1_1 := s01_1.map
  rw [List.length_map] at e1_1 m1_1
  obtain ⟨A1_2, c1_2, z1_2, e1_2, s01_2, w1_2, m1_2⟩ := fld_slcW (ks := [LK.int .i64, LK.int .i64, LK.int .i64]) (l := l1) (o := 2) (b := 24) (f1 2 _ rfl) (by kernel_rfl) Try.underlying56 2 (by kernel_rfl) (by kernel_rfl) (by decide) (by kernel_rfl)
  obtain ⟨x1_2, rfl, o1_2⟩ := Tapi_Span.ofs w1_2
  have s1_2 := s01_2.map
  rw [List.length_map] at e1_2 m1_2
  have hl1 : l1.drop 0 = List.map C.v [C.int .i64 y1_0_0] ++ ([Value.slice A1_1 x1_1.length c1_1] ++ ([Value.slice A1_2 x1_2.length c1_2] ++ ([]))) := by rw [glue1 l1 0 1, e1_0, glue1 l1 1 1, e1_1, glue1 l1 2 1, e1_2, List.drop_of_length_le (by omega)]
  rw [List.drop_zero] at hl1
  subst hl1
  obtain ⟨A2, c2, x2, rfl, s2, w2, m2⟩ := Vk.open_ints Try.underlying59 Try.underlying71 (by kernel_rfl) (hval 2 59 v2 rfl rfl) h2
  have z2 := trod_bytes (b := 8) Try.underlying59 h2 (by kernel_rfl) (each_le hz 2 rfl rfl)
  obtain ⟨k, hm⟩ := ReplayJoins_pure (⟨y0_0_0, x0_1, x0_2⟩ : Tapi_Trace) (⟨y1_0_0, x1_1, x1_2⟩ : Tapi_Trace) x2 ⟨by0_0_0, o0_1, m0_1, o0_2, m0_2, trivial⟩ ⟨by1_0_0, o1_1, m1_1, o1_2, m1_2, trivial⟩ w2 z2
  refine (visorlaw29_ReplayJoins.ok k (⟨y0_0_0, x0_1, x0_2⟩ : Tapi_Trace) (⟨y1_0_0, x1_1, x1_2⟩ : Tapi_Trace) x2 true hm (Ctx.of W) W [] A0_1 c0_1 s0_1 A0_2 c0_2 s0_2 A1_1 c1_1 s1_1 A1_2 c1_2 s1_2 A2 c2 s2 (Ow.of W)).mono fun e W' ⟨he, ho⟩ => ?_
  subst he
  exact ⟨_, rfl, law_post (tb := 4) (by kernel_rfl) (by kernel_rfl) rfl (by kernel_rfl) rfl rfl rfl rfl hW' ho.below⟩

set_option maxRecDepth 100000 in
theorem lifted (os : Os) (started : os.Started) (H : Type) (enc : TypeId × Value → H) :
    ReturnsInHanded {} Try.checked os 6 .any (Rows.replayJoinsSpec.pre6 enc Try.prog Try.f6 Rows.replayJoinsRow.domain false) (Rows.replayJoinsSpec.post enc Try.prog Try.f6 false true false false) := by
  refine returnsInHanded_of_change_sized (C := Try.checked) own started (by kernel_rfl) Try.func6
    (ChangeSpec.witness6 (enc := enc) (C := Try.checked) false ⟨#[], #[.agg #[.int .i64 0, .slice none 0 0, .slice none 0 0], .agg #[.int .i64 0, .slice none 0 0, .slice none 0 0], .slice none 0 0], []⟩ 12 (by kernel_rfl) (by kernel_rfl) (by kernel_rfl) (by kernel_rfl)) ?_
  intro W base args ds gs before hval hW _ hz _
  exact contract H enc W base args ds gs before hval hW hz

theorem over : Rows.replayJoinsRow.holds Try.pinned (OpenSpec.ofChange Rows.replayJoinsSpec) :=
  OpenClaim.holds_of_wide 6 Try.f6 rfl rfl rfl rfl rfl rfl rfl ⟨rfl, rfl, rfl, rfl, rfl⟩ rfl rfl rfl rfl rfl (by kernel_rfl) Try.func6 (by kernel_rfl)
    (of_decide_eq_true (by kernel_rfl)) (by unfold Func.isWrapper; first | (rw [if_pos (by decide +kernel)]; kernel_rfl) | (rw [if_neg (by decide +kernel)]; exact ⟨rfl, rfl⟩))
    (fun os started H enc _ => lifted os started H enc)
end replayJoinsRow

theorem replayJoins_holds : Rows.ReplayJoinsSaid := replayJoinsRow.over
end Go.Proofs.Ytebgjmhkmmlpeaa
#print axioms Go.Proofs.Ytebgjmhkmmlpeaa.replayJoins_holds
