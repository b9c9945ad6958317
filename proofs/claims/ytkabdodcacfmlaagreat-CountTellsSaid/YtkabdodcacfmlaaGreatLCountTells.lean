/- CountTells: whatever the input, the law returns true, and the input reads as it did; no condition. -/
import Derived.Test.YtkabdodcacfmlaaGreatRows
import Derived.Test.YtkabdodcacfmlaaGreatRCountTells
import Derived.WalkKit
import Derived.ProofKit
import Derived.OpenShut

namespace Go.Proofs.YtkabdodcacfmlaaGreat
namespace countTellsRow
open Go.ChangeShapes Go.WideShapes Go.ChangeAt Go.RowKit Go.Vk
open Go.ChangeMaps (open_string)
set_option linter.unusedVariables false

theorem own : ownKnob Tryz.prog.godebug = none := by kernel_rfl

set_option maxRecDepth 100000 in
set_option maxHeartbeats 2000000 in
theorem contract (H : Type) (enc : TypeId × Value → H) (W : World) (base : Nat) (args : Array Value) (ds gs : List (DataW H)) (before : List MemPlace)
    (hval : ∀ (j : Nat) t v, Tryz.f4.params[j]? = some t → args[j]? = some v → Value.okWide Tryz.prog W .any base t v)
    (hW : DataW.Whole enc Tryz.prog Tryz.f4.params.toList Rows.countTellsSpec.vars false W args.toList ds gs before)
    (hz : (DataW.weightsEach Tryz.checked.prog (Tryz.f4.params.toList ++ Rows.countTellsSpec.plain.varTypes Tryz.checked.prog) (ds ++ gs)).all (· ≤ reachBytes) = true) :
    Calls Tryz.prog 4 args W fun e W' => ∃ v, e = .returned v ∧ Rows.countTellsSpec.post enc Tryz.prog Tryz.f4 false true false false W args v W' := by
  have hW' := hW
  obtain ⟨p, q, hA0, hV, rfl, hfz, hnd⟩ := hW
  have hA : DataW.TrodAll enc Tryz.prog W 0 (fun _ => true) true Tryz.f4.params.toList args.toList ds p := hA0
  rw [Tryz.params4] at hA hval
  obtain ⟨v0, vs0, d0, ds0, p0, q0, hargs, rfl, rfl, h0, r0⟩ := trodAll_cons hA
  obtain ⟨v1, vs1, d1, ds1, p1, q1, rfl, rfl, rfl, h1, r1⟩ := trodAll_cons r0
  obtain ⟨v2, vs2, d2, ds2, p2, q2, rfl, rfl, rfl, h2, r2⟩ := trodAll_cons r1
  obtain ⟨v3, vs3, d3, ds3, p3, q3, rfl, rfl, rfl, h3, r3⟩ := trodAll_cons r2
  obtain ⟨v4, vs4, d4, ds4, p4, q4, rfl, rfl, rfl, h4, r4⟩ := trodAll_cons r3
  obtain ⟨rfl, rfl, rfl⟩ := trodAll_nil r4
  obtain rfl : args = #[v0, v1, v2, v3, v4] := by cases args; simp_all
  obtain ⟨rfl, rfl⟩ := trodVars_none hV
  clear hA0
  obtain ⟨l0, rfl, n0, f0⟩ := open_structW 3 Tryz.underlying25 (by kernel_rfl) (hval 0 25 v0 rfl rfl) h0 (each_le hz 0 rfl rfl)
  obtain ⟨u0_0, e0_0, g0_0⟩ := fld_plain (ks := [LK.int .i64]) (l := l0) (o := 0) (f0 0 _ rfl).fld (s := 1) (by kernel_rfl) 1 (by kernel_rfl) rfl (by omega)
  obtain ⟨y0_0_0, u0_0_0, rfl, by0_0_0, g0_0_0⟩ := fits_int g0_0
  obtain rfl := fits_nil g0_0_0
  obtain ⟨A0_1, c0_1, z0_1, e0_1, s00_1, w0_1, m0_1⟩ := fld_slcW (ks := [LK.int .i64, LK.int .i64, LK.int .i64, LK.int .i64, LK.int .i64, LK.int .u64]) (l := l0) (o := 1) (b := 48) (f0 1 _ rfl) (by kernel_rfl) Tryz.underlying22 2 (by kernel_rfl) (by kernel_rfl) (by decide) (by kernel_rfl)
  obtain ⟨x0_1, rfl, o0_1⟩ := Tapi_Op.ofs w0_1
  have s0_1 := s00_1.map
  rw [List.length_map] at e0_1 m0_1
  obtain ⟨A0_2, c0_2, z0_2, e0_2, s00_2, w0_2, m0_2⟩ := fld_slcW (ks := [LK.int .i64, LK.int .i64, LK.int .i64]) (l := l0) (o := 2) (b := 24) (f0 2 _ rfl) (by kernel_rfl) Tryz.underlying23 2 (by kernel_rfl) (by kernel_rfl) (by decide) (by kernel_rfl)
  obtain ⟨x0_2, rfl, o0_2⟩ := Tapi_Span.ofs w0_2
  have s0_2 := s00_2.map
  rw [List.length_map] at e0_2 m0_2
  have hl0 : l0.drop 0 = List.map C.v [C.int .i64 y0_0_0] ++ ([Value.slice A0_1 x0_1.length c0_1] ++ ([Value.slice A0_2 x0_2.length c0_2] ++ ([]))) := by rw [glue1 l0 0 1, e0_0, glue1 l0 1 1, e0_1, glue1 l0 2 1, e0_2, List.drop_of_length_le (by omega)]
  rw [List.drop_zero] at hl0
  subst hl0
  obtain ⟨A1, c1, x1, rfl, s1, w1, m1⟩ := Vk.open_ints Tryz.underlying26 Tryz.underlying34 (by kernel_rfl) (hval 1 26 v1 rfl rfl) h1
  have z1 := trod_bytes (b := 8) Tryz.underlying26 h1 (by kernel_rfl) (each_le hz 1 rfl rfl)
  obtain ⟨A2, c2, x2, rfl, s2, w2, m2⟩ := Vk.open_ints Tryz.underlying28 Tryz.underlying3 (by kernel_rfl) (hval 2 28 v2 rfl rfl) h2
  have z2 := trod_bytes (b := 8) Tryz.underlying28 h2 (by kernel_rfl) (each_le hz 2 rfl rfl)
  obtain ⟨x3, rfl, rfl, rfl, w3⟩ := open_int Tryz.underlying3 (hval 3 3 v3 rfl rfl) h3
  obtain ⟨x4, rfl, rfl, rfl, w4⟩ := open_int Tryz.underlying3 (hval 4 3 v4 rfl rfl) h4
  obtain ⟨k, hm⟩ := CountTells_pure (⟨y0_0_0, x0_1, x0_2⟩ : Tapi_Trace) x1 x2 x3 x4 ⟨by0_0_0, o0_1, m0_1, o0_2, m0_2, trivial⟩ w1 z1 w2 z2 (wf_bounds w3) (wf_bounds w4)
  refine (visorlaw31_CountTells.ok k (⟨y0_0_0, x0_1, x0_2⟩ : Tapi_Trace) x1 x2 x3 x4 true hm (Ctx.of W) W [] A0_1 c0_1 s0_1 A0_2 c0_2 s0_2 A1 c1 s1 A2 c2 s2 (Ow.of W)).mono fun e W' ⟨he, ho⟩ => ?_
  subst he
  exact ⟨_, rfl, law_post (tb := 4) (by kernel_rfl) (by kernel_rfl) rfl (by kernel_rfl) rfl rfl rfl rfl hW' ho.below⟩

set_option maxRecDepth 100000 in
theorem lifted (os : Os) (started : os.Started) (H : Type) (enc : TypeId × Value → H) :
    ReturnsInHanded {} Tryz.checked os 4 .any (Rows.countTellsSpec.pre6 enc Tryz.prog Tryz.f4 Rows.countTellsRow.domain false) (Rows.countTellsSpec.post enc Tryz.prog Tryz.f4 false true false false) := by
  refine returnsInHanded_of_change_sized (C := Tryz.checked) own started (by kernel_rfl) Tryz.func4
    (ChangeSpec.witness6 (enc := enc) (C := Tryz.checked) false ⟨#[], #[.agg #[.int .i64 0, .slice none 0 0, .slice none 0 0], .slice none 0 0, .slice none 0 0, .int .i64 0, .int .i64 0], []⟩ 12 (by kernel_rfl) (by kernel_rfl) (by kernel_rfl) (by kernel_rfl)) ?_
  intro W base args ds gs before hval hW _ hz _
  exact contract H enc W base args ds gs before hval hW hz

theorem over : Rows.countTellsRow.holds Tryz.pinned (OpenSpec.ofChange Rows.countTellsSpec) :=
  OpenClaim.holds_of_wide 4 Tryz.f4 rfl rfl rfl rfl rfl rfl rfl ⟨rfl, rfl, rfl, rfl, rfl⟩ rfl rfl rfl rfl rfl (by kernel_rfl) Tryz.func4 (by kernel_rfl)
    (of_decide_eq_true (by kernel_rfl)) (by unfold Func.isWrapper; first | (rw [if_pos (by decide +kernel)]; kernel_rfl) | (rw [if_neg (by decide +kernel)]; exact ⟨rfl, rfl⟩))
    (fun os started H enc _ => lifted os started H enc)
end countTellsRow

theorem countTells_holds : Rows.CountTellsSaid := countTellsRow.over
end Go.Proofs.YtkabdodcacfmlaaGreat
#print axioms Go.Proofs.YtkabdodcacfmlaaGreat.countTells_holds
