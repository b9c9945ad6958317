/- The plain law behind ShareValues: its model answers true for all data that fit; no condition beyond their kinds. -/
import Derived.Test.YtjjdlidjlepgeaaMShareValues2
namespace Go.Proofs.Ytjjdlidjlepgeaa
open Go Go.Vk
set_option linter.unusedVariables false


/-! What registers stand for. -/
def vstep (x0 : List Int) (a x : Int) : Int := if 0 ≤ a ∧ a < (x0.length : Int) then bxor .u64 x (x0.getD a.toNat 0) else x
theorem value_step (x0 : List Int) (x1 : Cells) (k j : Nat) (x a : Int) (hj : j < 3) (ha : getI .i64 x1 j = some a) :
    share_Value.l1 x0 x1 (k + 1) x (j : Int) = share_Value.l1 x0 x1 k (vstep x0 a x) ((j + 1 : Nat) : Int) := by
  have hw : IntKind.i64.wrap ((j : Int) + 1) = ((j + 1 : Nat) : Int) := by rw [wrap_i64_of (by omega) (by omega)]; omega
  conv => lhs; unfold share_Value.l1
  rw [show decide ((j : Int) < 3) = true from decide_eq_true (by omega), cond_true, if_pos (by omega), Int.toNat_natCast, ha, Option.bind_some]
  unfold vstep
  by_cases h : 0 ≤ a ∧ a < (x0.length : Int)
  · have hlt : a.toNat < x0.length := by omega
    rw [if_pos h, show (decide (a ≥ 0) && decide (a < ((x0.length : Nat) : Int))) = true by simp; omega, cond_true, if_pos h.1, List.getElem?_eq_getElem hlt, Option.bind_some]
    unfold share_Value.j1
    rw [hw, List.getD_eq_getElem?_getD, List.getElem?_eq_getElem hlt]; rfl
  · have hd : (decide (a ≥ 0) && decide (a < ((x0.length : Nat) : Int))) = false := by rw [← Bool.not_eq_true, Bool.and_eq_true, decide_eq_true_eq, decide_eq_true_eq]; exact h
    rw [if_neg h, hd, cond_false]
    unfold share_Value.j1
    rw [hw]
theorem rvalue_step (x0 : List Int) (x1 : Cells) (k j : Nat) (x a : Int) (hj : j < 3) (ha : getI .i64 x1 j = some a) :
    visorref20_Value.l1 x0 x1 (k + 1) x (j : Int) = visorref20_Value.l1 x0 x1 k (vstep x0 a x) ((j + 1 : Nat) : Int) := by
  have hw : IntKind.i64.wrap ((j : Int) + 1) = ((j + 1 : Nat) : Int) := by rw [wrap_i64_of (by omega) (by omega)]; omega
  have h0 : 0 + ((j : Nat) : Int).toNat * 1 = j := by simp
  conv => lhs; unfold visorref20_Value.l1
  rw [show decide ((j : Int) < 3) = true from decide_eq_true (by omega), cond_true, if_pos (by omega), h0, ha, Option.bind_some, if_pos (by omega), Option.bind_some, if_pos (by omega), Option.bind_some]
  unfold vstep
  by_cases h1 : 0 ≤ a
  · rw [show decide (a ≥ 0) = true from decide_eq_true h1, cond_true]
    by_cases h2 : a < (x0.length : Int)
    · have hlt : a.toNat < x0.length := by omega
      rw [show decide (a < ((x0.length : Nat) : Int)) = true from decide_eq_true h2, cond_true, if_pos h1, List.getElem?_eq_getElem hlt, Option.bind_some, if_pos ⟨h1, h2⟩]
      unfold visorref20_Value.j1
      rw [hw, List.getD_eq_getElem?_getD, List.getElem?_eq_getElem hlt]; rfl
    · rw [show decide (a < ((x0.length : Nat) : Int)) = false from decide_eq_false h2, cond_false, if_neg (fun h => h2 h.2)]
      unfold visorref20_Value.j1
      rw [hw]
  · rw [show decide (a ≥ 0) = false from decide_eq_false h1, cond_false, if_neg (fun h => h1 h.1), hw]
theorem value_end (x0 : List Int) (x1 : Cells) (k : Nat) (x : Int) : share_Value.l1 x0 x1 (k + 1) x ((3 : Nat) : Int) = some x := by unfold share_Value.l1; rfl
theorem rvalue_end (x0 : List Int) (x1 : Cells) (k : Nat) (x : Int) : visorref20_Value.l1 x0 x1 (k + 1) x ((3 : Nat) : Int) = some x := by unfold visorref20_Value.l1; rfl
def val3 (x0 : List Int) (a b c : Int) : Int := vstep x0 c (vstep x0 b (vstep x0 a 0))
theorem Value_m (x0 : List Int) (a b c : Int) (k : Nat) : share_Value.m (k + 4) x0 [C.int .i64 a, C.int .i64 b, C.int .i64 c] = some (val3 x0 a b c) := by
  unfold share_Value.m
  rw [if_pos (show [C.int .i64 a, C.int .i64 b, C.int .i64 c].length = 3 from rfl)]
  have h := value_step x0 [C.int .i64 a, C.int .i64 b, C.int .i64 c] (k + 3) 0 0 a (by omega) rfl
  have h0 : ((0 : Nat) : Int) = 0 := rfl
  rw [h0] at h
  rw [h, value_step _ _ (k + 2) 1 _ b (by omega) rfl, value_step _ _ (k + 1) 2 _ c (by omega) rfl, value_end, Option.bind_some]; rfl
theorem rValue_m (x0 : List Int) (a b c : Int) (k : Nat) : visorref20_Value.m (k + 4) x0 [C.int .i64 a, C.int .i64 b, C.int .i64 c] = some (val3 x0 a b c) := by
  unfold visorref20_Value.m
  have h := rvalue_step x0 [C.int .i64 a, C.int .i64 b, C.int .i64 c] (k + 3) 0 0 a (by omega) rfl
  have h0 : ((0 : Nat) : Int) = 0 := rfl
  rw [h0] at h
  rw [h, rvalue_step _ _ (k + 2) 1 _ b (by omega) rfl, rvalue_step _ _ (k + 1) 2 _ c (by omega) rfl, rvalue_end, Option.bind_some]; rfl

theorem awake20_m : visorlaw20_awake.m 20 = some true := by kernel_rfl
theorem ShareValues_pure (x0 : List Int) (x1 : Cells) (b0 : ∀ x ∈ x0, IntKind.u64.min ≤ x ∧ x ≤ IntKind.u64.max) (n0 : x0.length ≤ maxLen) (b1 : Fits [LK.int .i64, LK.int .i64, LK.int .i64] x1) : ∃ k, visorlaw20_ShareValues.m k x0 x1 = some true := by
  refine ⟨20, ?_⟩
  match x1, b1 with
  | [.int _ a, .int _ b, .int _ c], ⟨⟨rfl, _⟩, ⟨rfl, _⟩, ⟨rfl, _⟩, _⟩ =>
    unfold visorlaw20_ShareValues.m
    rw [if_pos (show [C.int .i64 a, C.int .i64 b, C.int .i64 c].length = 3 from rfl), Value_m x0 a b c 16, Option.bind_some, rValue_m x0 a b c 16, Option.bind_some, beq_self_eq_true, cond_true, awake20_m, Option.bind_some]; rfl

end Go.Proofs.Ytjjdlidjlepgeaa
