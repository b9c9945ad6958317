/- The plain law behind ShareHides: its model answers true for all data that fit; no condition beyond their kinds. -/
import Derived.Test.YtjjdlidjlepgeaaMShareHides3
namespace Go.Proofs.Ytjjdlidjlepgeaa
open Go Go.Vk
set_option linter.unusedVariables false


/-! What registers stand for. -/
def vstep (x0 : List Int) (a x : Int) : Int := if 0 ≤ a ∧ a < (x0.length : Int) then bxor .u64 x (x0.getD a.toNat 0) else x
theorem value_step (x0 : List Int) (x1 : Cells) (k j : Nat) (x a : Int) (hj : j < 3) (ha : getI .i64 x1 j = some a) :
    share_Value.l1 x0 x1 (k + 1) x (j : Int) = share_Value.l1 x0 x1 k (vstep x0 a x) ((j + 1 : Nat) : Int) := by
  have hw : IntKind.i64.wrap ((j : Int) + 1) = ((j + 1 : Nat) : Int) := by rw [wrap_i64_of (by omega) (by omega)]; omega
  conv => lhs; unfold share_Value.l1
  rw [show decide ((j : Int) < 3) = true from decide_eq_true (by omega), cond_true, if_pos (by omega), Int.toNat_natCast, ha, Option.bind_some]
  unfold vstep
  by_cases h : 0 ≤ a ∧ a < (x0.length : Int)
  · have hlt : a.toNat < x0.length := by omega
    rw [if_pos h, show (decide (a ≥ 0) && decide (a < ((x0.length : Nat) : Int))) = true by simp; omega, cond_true, if_pos h.1, List.getElem?_eq_getElem hlt, Option.bind_some]
    unfold share_Value.j1
    rw [hw, List.getD_eq_getElem?_getD, List.getElem?_eq_getElem hlt]; rfl
  · have hd : (decide (a ≥ 0) && decide (a < ((x0.length : Nat) : Int))) = false := by rw [← Bool.not_eq_true, Bool.and_eq_true, decide_eq_true_eq, decide_eq_true_eq]; exact h
    rw [if_neg h, hd, cond_false]
    unfold share_Value.j1
    rw [hw]
theorem rvalue_step (x0 : List Int) (x1 : Cells) (k j : Nat) (x a : Int) (hj : j < 3) (ha : getI .i64 x1 j = some a) :
    visorref20_Value.l1 x0 x1 (k + 1) x (j : Int) = visorref20_Value.l1 x0 x1 k (vstep x0 a x) ((j + 1 : Nat) : Int) := by
  have hw : IntKind.i64.wrap ((j : Int) + 1) = ((j + 1 : Nat) : Int) := by rw [wrap_i64_of (by omega) (by omega)]; omega
  have h0 : 0 + ((j : Nat) : Int).toNat * 1 = j := by simp
  conv => lhs; unfold visorref20_Value.l1
  rw [show decide ((j : Int) < 3) = true from decide_eq_true (by omega), cond_true, if_pos (by omega), h0, ha, Option.bind_some, if_pos (by omega), Option.bind_some, if_pos (by omega), Option.bind_some]
  unfold vstep
  by_cases h1 : 0 ≤ a
  · rw [show decide (a ≥ 0) = true from decide_eq_true h1, cond_true]
    by_cases h2 : a < (x0.length : Int)
    · have hlt : a.toNat < x0.length := by omega
      rw [show decide (a < ((x0.length : Nat) : Int)) = true from decide_eq_true h2, cond_true, if_pos h1, List.getElem?_eq_getElem hlt, Option.bind_some, if_pos ⟨h1, h2⟩]
      unfold visorref20_Value.j1
      rw [hw, List.getD_eq_getElem?_getD, List.getElem?_eq_getElem hlt]; rfl
    · rw [show decide (a < ((x0.length : Nat) : Int)) = false from decide_eq_false h2, cond_false, if_neg (fun h => h2 h.2)]
      unfold visorref20_Value.j1
      rw [hw]
  · rw [show decide (a ≥ 0) = false from decide_eq_false h1, cond_false, if_neg (fun h => h1 h.1), hw]
theorem value_end (x0 : List Int) (x1 : Cells) (k : Nat) (x : Int) : share_Value.l1 x0 x1 (k + 1) x ((3 : Nat) : Int) = some x := by unfold share_Value.l1; rfl
theorem rvalue_end (x0 : List Int) (x1 : Cells) (k : Nat) (x : Int) : visorref20_Value.l1 x0 x1 (k + 1) x ((3 : Nat) : Int) = some x := by unfold visorref20_Value.l1; rfl
def val3 (x0 : List Int) (a b c : Int) : Int := vstep x0 c (vstep x0 b (vstep x0 a 0))
theorem Value_m (x0 : List Int) (a b c : Int) (k : Nat) : share_Value.m (k + 4) x0 [C.int .i64 a, C.int .i64 b, C.int .i64 c] = some (val3 x0 a b c) := by
  unfold share_Value.m
  rw [if_pos (show [C.int .i64 a, C.int .i64 b, C.int .i64 c].length = 3 from rfl)]
  have h := value_step x0 [C.int .i64 a, C.int .i64 b, C.int .i64 c] (k + 3) 0 0 a (by omega) rfl
  have h0 : ((0 : Nat) : Int) = 0 := rfl
  rw [h0] at h
  rw [h, value_step _ _ (k + 2) 1 _ b (by omega) rfl, value_step _ _ (k + 1) 2 _ c (by omega) rfl, value_end, Option.bind_some]; rfl
theorem rValue_m (x0 : List Int) (a b c : Int) (k : Nat) : visorref20_Value.m (k + 4) x0 [C.int .i64 a, C.int .i64 b, C.int .i64 c] = some (val3 x0 a b c) := by
  unfold visorref20_Value.m
  have h := rvalue_step x0 [C.int .i64 a, C.int .i64 b, C.int .i64 c] (k + 3) 0 0 a (by omega) rfl
  have h0 : ((0 : Nat) : Int) = 0 := rfl
  rw [h0] at h
  rw [h, rvalue_step _ _ (k + 2) 1 _ b (by omega) rfl, rvalue_step _ _ (k + 1) 2 _ c (by omega) rfl, rvalue_end, Option.bind_some]; rfl

theorem awake20_m : visorlaw20_awake.m 20 = some true := by kernel_rfl
def tape20 (a b : Int) (n : Int) : Ttape_Tape := ⟨[a, b], ⟨0⟩, n⟩
def mach20 (n : Int) (t : Ttape_Tape) : Twire_Machine := ⟨n, 9, 0, 0, 0, false, 0, 0, 0, t, [], [], []⟩
def ref20 (n a b : Int) : Tvisorref19_M := ⟨n, 9, 0, 0, 0, 0, 0, 0, [], [], [], ⟨[a, b], 0, 2⟩, false⟩
theorem begins2 (a b : Int) : visorlaw20_Begins.m 20 2 [a, b] 9 = some (Sum.inr (mach20 2 (tape20 a b 2), ref20 2 a b, [], [], true)) := by kernel_rfl
theorem begins3 (a b : Int) : visorlaw20_Begins.m 20 3 [a, b] 9 = some (Sum.inr (mach20 3 (tape20 a b 2), ref20 3 a b, [], [], true)) := by kernel_rfl
def end2 (a b x : Int) : Twire_Machine := ⟨2, 9, 0, 1, 1, false, 0, 0, 0, ⟨[a, b], ⟨1⟩, 1⟩, [⟨1, 1, -1, -1, -1, 0⟩, ⟨2, 0, 0, -1, -1, 0⟩], [a, bxor .u64 (bxor .u64 x a) 0], [⟨1, 0, 2⟩]⟩
theorem encode2 (a b x : Int) : share_Encode.m 20 (mach20 2 (tape20 a b 2)) x = some ([C.int .i64 1, C.int .i64 0, C.int .i64 (-1)], end2 a b x) := by kernel_rfl
def end3 (a b x : Int) : Twire_Machine := ⟨3, 9, 0, 1, 2, false, 0, 0, 0, ⟨[a, b], ⟨2⟩, 0⟩, [⟨1, 1, -1, -1, -1, 0⟩, ⟨1, 2, -1, -1, -1, 0⟩, ⟨2, 0, 0, 1, -1, 0⟩], [a, b, bxor .u64 (bxor .u64 x a) b], [⟨1, 0, 3⟩]⟩
theorem encode3 (a b x : Int) : share_Encode.m 20 (mach20 3 (tape20 a b 2)) x = some ([C.int .i64 2, C.int .i64 0, C.int .i64 1], end3 a b x) := by kernel_rfl
theorem values2 (a b x : Int) : wire_Machine_Values.m 20 (end2 a b x) = some [a, bxor .u64 (bxor .u64 x a) 0] := by kernel_rfl
theorem values3 (a b x : Int) : wire_Machine_Values.m 20 (end3 a b x) = some [a, b, bxor .u64 (bxor .u64 x a) b] := by kernel_rfl
theorem hides_step (n : Int) (v w : List Int) (k j : Nat) (c e f : Int) (hj : (j : Int) < n) (hj2 : j < 100) (he : v[j]? = some e) (hf : w[j]? = some f) :
    visorlaw20_ShareHides.l1 n v w (k + 1) c (j : Int) = visorlaw20_ShareHides.l1 n v w k (if e = f then c else IntKind.i64.wrap (c + 1)) ((j + 1 : Nat) : Int) := by
  have hw : IntKind.i64.wrap ((j : Int) + 1) = ((j + 1 : Nat) : Int) := by rw [wrap_i64_of (by omega) (by omega)]; omega
  conv => lhs; unfold visorlaw20_ShareHides.l1
  rw [show decide ((j : Int) < n) = true from decide_eq_true hj, cond_true, if_pos (by omega), Int.toNat_natCast, he, Option.bind_some, if_pos (by omega), hf, Option.bind_some]
  unfold visorlaw20_ShareHides.j4
  rw [hw]
  by_cases h : e = f
  · rw [if_pos h, show (e != f) = false by simp [h], cond_false]
  · rw [if_neg h, show (e != f) = true by simp [h], cond_true]
theorem hides_end (n : Int) (v w : List Int) (k j : Nat) (c : Int) (hj : ¬ (j : Int) < n) : visorlaw20_ShareHides.l1 n v w (k + 1) c (j : Int) = some c := by
  unfold visorlaw20_ShareHides.l1
  rw [show decide ((j : Int) < n) = false from decide_eq_false hj, cond_false]
theorem hides_loop2 (a p q : Int) : visorlaw20_ShareHides.l1 2 [a, p] [a, q] 20 0 0 = some (if p = q then 0 else 1) := by
  have h := hides_step 2 [a, p] [a, q] 19 0 0 a a (by decide) (by decide) rfl rfl
  have h0 : ((0 : Nat) : Int) = 0 := rfl
  rw [h0, if_pos rfl] at h
  rw [h, hides_step 2 [a, p] [a, q] 18 1 0 p q (by decide) (by decide) rfl rfl, hides_end _ _ _ 17 2 _ (by decide)]; rfl
theorem hides_loop3 (a b p q : Int) : visorlaw20_ShareHides.l1 3 [a, b, p] [a, b, q] 20 0 0 = some (if p = q then 0 else 1) := by
  have h := hides_step 3 [a, b, p] [a, b, q] 19 0 0 a a (by decide) (by decide) rfl rfl
  have h0 : ((0 : Nat) : Int) = 0 := rfl
  rw [h0, if_pos rfl] at h
  rw [h, hides_step 3 [a, b, p] [a, b, q] 18 1 0 b b (by decide) (by decide) rfl rfl, if_pos rfl, hides_step 3 [a, b, p] [a, b, q] 17 2 0 p q (by decide) (by decide) rfl rfl, hides_end _ _ _ 16 3 _ (by decide)]; rfl
theorem z20 : (0 : Int) = u 0#64 := rfl
theorem stands2 (a x : BitVec 64) : val3 [u a, bxor .u64 (bxor .u64 (u x) (u a)) 0] 1 0 (-1) = u x := by
  show bxor .u64 (bxor .u64 0 (bxor .u64 (bxor .u64 (u x) (u a)) 0)) (u a) = u x
  rw [z20, bxor_u, bxor_u, bxor_u, bxor_u]
  congr 1
  simp [BitVec.xor_assoc]
theorem stands3 (a b x : BitVec 64) : val3 [u a, u b, bxor .u64 (bxor .u64 (u x) (u a)) (u b)] 2 0 1 = u x := by
  show bxor .u64 (bxor .u64 (bxor .u64 0 (bxor .u64 (bxor .u64 (u x) (u a)) (u b))) (u a)) (u b) = u x
  rw [z20, bxor_u, bxor_u, bxor_u, bxor_u, bxor_u]
  congr 1
  apply BitVec.eq_of_getLsbD_eq; intro i _
  simp only [BitVec.getLsbD_xor, BitVec.getLsbD_zero]
  cases x.getLsbD i <;> cases a.getLsbD i <;> cases b.getLsbD i <;> rfl
theorem xcancel (a b z : BitVec 64) : z ^^^ a ^^^ b ^^^ b ^^^ a = z := by
  apply BitVec.eq_of_getLsbD_eq; intro i _
  simp only [BitVec.getLsbD_xor]
  cases z.getLsbD i <;> cases a.getLsbD i <;> cases b.getLsbD i <;> rfl
theorem last_eq (k : Nat) (p q x y : Int) (h : p = q ↔ x = y) : (((if p = q then (0 : Int) else 1) == 0) == (x == y) && decide ((if p = q then (0 : Int) else 1) ≤ 1)) = true := by
  by_cases e : p = q
  · have := h.1 e; subst this; simp [e]
  · have : ¬ x = y := fun e' => e (h.2 e'); simp [e, this]
theorem ceq3_self (a b c : Int) : ceq [C.int .i64 a, C.int .i64 b, C.int .i64 c] [C.int .i64 a, C.int .i64 b, C.int .i64 c] = true := by simp [ceq, ceqC]
theorem hides2 (a b x y : BitVec 64) : visorlaw20_ShareHides.j1 20 (u a) (u b) (u x) (u y) 2 = some true := by
  unfold visorlaw20_ShareHides.j1
  rw [begins2, Option.bind_some]
  dsimp only
  rw [Option.bind_some]
  dsimp only [Bool.not_true, Bool.or_self, cond_false]
  rw [encode2, Option.bind_some, encode2, Option.bind_some]
  dsimp only
  rw [if_pos (by rfl), if_pos (by rfl)]
  unfold visorlaw20_ShareHides.j2
  dsimp only
  rw [values2, Option.bind_some, values2, Option.bind_some, if_pos (by rfl), if_pos (by rfl), if_pos (by rfl), if_pos (by rfl), ceq3_self, Bool.not_true, cond_false, Value_m _ 1 0 (-1) 16, Option.bind_some, stands2, bne_self_eq_false, cond_false,
    Value_m _ 1 0 (-1) 16, Option.bind_some, stands2, bne_self_eq_false]
  unfold visorlaw20_ShareHides.j3
  dsimp only [List.length_cons, List.length_nil]
  rw [show ((false || ((((0 + 1 + 1 : Nat)) : Int) != 2)) || ((((0 + 1 + 1 : Nat)) : Int) != 2)) = false from rfl, cond_false, hides_loop2, Option.bind_some, last_eq 0, cond_true, awake20_m, Option.bind_some]
  · rfl
  · rw [z20, bxor_u, bxor_u, bxor_u, bxor_u]
    constructor
    · intro h
      have h2 := u_inj h
      simp only [BitVec.xor_zero] at h2
      congr 1
      have := congrArg (· ^^^ a) h2
      simpa [BitVec.xor_assoc] using this
    · intro h; rw [u_inj h]
theorem key3_inj (a b x y : BitVec 64) : bxor .u64 (bxor .u64 (u x) (u a)) (u b) = bxor .u64 (bxor .u64 (u y) (u a)) (u b) ↔ u x = u y := by
  rw [bxor_u, bxor_u, bxor_u, bxor_u]
  constructor
  · intro h
    have h2 := u_inj h
    rw [← xcancel a b x, ← xcancel a b y, h2]
  · intro h; rw [u_inj h]
theorem hides3 (a b x y : BitVec 64) : visorlaw20_ShareHides.j1 20 (u a) (u b) (u x) (u y) 3 = some true := by
  unfold visorlaw20_ShareHides.j1
  rw [begins3, Option.bind_some]
  dsimp only
  rw [Option.bind_some]
  dsimp only [Bool.not_true, Bool.or_self, cond_false]
  rw [encode3, Option.bind_some, encode3, Option.bind_some]
  dsimp only
  rw [if_pos (by rfl), if_pos (by rfl)]
  unfold visorlaw20_ShareHides.j2
  dsimp only
  rw [values3, Option.bind_some, values3, Option.bind_some, if_pos (by rfl), if_pos (by rfl), if_pos (by rfl), if_pos (by rfl), ceq3_self, Bool.not_true, cond_false, Value_m _ 2 0 1 16, Option.bind_some, stands3, bne_self_eq_false, cond_false,
    Value_m _ 2 0 1 16, Option.bind_some, stands3, bne_self_eq_false]
  unfold visorlaw20_ShareHides.j3
  dsimp only [List.length_cons, List.length_nil]
  rw [show ((false || ((((0 + 1 + 1 + 1 : Nat)) : Int) != 3)) || ((((0 + 1 + 1 + 1 : Nat)) : Int) != 3)) = false from rfl, cond_false, hides_loop3, Option.bind_some, last_eq 0 _ _ _ _ (key3_inj a b x y), cond_true, awake20_m, Option.bind_some]
  rfl
theorem ShareHides_pure (x0 : Bool) (x1 : Int) (x2 : Int) (x3 : Int) (x4 : Int) (b1 : IntKind.u64.min ≤ x1 ∧ x1 ≤ IntKind.u64.max) (b2 : IntKind.u64.min ≤ x2 ∧ x2 ≤ IntKind.u64.max) (b3 : IntKind.u64.min ≤ x3 ∧ x3 ≤ IntKind.u64.max) (b4 : IntKind.u64.min ≤ x4 ∧ x4 ≤ IntKind.u64.max) : ∃ k, visorlaw20_ShareHides.m k x0 x1 x2 x3 x4 = some true := by
  refine ⟨20, ?_⟩
  rw [min_u64, max_u64] at b1 b2 b3 b4
  obtain ⟨a, rfl⟩ := exists_u b1.1 b1.2
  obtain ⟨b, rfl⟩ := exists_u b2.1 b2.2
  obtain ⟨x, rfl⟩ := exists_u b3.1 b3.2
  obtain ⟨y, rfl⟩ := exists_u b4.1 b4.2
  unfold visorlaw20_ShareHides.m
  cases x0
  · rw [cond_false]; exact hides2 a b x y
  · rw [cond_true]; exact hides3 a b x y

end Go.Proofs.Ytjjdlidjlepgeaa
