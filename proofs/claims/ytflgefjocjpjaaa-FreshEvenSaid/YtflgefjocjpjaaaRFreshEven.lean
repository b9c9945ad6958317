/- The plain law behind FreshEven: its model answers true for all data that fit; no condition beyond their kinds. -/
import Derived.Test.YtflgefjocjpjaaaMFreshEven2
namespace Go.Proofs.Ytflgefjocjpjaaa
open Go Go.Vk
set_option linter.unusedVariables false


/-! FreshEven: only three bits of the one byte count, and the other byte's rest; all of these are looked at. -/
theorem u8_cases (x : Int) (h0 : 0 ≤ x) (h1 : x ≤ 255) : ∃ n : Fin 256, x = ((n : Nat) : Int) := ⟨⟨x.toNat, by omega⟩, by simp; omega⟩
theorem bit_same (x : Int) (h0 : 0 ≤ x) (h1 : x ≤ 255) (q : Nat) (hq : q < 3) : IntKind.u64.wrap (Int.tmod (shr .u8 x (IntKind.u64.wrap (q : Int))) 2) = IntKind.u64.wrap (Int.tmod (shr .u8 (x % 8) (IntKind.u64.wrap (q : Int))) 2) := by
  obtain ⟨n, rfl⟩ := u8_cases x h0 h1
  have key : ∀ n : Fin 256, ∀ q : Fin 3, IntKind.u64.wrap (Int.tmod (shr .u8 ((n : Nat) : Int) (IntKind.u64.wrap ((q : Nat) : Int))) 2) = IntKind.u64.wrap (Int.tmod (shr .u8 (((n : Nat) : Int) % 8) (IntKind.u64.wrap ((q : Nat) : Int))) 2) := by decide +kernel
  exact key n ⟨q, hq⟩
theorem run_l_same (n x : Int) (hn : n ≤ 3) (h0 : 0 ≤ x) (h1 : x ≤ 255) : ∀ (k : Nat) (m : Twire_Machine) (w : Cells) (q : Nat), visorlaw21_run.l1 n x k m w (q : Int) = visorlaw21_run.l1 n (x % 8) k m w (q : Int)
  | 0, m, w, q => by unfold visorlaw21_run.l1; rfl
  | k + 1, m, w, q => by
    unfold visorlaw21_run.l1
    by_cases hq : (q : Int) < n
    · rw [decide_eq_true hq, cond_true, cond_true, bit_same x h0 h1 q (by omega), show IntKind.i64.wrap ((q : Int) + 1) = ((q + 1 : Nat) : Int) by rw [wrap_i64_of (by omega) (by omega)]; omega]
      simp only [run_l_same n x hn h0 h1 k]
    · rw [decide_eq_false hq, cond_false, cond_false]
theorem run_same (n x : Int) (hn : n ≤ 3) (h0 : 0 ≤ x) (h1 : x ≤ 255) (k : Nat) (l : List Int) (b : Bool) : visorlaw21_run.m k n x l b = visorlaw21_run.m k n (x % 8) l b := by
  unfold visorlaw21_run.m
  have h := fun (m : Twire_Machine) (w : Cells) => run_l_same n x hn h0 h1 k m w 0
  rw [show ((0 : Nat) : Int) = 0 from rfl] at h
  simp only [h]
theorem even_l2_same (x2 n : Int) (hn : n = 2 ∨ n = 3) (h0 : 0 ≤ x2) (h1 : x2 ≤ 255) (v u : List Int × Cells × Bool) : ∀ (k : Nat) (c : Cells) (r q : Int), visorlaw21_FreshEven.l2 x2 n v u k c r q = visorlaw21_FreshEven.l2 (x2 % n) n v u k c r q
  | 0, c, r, q => by unfold visorlaw21_FreshEven.l2; rfl
  | k + 1, c, r, q => by
    have e : Int.tmod (IntKind.i64.wrap x2) n = Int.tmod (IntKind.i64.wrap (x2 % n)) n := by
      rcases hn with rfl | rfl
      · rw [wrap_i64_of (by omega) (by omega), wrap_i64_of (by omega) (by omega), tmod_of h0, tmod_of (by omega)]; omega
      · rw [wrap_i64_of (by omega) (by omega), wrap_i64_of (by omega) (by omega), tmod_of h0, tmod_of (by omega)]; omega
    have ih := fun c r q => even_l2_same x2 n hn h0 h1 v u k c r q
    unfold visorlaw21_FreshEven.l2
    rw [e]
    unfold visorlaw21_FreshEven.j2
    simp only [ih]
theorem even_l1_same (x1 x2 n y : Int) (hn : n = 2 ∨ n = 3) (h0 : 0 ≤ x1) (h1 : x1 ≤ 255) (h2 : 0 ≤ x2) (h3 : x2 ≤ 255) : ∀ (k : Nat) (c d : Cells) (q : Int), visorlaw21_FreshEven.l1 x1 x2 n y k c d q = visorlaw21_FreshEven.l1 (x1 % 8) (x2 % n) n y k c d q
  | 0, c, d, q => by unfold visorlaw21_FreshEven.l1; rfl
  | k + 1, c, d, q => by
    have ih := even_l1_same x1 x2 n y hn h0 h1 h2 h3 k
    have e1 := fun (l : List Int) (b : Bool) => run_same n x1 (by omega) h0 h1 k l b
    have e2 := fun v u => even_l2_same x2 n hn h2 h3 v u k
    unfold visorlaw21_FreshEven.l1
    simp only [e1, e2, ih]
theorem even_same (b : Bool) (x1 x2 : Int) (h0 : 0 ≤ x1) (h1 : x1 ≤ 255) (h2 : 0 ≤ x2) (h3 : x2 ≤ 255) (k : Nat) : visorlaw21_FreshEven.m k b x1 x2 = visorlaw21_FreshEven.m k b (x1 % 8) (x2 % (if b then 3 else 2)) := by
  unfold visorlaw21_FreshEven.m visorlaw21_FreshEven.j1
  cases b
  · simp only [cond_false, even_l1_same x1 x2 2 1 (.inl rfl) h0 h1 h2 h3 k]; rfl
  · simp only [cond_true, even_l1_same x1 x2 3 3 (.inr rfl) h0 h1 h2 h3 k]; rfl
theorem even3_00 : visorlaw21_FreshEven.m 30 true 0 0 = some true := by kernel_rfl
theorem even3_01 : visorlaw21_FreshEven.m 30 true 0 1 = some true := by kernel_rfl
theorem even3_02 : visorlaw21_FreshEven.m 30 true 0 2 = some true := by kernel_rfl
theorem even3_10 : visorlaw21_FreshEven.m 30 true 1 0 = some true := by kernel_rfl
theorem even3_11 : visorlaw21_FreshEven.m 30 true 1 1 = some true := by kernel_rfl
theorem even3_12 : visorlaw21_FreshEven.m 30 true 1 2 = some true := by kernel_rfl
theorem even3_20 : visorlaw21_FreshEven.m 30 true 2 0 = some true := by kernel_rfl
theorem even3_21 : visorlaw21_FreshEven.m 30 true 2 1 = some true := by kernel_rfl
theorem even3_22 : visorlaw21_FreshEven.m 30 true 2 2 = some true := by kernel_rfl
theorem even3_30 : visorlaw21_FreshEven.m 30 true 3 0 = some true := by kernel_rfl
theorem even3_31 : visorlaw21_FreshEven.m 30 true 3 1 = some true := by kernel_rfl
theorem even3_32 : visorlaw21_FreshEven.m 30 true 3 2 = some true := by kernel_rfl
theorem even3_40 : visorlaw21_FreshEven.m 30 true 4 0 = some true := by kernel_rfl
theorem even3_41 : visorlaw21_FreshEven.m 30 true 4 1 = some true := by kernel_rfl
theorem even3_42 : visorlaw21_FreshEven.m 30 true 4 2 = some true := by kernel_rfl
theorem even3_50 : visorlaw21_FreshEven.m 30 true 5 0 = some true := by kernel_rfl
theorem even3_51 : visorlaw21_FreshEven.m 30 true 5 1 = some true := by kernel_rfl
theorem even3_52 : visorlaw21_FreshEven.m 30 true 5 2 = some true := by kernel_rfl
theorem even3_60 : visorlaw21_FreshEven.m 30 true 6 0 = some true := by kernel_rfl
theorem even3_61 : visorlaw21_FreshEven.m 30 true 6 1 = some true := by kernel_rfl
theorem even3_62 : visorlaw21_FreshEven.m 30 true 6 2 = some true := by kernel_rfl
theorem even3_70 : visorlaw21_FreshEven.m 30 true 7 0 = some true := by kernel_rfl
theorem even3_71 : visorlaw21_FreshEven.m 30 true 7 1 = some true := by kernel_rfl
theorem even3_72 : visorlaw21_FreshEven.m 30 true 7 2 = some true := by kernel_rfl
theorem even2_00 : visorlaw21_FreshEven.m 30 false 0 0 = some true := by kernel_rfl
theorem even2_01 : visorlaw21_FreshEven.m 30 false 0 1 = some true := by kernel_rfl
theorem even2_10 : visorlaw21_FreshEven.m 30 false 1 0 = some true := by kernel_rfl
theorem even2_11 : visorlaw21_FreshEven.m 30 false 1 1 = some true := by kernel_rfl
theorem even2_20 : visorlaw21_FreshEven.m 30 false 2 0 = some true := by kernel_rfl
theorem even2_21 : visorlaw21_FreshEven.m 30 false 2 1 = some true := by kernel_rfl
theorem even2_30 : visorlaw21_FreshEven.m 30 false 3 0 = some true := by kernel_rfl
theorem even2_31 : visorlaw21_FreshEven.m 30 false 3 1 = some true := by kernel_rfl
theorem even2_40 : visorlaw21_FreshEven.m 30 false 4 0 = some true := by kernel_rfl
theorem even2_41 : visorlaw21_FreshEven.m 30 false 4 1 = some true := by kernel_rfl
theorem even2_50 : visorlaw21_FreshEven.m 30 false 5 0 = some true := by kernel_rfl
theorem even2_51 : visorlaw21_FreshEven.m 30 false 5 1 = some true := by kernel_rfl
theorem even2_60 : visorlaw21_FreshEven.m 30 false 6 0 = some true := by kernel_rfl
theorem even2_61 : visorlaw21_FreshEven.m 30 false 6 1 = some true := by kernel_rfl
theorem even2_70 : visorlaw21_FreshEven.m 30 false 7 0 = some true := by kernel_rfl
theorem even2_71 : visorlaw21_FreshEven.m 30 false 7 1 = some true := by kernel_rfl
theorem FreshEven_pure (x0 : Bool) (x1 : Int) (x2 : Int) (b1 : IntKind.u8.min ≤ x1 ∧ x1 ≤ IntKind.u8.max) (b2 : IntKind.u8.min ≤ x2 ∧ x2 ≤ IntKind.u8.max) : ∃ k, visorlaw21_FreshEven.m k x0 x1 x2 = some true := by
  have e0 : IntKind.u8.min = 0 := rfl
  have e1 : IntKind.u8.max = 255 := by decide
  rw [e0, e1] at b1 b2
  refine ⟨30, ?_⟩
  rw [even_same x0 x1 x2 b1.1 b1.2 b2.1 b2.2]
  have h : x1 % 8 = 0 ∨ x1 % 8 = 1 ∨ x1 % 8 = 2 ∨ x1 % 8 = 3 ∨ x1 % 8 = 4 ∨ x1 % 8 = 5 ∨ x1 % 8 = 6 ∨ x1 % 8 = 7 := by omega
  cases x0
  · have g : x2 % 2 = 0 ∨ x2 % 2 = 1 := by omega
    show visorlaw21_FreshEven.m 30 false (x1 % 8) (x2 % 2) = some true
    rcases h with h | h | h | h | h | h | h | h <;> rcases g with g | g <;> rw [h, g]
    · exact even2_00
    · exact even2_01
    · exact even2_10
    · exact even2_11
    · exact even2_20
    · exact even2_21
    · exact even2_30
    · exact even2_31
    · exact even2_40
    · exact even2_41
    · exact even2_50
    · exact even2_51
    · exact even2_60
    · exact even2_61
    · exact even2_70
    · exact even2_71
  · have g : x2 % 3 = 0 ∨ x2 % 3 = 1 ∨ x2 % 3 = 2 := by omega
    show visorlaw21_FreshEven.m 30 true (x1 % 8) (x2 % 3) = some true
    rcases h with h | h | h | h | h | h | h | h <;> rcases g with g | g | g <;> rw [h, g]
    · exact even3_00
    · exact even3_01
    · exact even3_02
    · exact even3_10
    · exact even3_11
    · exact even3_12
    · exact even3_20
    · exact even3_21
    · exact even3_22
    · exact even3_30
    · exact even3_31
    · exact even3_32
    · exact even3_40
    · exact even3_41
    · exact even3_42
    · exact even3_50
    · exact even3_51
    · exact even3_52
    · exact even3_60
    · exact even3_61
    · exact even3_62
    · exact even3_70
    · exact even3_71
    · exact even3_72

end Go.Proofs.Ytflgefjocjpjaaa
