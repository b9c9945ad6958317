/- The plain law behind CountTells: its model answers true for all data that fit; no condition beyond their kinds. -/
import Derived.Test.YtkabdodcacfmlaaGreatMCountTells4
namespace Go.Proofs.YtkabdodcacfmlaaGreat
open Go Go.Vk
set_option linter.unusedVariables false

def Tapi_Op.ok (x : Tapi_Op) : Prop := (IntKind.i64.min ≤ x.kind ∧ x.kind ≤ IntKind.i64.max) ∧ (IntKind.i64.min ≤ x.dom ∧ x.dom ≤ IntKind.i64.max) ∧ (IntKind.i64.min ≤ x.a ∧ x.a ≤ IntKind.i64.max) ∧ (IntKind.i64.min ≤ x.b ∧ x.b ≤ IntKind.i64.max) ∧ (IntKind.i64.min ≤ x.d ∧ x.d ≤ IntKind.i64.max) ∧ (IntKind.u64.min ≤ x.c ∧ x.c ≤ IntKind.u64.max) ∧ True
theorem Tapi_Op.of {cs : Cells} (h : Fits [LK.int .i64, LK.int .i64, LK.int .i64, LK.int .i64, LK.int .i64, LK.int .u64] cs) : ∃ x : Tapi_Op, cs = x.cells ∧ x.ok := by
  match cs, h with
  | [.int _ n0, .int _ n1, .int _ n2, .int _ n3, .int _ n4, .int _ n5], ⟨⟨rfl, h0⟩, ⟨rfl, h1⟩, ⟨rfl, h2⟩, ⟨rfl, h3⟩, ⟨rfl, h4⟩, ⟨rfl, h5⟩, _⟩ => exact ⟨⟨n0, n1, n2, n3, n4, n5⟩, rfl, ⟨h0, h1, h2, h3, h4, h5, trivial⟩⟩
theorem Tapi_Op.ofs : ∀ {l : List Cells}, (∀ x ∈ l, Fits [LK.int .i64, LK.int .i64, LK.int .i64, LK.int .i64, LK.int .i64, LK.int .u64] x) → ∃ l' : List Tapi_Op, l = l'.map Tapi_Op.cells ∧ ∀ y ∈ l', y.ok
  | [], _ => ⟨[], rfl, fun _ h => (by cases h)⟩
  | x :: l, h => by
    obtain ⟨y, rfl, hy⟩ := Tapi_Op.of (h x (List.mem_cons_self ..)); obtain ⟨l', rfl, hl⟩ := Tapi_Op.ofs (l := l) fun z hz => h z (List.mem_cons_of_mem _ hz)
    exact ⟨y :: l', rfl, fun z hz => (List.mem_cons.1 hz).elim (fun e => e ▸ hy) (hl z)⟩
def Tapi_Span.ok (x : Tapi_Span) : Prop := (IntKind.i64.min ≤ x.kind ∧ x.kind ≤ IntKind.i64.max) ∧ (IntKind.i64.min ≤ x.fromF ∧ x.fromF ≤ IntKind.i64.max) ∧ (IntKind.i64.min ≤ x.to ∧ x.to ≤ IntKind.i64.max) ∧ True
theorem Tapi_Span.of {cs : Cells} (h : Fits [LK.int .i64, LK.int .i64, LK.int .i64] cs) : ∃ x : Tapi_Span, cs = x.cells ∧ x.ok := by
  match cs, h with
  | [.int _ n0, .int _ n1, .int _ n2], ⟨⟨rfl, h0⟩, ⟨rfl, h1⟩, ⟨rfl, h2⟩, _⟩ => exact ⟨⟨n0, n1, n2⟩, rfl, ⟨h0, h1, h2, trivial⟩⟩
theorem Tapi_Span.ofs : ∀ {l : List Cells}, (∀ x ∈ l, Fits [LK.int .i64, LK.int .i64, LK.int .i64] x) → ∃ l' : List Tapi_Span, l = l'.map Tapi_Span.cells ∧ ∀ y ∈ l', y.ok
  | [], _ => ⟨[], rfl, fun _ h => (by cases h)⟩
  | x :: l, h => by
    obtain ⟨y, rfl, hy⟩ := Tapi_Span.of (h x (List.mem_cons_self ..)); obtain ⟨l', rfl, hl⟩ := Tapi_Span.ofs (l := l) fun z hz => h z (List.mem_cons_of_mem _ hz)
    exact ⟨y :: l', rfl, fun z hz => (List.mem_cons.1 hz).elim (fun e => e ▸ hy) (hl z)⟩
def Tapi_Trace.ok (x : Tapi_Trace) : Prop := (IntKind.i64.min ≤ x.n ∧ x.n ≤ IntKind.i64.max) ∧ (∀ y ∈ x.ops, y.ok) ∧ x.ops.length * 48 ≤ 140737488351232 ∧ (∀ y ∈ x.blocks, y.ok) ∧ x.blocks.length * 24 ≤ 140737488351232 ∧ True
/-! What an op makes: both programs' Eval is one function of words. -/
def evalW (kind : Int) (c a b d x : BitVec 64) : BitVec 64 :=
  if kind = 1 then x else if kind = 2 then x ^^^ a ^^^ b else if kind = 3 then c else if kind = 4 then c else if kind = 5 then a ^^^ b else if kind = 6 then ~~~a
  else if kind = 7 then a &&& b else if kind = 8 then a &&& c else if kind = 9 then a <<< (c.toNat % 64) else if kind = 10 then a >>> (c.toNat % 64)
  else if kind = 11 then a.rotateLeft (c.toNat % 64) else if kind = 12 then a ^^^ b ^^^ d else 0#64
theorem rot63 (x : BitVec 64) (n : Nat) (h : n < 64) : x <<< n ||| x >>> (64 - n) = x.rotateLeft n := by
  rw [BitVec.rotateLeft_def, Nat.mod_eq_of_lt h]
theorem octet_Rot_m (k : Nat) (x : BitVec 64) (n : Nat) (h : n < 64) : octet_Rot.m k (u x) (n : Int) = some (u (x.rotateLeft n)) := by
  have hb : band .i64 (n : Int) 63 = (n : Int) := by
    have : ∀ m : Fin 64, band .i64 ((m : Nat) : Int) 63 = ((m : Nat) : Int) := by decide
    exact this ⟨n, h⟩
  unfold octet_Rot.m
  rw [hb, if_pos (by omega), wrap_i64_of (by omega) (by omega), if_pos (by omega), shl_u _ (by omega), shr_u _ (by omega), bor_u]
  congr 2
  rw [← rot63 x n h]
  have e : ((64 : Int) - (n : Int)).toNat = 64 - n := by omega
  rw [e]; rfl
theorem rot1 (x : BitVec 64) : IntKind.u64.wrap (IntKind.u64.wrap (u x * 2) + IntKind.u64.wrap (Int.tdiv (u x) 9223372036854775808)) = u (x.rotateLeft 1) := by
  have h := x.isLt
  have hd : Int.tdiv (u x) 9223372036854775808 = ((x.toNat / 9223372036854775808 : Nat) : Int) := rfl
  rw [hd, wrap_u64, wrap_u64, wrap_u64]
  have e : (x.rotateLeft 1).toNat = (x.toNat * 2) % 18446744073709551616 + x.toNat / 9223372036854775808 := by
    rw [BitVec.rotateLeft_def]
    have h1 : (x <<< (1 % 64)) &&& (x >>> (64 - 1 % 64)) = 0#64 := by
      apply BitVec.eq_of_getLsbD_eq
      intro i hi
      simp only [BitVec.getLsbD_and, BitVec.getLsbD_shiftLeft, BitVec.getLsbD_ushiftRight, BitVec.getLsbD_zero]
      by_cases h0 : i = 0
      · subst h0; simp
      · have : x.getLsbD (64 - 1 % 64 + i) = false := BitVec.getLsbD_of_ge _ _ (by omega)
        simp [this]
    rw [← BitVec.add_eq_or_of_and_eq_zero _ _ h1, BitVec.toNat_add]
    simp only [BitVec.toNat_shiftLeft, BitVec.toNat_ushiftRight, Nat.shiftLeft_eq, Nat.shiftRight_eq_div_pow, show 1 % 64 = 1 from rfl, show 64 - 1 = 63 from rfl, show 2 ^ 63 = 9223372036854775808 from rfl, show 2 ^ 1 = 2 from rfl]
    omega
  simp only [u, e]
  omega
theorem rotateLeft_zero' (x : BitVec 64) : x.rotateLeft 0 = x := by
  apply BitVec.eq_of_getLsbD_eq
  intro i hi
  rw [BitVec.getLsbD_rotateLeft]; simp [hi]
theorem rotateLeft_add (x : BitVec 64) (a b : Nat) : (x.rotateLeft a).rotateLeft b = x.rotateLeft (a + b) := by
  apply BitVec.eq_of_getLsbD_eq
  intro i hi
  simp only [BitVec.getLsbD_rotateLeft]
  have ha := Nat.mod_lt a (show 0 < 64 by omega)
  have hb := Nat.mod_lt b (show 0 < 64 by omega)
  by_cases h1 : i < b % 64
  · by_cases h2 : i < (a + b) % 64
    · simp only [h1, h2, cond_true, decide_true]
      by_cases h3 : 64 - b % 64 + i < a % 64
      · simp only [h3, decide_true, cond_true]; congr 1; omega
      · simp only [h3, decide_false, cond_false]; rw [decide_eq_true (by omega), Bool.true_and]; congr 1; omega
    · simp only [h1, h2, decide_true, decide_false, cond_true, cond_false, hi, Bool.true_and]
      by_cases h3 : 64 - b % 64 + i < a % 64
      · omega
      · simp only [h3, decide_false, cond_false]; rw [decide_eq_true (by omega), Bool.true_and]; congr 1; omega
  · by_cases h2 : i < (a + b) % 64
    · simp only [h1, h2, decide_true, decide_false, cond_true, cond_false, hi, Bool.true_and]
      by_cases h3 : i - b % 64 < a % 64
      · simp only [h3, decide_true, cond_true]; congr 1; omega
      · omega
    · simp only [h1, h2, decide_false, cond_false, hi, decide_true, Bool.true_and]
      by_cases h3 : i - b % 64 < a % 64
      · simp only [h3, decide_true, cond_true]; congr 1; omega
      · simp only [h3, decide_false, cond_false]; rw [decide_eq_true (by omega), Bool.true_and]; congr 1; omega
theorem mod64 (k : Nat) (n : Nat) : visorref01_Mod.m k (n : Int) 64 = some ((n % 64 : Nat) : Int) := by
  unfold visorref01_Mod.m
  rw [if_pos (by omega)]
  have e : Int.tmod (n : Int) 64 = ((n % 64 : Nat) : Int) := rfl
  rw [e]
  have : decide (((n % 64 : Nat) : Int) < 0) = false := decide_eq_false (by omega)
  rw [this]; simp
theorem ref_Rot_l (n : Nat) : ∀ (d k i : Nat) (x : BitVec 64), n % 64 = i + d → d < k → visorref01_Rot.l1 (n : Int) k (u x) (i : Int) = some (u (x.rotateLeft d)) := by
  intro d
  induction d with
  | zero =>
    intro k i x hi hk
    obtain ⟨k, rfl⟩ : ∃ m, k = m + 1 := ⟨k - 1, by omega⟩
    rw [visorref01_Rot.l1, mod64]
    simp only [Option.bind_some]
    rw [decide_eq_false (by omega)]
    simp [rotateLeft_zero']
  | succ d ih =>
    intro k i x hi hk
    obtain ⟨k, rfl⟩ : ∃ m, k = m + 1 := ⟨k - 1, by omega⟩
    rw [visorref01_Rot.l1, mod64]
    simp only [Option.bind_some]
    rw [decide_eq_true (by omega), rot1, wrap_i64_of (by omega) (by omega)]
    simp only [cond_true]
    have := ih k (i + 1) (x.rotateLeft 1) (by omega) (by omega)
    rw [show ((i : Int) + 1) = ((i + 1 : Nat) : Int) by omega, this, rotateLeft_add, Nat.add_comm 1 d]
theorem ref_Rot_m (k : Nat) (hk : 65 ≤ k) (x : BitVec 64) (n : Nat) : visorref01_Rot.m k (u x) (n : Int) = some (u (x.rotateLeft (n % 64))) := by
  unfold visorref01_Rot.m
  have h := ref_Rot_l n (n % 64) k 0 x (by omega) (by omega)
  rw [show ((0 : Nat) : Int) = 0 from rfl] at h
  rw [h]; rfl
def lowW (n : Nat) : BitVec 64 := BitVec.ofNat 64 (2 ^ n - 1)
theorem ref_Low_l (n : Nat) : ∀ (d k i : Nat), min n 64 = i + d → d < k → visorref01_Low.l1 (n : Int) k (u (lowW i)) (i : Int) = some (u (lowW (min n 64))) := by
  intro d
  induction d with
  | zero =>
    intro k i hi hk
    obtain ⟨k, rfl⟩ : ∃ m, k = m + 1 := ⟨k - 1, by omega⟩
    rw [visorref01_Low.l1]
    have : (decide ((i : Int) < (n : Int)) && decide ((i : Int) < 64)) = false := by
      rw [Bool.and_eq_false_iff]; simp only [decide_eq_false_iff_not]; omega
    rw [this]; simp only [cond_false]
    rw [show min n 64 = i by omega]
  | succ d ih =>
    intro k i hi hk
    obtain ⟨k, rfl⟩ : ∃ m, k = m + 1 := ⟨k - 1, by omega⟩
    rw [visorref01_Low.l1]
    have : (decide ((i : Int) < (n : Int)) && decide ((i : Int) < 64)) = true := by
      rw [Bool.and_eq_true]; simp only [decide_eq_true_eq]; omega
    rw [this, wrap_i64_of (by omega) (by omega)]
    simp only [cond_true]
    have e : IntKind.u64.wrap (IntKind.u64.wrap (u (lowW i) * 2) + 1) = u (lowW (i + 1)) := by
      rw [wrap_u64, wrap_u64]
      simp only [u, lowW, BitVec.toNat_ofNat, Nat.pow_succ]
      have hp : 0 < 2 ^ i := Nat.two_pow_pos i
      omega
    rw [e]
    have := ih k (i + 1) (by omega) (by omega)
    rw [show ((i : Int) + 1) = ((i + 1 : Nat) : Int) by omega, this]
theorem ref_Low_m (k : Nat) (hk : 65 ≤ k) (n : Nat) : visorref01_Low.m k (n : Int) = some (u (lowW (min n 64))) := by
  unfold visorref01_Low.m
  have h := ref_Low_l n (min n 64) k 0 (by omega) (by omega)
  rw [show u (lowW 0) = 0 by decide, show ((0 : Nat) : Int) = 0 from rfl] at h
  rw [h]; rfl
theorem lowW_get (n i : Nat) (h : n ≤ 64) (hi : i < 64) : (lowW n).getLsbD i = decide (i < n) := by
  unfold lowW
  rw [BitVec.getLsbD_ofNat]
  simp [hi, Nat.testBit_two_pow_sub_one]
theorem shl_as (a : BitVec 64) (n : Nat) (h : n < 64) : (a &&& lowW (min (64 - n) 64)).rotateLeft (n % 64) = a <<< n := by
  apply BitVec.eq_of_getLsbD_eq
  intro i hi
  rw [BitVec.getLsbD_rotateLeft, Nat.mod_mod, Nat.mod_eq_of_lt h, BitVec.getLsbD_shiftLeft]
  by_cases h1 : i < n
  · simp only [h1, decide_true, cond_true, Bool.not_true, Bool.and_false, Bool.false_and, BitVec.getLsbD_and]
    rw [lowW_get _ _ (by omega) (by omega), decide_eq_false (by omega)]; simp
  · simp only [h1, decide_false, cond_false, hi, decide_true, Bool.not_false, Bool.true_and, BitVec.getLsbD_and]
    rw [lowW_get _ _ (by omega) (by omega), decide_eq_true (by omega)]; simp
theorem shr_as (a : BitVec 64) (n : Nat) (h : n < 64) : a.rotateLeft ((64 - n) % 64) &&& lowW (min (64 - n) 64) = a >>> n := by
  apply BitVec.eq_of_getLsbD_eq
  intro i hi
  rw [BitVec.getLsbD_and, BitVec.getLsbD_rotateLeft, Nat.mod_mod, BitVec.getLsbD_ushiftRight, lowW_get _ _ (by omega) hi]
  by_cases h1 : i < 64 - n
  · rw [decide_eq_true (show i < min (64 - n) 64 by omega), Bool.and_true]
    by_cases h0 : n = 0
    · subst h0; simp [hi]
    · have e : (64 - n) % 64 = 64 - n := by omega
      rw [e]
      simp only [h1, decide_true, cond_true]
      congr 1; omega
  · rw [decide_eq_false (show ¬ i < min (64 - n) 64 by omega), Bool.and_false]
    rw [BitVec.getLsbD_of_ge _ _ (by omega)]
/-- a word, as a number -/
def IsW (x : Int) : Prop := 0 ≤ x ∧ x ≤ 18446744073709551615
theorem IsW.u {x : Int} (h : IsW x) : ∃ b, x = Go.Vk.u b := exists_u h.1 h.2
theorem isW_u (b : BitVec 64) : IsW (Go.Vk.u b) := u_le b
theorem isW_zero : IsW 0 := ⟨by omega, by omega⟩
/-- what an op makes of numbers -/
def evalI (o : Tapi_Op) (a b d x : Int) : Int := u (evalW o.kind (BitVec.ofInt 64 o.c) (BitVec.ofInt 64 a) (BitVec.ofInt 64 b) (BitVec.ofInt 64 d) (BitVec.ofInt 64 x))
theorem evalI_w (o : Tapi_Op) (a b d x : Int) : IsW (evalI o a b d x) := isW_u _
theorem evalI_u (kind dom r s t : Int) (c a b d x : BitVec 64) : evalI ⟨kind, dom, r, s, t, u c⟩ (u a) (u b) (u d) (u x) = u (evalW kind c a b d x) := by
  unfold evalI; simp only [ofInt_u]
theorem op_Eval_w (k : Nat) (kind dom r s t : Int) (c a b d x : BitVec 64) : op_Eval.m k ⟨kind, dom, r, s, t, u c⟩ (u a) (u b) (u d) (u x) = some (u (evalW kind c a b d x)) := by
  have hm : Int.tmod (u c) 64 = ((c.toNat % 64 : Nat) : Int) := rfl
  have hlt : c.toNat % 64 < 64 := Nat.mod_lt _ (by omega)
  unfold op_Eval.m op_Eval.j1 evalW
  simp only [hm, bxor_u, bnot_u, band_u]
  rw [if_pos (show (0 : Int) ≤ ((c.toNat % 64 : Nat) : Int) by omega), wrap_i64_of (by omega) (by omega), octet_Rot_m k a _ hlt, shl_u _ (by omega), shr_u _ (by omega)]
  simp only [Option.bind_some, Int.toNat_natCast, if_pos (show (0 : Int) ≤ ((c.toNat % 64 : Nat) : Int) by omega)]
  by_cases h1 : kind = 1
  · subst h1; rfl
  by_cases h2 : kind = 2
  · subst h2; rfl
  by_cases h3 : kind = 3
  · subst h3; rfl
  by_cases h4 : kind = 4
  · subst h4; rfl
  by_cases h5 : kind = 5
  · subst h5; rfl
  by_cases h6 : kind = 6
  · subst h6; rfl
  by_cases h7 : kind = 7
  · subst h7; rfl
  by_cases h8 : kind = 8
  · subst h8; rfl
  by_cases h9 : kind = 9
  · subst h9; rfl
  by_cases h10 : kind = 10
  · subst h10; rfl
  by_cases h11 : kind = 11
  · subst h11; rfl
  by_cases h12 : kind = 12
  · subst h12; rfl
  simp only [if_neg h1, if_neg h2, if_neg h3, if_neg h4, if_neg h5, if_neg h6, if_neg h7, if_neg h8, if_neg h9, if_neg h10, if_neg h11, if_neg h12, beq_eq_false_iff_ne.2 h1, beq_eq_false_iff_ne.2 h2, beq_eq_false_iff_ne.2 h3, beq_eq_false_iff_ne.2 h4, beq_eq_false_iff_ne.2 h5, beq_eq_false_iff_ne.2 h6, beq_eq_false_iff_ne.2 h7, beq_eq_false_iff_ne.2 h8, beq_eq_false_iff_ne.2 h9, beq_eq_false_iff_ne.2 h10, beq_eq_false_iff_ne.2 h11, beq_eq_false_iff_ne.2 h12, cond_false]
  rfl
theorem ref_Eval_w (k : Nat) (hk : 65 ≤ k) (kind dom r s t : Int) (c a b d x : BitVec 64) : visorref17_Eval.m k ⟨kind, dom, r, s, t, u c⟩ (u a) (u b) (u d) (u x) = some (u (evalW kind c a b d x)) := by
  have hm : Int.tmod (u c) 64 = ((c.toNat % 64 : Nat) : Int) := rfl
  have hlt : c.toNat % 64 < 64 := Nat.mod_lt _ (by omega)
  have e1 : IntKind.i64.wrap ((c.toNat % 64 : Nat) : Int) = ((c.toNat % 64 : Nat) : Int) := wrap_i64_of (by omega) (by omega)
  have e2 : IntKind.i64.wrap (64 - ((c.toNat % 64 : Nat) : Int)) = ((64 - c.toNat % 64 : Nat) : Int) := by rw [wrap_i64_of (by omega) (by omega)]; omega
  unfold visorref17_Eval.m visorref17_Eval.j1 evalW
  simp only [Option.bind_some, hm, bxor_u, sub_u, band_u, e1, e2, ref_Low_m k hk, ref_Rot_m k hk]
  rw [shl_as a _ hlt, shr_as a _ hlt, Nat.mod_mod]
  by_cases h1 : kind = 1
  · subst h1; rfl
  by_cases h2 : kind = 2
  · subst h2; rfl
  by_cases h3 : kind = 3
  · subst h3; rfl
  by_cases h4 : kind = 4
  · subst h4; rfl
  by_cases h5 : kind = 5
  · subst h5; rfl
  by_cases h6 : kind = 6
  · subst h6; rfl
  by_cases h7 : kind = 7
  · subst h7; rfl
  by_cases h8 : kind = 8
  · subst h8; rfl
  by_cases h9 : kind = 9
  · subst h9; rfl
  by_cases h10 : kind = 10
  · subst h10; rfl
  by_cases h11 : kind = 11
  · subst h11; rfl
  by_cases h12 : kind = 12
  · subst h12; rfl
  simp only [if_neg h1, if_neg h2, if_neg h3, if_neg h4, if_neg h5, if_neg h6, if_neg h7, if_neg h8, if_neg h9, if_neg h10, if_neg h11, if_neg h12, beq_eq_false_iff_ne.2 h1, beq_eq_false_iff_ne.2 h2, beq_eq_false_iff_ne.2 h3, beq_eq_false_iff_ne.2 h4, beq_eq_false_iff_ne.2 h5, beq_eq_false_iff_ne.2 h6, beq_eq_false_iff_ne.2 h7, beq_eq_false_iff_ne.2 h8, beq_eq_false_iff_ne.2 h9, beq_eq_false_iff_ne.2 h10, beq_eq_false_iff_ne.2 h11, beq_eq_false_iff_ne.2 h12, cond_false]
  rfl
theorem op_Eval_m (k : Nat) (o : Tapi_Op) (a b d x : Int) (hc : IsW o.c) (ha : IsW a) (hb : IsW b) (hd : IsW d) (hx : IsW x) : op_Eval.m k o a b d x = some (evalI o a b d x) := by
  obtain ⟨kind, dom, r, s, t, c⟩ := o
  obtain ⟨c, rfl⟩ := hc.u; obtain ⟨a, rfl⟩ := ha.u; obtain ⟨b, rfl⟩ := hb.u; obtain ⟨d, rfl⟩ := hd.u; obtain ⟨x, rfl⟩ := hx.u
  rw [op_Eval_w, evalI_u]
theorem ref_Eval_m (k : Nat) (hk : 65 ≤ k) (o : Tapi_Op) (a b d x : Int) (hc : IsW o.c) (ha : IsW a) (hb : IsW b) (hd : IsW d) (hx : IsW x) : visorref17_Eval.m k o a b d x = some (evalI o a b d x) := by
  obtain ⟨kind, dom, r, s, t, c⟩ := o
  obtain ⟨c, rfl⟩ := hc.u; obtain ⟨a, rfl⟩ := ha.u; obtain ⟨b, rfl⟩ := hb.u; obtain ⟨d, rfl⟩ := hd.u; obtain ⟨x, rfl⟩ := hx.u
  rw [ref_Eval_w k hk, evalI_u]
/-! Which ops may be: both programs' Right is one question. -/
def opRegs (kind n : Int) : Int := if kind = 2 then n - 1 else if kind = 5 ∨ kind = 7 then 2 else if kind = 6 ∨ kind = 8 ∨ kind = 9 ∨ kind = 10 ∨ kind = 11 then 1 else if kind = 12 then n else 0
def okReg (r at' j regs : Int) : Prop := (j < regs → 0 ≤ r ∧ r < at') ∧ (regs ≤ j → r = -1)
instance (r at' j regs : Int) : Decidable (okReg r at' j regs) := by unfold okReg; infer_instance
def okConst (o : Tapi_Op) : Bool := if o.kind = 9 ∨ o.kind = 10 ∨ o.kind = 11 then decide (o.c < 64) else if o.kind = 2 then decide (o.c < 1048576) else if o.kind = 3 ∨ o.kind = 4 ∨ o.kind = 8 then true else o.c == 0
def okHead (o : Tapi_Op) (n : Int) : Prop := 1 ≤ o.kind ∧ o.kind ≤ 12 ∧ -1 ≤ o.dom ∧ o.dom < n ∧ (o.kind = 12 → o.dom = -1)
instance (o : Tapi_Op) (n : Int) : Decidable (okHead o n) := by unfold okHead; infer_instance
def okRegs (o : Tapi_Op) (at' n : Int) : Prop := okReg o.a at' 0 (opRegs o.kind n) ∧ okReg o.b at' 1 (opRegs o.kind n) ∧ okReg o.d at' 2 (opRegs o.kind n)
instance (o : Tapi_Op) (at' n : Int) : Decidable (okRegs o at' n) := by unfold okRegs; infer_instance
/-- may an op be, at a place, of so many shares? -/
def Rt (o : Tapi_Op) (at' n : Int) : Bool := decide (okHead o n) && (decide (okRegs o at' n) && okConst o)
theorem beqF {a b : Int} (h : ¬ a = b) : (a == b) = false := beq_eq_false_iff_ne.2 h
theorem op_Regs_m (k : Nat) (kind n : Int) (hn : n = 2 ∨ n = 3) : op_Regs.m k kind n = some (opRegs kind n) := by
  have hw : IntKind.i64.wrap (n - 1) = n - 1 := wrap_i64_of (by omega) (by omega)
  have h0 : ((n != 2) && (n != 3)) = false := by rcases hn with rfl | rfl <;> rfl
  unfold op_Regs.m op_Regs.j1 op_Regs.j2 opRegs
  rw [h0, cond_false, hw]
  by_cases h2 : kind = 2
  · subst h2; rfl
  by_cases h5 : kind = 5
  · subst h5; rfl
  by_cases h7 : kind = 7
  · subst h7; rfl
  by_cases h6 : kind = 6
  · subst h6; rfl
  by_cases h8 : kind = 8
  · subst h8; rfl
  by_cases h9 : kind = 9
  · subst h9; rfl
  by_cases h10 : kind = 10
  · subst h10; rfl
  by_cases h11 : kind = 11
  · subst h11; rfl
  by_cases h12 : kind = 12
  · subst h12; rfl
  simp only [h2, h5, h6, h7, h8, h9, h10, h11, h12, beqF h2, beqF h5, beqF h6, beqF h7, beqF h8, beqF h9, beqF h10, beqF h11, beqF h12, cond_false, or_self, if_false]
theorem ref_Regs_m (k : Nat) (kind n : Int) (hn : n = 2 ∨ n = 3) : visorref17_Regs.m k kind n = some (opRegs kind n) := op_Regs_m k kind n hn
theorem op_constant_m (k : Nat) (o : Tapi_Op) : op_constant.m k o = some (okConst o) := by
  unfold op_constant.m op_constant.j1 op_constant.j2 okConst
  by_cases h9 : o.kind = 9
  · rw [h9]; rfl
  by_cases h10 : o.kind = 10
  · rw [h10]; rfl
  by_cases h11 : o.kind = 11
  · rw [h11]; rfl
  by_cases h2 : o.kind = 2
  · rw [h2]; rfl
  by_cases h3 : o.kind = 3
  · rw [h3]; rfl
  by_cases h4 : o.kind = 4
  · rw [h4]; rfl
  by_cases h8 : o.kind = 8
  · rw [h8]; rfl
  simp only [h2, h3, h4, h8, h9, h10, h11, beqF h2, beqF h3, beqF h4, beqF h8, beqF h9, beqF h10, beqF h11, cond_false, or_self, if_false]
theorem op_Right_step (o : Tapi_Op) (at' v : Int) (k j : Nat) (r : Int) (hj : j < 3) (hr : getI .i64 [C.int .i64 o.a, C.int .i64 o.b, C.int .i64 o.d] j = some r) :
    op_Right.l1 o at' v (k + 1) (j : Int) = if okReg r at' j v then op_Right.l1 o at' v k ((j + 1 : Nat) : Int) else some (.inl false) := by
  have hw : IntKind.i64.wrap ((j : Int) + 1) = ((j + 1 : Nat) : Int) := by rw [wrap_i64_of (by omega) (by omega)]; omega
  conv => lhs; unfold op_Right.l1
  rw [decide_eq_true (show (j : Int) < 3 by omega), cond_true, if_pos (by omega), Int.toNat_natCast, hr, Option.bind_some, hw]
  by_cases h1 : (j : Int) < v
  · rw [decide_eq_true h1, cond_true, decide_eq_false (show ¬ (j : Int) ≥ v by omega), Bool.false_and, cond_false]
    by_cases h2 : r < 0
    · rw [decide_eq_true h2, Bool.true_or, cond_true, if_neg (by unfold okReg; omega)]
    · rw [decide_eq_false h2, Bool.false_or]
      by_cases h3 : r ≥ at'
      · rw [decide_eq_true h3, cond_true, if_neg (by unfold okReg; omega)]
      · rw [decide_eq_false h3, cond_false, if_pos (by unfold okReg; omega)]
  · rw [decide_eq_false h1, cond_false, decide_eq_true (show (j : Int) ≥ v by omega), Bool.true_and]
    by_cases h2 : r = -1
    · rw [show (r != -1) = false by simp [h2], cond_false, if_pos (by unfold okReg; omega)]
    · rw [show (r != -1) = true by simp [h2], cond_true, if_neg (by unfold okReg; omega)]
theorem op_Right_end (o : Tapi_Op) (at' v : Int) (k : Nat) : op_Right.l1 o at' v (k + 1) ((3 : Nat) : Int) = some (.inr ()) := by unfold op_Right.l1; rfl
theorem ref_Right_step (o : Tapi_Op) (at' n : Int) (hn : n = 2 ∨ n = 3) (k j : Nat) (r : Int) (hj : j < 3) (hr : getI .i64 [C.int .i64 o.a, C.int .i64 o.b, C.int .i64 o.d] j = some r) :
    visorref17_Right.l1 o at' n (k + 1) (j : Int) = if okReg r at' j (opRegs o.kind n) then visorref17_Right.l1 o at' n k ((j + 1 : Nat) : Int) else some (.inl false) := by
  have hw : IntKind.i64.wrap ((j : Int) + 1) = ((j + 1 : Nat) : Int) := by rw [wrap_i64_of (by omega) (by omega)]; omega
  have hj0 : 0 + ((j : Nat) : Int).toNat * 1 = j := by simp
  conv => lhs; unfold visorref17_Right.l1
  rw [decide_eq_true (show (j : Int) < 3 by omega), cond_true, ref_Regs_m _ _ _ hn, Option.bind_some, if_pos (by omega), hj0, hr, Option.bind_some, hw]
  simp only [Option.bind_some]
  generalize opRegs o.kind n = v
  by_cases h1 : (j : Int) < v
  · rw [decide_eq_true h1, cond_true]
    by_cases h2 : r < 0
    · rw [decide_eq_true h2, cond_true, if_neg (by unfold okReg; omega)]
    · rw [decide_eq_false h2, cond_false, if_pos (by omega)]
      by_cases h3 : r ≥ at'
      · rw [decide_eq_true h3, cond_true, if_neg (by unfold okReg; omega)]
      · rw [decide_eq_false h3, cond_false, decide_eq_false (show ¬ (j : Int) ≥ v by omega), cond_false, if_pos (by unfold okReg; omega)]
  · rw [decide_eq_false h1, cond_false, decide_eq_true (show (j : Int) ≥ v by omega), cond_true, if_pos (by omega)]
    by_cases h2 : r = -1
    · rw [show (r != -1) = false by simp [h2], cond_false, if_pos (by unfold okReg; omega)]
    · rw [show (r != -1) = true by simp [h2], cond_true, if_neg (by unfold okReg; omega)]
theorem ref_Right_end (o : Tapi_Op) (at' n : Int) (k : Nat) : visorref17_Right.l1 o at' n (k + 1) ((3 : Nat) : Int) = some (.inr ()) := by unfold visorref17_Right.l1; rfl
theorem op_Right_loop (o : Tapi_Op) (at' n : Int) (k : Nat) : op_Right.l1 o at' (opRegs o.kind n) (k + 4) 0 = some (if okRegs o at' n then .inr () else .inl false) := by
  have h := op_Right_step o at' (opRegs o.kind n) (k + 3) 0 o.a (by omega) rfl
  have h0 : ((0 : Nat) : Int) = 0 := rfl
  rw [h0] at h
  rw [h, op_Right_step o at' _ (k + 2) 1 o.b (by omega) rfl, op_Right_step o at' _ (k + 1) 2 o.d (by omega) rfl, op_Right_end]
  unfold okRegs
  by_cases h1 : okReg o.a at' 0 (opRegs o.kind n)
  · by_cases h2 : okReg o.b at' 1 (opRegs o.kind n)
    · by_cases h3 : okReg o.d at' 2 (opRegs o.kind n)
      · simp [h1, h2, h3]
      · simp [h1, h2, h3]
    · simp [h1, h2]
  · simp [h1]
theorem ref_Right_loop (o : Tapi_Op) (at' n : Int) (hn : n = 2 ∨ n = 3) (k : Nat) : visorref17_Right.l1 o at' n (k + 4) 0 = some (if okRegs o at' n then .inr () else .inl false) := by
  have h := ref_Right_step o at' n hn (k + 3) 0 o.a (by omega) rfl
  have h0 : ((0 : Nat) : Int) = 0 := rfl
  rw [h0] at h
  rw [h, ref_Right_step o at' n hn (k + 2) 1 o.b (by omega) rfl, ref_Right_step o at' n hn (k + 1) 2 o.d (by omega) rfl, ref_Right_end]
  unfold okRegs
  by_cases h1 : okReg o.a at' 0 (opRegs o.kind n)
  · by_cases h2 : okReg o.b at' 1 (opRegs o.kind n)
    · by_cases h3 : okReg o.d at' 2 (opRegs o.kind n)
      · simp [h1, h2, h3]
      · simp [h1, h2, h3]
    · simp [h1, h2]
  · simp [h1]
theorem op_Right_j (k : Nat) (o : Tapi_Op) (at' n : Int) (hn : n = 2 ∨ n = 3) (b : Bool) : op_Right.j1 (k + 4) o at' n b = some (!b && (decide (okRegs o at' n) && okConst o)) := by
  unfold op_Right.j1
  cases b
  · rw [cond_false, op_Regs_m _ _ _ hn, Option.bind_some, op_Right_loop, Option.bind_some, op_constant_m]
    by_cases h : okRegs o at' n
    · rw [if_pos h]; simp [h]
    · rw [if_neg h]; simp [h]
  · rfl
theorem ref_Right_j (k : Nat) (o : Tapi_Op) (at' n : Int) (hn : n = 2 ∨ n = 3) (b : Bool) : visorref17_Right.j1 (k + 4) o at' n b = some (!b && (decide (okRegs o at' n) && okConst o)) := by
  have hc : ∀ k, (bif o.kind == 9 then visorref17_Right.j2 k o (o.kind == 9) else (bif o.kind == 10 then visorref17_Right.j2 k o (o.kind == 10) else visorref17_Right.j2 k o (o.kind == 11))) = some (okConst o) := fun k => op_constant_m k o
  unfold visorref17_Right.j1
  cases b
  · rw [cond_false, ref_Right_loop o at' n hn, Option.bind_some]
    by_cases h : okRegs o at' n
    · rw [if_pos h]; simp only [hc]; simp [h]
    · rw [if_neg h]; simp [h]
  · rfl
theorem op_Right_m (k : Nat) (o : Tapi_Op) (at' n : Int) (hn : n = 2 ∨ n = 3) : op_Right.m (k + 4) o at' n = some (Rt o at' n) := by
  have h0 : ((n != 2) && (n != 3)) = false := by rcases hn with rfl | rfl <;> rfl
  unfold op_Right.m op_is.m
  rw [h0, cond_false, Option.bind_some]
  simp only [op_Right_j _ _ _ _ hn]
  unfold Rt okHead
  by_cases h1 : 1 ≤ o.kind
  · by_cases h2 : o.kind ≤ 12
    · by_cases h3 : -1 ≤ o.dom
      · by_cases h4 : o.dom < n
        · have e : ((!(decide (o.kind ≥ 1) && decide (o.kind ≤ 12)) || decide (o.dom < -1)) || decide (o.dom ≥ n)) = false := by
            simp only [Bool.or_eq_false_iff, decide_eq_false_iff_not, Bool.not_eq_false', Bool.and_eq_true, decide_eq_true_eq]; omega
          rw [e, cond_false]
          by_cases h5 : o.kind = 12
          · by_cases h6 : o.dom = -1
            · simp [h5, h6]; omega
            · have : o.dom ≥ 0 := by omega
              simp [h5, h6, this]
          · simp [h1, h2, h3, h4, h5, beqF h5]
        · have e : ((!(decide (o.kind ≥ 1) && decide (o.kind ≤ 12)) || decide (o.dom < -1)) || decide (o.dom ≥ n)) = true := by simp; omega
          rw [e, cond_true]; simp [h4]
      · have e : ((!(decide (o.kind ≥ 1) && decide (o.kind ≤ 12)) || decide (o.dom < -1)) || decide (o.dom ≥ n)) = true := by simp; omega
        rw [e, cond_true]; simp [h3]
    · have e : ((!(decide (o.kind ≥ 1) && decide (o.kind ≤ 12)) || decide (o.dom < -1)) || decide (o.dom ≥ n)) = true := by simp; omega
      rw [e, cond_true]; simp [h2]
  · have e : ((!(decide (o.kind ≥ 1) && decide (o.kind ≤ 12)) || decide (o.dom < -1)) || decide (o.dom ≥ n)) = true := by simp; omega
    rw [e, cond_true]; simp [h1]
theorem ref_Right_m (k : Nat) (o : Tapi_Op) (at' n : Int) (hn : n = 2 ∨ n = 3) : visorref17_Right.m (k + 4) o at' n = some (Rt o at' n) := by
  have h0 : ((n != 2) && (n != 3)) = false := by rcases hn with rfl | rfl <;> rfl
  unfold visorref17_Right.m
  simp only [ref_Right_j _ _ _ _ hn, h0]
  unfold Rt okHead
  by_cases h1 : 1 ≤ o.kind
  · by_cases h2 : o.kind ≤ 12
    · by_cases h3 : -1 ≤ o.dom
      · by_cases h4 : o.dom < n
        · have e : ((((false || decide (o.kind < 1)) || decide (o.kind > 12)) || decide (o.dom < -1)) || decide (o.dom ≥ n)) = false := by
            simp only [Bool.or_eq_false_iff, decide_eq_false_iff_not, true_and]; omega
          rw [e, cond_false]
          by_cases h5 : o.kind = 12
          · by_cases h6 : o.dom = -1
            · simp [h5, h6]; omega
            · simp [h5, h6]
          · simp [h1, h2, h3, h4, h5, beqF h5]
        · have e : ((((false || decide (o.kind < 1)) || decide (o.kind > 12)) || decide (o.dom < -1)) || decide (o.dom ≥ n)) = true := by simp; omega
          rw [e, cond_true]; simp [h4]
      · have e : ((((false || decide (o.kind < 1)) || decide (o.kind > 12)) || decide (o.dom < -1)) || decide (o.dom ≥ n)) = true := by simp; omega
        rw [e, cond_true]; simp [h3]
    · have e : ((((false || decide (o.kind < 1)) || decide (o.kind > 12)) || decide (o.dom < -1)) || decide (o.dom ≥ n)) = true := by simp; omega
      rw [e, cond_true]; simp [h2]
  · have e : ((((false || decide (o.kind < 1)) || decide (o.kind > 12)) || decide (o.dom < -1)) || decide (o.dom ≥ n)) = true := by simp; omega
    rw [e, cond_true]; simp [h1]
/-! A machine's Do, as one total function. -/
def atI (v : List Int) (r : Int) : Int := if 0 ≤ r ∧ r < (v.length : Int) then v.getD r.toNat 0 else 0
theorem atI_w {v : List Int} (hv : ∀ x ∈ v, IsW x) (r : Int) : IsW (atI v r) := by
  unfold atI
  split
  · rename_i h
    have hlt : r.toNat < v.length := by omega
    rw [List.getD_eq_getElem?_getD, List.getElem?_eq_getElem hlt]; exact hv _ (List.getElem_mem hlt)
  · exact isW_zero
theorem atI_neg {v : List Int} {r : Int} (h : r < 0) : atI v r = 0 := by unfold atI; rw [if_neg (by omega)]
theorem atI_append {v : List Int} {r : Int} (h : r < (v.length : Int)) (l : List Int) : atI (v ++ l) r = atI v r := by
  unfold atI
  by_cases h0 : 0 ≤ r
  · have hlt : r.toNat < v.length := by omega
    rw [if_pos (show 0 ≤ r ∧ r < ((v ++ l).length : Int) from ⟨h0, by rw [List.length_append]; omega⟩), if_pos (show 0 ≤ r ∧ r < (v.length : Int) from ⟨h0, h⟩), List.getD_eq_getElem?_getD, List.getD_eq_getElem?_getD, List.getElem?_append_left hlt]
  · rw [if_neg (by omega), if_neg (by omega)]
/-- registers of an op that may be -/
theorem Rt_regs {o : Tapi_Op} {at' n : Int} (h : Rt o at' n = true) (h0 : 0 ≤ at') : (o.a < 0 ∨ o.a < at') ∧ (o.b < 0 ∨ o.b < at') ∧ (o.d < 0 ∨ o.d < at') := by
  unfold Rt at h
  simp only [Bool.and_eq_true, decide_eq_true_eq] at h
  obtain ⟨h1, h2, h3⟩ := h.2.1
  unfold okReg at h1 h2 h3
  omega
/-- is a mask to be drawn, and there is none? -/
def noMask (t : Ttape_Tape) : Prop := t.free < 1 ∨ (t.words.length : Int) - t.used.v < 1
instance (t : Ttape_Tape) : Decidable (noMask t) := by unfold noMask; infer_instance
/-! ops that are made, one by one -/
def cnt (kd : Int) (l : List Tapi_Op) : Nat := l.countP fun o => o.kind == kd
def tab (n : Nat) (f : Nat → Int) : List Int := (List.range n).map f
theorem tab_len (n : Nat) (f : Nat → Int) : (tab n f).length = n := by simp [tab]
theorem tab_get {n : Nat} (f : Nat → Int) {i : Nat} (h : i < n) : (tab n f)[i]? = some (f i) := by simp [tab, h]
theorem tab_congr {n : Nat} {f g : Nat → Int} (h : ∀ i, i < n → f i = g i) : tab n f = tab n g := List.map_congr_left fun i hi => h i (List.mem_range.1 hi)
theorem tab_set {n : Nat} (f : Nat → Int) (i : Nat) (y : Int) : (tab n f).set i y = tab n (fun t => if t = i then y else f t) := by
  refine List.ext_getElem (by simp [tab]) fun j h1 h2 => ?_
  simp only [tab, List.getElem_set, List.getElem_map, List.getElem_range]
  by_cases h : i = j
  · rw [if_pos h, if_pos h.symm]
  · rw [if_neg h, if_neg (fun e => h e.symm)]
theorem tab_succ (n : Nat) (f : Nat → Int) : tab (n + 1) f = tab n f ++ [f n] := by simp [tab, List.range_succ]
theorem tab_zero (n : Nat) : (List.replicate n 0 : List Int) = tab n fun _ => 0 := by
  refine List.ext_getElem (by simp [tab]) fun j h1 h2 => by simp [tab]
/-! Traces: both looks at a trace are one question; how many ops of each kind there are; runs. -/
def ordB (len : Int) : Int → List Tapi_Span → Bool
  | _, [] => true
  | last, b :: l => !((((decide (b.kind < 1) || decide (b.kind > 3)) || decide (b.fromF < last)) || decide (b.to ≤ b.fromF)) || decide (b.to > len)) && ordB len b.to l
theorem ordB_cons (len last : Int) (b : Tapi_Span) (l : List Tapi_Span) : ordB len last (b :: l) = (!((((decide (b.kind < 1) || decide (b.kind > 3)) || decide (b.fromF < last)) || decide (b.to ≤ b.fromF)) || decide (b.to > len)) && ordB len b.to l) := rfl
def opsB (n : Int) : Nat → Nat → List Tapi_Op → Bool
  | _, _, [] => true
  | i, w, o :: l => Rt o (i : Int) n && ((o.kind != 2 || o.c == (w : Int)) && opsB n (i + 1) (if o.kind = 2 then w + 1 else w) l)
def trB (t : Tapi_Trace) : Bool := (((t.n == 2) || (t.n == 3)) && decide (t.ops.length ≤ 1048576)) && (ordB (t.ops.length : Int) 0 t.blocks && opsB t.n 0 0 t.ops)
theorem wrapS {x : Int} (h0 : -9223372036854775808 ≤ x) (h1 : x ≤ 9223372036854775807) : IntKind.i64.wrap x = x := wrap_i64_of (by omega) (by omega)
theorem wrapN {i : Nat} (h : i < 4611686018427387904) : IntKind.i64.wrap ((i : Int) + 1) = ((i + 1 : Nat) : Int) := by rw [wrapS (by omega) (by omega)]; omega
theorem drop_cons {α : Type} {l : List α} {i : Nat} (h : i < l.length) : l.drop i = l[i] :: l.drop (i + 1) := List.drop_eq_getElem_cons h
theorem ordered_l {t : Tapi_Trace} (hb : t.blocks.length < 4611686018427387904) : ∀ (d i k : Nat) (last : Int), i + d = t.blocks.length → d < k → trace_ordered.l1 t k last (i : Int) = some (if ordB (t.ops.length : Int) last (t.blocks.drop i) = true then .inr () else .inl false)
  | 0, i, k, last, hi, hk => by
    obtain ⟨k, rfl⟩ : ∃ j, k = j + 1 := ⟨k - 1, by omega⟩
    unfold trace_ordered.l1
    rw [decide_eq_false (by omega), cond_false, List.drop_of_length_le (by omega)]; rfl
  | d + 1, i, k, last, hi, hk => by
    obtain ⟨k, rfl⟩ : ∃ j, k = j + 1 := ⟨k - 1, by omega⟩
    have hlt : i < t.blocks.length := by omega
    have ih := ordered_l hb d (i + 1) k t.blocks[i].to (by omega) (by omega)
    unfold trace_ordered.l1
    rw [decide_eq_true (by omega), cond_true, if_pos (by omega), Int.toNat_natCast, List.getElem?_eq_getElem hlt, Option.bind_some, wrapN (by omega), ih, drop_cons hlt, ordB_cons]
    show (bif ((((decide (t.blocks[i].kind < 1) || decide (t.blocks[i].kind > 3)) || decide (t.blocks[i].fromF < last)) || decide (t.blocks[i].to ≤ t.blocks[i].fromF)) || decide (t.blocks[i].to > ((t.ops.length : Nat) : Int))) then _ else _) = _
    cases ((((decide (t.blocks[i].kind < 1) || decide (t.blocks[i].kind > 3)) || decide (t.blocks[i].fromF < last)) || decide (t.blocks[i].to ≤ t.blocks[i].fromF)) || decide (t.blocks[i].to > ((t.ops.length : Nat) : Int)))
    · rfl
    · rfl
theorem rOrd_l {t : Tapi_Trace} (hb : t.blocks.length < 4611686018427387904) : ∀ (d i k : Nat) (last : Int), i + d = t.blocks.length → d < k → visorref18_Right.l2 t k last (i : Int) = some (if ordB (t.ops.length : Int) last (t.blocks.drop i) = true then .inr () else .inl false)
  | 0, i, k, last, hi, hk => by
    obtain ⟨k, rfl⟩ : ∃ j, k = j + 1 := ⟨k - 1, by omega⟩
    unfold visorref18_Right.l2
    rw [decide_eq_false (by omega), cond_false, List.drop_of_length_le (by omega)]; rfl
  | d + 1, i, k, last, hi, hk => by
    obtain ⟨k, rfl⟩ : ∃ j, k = j + 1 := ⟨k - 1, by omega⟩
    have hlt : i < t.blocks.length := by omega
    have ih := rOrd_l hb d (i + 1) k t.blocks[i].to (by omega) (by omega)
    unfold visorref18_Right.l2
    rw [decide_eq_true (by omega), cond_true, if_pos (by omega), Int.toNat_natCast, List.getElem?_eq_getElem hlt, Option.bind_some, wrapN (by omega), ih, drop_cons hlt, ordB_cons]
    cases ((((decide (t.blocks[i].kind < 1) || decide (t.blocks[i].kind > 3)) || decide (t.blocks[i].fromF < last)) || decide (t.blocks[i].to ≤ t.blocks[i].fromF)) || decide (t.blocks[i].to > ((t.ops.length : Nat) : Int)))
    · rfl
    · rfl
theorem wrapU {w : Nat} (h : w < 4611686018427387904) : IntKind.u64.wrap ((w : Int) + 1) = ((w + 1 : Nat) : Int) := by rw [wrap_u64_of (by omega) (by omega)]; omega
theorem check_l {t : Tapi_Trace} (hn : t.n = 2 ∨ t.n = 3) (hlen : t.ops.length ≤ 1048576) : ∀ (d i k w : Nat), i + d = t.ops.length → d + 5 ≤ k → w ≤ i → trace_Check.l1 t k (w : Int) (i : Int) = some (if opsB t.n i w (t.ops.drop i) = true then .inr () else .inl 4)
  | 0, i, k, w, hi, hk, _ => by
    obtain ⟨k, rfl⟩ : ∃ j, k = j + 1 := ⟨k - 1, by omega⟩
    unfold trace_Check.l1
    rw [decide_eq_false (by omega), cond_false, List.drop_of_length_le (by omega)]; rfl
  | d + 1, i, k, w, hi, hk, hw => by
    obtain ⟨k, rfl⟩ : ∃ j, k = j + 4 + 1 := ⟨k - 5, by omega⟩
    have hlt : i < t.ops.length := by omega
    have ih0 := check_l hn hlen d (i + 1) (k + 4) w (by omega) (by omega) (by omega)
    have ih1 := check_l hn hlen d (i + 1) (k + 4) (w + 1) (by omega) (by omega) (by omega)
    unfold trace_Check.l1
    rw [decide_eq_true (by omega), cond_true, if_pos (by omega), Int.toNat_natCast, List.getElem?_eq_getElem hlt, Option.bind_some, op_Right_m _ _ _ _ hn, Option.bind_some, drop_cons hlt]
    unfold opsB trace_Check.j2
    generalize t.ops[i] = o
    cases Rt o (i : Int) t.n
    · rfl
    · rw [Bool.not_true, cond_false, Bool.true_and, wrapN (by omega)]
      by_cases k2 : o.kind = 2
      · rw [show (o.kind != 2) = false by simp [k2], cond_false, Bool.false_or, if_pos k2]
        by_cases hc : o.c = (w : Int)
        · rw [show (o.c != (w : Int)) = false by simp [hc], cond_false, show (o.c == (w : Int)) = true by simp [hc], Bool.true_and, wrapU (by omega), ih1]
        · rw [show (o.c != (w : Int)) = true by simp [hc], cond_true, beqF hc, Bool.false_and]; rfl
      · rw [show (o.kind != 2) = true by simp [k2], cond_true, Bool.true_or, if_neg k2, Bool.true_and, ih0]
theorem rRight_l {t : Tapi_Trace} (hn : t.n = 2 ∨ t.n = 3) (hlen : t.ops.length ≤ 1048576) : ∀ (d i k w : Nat), i + d = t.ops.length → d + 5 ≤ k → w ≤ i → visorref18_Right.l1 t k (w : Int) (i : Int) = some (if opsB t.n i w (t.ops.drop i) = true then .inr () else .inl false)
  | 0, i, k, w, hi, hk, _ => by
    obtain ⟨k, rfl⟩ : ∃ j, k = j + 1 := ⟨k - 1, by omega⟩
    unfold visorref18_Right.l1
    rw [decide_eq_false (by omega), cond_false, List.drop_of_length_le (by omega)]; rfl
  | d + 1, i, k, w, hi, hk, hw => by
    obtain ⟨k, rfl⟩ : ∃ j, k = j + 4 + 1 := ⟨k - 5, by omega⟩
    have hlt : i < t.ops.length := by omega
    have ih0 := rRight_l hn hlen d (i + 1) (k + 4) w (by omega) (by omega) (by omega)
    have ih1 := rRight_l hn hlen d (i + 1) (k + 4) (w + 1) (by omega) (by omega) (by omega)
    unfold visorref18_Right.l1
    rw [decide_eq_true (by omega), cond_true, if_pos (by omega), Int.toNat_natCast, List.getElem?_eq_getElem hlt, Option.bind_some, ref_Right_m _ _ _ _ hn, Option.bind_some, drop_cons hlt]
    unfold opsB visorref18_Right.j1
    generalize t.ops[i] = o
    cases Rt o (i : Int) t.n
    · rfl
    · rw [Bool.not_true, cond_false, Bool.true_and, if_pos (by omega), Option.bind_some, wrapN (by omega)]
      by_cases k2 : o.kind = 2
      · rw [show (o.kind == 2) = true by simp [k2], cond_true, if_pos (by omega), Option.bind_some, show (o.kind != 2) = false by simp [k2], Bool.false_or, if_pos k2]
        by_cases hc : o.c = (w : Int)
        · rw [show (o.c != (w : Int)) = false by simp [hc], cond_false, show (o.c == (w : Int)) = true by simp [hc], Bool.true_and, wrapU (by omega), ih1]
        · rw [show (o.c != (w : Int)) = true by simp [hc], cond_true, beqF hc, Bool.false_and]; rfl
      · rw [beqF k2, cond_false, show (o.kind != 2) = true by simp [k2], Bool.true_or, if_neg k2, Bool.true_and, ih0]
theorem nOk (n : Int) : ((n != 2) && (n != 3)) = !((n == 2) || (n == 3)) := by simp [bne]
theorem Check_m {t : Tapi_Trace} (hb : t.blocks.length < 4611686018427387904) {k : Nat} (hk : t.ops.length + t.blocks.length + 5 ≤ k) : trace_Check.m k t = some (if trB t = true then 0 else 4) := by
  unfold trace_Check.m trace_Check.j1 trB
  rw [nOk]
  by_cases hn : t.n = 2 ∨ t.n = 3
  · have e : ((t.n == 2) || (t.n == 3)) = true := by rcases hn with e | e <;> simp [e]
    rw [e, Bool.not_true, Bool.false_or, Bool.true_and]
    by_cases hl : t.ops.length ≤ 1048576
    · rw [decide_eq_false (by omega), cond_false, decide_eq_true hl, Bool.true_and]
      have e1 := ordered_l hb t.blocks.length 0 k 0 (by omega) (by omega)
      have e2 := check_l hn hl t.ops.length 0 k 0 (by omega) (by omega) (by omega)
      rw [List.drop_zero] at e1 e2
      unfold trace_ordered.m
      rw [show (0 : Int) = ((0 : Nat) : Int) from rfl] at *
      rw [e1, Option.bind_some, e2]
      cases ordB ((t.ops.length : Nat) : Int) ((0 : Nat) : Int) t.blocks
      · rfl
      · cases opsB t.n 0 0 t.ops <;> rfl
    · rw [decide_eq_true (by omega), cond_true, decide_eq_false hl]; rfl
  · have e : ((t.n == 2) || (t.n == 3)) = false := by
      rw [Bool.or_eq_false_iff, beq_eq_false_iff_ne, beq_eq_false_iff_ne]; omega
    rw [e]; rfl
theorem rRight_m {t : Tapi_Trace} (hb : t.blocks.length < 4611686018427387904) {k : Nat} (hk : t.ops.length + t.blocks.length + 5 ≤ k) : visorref18_Right.m k t = some (trB t) := by
  unfold visorref18_Right.m trB
  rw [nOk]
  by_cases hn : t.n = 2 ∨ t.n = 3
  · have e : ((t.n == 2) || (t.n == 3)) = true := by rcases hn with e | e <;> simp [e]
    rw [e, Bool.not_true, Bool.false_or, Bool.true_and]
    by_cases hl : t.ops.length ≤ 1048576
    · rw [decide_eq_false (by omega), cond_false, decide_eq_true hl, Bool.true_and]
      have e1 := rOrd_l hb t.blocks.length 0 k 0 (by omega) (by omega)
      have e2 := rRight_l hn hl t.ops.length 0 k 0 (by omega) (by omega) (by omega)
      rw [List.drop_zero] at e1 e2
      rw [show (0 : Int) = ((0 : Nat) : Int) from rfl] at *
      rw [e2]
      cases opsB t.n 0 0 t.ops
      · simp
      · rw [if_pos rfl, Option.bind_some]
        dsimp only
        rw [e1]
        cases ordB ((t.ops.length : Nat) : Int) ((0 : Nat) : Int) t.blocks <;> rfl
    · rw [decide_eq_true (by omega), cond_true, decide_eq_false hl]; rfl
  · have e : ((t.n == 2) || (t.n == 3)) = false := by
      rw [Bool.or_eq_false_iff, beq_eq_false_iff_ne, beq_eq_false_iff_ne]; omega
    rw [e]; rfl
/-! tallies -/
def ix13 (kd : Int) : Nat := if kd < 1 ∨ 12 < kd then 0 else kd.toNat
def cs13 (f : Nat → Nat) : Cells := (List.range 13).map fun i => ci ((f i : Nat) : Int)
def bump (f : Nat → Nat) (j : Nat) : Nat → Nat := fun i => if i = j then f i + 1 else f i
theorem cs13_len (f : Nat → Nat) : (cs13 f).length = 13 := by simp [cs13]
theorem cs13_at (f : Nat → Nat) {j : Nat} (h : j < 13) : (cs13 f)[j]? = some (ci ((f j : Nat) : Int)) := by simp [cs13, h]
theorem cs13_get (f : Nat → Nat) {j : Nat} (h : j < 13) : getI .i64 (cs13 f) j = some ((f j : Nat) : Int) := by unfold getI; rw [cs13_at f h]; rfl
theorem cs13_set (f : Nat → Nat) {j : Nat} (h : j < 13) : (cs13 f).set j (ci ((f j + 1 : Nat) : Int)) = cs13 (bump f j) := by
  apply List.ext_getElem?
  intro i
  rw [List.getElem?_set, cs13_len]
  by_cases hi : i < 13
  · rw [cs13_at _ hi, cs13_at _ hi]
    unfold bump
    by_cases e : j = i
    · subst e; rw [if_pos rfl, if_pos h, if_pos rfl]
    · rw [if_neg e, if_neg (fun e' => e e'.symm)]
  · rw [if_neg (by omega), List.getElem?_eq_none (by rw [cs13_len]; omega), List.getElem?_eq_none (by rw [cs13_len]; omega)]
def talF : List Tapi_Op → (Nat → Nat) → Nat → Nat
  | [], f => f
  | o :: l, f => talF l (bump f (ix13 o.kind))
theorem talF_cnt (j : Nat) (hj : 0 < j ∧ j < 13) : ∀ (l : List Tapi_Op) (f : Nat → Nat), talF l f j = f j + cnt (j : Int) l
  | [], _ => rfl
  | o :: l, f => by
    unfold talF
    rw [talF_cnt j hj l]
    unfold bump cnt ix13
    rw [List.countP_cons]
    by_cases e : o.kind = (j : Int)
    · rw [if_neg (show ¬ (o.kind < 1 ∨ 12 < o.kind) by omega), if_pos (by omega), if_pos (by simp [e])]; omega
    · rw [if_neg (show ¬ j = _ by split <;> omega), if_neg (by simp [e])]; omega
theorem tally_l {t : Tapi_Trace} (hl : t.ops.length < 4611686018427387904) : ∀ (d i k : Nat) (f : Nat → Nat), (∀ j, f j ≤ i) → i + d = t.ops.length → d < k → trace_Tally.l1 t k (cs13 f) (i : Int) = some (cs13 (talF (t.ops.drop i) f))
  | 0, i, k, f, _, hi, hk => by
    obtain ⟨k, rfl⟩ : ∃ j, k = j + 1 := ⟨k - 1, by omega⟩
    unfold trace_Tally.l1
    rw [decide_eq_false (by omega), cond_false, List.drop_of_length_le (by omega)]; rfl
  | d + 1, i, k, f, hf, hi, hk => by
    obtain ⟨k, rfl⟩ : ∃ j, k = j + 1 := ⟨k - 1, by omega⟩
    have hlt : i < t.ops.length := by omega
    have hb : ∀ j q, bump f q j ≤ i + 1 := fun j q => by have := hf j; unfold bump; split <;> omega
    unfold trace_Tally.l1
    rw [decide_eq_true (by omega), cond_true, if_pos (by omega), Int.toNat_natCast, List.getElem?_eq_getElem hlt, Option.bind_some, drop_cons hlt]
    generalize t.ops[i] = o
    unfold trace_Tally.j1 talF ix13
    by_cases h : o.kind < 1 ∨ 12 < o.kind
    · rw [show (decide (o.kind < 1) || decide (o.kind > 12)) = true by rw [Bool.or_eq_true, decide_eq_true_eq, decide_eq_true_eq]; omega, cond_true, cs13_get f (by omega), Option.bind_some, if_pos (by rw [cs13_len]; omega), wrapN (by have := hf 0; omega), cs13_set f (by omega), wrapN (by omega), if_pos h]
      exact tally_l hl d (i + 1) k _ (fun j => hb j 0) (by omega) (by omega)
    · obtain ⟨j, hj⟩ : ∃ j : Nat, o.kind = (j : Int) := ⟨o.kind.toNat, by omega⟩
      have hj13 : 1 ≤ j ∧ j < 13 := by omega
      rw [if_neg h, hj]
      rw [show (decide ((j : Int) < 1) || decide ((j : Int) > 12)) = false by rw [Bool.or_eq_false_iff, decide_eq_false_iff_not, decide_eq_false_iff_not]; omega, cond_false, if_pos (by omega), show (0 + (j : Int).toNat * 1) = j by omega, cs13_get f (by omega), Option.bind_some, if_pos (by omega), if_pos (by rw [cs13_len]; omega), wrapN (by have := hf j; omega), cs13_set f (by omega), wrapN (by omega), Int.toNat_natCast]
      exact tally_l hl d (i + 1) k _ (fun q => hb q j) (by omega) (by omega)
theorem rTally_l {t : Tapi_Trace} (hl : t.ops.length < 4611686018427387904) : ∀ (d i k : Nat) (f : Nat → Nat), (∀ j, f j ≤ i) → i + d = t.ops.length → d < k → visorref18_Tally.l1 t k (cs13 f) (i : Int) = some (cs13 (talF (t.ops.drop i) f))
  | 0, i, k, f, _, hi, hk => by
    obtain ⟨k, rfl⟩ : ∃ j, k = j + 1 := ⟨k - 1, by omega⟩
    unfold visorref18_Tally.l1
    rw [decide_eq_false (by omega), cond_false, List.drop_of_length_le (by omega)]; rfl
  | d + 1, i, k, f, hf, hi, hk => by
    obtain ⟨k, rfl⟩ : ∃ j, k = j + 1 := ⟨k - 1, by omega⟩
    have hlt : i < t.ops.length := by omega
    have hb : ∀ j q, bump f q j ≤ i + 1 := fun j q => by have := hf j; unfold bump; split <;> omega
    have one : ∀ j : Nat, j < 13 → visorref18_Tally.j1 k (visorref18_Tally.l1 t k) (cs13 f) (i : Int) (j : Int) = some (cs13 (talF (t.ops.drop (i + 1)) (bump f j))) := by
      intro j hj
      unfold visorref18_Tally.j1
      rw [if_pos (by omega), show (0 + (j : Int).toNat * 1) = j by omega, cs13_get f hj, Option.bind_some, if_pos (by omega), if_pos (by rw [cs13_len]; omega), wrapN (by have := hf j; omega), cs13_set f hj, wrapN (by omega)]
      exact rTally_l hl d (i + 1) k _ (fun q => hb q j) (by omega) (by omega)
    unfold visorref18_Tally.l1
    rw [decide_eq_true (by omega), cond_true, if_pos (by omega), Int.toNat_natCast, List.getElem?_eq_getElem hlt, Option.bind_some, drop_cons hlt]
    generalize t.ops[i] = o
    unfold talF ix13
    by_cases h : o.kind < 1 ∨ 12 < o.kind
    · rw [show (decide (o.kind < 1) || decide (o.kind > 12)) = true by rw [Bool.or_eq_true, decide_eq_true_eq, decide_eq_true_eq]; omega, cond_true, if_pos h]
      exact one 0 (by omega)
    · obtain ⟨j, hj⟩ : ∃ j : Nat, o.kind = (j : Int) := ⟨o.kind.toNat, by omega⟩
      have hj13 : 1 ≤ j ∧ j < 13 := by omega
      rw [if_neg h, hj]
      rw [show (decide ((j : Int) < 1) || decide ((j : Int) > 12)) = false by rw [Bool.or_eq_false_iff, decide_eq_false_iff_not, decide_eq_false_iff_not]; omega, cond_false, Int.toNat_natCast]
      exact one j (by omega)
def tal (t : Tapi_Trace) : Nat → Nat := talF t.ops fun _ => 0
theorem tal_at (t : Tapi_Trace) (j : Nat) (hj : 0 < j ∧ j < 13) : tal t j = cnt (j : Int) t.ops := by unfold tal; rw [talF_cnt j hj]; omega
theorem cs13_0 : ([ci 0, ci 0, ci 0, ci 0, ci 0, ci 0, ci 0, ci 0, ci 0, ci 0, ci 0, ci 0, ci 0] : Cells) = cs13 fun _ => 0 := rfl
theorem Tally_m {t : Tapi_Trace} (hl : t.ops.length < 4611686018427387904) {k : Nat} (hk : t.ops.length < k) : trace_Tally.m k t = some (cs13 (tal t)) := by
  unfold trace_Tally.m tal
  have e := tally_l hl t.ops.length 0 k (fun _ => 0) (fun _ => Nat.le_refl _) (by omega) hk
  rw [List.drop_zero] at e
  rw [cs13_0, show (0 : Int) = ((0 : Nat) : Int) from rfl, e, Option.bind_some, if_pos (cs13_len _)]
theorem rTally_m {t : Tapi_Trace} (hl : t.ops.length < 4611686018427387904) {k : Nat} (hk : t.ops.length < k) : visorref18_Tally.m k t = some (cs13 (tal t)) := by
  unfold visorref18_Tally.m tal
  have e := rTally_l hl t.ops.length 0 k (fun _ => 0) (fun _ => Nat.le_refl _) (by omega) hk
  rw [List.drop_zero] at e
  rw [cs13_0, show (0 : Int) = ((0 : Nat) : Int) from rfl, e, Option.bind_some, if_pos (cs13_len _)]
theorem Words_m {t : Tapi_Trace} (hl : t.ops.length < 4611686018427387904) {k : Nat} (hk : t.ops.length < k) : trace_Words.m k t = some ((cnt 2 t.ops : Nat) : Int) := by
  unfold trace_Words.m
  rw [Tally_m hl hk, Option.bind_some, if_pos (by omega), cs13_get _ (by omega), Option.bind_some, tal_at t 2 (by omega)]; rfl
theorem Draws_m {t : Tapi_Trace} (hl : t.ops.length < 4611686018427387904) {k : Nat} (hk : t.ops.length < k) : trace_Draws.m k t = some ((cnt 1 t.ops : Nat) : Int) := by
  unfold trace_Draws.m
  rw [Tally_m hl hk, Option.bind_some, if_pos (by omega), cs13_get _ (by omega), Option.bind_some, tal_at t 1 (by omega)]; rfl
/-! runs -/
def outX (K M : List Int) (bl : Bool) (m : Nat) (e : Tapi_Op) : Int := if e.kind = 1 then M.getD m 0 else if e.kind = 2 ∧ bl = false then K.getD e.c.toNat 0 else 0
def newX (K M O : List Int) (bl : Bool) (m o : Nat) (v : List Int) (e : Tapi_Op) : Int := if e.kind = 12 ∧ bl = true then O.getD o 0 else evalI e (atI v e.a) (atI v e.b) (atI v e.d) (outX K M bl m e)
def stM (e : Tapi_Op) (m : Nat) : Nat := if e.kind = 1 then m + 1 else m
def stO (bl : Bool) (e : Tapi_Op) (o : Nat) : Nat := if e.kind = 12 ∧ bl = true then o + 1 else o
def runF (K M O : List Int) (bl : Bool) : Nat → Nat → List Int → List Tapi_Op → List Int
  | _, _, v, [] => v
  | m, o, v, e :: l => runF K M O bl (stM e m) (stO bl e o) (v ++ [newX K M O bl m o v e]) l
theorem runF_len (K M O : List Int) (bl : Bool) : ∀ (l : List Tapi_Op) (m o : Nat) (v : List Int), (runF K M O bl m o v l).length = v.length + l.length
  | [], _, _, _ => rfl
  | e :: l, m, o, v => by unfold runF; rw [runF_len K M O bl l, List.length_append, List.length_cons, List.length_cons, List.length_nil]; omega
def runOk (n : Int) (K M O : List Int) (bl : Bool) : Nat → Nat → Nat → List Tapi_Op → Prop
  | _, _, _, [] => True
  | i, m, o, e :: l => Rt e (i : Int) n = true ∧ IsW e.c ∧ (e.kind = 1 → m < M.length) ∧ (e.kind = 2 → bl = false → e.c.toNat < K.length) ∧ (e.kind = 12 → bl = true → o < O.length) ∧ runOk n K M O bl (i + 1) (stM e m) (stO bl e o) l
theorem cnt_cons (kd : Int) (o : Tapi_Op) (l : List Tapi_Op) : cnt kd (o :: l) = cnt kd l + (if o.kind = kd then 1 else 0) := by
  unfold cnt
  rw [List.countP_cons]
  by_cases h : o.kind = kd <;> simp [h]
theorem runOk_of {n : Int} {K M O : List Int} {bl : Bool} : ∀ (l : List Tapi_Op) (i w m o : Nat), opsB n i w l = true → (∀ e ∈ l, IsW e.c) → m + cnt 1 l ≤ M.length → (bl = false → w + cnt 2 l ≤ K.length) → (bl = true → o + cnt 12 l ≤ O.length) → runOk n K M O bl i m o l
  | [], _, _, _, _, _, _, _, _, _ => trivial
  | e :: l, i, w, m, o, h, hc, hm, hk, ho => by
    unfold opsB at h
    rw [Bool.and_eq_true, Bool.and_eq_true] at h
    obtain ⟨h1, h2, h3⟩ := h
    rw [cnt_cons] at hm hk ho
    refine ⟨h1, hc e (List.mem_cons_self ..), fun k1 => ?_, fun k2 hb => ?_, fun k3 hb => ?_, runOk_of l (i + 1) _ _ _ h3 (fun x hx => hc x (List.mem_cons_of_mem _ hx)) ?_ ?_ ?_⟩
    · rw [if_pos k1] at hm; omega
    · have := hk hb
      rw [if_pos k2] at this
      rw [Bool.or_eq_true, bne_iff_ne, beq_iff_eq] at h2
      have : e.c = (w : Int) := h2.resolve_left (fun h => h k2)
      rw [this, Int.toNat_natCast]; omega
    · have := ho hb
      rw [if_pos k3] at this; omega
    · unfold stM
      by_cases k1 : e.kind = 1
      · rw [if_pos k1] at hm ⊢; omega
      · rw [if_neg k1] at hm ⊢; omega
    · intro hb
      have := hk hb
      by_cases k2 : e.kind = 2
      · rw [if_pos k2] at this ⊢; omega
      · rw [if_neg k2] at this ⊢; omega
    · intro hb
      have := ho hb
      unfold stO
      by_cases k3 : e.kind = 12
      · rw [if_pos k3] at this; rw [if_pos ⟨k3, hb⟩]; omega
      · rw [if_neg k3] at this; rw [if_neg (fun h => k3 h.1)]; omega
theorem at_step {β : Type} {v : List Int} {r : Int} (h : r < 0 ∨ r < (v.length : Int)) (F : Int → Option β) : (bif decide (r < 0) then F 0 else (if 0 ≤ r then (v[r.toNat]?).bind F else none)) = F (atI v r) := by
  by_cases h0 : r < 0
  · rw [decide_eq_true h0, cond_true, atI_neg h0]
  · have hlt : r.toNat < v.length := by omega
    rw [decide_eq_false h0, cond_false, if_pos (by omega), List.getElem?_eq_getElem hlt, Option.bind_some]
    unfold atI
    rw [if_pos (by omega), List.getD_eq_getElem?_getD, List.getElem?_eq_getElem hlt]; rfl
theorem getD_w {l : List Int} (h : ∀ x ∈ l, IsW x) (i : Nat) : IsW (l.getD i 0) := by
  rw [List.getD_eq_getElem?_getD]
  by_cases hi : i < l.length
  · rw [List.getElem?_eq_getElem hi]; exact h _ (List.getElem_mem hi)
  · rw [List.getElem?_eq_none (by omega)]; exact isW_zero
theorem outX_w {K M : List Int} (hK : ∀ x ∈ K, IsW x) (hM : ∀ x ∈ M, IsW x) (bl : Bool) (m : Nat) (e : Tapi_Op) : IsW (outX K M bl m e) := by
  unfold outX
  repeat' split
  · exact getD_w hM _
  · exact getD_w hK _
  · exact isW_zero
theorem newX_w {K M O : List Int} (hO : ∀ x ∈ O, IsW x) (bl : Bool) (m o : Nat) (v : List Int) (e : Tapi_Op) : IsW (newX K M O bl m o v e) := by
  unfold newX
  split
  · exact getD_w hO _
  · exact evalI_w _ _ _ _ _
theorem snoc_w {v : List Int} {x : Int} (hv : ∀ x ∈ v, IsW x) (hx : IsW x) : ∀ y ∈ v ++ [x], IsW y := fun y hy => by
  rcases List.mem_append.1 hy with h | h
  · exact hv y h
  · rw [List.mem_singleton.1 h]; exact hx
theorem drop_at0 {l : List Int} {m : Nat} (h : m < l.length) : (l.drop m)[0]? = some (l.getD m 0) := by
  rw [List.getElem?_drop, List.getD_eq_getElem?_getD, Nat.add_zero, List.getElem?_eq_getElem h]; rfl
theorem cut1 (l : List Int) (m : Nat) : cut (l.drop m) 1 (l.drop m).length = l.drop (m + 1) := by
  unfold cut
  rw [List.take_length, List.drop_drop]
theorem get_getD {l : List Int} {m : Nat} (h : m < l.length) : l[m]? = some (l.getD m 0) := by
  rw [List.getD_eq_getElem?_getD, List.getElem?_eq_getElem h]; rfl
/-! The program's runs, and the document's. -/
section
variable {n : Int} {K M O : List Int} {bl : Bool}
theorem all_l {t : Tapi_Trace} (hK : ∀ x ∈ K, IsW x) (hM : ∀ x ∈ M, IsW x) (hO : ∀ x ∈ O, IsW x) (hl : t.ops.length ≤ 1048576) (M0 O0 : List Int) : ∀ (d i k m o : Nat) (v : List Int), i + d = t.ops.length → d < k → v.length = i → (∀ x ∈ v, IsW x) → runOk n K M O bl i m o (t.ops.drop i) →
    ∃ P Q, replay_all.l1 t ⟨K, M0, O0, bl⟩ k (M.drop m) (O.drop o) v (i : Int) v = some (runF K M O bl m o v (t.ops.drop i), P, Q)
  | 0, i, k, m, o, v, hi, hk, hv, _, _ => by
    obtain ⟨k, rfl⟩ : ∃ j, k = j + 1 := ⟨k - 1, by omega⟩
    unfold replay_all.l1
    rw [decide_eq_false (by omega), cond_false, List.drop_of_length_le (l := t.ops) (by omega)]
    exact ⟨_, _, rfl⟩
  | d + 1, i, k, m, o, v, hi, hk, hv, hvw, hr => by
    obtain ⟨k, rfl⟩ : ∃ j, k = j + 1 := ⟨k - 1, by omega⟩
    have hlt : i < t.ops.length := by omega
    rw [drop_cons hlt] at hr
    obtain ⟨r1, r2, r3, r4, r5, r6⟩ := hr
    have ih := all_l hK hM hO hl M0 O0 d (i + 1) k (stM t.ops[i] m) (stO bl t.ops[i] o) (v ++ [newX K M O bl m o v t.ops[i]]) (by omega) (by omega) (by simp [hv]) (snoc_w hvw (newX_w hO ..)) r6
    obtain ⟨P, Q, ih⟩ := ih
    refine ⟨P, Q, ?_⟩
    have hg := Rt_regs r1 (by omega)
    rw [drop_cons hlt]
    unfold replay_all.l1
    rw [decide_eq_true (by omega), cond_true, if_pos (by omega), Int.toNat_natCast, List.getElem?_eq_getElem hlt, Option.bind_some]
    unfold runF
    rw [← ih]
    generalize t.ops[i] = e at *
    have hb : (v.length + 1) * 8 ≤ 140737488355328 := by omega
    have j3 : ∀ (p q : List Int) (x : Int), replay_all.j3 k (replay_all.l1 t ⟨K, M0, O0, bl⟩ k) v (i : Int) v p q x = replay_all.l1 t ⟨K, M0, O0, bl⟩ k p q (v ++ [x]) ((i + 1 : Nat) : Int) (v ++ [x]) := by
      intro p q x
      unfold replay_all.j3
      rw [if_pos (by simpa using hb), if_pos (by simpa using hb), wrapN (by omega)]
    have hx := outX_w hK hM bl m e
    have j2 : ∀ p : List Int, replay_all.j2 k (replay_all.l1 t ⟨K, M0, O0, bl⟩ k) ⟨K, M0, O0, bl⟩ (O.drop o) v (i : Int) v e (atI v e.a) (atI v e.b) (atI v e.d) (outX K M bl m e) p = replay_all.l1 t ⟨K, M0, O0, bl⟩ k p (O.drop (stO bl e o)) (v ++ [newX K M O bl m o v e]) ((i + 1 : Nat) : Int) (v ++ [newX K M O bl m o v e]) := by
      intro p
      unfold replay_all.j2
      rw [op_Eval_m k e _ _ _ _ r2 (atI_w hvw _) (atI_w hvw _) (atI_w hvw _) hx, Option.bind_some]
      by_cases c : e.kind = 12 ∧ bl = true
      · have ho := r5 c.1 c.2
        rw [show ((e.kind == 12) && bl) = true by rw [c.2, Bool.and_true, beq_iff_eq]; exact c.1, cond_true, if_pos (by omega), drop_at0 ho, Option.bind_some, if_pos (by rw [List.length_drop]; omega), cut1, j3]
        unfold stO newX
        rw [if_pos c, if_pos c]
      · rw [show ((e.kind == 12) && bl) = false by
          rw [Bool.and_eq_false_iff, beq_eq_false_iff_ne]
          by_cases h : e.kind = 12
          · exact .inr (by cases bl <;> simp_all)
          · exact .inl h, cond_false, j3]
        unfold stO newX
        rw [if_neg c, if_neg c]
    rw [at_step (by omega) (fun x => replay_all.j1 k (replay_all.l1 t ⟨K, M0, O0, bl⟩ k) ⟨K, M0, O0, bl⟩ (M.drop m) (O.drop o) v (i : Int) v e x)]
    unfold replay_all.j1
    rw [at_step (by omega) (fun x => replay_all.j1_2 k (replay_all.l1 t ⟨K, M0, O0, bl⟩ k) ⟨K, M0, O0, bl⟩ (M.drop m) (O.drop o) v (i : Int) v e (atI v e.a) x)]
    unfold replay_all.j1_2
    rw [at_step (by omega) (fun x => replay_all.j1_3 k (replay_all.l1 t ⟨K, M0, O0, bl⟩ k) ⟨K, M0, O0, bl⟩ (M.drop m) (O.drop o) v (i : Int) v e (atI v e.a) (atI v e.b) x)]
    unfold replay_all.j1_3
    by_cases k1 : e.kind = 1
    · have hm := r3 k1
      rw [show (e.kind == 1) = true by simp [k1], cond_true, if_pos (by omega), drop_at0 hm, Option.bind_some, if_pos (by rw [List.length_drop]; omega), cut1]
      have e1 : M.getD m 0 = outX K M bl m e := by unfold outX; rw [if_pos k1]
      rw [e1, j2]
      unfold stM
      rw [if_pos k1]
    · rw [beqF k1, cond_false]
      have hs : stM e m = m := if_neg k1
      rw [hs]
      by_cases c : e.kind = 2 ∧ bl = false
      · have hk := r4 c.1 c.2
        rw [show ((e.kind == 2) && !bl) = true by rw [c.2]; simp [c.1], cond_true, if_pos r2.1, get_getD hk, Option.bind_some]
        have e1 : K.getD e.c.toNat 0 = outX K M bl m e := by unfold outX; rw [if_neg k1, if_pos c]
        rw [e1, j2]
      · rw [show ((e.kind == 2) && !bl) = false by
          rw [Bool.and_eq_false_iff, beq_eq_false_iff_ne]
          by_cases h : e.kind = 2
          · exact .inr (by cases bl <;> simp_all)
          · exact .inl h, cond_false]
        have e1 : 0 = outX K M bl m e := by unfold outX; rw [if_neg k1, if_neg c]
        rw [e1, j2]
theorem all_m {t : Tapi_Trace} (hK : ∀ x ∈ K, IsW x) (hM : ∀ x ∈ M, IsW x) (hO : ∀ x ∈ O, IsW x) (hl : t.ops.length ≤ 1048576) (hr : runOk n K M O bl 0 0 0 t.ops) {k : Nat} (hk : t.ops.length < k) : replay_all.m k t ⟨K, M, O, bl⟩ = some (runF K M O bl 0 0 [] t.ops) := by
  unfold replay_all.m
  obtain ⟨P, Q, e⟩ := all_l (n := n) hK hM hO hl M O t.ops.length 0 k 0 0 [] (by omega) hk rfl (fun _ h => by cases h) (by rw [List.drop_zero]; exact hr)
  rw [List.drop_zero, List.drop_zero, List.drop_zero] at e
  rw [if_pos (by omega), if_pos (by omega)]
  show (replay_all.l1 t ⟨K, M, O, bl⟩ k M O [] ((0 : Nat) : Int) []).bind _ = _
  rw [e]; rfl
theorem Word_m (k : Nat) (v : List Int) (r : Int) : visorref29_Word.m k v r = some (atI v r) := by
  unfold visorref29_Word.m
  by_cases h0 : r < 0
  · rw [decide_eq_true h0, Bool.true_or, cond_true, atI_neg h0]
  · by_cases h1 : r < (v.length : Int)
    · have hlt : r.toNat < v.length := by omega
      rw [decide_eq_false h0, Bool.false_or, decide_eq_false (by omega), cond_false, if_pos (by omega), List.getElem?_eq_getElem hlt, Option.bind_some]
      unfold atI
      rw [if_pos (by omega), List.getD_eq_getElem?_getD, List.getElem?_eq_getElem hlt]; rfl
    · rw [decide_eq_false h0, Bool.false_or, decide_eq_true (by omega), cond_true]
      unfold atI
      rw [if_neg (by omega)]
theorem set_mid (v : List Int) (x y : Int) (l : List Int) : (v ++ y :: l).set v.length x = v ++ x :: l := by
  rw [List.set_append_right _ _ (Nat.le_refl _), Nat.sub_self]; rfl
theorem get_mid (v : List Int) (y : Int) (l : List Int) : (v ++ y :: l)[v.length]? = some y := by
  rw [List.getElem?_append_right (Nat.le_refl _), Nat.sub_self]; rfl
theorem play_l {t : Tapi_Trace} (hK : ∀ x ∈ K, IsW x) (hM : ∀ x ∈ M, IsW x) (hO : ∀ x ∈ O, IsW x) (hl : t.ops.length ≤ 1048576) : ∀ (d i k m o : Nat) (v : List Int), i + d = t.ops.length → d + 65 < k → v.length = i → m ≤ i → o ≤ i → (∀ x ∈ v, IsW x) → runOk n K M O bl i m o (t.ops.drop i) →
    visorref29_Play.l1 t K O M bl k (v ++ List.replicate d 0) (m : Int) (o : Int) (i : Int) = some (runF K M O bl m o v (t.ops.drop i))
  | 0, i, k, m, o, v, hi, hk, hv, _, _, _, _ => by
    obtain ⟨k, rfl⟩ : ∃ j, k = j + 1 := ⟨k - 1, by omega⟩
    unfold visorref29_Play.l1
    rw [decide_eq_false (by omega), cond_false, List.drop_of_length_le (by omega), List.replicate_zero, List.append_nil]; rfl
  | d + 1, i, k, m, o, v, hi, hk, hv, hm0, ho0, hvw, hr => by
    obtain ⟨k, rfl⟩ : ∃ j, k = j + 1 := ⟨k - 1, by omega⟩
    have hlt : i < t.ops.length := by omega
    rw [drop_cons hlt] at hr
    obtain ⟨r1, r2, r3, r4, r5, r6⟩ := hr
    have ih := play_l hK hM hO hl d (i + 1) k (stM t.ops[i] m) (stO bl t.ops[i] o) (v ++ [newX K M O bl m o v t.ops[i]]) (by omega) (by omega) (by simp [hv]) (by unfold stM; split <;> omega) (by unfold stO; split <;> omega) (snoc_w hvw (newX_w hO ..)) r6
    have hg := Rt_regs r1 (by omega)
    rw [drop_cons hlt]
    unfold visorref29_Play.l1
    rw [decide_eq_true (by omega), cond_true, if_pos (by omega), Int.toNat_natCast, List.getElem?_eq_getElem hlt, Option.bind_some]
    unfold runF
    rw [← ih]
    generalize t.ops[i] = e at *
    have hx := outX_w hK hM bl m e
    obtain ⟨R, hR⟩ : ∃ R, R = visorref29_Play.l1 t K O M bl k := ⟨_, rfl⟩
    rw [← hR]
    have j2 : ∀ p : Nat, visorref29_Play.j2 k R O bl (v ++ List.replicate (d + 1) 0) (o : Int) (i : Int) e (p : Int) (outX K M bl m e) = R (v ++ [newX K M O bl m o v e] ++ List.replicate d 0) (p : Int) ((stO bl e o : Nat) : Int) ((i + 1 : Nat) : Int) := by
      intro p
      unfold visorref29_Play.j2
      rw [Word_m, Option.bind_some, Word_m, Option.bind_some, Word_m, Option.bind_some, atI_append (by omega), atI_append (by omega), atI_append (by omega), ref_Eval_m k (by omega) e _ _ _ _ r2 (atI_w hvw _) (atI_w hvw _) (atI_w hvw _) hx, Option.bind_some, if_pos (by omega), Int.toNat_natCast, List.replicate_succ, ← hv, get_mid, Option.bind_some, set_mid]
      unfold visorref29_Play.j3
      by_cases c : e.kind = 12 ∧ bl = true
      · have ho := r5 c.1 c.2
        rw [show ((e.kind == 12) && bl) = true by rw [c.2, Bool.and_true, beq_iff_eq]; exact c.1, cond_true, if_pos (by omega), Int.toNat_natCast, get_getD ho, Option.bind_some, if_pos (by omega), get_mid, Option.bind_some, set_mid, wrapN (by omega), wrapN (by omega)]
        unfold stO newX
        rw [if_pos c, if_pos c, List.append_assoc]; rfl
      · rw [show ((e.kind == 12) && bl) = false by
          rw [Bool.and_eq_false_iff, beq_eq_false_iff_ne]
          by_cases h : e.kind = 12
          · exact .inr (by cases bl <;> simp_all)
          · exact .inl h, cond_false, wrapN (by omega)]
        unfold stO newX
        rw [if_neg c, if_neg c, List.append_assoc]; rfl
    have j1 : ∀ p : Nat, ∀ x : Int, (¬ (e.kind = 2 ∧ bl = false) → x = outX K M bl m e) → visorref29_Play.j1 k R K O bl (v ++ List.replicate (d + 1) 0) (o : Int) (i : Int) e (p : Int) x = R (v ++ [newX K M O bl m o v e] ++ List.replicate d 0) (p : Int) ((stO bl e o : Nat) : Int) ((i + 1 : Nat) : Int) := by
      intro p x hx
      unfold visorref29_Play.j1
      by_cases c : e.kind = 2 ∧ bl = false
      · have hk := r4 c.1 c.2
        have e1 : K.getD e.c.toNat 0 = outX K M bl m e := by unfold outX; rw [if_neg (by omega), if_pos c]
        rw [show ((e.kind == 2) && !bl) = true by rw [c.2]; simp [c.1], cond_true, if_pos r2.1, get_getD hk, Option.bind_some, e1, j2]
      · rw [show ((e.kind == 2) && !bl) = false by
          rw [Bool.and_eq_false_iff, beq_eq_false_iff_ne]
          by_cases h : e.kind = 2
          · exact .inr (by cases bl <;> simp_all)
          · exact .inl h, cond_false, hx c, j2]
    by_cases k1 : e.kind = 1
    · have hm := r3 k1
      have e1 : M.getD m 0 = outX K M bl m e := by unfold outX; rw [if_pos k1]
      rw [show (e.kind == 1) = true by simp [k1], cond_true, if_pos (by omega), Int.toNat_natCast, get_getD hm, Option.bind_some, e1, wrapN (by omega), j1 (m + 1) _ (fun _ => rfl)]
      unfold stM
      rw [if_pos k1]
    · have hs : stM e m = m := if_neg k1
      rw [beqF k1, cond_false, j1 m 0 (fun c => by unfold outX; rw [if_neg k1, if_neg c]), hs]
theorem play_m {t : Tapi_Trace} (hK : ∀ x ∈ K, IsW x) (hM : ∀ x ∈ M, IsW x) (hO : ∀ x ∈ O, IsW x) (hl : t.ops.length ≤ 1048576) (hr : runOk n K M O bl 0 0 0 t.ops) {k : Nat} (hk : t.ops.length + 65 < k) : visorref29_Play.m k t K O M bl = some (runF K M O bl 0 0 [] t.ops) := by
  unfold visorref29_Play.m
  have e := play_l (n := n) hK hM hO hl t.ops.length 0 k 0 0 [] (by omega) (by omega) rfl (by omega) (by omega) (fun _ h => by cases h) (by rw [List.drop_zero]; exact hr)
  rw [List.drop_zero, List.nil_append] at e
  rw [if_pos (by omega), Int.toNat_natCast]
  show (visorref29_Play.l1 t K O M bl k (List.replicate t.ops.length 0) ((0 : Nat) : Int) ((0 : Nat) : Int) ((0 : Nat) : Int)).bind _ = _
  rw [e]; rfl
end
theorem same29_l (a : List Int) (hl : a.length < 4611686018427387904) : ∀ (d i k : Nat), i + d = a.length → d < k → visorref29_Same.l1 a a k (i : Int) = some (.inr ())
  | 0, i, k, hi, hk => by
    obtain ⟨k, rfl⟩ : ∃ j, k = j + 1 := ⟨k - 1, by omega⟩
    unfold visorref29_Same.l1
    rw [decide_eq_false (by omega), cond_false]
  | d + 1, i, k, hi, hk => by
    obtain ⟨k, rfl⟩ : ∃ j, k = j + 1 := ⟨k - 1, by omega⟩
    have hlt : i < a.length := by omega
    unfold visorref29_Same.l1
    rw [decide_eq_true (by omega), cond_true, if_pos (by omega), Int.toNat_natCast, List.getElem?_eq_getElem hlt, Option.bind_some, if_pos (by omega), Option.bind_some, bne_self_eq_false, cond_false, wrapN (by omega)]
    exact same29_l a hl d (i + 1) k (by omega) (by omega)
theorem same29 (a : List Int) (hl : a.length < 4611686018427387904) {k : Nat} (hk : a.length < k) : visorref29_Same.m k a a = some true := by
  unfold visorref29_Same.m
  have e := same29_l a hl a.length 0 k (by omega) hk
  rw [show (0 : Int) = ((0 : Nat) : Int) from rfl, bne_self_eq_false, cond_false, e]; rfl
/-! runs of what is joined -/
theorem runF_cons (K M O : List Int) (bl : Bool) (m o : Nat) (v : List Int) (e : Tapi_Op) (l : List Tapi_Op) : runF K M O bl m o v (e :: l) = runF K M O bl (stM e m) (stO bl e o) (v ++ [newX K M O bl m o v e]) l := rfl
theorem taps_l (v a : List Int) (hl : a.length * 8 ≤ 140737488355328) : ∀ (d i k : Nat) (acc : List Int), i + d = a.length → d < k → acc.length ≤ i → replay_Taps.l1 v a k acc (i : Int) = some (acc ++ (a.drop i).map (atI v))
  | 0, i, k, acc, hi, hk, _ => by
    obtain ⟨k, rfl⟩ : ∃ j, k = j + 1 := ⟨k - 1, by omega⟩
    unfold replay_Taps.l1
    rw [decide_eq_false (by omega), cond_false, List.drop_of_length_le (by omega), List.map_nil, List.append_nil]
  | d + 1, i, k, acc, hi, hk, ha => by
    obtain ⟨k, rfl⟩ : ∃ j, k = j + 1 := ⟨k - 1, by omega⟩
    have hlt : i < a.length := by omega
    have j1 : ∀ x : Int, replay_Taps.j1 k (replay_Taps.l1 v a k) acc (i : Int) x = some ((acc ++ [x]) ++ (a.drop (i + 1)).map (atI v)) := by
      intro x
      unfold replay_Taps.j1
      rw [if_pos (by simp only [List.length_cons, List.length_nil]; omega), wrapN (by omega)]
      exact taps_l v a hl d (i + 1) k _ (by omega) (by omega) (by simp; omega)
    unfold replay_Taps.l1
    rw [decide_eq_true (by omega), cond_true, if_pos (by omega), Int.toNat_natCast, List.getElem?_eq_getElem hlt, Option.bind_some, drop_cons hlt, List.map_cons]
    generalize a[i] = r
    have fin : (acc ++ [atI v r]) ++ (a.drop (i + 1)).map (atI v) = acc ++ atI v r :: (a.drop (i + 1)).map (atI v) := by simp
    by_cases h : 0 ≤ r ∧ r < (v.length : Int)
    · have hlt2 : r.toNat < v.length := by omega
      have e : atI v r = v[r.toNat] := by
        unfold atI
        rw [if_pos h, List.getD_eq_getElem?_getD, List.getElem?_eq_getElem hlt2]; rfl
      rw [show (decide (r ≥ 0) && decide (r < ((v.length : Nat) : Int))) = true by rw [Bool.and_eq_true, decide_eq_true_eq, decide_eq_true_eq]; exact h, cond_true, if_pos h.1, List.getElem?_eq_getElem hlt2, Option.bind_some, j1, ← e, fin]
    · have e : atI v r = 0 := by unfold atI; rw [if_neg h]
      rw [show (decide (r ≥ 0) && decide (r < ((v.length : Nat) : Int))) = false by rw [Bool.and_eq_false_iff, decide_eq_false_iff_not, decide_eq_false_iff_not]; omega, cond_false, j1, ← e, fin]
theorem Taps_m (v a : List Int) (hl : a.length * 8 ≤ 140737488355328) {k : Nat} (hk : a.length < k) : replay_Taps.m k v a = some (a.map (atI v)) := by
  unfold replay_Taps.m
  have e := taps_l v a hl a.length 0 k [] (by omega) hk (Nat.le_refl _)
  rw [List.drop_zero] at e
  show (replay_Taps.l1 v a k [] ((0 : Nat) : Int)).bind _ = _
  rw [e]; rfl
/-! Run, Blind and Check as functions. -/
theorem opsOk (t : Tapi_Trace) : trB t = true → (t.n = 2 ∨ t.n = 3) ∧ t.ops.length ≤ 1048576 ∧ opsB t.n 0 0 t.ops = true := by
  intro h
  unfold trB at h
  simp only [Bool.and_eq_true, Bool.or_eq_true, beq_iff_eq, decide_eq_true_eq] at h
  exact ⟨h.1.1, h.1.2, h.2.2⟩
def eL (K M : List Int) (t : Tapi_Trace) : Int := if trB t = true then (if K.length = cnt 2 t.ops ∧ M.length = cnt 1 t.ops then 0 else 5) else 4
theorem eL_0 {K M : List Int} {t : Tapi_Trace} (h : trB t = true) (h1 : K.length = cnt 2 t.ops) (h2 : M.length = cnt 1 t.ops) : eL K M t = 0 := by unfold eL; rw [if_pos h, if_pos ⟨h1, h2⟩]
theorem eL_5 {K M : List Int} {t : Tapi_Trace} (h : trB t = true) (h1 : ¬ (K.length = cnt 2 t.ops ∧ M.length = cnt 1 t.ops)) : eL K M t = 5 := by unfold eL; rw [if_pos h, if_neg h1]
theorem eL_4 {K M : List Int} {t : Tapi_Trace} (h : ¬ trB t = true) : eL K M t = 4 := by unfold eL; rw [if_neg h]
theorem Run_m {t : Tapi_Trace} {K M : List Int} (hb : t.blocks.length < 4611686018427387904) (hl : t.ops.length * 8 ≤ 140737488355328) (hc : ∀ e ∈ t.ops, IsW e.c) (hK : ∀ x ∈ K, IsW x) (hM : ∀ x ∈ M, IsW x) {k : Nat} (hk : t.ops.length + t.blocks.length + 70 ≤ k) : replay_Run.m k t K M = some (if eL K M t = 0 then runF K M [] false 0 0 [] t.ops else [], eL K M t) := by
  unfold replay_Run.m
  rw [Check_m hb (by omega), Option.bind_some]
  by_cases h : trB t = true
  · obtain ⟨hn, hlen, ho⟩ := opsOk t h
    rw [if_pos h, show ((0 : Int) != 0) = false from rfl, cond_false, Words_m (by omega) (by omega), Option.bind_some]
    unfold replay_Run.j1
    by_cases h1 : K.length = cnt 2 t.ops
    · rw [show (((K.length : Nat) : Int) != ((cnt 2 t.ops : Nat) : Int)) = false by rw [bne_eq_false_iff_eq]; omega, cond_false, Draws_m (by omega) (by omega), Option.bind_some]
      by_cases h2 : M.length = cnt 1 t.ops
      · rw [show (((M.length : Nat) : Int) != ((cnt 1 t.ops : Nat) : Int)) = false by rw [bne_eq_false_iff_eq]; omega, cond_false, eL_0 h h1 h2, if_pos rfl,
          all_m (n := t.n) hK hM (fun _ h => by cases h) hlen (runOk_of _ 0 0 0 0 ho hc (by omega) (fun _ => by omega) (fun h => by cases h)) (by omega), Option.bind_some]
      · rw [show (((M.length : Nat) : Int) != ((cnt 1 t.ops : Nat) : Int)) = true by rw [bne_iff_ne]; omega, cond_true, eL_5 h (fun h => h2 h.2), if_neg (by omega)]
    · rw [show (((K.length : Nat) : Int) != ((cnt 2 t.ops : Nat) : Int)) = true by rw [bne_iff_ne]; omega, cond_true, cond_true, eL_5 h (fun h => h1 h.1), if_neg (by omega)]
  · rw [if_neg h, eL_4 h, show ((4 : Int) != 0) = true from rfl, cond_true, if_neg (by omega)]
/-! Counting over small tapes. -/
def bitT (K i : Nat) : Int := ((K / 2 ^ i % 2 : Nat) : Int)
def tapeF (K n : Nat) : List Int := tab n (bitT K)
theorem bitT_w (K i : Nat) : IsW (bitT K i) := ⟨by unfold bitT; omega, by unfold bitT; omega⟩
theorem tapeF_w (K n : Nat) : ∀ x ∈ tapeF K n, IsW x := fun x h => by
  obtain ⟨i, _, rfl⟩ := List.mem_map.1 h
  exact bitT_w K i
theorem shr_nat' {k : IntKind} (e q : Nat) (h : q ≤ k.bits) : shr k (e : Int) (q : Int) = ((e / 2 ^ q : Nat) : Int) := by
  unfold shr
  rw [show min ((q : Int)).toNat k.bits = q by rw [Int.toNat_natCast]; omega]
  have : ((2 : Int) ^ q) = ((2 ^ q : Nat) : Int) := by simp
  rw [this, Int.fdiv_eq_ediv_of_nonneg _ (Int.natCast_nonneg _)]; rfl
theorem band1_i64 (x : Nat) (h : x < 9223372036854775808) : band .i64 (x : Int) 1 = ((x % 2 : Nat) : Int) := by
  have e : band .i64 (x : Int) 1 = IntKind.i64.wrap ((BitVec.ofInt 64 (x : Int) &&& BitVec.ofInt 64 1).toNat : Int) := rfl
  rw [e, BitVec.ofInt_natCast, BitVec.toNat_and, BitVec.toNat_ofNat, Nat.mod_eq_of_lt (by omega), show (BitVec.ofInt 64 1).toNat = 2 ^ 1 - 1 from rfl, Nat.and_two_pow_sub_one_eq_mod, wrap_i64_of (by omega) (by omega)]
theorem band1_w (x : Nat) (h : x < 18446744073709551616) : band .u64 (x : Int) 1 = ((x % 2 : Nat) : Int) := by
  have e : band .u64 (x : Int) 1 = IntKind.u64.wrap ((BitVec.ofInt 64 (x : Int) &&& BitVec.ofInt 64 1).toNat : Int) := rfl
  rw [e, BitVec.ofInt_natCast, BitVec.toNat_and, BitVec.toNat_ofNat, Nat.mod_eq_of_lt (by omega), show (BitVec.ofInt 64 1).toNat = 2 ^ 1 - 1 from rfl, Nat.and_two_pow_sub_one_eq_mod, wrap_u64_of (by omega) (by omega)]
theorem bit_wrap (x : Nat) : IntKind.u64.wrap ((x % 2 : Nat) : Int) = ((x % 2 : Nat) : Int) := wrap_u64_of (by omega) (by omega)
theorem tape_l {K n : Nat} (hK : K < 9223372036854775808) (hn : n ≤ 62) : ∀ (d i k : Nat), i + d = n → d < k → count_Tape.l1 (K : Int) (n : Int) k (tab n fun t => if t < i then bitT K t else 0) (i : Int) = some (tapeF K n)
  | 0, i, k, hi, hk => by
    obtain ⟨k, rfl⟩ : ∃ j, k = j + 1 := ⟨k - 1, by omega⟩
    unfold count_Tape.l1
    rw [Int.toNat_natCast, List.length_replicate, decide_eq_false (by omega), cond_false]
    exact congrArg some (tab_congr fun t ht => if_pos (by omega))
  | d + 1, i, k, hi, hk => by
    obtain ⟨k, rfl⟩ : ∃ j, k = j + 1 := ⟨k - 1, by omega⟩
    have hp : (0 : Int) ≤ (i : Int) := by omega
    have hd : K / 2 ^ i ≤ K := Nat.div_le_self _ _
    unfold count_Tape.l1
    rw [Int.toNat_natCast, List.length_replicate, decide_eq_true (by omega), cond_true, if_pos hp, if_pos hp, Int.toNat_natCast, tab_get _ (by omega), Option.bind_some, shr_nat' _ _ (by show i ≤ 64; omega), band1_i64 _ (by omega), bit_wrap, tab_set, wrapN (by omega), ← tape_l hK hn d (i + 1) k (by omega) (by omega)]
    congr 1
    exact tab_congr fun t ht => by
      by_cases e : t = i
      · subst e; rw [if_pos rfl, if_pos (by omega)]; rfl
      · rw [if_neg e]
        by_cases l : t < i
        · rw [if_pos l, if_pos (by omega)]
        · rw [if_neg l, if_neg (by omega)]
theorem Tape_m {K n : Nat} (hK : K < 9223372036854775808) (hn : n ≤ 62) {k : Nat} (hk : n < k) : count_Tape.m k (K : Int) (n : Int) = some (tapeF K n) := by
  unfold count_Tape.m
  rw [decide_eq_false (show ¬ ((K : Int) < 0) by omega), decide_eq_false (show ¬ ((n : Int) < 0) by omega), decide_eq_false (show ¬ ((n : Int) > 62) by omega), Bool.or_false, Bool.or_false, cond_false, if_pos (by omega), Int.toNat_natCast]
  have e := tape_l hK hn n 0 k (by omega) hk
  have e0 : (tab n fun t => if t < 0 then bitT K t else 0) = List.replicate n 0 := by
    rw [tab_zero]; exact tab_congr fun t _ => if_neg (by omega)
  rw [e0] at e
  rw [show (count_Tape.l1 (K : Int) (n : Int) k (List.replicate n 0) 0) = some (tapeF K n) from e]; rfl
theorem wrapZ {z : Nat} (h : z < 9223372036854775808) : IntKind.i64.wrap (z : Int) = (z : Int) := wrapS (by omega) (by omega)
theorem rtape_l {K n : Nat} (hK : K < 9223372036854775808) (hn : n ≤ 62) : ∀ (d i k : Nat), i + d = n → d < k → visorref31_Tape.l1 (n : Int) k ((K / 2 ^ i : Nat) : Int) (tab i (bitT K)) (i : Int) = some (tapeF K n)
  | 0, i, k, hi, hk => by
    obtain ⟨k, rfl⟩ : ∃ j, k = j + 1 := ⟨k - 1, by omega⟩
    unfold visorref31_Tape.l1
    rw [decide_eq_false (by omega), cond_false, show i = n by omega]; rfl
  | d + 1, i, k, hi, hk => by
    obtain ⟨k, rfl⟩ : ∃ j, k = j + 1 := ⟨k - 1, by omega⟩
    have hd : K / 2 ^ i / 2 < 9223372036854775808 := Nat.lt_of_le_of_lt (Nat.le_trans (Nat.div_le_self _ _) (Nat.div_le_self _ _)) hK
    unfold visorref31_Tape.l1
    rw [decide_eq_true (by omega), cond_true, if_pos (by rw [tab_len]; simp only [List.length_cons, List.length_nil]; omega),
      show Int.tmod ((K / 2 ^ i : Nat) : Int) 2 = ((K / 2 ^ i % 2 : Nat) : Int) from rfl, show Int.tdiv ((K / 2 ^ i : Nat) : Int) 2 = ((K / 2 ^ i / 2 : Nat) : Int) from rfl, bit_wrap, wrapZ hd, wrapN (by omega), Nat.div_div_eq_div_mul, ← Nat.pow_succ]
    have e := rtape_l hK hn d (i + 1) k (by omega) (by omega)
    rw [tab_succ] at e
    exact e
theorem rTape_m {K n : Nat} (hK : K < 9223372036854775808) (hn : n ≤ 62) {k : Nat} (hk : n < k) : visorref31_Tape.m k (K : Int) (n : Int) = some (tapeF K n) := by
  unfold visorref31_Tape.m
  have e := rtape_l hK hn n 0 k (by omega) hk
  rw [Nat.pow_zero, Nat.div_one] at e
  rw [show (visorref31_Tape.l1 (n : Int) k (K : Int) ([] : List Int) 0) = some (tapeF K n) from e]; rfl
/-! rows of taps -/
def rowN : List Int → Nat
  | [] => 0
  | x :: l => x.toNat % 2 + 2 * rowN l
theorem rowN_cons (x : Int) (l : List Int) : rowN (x :: l) = x.toNat % 2 + 2 * rowN l := rfl
theorem rowN_lt : ∀ (l : List Int), rowN l < 2 ^ l.length
  | [] => by decide
  | x :: l => by
    have := rowN_lt l
    rw [rowN_cons, List.length_cons, Nat.pow_succ]; omega
theorem pow_le16 {m : Nat} (h : m ≤ 4) : 2 ^ m ≤ 16 := by
  have : 2 ^ m ≤ 2 ^ 4 := Nat.pow_le_pow_right (by decide) h
  omega
theorem shl_small : ∀ (b : Fin 2) (p : Fin 4), shl .i64 ((b : Nat) : Int) ((p : Nat) : Int) = ((b.val * 2 ^ p.val : Nat) : Int) := by decide +kernel
theorem bor_small : ∀ (v : Fin 8) (b : Fin 2) (p : Fin 4), v.val < 2 ^ p.val → bor .i64 ((v : Nat) : Int) ((b.val * 2 ^ p.val : Nat) : Int) = ((v.val + b.val * 2 ^ p.val : Nat) : Int) := by decide +kernel
theorem row_l {v : List Int} (hv : ∀ x ∈ v, IsW x) (hl : v.length ≤ 4) : ∀ (d i k acc : Nat), i + d = v.length → d < k → acc < 2 ^ i → count_row.l1 v k (acc : Int) (i : Int) = some ((acc + 2 ^ i * rowN (v.drop i) : Nat) : Int)
  | 0, i, k, acc, hi, hk, ha => by
    obtain ⟨k, rfl⟩ : ∃ j, k = j + 1 := ⟨k - 1, by omega⟩
    unfold count_row.l1
    rw [decide_eq_false (by omega), cond_false, List.drop_eq_nil_of_le (by omega)]
    rfl
  | d + 1, i, k, acc, hi, hk, ha => by
    obtain ⟨k, rfl⟩ : ∃ j, k = j + 1 := ⟨k - 1, by omega⟩
    have hlt : i < v.length := by omega
    have hp : (0 : Int) ≤ (i : Int) := by omega
    have hx := hv _ (List.getElem_mem hlt)
    unfold count_row.l1
    rw [decide_eq_true (by omega), cond_true, if_pos hp, Int.toNat_natCast, List.getElem?_eq_getElem hlt, Option.bind_some, if_pos hp, drop_cons hlt, rowN_cons]
    generalize v[i] = x at hx
    obtain ⟨y, rfl⟩ : ∃ y : Nat, x = (y : Int) := ⟨x.toNat, (Int.toNat_of_nonneg hx.1).symm⟩
    have hx2 := hx.2
    have h8 : acc < 8 := by
      have : 2 ^ i ≤ 2 ^ 3 := Nat.pow_le_pow_right (by decide) (by omega)
      omega
    have e1 := shl_small ⟨y % 2, by omega⟩ ⟨i, by omega⟩
    have e2 := bor_small ⟨acc, h8⟩ ⟨y % 2, by omega⟩ ⟨i, by omega⟩ ha
    rw [Int.toNat_natCast, band1_w _ (by omega), wrapS (by omega) (by omega), show shl .i64 ((y % 2 : Nat) : Int) (i : Int) = ((y % 2 * 2 ^ i : Nat) : Int) from e1,
      show bor .i64 (acc : Int) ((y % 2 * 2 ^ i : Nat) : Int) = ((acc + y % 2 * 2 ^ i : Nat) : Int) from e2, wrapN (by omega), row_l hv hl d (i + 1) k _ (by omega) (by omega) (by
        rw [Nat.pow_succ]
        have : y % 2 * 2 ^ i ≤ 1 * 2 ^ i := Nat.mul_le_mul_right _ (by omega)
        omega)]
    congr 2
    rw [Nat.pow_succ, Nat.mul_add, Nat.mul_assoc, Nat.mul_comm (y % 2)]; omega
theorem row_m {v a : List Int} (hv : ∀ x ∈ v, IsW x) (hl : a.length ≤ 4) {k : Nat} (hk : 5 ≤ k) : count_row.m k v a = some ((rowN (a.map (atI v)) : Nat) : Int) := by
  unfold count_row.m
  rw [Taps_m v a (by omega) (by omega), Option.bind_some]
  have e := row_l (v := a.map (atI v)) (fun x h => by
    obtain ⟨r, _, rfl⟩ := List.mem_map.1 h
    exact atI_w hv r) (by rw [List.length_map]; exact hl) a.length 0 k 0 (by rw [List.length_map]; omega) (by omega) (by decide)
  rw [List.drop_zero, Nat.pow_zero, Nat.one_mul, Nat.zero_add] at e
  rw [show count_row.l1 (a.map (atI v)) k 0 0 = _ from e]; rfl
theorem rrow_l {v a : List Int} (hv : ∀ x ∈ v, IsW x) (hl : a.length ≤ 4) (ha : ∀ r ∈ a, 0 ≤ r ∧ r < (v.length : Int)) : ∀ (j k : Nat), j ≤ a.length → j < k → visorref31_Count.l2 a v k ((rowN ((a.drop j).map (atI v)) : Nat) : Int) ((j : Int) - 1) = some ((rowN (a.map (atI v)) : Nat) : Int)
  | 0, k, hj, hk => by
    obtain ⟨k, rfl⟩ : ∃ j, k = j + 1 := ⟨k - 1, by omega⟩
    unfold visorref31_Count.l2
    rw [decide_eq_false (by omega), cond_false, List.drop_zero]
  | j + 1, k, hj, hk => by
    obtain ⟨k, rfl⟩ : ∃ j, k = j + 1 := ⟨k - 1, by omega⟩
    have hlt : j < a.length := by omega
    have hm := ha _ (List.getElem_mem hlt)
    have hr := rowN_lt ((a.drop (j + 1)).map (atI v))
    rw [List.length_map, List.length_drop] at hr
    have h16 := pow_le16 (m := a.length - (j + 1)) (by omega)
    unfold visorref31_Count.l2
    rw [show (((j + 1 : Nat) : Int) - 1) = (j : Int) by omega, decide_eq_true (by omega), cond_true, if_pos (by omega), Int.toNat_natCast, List.getElem?_eq_getElem hlt, Option.bind_some, if_pos hm.1]
    have ih := rrow_l hv hl ha j k (by omega) (by omega)
    rw [drop_cons hlt, List.map_cons, rowN_cons] at ih
    generalize a[j] = e at hm ih
    have hx := atI_w hv e
    rw [get_getD (by omega), Option.bind_some, show v.getD e.toNat 0 = atI v e by unfold atI; rw [if_pos hm]]
    generalize atI v e = x at hx ih
    obtain ⟨y, rfl⟩ : ∃ y : Nat, x = (y : Int) := ⟨x.toNat, (Int.toNat_of_nonneg hx.1).symm⟩
    rw [show Int.tmod (y : Int) 2 = ((y % 2 : Nat) : Int) from rfl, wrapS (x := ((y % 2 : Nat) : Int)) (by omega) (by omega), wrapS (x := 2 * _) (by omega) (by omega), wrapS (by omega) (by omega), wrapS (x := (j : Int) - 1) (by omega) (by omega), ← ih]
    congr 1
    rw [Int.toNat_natCast]; omega
/-! how often -/
def cs16 (f : Nat → Nat) : Cells := (List.range 16).map fun i => ci ((f i : Nat) : Int)
theorem cs16_len (f : Nat → Nat) : (cs16 f).length = 16 := by simp [cs16]
theorem cs16_at (f : Nat → Nat) {j : Nat} (h : j < 16) : (cs16 f)[j]? = some (ci ((f j : Nat) : Int)) := by simp [cs16, h]
theorem cs16_get (f : Nat → Nat) {j : Nat} (h : j < 16) : getI .i64 (cs16 f) j = some ((f j : Nat) : Int) := by unfold getI; rw [cs16_at f h]; rfl
theorem cs16_set (f : Nat → Nat) {j : Nat} (h : j < 16) : (cs16 f).set j (ci ((f j + 1 : Nat) : Int)) = cs16 (bump f j) := by
  apply List.ext_getElem?
  intro i
  rw [List.getElem?_set, cs16_len]
  by_cases hi : i < 16
  · rw [cs16_at _ hi, cs16_at _ hi]
    unfold bump
    by_cases e : j = i
    · subst e; rw [if_pos rfl, if_pos h, if_pos rfl]
    · rw [if_neg e, if_neg (fun e' => e e'.symm)]
  · rw [if_neg (by omega), List.getElem?_eq_none (by rw [cs16_len]; omega), List.getElem?_eq_none (by rw [cs16_len]; omega)]
theorem cs16_wds (f : Nat → Nat) : wds .i64 16 (cs16 f) = some (tab 16 fun i => ((f i : Nat) : Int)) := rfl
def cntF (g : Nat → Nat) : Nat → Nat → Nat
  | 0 => fun _ => 0
  | q + 1 => bump (cntF g q) (g q)
theorem cntF_le (g : Nat → Nat) : ∀ (q r : Nat), cntF g q r ≤ q
  | 0, _ => Nat.le_refl 0
  | q + 1, r => by
    have := cntF_le g q r
    show bump (cntF g q) (g q) r ≤ q + 1
    unfold bump; split <;> omega
theorem shl_one : ∀ n : Fin 13, shl .i64 1 ((n : Nat) : Int) = ((2 ^ n.val : Nat) : Int) := by decide +kernel
theorem shl1_i64 {n : Nat} (h : n ≤ 12) : shl .i64 1 (n : Int) = ((2 ^ n : Nat) : Int) := shl_one ⟨n, by omega⟩
theorem pow_le4096 {n : Nat} (h : n ≤ 12) : 2 ^ n ≤ 4096 := by
  have : 2 ^ n ≤ 2 ^ 12 := Nat.pow_le_pow_right (by decide) h
  omega
def runK (t : Tapi_Trace) (K : List Int) (n q : Nat) : List Int := runF K (tapeF q n) [] false 0 0 [] t.ops
def rowK (t : Tapi_Trace) (K a : List Int) (n q : Nat) : Nat := rowN (a.map (atI (runK t K n q)))
theorem runF_w {K M O : List Int} {bl : Bool} (hO : ∀ x ∈ O, IsW x) : ∀ (l : List Tapi_Op) (m o : Nat) (v : List Int), (∀ x ∈ v, IsW x) → ∀ x ∈ runF K M O bl m o v l, IsW x
  | [], _, _, _, hv => hv
  | e :: l, m, o, v, hv => by
    rw [runF_cons]
    exact runF_w hO l _ _ _ (snoc_w hv (newX_w hO _ _ _ _ _))
theorem runK_w (t : Tapi_Trace) (K : List Int) (n q : Nat) : ∀ x ∈ runK t K n q, IsW x := runF_w (fun _ h => by cases h) _ _ _ _ (fun _ h => by cases h)
theorem runK_len (t : Tapi_Trace) (K : List Int) (n q : Nat) : (runK t K n q).length = t.ops.length := by unfold runK; rw [runF_len]; simp
theorem tapeF_len (q n : Nat) : (tapeF q n).length = n := tab_len _ _
theorem rowK_lt (t : Tapi_Trace) (K : List Int) {a : List Int} (n q : Nat) : rowK t K a n q < 2 ^ a.length := by
  have := rowN_lt (a.map (atI (runK t K n q)))
  rw [List.length_map] at this; exact this
section
variable {t : Tapi_Trace} {K a : List Int} (htr : trB t = true) (hb : t.blocks.length < 4611686018427387904) (hl : t.ops.length ≤ 60) (hc : ∀ e ∈ t.ops, IsW e.c) (hK : ∀ x ∈ K, IsW x) (hk2 : K.length = cnt 2 t.ops) (hn : cnt 1 t.ops ≤ 12) (ha : a.length ≤ 4)
include htr hb hl hc hK hk2 hn ha in
theorem count_l : ∀ (d q k : Nat), q + d = 2 ^ cnt 1 t.ops → d + t.ops.length + t.blocks.length + 100 ≤ k → count_Count.l1 t K a ((cnt 1 t.ops : Nat) : Int) k (cs16 (cntF (rowK t K a (cnt 1 t.ops)) q)) (q : Int) = some (.inr (cs16 (cntF (rowK t K a (cnt 1 t.ops)) (2 ^ cnt 1 t.ops))))
  | 0, q, k, hi, hk => by
    obtain ⟨k, rfl⟩ : ∃ j, k = j + 1 := ⟨k - 1, by omega⟩
    unfold count_Count.l1
    rw [shl1_i64 hn, decide_eq_false (by omega), cond_false, show q = 2 ^ cnt 1 t.ops by omega]
  | d + 1, q, k, hi, hk => by
    obtain ⟨k, rfl⟩ : ∃ j, k = j + 1 := ⟨k - 1, by omega⟩
    have hp := pow_le4096 hn
    have hr := rowK_lt t K (a := a) (cnt 1 t.ops) q
    have h16 := pow_le16 ha
    have hcl := cntF_le (rowK t K a (cnt 1 t.ops)) q (rowK t K a (cnt 1 t.ops) q)
    unfold count_Count.l1
    rw [shl1_i64 hn, decide_eq_true (by omega), cond_true, Tape_m (by omega) (by omega) (by omega), Option.bind_some, Run_m hb (by omega) hc hK (tapeF_w _ _) (by omega), Option.bind_some]
    dsimp only
    rw [eL_0 htr hk2 (tapeF_len _ _), if_pos rfl, show ((0 : Int) != 0) = false from rfl, cond_false, show count_row.m k (runF K (tapeF q (cnt 1 t.ops)) [] false 0 0 [] t.ops) a = some ((rowK t K a (cnt 1 t.ops) q : Nat) : Int) from row_m (runK_w t K _ q) ha (by omega), Option.bind_some,
      if_pos (by omega), Int.toNat_natCast, Nat.zero_add, Nat.mul_one, cs16_get _ (by omega), Option.bind_some, if_pos (by omega), if_pos (by rw [cs16_len]; omega), wrapN (by omega), cs16_set _ (by omega), wrapN (by omega)]
    exact count_l d (q + 1) k (by omega) (by omega)
include htr hl hc hK hk2 hn ha in
theorem rcount_l (hv : ∀ r ∈ a, 0 ≤ r ∧ r < (t.ops.length : Int)) : ∀ (d q k : Nat), q + d = 2 ^ cnt 1 t.ops → d + t.ops.length + 100 ≤ k → visorref31_Count.l1 t K a ((cnt 1 t.ops : Nat) : Int) k (tab (2 ^ a.length) fun i => ((cntF (rowK t K a (cnt 1 t.ops)) q i : Nat) : Int)) (q : Int) = some (tab (2 ^ a.length) fun i => ((cntF (rowK t K a (cnt 1 t.ops)) (2 ^ cnt 1 t.ops) i : Nat) : Int))
  | 0, q, k, hi, hk => by
    obtain ⟨k, rfl⟩ : ∃ j, k = j + 1 := ⟨k - 1, by omega⟩
    unfold visorref31_Count.l1
    rw [wrap_u64_of (by omega) (by omega), if_pos (by omega), shl1_i64 hn, decide_eq_false (by omega), cond_false, show q = 2 ^ cnt 1 t.ops by omega]
  | d + 1, q, k, hi, hk => by
    obtain ⟨k, rfl⟩ : ∃ j, k = j + 1 := ⟨k - 1, by omega⟩
    have hp := pow_le4096 hn
    have hr := rowK_lt t K (a := a) (cnt 1 t.ops) q
    have h16 := pow_le16 ha
    have hcl := cntF_le (rowK t K a (cnt 1 t.ops)) q (rowK t K a (cnt 1 t.ops) q)
    obtain ⟨hn', hlen, ho⟩ := opsOk t htr
    have hrun := play_m (n := t.n) (t := t) (K := K) (M := tapeF q (cnt 1 t.ops)) (O := []) (bl := false) hK (tapeF_w _ _) (fun _ h => by cases h) hlen (runOk_of _ 0 0 0 0 ho hc (by rw [tapeF_len]; omega) (fun _ => by omega) (fun h => by cases h)) (k := k) (by omega)
    have hrow := rrow_l (v := runK t K (cnt 1 t.ops) q) (runK_w t K _ q) ha (by rw [runK_len]; exact hv) a.length k (Nat.le_refl _) (by omega)
    rw [List.drop_length] at hrow
    unfold visorref31_Count.l1
    rw [wrap_u64_of (by omega) (by omega), if_pos (by omega), shl1_i64 hn, decide_eq_true (by omega), cond_true, rTape_m (by omega) (by omega) (by omega), Option.bind_some, hrun, Option.bind_some, wrapS (x := ((a.length : Nat) : Int) - 1) (by omega) (by omega),
      show visorref31_Count.l2 a (runF K (tapeF q (cnt 1 t.ops)) [] false 0 0 [] t.ops) k 0 (((a.length : Nat) : Int) - 1) = some ((rowK t K a (cnt 1 t.ops) q : Nat) : Int) from hrow, Option.bind_some, if_pos (by omega), Int.toNat_natCast, tab_get _ hr, Option.bind_some, if_pos (by omega), Option.bind_some, wrapN (by omega), wrapN (by omega), tab_set,
      ← rcount_l hv d (q + 1) k (by omega) (by omega)]
    congr 1
    exact tab_congr fun i _ => by
      show _ = ((bump (cntF (rowK t K a (cnt 1 t.ops)) q) (rowK t K a (cnt 1 t.ops) q) i : Nat) : Int)
      unfold bump
      by_cases e : i = rowK t K a (cnt 1 t.ops) q
      · rw [if_pos e, if_pos e, e]
      · rw [if_neg e, if_neg e]
end
/-! CountTells: why nothing is counted, and the rest. -/
def badF (t : Tapi_Trace) (r : Int) : Bool := decide (r < 0) || decide (r ≥ ((t.ops.length : Nat) : Int))
def errF (t : Tapi_Trace) (w : Nat) (a : List Int) : Int := if trB t = true then (if w = cnt 2 t.ops then (if a.length > 4 ∨ a.any (badF t) = true then 1 else if cnt 1 t.ops > 12 then 3 else 0) else 5) else 4
theorem check_al (t : Tapi_Trace) {a : List Int} (hl : a.length < 4611686018427387904) : ∀ (d i k : Nat), i + d = a.length → d < k → if (a.drop i).any (badF t) = true then ∃ q : Nat, count_check.l1 t a k (i : Int) = some (.inl (q : Int)) else count_check.l1 t a k (i : Int) = some (.inr ())
  | 0, i, k, hi, hk => by
    obtain ⟨k, rfl⟩ : ∃ j, k = j + 1 := ⟨k - 1, by omega⟩
    rw [List.drop_eq_nil_of_le (by omega), if_neg (by simp)]
    unfold count_check.l1
    rw [decide_eq_false (by omega), cond_false]
  | d + 1, i, k, hi, hk => by
    obtain ⟨k, rfl⟩ : ∃ j, k = j + 1 := ⟨k - 1, by omega⟩
    have hlt : i < a.length := by omega
    have ih := check_al t hl d (i + 1) k (by omega) (by omega)
    have e : count_check.l1 t a (k + 1) (i : Int) = if badF t a[i] = true then some (.inl (i : Int)) else count_check.l1 t a k ((i + 1 : Nat) : Int) := by
      conv => lhs; unfold count_check.l1
      rw [decide_eq_true (by omega), cond_true, if_pos (by omega), Int.toNat_natCast, List.getElem?_eq_getElem hlt, Option.bind_some, wrapN (by omega)]
      show (bif badF t a[i] then _ else _) = _
      cases badF t a[i]
      · rw [cond_false, if_neg (by simp)]
      · rw [cond_true, if_pos rfl]
    rw [drop_cons hlt, List.any_cons, e]
    cases hb : badF t a[i]
    · rw [Bool.false_or]
      simp only [Bool.false_eq_true, if_false]
      exact ih
    · rw [Bool.true_or, if_pos rfl, if_pos rfl]; exact ⟨i, rfl⟩
theorem rcheck_al (t : Tapi_Trace) {a : List Int} (hl : a.length < 4611686018427387904) : ∀ (d i k : Nat), i + d = a.length → d < k → visorref31_Check.l1 t a k (i : Int) = if (a.drop i).any (badF t) = true then some (.inl 1) else some (.inr ())
  | 0, i, k, hi, hk => by
    obtain ⟨k, rfl⟩ : ∃ j, k = j + 1 := ⟨k - 1, by omega⟩
    rw [List.drop_eq_nil_of_le (by omega), if_neg (by simp)]
    unfold visorref31_Check.l1
    rw [decide_eq_false (by omega), cond_false]
  | d + 1, i, k, hi, hk => by
    obtain ⟨k, rfl⟩ : ∃ j, k = j + 1 := ⟨k - 1, by omega⟩
    have hlt : i < a.length := by omega
    have hp : (0 : Int) ≤ (i : Int) := by omega
    have ih := rcheck_al t hl d (i + 1) k (by omega) (by omega)
    unfold visorref31_Check.l1
    rw [decide_eq_true (by omega), cond_true, if_pos hp, Int.toNat_natCast, List.getElem?_eq_getElem hlt, Option.bind_some, if_pos hp, Option.bind_some, wrapN (by omega), drop_cons hlt, List.any_cons, ih]
    unfold badF
    cases decide (a[i] < 0)
    · cases decide (a[i] ≥ ((t.ops.length : Nat) : Int))
      · rfl
      · rfl
    · rfl
theorem draws_e {t : Tapi_Trace} (hl : t.ops.length ≤ 60) {k : Nat} (hk : 70 ≤ k) (e : Bool) : count_check.j2 k t e = some (if e = true then 1 else if cnt 1 t.ops > 12 then 3 else 0) := by
  unfold count_check.j2
  cases e
  · rw [cond_false, Draws_m (by omega) (by omega), Option.bind_some, if_neg (by simp)]
    by_cases h : cnt 1 t.ops > 12
    · rw [decide_eq_true (by omega), cond_true, if_pos h]
    · rw [decide_eq_false (by omega), cond_false, if_neg h]
  · rfl
theorem check_m {t : Tapi_Trace} (hb : t.blocks.length < 4611686018427387904) (hl : t.ops.length ≤ 60) {a : List Int} (ha : a.length < 4611686018427387904) (w : Nat) {k : Nat} (hk : t.ops.length + t.blocks.length + a.length + 100 ≤ k) : count_check.m k t (w : Int) a = some (errF t w a) := by
  unfold count_check.m errF
  rw [Check_m hb (by omega), Option.bind_some]
  by_cases h : trB t = true
  · rw [if_pos h, if_pos h, show ((0 : Int) != 0) = false from rfl, cond_false, Words_m (by omega) (by omega), Option.bind_some]
    by_cases h1 : w = cnt 2 t.ops
    · rw [show ((w : Int) != ((cnt 2 t.ops : Nat) : Int)) = false by rw [bne_eq_false_iff_eq]; omega, cond_false, if_pos h1]
      by_cases h4 : a.length > 4
      · rw [decide_eq_true (by omega), cond_true, draws_e hl (by omega), if_pos rfl, if_pos (.inl h4)]
      · rw [decide_eq_false (by omega), cond_false]
        have hc := check_al t ha a.length 0 k (by omega) (by omega)
        rw [List.drop_zero] at hc
        by_cases hx : a.any (badF t) = true
        · rw [if_pos hx] at hc
          obtain ⟨q, hq⟩ := hc
          rw [show count_check.l1 t a k 0 = some (.inl (q : Int)) from hq, Option.bind_some]
          dsimp only
          unfold count_check.j1
          rw [decide_eq_true (by omega), draws_e hl (by omega), if_pos rfl, if_pos (.inr hx)]
        · rw [if_neg hx] at hc
          rw [show count_check.l1 t a k 0 = some (.inr ()) from hc, Option.bind_some]
          dsimp only
          unfold count_check.j1
          rw [decide_eq_false (by omega), draws_e hl (by omega), if_neg (show ¬ (false = true) by simp), if_neg (show ¬ (a.length > 4 ∨ a.any (badF t) = true) from fun h => h.elim h4 hx)]
    · rw [show ((w : Int) != ((cnt 2 t.ops : Nat) : Int)) = true by rw [bne_iff_ne]; omega, cond_true, if_neg h1]
  · rw [if_neg h, if_neg h]; rfl
theorem rcheck_m {t : Tapi_Trace} (hb : t.blocks.length < 4611686018427387904) (hl : t.ops.length ≤ 60) {a : List Int} (ha : a.length < 4611686018427387904) (w : Nat) {k : Nat} (hk : t.ops.length + t.blocks.length + a.length + 100 ≤ k) : visorref31_Check.m k t (w : Int) a = some (errF t w a) := by
  have c1 : tal t 1 = cnt 1 t.ops := tal_at t 1 (by omega)
  have c2 : tal t 2 = cnt 2 t.ops := tal_at t 2 (by omega)
  unfold visorref31_Check.m errF
  rw [rRight_m hb (by omega), Option.bind_some]
  by_cases h : trB t = true
  · rw [h, Bool.not_true, cond_false, if_pos rfl, rTally_m (by omega) (by omega), Option.bind_some, if_pos (cs13_len _), cs13_get _ (j := 2) (by omega), Option.bind_some, c2]
    by_cases h1 : w = cnt 2 t.ops
    · rw [show ((w : Int) != ((cnt 2 t.ops : Nat) : Int)) = false by rw [bne_eq_false_iff_eq]; omega, cond_false, if_pos h1]
      have hc := rcheck_al t ha a.length 0 k (by omega) (by omega)
      rw [List.drop_zero] at hc
      rw [show visorref31_Check.l1 t a k 0 = _ from hc]
      by_cases hx : a.any (badF t) = true
      · rw [if_pos hx, Option.bind_some, if_pos (.inr hx)]
      · rw [if_neg hx, Option.bind_some]
        dsimp only
        by_cases h4 : a.length > 4
        · rw [decide_eq_true (by omega), cond_true, if_pos (.inl h4)]
        · rw [decide_eq_false (by omega), cond_false, cs13_get _ (j := 1) (by omega), Option.bind_some, c1, if_neg (fun h => h.elim h4 hx)]
          by_cases h12 : cnt 1 t.ops > 12
          · rw [decide_eq_true (by omega), cond_true, if_pos h12]
          · rw [decide_eq_false (by omega), cond_false, if_neg h12]
    · rw [show ((w : Int) != ((cnt 2 t.ops : Nat) : Int)) = true by rw [bne_iff_ne]; omega, cond_true, if_neg h1]
  · rw [if_neg h]
    rw [Bool.not_eq_true] at h
    rw [h, Bool.not_false, cond_true]
theorem err_0 {t : Tapi_Trace} {w : Nat} {a : List Int} (h : errF t w a = 0) : trB t = true ∧ w = cnt 2 t.ops ∧ a.length ≤ 4 ∧ (∀ r ∈ a, 0 ≤ r ∧ r < (t.ops.length : Int)) ∧ cnt 1 t.ops ≤ 12 := by
  unfold errF at h
  by_cases h1 : trB t = true
  · rw [if_pos h1] at h
    by_cases h2 : w = cnt 2 t.ops
    · rw [if_pos h2] at h
      by_cases h3 : a.length > 4 ∨ a.any (badF t) = true
      · rw [if_pos h3] at h; cases h
      · rw [if_neg h3] at h
        by_cases h4 : cnt 1 t.ops > 12
        · rw [if_pos h4] at h; cases h
        · refine ⟨h1, h2, Nat.le_of_not_lt fun h => h3 (.inl h), fun r hr => ?_, by omega⟩
          have hb : ¬ badF t r = true := fun e => h3 (.inr (List.any_eq_true.2 ⟨r, hr, e⟩))
          unfold badF at hb
          rw [Bool.or_eq_true, decide_eq_true_eq, decide_eq_true_eq] at hb
          omega
    · rw [if_neg h2] at h; cases h
  · rw [if_neg h1] at h; cases h
theorem ints_l (a : List Int) (hl : a.length < 4611686018427387904) : ∀ (d i k : Nat), i + d = a.length → d < k → visorref18_Ints.l1 a a k (i : Int) = some (.inr ())
  | 0, i, k, hi, hk => by
    obtain ⟨k, rfl⟩ : ∃ j, k = j + 1 := ⟨k - 1, by omega⟩
    unfold visorref18_Ints.l1
    rw [decide_eq_false (by omega), cond_false]
  | d + 1, i, k, hi, hk => by
    obtain ⟨k, rfl⟩ : ∃ j, k = j + 1 := ⟨k - 1, by omega⟩
    have hlt : i < a.length := by omega
    unfold visorref18_Ints.l1
    rw [decide_eq_true (by omega), cond_true, if_pos (by omega), Int.toNat_natCast, List.getElem?_eq_getElem hlt, Option.bind_some, if_pos (by omega), Option.bind_some, bne_self_eq_false, cond_false, wrapN (by omega)]
    exact ints_l a hl d (i + 1) k (by omega) (by omega)
theorem ints_m (a : List Int) (hl : a.length < 4611686018427387904) {k : Nat} (hk : a.length < k) : visorref18_Ints.m k a a = some true := by
  unfold visorref18_Ints.m
  rw [bne_self_eq_false, cond_false, show visorref18_Ints.l1 a a k 0 = some (.inr ()) from ints_l a hl a.length 0 k (by omega) hk]; rfl
theorem tab_take {m n : Nat} (h : m ≤ n) (f : Nat → Int) : (tab n f).take m = tab m f := by
  unfold tab
  rw [← List.map_take, List.take_range, Nat.min_eq_left h]
def outF (t : Tapi_Trace) (K a : List Int) : List Int := tab (2 ^ a.length) fun i => ((cntF (rowK t K a (cnt 1 t.ops)) (2 ^ cnt 1 t.ops) i : Nat) : Int)
theorem cs16_zero : ([ci 0, ci 0, ci 0, ci 0, ci 0, ci 0, ci 0, ci 0, ci 0, ci 0, ci 0, ci 0, ci 0, ci 0, ci 0, ci 0] : Cells) = cs16 fun _ => 0 := rfl
theorem Count_m {t : Tapi_Trace} (hb : t.blocks.length < 4611686018427387904) (hl : t.ops.length ≤ 60) (hc : ∀ e ∈ t.ops, IsW e.c) {K a : List Int} (hK : ∀ x ∈ K, IsW x) (ha : a.length < 4611686018427387904) {k : Nat} (hk : t.ops.length + t.blocks.length + a.length + 5000 ≤ k) :
    count_Count.m k t K a = some (if errF t K.length a = 0 then outF t K a else [], errF t K.length a) := by
  unfold count_Count.m
  rw [check_m hb hl ha _ (by omega), Option.bind_some]
  by_cases h : errF t K.length a = 0
  · obtain ⟨h1, h2, h3, h4, h5⟩ := err_0 h
    have hp := pow_le4096 h5
    have h16 := pow_le16 h3
    have e := count_l h1 hb hl hc hK h2 h5 h3 (2 ^ cnt 1 t.ops) 0 k (by omega) (by omega)
    have hs : shl .i64 1 ((a.length : Nat) : Int) = ((2 ^ a.length : Nat) : Int) := shl1_i64 (by omega)
    obtain ⟨P, hP⟩ : ∃ P, P = 2 ^ a.length := ⟨_, rfl⟩
    rw [← hP] at hs h16
    rw [h, if_pos rfl, show ((0 : Int) != 0) = false from rfl, cond_false, Draws_m (by omega) (by omega), Option.bind_some, if_pos (by omega), cs16_zero, show count_Count.l1 t K a ((cnt 1 t.ops : Nat) : Int) k (cs16 fun _ => 0) 0 = _ from e, Option.bind_some]
    dsimp only
    rw [if_pos (by omega), cs16_wds, Option.bind_some, hs, Int.toNat_natCast, if_pos (by rw [tab_len]; omega)]
    unfold slices_Clone_int_int.m cut
    rw [List.drop_zero, tab_take h16, if_pos (by rw [tab_len, List.length_nil]; omega), Option.bind_some]
    subst hP; rfl
  · rw [if_neg h, show (errF t K.length a != 0) = true from bne_iff_ne.2 h, cond_true]
theorem rCount_m {t : Tapi_Trace} (hl : t.ops.length ≤ 60) (hc : ∀ e ∈ t.ops, IsW e.c) {K a : List Int} (hK : ∀ x ∈ K, IsW x) (h : errF t K.length a = 0) {k : Nat} (hk : t.ops.length + 5000 ≤ k) :
    visorref31_Count.m k t K a = some (outF t K a) := by
  obtain ⟨h1, h2, h3, h4, h5⟩ := err_0 h
  have hp := pow_le4096 h5
  have h16 := pow_le16 h3
  have c1 : tal t 1 = cnt 1 t.ops := tal_at t 1 (by omega)
  have e := rcount_l h1 hl hc hK h2 h5 h3 h4 (2 ^ cnt 1 t.ops) 0 k (by omega) (by omega)
  have hs : shl .i64 1 (IntKind.u64.wrap ((a.length : Nat) : Int)) = ((2 ^ a.length : Nat) : Int) := by
    rw [wrap_u64_of (by omega) (by omega)]; exact shl1_i64 (by omega)
  obtain ⟨P, hP⟩ : ∃ P, P = 2 ^ a.length := ⟨_, rfl⟩
  rw [← hP] at hs h16 e
  unfold visorref31_Count.m
  rw [rTally_m (by omega) (by omega), Option.bind_some, if_pos (by omega), cs13_get _ (j := 1) (by omega), Option.bind_some, c1, hs, if_pos (by rw [wrap_u64_of (by omega) (by omega)]; omega), if_pos (by omega), Int.toNat_natCast, tab_zero,
    show visorref31_Count.l1 t K a ((cnt 1 t.ops : Nat) : Int) k (tab P fun _ => 0) 0 = _ from e]
  subst hP; rfl
/-! whether numbers are alike -/
def allF (x : Int) (l : List Int) : Bool := l.all fun y => y == x
theorem even_l {a : List Int} (hl : a.length < 4611686018427387904) : ∀ (d i k : Nat), i + d = a.length → d < k → if allF (a.getD 0 0) (a.drop i) = true then count_Even.l1 a k (i : Int) = some (.inr ()) else ∃ q : Nat, count_Even.l1 a k (i : Int) = some (.inl (q : Int))
  | 0, i, k, hi, hk => by
    obtain ⟨k, rfl⟩ : ∃ j, k = j + 1 := ⟨k - 1, by omega⟩
    rw [List.drop_eq_nil_of_le (by omega), if_pos (show allF (a.getD 0 0) [] = true from rfl)]
    unfold count_Even.l1
    rw [decide_eq_false (by omega), cond_false]
  | d + 1, i, k, hi, hk => by
    obtain ⟨k, rfl⟩ : ∃ j, k = j + 1 := ⟨k - 1, by omega⟩
    have hlt : i < a.length := by omega
    have ih := even_l hl d (i + 1) k (by omega) (by omega)
    have e : count_Even.l1 a (k + 1) (i : Int) = if (a[i] == a.getD 0 0) = true then count_Even.l1 a k ((i + 1 : Nat) : Int) else some (.inl (i : Int)) := by
      conv => lhs; unfold count_Even.l1
      rw [decide_eq_true (by omega), cond_true, if_pos (by omega), Int.toNat_natCast, List.getElem?_eq_getElem hlt, Option.bind_some, if_pos (by omega), get_getD (m := 0) (by omega), Option.bind_some, wrapN (by omega), bne]
      cases a[i] == a.getD 0 0
      · rw [Bool.not_false, cond_true, if_neg (by simp)]
      · rw [Bool.not_true, cond_false, if_pos rfl]
    unfold allF at ih ⊢
    rw [drop_cons hlt, List.all_cons, e]
    cases a[i] == a.getD 0 0
    · rw [Bool.false_and, if_neg (by simp), if_neg (by simp)]; exact ⟨i, rfl⟩
    · rw [Bool.true_and, if_pos rfl]; exact ih
theorem Even_m {a : List Int} (hl : a.length < 4611686018427387904) {k : Nat} (hk : a.length < k) : count_Even.m k a = some (allF (a.getD 0 0) a) := by
  have h := even_l hl a.length 0 k (by omega) hk
  rw [List.drop_zero] at h
  unfold count_Even.m
  by_cases e : allF (a.getD 0 0) a = true
  · rw [if_pos e] at h
    rw [show count_Even.l1 a k 0 = some (.inr ()) from h, e]; rfl
  · rw [if_neg e] at h
    obtain ⟨q, hq⟩ := h
    rw [Bool.not_eq_true] at e
    rw [show count_Even.l1 a k 0 = some (.inl (q : Int)) from hq, e, Option.bind_some]
    dsimp only
    unfold count_Even.j1
    rw [decide_eq_true (by omega)]; rfl
theorem tells_l {a : List Int} (hl : a.length < 4611686018427387904) : ∀ (d i k : Nat) (b : Bool), i + d = a.length → d < k → visorlaw31_CountTells.l1 a k b (i : Int) = some (b && allF (a.getD 0 0) (a.drop i))
  | 0, i, k, b, hi, hk => by
    obtain ⟨k, rfl⟩ : ∃ j, k = j + 1 := ⟨k - 1, by omega⟩
    unfold visorlaw31_CountTells.l1
    rw [decide_eq_false (by omega), cond_false, List.drop_eq_nil_of_le (by omega)]
    cases b <;> rfl
  | d + 1, i, k, b, hi, hk => by
    obtain ⟨k, rfl⟩ : ∃ j, k = j + 1 := ⟨k - 1, by omega⟩
    have hlt : i < a.length := by omega
    unfold visorlaw31_CountTells.l1
    rw [decide_eq_true (by omega), cond_true, wrapN (by omega), drop_cons hlt]
    cases b
    · rw [cond_false, tells_l hl d (i + 1) k false (by omega) (by omega)]; rfl
    · rw [cond_true, if_pos (by omega), Int.toNat_natCast, List.getElem?_eq_getElem hlt, Option.bind_some, if_pos (by omega), get_getD (m := 0) (by omega), Option.bind_some, tells_l hl d (i + 1) k _ (by omega) (by omega)]
      unfold allF
      rw [List.all_cons, Bool.true_and]
theorem awake31_k (j : Nat) : visorlaw31_awake.m (j + 60) = some true := by kernel_rfl
theorem awake31 {k : Nat} (hk : 60 ≤ k) : visorlaw31_awake.m k = some true := by
  obtain ⟨j, rfl⟩ : ∃ j, k = j + 60 := ⟨k - 60, by omega⟩
  exact awake31_k j
theorem tells_j2 {a : List Int} (hl : a.length < 4611686018427387904) {k : Nat} (hk : a.length + 100 ≤ k) : visorlaw31_CountTells.j2 k a = some true := by
  have h := tells_l hl a.length 0 k true (by omega) (by omega)
  rw [List.drop_zero, Bool.true_and] at h
  unfold visorlaw31_CountTells.j2
  rw [show visorlaw31_CountTells.l1 a k true 0 = _ from h, Option.bind_some, Even_m hl (by omega), Option.bind_some, beq_self_eq_true, cond_true, awake31 (by omega)]
  rfl
theorem tells_j1 {a : List Int} (hl : a.length < 4611686018427387904) {x y : Int} (hx : x ≤ 9223372036854775807) {k : Nat} (hk : a.length + 100 ≤ k) : visorlaw31_CountTells.j1 k a x y false = some true := by
  unfold visorlaw31_CountTells.j1
  rw [cond_false]
  by_cases h : x < 0 ∨ y < 0 ∨ y > 62
  · have e : ((decide (x < 0) || decide (y < 0)) || decide (y > 62)) = true := by
      rw [Bool.or_eq_true, Bool.or_eq_true, decide_eq_true_eq, decide_eq_true_eq, decide_eq_true_eq]; omega
    unfold count_Tape.m
    rw [e, cond_true, Option.bind_some, cond_true]
    exact tells_j2 hl hk
  · obtain ⟨X, rfl⟩ : ∃ X : Nat, x = (X : Int) := ⟨x.toNat, by omega⟩
    obtain ⟨Y, rfl⟩ : ∃ Y : Nat, y = (Y : Int) := ⟨y.toNat, by omega⟩
    have e : ((decide ((X : Int) < 0) || decide ((Y : Int) < 0)) || decide ((Y : Int) > 62)) = false := by
      rw [decide_eq_false (by omega), decide_eq_false (by omega), decide_eq_false (by omega)]; rfl
    rw [Tape_m (by omega) (by omega) (by omega), Option.bind_some, e, cond_false, rTape_m (by omega) (by omega) (by omega), Option.bind_some, same29 _ (by rw [tapeF_len]; omega) (by rw [tapeF_len]; omega), Option.bind_some, Bool.not_true, cond_false]
    exact tells_j2 hl hk
theorem CountTells_pure (x0 : Tapi_Trace) (x1 : List Int) (x2 : List Int) (x3 : Int) (x4 : Int) (b0 : x0.ok) (b1 : ∀ x ∈ x1, IntKind.u64.min ≤ x ∧ x ≤ IntKind.u64.max) (n1 : x1.length * 8 ≤ 140737488351232) (b2 : ∀ x ∈ x2, IntKind.i64.min ≤ x ∧ x ≤ IntKind.i64.max) (n2 : x2.length * 8 ≤ 140737488351232) (b3 : IntKind.i64.min ≤ x3 ∧ x3 ≤ IntKind.i64.max) (b4 : IntKind.i64.min ≤ x4 ∧ x4 ≤ IntKind.i64.max) : ∃ k, visorlaw31_CountTells.m k x0 x1 x2 x3 x4 = some true := by
  obtain ⟨a1, a2, a3, a4, a5, _⟩ := b0
  have hK : ∀ x ∈ x1, IsW x := b1
  have hc : ∀ e ∈ x0.ops, IsW e.c := fun e he => (a2 e he).2.2.2.2.2.1
  have hx : x3 ≤ 9223372036854775807 := b3.2
  refine ⟨x0.ops.length + x0.blocks.length + x2.length + 10000, ?_⟩
  generalize hk : x0.ops.length + x0.blocks.length + x2.length + 10000 = k
  unfold visorlaw31_CountTells.m
  by_cases h : x0.ops.length ≤ 60
  · rw [decide_eq_false (by omega), cond_false, Count_m (by omega) h hc hK (by omega) (by omega), Option.bind_some, rcheck_m (by omega) h (by omega) _ (by omega), Option.bind_some]
    dsimp only
    rw [bne_self_eq_false, cond_false]
    by_cases e : errF x0 x1.length x2 = 0
    · rw [e, if_pos rfl, show (((0 : Int) != 0)) = false from rfl, Bool.false_and, cond_false, show ((0 : Int) == 0) = true from rfl, cond_true, rCount_m h hc hK e (by omega), Option.bind_some,
        ints_m _ (by unfold outF; rw [tab_len]; have := pow_le16 (err_0 e).2.2.1; omega) (by unfold outF; rw [tab_len]; have := pow_le16 (err_0 e).2.2.1; omega), Option.bind_some, Bool.not_true]
      exact tells_j1 (by omega) hx (by omega)
    · rw [if_neg e, show ((((([] : List Int).length : Nat) : Int) != 0)) = false from rfl, Bool.and_false, cond_false, beqF e, cond_false]
      exact tells_j1 (by omega) hx (by omega)
  · rw [decide_eq_true (by omega), cond_true, awake31 (by omega)]; rfl
end Go.Proofs.YtkabdodcacfmlaaGreat
