/- The plain law behind ReplayJoins: its model answers true for all data that fit; no condition beyond their kinds. -/
import Derived.Test.YtebgjmhkmmlpeaaMReplayJoins1
namespace Go.Proofs.Ytebgjmhkmmlpeaa
open Go Go.Vk
set_option linter.unusedVariables false

def Tapi_Op.ok (x : Tapi_Op) : Prop := (IntKind.i64.min ≤ x.kind ∧ x.kind ≤ IntKind.i64.max) ∧ (IntKind.i64.min ≤ x.dom ∧ x.dom ≤ IntKind.i64.max) ∧ (IntKind.i64.min ≤ x.a ∧ x.a ≤ IntKind.i64.max) ∧ (IntKind.i64.min ≤ x.b ∧ x.b ≤ IntKind.i64.max) ∧ (IntKind.i64.min ≤ x.d ∧ x.d ≤ IntKind.i64.max) ∧ (IntKind.u64.min ≤ x.c ∧ x.c ≤ IntKind.u64.max) ∧ True
theorem Tapi_Op.of {cs : Cells} (h : Fits [LK.int .i64, LK.int .i64, LK.int .i64, LK.int .i64, LK.int .i64, LK.int .u64] cs) : ∃ x : Tapi_Op, cs = x.cells ∧ x.ok := by
  match cs, h with
  | [.int _ n0, .int _ n1, .int _ n2, .int _ n3, .int _ n4, .int _ n5], ⟨⟨rfl, h0⟩, ⟨rfl, h1⟩, ⟨rfl, h2⟩, ⟨rfl, h3⟩, ⟨rfl, h4⟩, ⟨rfl, h5⟩, _⟩ => exact ⟨⟨n0, n1, n2, n3, n4, n5⟩, rfl, ⟨h0, h1, h2, h3, h4, h5, trivial⟩⟩
theorem Tapi_Op.ofs : ∀ {l : List Cells}, (∀ x ∈ l, Fits [LK.int .i64, LK.int .i64, LK.int .i64, LK.int .i64, LK.int .i64, LK.int .u64] x) → ∃ l' : List Tapi_Op, l = l'.map Tapi_Op.cells ∧ ∀ y ∈ l', y.ok
  | [], _ => ⟨[], rfl, fun _ h => (by cases h)⟩
  | x :: l, h => by
    obtain ⟨y, rfl, hy⟩ := Tapi_Op.of (h x (List.mem_cons_self ..)); obtain ⟨l', rfl, hl⟩ := Tapi_Op.ofs (l := l) fun z hz => h z (List.mem_cons_of_mem _ hz)
    exact ⟨y :: l', rfl, fun z hz => (List.mem_cons.1 hz).elim (fun e => e ▸ hy) (hl z)⟩
def Tapi_Span.ok (x : Tapi_Span) : Prop := (IntKind.i64.min ≤ x.kind ∧ x.kind ≤ IntKind.i64.max) ∧ (IntKind.i64.min ≤ x.fromF ∧ x.fromF ≤ IntKind.i64.max) ∧ (IntKind.i64.min ≤ x.to ∧ x.to ≤ IntKind.i64.max) ∧ True
theorem Tapi_Span.of {cs : Cells} (h : Fits [LK.int .i64, LK.int .i64, LK.int .i64] cs) : ∃ x : Tapi_Span, cs = x.cells ∧ x.ok := by
  match cs, h with
  | [.int _ n0, .int _ n1, .int _ n2], ⟨⟨rfl, h0⟩, ⟨rfl, h1⟩, ⟨rfl, h2⟩, _⟩ => exact ⟨⟨n0, n1, n2⟩, rfl, ⟨h0, h1, h2, trivial⟩⟩
theorem Tapi_Span.ofs : ∀ {l : List Cells}, (∀ x ∈ l, Fits [LK.int .i64, LK.int .i64, LK.int .i64] x) → ∃ l' : List Tapi_Span, l = l'.map Tapi_Span.cells ∧ ∀ y ∈ l', y.ok
  | [], _ => ⟨[], rfl, fun _ h => (by cases h)⟩
  | x :: l, h => by
    obtain ⟨y, rfl, hy⟩ := Tapi_Span.of (h x (List.mem_cons_self ..)); obtain ⟨l', rfl, hl⟩ := Tapi_Span.ofs (l := l) fun z hz => h z (List.mem_cons_of_mem _ hz)
    exact ⟨y :: l', rfl, fun z hz => (List.mem_cons.1 hz).elim (fun e => e ▸ hy) (hl z)⟩
def Tapi_Trace.ok (x : Tapi_Trace) : Prop := (IntKind.i64.min ≤ x.n ∧ x.n ≤ IntKind.i64.max) ∧ (∀ y ∈ x.ops, y.ok) ∧ x.ops.length * 48 ≤ 140737488351232 ∧ (∀ y ∈ x.blocks, y.ok) ∧ x.blocks.length * 24 ≤ 140737488351232 ∧ True
/-! What an op makes: both programs' Eval is one function of words. -/
def evalW (kind : Int) (c a b d x : BitVec 64) : BitVec 64 :=
  if kind = 1 then x else if kind = 2 then x ^^^ a ^^^ b else if kind = 3 then c else if kind = 4 then c else if kind = 5 then a ^^^ b else if kind = 6 then ~~~a
  else if kind = 7 then a &&& b else if kind = 8 then a &&& c else if kind = 9 then a <<< (c.toNat % 64) else if kind = 10 then a >>> (c.toNat % 64)
  else if kind = 11 then a.rotateLeft (c.toNat % 64) else if kind = 12 then a ^^^ b ^^^ d else 0#64
theorem rot63 (x : BitVec 64) (n : Nat) (h : n < 64) : x <<< n ||| x >>> (64 - n) = x.rotateLeft n := by
  rw [BitVec.rotateLeft_def, Nat.mod_eq_of_lt h]
theorem octet_Rot_m (k : Nat) (x : BitVec 64) (n : Nat) (h : n < 64) : octet_Rot.m k (u x) (n : Int) = some (u (x.rotateLeft n)) := by
  have hb : band .i64 (n : Int) 63 = (n : Int) := by
    have : ∀ m : Fin 64, band .i64 ((m : Nat) : Int) 63 = ((m : Nat) : Int) := by decide
    exact this ⟨n, h⟩
  unfold octet_Rot.m
  rw [hb, if_pos (by omega), wrap_i64_of (by omega) (by omega), if_pos (by omega), shl_u _ (by omega), shr_u _ (by omega), bor_u]
  congr 2
  rw [← rot63 x n h]
  have e : ((64 : Int) - (n : Int)).toNat = 64 - n := by omega
  rw [e]; rfl
theorem rot1 (x : BitVec 64) : IntKind.u64.wrap (IntKind.u64.wrap (u x * 2) + IntKind.u64.wrap (Int.tdiv (u x) 9223372036854775808)) = u (x.rotateLeft 1) := by
  have h := x.isLt
  have hd : Int.tdiv (u x) 9223372036854775808 = ((x.toNat / 9223372036854775808 : Nat) : Int) := rfl
  rw [hd, wrap_u64, wrap_u64, wrap_u64]
  have e : (x.rotateLeft 1).toNat = (x.toNat * 2) % 18446744073709551616 + x.toNat / 9223372036854775808 := by
    rw [BitVec.rotateLeft_def]
    have h1 : (x <<< (1 % 64)) &&& (x >>> (64 - 1 % 64)) = 0#64 := by
      apply BitVec.eq_of_getLsbD_eq
      intro i hi
      simp only [BitVec.getLsbD_and, BitVec.getLsbD_shiftLeft, BitVec.getLsbD_ushiftRight, BitVec.getLsbD_zero]
      by_cases h0 : i = 0
      · subst h0; simp
      · have : x.getLsbD (64 - 1 % 64 + i) = false := BitVec.getLsbD_of_ge _ _ (by omega)
        simp [this]
    rw [← BitVec.add_eq_or_of_and_eq_zero _ _ h1, BitVec.toNat_add]
    simp only [BitVec.toNat_shiftLeft, BitVec.toNat_ushiftRight, Nat.shiftLeft_eq, Nat.shiftRight_eq_div_pow, show 1 % 64 = 1 from rfl, show 64 - 1 = 63 from rfl, show 2 ^ 63 = 9223372036854775808 from rfl, show 2 ^ 1 = 2 from rfl]
    omega
  simp only [u, e]
  omega
theorem rotateLeft_zero' (x : BitVec 64) : x.rotateLeft 0 = x := by
  apply BitVec.eq_of_getLsbD_eq
  intro i hi
  rw [BitVec.getLsbD_rotateLeft]; simp [hi]
theorem rotateLeft_add (x : BitVec 64) (a b : Nat) : (x.rotateLeft a).rotateLeft b = x.rotateLeft (a + b) := by
  apply BitVec.eq_of_getLsbD_eq
  intro i hi
  simp only [BitVec.getLsbD_rotateLeft]
  have ha := Nat.mod_lt a (show 0 < 64 by omega)
  have hb := Nat.mod_lt b (show 0 < 64 by omega)
  by_cases h1 : i < b % 64
  · by_cases h2 : i < (a + b) % 64
    · simp only [h1, h2, cond_true, decide_true]
      by_cases h3 : 64 - b % 64 + i < a % 64
      · simp only [h3, decide_true, cond_true]; congr 1; omega
      · simp only [h3, decide_false, cond_false]; rw [decide_eq_true (by omega), Bool.true_and]; congr 1; omega
    · simp only [h1, h2, decide_true, decide_false, cond_true, cond_false, hi, Bool.true_and]
      by_cases h3 : 64 - b % 64 + i < a % 64
      · omega
      · simp only [h3, decide_false, cond_false]; rw [decide_eq_true (by omega), Bool.true_and]; congr 1; omega
  · by_cases h2 : i < (a + b) % 64
    · simp only [h1, h2, decide_true, decide_false, cond_true, cond_false, hi, Bool.true_and]
      by_cases h3 : i - b % 64 < a % 64
      · simp only [h3, decide_true, cond_true]; congr 1; omega
      · omega
    · simp only [h1, h2, decide_false, cond_false, hi, decide_true, Bool.true_and]
      by_cases h3 : i - b % 64 < a % 64
      · simp only [h3, decide_true, cond_true]; congr 1; omega
      · simp only [h3, decide_false, cond_false]; rw [decide_eq_true (by omega), Bool.true_and]; congr 1; omega
theorem mod64 (k : Nat) (n : Nat) : visorref01_Mod.m k (n : Int) 64 = some ((n % 64 : Nat) : Int) := by
  unfold visorref01_Mod.m
  rw [if_pos (by omega)]
  have e : Int.tmod (n : Int) 64 = ((n % 64 : Nat) : Int) := rfl
  rw [e]
  have : decide (((n % 64 : Nat) : Int) < 0) = false := decide_eq_false (by omega)
  rw [this]; simp
theorem ref_Rot_l (n : Nat) : ∀ (d k i : Nat) (x : BitVec 64), n % 64 = i + d → d < k → visorref01_Rot.l1 (n : Int) k (u x) (i : Int) = some (u (x.rotateLeft d)) := by
  intro d
  induction d with
  | zero =>
    intro k i x hi hk
    obtain ⟨k, rfl⟩ : ∃ m, k = m + 1 := ⟨k - 1, by omega⟩
    rw [visorref01_Rot.l1, mod64]
    simp only [Option.bind_some]
    rw [decide_eq_false (by omega)]
    simp [rotateLeft_zero']
  | succ d ih =>
    intro k i x hi hk
    obtain ⟨k, rfl⟩ : ∃ m, k = m + 1 := ⟨k - 1, by omega⟩
    rw [visorref01_Rot.l1, mod64]
    simp only [Option.bind_some]
    rw [decide_eq_true (by omega), rot1, wrap_i64_of (by omega) (by omega)]
    simp only [cond_true]
    have := ih k (i + 1) (x.rotateLeft 1) (by omega) (by omega)
    rw [show ((i : Int) + 1) = ((i + 1 : Nat) : Int) by omega, this, rotateLeft_add, Nat.add_comm 1 d]
theorem ref_Rot_m (k : Nat) (hk : 65 ≤ k) (x : BitVec 64) (n : Nat) : visorref01_Rot.m k (u x) (n : Int) = some (u (x.rotateLeft (n % 64))) := by
  unfold visorref01_Rot.m
  have h := ref_Rot_l n (n % 64) k 0 x (by omega) (by omega)
  rw [show ((0 : Nat) : Int) = 0 from rfl] at h
  rw [h]; rfl
def lowW (n : Nat) : BitVec 64 := BitVec.ofNat 64 (2 ^ n - 1)
theorem ref_Low_l (n : Nat) : ∀ (d k i : Nat), min n 64 = i + d → d < k → visorref01_Low.l1 (n : Int) k (u (lowW i)) (i : Int) = some (u (lowW (min n 64))) := by
  intro d
  induction d with
  | zero =>
    intro k i hi hk
    obtain ⟨k, rfl⟩ : ∃ m, k = m + 1 := ⟨k - 1, by omega⟩
    rw [visorref01_Low.l1]
    have : (decide ((i : Int) < (n : Int)) && decide ((i : Int) < 64)) = false := by
      rw [Bool.and_eq_false_iff]; simp only [decide_eq_false_iff_not]; omega
    rw [this]; simp only [cond_false]
    rw [show min n 64 = i by omega]
  | succ d ih =>
    intro k i hi hk
    obtain ⟨k, rfl⟩ : ∃ m, k = m + 1 := ⟨k - 1, by omega⟩
    rw [visorref01_Low.l1]
    have : (decide ((i : Int) < (n : Int)) && decide ((i : Int) < 64)) = true := by
      rw [Bool.and_eq_true]; simp only [decide_eq_true_eq]; omega
    rw [this, wrap_i64_of (by omega) (by omega)]
    simp only [cond_true]
    have e : IntKind.u64.wrap (IntKind.u64.wrap (u (lowW i) * 2) + 1) = u (lowW (i + 1)) := by
      rw [wrap_u64, wrap_u64]
      simp only [u, lowW, BitVec.toNat_ofNat, Nat.pow_succ]
      have hp : 0 < 2 ^ i := Nat.two_pow_pos i
      omega
    rw [e]
    have := ih k (i + 1) (by omega) (by omega)
    rw [show ((i : Int) + 1) = ((i + 1 : Nat) : Int) by omega, this]
theorem ref_Low_m (k : Nat) (hk : 65 ≤ k) (n : Nat) : visorref01_Low.m k (n : Int) = some (u (lowW (min n 64))) := by
  unfold visorref01_Low.m
  have h := ref_Low_l n (min n 64) k 0 (by omega) (by omega)
  rw [show u (lowW 0) = 0 by decide, show ((0 : Nat) : Int) = 0 from rfl] at h
  rw [h]; rfl
theorem lowW_get (n i : Nat) (h : n ≤ 64) (hi : i < 64) : (lowW n).getLsbD i = decide (i < n) := by
  unfold lowW
  rw [BitVec.getLsbD_ofNat]
  simp [hi, Nat.testBit_two_pow_sub_one]
theorem shl_as (a : BitVec 64) (n : Nat) (h : n < 64) : (a &&& lowW (min (64 - n) 64)).rotateLeft (n % 64) = a <<< n := by
  apply BitVec.eq_of_getLsbD_eq
  intro i hi
  rw [BitVec.getLsbD_rotateLeft, Nat.mod_mod, Nat.mod_eq_of_lt h, BitVec.getLsbD_shiftLeft]
  by_cases h1 : i < n
  · simp only [h1, decide_true, cond_true, Bool.not_true, Bool.and_false, Bool.false_and, BitVec.getLsbD_and]
    rw [lowW_get _ _ (by omega) (by omega), decide_eq_false (by omega)]; simp
  · simp only [h1, decide_false, cond_false, hi, decide_true, Bool.not_false, Bool.true_and, BitVec.getLsbD_and]
    rw [lowW_get _ _ (by omega) (by omega), decide_eq_true (by omega)]; simp
theorem shr_as (a : BitVec 64) (n : Nat) (h : n < 64) : a.rotateLeft ((64 - n) % 64) &&& lowW (min (64 - n) 64) = a >>> n := by
  apply BitVec.eq_of_getLsbD_eq
  intro i hi
  rw [BitVec.getLsbD_and, BitVec.getLsbD_rotateLeft, Nat.mod_mod, BitVec.getLsbD_ushiftRight, lowW_get _ _ (by omega) hi]
  by_cases h1 : i < 64 - n
  · rw [decide_eq_true (show i < min (64 - n) 64 by omega), Bool.and_true]
    by_cases h0 : n = 0
    · subst h0; simp [hi]
    · have e : (64 - n) % 64 = 64 - n := by omega
      rw [e]
      simp only [h1, decide_true, cond_true]
      congr 1; omega
  · rw [decide_eq_false (show ¬ i < min (64 - n) 64 by omega), Bool.and_false]
    rw [BitVec.getLsbD_of_ge _ _ (by omega)]
/-- a word, as a number -/
def IsW (x : Int) : Prop := 0 ≤ x ∧ x ≤ 18446744073709551615
theorem IsW.u {x : Int} (h : IsW x) : ∃ b, x = Go.Vk.u b := exists_u h.1 h.2
theorem isW_u (b : BitVec 64) : IsW (Go.Vk.u b) := u_le b
theorem isW_zero : IsW 0 := ⟨by omega, by omega⟩
/-- what an op makes of numbers -/
def evalI (o : Tapi_Op) (a b d x : Int) : Int := u (evalW o.kind (BitVec.ofInt 64 o.c) (BitVec.ofInt 64 a) (BitVec.ofInt 64 b) (BitVec.ofInt 64 d) (BitVec.ofInt 64 x))
theorem evalI_w (o : Tapi_Op) (a b d x : Int) : IsW (evalI o a b d x) := isW_u _
theorem evalI_u (kind dom r s t : Int) (c a b d x : BitVec 64) : evalI ⟨kind, dom, r, s, t, u c⟩ (u a) (u b) (u d) (u x) = u (evalW kind c a b d x) := by
  unfold evalI; simp only [ofInt_u]
theorem op_Eval_w (k : Nat) (kind dom r s t : Int) (c a b d x : BitVec 64) : op_Eval.m k ⟨kind, dom, r, s, t, u c⟩ (u a) (u b) (u d) (u x) = some (u (evalW kind c a b d x)) := by
  have hm : Int.tmod (u c) 64 = ((c.toNat % 64 : Nat) : Int) := rfl
  have hlt : c.toNat % 64 < 64 := Nat.mod_lt _ (by omega)
  unfold op_Eval.m op_Eval.j1 evalW
  simp only [hm, bxor_u, bnot_u, band_u]
  rw [if_pos (show (0 : Int) ≤ ((c.toNat % 64 : Nat) : Int) by omega), wrap_i64_of (by omega) (by omega), octet_Rot_m k a _ hlt, shl_u _ (by omega), shr_u _ (by omega)]
  simp only [Option.bind_some, Int.toNat_natCast, if_pos (show (0 : Int) ≤ ((c.toNat % 64 : Nat) : Int) by omega)]
  by_cases h1 : kind = 1
  · subst h1; rfl
  by_cases h2 : kind = 2
  · subst h2; rfl
  by_cases h3 : kind = 3
  · subst h3; rfl
  by_cases h4 : kind = 4
  · subst h4; rfl
  by_cases h5 : kind = 5
  · subst h5; rfl
  by_cases h6 : kind = 6
  · subst h6; rfl
  by_cases h7 : kind = 7
  · subst h7; rfl
  by_cases h8 : kind = 8
  · subst h8; rfl
  by_cases h9 : kind = 9
  · subst h9; rfl
  by_cases h10 : kind = 10
  · subst h10; rfl
  by_cases h11 : kind = 11
  · subst h11; rfl
  by_cases h12 : kind = 12
  · subst h12; rfl
  simp only [if_neg h1, if_neg h2, if_neg h3, if_neg h4, if_neg h5, if_neg h6, if_neg h7, if_neg h8, if_neg h9, if_neg h10, if_neg h11, if_neg h12, beq_eq_false_iff_ne.2 h1, beq_eq_false_iff_ne.2 h2, beq_eq_false_iff_ne.2 h3, beq_eq_false_iff_ne.2 h4, beq_eq_false_iff_ne.2 h5, beq_eq_false_iff_ne.2 h6, beq_eq_false_iff_ne.2 h7, beq_eq_false_iff_ne.2 h8, beq_eq_false_iff_ne.2 h9, beq_eq_false_iff_ne.2 h10, beq_eq_false_iff_ne.2 h11, beq_eq_false_iff_ne.2 h12, cond_false]
  rfl
theorem ref_Eval_w (k : Nat) (hk : 65 ≤ k) (kind dom r s t : Int) (c a b d x : BitVec 64) : visorref17_Eval.m k ⟨kind, dom, r, s, t, u c⟩ (u a) (u b) (u d) (u x) = some (u (evalW kind c a b d x)) := by
  have hm : Int.tmod (u c) 64 = ((c.toNat % 64 : Nat) : Int) := rfl
  have hlt : c.toNat % 64 < 64 := Nat.mod_lt _ (by omega)
  have e1 : IntKind.i64.wrap ((c.toNat % 64 : Nat) : Int) = ((c.toNat % 64 : Nat) : Int) := wrap_i64_of (by omega) (by omega)
  have e2 : IntKind.i64.wrap (64 - ((c.toNat % 64 : Nat) : Int)) = ((64 - c.toNat % 64 : Nat) : Int) := by rw [wrap_i64_of (by omega) (by omega)]; omega
  unfold visorref17_Eval.m visorref17_Eval.j1 evalW
  simp only [Option.bind_some, hm, bxor_u, sub_u, band_u, e1, e2, ref_Low_m k hk, ref_Rot_m k hk]
  rw [shl_as a _ hlt, shr_as a _ hlt, Nat.mod_mod]
  by_cases h1 : kind = 1
  · subst h1; rfl
  by_cases h2 : kind = 2
  · subst h2; rfl
  by_cases h3 : kind = 3
  · subst h3; rfl
  by_cases h4 : kind = 4
  · subst h4; rfl
  by_cases h5 : kind = 5
  · subst h5; rfl
  by_cases h6 : kind = 6
  · subst h6; rfl
  by_cases h7 : kind = 7
  · subst h7; rfl
  by_cases h8 : kind = 8
  · subst h8; rfl
  by_cases h9 : kind = 9
  · subst h9; rfl
  by_cases h10 : kind = 10
  · subst h10; rfl
  by_cases h11 : kind = 11
  · subst h11; rfl
  by_cases h12 : kind = 12
  · subst h12; rfl
  simp only [if_neg h1, if_neg h2, if_neg h3, if_neg h4, if_neg h5, if_neg h6, if_neg h7, if_neg h8, if_neg h9, if_neg h10, if_neg h11, if_neg h12, beq_eq_false_iff_ne.2 h1, beq_eq_false_iff_ne.2 h2, beq_eq_false_iff_ne.2 h3, beq_eq_false_iff_ne.2 h4, beq_eq_false_iff_ne.2 h5, beq_eq_false_iff_ne.2 h6, beq_eq_false_iff_ne.2 h7, beq_eq_false_iff_ne.2 h8, beq_eq_false_iff_ne.2 h9, beq_eq_false_iff_ne.2 h10, beq_eq_false_iff_ne.2 h11, beq_eq_false_iff_ne.2 h12, cond_false]
  rfl
theorem op_Eval_m (k : Nat) (o : Tapi_Op) (a b d x : Int) (hc : IsW o.c) (ha : IsW a) (hb : IsW b) (hd : IsW d) (hx : IsW x) : op_Eval.m k o a b d x = some (evalI o a b d x) := by
  obtain ⟨kind, dom, r, s, t, c⟩ := o
  obtain ⟨c, rfl⟩ := hc.u; obtain ⟨a, rfl⟩ := ha.u; obtain ⟨b, rfl⟩ := hb.u; obtain ⟨d, rfl⟩ := hd.u; obtain ⟨x, rfl⟩ := hx.u
  rw [op_Eval_w, evalI_u]
theorem ref_Eval_m (k : Nat) (hk : 65 ≤ k) (o : Tapi_Op) (a b d x : Int) (hc : IsW o.c) (ha : IsW a) (hb : IsW b) (hd : IsW d) (hx : IsW x) : visorref17_Eval.m k o a b d x = some (evalI o a b d x) := by
  obtain ⟨kind, dom, r, s, t, c⟩ := o
  obtain ⟨c, rfl⟩ := hc.u; obtain ⟨a, rfl⟩ := ha.u; obtain ⟨b, rfl⟩ := hb.u; obtain ⟨d, rfl⟩ := hd.u; obtain ⟨x, rfl⟩ := hx.u
  rw [ref_Eval_w k hk, evalI_u]
/-! Which ops may be: both programs' Right is one question. -/
def opRegs (kind n : Int) : Int := if kind = 2 then n - 1 else if kind = 5 ∨ kind = 7 then 2 else if kind = 6 ∨ kind = 8 ∨ kind = 9 ∨ kind = 10 ∨ kind = 11 then 1 else if kind = 12 then n else 0
def okReg (r at' j regs : Int) : Prop := (j < regs → 0 ≤ r ∧ r < at') ∧ (regs ≤ j → r = -1)
instance (r at' j regs : Int) : Decidable (okReg r at' j regs) := by unfold okReg; infer_instance
def okConst (o : Tapi_Op) : Bool := if o.kind = 9 ∨ o.kind = 10 ∨ o.kind = 11 then decide (o.c < 64) else if o.kind = 2 then decide (o.c < 1048576) else if o.kind = 3 ∨ o.kind = 4 ∨ o.kind = 8 then true else o.c == 0
def okHead (o : Tapi_Op) (n : Int) : Prop := 1 ≤ o.kind ∧ o.kind ≤ 12 ∧ -1 ≤ o.dom ∧ o.dom < n ∧ (o.kind = 12 → o.dom = -1)
instance (o : Tapi_Op) (n : Int) : Decidable (okHead o n) := by unfold okHead; infer_instance
def okRegs (o : Tapi_Op) (at' n : Int) : Prop := okReg o.a at' 0 (opRegs o.kind n) ∧ okReg o.b at' 1 (opRegs o.kind n) ∧ okReg o.d at' 2 (opRegs o.kind n)
instance (o : Tapi_Op) (at' n : Int) : Decidable (okRegs o at' n) := by unfold okRegs; infer_instance
/-- may an op be, at a place, of so many shares? -/
def Rt (o : Tapi_Op) (at' n : Int) : Bool := decide (okHead o n) && (decide (okRegs o at' n) && okConst o)
theorem beqF {a b : Int} (h : ¬ a = b) : (a == b) = false := beq_eq_false_iff_ne.2 h
theorem op_Regs_m (k : Nat) (kind n : Int) (hn : n = 2 ∨ n = 3) : op_Regs.m k kind n = some (opRegs kind n) := by
  have hw : IntKind.i64.wrap (n - 1) = n - 1 := wrap_i64_of (by omega) (by omega)
  have h0 : ((n != 2) && (n != 3)) = false := by rcases hn with rfl | rfl <;> rfl
  unfold op_Regs.m op_Regs.j1 op_Regs.j2 opRegs
  rw [h0, cond_false, hw]
  by_cases h2 : kind = 2
  · subst h2; rfl
  by_cases h5 : kind = 5
  · subst h5; rfl
  by_cases h7 : kind = 7
  · subst h7; rfl
  by_cases h6 : kind = 6
  · subst h6; rfl
  by_cases h8 : kind = 8
  · subst h8; rfl
  by_cases h9 : kind = 9
  · subst h9; rfl
  by_cases h10 : kind = 10
  · subst h10; rfl
  by_cases h11 : kind = 11
  · subst h11; rfl
  by_cases h12 : kind = 12
  · subst h12; rfl
  simp only [h2, h5, h6, h7, h8, h9, h10, h11, h12, beqF h2, beqF h5, beqF h6, beqF h7, beqF h8, beqF h9, beqF h10, beqF h11, beqF h12, cond_false, or_self, if_false]
theorem ref_Regs_m (k : Nat) (kind n : Int) (hn : n = 2 ∨ n = 3) : visorref17_Regs.m k kind n = some (opRegs kind n) := op_Regs_m k kind n hn
theorem op_constant_m (k : Nat) (o : Tapi_Op) : op_constant.m k o = some (okConst o) := by
  unfold op_constant.m op_constant.j1 op_constant.j2 okConst
  by_cases h9 : o.kind = 9
  · rw [h9]; rfl
  by_cases h10 : o.kind = 10
  · rw [h10]; rfl
  by_cases h11 : o.kind = 11
  · rw [h11]; rfl
  by_cases h2 : o.kind = 2
  · rw [h2]; rfl
  by_cases h3 : o.kind = 3
  · rw [h3]; rfl
  by_cases h4 : o.kind = 4
  · rw [h4]; rfl
  by_cases h8 : o.kind = 8
  · rw [h8]; rfl
  simp only [h2, h3, h4, h8, h9, h10, h11, beqF h2, beqF h3, beqF h4, beqF h8, beqF h9, beqF h10, beqF h11, cond_false, or_self, if_false]
theorem op_Right_step (o : Tapi_Op) (at' v : Int) (k j : Nat) (r : Int) (hj : j < 3) (hr : getI .i64 [C.int .i64 o.a, C.int .i64 o.b, C.int .i64 o.d] j = some r) :
    op_Right.l1 o at' v (k + 1) (j : Int) = if okReg r at' j v then op_Right.l1 o at' v k ((j + 1 : Nat) : Int) else some (.inl false) := by
  have hw : IntKind.i64.wrap ((j : Int) + 1) = ((j + 1 : Nat) : Int) := by rw [wrap_i64_of (by omega) (by omega)]; omega
  conv => lhs; unfold op_Right.l1
  rw [decide_eq_true (show (j : Int) < 3 by omega), cond_true, if_pos (by omega), Int.toNat_natCast, hr, Option.bind_some, hw]
  by_cases h1 : (j : Int) < v
  · rw [decide_eq_true h1, cond_true, decide_eq_false (show ¬ (j : Int) ≥ v by omega), cond_false]
    by_cases h2 : r < 0
    · rw [decide_eq_true h2, cond_true, if_neg (by unfold okReg; omega)]
    · rw [decide_eq_false h2, cond_false]
      by_cases h3 : r ≥ at'
      · rw [decide_eq_true h3, cond_true, if_neg (by unfold okReg; omega)]
      · rw [decide_eq_false h3, cond_false, if_pos (by unfold okReg; omega)]
  · rw [decide_eq_false h1, cond_false, decide_eq_true (show (j : Int) ≥ v by omega), cond_true]
    by_cases h2 : r = -1
    · rw [show (r != -1) = false by simp [h2], cond_false, if_pos (by unfold okReg; omega)]
    · rw [show (r != -1) = true by simp [h2], cond_true, if_neg (by unfold okReg; omega)]
theorem op_Right_end (o : Tapi_Op) (at' v : Int) (k : Nat) : op_Right.l1 o at' v (k + 1) ((3 : Nat) : Int) = some (.inr ()) := by unfold op_Right.l1; rfl
theorem ref_Right_step (o : Tapi_Op) (at' n : Int) (hn : n = 2 ∨ n = 3) (k j : Nat) (r : Int) (hj : j < 3) (hr : getI .i64 [C.int .i64 o.a, C.int .i64 o.b, C.int .i64 o.d] j = some r) :
    visorref17_Right.l1 o at' n (k + 1) (j : Int) = if okReg r at' j (opRegs o.kind n) then visorref17_Right.l1 o at' n k ((j + 1 : Nat) : Int) else some (.inl false) := by
  have hw : IntKind.i64.wrap ((j : Int) + 1) = ((j + 1 : Nat) : Int) := by rw [wrap_i64_of (by omega) (by omega)]; omega
  have hj0 : 0 + ((j : Nat) : Int).toNat * 1 = j := by simp
  conv => lhs; unfold visorref17_Right.l1
  rw [decide_eq_true (show (j : Int) < 3 by omega), cond_true, ref_Regs_m _ _ _ hn, Option.bind_some, if_pos (by omega), hj0, hr, Option.bind_some, hw]
  simp only [Option.bind_some]
  generalize opRegs o.kind n = v
  by_cases h1 : (j : Int) < v
  · rw [decide_eq_true h1, cond_true]
    by_cases h2 : r < 0
    · rw [decide_eq_true h2, cond_true, if_neg (by unfold okReg; omega)]
    · rw [decide_eq_false h2, cond_false, if_pos (by omega)]
      by_cases h3 : r ≥ at'
      · rw [decide_eq_true h3, cond_true, if_neg (by unfold okReg; omega)]
      · rw [decide_eq_false h3, cond_false, decide_eq_false (show ¬ (j : Int) ≥ v by omega), cond_false, if_pos (by unfold okReg; omega)]
  · rw [decide_eq_false h1, cond_false, decide_eq_true (show (j : Int) ≥ v by omega), cond_true, if_pos (by omega)]
    by_cases h2 : r = -1
    · rw [show (r != -1) = false by simp [h2], cond_false, if_pos (by unfold okReg; omega)]
    · rw [show (r != -1) = true by simp [h2], cond_true, if_neg (by unfold okReg; omega)]
theorem ref_Right_end (o : Tapi_Op) (at' n : Int) (k : Nat) : visorref17_Right.l1 o at' n (k + 1) ((3 : Nat) : Int) = some (.inr ()) := by unfold visorref17_Right.l1; rfl
theorem op_Right_loop (o : Tapi_Op) (at' n : Int) (k : Nat) : op_Right.l1 o at' (opRegs o.kind n) (k + 4) 0 = some (if okRegs o at' n then .inr () else .inl false) := by
  have h := op_Right_step o at' (opRegs o.kind n) (k + 3) 0 o.a (by omega) rfl
  have h0 : ((0 : Nat) : Int) = 0 := rfl
  rw [h0] at h
  rw [h, op_Right_step o at' _ (k + 2) 1 o.b (by omega) rfl, op_Right_step o at' _ (k + 1) 2 o.d (by omega) rfl, op_Right_end]
  unfold okRegs
  by_cases h1 : okReg o.a at' 0 (opRegs o.kind n)
  · by_cases h2 : okReg o.b at' 1 (opRegs o.kind n)
    · by_cases h3 : okReg o.d at' 2 (opRegs o.kind n)
      · simp [h1, h2, h3]
      · simp [h1, h2, h3]
    · simp [h1, h2]
  · simp [h1]
theorem ref_Right_loop (o : Tapi_Op) (at' n : Int) (hn : n = 2 ∨ n = 3) (k : Nat) : visorref17_Right.l1 o at' n (k + 4) 0 = some (if okRegs o at' n then .inr () else .inl false) := by
  have h := ref_Right_step o at' n hn (k + 3) 0 o.a (by omega) rfl
  have h0 : ((0 : Nat) : Int) = 0 := rfl
  rw [h0] at h
  rw [h, ref_Right_step o at' n hn (k + 2) 1 o.b (by omega) rfl, ref_Right_step o at' n hn (k + 1) 2 o.d (by omega) rfl, ref_Right_end]
  unfold okRegs
  by_cases h1 : okReg o.a at' 0 (opRegs o.kind n)
  · by_cases h2 : okReg o.b at' 1 (opRegs o.kind n)
    · by_cases h3 : okReg o.d at' 2 (opRegs o.kind n)
      · simp [h1, h2, h3]
      · simp [h1, h2, h3]
    · simp [h1, h2]
  · simp [h1]
theorem op_Right_j (k : Nat) (o : Tapi_Op) (at' n : Int) (hn : n = 2 ∨ n = 3) (b : Bool) : op_Right.j1 (k + 4) o at' n b = some (!b && (decide (okRegs o at' n) && okConst o)) := by
  unfold op_Right.j1
  cases b
  · rw [cond_false, op_Regs_m _ _ _ hn, Option.bind_some, op_Right_loop, Option.bind_some, op_constant_m]
    by_cases h : okRegs o at' n
    · rw [if_pos h]; simp [h]
    · rw [if_neg h]; simp [h]
  · rfl
theorem ref_Right_j (k : Nat) (o : Tapi_Op) (at' n : Int) (hn : n = 2 ∨ n = 3) (b : Bool) : visorref17_Right.j1 (k + 4) o at' n b = some (!b && (decide (okRegs o at' n) && okConst o)) := by
  have hc : ∀ k, (bif o.kind == 9 then visorref17_Right.j2 k o (o.kind == 9) else (bif o.kind == 10 then visorref17_Right.j2 k o (o.kind == 10) else visorref17_Right.j2 k o (o.kind == 11))) = some (okConst o) := fun k => op_constant_m k o
  unfold visorref17_Right.j1
  cases b
  · rw [cond_false, ref_Right_loop o at' n hn, Option.bind_some]
    by_cases h : okRegs o at' n
    · rw [if_pos h]; simp only [hc]; simp [h]
    · rw [if_neg h]; simp [h]
  · rfl
theorem op_Right_m (k : Nat) (o : Tapi_Op) (at' n : Int) (hn : n = 2 ∨ n = 3) : op_Right.m (k + 4) o at' n = some (Rt o at' n) := by
  have h0 : ((n != 2) && (n != 3)) = false := by rcases hn with rfl | rfl <;> rfl
  unfold op_Right.m op_is.m
  rw [h0, cond_false, Option.bind_some]
  simp only [op_Right_j _ _ _ _ hn]
  unfold Rt okHead
  by_cases h1 : 1 ≤ o.kind
  · by_cases h2 : o.kind ≤ 12
    · by_cases h3 : -1 ≤ o.dom
      · by_cases h4 : o.dom < n
        · have e : ((!(decide (o.kind ≥ 1) && decide (o.kind ≤ 12)) || decide (o.dom < -1)) || decide (o.dom ≥ n)) = false := by
            simp only [Bool.or_eq_false_iff, decide_eq_false_iff_not, Bool.not_eq_false', Bool.and_eq_true, decide_eq_true_eq]; omega
          rw [e, cond_false]
          by_cases h5 : o.kind = 12
          · by_cases h6 : o.dom = -1
            · simp [h5, h6]; omega
            · have : o.dom ≥ 0 := by omega
              simp [h5, h6, this]
          · simp [h1, h2, h3, h4, h5, beqF h5]
        · have e : ((!(decide (o.kind ≥ 1) && decide (o.kind ≤ 12)) || decide (o.dom < -1)) || decide (o.dom ≥ n)) = true := by simp; omega
          rw [e, cond_true]; simp [h4]
      · have e : ((!(decide (o.kind ≥ 1) && decide (o.kind ≤ 12)) || decide (o.dom < -1)) || decide (o.dom ≥ n)) = true := by simp; omega
        rw [e, cond_true]; simp [h3]
    · have e : ((!(decide (o.kind ≥ 1) && decide (o.kind ≤ 12)) || decide (o.dom < -1)) || decide (o.dom ≥ n)) = true := by simp; omega
      rw [e, cond_true]; simp [h2]
  · have e : ((!(decide (o.kind ≥ 1) && decide (o.kind ≤ 12)) || decide (o.dom < -1)) || decide (o.dom ≥ n)) = true := by simp; omega
    rw [e, cond_true]; simp [h1]
theorem ref_Right_m (k : Nat) (o : Tapi_Op) (at' n : Int) (hn : n = 2 ∨ n = 3) : visorref17_Right.m (k + 4) o at' n = some (Rt o at' n) := by
  have h0 : ((n != 2) && (n != 3)) = false := by rcases hn with rfl | rfl <;> rfl
  unfold visorref17_Right.m
  simp only [ref_Right_j _ _ _ _ hn, h0]
  unfold Rt okHead
  by_cases h1 : 1 ≤ o.kind
  · by_cases h2 : o.kind ≤ 12
    · by_cases h3 : -1 ≤ o.dom
      · by_cases h4 : o.dom < n
        · have e : ((((false || decide (o.kind < 1)) || decide (o.kind > 12)) || decide (o.dom < -1)) || decide (o.dom ≥ n)) = false := by
            simp only [Bool.or_eq_false_iff, decide_eq_false_iff_not, true_and]; omega
          rw [e, cond_false]
          by_cases h5 : o.kind = 12
          · by_cases h6 : o.dom = -1
            · simp [h5, h6]; omega
            · simp [h5, h6]
          · simp [h1, h2, h3, h4, h5, beqF h5]
        · have e : ((((false || decide (o.kind < 1)) || decide (o.kind > 12)) || decide (o.dom < -1)) || decide (o.dom ≥ n)) = true := by simp; omega
          rw [e, cond_true]; simp [h4]
      · have e : ((((false || decide (o.kind < 1)) || decide (o.kind > 12)) || decide (o.dom < -1)) || decide (o.dom ≥ n)) = true := by simp; omega
        rw [e, cond_true]; simp [h3]
    · have e : ((((false || decide (o.kind < 1)) || decide (o.kind > 12)) || decide (o.dom < -1)) || decide (o.dom ≥ n)) = true := by simp; omega
      rw [e, cond_true]; simp [h2]
  · have e : ((((false || decide (o.kind < 1)) || decide (o.kind > 12)) || decide (o.dom < -1)) || decide (o.dom ≥ n)) = true := by simp; omega
    rw [e, cond_true]; simp [h1]
/-! A machine's Do, as one total function. -/
def atI (v : List Int) (r : Int) : Int := if 0 ≤ r ∧ r < (v.length : Int) then v.getD r.toNat 0 else 0
theorem atI_w {v : List Int} (hv : ∀ x ∈ v, IsW x) (r : Int) : IsW (atI v r) := by
  unfold atI
  split
  · rename_i h
    have hlt : r.toNat < v.length := by omega
    rw [List.getD_eq_getElem?_getD, List.getElem?_eq_getElem hlt]; exact hv _ (List.getElem_mem hlt)
  · exact isW_zero
theorem atI_neg {v : List Int} {r : Int} (h : r < 0) : atI v r = 0 := by unfold atI; rw [if_neg (by omega)]
theorem atI_append {v : List Int} {r : Int} (h : r < (v.length : Int)) (l : List Int) : atI (v ++ l) r = atI v r := by
  unfold atI
  by_cases h0 : 0 ≤ r
  · have hlt : r.toNat < v.length := by omega
    rw [if_pos (show 0 ≤ r ∧ r < ((v ++ l).length : Int) from ⟨h0, by rw [List.length_append]; omega⟩), if_pos (show 0 ≤ r ∧ r < (v.length : Int) from ⟨h0, h⟩), List.getD_eq_getElem?_getD, List.getD_eq_getElem?_getD, List.getElem?_append_left hlt]
  · rw [if_neg (by omega), if_neg (by omega)]
/-- registers of an op that may be -/
theorem Rt_regs {o : Tapi_Op} {at' n : Int} (h : Rt o at' n = true) (h0 : 0 ≤ at') : (o.a < 0 ∨ o.a < at') ∧ (o.b < 0 ∨ o.b < at') ∧ (o.d < 0 ∨ o.d < at') := by
  unfold Rt at h
  simp only [Bool.and_eq_true, decide_eq_true_eq] at h
  obtain ⟨h1, h2, h3⟩ := h.2.1
  unfold okReg at h1 h2 h3
  omega
/-! ops that are made, one by one -/
def cnt (kd : Int) (l : List Tapi_Op) : Nat := l.countP fun o => o.kind == kd
theorem cnt_le (kd : Int) (l : List Tapi_Op) : cnt kd l ≤ l.length := List.countP_le_length
/-- blocks in order, from 'last' on, within so many ops -/
def BlOk (len : Int) : Int → List Tapi_Span → Prop
  | _, [] => True
  | last, b :: l => 1 ≤ b.kind ∧ b.kind ≤ 3 ∧ last ≤ b.fromF ∧ b.fromF < b.to ∧ b.to ≤ len ∧ BlOk len b.to l
def lastTo : Int → List Tapi_Span → Int
  | last, [] => last
  | _, b :: l => lastTo b.to l
theorem BlOk.mono {len len' : Int} (hl : len ≤ len') : ∀ {l : List Tapi_Span} {last : Int}, BlOk len last l → BlOk len' last l
  | [], _, _ => trivial
  | b :: l, _, ⟨h1, h2, h3, h4, h5, h6⟩ => ⟨h1, h2, h3, h4, by omega, BlOk.mono hl h6⟩
theorem BlOk.count {len : Int} : ∀ {l : List Tapi_Span} {last : Int}, BlOk len last l → last + (l.length : Int) ≤ lastTo last l ∧ (last ≤ len → lastTo last l ≤ len)
  | [], last, _ => by simp [lastTo]
  | b :: l, last, ⟨h1, h2, h3, h4, h5, h6⟩ => by
    have := BlOk.count h6
    simp only [lastTo, List.length_cons]; omega
/-! Traces: both looks at a trace are one question; how many ops of each kind there are; runs. -/
def ordB (len : Int) : Int → List Tapi_Span → Bool
  | _, [] => true
  | last, b :: l => !((((decide (b.kind < 1) || decide (b.kind > 3)) || decide (b.fromF < last)) || decide (b.to ≤ b.fromF)) || decide (b.to > len)) && ordB len b.to l
theorem ordB_cons (len last : Int) (b : Tapi_Span) (l : List Tapi_Span) : ordB len last (b :: l) = (!((((decide (b.kind < 1) || decide (b.kind > 3)) || decide (b.fromF < last)) || decide (b.to ≤ b.fromF)) || decide (b.to > len)) && ordB len b.to l) := rfl
def opsB (n : Int) : Nat → Nat → List Tapi_Op → Bool
  | _, _, [] => true
  | i, w, o :: l => Rt o (i : Int) n && ((o.kind != 2 || o.c == (w : Int)) && opsB n (i + 1) (if o.kind = 2 then w + 1 else w) l)
def trB (t : Tapi_Trace) : Bool := (((t.n == 2) || (t.n == 3)) && decide (t.ops.length ≤ 1048576)) && (ordB (t.ops.length : Int) 0 t.blocks && opsB t.n 0 0 t.ops)
theorem wrapS {x : Int} (h0 : -9223372036854775808 ≤ x) (h1 : x ≤ 9223372036854775807) : IntKind.i64.wrap x = x := wrap_i64_of (by omega) (by omega)
theorem wrapN {i : Nat} (h : i < 4611686018427387904) : IntKind.i64.wrap ((i : Int) + 1) = ((i + 1 : Nat) : Int) := by rw [wrapS (by omega) (by omega)]; omega
theorem drop_cons {α : Type} {l : List α} {i : Nat} (h : i < l.length) : l.drop i = l[i] :: l.drop (i + 1) := List.drop_eq_getElem_cons h
theorem ordered_l {t : Tapi_Trace} (hb : t.blocks.length < 4611686018427387904) : ∀ (d i k : Nat) (last : Int), i + d = t.blocks.length → d < k → trace_ordered.l1 t k last (i : Int) = some (if ordB (t.ops.length : Int) last (t.blocks.drop i) = true then .inr () else .inl false)
  | 0, i, k, last, hi, hk => by
    obtain ⟨k, rfl⟩ : ∃ j, k = j + 1 := ⟨k - 1, by omega⟩
    unfold trace_ordered.l1
    rw [decide_eq_false (by omega), cond_false, List.drop_of_length_le (by omega)]; rfl
  | d + 1, i, k, last, hi, hk => by
    obtain ⟨k, rfl⟩ : ∃ j, k = j + 1 := ⟨k - 1, by omega⟩
    have hlt : i < t.blocks.length := by omega
    have ih := ordered_l hb d (i + 1) k t.blocks[i].to (by omega) (by omega)
    unfold trace_ordered.l1
    rw [decide_eq_true (by omega), cond_true, if_pos (by omega), Int.toNat_natCast, List.getElem?_eq_getElem hlt, Option.bind_some, wrapN (by omega), ih, drop_cons hlt, ordB_cons]
    show (bif ((((decide (t.blocks[i].kind < 1) || decide (t.blocks[i].kind > 3)) || decide (t.blocks[i].fromF < last)) || decide (t.blocks[i].to ≤ t.blocks[i].fromF)) || decide (t.blocks[i].to > ((t.ops.length : Nat) : Int))) then _ else _) = _
    cases ((((decide (t.blocks[i].kind < 1) || decide (t.blocks[i].kind > 3)) || decide (t.blocks[i].fromF < last)) || decide (t.blocks[i].to ≤ t.blocks[i].fromF)) || decide (t.blocks[i].to > ((t.ops.length : Nat) : Int)))
    · rfl
    · rfl
theorem rOrd_l {t : Tapi_Trace} (hb : t.blocks.length < 4611686018427387904) : ∀ (d i k : Nat) (last : Int), i + d = t.blocks.length → d < k → visorref18_Right.l2 t k last (i : Int) = some (if ordB (t.ops.length : Int) last (t.blocks.drop i) = true then .inr () else .inl false)
  | 0, i, k, last, hi, hk => by
    obtain ⟨k, rfl⟩ : ∃ j, k = j + 1 := ⟨k - 1, by omega⟩
    unfold visorref18_Right.l2
    rw [decide_eq_false (by omega), cond_false, List.drop_of_length_le (by omega)]; rfl
  | d + 1, i, k, last, hi, hk => by
    obtain ⟨k, rfl⟩ : ∃ j, k = j + 1 := ⟨k - 1, by omega⟩
    have hlt : i < t.blocks.length := by omega
    have ih := rOrd_l hb d (i + 1) k t.blocks[i].to (by omega) (by omega)
    unfold visorref18_Right.l2
    rw [decide_eq_true (by omega), cond_true, if_pos (by omega), Int.toNat_natCast, List.getElem?_eq_getElem hlt, Option.bind_some, wrapN (by omega), ih, drop_cons hlt, ordB_cons]
    cases ((((decide (t.blocks[i].kind < 1) || decide (t.blocks[i].kind > 3)) || decide (t.blocks[i].fromF < last)) || decide (t.blocks[i].to ≤ t.blocks[i].fromF)) || decide (t.blocks[i].to > ((t.ops.length : Nat) : Int)))
    · rfl
    · rfl
theorem wrapU {w : Nat} (h : w < 4611686018427387904) : IntKind.u64.wrap ((w : Int) + 1) = ((w + 1 : Nat) : Int) := by rw [wrap_u64_of (by omega) (by omega)]; omega
theorem check_l {t : Tapi_Trace} (hn : t.n = 2 ∨ t.n = 3) (hlen : t.ops.length ≤ 1048576) : ∀ (d i k w : Nat), i + d = t.ops.length → d + 5 ≤ k → w ≤ i → trace_Check.l1 t k (w : Int) (i : Int) = some (if opsB t.n i w (t.ops.drop i) = true then .inr () else .inl 4)
  | 0, i, k, w, hi, hk, _ => by
    obtain ⟨k, rfl⟩ : ∃ j, k = j + 1 := ⟨k - 1, by omega⟩
    unfold trace_Check.l1
    rw [decide_eq_false (by omega), cond_false, List.drop_of_length_le (by omega)]; rfl
  | d + 1, i, k, w, hi, hk, hw => by
    obtain ⟨k, rfl⟩ : ∃ j, k = j + 4 + 1 := ⟨k - 5, by omega⟩
    have hlt : i < t.ops.length := by omega
    have ih0 := check_l hn hlen d (i + 1) (k + 4) w (by omega) (by omega) (by omega)
    have ih1 := check_l hn hlen d (i + 1) (k + 4) (w + 1) (by omega) (by omega) (by omega)
    unfold trace_Check.l1
    rw [decide_eq_true (by omega), cond_true, if_pos (by omega), Int.toNat_natCast, List.getElem?_eq_getElem hlt, Option.bind_some, op_Right_m _ _ _ _ hn, Option.bind_some, drop_cons hlt]
    unfold opsB trace_Check.j2
    generalize t.ops[i] = o
    cases Rt o (i : Int) t.n
    · rfl
    · rw [Bool.not_true, cond_false, Bool.true_and, wrapN (by omega)]
      by_cases k2 : o.kind = 2
      · rw [show (o.kind != 2) = false by simp [k2], cond_false, Bool.false_or, if_pos k2]
        by_cases hc : o.c = (w : Int)
        · rw [show (o.c != (w : Int)) = false by simp [hc], cond_false, show (o.c == (w : Int)) = true by simp [hc], Bool.true_and, wrapU (by omega), ih1]
        · rw [show (o.c != (w : Int)) = true by simp [hc], cond_true, beqF hc, Bool.false_and]; rfl
      · rw [show (o.kind != 2) = true by simp [k2], cond_true, Bool.true_or, if_neg k2, Bool.true_and, ih0]
theorem rRight_l {t : Tapi_Trace} (hn : t.n = 2 ∨ t.n = 3) (hlen : t.ops.length ≤ 1048576) : ∀ (d i k w : Nat), i + d = t.ops.length → d + 5 ≤ k → w ≤ i → visorref18_Right.l1 t k (w : Int) (i : Int) = some (if opsB t.n i w (t.ops.drop i) = true then .inr () else .inl false)
  | 0, i, k, w, hi, hk, _ => by
    obtain ⟨k, rfl⟩ : ∃ j, k = j + 1 := ⟨k - 1, by omega⟩
    unfold visorref18_Right.l1
    rw [decide_eq_false (by omega), cond_false, List.drop_of_length_le (by omega)]; rfl
  | d + 1, i, k, w, hi, hk, hw => by
    obtain ⟨k, rfl⟩ : ∃ j, k = j + 4 + 1 := ⟨k - 5, by omega⟩
    have hlt : i < t.ops.length := by omega
    have ih0 := rRight_l hn hlen d (i + 1) (k + 4) w (by omega) (by omega) (by omega)
    have ih1 := rRight_l hn hlen d (i + 1) (k + 4) (w + 1) (by omega) (by omega) (by omega)
    unfold visorref18_Right.l1
    rw [decide_eq_true (by omega), cond_true, if_pos (by omega), Int.toNat_natCast, List.getElem?_eq_getElem hlt, Option.bind_some, ref_Right_m _ _ _ _ hn, Option.bind_some, drop_cons hlt]
    unfold opsB visorref18_Right.j1
    generalize t.ops[i] = o
    cases Rt o (i : Int) t.n
    · rfl
    · rw [Bool.not_true, cond_false, Bool.true_and, if_pos (by omega), Option.bind_some, wrapN (by omega)]
      by_cases k2 : o.kind = 2
      · rw [show (o.kind == 2) = true by simp [k2], cond_true, if_pos (by omega), Option.bind_some, show (o.kind != 2) = false by simp [k2], Bool.false_or, if_pos k2]
        by_cases hc : o.c = (w : Int)
        · rw [show (o.c != (w : Int)) = false by simp [hc], cond_false, show (o.c == (w : Int)) = true by simp [hc], Bool.true_and, wrapU (by omega), ih1]
        · rw [show (o.c != (w : Int)) = true by simp [hc], cond_true, beqF hc, Bool.false_and]; rfl
      · rw [beqF k2, cond_false, show (o.kind != 2) = true by simp [k2], Bool.true_or, if_neg k2, Bool.true_and, ih0]
theorem nOk (n : Int) : ((n != 2) && (n != 3)) = !((n == 2) || (n == 3)) := by simp [bne]
theorem Check_m {t : Tapi_Trace} (hb : t.blocks.length < 4611686018427387904) {k : Nat} (hk : t.ops.length + t.blocks.length + 5 ≤ k) : trace_Check.m k t = some (if trB t = true then 0 else 4) := by
  unfold trace_Check.m trace_Check.j1 trB
  rw [nOk]
  by_cases hn : t.n = 2 ∨ t.n = 3
  · have e : ((t.n == 2) || (t.n == 3)) = true := by rcases hn with e | e <;> simp [e]
    rw [e, Bool.not_true, Bool.false_or, Bool.true_and]
    by_cases hl : t.ops.length ≤ 1048576
    · rw [decide_eq_false (by omega), cond_false, decide_eq_true hl, Bool.true_and]
      have e1 := ordered_l hb t.blocks.length 0 k 0 (by omega) (by omega)
      have e2 := check_l hn hl t.ops.length 0 k 0 (by omega) (by omega) (by omega)
      rw [List.drop_zero] at e1 e2
      unfold trace_ordered.m
      rw [show (0 : Int) = ((0 : Nat) : Int) from rfl] at *
      rw [e1, Option.bind_some, e2]
      cases ordB ((t.ops.length : Nat) : Int) ((0 : Nat) : Int) t.blocks
      · rfl
      · cases opsB t.n 0 0 t.ops <;> rfl
    · rw [decide_eq_true (by omega), cond_true, decide_eq_false hl]; rfl
  · have e : ((t.n == 2) || (t.n == 3)) = false := by
      rw [Bool.or_eq_false_iff, beq_eq_false_iff_ne, beq_eq_false_iff_ne]; omega
    rw [e]; rfl
theorem rRight_m {t : Tapi_Trace} (hb : t.blocks.length < 4611686018427387904) {k : Nat} (hk : t.ops.length + t.blocks.length + 5 ≤ k) : visorref18_Right.m k t = some (trB t) := by
  unfold visorref18_Right.m trB
  rw [nOk]
  by_cases hn : t.n = 2 ∨ t.n = 3
  · have e : ((t.n == 2) || (t.n == 3)) = true := by rcases hn with e | e <;> simp [e]
    rw [e, Bool.not_true, Bool.false_or, Bool.true_and]
    by_cases hl : t.ops.length ≤ 1048576
    · rw [decide_eq_false (by omega), cond_false, decide_eq_true hl, Bool.true_and]
      have e1 := rOrd_l hb t.blocks.length 0 k 0 (by omega) (by omega)
      have e2 := rRight_l hn hl t.ops.length 0 k 0 (by omega) (by omega) (by omega)
      rw [List.drop_zero] at e1 e2
      rw [show (0 : Int) = ((0 : Nat) : Int) from rfl] at *
      rw [e2]
      cases opsB t.n 0 0 t.ops
      · simp
      · rw [if_pos rfl, Option.bind_some]
        dsimp only
        rw [e1]
        cases ordB ((t.ops.length : Nat) : Int) ((0 : Nat) : Int) t.blocks <;> rfl
    · rw [decide_eq_true (by omega), cond_true, decide_eq_false hl]; rfl
  · have e : ((t.n == 2) || (t.n == 3)) = false := by
      rw [Bool.or_eq_false_iff, beq_eq_false_iff_ne, beq_eq_false_iff_ne]; omega
    rw [e]; rfl
/-! tallies -/
def ix13 (kd : Int) : Nat := if kd < 1 ∨ 12 < kd then 0 else kd.toNat
def cs13 (f : Nat → Nat) : Cells := (List.range 13).map fun i => ci ((f i : Nat) : Int)
def bump (f : Nat → Nat) (j : Nat) : Nat → Nat := fun i => if i = j then f i + 1 else f i
theorem cs13_len (f : Nat → Nat) : (cs13 f).length = 13 := by simp [cs13]
theorem cs13_at (f : Nat → Nat) {j : Nat} (h : j < 13) : (cs13 f)[j]? = some (ci ((f j : Nat) : Int)) := by simp [cs13, h]
theorem cs13_get (f : Nat → Nat) {j : Nat} (h : j < 13) : getI .i64 (cs13 f) j = some ((f j : Nat) : Int) := by unfold getI; rw [cs13_at f h]; rfl
theorem cs13_set (f : Nat → Nat) {j : Nat} (h : j < 13) : (cs13 f).set j (ci ((f j + 1 : Nat) : Int)) = cs13 (bump f j) := by
  apply List.ext_getElem?
  intro i
  rw [List.getElem?_set, cs13_len]
  by_cases hi : i < 13
  · rw [cs13_at _ hi, cs13_at _ hi]
    unfold bump
    by_cases e : j = i
    · subst e; rw [if_pos rfl, if_pos h, if_pos rfl]
    · rw [if_neg e, if_neg (fun e' => e e'.symm)]
  · rw [if_neg (by omega), List.getElem?_eq_none (by rw [cs13_len]; omega), List.getElem?_eq_none (by rw [cs13_len]; omega)]
def talF : List Tapi_Op → (Nat → Nat) → Nat → Nat
  | [], f => f
  | o :: l, f => talF l (bump f (ix13 o.kind))
theorem talF_cnt (j : Nat) (hj : 0 < j ∧ j < 13) : ∀ (l : List Tapi_Op) (f : Nat → Nat), talF l f j = f j + cnt (j : Int) l
  | [], _ => rfl
  | o :: l, f => by
    unfold talF
    rw [talF_cnt j hj l]
    unfold bump cnt ix13
    rw [List.countP_cons]
    by_cases e : o.kind = (j : Int)
    · rw [if_neg (show ¬ (o.kind < 1 ∨ 12 < o.kind) by omega), if_pos (by omega), if_pos (by simp [e])]; omega
    · rw [if_neg (show ¬ j = _ by split <;> omega), if_neg (by simp [e])]; omega
theorem tally_l {t : Tapi_Trace} (hl : t.ops.length < 4611686018427387904) : ∀ (d i k : Nat) (f : Nat → Nat), (∀ j, f j ≤ i) → i + d = t.ops.length → d < k → trace_Tally.l1 t k (cs13 f) (i : Int) = some (cs13 (talF (t.ops.drop i) f))
  | 0, i, k, f, _, hi, hk => by
    obtain ⟨k, rfl⟩ : ∃ j, k = j + 1 := ⟨k - 1, by omega⟩
    unfold trace_Tally.l1
    rw [decide_eq_false (by omega), cond_false, List.drop_of_length_le (by omega)]; rfl
  | d + 1, i, k, f, hf, hi, hk => by
    obtain ⟨k, rfl⟩ : ∃ j, k = j + 1 := ⟨k - 1, by omega⟩
    have hlt : i < t.ops.length := by omega
    have hb : ∀ j q, bump f q j ≤ i + 1 := fun j q => by have := hf j; unfold bump; split <;> omega
    unfold trace_Tally.l1
    rw [decide_eq_true (by omega), cond_true, if_pos (by omega), Int.toNat_natCast, List.getElem?_eq_getElem hlt, Option.bind_some, drop_cons hlt]
    generalize t.ops[i] = o
    unfold trace_Tally.j1 talF ix13
    by_cases h : o.kind < 1 ∨ 12 < o.kind
    · rw [show (decide (o.kind < 1) || decide (o.kind > 12)) = true by rw [Bool.or_eq_true, decide_eq_true_eq, decide_eq_true_eq]; omega, cond_true, cs13_get f (by omega), Option.bind_some, if_pos (by rw [cs13_len]; omega), wrapN (by have := hf 0; omega), cs13_set f (by omega), wrapN (by omega), if_pos h]
      exact tally_l hl d (i + 1) k _ (fun j => hb j 0) (by omega) (by omega)
    · obtain ⟨j, hj⟩ : ∃ j : Nat, o.kind = (j : Int) := ⟨o.kind.toNat, by omega⟩
      have hj13 : 1 ≤ j ∧ j < 13 := by omega
      rw [if_neg h, hj]
      rw [show (decide ((j : Int) < 1) || decide ((j : Int) > 12)) = false by rw [Bool.or_eq_false_iff, decide_eq_false_iff_not, decide_eq_false_iff_not]; omega, cond_false, if_pos (by omega), show (0 + (j : Int).toNat * 1) = j by omega, cs13_get f (by omega), Option.bind_some, if_pos (by omega), if_pos (by rw [cs13_len]; omega), wrapN (by have := hf j; omega), cs13_set f (by omega), wrapN (by omega), Int.toNat_natCast]
      exact tally_l hl d (i + 1) k _ (fun q => hb q j) (by omega) (by omega)
theorem rTally_l {t : Tapi_Trace} (hl : t.ops.length < 4611686018427387904) : ∀ (d i k : Nat) (f : Nat → Nat), (∀ j, f j ≤ i) → i + d = t.ops.length → d < k → visorref18_Tally.l1 t k (cs13 f) (i : Int) = some (cs13 (talF (t.ops.drop i) f))
  | 0, i, k, f, _, hi, hk => by
    obtain ⟨k, rfl⟩ : ∃ j, k = j + 1 := ⟨k - 1, by omega⟩
    unfold visorref18_Tally.l1
    rw [decide_eq_false (by omega), cond_false, List.drop_of_length_le (by omega)]; rfl
  | d + 1, i, k, f, hf, hi, hk => by
    obtain ⟨k, rfl⟩ : ∃ j, k = j + 1 := ⟨k - 1, by omega⟩
    have hlt : i < t.ops.length := by omega
    have hb : ∀ j q, bump f q j ≤ i + 1 := fun j q => by have := hf j; unfold bump; split <;> omega
    have one : ∀ j : Nat, j < 13 → visorref18_Tally.j1 k (visorref18_Tally.l1 t k) (cs13 f) (i : Int) (j : Int) = some (cs13 (talF (t.ops.drop (i + 1)) (bump f j))) := by
      intro j hj
      unfold visorref18_Tally.j1
      rw [if_pos (by omega), show (0 + (j : Int).toNat * 1) = j by omega, cs13_get f hj, Option.bind_some, if_pos (by omega), if_pos (by rw [cs13_len]; omega), wrapN (by have := hf j; omega), cs13_set f hj, wrapN (by omega)]
      exact rTally_l hl d (i + 1) k _ (fun q => hb q j) (by omega) (by omega)
    unfold visorref18_Tally.l1
    rw [decide_eq_true (by omega), cond_true, if_pos (by omega), Int.toNat_natCast, List.getElem?_eq_getElem hlt, Option.bind_some, drop_cons hlt]
    generalize t.ops[i] = o
    unfold talF ix13
    by_cases h : o.kind < 1 ∨ 12 < o.kind
    · rw [show (decide (o.kind < 1) || decide (o.kind > 12)) = true by rw [Bool.or_eq_true, decide_eq_true_eq, decide_eq_true_eq]; omega, cond_true, if_pos h]
      exact one 0 (by omega)
    · obtain ⟨j, hj⟩ : ∃ j : Nat, o.kind = (j : Int) := ⟨o.kind.toNat, by omega⟩
      have hj13 : 1 ≤ j ∧ j < 13 := by omega
      rw [if_neg h, hj]
      rw [show (decide ((j : Int) < 1) || decide ((j : Int) > 12)) = false by rw [Bool.or_eq_false_iff, decide_eq_false_iff_not, decide_eq_false_iff_not]; omega, cond_false, Int.toNat_natCast]
      exact one j (by omega)
def tal (t : Tapi_Trace) : Nat → Nat := talF t.ops fun _ => 0
theorem tal_at (t : Tapi_Trace) (j : Nat) (hj : 0 < j ∧ j < 13) : tal t j = cnt (j : Int) t.ops := by unfold tal; rw [talF_cnt j hj]; omega
theorem cs13_0 : ([ci 0, ci 0, ci 0, ci 0, ci 0, ci 0, ci 0, ci 0, ci 0, ci 0, ci 0, ci 0, ci 0] : Cells) = cs13 fun _ => 0 := rfl
theorem Tally_m {t : Tapi_Trace} (hl : t.ops.length < 4611686018427387904) {k : Nat} (hk : t.ops.length < k) : trace_Tally.m k t = some (cs13 (tal t)) := by
  unfold trace_Tally.m tal
  have e := tally_l hl t.ops.length 0 k (fun _ => 0) (fun _ => Nat.le_refl _) (by omega) hk
  rw [List.drop_zero] at e
  rw [cs13_0, show (0 : Int) = ((0 : Nat) : Int) from rfl, e, Option.bind_some, if_pos (cs13_len _)]
theorem rTally_m {t : Tapi_Trace} (hl : t.ops.length < 4611686018427387904) {k : Nat} (hk : t.ops.length < k) : visorref18_Tally.m k t = some (cs13 (tal t)) := by
  unfold visorref18_Tally.m tal
  have e := rTally_l hl t.ops.length 0 k (fun _ => 0) (fun _ => Nat.le_refl _) (by omega) hk
  rw [List.drop_zero] at e
  rw [cs13_0, show (0 : Int) = ((0 : Nat) : Int) from rfl, e, Option.bind_some, if_pos (cs13_len _)]
theorem Words_m {t : Tapi_Trace} (hl : t.ops.length < 4611686018427387904) {k : Nat} (hk : t.ops.length < k) : trace_Words.m k t = some ((cnt 2 t.ops : Nat) : Int) := by
  unfold trace_Words.m
  rw [Tally_m hl hk, Option.bind_some, if_pos (by omega), cs13_get _ (by omega), Option.bind_some, tal_at t 2 (by omega)]; rfl
theorem Draws_m {t : Tapi_Trace} (hl : t.ops.length < 4611686018427387904) {k : Nat} (hk : t.ops.length < k) : trace_Draws.m k t = some ((cnt 1 t.ops : Nat) : Int) := by
  unfold trace_Draws.m
  rw [Tally_m hl hk, Option.bind_some, if_pos (by omega), cs13_get _ (by omega), Option.bind_some, tal_at t 1 (by omega)]; rfl
/-! runs -/
def outX (K M : List Int) (bl : Bool) (m : Nat) (e : Tapi_Op) : Int := if e.kind = 1 then M.getD m 0 else if e.kind = 2 ∧ bl = false then K.getD e.c.toNat 0 else 0
def newX (K M O : List Int) (bl : Bool) (m o : Nat) (v : List Int) (e : Tapi_Op) : Int := if e.kind = 12 ∧ bl = true then O.getD o 0 else evalI e (atI v e.a) (atI v e.b) (atI v e.d) (outX K M bl m e)
def stM (e : Tapi_Op) (m : Nat) : Nat := if e.kind = 1 then m + 1 else m
def stO (bl : Bool) (e : Tapi_Op) (o : Nat) : Nat := if e.kind = 12 ∧ bl = true then o + 1 else o
def runF (K M O : List Int) (bl : Bool) : Nat → Nat → List Int → List Tapi_Op → List Int
  | _, _, v, [] => v
  | m, o, v, e :: l => runF K M O bl (stM e m) (stO bl e o) (v ++ [newX K M O bl m o v e]) l
theorem runF_len (K M O : List Int) (bl : Bool) : ∀ (l : List Tapi_Op) (m o : Nat) (v : List Int), (runF K M O bl m o v l).length = v.length + l.length
  | [], _, _, _ => rfl
  | e :: l, m, o, v => by unfold runF; rw [runF_len K M O bl l, List.length_append, List.length_cons, List.length_cons, List.length_nil]; omega
def runOk (n : Int) (K M O : List Int) (bl : Bool) : Nat → Nat → Nat → List Tapi_Op → Prop
  | _, _, _, [] => True
  | i, m, o, e :: l => Rt e (i : Int) n = true ∧ IsW e.c ∧ (e.kind = 1 → m < M.length) ∧ (e.kind = 2 → bl = false → e.c.toNat < K.length) ∧ (e.kind = 12 → bl = true → o < O.length) ∧ runOk n K M O bl (i + 1) (stM e m) (stO bl e o) l
theorem cnt_cons (kd : Int) (o : Tapi_Op) (l : List Tapi_Op) : cnt kd (o :: l) = cnt kd l + (if o.kind = kd then 1 else 0) := by
  unfold cnt
  rw [List.countP_cons]
  by_cases h : o.kind = kd <;> simp [h]
theorem runOk_of {n : Int} {K M O : List Int} {bl : Bool} : ∀ (l : List Tapi_Op) (i w m o : Nat), opsB n i w l = true → (∀ e ∈ l, IsW e.c) → m + cnt 1 l ≤ M.length → (bl = false → w + cnt 2 l ≤ K.length) → (bl = true → o + cnt 12 l ≤ O.length) → runOk n K M O bl i m o l
  | [], _, _, _, _, _, _, _, _, _ => trivial
  | e :: l, i, w, m, o, h, hc, hm, hk, ho => by
    unfold opsB at h
    rw [Bool.and_eq_true, Bool.and_eq_true] at h
    obtain ⟨h1, h2, h3⟩ := h
    rw [cnt_cons] at hm hk ho
    refine ⟨h1, hc e (List.mem_cons_self ..), fun k1 => ?_, fun k2 hb => ?_, fun k3 hb => ?_, runOk_of l (i + 1) _ _ _ h3 (fun x hx => hc x (List.mem_cons_of_mem _ hx)) ?_ ?_ ?_⟩
    · rw [if_pos k1] at hm; omega
    · have := hk hb
      rw [if_pos k2] at this
      rw [Bool.or_eq_true, bne_iff_ne, beq_iff_eq] at h2
      have : e.c = (w : Int) := h2.resolve_left (fun h => h k2)
      rw [this, Int.toNat_natCast]; omega
    · have := ho hb
      rw [if_pos k3] at this; omega
    · unfold stM
      by_cases k1 : e.kind = 1
      · rw [if_pos k1] at hm ⊢; omega
      · rw [if_neg k1] at hm ⊢; omega
    · intro hb
      have := hk hb
      by_cases k2 : e.kind = 2
      · rw [if_pos k2] at this ⊢; omega
      · rw [if_neg k2] at this ⊢; omega
    · intro hb
      have := ho hb
      unfold stO
      by_cases k3 : e.kind = 12
      · rw [if_pos k3] at this; rw [if_pos ⟨k3, hb⟩]; omega
      · rw [if_neg k3] at this; rw [if_neg (fun h => k3 h.1)]; omega
theorem at_step {β : Type} {v : List Int} {r : Int} (h : r < 0 ∨ r < (v.length : Int)) (F : Int → Option β) : (bif decide (r < 0) then F 0 else (if 0 ≤ r then (v[r.toNat]?).bind F else none)) = F (atI v r) := by
  by_cases h0 : r < 0
  · rw [decide_eq_true h0, cond_true, atI_neg h0]
  · have hlt : r.toNat < v.length := by omega
    rw [decide_eq_false h0, cond_false, if_pos (by omega), List.getElem?_eq_getElem hlt, Option.bind_some]
    unfold atI
    rw [if_pos (by omega), List.getD_eq_getElem?_getD, List.getElem?_eq_getElem hlt]; rfl
theorem getD_w {l : List Int} (h : ∀ x ∈ l, IsW x) (i : Nat) : IsW (l.getD i 0) := by
  rw [List.getD_eq_getElem?_getD]
  by_cases hi : i < l.length
  · rw [List.getElem?_eq_getElem hi]; exact h _ (List.getElem_mem hi)
  · rw [List.getElem?_eq_none (by omega)]; exact isW_zero
theorem outX_w {K M : List Int} (hK : ∀ x ∈ K, IsW x) (hM : ∀ x ∈ M, IsW x) (bl : Bool) (m : Nat) (e : Tapi_Op) : IsW (outX K M bl m e) := by
  unfold outX
  repeat' split
  · exact getD_w hM _
  · exact getD_w hK _
  · exact isW_zero
theorem newX_w {K M O : List Int} (hO : ∀ x ∈ O, IsW x) (bl : Bool) (m o : Nat) (v : List Int) (e : Tapi_Op) : IsW (newX K M O bl m o v e) := by
  unfold newX
  split
  · exact getD_w hO _
  · exact evalI_w _ _ _ _ _
theorem snoc_w {v : List Int} {x : Int} (hv : ∀ x ∈ v, IsW x) (hx : IsW x) : ∀ y ∈ v ++ [x], IsW y := fun y hy => by
  rcases List.mem_append.1 hy with h | h
  · exact hv y h
  · rw [List.mem_singleton.1 h]; exact hx
theorem drop_at0 {l : List Int} {m : Nat} (h : m < l.length) : (l.drop m)[0]? = some (l.getD m 0) := by
  rw [List.getElem?_drop, List.getD_eq_getElem?_getD, Nat.add_zero, List.getElem?_eq_getElem h]; rfl
theorem cut1 (l : List Int) (m : Nat) : cut (l.drop m) 1 (l.drop m).length = l.drop (m + 1) := by
  unfold cut
  rw [List.take_length, List.drop_drop]
theorem get_getD {l : List Int} {m : Nat} (h : m < l.length) : l[m]? = some (l.getD m 0) := by
  rw [List.getD_eq_getElem?_getD, List.getElem?_eq_getElem h]; rfl
/-! The program's runs, and the document's. -/
section
variable {n : Int} {K M O : List Int} {bl : Bool}
theorem all_l {t : Tapi_Trace} (hK : ∀ x ∈ K, IsW x) (hM : ∀ x ∈ M, IsW x) (hO : ∀ x ∈ O, IsW x) (hl : t.ops.length ≤ 1048576) (M0 O0 : List Int) : ∀ (d i k m o : Nat) (v : List Int), i + d = t.ops.length → d < k → v.length = i → (∀ x ∈ v, IsW x) → runOk n K M O bl i m o (t.ops.drop i) →
    ∃ P Q, replay_all.l1 t ⟨K, M0, O0, bl⟩ k (M.drop m) (O.drop o) v (i : Int) v = some (runF K M O bl m o v (t.ops.drop i), P, Q)
  | 0, i, k, m, o, v, hi, hk, hv, _, _ => by
    obtain ⟨k, rfl⟩ : ∃ j, k = j + 1 := ⟨k - 1, by omega⟩
    unfold replay_all.l1
    rw [decide_eq_false (by omega), cond_false, List.drop_of_length_le (l := t.ops) (by omega)]
    exact ⟨_, _, rfl⟩
  | d + 1, i, k, m, o, v, hi, hk, hv, hvw, hr => by
    obtain ⟨k, rfl⟩ : ∃ j, k = j + 1 := ⟨k - 1, by omega⟩
    have hlt : i < t.ops.length := by omega
    rw [drop_cons hlt] at hr
    obtain ⟨r1, r2, r3, r4, r5, r6⟩ := hr
    have ih := all_l hK hM hO hl M0 O0 d (i + 1) k (stM t.ops[i] m) (stO bl t.ops[i] o) (v ++ [newX K M O bl m o v t.ops[i]]) (by omega) (by omega) (by simp [hv]) (snoc_w hvw (newX_w hO ..)) r6
    obtain ⟨P, Q, ih⟩ := ih
    refine ⟨P, Q, ?_⟩
    have hg := Rt_regs r1 (by omega)
    rw [drop_cons hlt]
    unfold replay_all.l1
    rw [decide_eq_true (by omega), cond_true, if_pos (by omega), Int.toNat_natCast, List.getElem?_eq_getElem hlt, Option.bind_some]
    unfold runF
    rw [← ih]
    generalize t.ops[i] = e at *
    have hb : (v.length + 1) * 8 ≤ 140737488355328 := by omega
    have j3 : ∀ (p q : List Int) (x : Int), replay_all.j3 k (replay_all.l1 t ⟨K, M0, O0, bl⟩ k) v (i : Int) v p q x = replay_all.l1 t ⟨K, M0, O0, bl⟩ k p q (v ++ [x]) ((i + 1 : Nat) : Int) (v ++ [x]) := by
      intro p q x
      unfold replay_all.j3
      rw [if_pos (by simpa using hb), if_pos (by simpa using hb), wrapN (by omega)]
    have hx := outX_w hK hM bl m e
    have j2 : ∀ p : List Int, replay_all.j2 k (replay_all.l1 t ⟨K, M0, O0, bl⟩ k) ⟨K, M0, O0, bl⟩ (O.drop o) v (i : Int) v e (atI v e.a) (atI v e.b) (atI v e.d) (outX K M bl m e) p = replay_all.l1 t ⟨K, M0, O0, bl⟩ k p (O.drop (stO bl e o)) (v ++ [newX K M O bl m o v e]) ((i + 1 : Nat) : Int) (v ++ [newX K M O bl m o v e]) := by
      intro p
      unfold replay_all.j2
      rw [op_Eval_m k e _ _ _ _ r2 (atI_w hvw _) (atI_w hvw _) (atI_w hvw _) hx, Option.bind_some]
      by_cases c : e.kind = 12 ∧ bl = true
      · have ho := r5 c.1 c.2
        rw [show ((e.kind == 12) && bl) = true by rw [c.2, Bool.and_true, beq_iff_eq]; exact c.1, cond_true, if_pos (by omega), drop_at0 ho, Option.bind_some, if_pos (by rw [List.length_drop]; omega), cut1, j3]
        unfold stO newX
        rw [if_pos c, if_pos c]
      · rw [show ((e.kind == 12) && bl) = false by
          rw [Bool.and_eq_false_iff, beq_eq_false_iff_ne]
          by_cases h : e.kind = 12
          · exact .inr (by cases bl <;> simp_all)
          · exact .inl h, cond_false, j3]
        unfold stO newX
        rw [if_neg c, if_neg c]
    rw [at_step (by omega) (fun x => replay_all.j1 k (replay_all.l1 t ⟨K, M0, O0, bl⟩ k) ⟨K, M0, O0, bl⟩ (M.drop m) (O.drop o) v (i : Int) v e x)]
    unfold replay_all.j1
    rw [at_step (by omega) (fun x => replay_all.j1_2 k (replay_all.l1 t ⟨K, M0, O0, bl⟩ k) ⟨K, M0, O0, bl⟩ (M.drop m) (O.drop o) v (i : Int) v e (atI v e.a) x)]
    unfold replay_all.j1_2
    rw [at_step (by omega) (fun x => replay_all.j1_3 k (replay_all.l1 t ⟨K, M0, O0, bl⟩ k) ⟨K, M0, O0, bl⟩ (M.drop m) (O.drop o) v (i : Int) v e (atI v e.a) (atI v e.b) x)]
    unfold replay_all.j1_3
    by_cases k1 : e.kind = 1
    · have hm := r3 k1
      rw [show (e.kind == 1) = true by simp [k1], cond_true, if_pos (by omega), drop_at0 hm, Option.bind_some, if_pos (by rw [List.length_drop]; omega), cut1]
      have e1 : M.getD m 0 = outX K M bl m e := by unfold outX; rw [if_pos k1]
      rw [e1, j2]
      unfold stM
      rw [if_pos k1]
    · rw [beqF k1, cond_false]
      have hs : stM e m = m := if_neg k1
      rw [hs]
      by_cases c : e.kind = 2 ∧ bl = false
      · have hk := r4 c.1 c.2
        rw [show ((e.kind == 2) && !bl) = true by rw [c.2]; simp [c.1], cond_true, if_pos r2.1, get_getD hk, Option.bind_some]
        have e1 : K.getD e.c.toNat 0 = outX K M bl m e := by unfold outX; rw [if_neg k1, if_pos c]
        rw [e1, j2]
      · rw [show ((e.kind == 2) && !bl) = false by
          rw [Bool.and_eq_false_iff, beq_eq_false_iff_ne]
          by_cases h : e.kind = 2
          · exact .inr (by cases bl <;> simp_all)
          · exact .inl h, cond_false]
        have e1 : 0 = outX K M bl m e := by unfold outX; rw [if_neg k1, if_neg c]
        rw [e1, j2]
theorem all_m {t : Tapi_Trace} (hK : ∀ x ∈ K, IsW x) (hM : ∀ x ∈ M, IsW x) (hO : ∀ x ∈ O, IsW x) (hl : t.ops.length ≤ 1048576) (hr : runOk n K M O bl 0 0 0 t.ops) {k : Nat} (hk : t.ops.length < k) : replay_all.m k t ⟨K, M, O, bl⟩ = some (runF K M O bl 0 0 [] t.ops) := by
  unfold replay_all.m
  obtain ⟨P, Q, e⟩ := all_l (n := n) hK hM hO hl M O t.ops.length 0 k 0 0 [] (by omega) hk rfl (fun _ h => by cases h) (by rw [List.drop_zero]; exact hr)
  rw [List.drop_zero, List.drop_zero, List.drop_zero] at e
  rw [if_pos (by omega), if_pos (by omega)]
  show (replay_all.l1 t ⟨K, M, O, bl⟩ k M O [] ((0 : Nat) : Int) []).bind _ = _
  rw [e]; rfl
theorem Word_m (k : Nat) (v : List Int) (r : Int) : visorref29_Word.m k v r = some (atI v r) := by
  unfold visorref29_Word.m
  by_cases h0 : r < 0
  · rw [decide_eq_true h0, Bool.true_or, cond_true, atI_neg h0]
  · by_cases h1 : r < (v.length : Int)
    · have hlt : r.toNat < v.length := by omega
      rw [decide_eq_false h0, Bool.false_or, decide_eq_false (by omega), cond_false, if_pos (by omega), List.getElem?_eq_getElem hlt, Option.bind_some]
      unfold atI
      rw [if_pos (by omega), List.getD_eq_getElem?_getD, List.getElem?_eq_getElem hlt]; rfl
    · rw [decide_eq_false h0, Bool.false_or, decide_eq_true (by omega), cond_true]
      unfold atI
      rw [if_neg (by omega)]
theorem set_mid (v : List Int) (x y : Int) (l : List Int) : (v ++ y :: l).set v.length x = v ++ x :: l := by
  rw [List.set_append_right _ _ (Nat.le_refl _), Nat.sub_self]; rfl
theorem get_mid (v : List Int) (y : Int) (l : List Int) : (v ++ y :: l)[v.length]? = some y := by
  rw [List.getElem?_append_right (Nat.le_refl _), Nat.sub_self]; rfl
theorem play_l {t : Tapi_Trace} (hK : ∀ x ∈ K, IsW x) (hM : ∀ x ∈ M, IsW x) (hO : ∀ x ∈ O, IsW x) (hl : t.ops.length ≤ 1048576) : ∀ (d i k m o : Nat) (v : List Int), i + d = t.ops.length → d + 65 < k → v.length = i → m ≤ i → o ≤ i → (∀ x ∈ v, IsW x) → runOk n K M O bl i m o (t.ops.drop i) →
    visorref29_Play.l1 t K O M bl k (v ++ List.replicate d 0) (m : Int) (o : Int) (i : Int) = some (runF K M O bl m o v (t.ops.drop i))
  | 0, i, k, m, o, v, hi, hk, hv, _, _, _, _ => by
    obtain ⟨k, rfl⟩ : ∃ j, k = j + 1 := ⟨k - 1, by omega⟩
    unfold visorref29_Play.l1
    rw [decide_eq_false (by omega), cond_false, List.drop_of_length_le (by omega), List.replicate_zero, List.append_nil]; rfl
  | d + 1, i, k, m, o, v, hi, hk, hv, hm0, ho0, hvw, hr => by
    obtain ⟨k, rfl⟩ : ∃ j, k = j + 1 := ⟨k - 1, by omega⟩
    have hlt : i < t.ops.length := by omega
    rw [drop_cons hlt] at hr
    obtain ⟨r1, r2, r3, r4, r5, r6⟩ := hr
    have ih := play_l hK hM hO hl d (i + 1) k (stM t.ops[i] m) (stO bl t.ops[i] o) (v ++ [newX K M O bl m o v t.ops[i]]) (by omega) (by omega) (by simp [hv]) (by unfold stM; split <;> omega) (by unfold stO; split <;> omega) (snoc_w hvw (newX_w hO ..)) r6
    have hg := Rt_regs r1 (by omega)
    rw [drop_cons hlt]
    unfold visorref29_Play.l1
    rw [decide_eq_true (by omega), cond_true, if_pos (by omega), Int.toNat_natCast, List.getElem?_eq_getElem hlt, Option.bind_some]
    unfold runF
    rw [← ih]
    generalize t.ops[i] = e at *
    have hx := outX_w hK hM bl m e
    obtain ⟨R, hR⟩ : ∃ R, R = visorref29_Play.l1 t K O M bl k := ⟨_, rfl⟩
    rw [← hR]
    have j2 : ∀ p : Nat, visorref29_Play.j2 k R O bl (v ++ List.replicate (d + 1) 0) (o : Int) (i : Int) e (p : Int) (outX K M bl m e) = R (v ++ [newX K M O bl m o v e] ++ List.replicate d 0) (p : Int) ((stO bl e o : Nat) : Int) ((i + 1 : Nat) : Int) := by
      intro p
      unfold visorref29_Play.j2
      rw [Word_m, Option.bind_some, Word_m, Option.bind_some, Word_m, Option.bind_some, atI_append (by omega), atI_append (by omega), atI_append (by omega), ref_Eval_m k (by omega) e _ _ _ _ r2 (atI_w hvw _) (atI_w hvw _) (atI_w hvw _) hx, Option.bind_some, if_pos (by omega), Int.toNat_natCast, List.replicate_succ, ← hv, get_mid, Option.bind_some, set_mid]
      unfold visorref29_Play.j3
      by_cases c : e.kind = 12 ∧ bl = true
      · have ho := r5 c.1 c.2
        rw [show ((e.kind == 12) && bl) = true by rw [c.2, Bool.and_true, beq_iff_eq]; exact c.1, cond_true, if_pos (by omega), Int.toNat_natCast, get_getD ho, Option.bind_some, if_pos (by omega), get_mid, Option.bind_some, set_mid, wrapN (by omega), wrapN (by omega)]
        unfold stO newX
        rw [if_pos c, if_pos c, List.append_assoc]; rfl
      · rw [show ((e.kind == 12) && bl) = false by
          rw [Bool.and_eq_false_iff, beq_eq_false_iff_ne]
          by_cases h : e.kind = 12
          · exact .inr (by cases bl <;> simp_all)
          · exact .inl h, cond_false, wrapN (by omega)]
        unfold stO newX
        rw [if_neg c, if_neg c, List.append_assoc]; rfl
    have j1 : ∀ p : Nat, ∀ x : Int, (¬ (e.kind = 2 ∧ bl = false) → x = outX K M bl m e) → visorref29_Play.j1 k R K O bl (v ++ List.replicate (d + 1) 0) (o : Int) (i : Int) e (p : Int) x = R (v ++ [newX K M O bl m o v e] ++ List.replicate d 0) (p : Int) ((stO bl e o : Nat) : Int) ((i + 1 : Nat) : Int) := by
      intro p x hx
      unfold visorref29_Play.j1
      by_cases c : e.kind = 2 ∧ bl = false
      · have hk := r4 c.1 c.2
        have e1 : K.getD e.c.toNat 0 = outX K M bl m e := by unfold outX; rw [if_neg (by omega), if_pos c]
        rw [show ((e.kind == 2) && !bl) = true by rw [c.2]; simp [c.1], cond_true, if_pos r2.1, get_getD hk, Option.bind_some, e1, j2]
      · rw [show ((e.kind == 2) && !bl) = false by
          rw [Bool.and_eq_false_iff, beq_eq_false_iff_ne]
          by_cases h : e.kind = 2
          · exact .inr (by cases bl <;> simp_all)
          · exact .inl h, cond_false, hx c, j2]
    by_cases k1 : e.kind = 1
    · have hm := r3 k1
      have e1 : M.getD m 0 = outX K M bl m e := by unfold outX; rw [if_pos k1]
      rw [show (e.kind == 1) = true by simp [k1], cond_true, if_pos (by omega), Int.toNat_natCast, get_getD hm, Option.bind_some, e1, wrapN (by omega), j1 (m + 1) _ (fun _ => rfl)]
      unfold stM
      rw [if_pos k1]
    · have hs : stM e m = m := if_neg k1
      rw [beqF k1, cond_false, j1 m 0 (fun c => by unfold outX; rw [if_neg k1, if_neg c]), hs]
theorem play_m {t : Tapi_Trace} (hK : ∀ x ∈ K, IsW x) (hM : ∀ x ∈ M, IsW x) (hO : ∀ x ∈ O, IsW x) (hl : t.ops.length ≤ 1048576) (hr : runOk n K M O bl 0 0 0 t.ops) {k : Nat} (hk : t.ops.length + 65 < k) : visorref29_Play.m k t K O M bl = some (runF K M O bl 0 0 [] t.ops) := by
  unfold visorref29_Play.m
  have e := play_l (n := n) hK hM hO hl t.ops.length 0 k 0 0 [] (by omega) (by omega) rfl (by omega) (by omega) (fun _ h => by cases h) (by rw [List.drop_zero]; exact hr)
  rw [List.drop_zero, List.nil_append] at e
  rw [if_pos (by omega), Int.toNat_natCast]
  show (visorref29_Play.l1 t K O M bl k (List.replicate t.ops.length 0) ((0 : Nat) : Int) ((0 : Nat) : Int) ((0 : Nat) : Int)).bind _ = _
  rw [e]; rfl
end
theorem same29_l (a : List Int) (hl : a.length < 4611686018427387904) : ∀ (d i k : Nat), i + d = a.length → d < k → visorref29_Same.l1 a a k (i : Int) = some (.inr ())
  | 0, i, k, hi, hk => by
    obtain ⟨k, rfl⟩ : ∃ j, k = j + 1 := ⟨k - 1, by omega⟩
    unfold visorref29_Same.l1
    rw [decide_eq_false (by omega), cond_false]
  | d + 1, i, k, hi, hk => by
    obtain ⟨k, rfl⟩ : ∃ j, k = j + 1 := ⟨k - 1, by omega⟩
    have hlt : i < a.length := by omega
    unfold visorref29_Same.l1
    rw [decide_eq_true (by omega), cond_true, if_pos (by omega), Int.toNat_natCast, List.getElem?_eq_getElem hlt, Option.bind_some, if_pos (by omega), Option.bind_some, bne_self_eq_false, cond_false, wrapN (by omega)]
    exact same29_l a hl d (i + 1) k (by omega) (by omega)
theorem same29 (a : List Int) (hl : a.length < 4611686018427387904) {k : Nat} (hk : a.length < k) : visorref29_Same.m k a a = some true := by
  unfold visorref29_Same.m
  have e := same29_l a hl a.length 0 k (by omega) hk
  rw [show (0 : Int) = ((0 : Nat) : Int) from rfl, bne_self_eq_false, cond_false, e]; rfl
/-! What is joined. -/
def laterR (r : Int) (b : Nat) : Int := if 0 ≤ r then r + (b : Int) else r
def laterO (b w : Nat) (e : Tapi_Op) : Tapi_Op := ⟨e.kind, e.dom, laterR e.a b, laterR e.b b, laterR e.d b, if e.kind = 2 then e.c + (w : Int) else e.c⟩
def laterS (b : Nat) (s : Tapi_Span) : Tapi_Span := ⟨s.kind, s.fromF + (b : Int), s.to + (b : Int)⟩
theorem later_m (k : Nat) (e : Tapi_Op) (b w : Nat) (hb : b ≤ 1048576) (hw : w ≤ 1048576) (ha : e.a < 1048576 ∧ e.b < 1048576 ∧ e.d < 1048576) (hc : e.kind = 2 → 0 ≤ e.c ∧ e.c < 1048576) : replay_later.m k e (b : Int) (w : Int) = some (laterO b w e) := by
  obtain ⟨kind, dom, a, b', d, c⟩ := e
  dsimp only at ha hc
  have j3 : ∀ a b' : Int, replay_later.j1_3 k (w : Int) ⟨kind, dom, a, b', laterR d b, c⟩ = some ⟨kind, dom, a, b', laterR d b, if kind = 2 then c + (w : Int) else c⟩ := by
    intro a b'
    unfold replay_later.j1_3 replay_later.j2
    by_cases h : kind = 2
    · have := hc h
      dsimp only
      rw [show (kind == 2) = true by simp [h], cond_true, if_pos h, wrap_u64_of (x := (w : Int)) (by omega) (by omega), wrap_u64_of (by omega) (by omega)]
    · dsimp only
      rw [beqF h, cond_false, if_neg h]
  have j2 : ∀ a b' : Int, replay_later.j1_2 k (b : Int) (w : Int) ⟨kind, dom, a, b', d, c⟩ = some ⟨kind, dom, a, b', laterR d b, if kind = 2 then c + (w : Int) else c⟩ := by
    intro a b'
    unfold replay_later.j1_2
    dsimp only
    rw [← j3 a b']
    unfold laterR
    by_cases h : 0 ≤ d
    · rw [if_pos h, decide_eq_true (show d ≥ 0 from h), cond_true, wrapS (by omega) (by omega)]
    · rw [if_neg h, decide_eq_false (show ¬ d ≥ 0 from h), cond_false]
  have j1 : ∀ a : Int, replay_later.j1 k (b : Int) (w : Int) ⟨kind, dom, a, b', d, c⟩ = some ⟨kind, dom, a, laterR b' b, laterR d b, if kind = 2 then c + (w : Int) else c⟩ := by
    intro a
    unfold replay_later.j1
    dsimp only
    rw [← j2 a (laterR b' b)]
    unfold laterR
    by_cases h : 0 ≤ b'
    · rw [if_pos h, decide_eq_true (show b' ≥ 0 from h), cond_true, wrapS (by omega) (by omega)]
    · rw [if_neg h, decide_eq_false (show ¬ b' ≥ 0 from h), cond_false]
  unfold replay_later.m laterO
  dsimp only
  rw [← j1 (laterR a b)]
  unfold laterR
  by_cases h : 0 ≤ a
  · rw [if_pos h, decide_eq_true (show a ≥ 0 from h), cond_true, wrapS (by omega) (by omega)]
  · rw [if_neg h, decide_eq_false (show ¬ a ≥ 0 from h), cond_false]
/-- ops whose registers and constants are small -/
def small (e : Tapi_Op) : Prop := (e.a < 1048576 ∧ e.b < 1048576 ∧ e.d < 1048576) ∧ (e.kind = 2 → 0 ≤ e.c ∧ e.c < 1048576)
theorem join_l1 (x0 x1 : Tapi_Trace) (w : Nat) (hw : w ≤ 1048576) (h0 : x0.ops.length ≤ 1048576) (h1 : x1.ops.length ≤ 1048576) (hs : ∀ e ∈ x1.ops, small e) (n : Int) (B : List Tapi_Span) : ∀ (d i k : Nat) (A : List Tapi_Op), i + d = x1.ops.length → d < k → A.length ≤ 1048576 + i →
    replay_Join.l1 x0 x1 (w : Int) k ⟨n, A, B⟩ (i : Int) = some ⟨n, A ++ (x1.ops.drop i).map (laterO x0.ops.length w), B⟩
  | 0, i, k, A, hi, hk, _ => by
    obtain ⟨k, rfl⟩ : ∃ j, k = j + 1 := ⟨k - 1, by omega⟩
    unfold replay_Join.l1
    rw [decide_eq_false (by omega), cond_false, List.drop_of_length_le (by omega), List.map_nil, List.append_nil]
  | d + 1, i, k, A, hi, hk, ha => by
    obtain ⟨k, rfl⟩ : ∃ j, k = j + 1 := ⟨k - 1, by omega⟩
    have hlt : i < x1.ops.length := by omega
    have hsm := hs _ (List.getElem_mem hlt)
    unfold replay_Join.l1
    rw [decide_eq_true (by omega), cond_true, if_pos (by omega), Int.toNat_natCast, List.getElem?_eq_getElem hlt, Option.bind_some, later_m k _ _ _ h0 hw hsm.1 hsm.2, Option.bind_some, if_pos (by simp only [List.length_cons, List.length_nil]; omega), wrapN (by omega), drop_cons hlt, List.map_cons]
    dsimp only
    rw [join_l1 x0 x1 w hw h0 h1 hs n B d (i + 1) k _ (by omega) (by omega) (by simp; omega), List.append_assoc]; rfl
theorem join_l2 (x0 x1 : Tapi_Trace) (h0 : x0.ops.length ≤ 1048576) (h1 : x1.blocks.length ≤ 1048576) (hs : ∀ s ∈ x1.blocks, 0 ≤ s.fromF ∧ s.fromF < s.to ∧ s.to ≤ 1048576) (n : Int) (A : List Tapi_Op) : ∀ (d i k : Nat) (B : List Tapi_Span), i + d = x1.blocks.length → d < k → B.length ≤ 1048576 + i →
    replay_Join.l2 x0 x1 k ⟨n, A, B⟩ (i : Int) = some ⟨n, A, B ++ (x1.blocks.drop i).map (laterS x0.ops.length)⟩
  | 0, i, k, B, hi, hk, _ => by
    obtain ⟨k, rfl⟩ : ∃ j, k = j + 1 := ⟨k - 1, by omega⟩
    unfold replay_Join.l2
    rw [decide_eq_false (by omega), cond_false, List.drop_of_length_le (by omega), List.map_nil, List.append_nil]
  | d + 1, i, k, B, hi, hk, ha => by
    obtain ⟨k, rfl⟩ : ∃ j, k = j + 1 := ⟨k - 1, by omega⟩
    have hlt : i < x1.blocks.length := by omega
    have hsm := hs _ (List.getElem_mem hlt)
    unfold replay_Join.l2
    rw [decide_eq_true (by omega), cond_true, if_pos (by omega), Int.toNat_natCast, List.getElem?_eq_getElem hlt, Option.bind_some, if_pos (by simp only [List.length_cons, List.length_nil]; omega), wrapN (by omega), drop_cons hlt, List.map_cons, wrapS (by omega) (by omega), wrapS (by omega) (by omega)]
    dsimp only
    rw [join_l2 x0 x1 h0 h1 hs n A d (i + 1) k _ (by omega) (by omega) (by simp; omega), List.append_assoc]; rfl
theorem BlOk_cons (len last : Int) (b : Tapi_Span) (l : List Tapi_Span) : BlOk len last (b :: l) = (1 ≤ b.kind ∧ b.kind ≤ 3 ∧ last ≤ b.fromF ∧ b.fromF < b.to ∧ b.to ≤ len ∧ BlOk len b.to l) := rfl
theorem opsB_cons (n : Int) (i w : Nat) (o : Tapi_Op) (l : List Tapi_Op) : opsB n i w (o :: l) = (Rt o (i : Int) n && ((o.kind != 2 || o.c == (w : Int)) && opsB n (i + 1) (if o.kind = 2 then w + 1 else w) l)) := rfl
theorem ordB_iff (len : Int) : ∀ (l : List Tapi_Span) (last : Int), ordB len last l = true ↔ BlOk len last l
  | [], last => by simp [ordB, BlOk]
  | b :: l, last => by
    rw [ordB_cons, Bool.and_eq_true, ordB_iff len l, BlOk_cons]
    simp only [Bool.not_eq_true', Bool.or_eq_false_iff, decide_eq_false_iff_not]
    constructor
    · rintro ⟨h, h6⟩; exact ⟨by omega, by omega, by omega, by omega, by omega, h6⟩
    · rintro ⟨h1, h2, h3, h4, h5, h6⟩; exact ⟨by omega, h6⟩
theorem BlOk.app {len : Int} : ∀ {l l' : List Tapi_Span} {last : Int}, BlOk len last l → BlOk len (lastTo last l) l' → BlOk len last (l ++ l')
  | [], _, _, _, h => h
  | _ :: _, _, _, ⟨h1, h2, h3, h4, h5, h6⟩, h => ⟨h1, h2, h3, h4, h5, BlOk.app h6 h⟩
theorem BlOk.lower {len last last' : Int} (hl : last' ≤ last) : ∀ {l : List Tapi_Span}, BlOk len last l → BlOk len last' l
  | [], _ => trivial
  | _ :: _, ⟨h1, h2, h3, h4, h5, h6⟩ => ⟨h1, h2, by omega, h4, h5, h6⟩
theorem BlOk.shift {len : Int} (b : Nat) : ∀ {l : List Tapi_Span} {last : Int}, BlOk len last l → BlOk (len + (b : Int)) (last + (b : Int)) (l.map (laterS b))
  | [], _, _ => trivial
  | s :: l, last, ⟨h1, h2, h3, h4, h5, h6⟩ => ⟨h1, h2, by show last + (b : Int) ≤ s.fromF + (b : Int); omega, by show s.fromF + (b : Int) < s.to + (b : Int); omega, by show s.to + (b : Int) ≤ len + (b : Int); omega, BlOk.shift b h6⟩
theorem BlOk.span {len : Int} : ∀ {l : List Tapi_Span} {last : Int}, 0 ≤ last → BlOk len last l → ∀ s ∈ l, 0 ≤ s.fromF ∧ s.fromF < s.to ∧ s.to ≤ len
  | [], _, _, _, _, h => by cases h
  | b :: l, last, h0, ⟨h1, h2, h3, h4, h5, h6⟩, s, hs => by
    rcases List.mem_cons.1 hs with rfl | h
    · exact ⟨by omega, h4, h5⟩
    · exact BlOk.span (by omega) h6 s h
theorem cnt_app (kd : Int) (l l' : List Tapi_Op) : cnt kd (l ++ l') = cnt kd l + cnt kd l' := by unfold cnt; rw [List.countP_append]
theorem cnt_later (kd : Int) (b w : Nat) : ∀ (l : List Tapi_Op), cnt kd (l.map (laterO b w)) = cnt kd l
  | [] => rfl
  | e :: l => by rw [List.map_cons, cnt_cons, cnt_cons, cnt_later kd b w l]; rfl
theorem opsB_app (n : Int) : ∀ (l l' : List Tapi_Op) (i w : Nat), opsB n i w (l ++ l') = (opsB n i w l && opsB n (i + l.length) (w + cnt 2 l) l')
  | [], _, i, w => rfl
  | e :: l, l', i, w => by
    rw [List.cons_append, opsB_cons, opsB_cons, opsB_app n l l', cnt_cons, List.length_cons, Bool.and_assoc, Bool.and_assoc, show i + 1 + l.length = i + (l.length + 1) by omega]
    by_cases h : e.kind = 2
    · rw [if_pos h, if_pos h, show w + 1 + cnt 2 l = w + (cnt 2 l + 1) by omega]
    · rw [if_neg h, if_neg h]; rfl
theorem okReg_later {r at' j regs : Int} (b : Nat) (h : okReg r at' j regs) : okReg (laterR r b) (at' + (b : Int)) j regs := by
  unfold okReg laterR at *
  refine ⟨fun hj => ?_, fun hj => ?_⟩
  · have := h.1 hj; rw [if_pos this.1]; omega
  · have := h.2 hj; rw [if_neg (by omega)]; exact this
theorem Rt_later {e : Tapi_Op} {i : Nat} {n : Int} (b w : Nat) (h : Rt e (i : Int) n = true) (hc : e.kind = 2 → e.c + (w : Int) < 1048576) : Rt (laterO b w e) ((i + b : Nat) : Int) n = true := by
  unfold Rt at *
  simp only [Bool.and_eq_true, decide_eq_true_eq] at *
  obtain ⟨h1, ⟨h2, h3, h4⟩, h5⟩ := h
  rw [show ((i + b : Nat) : Int) = (i : Int) + (b : Int) by omega]
  refine ⟨h1, ⟨okReg_later b h2, okReg_later b h3, okReg_later b h4⟩, ?_⟩
  unfold okConst laterO at *
  dsimp only
  by_cases h9 : e.kind = 9 ∨ e.kind = 10 ∨ e.kind = 11
  · rw [if_pos h9] at *; rw [if_neg (by omega)]; exact h5
  · rw [if_neg h9] at *
    by_cases h2 : e.kind = 2
    · rw [if_pos h2] at *; rw [if_pos h2]; exact decide_eq_true (hc h2)
    · rw [if_neg h2] at *; rw [if_neg h2]; exact h5
theorem opsB_later {n : Int} (b w0 : Nat) : ∀ (l : List Tapi_Op) (i w : Nat), w0 + w + cnt 2 l ≤ 1048576 → opsB n i w l = true → opsB n (i + b) (w0 + w) (l.map (laterO b w0)) = true
  | [], _, _, _, _ => rfl
  | e :: l, i, w, hw, h => by
    unfold opsB at h
    rw [cnt_cons] at hw
    rw [Bool.and_eq_true, Bool.and_eq_true] at h
    obtain ⟨h1, h2, h3⟩ := h
    rw [List.map_cons]
    unfold opsB
    rw [Bool.and_eq_true, Bool.and_eq_true]
    rw [Bool.or_eq_true, bne_iff_ne, beq_iff_eq] at h2
    have hk : (laterO b w0 e).kind = e.kind := rfl
    refine ⟨Rt_later b w0 h1 (fun k2 => ?_), ?_, ?_⟩
    · have := h2.resolve_left (fun h => h k2)
      rw [if_pos k2] at hw; omega
    · rw [hk, Bool.or_eq_true, bne_iff_ne, beq_iff_eq]
      by_cases k2 : e.kind = 2
      · have := h2.resolve_left (fun h => h k2)
        right
        show (if e.kind = 2 then e.c + (w0 : Int) else e.c) = _
        rw [if_pos k2]; omega
      · exact .inl k2
    · rw [hk]
      by_cases k2 : e.kind = 2
      · rw [if_pos k2] at h3 hw ⊢
        have := opsB_later b w0 l (i + 1) (w + 1) (by omega) h3
        rw [show i + b + 1 = i + 1 + b by omega, show w0 + w + 1 = w0 + (w + 1) by omega]; exact this
      · rw [if_neg k2] at h3 hw ⊢
        have := opsB_later b w0 l (i + 1) w (by omega) h3
        rw [show i + b + 1 = i + 1 + b by omega]; exact this
theorem opsB_small {n : Int} (hn : n = 2 ∨ n = 3) : ∀ (l : List Tapi_Op) (i w : Nat), i + l.length ≤ 1048576 → w + cnt 2 l ≤ 1048576 → opsB n i w l = true → ∀ e ∈ l, small e
  | [], _, _, _, _, _, _, h => by cases h
  | e :: l, i, w, hi, hw, h, x, hx => by
    unfold opsB at h
    rw [cnt_cons] at hw
    rw [List.length_cons] at hi
    rw [Bool.and_eq_true, Bool.and_eq_true] at h
    obtain ⟨h1, h2, h3⟩ := h
    rw [Bool.or_eq_true, bne_iff_ne, beq_iff_eq] at h2
    rcases List.mem_cons.1 hx with rfl | hx
    · have := Rt_regs h1 (by omega)
      refine ⟨by omega, fun k2 => ?_⟩
      have := h2.resolve_left (fun h => h k2)
      rw [if_pos k2] at hw; omega
    · by_cases k2 : e.kind = 2
      · rw [if_pos k2] at h3 hw
        exact opsB_small hn l (i + 1) (w + 1) (by omega) (by omega) h3 x hx
      · rw [if_neg k2] at h3 hw
        exact opsB_small hn l (i + 1) w (by omega) (by omega) h3 x hx
def joinT (a b : Tapi_Trace) : Tapi_Trace := ⟨a.n, a.ops ++ b.ops.map (laterO a.ops.length (cnt 2 a.ops)), a.blocks ++ b.blocks.map (laterS a.ops.length)⟩
theorem trB_parts {t : Tapi_Trace} (h : trB t = true) : (t.n = 2 ∨ t.n = 3) ∧ t.ops.length ≤ 1048576 ∧ BlOk (t.ops.length : Int) 0 t.blocks ∧ opsB t.n 0 0 t.ops = true := by
  unfold trB at h
  simp only [Bool.and_eq_true, Bool.or_eq_true, beq_iff_eq, decide_eq_true_eq] at h
  exact ⟨h.1.1, h.1.2, (ordB_iff _ _ _).1 h.2.1, h.2.2⟩
theorem trB_join {a b : Tapi_Trace} (ha : trB a = true) (hb : trB b = true) (hn : a.n = b.n) (hl : a.ops.length + b.ops.length ≤ 1048576) : trB (joinT a b) = true := by
  obtain ⟨a1, a2, a3, a4⟩ := trB_parts ha
  obtain ⟨b1, b2, b3, b4⟩ := trB_parts hb
  have hc := cnt_le 2 a.ops
  have hd := cnt_le 2 b.ops
  unfold trB joinT
  simp only [Bool.and_eq_true, Bool.or_eq_true, beq_iff_eq, decide_eq_true_eq, List.length_append, List.length_map]
  refine ⟨⟨a1, hl⟩, (ordB_iff _ _ _).2 ?_, ?_⟩
  · refine (a3.mono (by omega)).app ?_
    have h := a3.count
    have := b3.shift a.ops.length
    rw [show ((a.ops.length + b.ops.length : Nat) : Int) = (b.ops.length : Int) + (a.ops.length : Int) by omega]
    exact this.lower (by omega)
  · rw [opsB_app, a4, Bool.true_and]
    have := opsB_later (n := a.n) a.ops.length (cnt 2 a.ops) b.ops 0 0 (by omega) (hn ▸ b4)
    rw [show 0 + cnt 2 a.ops = cnt 2 a.ops + 0 by omega]; exact this
theorem Join_m {a b : Tapi_Trace} (h0 : a.ops.length ≤ 200) (h1 : b.ops.length ≤ 200) (g0 : a.blocks.length < 4611686018427387904) (g1 : b.blocks.length < 4611686018427387904) {k : Nat} (hk : a.ops.length + a.blocks.length + b.ops.length + b.blocks.length + 10 ≤ k) :
    replay_Join.m k a b = some (if trB a = true ∧ trB b = true ∧ a.n = b.n then (joinT a b, 0) else (⟨0, [], []⟩, 4)) := by
  unfold replay_Join.m
  rw [Check_m g0 (by omega), Option.bind_some]
  by_cases ha : trB a = true
  · rw [if_pos ha, show ((0 : Int) != 0) = false from rfl, cond_false, Check_m g1 (by omega), Option.bind_some, wrapS (by omega) (by omega), decide_eq_false (show ¬ ((a.ops.length : Nat) : Int) + ((b.ops.length : Nat) : Int) > 1048576 by omega), Bool.or_false]
    unfold replay_Join.j1
    by_cases hb : trB b = true
    · rw [if_pos hb, show ((0 : Int) != 0) = false from rfl, Bool.false_or]
      by_cases hn : a.n = b.n
      · obtain ⟨a1, a2, a3, a4⟩ := trB_parts ha
        obtain ⟨b1, b2, b3, b4⟩ := trB_parts hb
        have ca := a3.count
        have cb := b3.count
        have hd := cnt_le 2 b.ops
        have he := cnt_le 2 a.ops
        rw [show (a.n != b.n) = false by simp [hn], cond_false, Words_m (by omega) (by omega), Option.bind_some]
        unfold slices_Clone_api_Op_api_Op.m slices_Clone_api_Span_api_Span.m
        rw [if_pos (by simp only [List.length_nil]; omega), Option.bind_some, if_pos (by simp only [List.length_nil]; omega), Option.bind_some, List.nil_append, List.nil_append, if_pos ⟨ha, hb, hn⟩]
        unfold replay_Join.j2
        have e1 := join_l1 a b (cnt 2 a.ops) (by omega) (by omega) (by omega) (opsB_small b1 b.ops 0 0 (by omega) (by omega) b4) a.n a.blocks b.ops.length 0 k a.ops (by omega) (by omega) (by omega)
        have e2 := join_l2 a b (by omega) (by omega) (fun s hs => by have := b3.span (Int.le_refl 0) s hs; omega) a.n (a.ops ++ b.ops.map (laterO a.ops.length (cnt 2 a.ops))) b.blocks.length 0 k a.blocks (by omega) (by omega) (by omega)
        rw [List.drop_zero] at e1 e2
        rw [show (0 : Int) = ((0 : Nat) : Int) from rfl, e1, Option.bind_some, e2]; rfl
      · rw [show (a.n != b.n) = true by simp [hn], cond_true, if_neg (fun h => hn h.2.2)]
    · rw [if_neg hb, show ((4 : Int) != 0) = true from rfl, Bool.true_or, cond_true, if_neg (fun h => hb h.2.1)]
  · rw [if_neg ha, show ((4 : Int) != 0) = true from rfl, cond_true, if_neg (fun h => ha h.1)]
    rfl
/-! runs of what is joined -/
theorem runF_cons (K M O : List Int) (bl : Bool) (m o : Nat) (v : List Int) (e : Tapi_Op) (l : List Tapi_Op) : runF K M O bl m o v (e :: l) = runF K M O bl (stM e m) (stO bl e o) (v ++ [newX K M O bl m o v e]) l := rfl
theorem runF_app (K M O : List Int) (bl : Bool) : ∀ (l l' : List Tapi_Op) (m o : Nat) (v : List Int), bl = false → runF K M O bl m o v (l ++ l') = runF K M O bl (m + cnt 1 l) o (runF K M O bl m o v l) l'
  | [], _, _, _, _, _ => rfl
  | e :: l, l', m, o, v, hb => by
    rw [List.cons_append, runF_cons, runF_cons, runF_app K M O bl l l' _ _ _ hb, cnt_cons]
    have e2 : stO bl e o = o := by unfold stO; rw [if_neg (by rw [hb]; simp)]
    rw [e2]
    unfold stM
    by_cases h : e.kind = 1
    · rw [if_pos h, if_pos h, show m + 1 + cnt 1 l = m + (cnt 1 l + 1) by omega]
    · rw [if_neg h, if_neg h]; rfl
theorem getD_take {l : List Int} {i n : Nat} (h : i < n) : (l.take n).getD i 0 = l.getD i 0 := by
  rw [List.getD_eq_getElem?_getD, List.getD_eq_getElem?_getD, List.getElem?_take, if_pos h]
theorem getD_drop' (l : List Int) (i n : Nat) : (l.drop n).getD i 0 = l.getD (n + i) 0 := by
  rw [List.getD_eq_getElem?_getD, List.getD_eq_getElem?_getD, List.getElem?_drop]
theorem runF_take {n : Int} {K M : List Int} {a b : Nat} : ∀ (l : List Tapi_Op) (i m : Nat) (v : List Int), runOk n (K.take a) (M.take b) [] false i m 0 l → runF (K.take a) (M.take b) [] false m 0 v l = runF K M [] false m 0 v l
  | [], _, _, _, _ => rfl
  | e :: l, i, m, v, ⟨h1, h2, h3, h4, h5, h6⟩ => by
    unfold runF
    have e0 : stO false e 0 = 0 := by unfold stO; rw [if_neg (by simp)]
    rw [e0] at h6 ⊢
    have e1 : outX (K.take a) (M.take b) false m e = outX K M false m e := by
      unfold outX
      by_cases k1 : e.kind = 1
      · rw [if_pos k1, if_pos k1]; have := h3 k1; rw [List.length_take] at this; exact getD_take (by omega)
      · rw [if_neg k1, if_neg k1]
        by_cases k2 : e.kind = 2 ∧ false = false
        · rw [if_pos k2, if_pos k2]; have := h4 k2.1 rfl; rw [List.length_take] at this; exact getD_take (by omega)
        · rw [if_neg k2, if_neg k2]
    have e3 : newX (K.take a) (M.take b) [] false m 0 v e = newX K M [] false m 0 v e := by unfold newX; rw [e1]
    rw [e3]
    exact runF_take l (i + 1) _ _ h6
theorem evalI_c {e e' : Tapi_Op} (hk : e'.kind = e.kind) (hc : e.kind ≠ 2 → e'.c = e.c) (a b d x : Int) : evalI e' a b d x = evalI e a b d x := by
  unfold evalI
  by_cases h : e.kind = 2
  · rw [hk, h]; rfl
  · rw [hk, hc h]
theorem atI_later (va vb : List Int) (r : Int) (h : r < (vb.length : Int)) : atI (va ++ vb) (laterR r va.length) = atI vb r := by
  unfold laterR
  by_cases h0 : 0 ≤ r
  · rw [if_pos h0]
    unfold atI
    rw [if_pos (show 0 ≤ r + (va.length : Int) ∧ r + (va.length : Int) < ((va ++ vb).length : Int) by rw [List.length_append]; omega), if_pos ⟨h0, h⟩, List.getD_eq_getElem?_getD, List.getD_eq_getElem?_getD, List.getElem?_append_right (by omega)]
    congr 2; omega
  · rw [if_neg h0, atI_neg (by omega), atI_neg (by omega)]
theorem runF_later {n : Int} {K M : List Int} {w m0 : Nat} (va : List Int) : ∀ (l : List Tapi_Op) (i m : Nat) (vb : List Int), vb.length = i → (∀ e ∈ l, e.kind = 2 → 0 ≤ e.c) → runOk n (K.drop w) (M.drop m0) [] false i m 0 l →
    runF K M [] false (m0 + m) 0 (va ++ vb) (l.map (laterO va.length w)) = va ++ runF (K.drop w) (M.drop m0) [] false m 0 vb l
  | [], _, _, _, _, _, _ => rfl
  | e :: l, i, m, vb, hv, hc, ⟨h1, h2, h3, h4, h5, h6⟩ => by
    rw [List.map_cons]
    unfold runF
    have e0 : stO false e 0 = 0 := by unfold stO; rw [if_neg (by simp)]
    have e0' : stO false (laterO va.length w e) 0 = 0 := by unfold stO; rw [if_neg (by simp)]
    rw [e0'] at *
    rw [e0] at h6 ⊢
    have hr := Rt_regs h1 (by omega)
    have e1 : outX K M false (m0 + m) (laterO va.length w e) = outX (K.drop w) (M.drop m0) false m e := by
      unfold outX
      rw [show (laterO va.length w e).kind = e.kind from rfl]
      by_cases k1 : e.kind = 1
      · rw [if_pos k1, if_pos k1, getD_drop']
      · rw [if_neg k1, if_neg k1]
        by_cases k2 : e.kind = 2 ∧ false = false
        · have := hc e (List.mem_cons_self ..) k2.1
          rw [if_pos k2, if_pos k2, getD_drop']
          show K.getD (if e.kind = 2 then e.c + (w : Int) else e.c).toNat 0 = _
          rw [if_pos k2.1]
          congr 1; omega
        · rw [if_neg k2, if_neg k2]
    have e3 : newX K M [] false (m0 + m) 0 (va ++ vb) (laterO va.length w e) = newX (K.drop w) (M.drop m0) [] false m 0 vb e := by
      unfold newX
      rw [if_neg (by simp), if_neg (by simp), e1]
      show evalI (laterO va.length w e) (atI (va ++ vb) (laterR e.a va.length)) (atI (va ++ vb) (laterR e.b va.length)) (atI (va ++ vb) (laterR e.d va.length)) _ = _
      rw [atI_later _ _ _ (by omega), atI_later _ _ _ (by omega), atI_later _ _ _ (by omega)]
      exact evalI_c (e := e) (e' := laterO va.length w e) rfl (fun h => by show (if e.kind = 2 then _ else _) = _; rw [if_neg h]) _ _ _ _
    rw [e3]
    have es : stM (laterO va.length w e) (m0 + m) = m0 + stM e m := by
      unfold stM
      rw [show (laterO va.length w e).kind = e.kind from rfl]
      split <;> omega
    rw [es, List.append_assoc]
    exact runF_later va l (i + 1) _ _ (by simp [hv]) (fun x hx => hc x (List.mem_cons_of_mem _ hx)) h6
/-! Run, Blind and Check as functions. -/
theorem opsOk (t : Tapi_Trace) : trB t = true → (t.n = 2 ∨ t.n = 3) ∧ t.ops.length ≤ 1048576 ∧ opsB t.n 0 0 t.ops = true := by
  intro h
  unfold trB at h
  simp only [Bool.and_eq_true, Bool.or_eq_true, beq_iff_eq, decide_eq_true_eq] at h
  exact ⟨h.1.1, h.1.2, h.2.2⟩
def eL (K M : List Int) (t : Tapi_Trace) : Int := if trB t = true then (if K.length = cnt 2 t.ops ∧ M.length = cnt 1 t.ops then 0 else 5) else 4
theorem eL_0 {K M : List Int} {t : Tapi_Trace} (h : trB t = true) (h1 : K.length = cnt 2 t.ops) (h2 : M.length = cnt 1 t.ops) : eL K M t = 0 := by unfold eL; rw [if_pos h, if_pos ⟨h1, h2⟩]
theorem eL_5 {K M : List Int} {t : Tapi_Trace} (h : trB t = true) (h1 : ¬ (K.length = cnt 2 t.ops ∧ M.length = cnt 1 t.ops)) : eL K M t = 5 := by unfold eL; rw [if_pos h, if_neg h1]
theorem eL_4 {K M : List Int} {t : Tapi_Trace} (h : ¬ trB t = true) : eL K M t = 4 := by unfold eL; rw [if_neg h]
theorem Run_m {t : Tapi_Trace} {K M : List Int} (hb : t.blocks.length < 4611686018427387904) (hl : t.ops.length * 8 ≤ 140737488355328) (hc : ∀ e ∈ t.ops, IsW e.c) (hK : ∀ x ∈ K, IsW x) (hM : ∀ x ∈ M, IsW x) {k : Nat} (hk : t.ops.length + t.blocks.length + 70 ≤ k) : replay_Run.m k t K M = some (if eL K M t = 0 then runF K M [] false 0 0 [] t.ops else [], eL K M t) := by
  unfold replay_Run.m
  rw [Check_m hb (by omega), Option.bind_some]
  by_cases h : trB t = true
  · obtain ⟨hn, hlen, ho⟩ := opsOk t h
    rw [if_pos h, show ((0 : Int) != 0) = false from rfl, cond_false, Words_m (by omega) (by omega), Option.bind_some]
    unfold replay_Run.j1
    by_cases h1 : K.length = cnt 2 t.ops
    · rw [show (((K.length : Nat) : Int) != ((cnt 2 t.ops : Nat) : Int)) = false by rw [bne_eq_false_iff_eq]; omega, cond_false, Draws_m (by omega) (by omega), Option.bind_some]
      by_cases h2 : M.length = cnt 1 t.ops
      · rw [show (((M.length : Nat) : Int) != ((cnt 1 t.ops : Nat) : Int)) = false by rw [bne_eq_false_iff_eq]; omega, cond_false, eL_0 h h1 h2, if_pos rfl,
          all_m (n := t.n) hK hM (fun _ h => by cases h) hlen (runOk_of _ 0 0 0 0 ho hc (by omega) (fun _ => by omega) (fun h => by cases h)) (by omega), Option.bind_some]
      · rw [show (((M.length : Nat) : Int) != ((cnt 1 t.ops : Nat) : Int)) = true by rw [bne_iff_ne]; omega, cond_true, eL_5 h (fun h => h2 h.2), if_neg (by omega)]
    · rw [show (((K.length : Nat) : Int) != ((cnt 2 t.ops : Nat) : Int)) = true by rw [bne_iff_ne]; omega, cond_true, cond_true, eL_5 h (fun h => h1 h.1), if_neg (by omega)]
  · rw [if_neg h, eL_4 h, show ((4 : Int) != 0) = true from rfl, cond_true, if_neg (by omega)]
theorem opsB_c {n : Int} : ∀ (l : List Tapi_Op) (i w : Nat), opsB n i w l = true → ∀ e ∈ l, e.kind = 2 → 0 ≤ e.c
  | [], _, _, _, _, h => by cases h
  | e :: l, i, w, h, x, hx => by
    rw [opsB_cons, Bool.and_eq_true, Bool.and_eq_true] at h
    obtain ⟨h1, h2, h3⟩ := h
    rcases List.mem_cons.1 hx with rfl | hx
    · intro k2
      rw [Bool.or_eq_true, bne_iff_ne, beq_iff_eq] at h2
      have := h2.resolve_left (fun h => h k2)
      omega
    · exact opsB_c l _ _ h3 x hx
theorem join_run {a b : Tapi_Trace} (ha : trB a = true) (hb : trB b = true) (wa : ∀ e ∈ a.ops, IsW e.c) (wb : ∀ e ∈ b.ops, IsW e.c) {K M : List Int} (hK : K.length = cnt 2 a.ops + cnt 2 b.ops) (hM : M.length = cnt 1 a.ops + cnt 1 b.ops) :
    runF K M [] false 0 0 [] (joinT a b).ops = runF (K.take (cnt 2 a.ops)) (M.take (cnt 1 a.ops)) [] false 0 0 [] a.ops ++ runF (K.drop (cnt 2 a.ops)) (M.drop (cnt 1 a.ops)) [] false 0 0 [] b.ops := by
  obtain ⟨a1, a2, a3, a4⟩ := trB_parts ha
  obtain ⟨b1, b2, b3, b4⟩ := trB_parts hb
  show runF K M [] false 0 0 [] (a.ops ++ b.ops.map (laterO a.ops.length (cnt 2 a.ops))) = _
  rw [runF_app K M [] false _ _ _ _ _ rfl, runF_take (n := a.n) a.ops 0 0 [] (runOk_of _ 0 0 0 0 a4 wa (by rw [List.length_take]; omega) (fun _ => by rw [List.length_take]; omega) (fun h => by cases h))]
  have hv : (runF K M [] false 0 0 [] a.ops).length = a.ops.length := by rw [runF_len]; simp
  have h := runF_later (n := b.n) (K := K) (M := M) (w := cnt 2 a.ops) (m0 := cnt 1 a.ops) (runF K M [] false 0 0 [] a.ops) b.ops 0 0 [] rfl (opsB_c b.ops 0 0 b4) (runOk_of _ 0 0 0 0 b4 wb (by rw [List.length_drop]; omega) (fun _ => by rw [List.length_drop]; omega) (fun h => by cases h))
  rw [hv, List.append_nil, Nat.add_zero] at h
  rw [Nat.zero_add]; exact h
theorem cut_0 {α : Type} (l : List α) (n : Nat) : cut l 0 n = l.take n := by unfold cut; rw [List.drop_zero]
theorem cut_end {α : Type} (l : List α) (n : Nat) : cut l n l.length = l.drop n := by unfold cut; rw [List.take_length]
theorem awake29j {k : Nat} (hk : 80 ≤ k) : visorlaw29_awake.m k = some true := by
  have e1 : replay_Run.m k ⟨2, [], []⟩ [] [] = some ([], 0) := by
    rw [Run_m (by simp) (by simp) (fun _ h => by cases h) (fun _ h => by cases h) (fun _ h => by cases h) (by simp; omega)]; rfl
  have e2 : replay_Run.m k ⟨2, [⟨3, 0, -1, -1, -1, 9⟩], []⟩ [] [] = some ([9], 0) := by
    rw [Run_m (by simp) (by simp) (fun x h => by rw [List.mem_singleton.1 h]; exact ⟨by decide, by decide⟩) (fun _ h => by cases h) (fun _ h => by cases h) (by simp; omega)]
    rw [show eL [] [] ⟨2, [⟨3, 0, -1, -1, -1, 9⟩], []⟩ = 0 by decide, if_pos rfl]
    congr 2
  unfold visorlaw29_awake.m
  rw [e1, Option.bind_some, e2]; rfl
theorem ReplayJoins_pure (x0 : Tapi_Trace) (x1 : Tapi_Trace) (x2 : List Int) (b0 : x0.ok) (b1 : x1.ok) (b2 : ∀ x ∈ x2, IntKind.u64.min ≤ x ∧ x ≤ IntKind.u64.max) (n2 : x2.length * 8 ≤ 140737488351232) : ∃ k, visorlaw29_ReplayJoins.m k x0 x1 x2 = some true := by
  obtain ⟨a1, a2, a3, a4, a5, _⟩ := b0
  obtain ⟨c1, c2, c3, c4, c5, _⟩ := b1
  refine ⟨x0.ops.length + x0.blocks.length + x1.ops.length + x1.blocks.length + 1000, ?_⟩
  generalize hk : x0.ops.length + x0.blocks.length + x1.ops.length + x1.blocks.length + 1000 = k
  have w8 : ∀ {y : Int}, IntKind.u64.min ≤ y ∧ y ≤ IntKind.u64.max → IsW y := fun h => by rw [min_u64, max_u64] at h; exact h
  unfold visorlaw29_ReplayJoins.m
  by_cases h4 : x0.ops.length ≤ 200 ∧ x1.ops.length ≤ 200
  · rw [decide_eq_false (by omega), decide_eq_false (by omega), Bool.or_self, cond_false]
    have g0 : x0.blocks.length < 4611686018427387904 := by omega
    have g1 : x1.blocks.length < 4611686018427387904 := by omega
    have wa : ∀ e ∈ x0.ops, IsW e.c := fun e he => w8 (a2 e he).2.2.2.2.2.1
    have wb : ∀ e ∈ x1.ops, IsW e.c := fun e he => w8 (c2 e he).2.2.2.2.2.1
    have wx : ∀ x ∈ x2, IsW x := fun x hx => w8 (b2 x hx)
    rw [Join_m h4.1 h4.2 g0 g1 (by omega), Option.bind_some, rRight_m g0 (by omega), Option.bind_some]
    have no : ¬ (trB x0 = true ∧ trB x1 = true ∧ x0.n = x1.n) → visorlaw29_ReplayJoins.j1 k x0 x1 x2 (if trB x0 = true ∧ trB x1 = true ∧ x0.n = x1.n then (joinT x0 x1, 0) else (⟨0, [], []⟩, 4)) true = some true := by
      intro h
      unfold visorlaw29_ReplayJoins.j1 visorlaw29_ReplayJoins.j2
      rw [if_neg h, cond_true]
      dsimp only
      rw [show (((4 : Int) == 4) && ((((([] : List Tapi_Op).length : Nat)) : Int) == 0)) = true from rfl, cond_true, awake29j (by omega), Option.bind_some]
    by_cases ha : trB x0 = true
    · rw [ha, Bool.not_true, cond_false, rRight_m g1 (by omega), Option.bind_some]
      rw [ha] at no
      by_cases hb : trB x1 = true
      · rw [hb] at no ⊢
        rw [Bool.not_true, Bool.false_or]
        by_cases hn : x0.n = x1.n
        · rw [show (x0.n != x1.n) = false by simp [hn], if_pos ⟨rfl, rfl, hn⟩]
          obtain ⟨p1, p2, p3, p4⟩ := trB_parts ha
          obtain ⟨q1, q2, q3, q4⟩ := trB_parts hb
          have ca := p3.count
          have cb := q3.count
          have i1 := cnt_le 1 x0.ops; have i2 := cnt_le 2 x0.ops; have i3 := cnt_le 1 x1.ops; have i4 := cnt_le 2 x1.ops
          unfold visorlaw29_ReplayJoins.j1
          rw [cond_false, rTally_m (by omega) (by omega), Option.bind_some, rTally_m (by omega) (by omega), Option.bind_some, if_pos (cs13_len _), if_pos (cs13_len _)]
          unfold visorlaw29_ReplayJoins.j3
          have f1 : getI .i64 (cs13 (tal x0)) 1 = some ((cnt 1 x0.ops : Nat) : Int) := by rw [cs13_get _ (by omega), tal_at x0 1 (by omega)]; rfl
          have f2 : getI .i64 (cs13 (tal x0)) 2 = some ((cnt 2 x0.ops : Nat) : Int) := by rw [cs13_get _ (by omega), tal_at x0 2 (by omega)]; rfl
          have f3 : getI .i64 (cs13 (tal x1)) 1 = some ((cnt 1 x1.ops : Nat) : Int) := by rw [cs13_get _ (by omega), tal_at x1 1 (by omega)]; rfl
          have f4 : getI .i64 (cs13 (tal x1)) 2 = some ((cnt 2 x1.ops : Nat) : Int) := by rw [cs13_get _ (by omega), tal_at x1 2 (by omega)]; rfl
          have wS : ∀ p q : Nat, p < 100000 → q < 100000 → IntKind.i64.wrap ((p : Int) + (q : Int)) = ((p + q : Nat) : Int) := fun p q _ _ => by rw [wrapS (by omega) (by omega)]; omega
          simp only [f1, f2, f3, f4, Option.bind_some]
          rw [wS _ _ (by omega) (by omega), wS _ _ (by omega) (by omega), wS _ _ (by omega) (by omega), wS _ _ (by omega) (by omega)]
          simp only [Int.toNat_natCast]
          obtain ⟨W, hW⟩ : ∃ W : List Int, W = x2.take (min x2.length (List.replicate (cnt 1 x0.ops + cnt 2 x0.ops + cnt 1 x1.ops + cnt 2 x1.ops) (0 : Int)).length) ++ (List.replicate (cnt 1 x0.ops + cnt 2 x0.ops + cnt 1 x1.ops + cnt 2 x1.ops) (0 : Int)).drop (min x2.length (List.replicate (cnt 1 x0.ops + cnt 2 x0.ops + cnt 1 x1.ops + cnt 2 x1.ops) (0 : Int)).length) := ⟨_, rfl⟩
          rw [← hW]
          have hWl : W.length = cnt 1 x0.ops + cnt 2 x0.ops + cnt 1 x1.ops + cnt 2 x1.ops := by rw [hW, copy_len, List.length_replicate]
          have hWw : ∀ x ∈ W, IsW x := by
            rw [hW]
            intro x hx
            rcases List.mem_append.1 hx with h | h
            · exact wx x (List.mem_of_mem_take h)
            · rw [(List.mem_replicate.1 (List.mem_of_mem_drop h)).2]; exact isW_zero
          clear hW
          rw [if_pos (by omega), if_pos (by omega), if_pos (by omega), cut_0, cut_end]
          obtain ⟨K, hKd⟩ : ∃ K, K = W.take (cnt 2 x0.ops + cnt 2 x1.ops) := ⟨_, rfl⟩
          obtain ⟨M, hMd⟩ : ∃ M, M = W.drop (cnt 2 x0.ops + cnt 2 x1.ops) := ⟨_, rfl⟩
          rw [← hKd, ← hMd]
          have hK : K.length = cnt 2 x0.ops + cnt 2 x1.ops := by rw [hKd, List.length_take]; omega
          have hM : M.length = cnt 1 x0.ops + cnt 1 x1.ops := by rw [hMd, List.length_drop]; omega
          have hKw : ∀ x ∈ K, IsW x := fun x hx => hWw x (List.mem_of_mem_take (hKd ▸ hx))
          have hMw : ∀ x ∈ M, IsW x := fun x hx => hWw x (List.mem_of_mem_drop (hMd ▸ hx))
          have tT := trB_join ha hb hn (by omega)
          have lo : (joinT x0 x1).ops.length = x0.ops.length + x1.ops.length := by unfold joinT; simp
          have lb : (joinT x0 x1).blocks.length = x0.blocks.length + x1.blocks.length := by unfold joinT; simp
          have wT : ∀ e ∈ (joinT x0 x1).ops, IsW e.c := by
            intro e he
            rcases List.mem_append.1 he with h | h
            · exact wa e h
            · obtain ⟨e', he', rfl⟩ := List.mem_map.1 h
              have hs := opsB_small q1 x1.ops 0 0 (by omega) (by omega) q4 e' he'
              have := wb e' he'
              show IsW (if e'.kind = 2 then e'.c + ((cnt 2 x0.ops : Nat) : Int) else e'.c)
              split
              · rename_i k2; have := hs.2 k2; unfold IsW at *; omega
              · exact this
          have eT : eL K M (joinT x0 x1) = 0 := eL_0 tT (by show _ = cnt 2 (x0.ops ++ _); rw [cnt_app, cnt_later]; exact hK) (by show _ = cnt 1 (x0.ops ++ _); rw [cnt_app, cnt_later]; exact hM)
          rw [Run_m (by omega) (by omega) wT hKw hMw (by omega), eT, if_pos rfl, Option.bind_some, if_pos (by omega), if_pos (by omega), cut_0, cut_0,
            play_m (n := x0.n) (fun x hx => hKw x (List.mem_of_mem_take hx)) (fun x hx => hMw x (List.mem_of_mem_take hx)) (fun _ h => by cases h) (by omega) (runOk_of _ 0 0 0 0 p4 wa (by rw [List.length_take]; omega) (fun _ => by rw [List.length_take]; omega) (fun h => by cases h)) (by omega), Option.bind_some,
            if_pos (by omega), if_pos (by omega), cut_end, cut_end,
            play_m (n := x1.n) (fun x hx => hKw x (List.mem_of_mem_drop hx)) (fun x hx => hMw x (List.mem_of_mem_drop hx)) (fun _ h => by cases h) (by omega) (runOk_of _ 0 0 0 0 q4 wb (by rw [List.length_drop]; omega) (fun _ => by rw [List.length_drop]; omega) (fun h => by cases h)) (by omega), Option.bind_some]
          have hr := join_run ha hb wa wb hK hM
          have hlen : ((runF K M [] false 0 0 [] (joinT x0 x1).ops)).length = x0.ops.length + x1.ops.length := by rw [runF_len, lo]; simp
          dsimp only
          rw [show ((0 : Int) == 0) = true from rfl]
          have hl2 := hlen
          rw [hr, List.length_append] at hl2
          rw [Bool.and_self, cond_true, rRight_m (by omega) (by omega), Option.bind_some, tT, lb, wrapS (by omega) (by omega),
            show (((x0.blocks.length + x1.blocks.length : Nat) : Int) == (x0.blocks.length : Int) + (x1.blocks.length : Int)) = true by rw [beq_iff_eq]; omega, Bool.and_self, cond_true, if_pos (by omega), ← hr, same29 _ (by omega) (by omega), Option.bind_some, cond_true, awake29j (by omega), Option.bind_some]
          rfl
        · rw [show (x0.n != x1.n) = true by simp [hn]]; exact no (fun h => hn h.2.2)
      · rw [Bool.not_eq_true] at hb
        rw [hb, Bool.not_false, Bool.true_or]
        rw [hb] at no
        exact no (fun h => by cases h.2.1)
    · rw [Bool.not_eq_true] at ha
      rw [ha, Bool.not_false, cond_true]
      rw [ha] at no
      exact no (fun h => by cases h.1)
  · have : ((decide (((x0.ops.length : Nat) : Int) > 200)) || (decide (((x1.ops.length : Nat) : Int) > 200))) = true := by
      rw [Bool.or_eq_true, decide_eq_true_eq, decide_eq_true_eq]; omega
    rw [this, cond_true, awake29j (by omega), Option.bind_some]
end Go.Proofs.Ytebgjmhkmmlpeaa
