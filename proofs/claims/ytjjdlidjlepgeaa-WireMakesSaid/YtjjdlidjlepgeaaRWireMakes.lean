/- The plain law behind WireMakes: its model answers true for all data that fit; no condition beyond their kinds. -/
import Derived.Test.YtjjdlidjlepgeaaMWireMakes3
namespace Go.Proofs.Ytjjdlidjlepgeaa
open Go Go.Vk
set_option linter.unusedVariables false

def Tvisorlaw19_Act.ok (x : Tvisorlaw19_Act) : Prop := (IntKind.i64.min ≤ x.kind ∧ x.kind ≤ IntKind.i64.max) ∧ (IntKind.i64.min ≤ x.o.kind ∧ x.o.kind ≤ IntKind.i64.max) ∧ (IntKind.i64.min ≤ x.o.dom ∧ x.o.dom ≤ IntKind.i64.max) ∧ (IntKind.i64.min ≤ x.o.a ∧ x.o.a ≤ IntKind.i64.max) ∧ (IntKind.i64.min ≤ x.o.b ∧ x.o.b ≤ IntKind.i64.max) ∧ (IntKind.i64.min ≤ x.o.d ∧ x.o.d ≤ IntKind.i64.max) ∧ (IntKind.u64.min ≤ x.o.c ∧ x.o.c ≤ IntKind.u64.max) ∧ (IntKind.u64.min ≤ x.x ∧ x.x ≤ IntKind.u64.max) ∧ True
theorem Tvisorlaw19_Act.of {cs : Cells} (h : Fits [LK.int .i64, LK.int .i64, LK.int .i64, LK.int .i64, LK.int .i64, LK.int .i64, LK.int .u64, LK.int .u64] cs) : ∃ x : Tvisorlaw19_Act, cs = x.cells ∧ x.ok := by
  match cs, h with
  | [.int _ n0, .int _ n1, .int _ n2, .int _ n3, .int _ n4, .int _ n5, .int _ n6, .int _ n7], ⟨⟨rfl, h0⟩, ⟨rfl, h1⟩, ⟨rfl, h2⟩, ⟨rfl, h3⟩, ⟨rfl, h4⟩, ⟨rfl, h5⟩, ⟨rfl, h6⟩, ⟨rfl, h7⟩, _⟩ => exact ⟨⟨n0, ⟨n1, n2, n3, n4, n5, n6⟩, n7⟩, rfl, ⟨h0, h1, h2, h3, h4, h5, h6, h7, trivial⟩⟩
theorem Tvisorlaw19_Act.ofs : ∀ {l : List Cells}, (∀ x ∈ l, Fits [LK.int .i64, LK.int .i64, LK.int .i64, LK.int .i64, LK.int .i64, LK.int .i64, LK.int .u64, LK.int .u64] x) → ∃ l' : List Tvisorlaw19_Act, l = l'.map Tvisorlaw19_Act.cells ∧ ∀ y ∈ l', y.ok
  | [], _ => ⟨[], rfl, fun _ h => (by cases h)⟩
  | x :: l, h => by
    obtain ⟨y, rfl, hy⟩ := Tvisorlaw19_Act.of (h x (List.mem_cons_self ..)); obtain ⟨l', rfl, hl⟩ := Tvisorlaw19_Act.ofs (l := l) fun z hz => h z (List.mem_cons_of_mem _ hz)
    exact ⟨y :: l', rfl, fun z hz => (List.mem_cons.1 hz).elim (fun e => e ▸ hy) (hl z)⟩

/-! What an op makes: both programs' Eval is one function of words. -/
def evalW (kind : Int) (c a b d x : BitVec 64) : BitVec 64 :=
  if kind = 1 then x else if kind = 2 then x ^^^ a ^^^ b else if kind = 3 then c else if kind = 4 then c else if kind = 5 then a ^^^ b else if kind = 6 then ~~~a
  else if kind = 7 then a &&& b else if kind = 8 then a &&& c else if kind = 9 then a <<< (c.toNat % 64) else if kind = 10 then a >>> (c.toNat % 64)
  else if kind = 11 then a.rotateLeft (c.toNat % 64) else if kind = 12 then a ^^^ b ^^^ d else 0#64
theorem rot63 (x : BitVec 64) (n : Nat) (h : n < 64) : x <<< n ||| x >>> (64 - n) = x.rotateLeft n := by
  rw [BitVec.rotateLeft_def, Nat.mod_eq_of_lt h]

theorem octet_Rot_m (k : Nat) (x : BitVec 64) (n : Nat) (h : n < 64) : octet_Rot.m k (u x) (n : Int) = some (u (x.rotateLeft n)) := by
  have hb : band .i64 (n : Int) 63 = (n : Int) := by
    have : ∀ m : Fin 64, band .i64 ((m : Nat) : Int) 63 = ((m : Nat) : Int) := by decide
    exact this ⟨n, h⟩
  unfold octet_Rot.m
  rw [hb, if_pos (by omega), wrap_i64_of (by omega) (by omega), if_pos (by omega), shl_u _ (by omega), shr_u _ (by omega), bor_u]
  congr 2
  rw [← rot63 x n h]
  have e : ((64 : Int) - (n : Int)).toNat = 64 - n := by omega
  rw [e]; rfl

theorem rot1 (x : BitVec 64) : IntKind.u64.wrap (IntKind.u64.wrap (u x * 2) + IntKind.u64.wrap (Int.tdiv (u x) 9223372036854775808)) = u (x.rotateLeft 1) := by
  have h := x.isLt
  have hd : Int.tdiv (u x) 9223372036854775808 = ((x.toNat / 9223372036854775808 : Nat) : Int) := rfl
  rw [hd, wrap_u64, wrap_u64, wrap_u64]
  have e : (x.rotateLeft 1).toNat = (x.toNat * 2) % 18446744073709551616 + x.toNat / 9223372036854775808 := by
    rw [BitVec.rotateLeft_def]
    have h1 : (x <<< (1 % 64)) &&& (x >>> (64 - 1 % 64)) = 0#64 := by
      apply BitVec.eq_of_getLsbD_eq
      intro i hi
      simp only [BitVec.getLsbD_and, BitVec.getLsbD_shiftLeft, BitVec.getLsbD_ushiftRight, BitVec.getLsbD_zero]
      by_cases h0 : i = 0
      · subst h0; simp
      · have : x.getLsbD (64 - 1 % 64 + i) = false := BitVec.getLsbD_of_ge _ _ (by omega)
        simp [this]
    rw [← BitVec.add_eq_or_of_and_eq_zero _ _ h1, BitVec.toNat_add]
    simp only [BitVec.toNat_shiftLeft, BitVec.toNat_ushiftRight, Nat.shiftLeft_eq, Nat.shiftRight_eq_div_pow, show 1 % 64 = 1 from rfl, show 64 - 1 = 63 from rfl, show 2 ^ 63 = 9223372036854775808 from rfl, show 2 ^ 1 = 2 from rfl]
    omega
  simp only [u, e]
  omega

theorem rotateLeft_zero' (x : BitVec 64) : x.rotateLeft 0 = x := by
  apply BitVec.eq_of_getLsbD_eq
  intro i hi
  rw [BitVec.getLsbD_rotateLeft]; simp [hi]

theorem rotateLeft_add (x : BitVec 64) (a b : Nat) : (x.rotateLeft a).rotateLeft b = x.rotateLeft (a + b) := by
  apply BitVec.eq_of_getLsbD_eq
  intro i hi
  simp only [BitVec.getLsbD_rotateLeft]
  have ha := Nat.mod_lt a (show 0 < 64 by omega)
  have hb := Nat.mod_lt b (show 0 < 64 by omega)
  by_cases h1 : i < b % 64
  · by_cases h2 : i < (a + b) % 64
    · simp only [h1, h2, cond_true, decide_true]
      by_cases h3 : 64 - b % 64 + i < a % 64
      · simp only [h3, decide_true, cond_true]; congr 1; omega
      · simp only [h3, decide_false, cond_false]; rw [decide_eq_true (by omega), Bool.true_and]; congr 1; omega
    · simp only [h1, h2, decide_true, decide_false, cond_true, cond_false, hi, Bool.true_and]
      by_cases h3 : 64 - b % 64 + i < a % 64
      · omega
      · simp only [h3, decide_false, cond_false]; rw [decide_eq_true (by omega), Bool.true_and]; congr 1; omega
  · by_cases h2 : i < (a + b) % 64
    · simp only [h1, h2, decide_true, decide_false, cond_true, cond_false, hi, Bool.true_and]
      by_cases h3 : i - b % 64 < a % 64
      · simp only [h3, decide_true, cond_true]; congr 1; omega
      · omega
    · simp only [h1, h2, decide_false, cond_false, hi, decide_true, Bool.true_and]
      by_cases h3 : i - b % 64 < a % 64
      · simp only [h3, decide_true, cond_true]; congr 1; omega
      · simp only [h3, decide_false, cond_false]; rw [decide_eq_true (by omega), Bool.true_and]; congr 1; omega

theorem mod64 (k : Nat) (n : Nat) : visorref01_Mod.m k (n : Int) 64 = some ((n % 64 : Nat) : Int) := by
  unfold visorref01_Mod.m
  rw [if_pos (by omega)]
  have e : Int.tmod (n : Int) 64 = ((n % 64 : Nat) : Int) := rfl
  rw [e]
  have : decide (((n % 64 : Nat) : Int) < 0) = false := decide_eq_false (by omega)
  rw [this]; simp

theorem ref_Rot_l (n : Nat) : ∀ (d k i : Nat) (x : BitVec 64), n % 64 = i + d → d < k → visorref01_Rot.l1 (n : Int) k (u x) (i : Int) = some (u (x.rotateLeft d)) := by
  intro d
  induction d with
  | zero =>
    intro k i x hi hk
    obtain ⟨k, rfl⟩ : ∃ m, k = m + 1 := ⟨k - 1, by omega⟩
    rw [visorref01_Rot.l1, mod64]
    simp only [Option.bind_some]
    rw [decide_eq_false (by omega)]
    simp [rotateLeft_zero']
  | succ d ih =>
    intro k i x hi hk
    obtain ⟨k, rfl⟩ : ∃ m, k = m + 1 := ⟨k - 1, by omega⟩
    rw [visorref01_Rot.l1, mod64]
    simp only [Option.bind_some]
    rw [decide_eq_true (by omega), rot1, wrap_i64_of (by omega) (by omega)]
    simp only [cond_true]
    have := ih k (i + 1) (x.rotateLeft 1) (by omega) (by omega)
    rw [show ((i : Int) + 1) = ((i + 1 : Nat) : Int) by omega, this, rotateLeft_add, Nat.add_comm 1 d]

theorem ref_Rot_m (k : Nat) (hk : 65 ≤ k) (x : BitVec 64) (n : Nat) : visorref01_Rot.m k (u x) (n : Int) = some (u (x.rotateLeft (n % 64))) := by
  unfold visorref01_Rot.m
  have h := ref_Rot_l n (n % 64) k 0 x (by omega) (by omega)
  rw [show ((0 : Nat) : Int) = 0 from rfl] at h
  rw [h]; rfl

def lowW (n : Nat) : BitVec 64 := BitVec.ofNat 64 (2 ^ n - 1)
theorem ref_Low_l (n : Nat) : ∀ (d k i : Nat), min n 64 = i + d → d < k → visorref01_Low.l1 (n : Int) k (u (lowW i)) (i : Int) = some (u (lowW (min n 64))) := by
  intro d
  induction d with
  | zero =>
    intro k i hi hk
    obtain ⟨k, rfl⟩ : ∃ m, k = m + 1 := ⟨k - 1, by omega⟩
    rw [visorref01_Low.l1]
    have : (decide ((i : Int) < (n : Int)) && decide ((i : Int) < 64)) = false := by
      rw [Bool.and_eq_false_iff]; simp only [decide_eq_false_iff_not]; omega
    rw [this]; simp only [cond_false]
    rw [show min n 64 = i by omega]
  | succ d ih =>
    intro k i hi hk
    obtain ⟨k, rfl⟩ : ∃ m, k = m + 1 := ⟨k - 1, by omega⟩
    rw [visorref01_Low.l1]
    have : (decide ((i : Int) < (n : Int)) && decide ((i : Int) < 64)) = true := by
      rw [Bool.and_eq_true]; simp only [decide_eq_true_eq]; omega
    rw [this, wrap_i64_of (by omega) (by omega)]
    simp only [cond_true]
    have e : IntKind.u64.wrap (IntKind.u64.wrap (u (lowW i) * 2) + 1) = u (lowW (i + 1)) := by
      rw [wrap_u64, wrap_u64]
      simp only [u, lowW, BitVec.toNat_ofNat, Nat.pow_succ]
      have hp : 0 < 2 ^ i := Nat.two_pow_pos i
      omega
    rw [e]
    have := ih k (i + 1) (by omega) (by omega)
    rw [show ((i : Int) + 1) = ((i + 1 : Nat) : Int) by omega, this]
theorem ref_Low_m (k : Nat) (hk : 65 ≤ k) (n : Nat) : visorref01_Low.m k (n : Int) = some (u (lowW (min n 64))) := by
  unfold visorref01_Low.m
  have h := ref_Low_l n (min n 64) k 0 (by omega) (by omega)
  rw [show u (lowW 0) = 0 by decide, show ((0 : Nat) : Int) = 0 from rfl] at h
  rw [h]; rfl

theorem lowW_get (n i : Nat) (h : n ≤ 64) (hi : i < 64) : (lowW n).getLsbD i = decide (i < n) := by
  unfold lowW
  rw [BitVec.getLsbD_ofNat]
  simp [hi, Nat.testBit_two_pow_sub_one]

theorem shl_as (a : BitVec 64) (n : Nat) (h : n < 64) : (a &&& lowW (min (64 - n) 64)).rotateLeft (n % 64) = a <<< n := by
  apply BitVec.eq_of_getLsbD_eq
  intro i hi
  rw [BitVec.getLsbD_rotateLeft, Nat.mod_mod, Nat.mod_eq_of_lt h, BitVec.getLsbD_shiftLeft]
  by_cases h1 : i < n
  · simp only [h1, decide_true, cond_true, Bool.not_true, Bool.and_false, Bool.false_and, BitVec.getLsbD_and]
    rw [lowW_get _ _ (by omega) (by omega), decide_eq_false (by omega)]; simp
  · simp only [h1, decide_false, cond_false, hi, decide_true, Bool.not_false, Bool.true_and, BitVec.getLsbD_and]
    rw [lowW_get _ _ (by omega) (by omega), decide_eq_true (by omega)]; simp

theorem shr_as (a : BitVec 64) (n : Nat) (h : n < 64) : a.rotateLeft ((64 - n) % 64) &&& lowW (min (64 - n) 64) = a >>> n := by
  apply BitVec.eq_of_getLsbD_eq
  intro i hi
  rw [BitVec.getLsbD_and, BitVec.getLsbD_rotateLeft, Nat.mod_mod, BitVec.getLsbD_ushiftRight, lowW_get _ _ (by omega) hi]
  by_cases h1 : i < 64 - n
  · rw [decide_eq_true (show i < min (64 - n) 64 by omega), Bool.and_true]
    by_cases h0 : n = 0
    · subst h0; simp [hi]
    · have e : (64 - n) % 64 = 64 - n := by omega
      rw [e]
      simp only [h1, decide_true, cond_true]
      congr 1; omega
  · rw [decide_eq_false (show ¬ i < min (64 - n) 64 by omega), Bool.and_false]
    rw [BitVec.getLsbD_of_ge _ _ (by omega)]


/-- a word, as a number -/
def IsW (x : Int) : Prop := 0 ≤ x ∧ x ≤ 18446744073709551615
theorem IsW.u {x : Int} (h : IsW x) : ∃ b, x = Go.Vk.u b := exists_u h.1 h.2
theorem isW_u (b : BitVec 64) : IsW (Go.Vk.u b) := u_le b
theorem isW_zero : IsW 0 := ⟨by omega, by omega⟩
/-- what an op makes of numbers -/
def evalI (o : Tapi_Op) (a b d x : Int) : Int := u (evalW o.kind (BitVec.ofInt 64 o.c) (BitVec.ofInt 64 a) (BitVec.ofInt 64 b) (BitVec.ofInt 64 d) (BitVec.ofInt 64 x))
theorem evalI_w (o : Tapi_Op) (a b d x : Int) : IsW (evalI o a b d x) := isW_u _
theorem evalI_u (kind dom r s t : Int) (c a b d x : BitVec 64) : evalI ⟨kind, dom, r, s, t, u c⟩ (u a) (u b) (u d) (u x) = u (evalW kind c a b d x) := by
  unfold evalI; simp only [ofInt_u]
/-- but for masks and words of keys, the outside word does not matter -/
theorem evalI_out (o : Tapi_Op) (a b d x y : Int) (h1 : o.kind ≠ 1) (h2 : o.kind ≠ 2) : evalI o a b d x = evalI o a b d y := by
  unfold evalI evalW; simp only [if_neg h1, if_neg h2]

theorem op_Eval_w (k : Nat) (kind dom r s t : Int) (c a b d x : BitVec 64) : op_Eval.m k ⟨kind, dom, r, s, t, u c⟩ (u a) (u b) (u d) (u x) = some (u (evalW kind c a b d x)) := by
  have hm : Int.tmod (u c) 64 = ((c.toNat % 64 : Nat) : Int) := rfl
  have hlt : c.toNat % 64 < 64 := Nat.mod_lt _ (by omega)
  unfold op_Eval.m op_Eval.j1 evalW
  simp only [hm, bxor_u, bnot_u, band_u]
  rw [if_pos (show (0 : Int) ≤ ((c.toNat % 64 : Nat) : Int) by omega), wrap_i64_of (by omega) (by omega), octet_Rot_m k a _ hlt, shl_u _ (by omega), shr_u _ (by omega)]
  simp only [Option.bind_some, Int.toNat_natCast, if_pos (show (0 : Int) ≤ ((c.toNat % 64 : Nat) : Int) by omega)]
  by_cases h1 : kind = 1
  · subst h1; rfl
  by_cases h2 : kind = 2
  · subst h2; rfl
  by_cases h3 : kind = 3
  · subst h3; rfl
  by_cases h4 : kind = 4
  · subst h4; rfl
  by_cases h5 : kind = 5
  · subst h5; rfl
  by_cases h6 : kind = 6
  · subst h6; rfl
  by_cases h7 : kind = 7
  · subst h7; rfl
  by_cases h8 : kind = 8
  · subst h8; rfl
  by_cases h9 : kind = 9
  · subst h9; rfl
  by_cases h10 : kind = 10
  · subst h10; rfl
  by_cases h11 : kind = 11
  · subst h11; rfl
  by_cases h12 : kind = 12
  · subst h12; rfl
  simp only [if_neg h1, if_neg h2, if_neg h3, if_neg h4, if_neg h5, if_neg h6, if_neg h7, if_neg h8, if_neg h9, if_neg h10, if_neg h11, if_neg h12, beq_eq_false_iff_ne.2 h1, beq_eq_false_iff_ne.2 h2, beq_eq_false_iff_ne.2 h3, beq_eq_false_iff_ne.2 h4, beq_eq_false_iff_ne.2 h5, beq_eq_false_iff_ne.2 h6, beq_eq_false_iff_ne.2 h7, beq_eq_false_iff_ne.2 h8, beq_eq_false_iff_ne.2 h9, beq_eq_false_iff_ne.2 h10, beq_eq_false_iff_ne.2 h11, beq_eq_false_iff_ne.2 h12, cond_false]
  rfl

theorem ref_Eval_w (k : Nat) (hk : 65 ≤ k) (kind dom r s t : Int) (c a b d x : BitVec 64) : visorref17_Eval.m k ⟨kind, dom, r, s, t, u c⟩ (u a) (u b) (u d) (u x) = some (u (evalW kind c a b d x)) := by
  have hm : Int.tmod (u c) 64 = ((c.toNat % 64 : Nat) : Int) := rfl
  have hlt : c.toNat % 64 < 64 := Nat.mod_lt _ (by omega)
  have e1 : IntKind.i64.wrap ((c.toNat % 64 : Nat) : Int) = ((c.toNat % 64 : Nat) : Int) := wrap_i64_of (by omega) (by omega)
  have e2 : IntKind.i64.wrap (64 - ((c.toNat % 64 : Nat) : Int)) = ((64 - c.toNat % 64 : Nat) : Int) := by rw [wrap_i64_of (by omega) (by omega)]; omega
  unfold visorref17_Eval.m visorref17_Eval.j1 evalW
  simp only [Option.bind_some, hm, bxor_u, sub_u, band_u, e1, e2, ref_Low_m k hk, ref_Rot_m k hk]
  rw [shl_as a _ hlt, shr_as a _ hlt, Nat.mod_mod]
  by_cases h1 : kind = 1
  · subst h1; rfl
  by_cases h2 : kind = 2
  · subst h2; rfl
  by_cases h3 : kind = 3
  · subst h3; rfl
  by_cases h4 : kind = 4
  · subst h4; rfl
  by_cases h5 : kind = 5
  · subst h5; rfl
  by_cases h6 : kind = 6
  · subst h6; rfl
  by_cases h7 : kind = 7
  · subst h7; rfl
  by_cases h8 : kind = 8
  · subst h8; rfl
  by_cases h9 : kind = 9
  · subst h9; rfl
  by_cases h10 : kind = 10
  · subst h10; rfl
  by_cases h11 : kind = 11
  · subst h11; rfl
  by_cases h12 : kind = 12
  · subst h12; rfl
  simp only [if_neg h1, if_neg h2, if_neg h3, if_neg h4, if_neg h5, if_neg h6, if_neg h7, if_neg h8, if_neg h9, if_neg h10, if_neg h11, if_neg h12, beq_eq_false_iff_ne.2 h1, beq_eq_false_iff_ne.2 h2, beq_eq_false_iff_ne.2 h3, beq_eq_false_iff_ne.2 h4, beq_eq_false_iff_ne.2 h5, beq_eq_false_iff_ne.2 h6, beq_eq_false_iff_ne.2 h7, beq_eq_false_iff_ne.2 h8, beq_eq_false_iff_ne.2 h9, beq_eq_false_iff_ne.2 h10, beq_eq_false_iff_ne.2 h11, beq_eq_false_iff_ne.2 h12, cond_false]
  rfl

theorem op_Eval_m (k : Nat) (o : Tapi_Op) (a b d x : Int) (hc : IsW o.c) (ha : IsW a) (hb : IsW b) (hd : IsW d) (hx : IsW x) : op_Eval.m k o a b d x = some (evalI o a b d x) := by
  obtain ⟨kind, dom, r, s, t, c⟩ := o
  obtain ⟨c, rfl⟩ := hc.u; obtain ⟨a, rfl⟩ := ha.u; obtain ⟨b, rfl⟩ := hb.u; obtain ⟨d, rfl⟩ := hd.u; obtain ⟨x, rfl⟩ := hx.u
  rw [op_Eval_w, evalI_u]
theorem ref_Eval_m (k : Nat) (hk : 65 ≤ k) (o : Tapi_Op) (a b d x : Int) (hc : IsW o.c) (ha : IsW a) (hb : IsW b) (hd : IsW d) (hx : IsW x) : visorref17_Eval.m k o a b d x = some (evalI o a b d x) := by
  obtain ⟨kind, dom, r, s, t, c⟩ := o
  obtain ⟨c, rfl⟩ := hc.u; obtain ⟨a, rfl⟩ := ha.u; obtain ⟨b, rfl⟩ := hb.u; obtain ⟨d, rfl⟩ := hd.u; obtain ⟨x, rfl⟩ := hx.u
  rw [ref_Eval_w k hk, evalI_u]

/-! Which ops may be: both programs' Right is one question. -/
def opRegs (kind n : Int) : Int := if kind = 2 then n - 1 else if kind = 5 ∨ kind = 7 then 2 else if kind = 6 ∨ kind = 8 ∨ kind = 9 ∨ kind = 10 ∨ kind = 11 then 1 else if kind = 12 then n else 0
def okReg (r at' j regs : Int) : Prop := (j < regs → 0 ≤ r ∧ r < at') ∧ (regs ≤ j → r = -1)
instance (r at' j regs : Int) : Decidable (okReg r at' j regs) := by unfold okReg; infer_instance
def okConst (o : Tapi_Op) : Bool := if o.kind = 9 ∨ o.kind = 10 ∨ o.kind = 11 then decide (o.c < 64) else if o.kind = 2 then decide (o.c < 1048576) else if o.kind = 3 ∨ o.kind = 4 ∨ o.kind = 8 then true else o.c == 0
def okHead (o : Tapi_Op) (n : Int) : Prop := 1 ≤ o.kind ∧ o.kind ≤ 12 ∧ -1 ≤ o.dom ∧ o.dom < n ∧ (o.kind = 12 → o.dom = -1)
instance (o : Tapi_Op) (n : Int) : Decidable (okHead o n) := by unfold okHead; infer_instance
def okRegs (o : Tapi_Op) (at' n : Int) : Prop := okReg o.a at' 0 (opRegs o.kind n) ∧ okReg o.b at' 1 (opRegs o.kind n) ∧ okReg o.d at' 2 (opRegs o.kind n)
instance (o : Tapi_Op) (at' n : Int) : Decidable (okRegs o at' n) := by unfold okRegs; infer_instance
/-- may an op be, at a place, of so many shares? -/
def Rt (o : Tapi_Op) (at' n : Int) : Bool := decide (okHead o n) && (decide (okRegs o at' n) && okConst o)
theorem beqF {a b : Int} (h : ¬ a = b) : (a == b) = false := beq_eq_false_iff_ne.2 h
theorem op_Regs_m (k : Nat) (kind n : Int) (hn : n = 2 ∨ n = 3) : op_Regs.m k kind n = some (opRegs kind n) := by
  have hw : IntKind.i64.wrap (n - 1) = n - 1 := wrap_i64_of (by omega) (by omega)
  have h0 : ((n != 2) && (n != 3)) = false := by rcases hn with rfl | rfl <;> rfl
  unfold op_Regs.m op_Regs.j1 op_Regs.j2 opRegs
  rw [h0, cond_false, hw]
  by_cases h2 : kind = 2
  · subst h2; rfl
  by_cases h5 : kind = 5
  · subst h5; rfl
  by_cases h7 : kind = 7
  · subst h7; rfl
  by_cases h6 : kind = 6
  · subst h6; rfl
  by_cases h8 : kind = 8
  · subst h8; rfl
  by_cases h9 : kind = 9
  · subst h9; rfl
  by_cases h10 : kind = 10
  · subst h10; rfl
  by_cases h11 : kind = 11
  · subst h11; rfl
  by_cases h12 : kind = 12
  · subst h12; rfl
  simp only [h2, h5, h6, h7, h8, h9, h10, h11, h12, beqF h2, beqF h5, beqF h6, beqF h7, beqF h8, beqF h9, beqF h10, beqF h11, beqF h12, cond_false, or_self, if_false]
theorem ref_Regs_m (k : Nat) (kind n : Int) (hn : n = 2 ∨ n = 3) : visorref17_Regs.m k kind n = some (opRegs kind n) := op_Regs_m k kind n hn
theorem op_constant_m (k : Nat) (o : Tapi_Op) : op_constant.m k o = some (okConst o) := by
  unfold op_constant.m op_constant.j1 op_constant.j2 okConst
  by_cases h9 : o.kind = 9
  · rw [h9]; rfl
  by_cases h10 : o.kind = 10
  · rw [h10]; rfl
  by_cases h11 : o.kind = 11
  · rw [h11]; rfl
  by_cases h2 : o.kind = 2
  · rw [h2]; rfl
  by_cases h3 : o.kind = 3
  · rw [h3]; rfl
  by_cases h4 : o.kind = 4
  · rw [h4]; rfl
  by_cases h8 : o.kind = 8
  · rw [h8]; rfl
  simp only [h2, h3, h4, h8, h9, h10, h11, beqF h2, beqF h3, beqF h4, beqF h8, beqF h9, beqF h10, beqF h11, cond_false, or_self, if_false]
theorem op_Right_step (o : Tapi_Op) (at' v : Int) (k j : Nat) (r : Int) (hj : j < 3) (hr : getI .i64 [C.int .i64 o.a, C.int .i64 o.b, C.int .i64 o.d] j = some r) :
    op_Right.l1 o at' v (k + 1) (j : Int) = if okReg r at' j v then op_Right.l1 o at' v k ((j + 1 : Nat) : Int) else some (.inl false) := by
  have hw : IntKind.i64.wrap ((j : Int) + 1) = ((j + 1 : Nat) : Int) := by rw [wrap_i64_of (by omega) (by omega)]; omega
  conv => lhs; unfold op_Right.l1
  rw [decide_eq_true (show (j : Int) < 3 by omega), cond_true, if_pos (by omega), Int.toNat_natCast, hr, Option.bind_some, hw]
  by_cases h1 : (j : Int) < v
  · rw [decide_eq_true h1, cond_true, decide_eq_false (show ¬ (j : Int) ≥ v by omega), cond_false]
    by_cases h2 : r < 0
    · rw [decide_eq_true h2, cond_true, if_neg (by unfold okReg; omega)]
    · rw [decide_eq_false h2, cond_false]
      by_cases h3 : r ≥ at'
      · rw [decide_eq_true h3, cond_true, if_neg (by unfold okReg; omega)]
      · rw [decide_eq_false h3, cond_false, if_pos (by unfold okReg; omega)]
  · rw [decide_eq_false h1, cond_false, decide_eq_true (show (j : Int) ≥ v by omega), cond_true]
    by_cases h2 : r = -1
    · rw [show (r != -1) = false by simp [h2], cond_false, if_pos (by unfold okReg; omega)]
    · rw [show (r != -1) = true by simp [h2], cond_true, if_neg (by unfold okReg; omega)]
theorem op_Right_end (o : Tapi_Op) (at' v : Int) (k : Nat) : op_Right.l1 o at' v (k + 1) ((3 : Nat) : Int) = some (.inr ()) := by unfold op_Right.l1; rfl
theorem ref_Right_step (o : Tapi_Op) (at' n : Int) (hn : n = 2 ∨ n = 3) (k j : Nat) (r : Int) (hj : j < 3) (hr : getI .i64 [C.int .i64 o.a, C.int .i64 o.b, C.int .i64 o.d] j = some r) :
    visorref17_Right.l1 o at' n (k + 1) (j : Int) = if okReg r at' j (opRegs o.kind n) then visorref17_Right.l1 o at' n k ((j + 1 : Nat) : Int) else some (.inl false) := by
  have hw : IntKind.i64.wrap ((j : Int) + 1) = ((j + 1 : Nat) : Int) := by rw [wrap_i64_of (by omega) (by omega)]; omega
  have hj0 : 0 + ((j : Nat) : Int).toNat * 1 = j := by simp
  conv => lhs; unfold visorref17_Right.l1
  rw [decide_eq_true (show (j : Int) < 3 by omega), cond_true, ref_Regs_m _ _ _ hn, Option.bind_some, if_pos (by omega), hj0, hr, Option.bind_some, hw]
  simp only [Option.bind_some]
  generalize opRegs o.kind n = v
  by_cases h1 : (j : Int) < v
  · rw [decide_eq_true h1, cond_true]
    by_cases h2 : r < 0
    · rw [decide_eq_true h2, cond_true, if_neg (by unfold okReg; omega)]
    · rw [decide_eq_false h2, cond_false, if_pos (by omega)]
      by_cases h3 : r ≥ at'
      · rw [decide_eq_true h3, cond_true, if_neg (by unfold okReg; omega)]
      · rw [decide_eq_false h3, cond_false, decide_eq_false (show ¬ (j : Int) ≥ v by omega), cond_false, if_pos (by unfold okReg; omega)]
  · rw [decide_eq_false h1, cond_false, decide_eq_true (show (j : Int) ≥ v by omega), cond_true, if_pos (by omega)]
    by_cases h2 : r = -1
    · rw [show (r != -1) = false by simp [h2], cond_false, if_pos (by unfold okReg; omega)]
    · rw [show (r != -1) = true by simp [h2], cond_true, if_neg (by unfold okReg; omega)]
theorem ref_Right_end (o : Tapi_Op) (at' n : Int) (k : Nat) : visorref17_Right.l1 o at' n (k + 1) ((3 : Nat) : Int) = some (.inr ()) := by unfold visorref17_Right.l1; rfl
theorem op_Right_loop (o : Tapi_Op) (at' n : Int) (k : Nat) : op_Right.l1 o at' (opRegs o.kind n) (k + 4) 0 = some (if okRegs o at' n then .inr () else .inl false) := by
  have h := op_Right_step o at' (opRegs o.kind n) (k + 3) 0 o.a (by omega) rfl
  have h0 : ((0 : Nat) : Int) = 0 := rfl
  rw [h0] at h
  rw [h, op_Right_step o at' _ (k + 2) 1 o.b (by omega) rfl, op_Right_step o at' _ (k + 1) 2 o.d (by omega) rfl, op_Right_end]
  unfold okRegs
  by_cases h1 : okReg o.a at' 0 (opRegs o.kind n)
  · by_cases h2 : okReg o.b at' 1 (opRegs o.kind n)
    · by_cases h3 : okReg o.d at' 2 (opRegs o.kind n)
      · simp [h1, h2, h3]
      · simp [h1, h2, h3]
    · simp [h1, h2]
  · simp [h1]
theorem ref_Right_loop (o : Tapi_Op) (at' n : Int) (hn : n = 2 ∨ n = 3) (k : Nat) : visorref17_Right.l1 o at' n (k + 4) 0 = some (if okRegs o at' n then .inr () else .inl false) := by
  have h := ref_Right_step o at' n hn (k + 3) 0 o.a (by omega) rfl
  have h0 : ((0 : Nat) : Int) = 0 := rfl
  rw [h0] at h
  rw [h, ref_Right_step o at' n hn (k + 2) 1 o.b (by omega) rfl, ref_Right_step o at' n hn (k + 1) 2 o.d (by omega) rfl, ref_Right_end]
  unfold okRegs
  by_cases h1 : okReg o.a at' 0 (opRegs o.kind n)
  · by_cases h2 : okReg o.b at' 1 (opRegs o.kind n)
    · by_cases h3 : okReg o.d at' 2 (opRegs o.kind n)
      · simp [h1, h2, h3]
      · simp [h1, h2, h3]
    · simp [h1, h2]
  · simp [h1]
theorem op_Right_j (k : Nat) (o : Tapi_Op) (at' n : Int) (hn : n = 2 ∨ n = 3) (b : Bool) : op_Right.j1 (k + 4) o at' n b = some (!b && (decide (okRegs o at' n) && okConst o)) := by
  unfold op_Right.j1
  cases b
  · rw [cond_false, op_Regs_m _ _ _ hn, Option.bind_some, op_Right_loop, Option.bind_some, op_constant_m]
    by_cases h : okRegs o at' n
    · rw [if_pos h]; simp [h]
    · rw [if_neg h]; simp [h]
  · rfl
theorem ref_Right_j (k : Nat) (o : Tapi_Op) (at' n : Int) (hn : n = 2 ∨ n = 3) (b : Bool) : visorref17_Right.j1 (k + 4) o at' n b = some (!b && (decide (okRegs o at' n) && okConst o)) := by
  have hc : ∀ k, (bif o.kind == 9 then visorref17_Right.j2 k o (o.kind == 9) else (bif o.kind == 10 then visorref17_Right.j2 k o (o.kind == 10) else visorref17_Right.j2 k o (o.kind == 11))) = some (okConst o) := fun k => op_constant_m k o
  unfold visorref17_Right.j1
  cases b
  · rw [cond_false, ref_Right_loop o at' n hn, Option.bind_some]
    by_cases h : okRegs o at' n
    · rw [if_pos h]; simp only [hc]; simp [h]
    · rw [if_neg h]; simp [h]
  · rfl
theorem op_Right_m (k : Nat) (o : Tapi_Op) (at' n : Int) (hn : n = 2 ∨ n = 3) : op_Right.m (k + 4) o at' n = some (Rt o at' n) := by
  have h0 : ((n != 2) && (n != 3)) = false := by rcases hn with rfl | rfl <;> rfl
  unfold op_Right.m op_is.m
  rw [h0, cond_false, Option.bind_some]
  simp only [op_Right_j _ _ _ _ hn]
  unfold Rt okHead
  by_cases h1 : 1 ≤ o.kind
  · by_cases h2 : o.kind ≤ 12
    · by_cases h3 : -1 ≤ o.dom
      · by_cases h4 : o.dom < n
        · have e : ((!(decide (o.kind ≥ 1) && decide (o.kind ≤ 12)) || decide (o.dom < -1)) || decide (o.dom ≥ n)) = false := by
            simp only [Bool.or_eq_false_iff, decide_eq_false_iff_not, Bool.not_eq_false', Bool.and_eq_true, decide_eq_true_eq]; omega
          rw [e, cond_false]
          by_cases h5 : o.kind = 12
          · by_cases h6 : o.dom = -1
            · simp [h5, h6]; omega
            · have : o.dom ≥ 0 := by omega
              simp [h5, h6, this]
          · simp [h1, h2, h3, h4, h5, beqF h5]
        · have e : ((!(decide (o.kind ≥ 1) && decide (o.kind ≤ 12)) || decide (o.dom < -1)) || decide (o.dom ≥ n)) = true := by simp; omega
          rw [e, cond_true]; simp [h4]
      · have e : ((!(decide (o.kind ≥ 1) && decide (o.kind ≤ 12)) || decide (o.dom < -1)) || decide (o.dom ≥ n)) = true := by simp; omega
        rw [e, cond_true]; simp [h3]
    · have e : ((!(decide (o.kind ≥ 1) && decide (o.kind ≤ 12)) || decide (o.dom < -1)) || decide (o.dom ≥ n)) = true := by simp; omega
      rw [e, cond_true]; simp [h2]
  · have e : ((!(decide (o.kind ≥ 1) && decide (o.kind ≤ 12)) || decide (o.dom < -1)) || decide (o.dom ≥ n)) = true := by simp; omega
    rw [e, cond_true]; simp [h1]
theorem ref_Right_m (k : Nat) (o : Tapi_Op) (at' n : Int) (hn : n = 2 ∨ n = 3) : visorref17_Right.m (k + 4) o at' n = some (Rt o at' n) := by
  have h0 : ((n != 2) && (n != 3)) = false := by rcases hn with rfl | rfl <;> rfl
  unfold visorref17_Right.m
  simp only [ref_Right_j _ _ _ _ hn, h0]
  unfold Rt okHead
  by_cases h1 : 1 ≤ o.kind
  · by_cases h2 : o.kind ≤ 12
    · by_cases h3 : -1 ≤ o.dom
      · by_cases h4 : o.dom < n
        · have e : ((((false || decide (o.kind < 1)) || decide (o.kind > 12)) || decide (o.dom < -1)) || decide (o.dom ≥ n)) = false := by
            simp only [Bool.or_eq_false_iff, decide_eq_false_iff_not, true_and]; omega
          rw [e, cond_false]
          by_cases h5 : o.kind = 12
          · by_cases h6 : o.dom = -1
            · simp [h5, h6]; omega
            · simp [h5, h6]
          · simp [h1, h2, h3, h4, h5, beqF h5]
        · have e : ((((false || decide (o.kind < 1)) || decide (o.kind > 12)) || decide (o.dom < -1)) || decide (o.dom ≥ n)) = true := by simp; omega
          rw [e, cond_true]; simp [h4]
      · have e : ((((false || decide (o.kind < 1)) || decide (o.kind > 12)) || decide (o.dom < -1)) || decide (o.dom ≥ n)) = true := by simp; omega
        rw [e, cond_true]; simp [h3]
    · have e : ((((false || decide (o.kind < 1)) || decide (o.kind > 12)) || decide (o.dom < -1)) || decide (o.dom ≥ n)) = true := by simp; omega
      rw [e, cond_true]; simp [h2]
  · have e : ((((false || decide (o.kind < 1)) || decide (o.kind > 12)) || decide (o.dom < -1)) || decide (o.dom ≥ n)) = true := by simp; omega
    rw [e, cond_true]; simp [h1]

/-! A machine's Do, as one total function. -/
def atI (v : List Int) (r : Int) : Int := if 0 ≤ r ∧ r < (v.length : Int) then v.getD r.toNat 0 else 0
theorem atI_w {v : List Int} (hv : ∀ x ∈ v, IsW x) (r : Int) : IsW (atI v r) := by
  unfold atI
  split
  · rename_i h
    have hlt : r.toNat < v.length := by omega
    rw [List.getD_eq_getElem?_getD, List.getElem?_eq_getElem hlt]; exact hv _ (List.getElem_mem hlt)
  · exact isW_zero
theorem atI_neg {v : List Int} {r : Int} (h : r < 0) : atI v r = 0 := by unfold atI; rw [if_neg (by omega)]
theorem atI_append {v : List Int} {r : Int} (h : r < (v.length : Int)) (l : List Int) : atI (v ++ l) r = atI v r := by
  unfold atI
  by_cases h0 : 0 ≤ r
  · have hlt : r.toNat < v.length := by omega
    rw [if_pos (show 0 ≤ r ∧ r < ((v ++ l).length : Int) from ⟨h0, by rw [List.length_append]; omega⟩), if_pos (show 0 ≤ r ∧ r < (v.length : Int) from ⟨h0, h⟩), List.getD_eq_getElem?_getD, List.getD_eq_getElem?_getD, List.getElem?_append_left hlt]
  · rw [if_neg (by omega), if_neg (by omega)]
theorem value_m (k : Nat) (m : Twire_Machine) (r : Int) (h : r < 0 ∨ r < (m.values.length : Int)) : wire_Machine_value.m k m r = some (atI m.values r) := by
  unfold wire_Machine_value.m
  by_cases h0 : r < 0
  · rw [decide_eq_true h0, cond_true, atI_neg h0]
  · have hlt : r.toNat < m.values.length := by omega
    rw [decide_eq_false h0, cond_false, if_pos (by omega), List.getElem?_eq_getElem hlt, Option.bind_some]
    unfold atI
    rw [if_pos (by omega), List.getD_eq_getElem?_getD, List.getElem?_eq_getElem hlt]; rfl
theorem opRegs_le (kind n : Int) (hn : n = 2 ∨ n = 3) : 0 ≤ opRegs kind n ∧ opRegs kind n ≤ 3 := by
  unfold opRegs
  repeat' split
  all_goals omega
/-- registers of an op that may be -/
theorem Rt_regs {o : Tapi_Op} {at' n : Int} (h : Rt o at' n = true) (h0 : 0 ≤ at') : (o.a < 0 ∨ o.a < at') ∧ (o.b < 0 ∨ o.b < at') ∧ (o.d < 0 ∨ o.d < at') := by
  unfold Rt at h
  simp only [Bool.and_eq_true, decide_eq_true_eq] at h
  obtain ⟨h1, h2, h3⟩ := h.2.1
  unfold okReg at h1 h2 h3
  omega
theorem Rt_head {o : Tapi_Op} {at' n : Int} (h : Rt o at' n = true) : okHead o n := by
  unfold Rt at h
  simp only [Bool.and_eq_true, decide_eq_true_eq] at h
  exact h.1

def Twire_Machine.len (m : Twire_Machine) : Int := m.base + (m.ops.length : Int)
/-- is a mask to be drawn, and there is none? -/
def noMask (t : Ttape_Tape) : Prop := t.free < 1 ∨ (t.words.length : Int) - t.used.v < 1
instance (t : Ttape_Tape) : Decidable (noMask t) := by unfold noMask; infer_instance
def failM (m : Twire_Machine) (e : Int) : Int × Twire_Machine := (-1, ⟨m.n, m.most, m.base, m.words, m.draws, m.dry, m.openF, m.fromF, e, m.tape, m.ops, m.values, m.blocks⟩)
def pushM (m : Twire_Machine) (o : Tapi_Op) (x : Int) : Int × Twire_Machine :=
  if m.dry then (m.base, ⟨m.n, m.most, m.base + 1, if o.kind = 2 then m.words + 1 else m.words, if o.kind = 1 then m.draws + 1 else m.draws, m.dry, m.openF, m.fromF, m.bad, m.tape, m.ops, m.values, m.blocks⟩)
  else ((m.ops.length : Int), ⟨m.n, m.most, m.base, if o.kind = 2 then m.words + 1 else m.words, if o.kind = 1 then m.draws + 1 else m.draws, m.dry, m.openF, m.fromF, m.bad, m.tape, m.ops ++ [o], m.values ++ [evalI o (atI m.values o.a) (atI m.values o.b) (atI m.values o.d) x], m.blocks⟩)
def drawnM (m : Twire_Machine) : Twire_Machine := ⟨m.n, m.most, m.base, m.words, m.draws, m.dry, m.openF, m.fromF, m.bad, ⟨m.tape.words, ⟨m.tape.used.v + 1⟩, m.tape.free - 1⟩, m.ops, m.values, m.blocks⟩
def rightM (m : Twire_Machine) (o : Tapi_Op) : Bool := Rt o m.len m.n && (o.kind != 2 || o.c == m.words)
def doM (m : Twire_Machine) (o : Tapi_Op) (x : Int) : Int × Twire_Machine :=
  if m.bad ≠ 0 then (-1, m)
  else if rightM m o = false then failM m 1
  else if m.dry = false ∧ m.most ≤ (m.ops.length : Int) then failM m 3
  else if o.kind = 1 ∧ m.dry = false then
    (if noMask m.tape then failM m 2 else pushM (drawnM m) o (atI m.tape.words m.tape.used.v))
  else pushM m o x

/-- a machine that may be -/
structure MOk (m : Twire_Machine) : Prop where
  n : m.n = 2 ∨ m.n = 3
  most : m.most ≤ 1048576
  base : 0 ≤ m.base ∧ m.base ≤ 4611686018427387904
  words : 0 ≤ m.words ∧ m.words ≤ m.base + (m.ops.length : Int)
  draws : 0 ≤ m.draws ∧ m.draws ≤ m.base + (m.ops.length : Int)
  ops : m.ops.length ≤ 1048576
  vals : m.values.length = m.ops.length
  bad : 0 ≤ m.bad ∧ m.bad ≤ 3
  wvals : ∀ x ∈ m.values, IsW x
  wtape : ∀ x ∈ m.tape.words, IsW x
  used : 0 ≤ m.tape.used.v ∧ m.tape.used.v ≤ (m.tape.words.length : Int)
  free : m.tape.free ≤ (m.tape.words.length : Int)
  tlen : (m.tape.words.length : Int) ≤ 4611686018427387904
  wet : m.dry = false → m.base = 0
  dryV : m.dry = true → m.ops = []

theorem wrapI {x : Int} (h0 : -4611686018427387904 ≤ x) (h1 : x ≤ 4611686018427387904 * 3 / 2) : IntKind.i64.wrap x = x := wrap_i64_of (by omega) (by omega)
theorem Len_m (k : Nat) {m : Twire_Machine} (h : MOk m) : wire_Machine_Len.m k m = some m.len := by
  have := h.base; have := h.ops
  unfold wire_Machine_Len.m Twire_Machine.len
  rw [wrapI (by omega) (by omega)]
theorem right_m (k : Nat) {m : Twire_Machine} (h : MOk m) (o : Tapi_Op) : wire_Machine_right.m (k + 4) m o = some (rightM m o) := by
  have hw : IntKind.u64.wrap m.words = m.words := by have := h.words; have := h.base; have := h.ops; exact wrap_u64_of (by omega) (by omega)
  unfold wire_Machine_right.m wire_Machine_right.j1 rightM
  rw [Len_m _ h, Option.bind_some, op_Right_m _ _ _ _ h.n, Option.bind_some, hw]
  cases Rt o m.len m.n
  · rfl
  · rw [cond_true, Bool.true_and]
    cases hk : o.kind != 2
    · rw [cond_false, Bool.false_or]
    · rfl
theorem fail_m (k : Nat) (m : Twire_Machine) (e : Int) (h : m.bad = 0) : wire_Machine_fail.m k m e = some (failM m e) := by
  unfold wire_Machine_fail.m wire_Machine_fail.j1 failM
  rw [h]; rfl
theorem draw_no (k : Nat) {m : Twire_Machine} (h : MOk m) (hn : noMask m.tape) : tape_Tape_Draw.m k m.tape = some (0, false, m.tape) := by
  have := h.used; have := h.tlen
  unfold tape_Tape_Draw.m tape_Tape_Draw.j1 tape_Tape_Left.m tape_Tape_Used.m
  unfold noMask at hn
  by_cases hf : m.tape.free < 1
  · rw [decide_eq_true hf]; rfl
  · rw [decide_eq_false hf, cond_false, Option.bind_some, Option.bind_some, wrapI (by omega) (by omega), decide_eq_true (by omega)]; rfl
theorem draw_yes (k : Nat) {m : Twire_Machine} (h : MOk m) (hn : ¬ noMask m.tape) : tape_Tape_Draw.m k m.tape = some (atI m.tape.words m.tape.used.v, true, (drawnM m).tape) := by
  have h1 := h.used; have h2 := h.tlen; have h3 := h.free
  unfold noMask at hn
  have hlt : m.tape.used.v.toNat < m.tape.words.length := by omega
  unfold tape_Tape_Draw.m tape_Tape_Draw.j1 tape_Tape_Left.m tape_Tape_Used.m
  rw [decide_eq_false (show ¬ m.tape.free < 1 by omega), cond_false, Option.bind_some, Option.bind_some, wrapI (by omega) (by omega), decide_eq_false (by omega), cond_false, wrapI (x := m.tape.used.v + 1) (by omega) (by omega), show m.tape.used.v + 1 - 1 = m.tape.used.v by omega, wrapI (x := m.tape.used.v) (by omega) (by omega), wrapI (x := m.tape.free - 1) (by omega) (by omega),
    if_pos (by omega), List.getElem?_eq_getElem hlt, Option.bind_some]
  unfold atI drawnM
  rw [if_pos (by omega), List.getD_eq_getElem?_getD, List.getElem?_eq_getElem hlt]; rfl
theorem MOk.draw {m : Twire_Machine} (h : MOk m) (hn : ¬ noMask m.tape) : MOk (drawnM m) := by
  have h1 := h.used; have h2 := h.tlen; have h3 := h.free
  unfold noMask at hn
  exact ⟨h.n, h.most, h.base, h.words, h.draws, h.ops, h.vals, h.bad, h.wvals, h.wtape, ⟨by show 0 ≤ m.tape.used.v + 1; omega, by show m.tape.used.v + 1 ≤ (m.tape.words.length : Int); omega⟩, by show m.tape.free - 1 ≤ (m.tape.words.length : Int); omega, h.tlen, h.wet, h.dryV⟩
theorem push_j3 (k : Nat) {m : Twire_Machine} (h : MOk m) (o : Tapi_Op) (x : Int) (hc : IsW o.c) (hx : IsW x) (hr : Rt o m.len m.n = true) (hb : m.base < 4611686018427387904) (hl : m.dry = false → m.ops.length < 1048576) (w d : Int) :
    wire_Machine_Do.j3 k o x ⟨m.n, m.most, m.base, w, d, m.dry, m.openF, m.fromF, m.bad, m.tape, m.ops, m.values, m.blocks⟩ =
      some (if m.dry then (m.base, ⟨m.n, m.most, m.base + 1, w, d, m.dry, m.openF, m.fromF, m.bad, m.tape, m.ops, m.values, m.blocks⟩) else ((m.ops.length : Int), ⟨m.n, m.most, m.base, w, d, m.dry, m.openF, m.fromF, m.bad, m.tape, m.ops ++ [o], m.values ++ [evalI o (atI m.values o.a) (atI m.values o.b) (atI m.values o.d) x], m.blocks⟩)) := by
  have h1 := h.base; have h2 := h.ops; have h3 := h.vals
  unfold wire_Machine_Do.j3
  cases hd : m.dry
  · have hb0 := h.wet hd
    have hlen : m.len = (m.ops.length : Int) := by unfold Twire_Machine.len; omega
    have hg := Rt_regs hr (by rw [hlen]; omega)
    rw [hlen] at hg
    have hl := hl hd
    have value : ∀ r : Int, r < 0 ∨ r < (m.ops.length : Int) → wire_Machine_value.m k ⟨m.n, m.most, m.base, w, d, false, m.openF, m.fromF, m.bad, m.tape, m.ops, m.values, m.blocks⟩ r = some (atI m.values r) := fun r hr => value_m k ⟨m.n, m.most, m.base, w, d, false, m.openF, m.fromF, m.bad, m.tape, m.ops, m.values, m.blocks⟩ r (by show r < 0 ∨ r < (m.values.length : Int); omega)
    dsimp only
    rw [cond_false, value _ hg.1, Option.bind_some, value _ hg.2.1, Option.bind_some, value _ hg.2.2, Option.bind_some,
      op_Eval_m k o _ _ _ _ hc (atI_w h.wvals _) (atI_w h.wvals _) (atI_w h.wvals _) hx, Option.bind_some, if_pos (by simp only [List.length_cons, List.length_nil]; omega), if_pos (by simp only [List.length_cons, List.length_nil]; omega)]
    rw [List.length_append, List.length_cons, List.length_nil, wrapI (by omega) (by omega), show (((m.ops.length + (0 + 1) : Nat)) : Int) - 1 = (m.ops.length : Int) by omega]
    rfl
  · dsimp only
    rw [cond_true, wrapI (x := m.base + 1) (by omega) (by omega), show m.base + 1 - 1 = m.base by omega, wrapI (by omega) (by omega)]; rfl
theorem push_j2 (k : Nat) {m : Twire_Machine} (h : MOk m) (o : Tapi_Op) (x : Int) (hc : IsW o.c) (hx : IsW x) (hr : Rt o m.len m.n = true) (hb : m.base < 4611686018427387904) (hl : m.dry = false → m.ops.length < 1048576) :
    wire_Machine_Do.j2 k o m x = some (pushM m o x) := by
  have h1 := h.base; have h2 := h.ops; have h3 := h.words; have h4 := h.draws
  have e1 : IntKind.i64.wrap (m.draws + 1) = m.draws + 1 := wrapI (by omega) (by omega)
  have e2 : IntKind.i64.wrap (m.words + 1) = m.words + 1 := wrapI (by omega) (by omega)
  unfold wire_Machine_Do.j2 pushM
  by_cases k1 : o.kind = 1
  · rw [k1]
    simp only [show ((1 : Int) == 1) = true from rfl, cond_true, e1]
    rw [push_j3 k h o x hc hx hr hb hl]; rfl
  · by_cases k2 : o.kind = 2
    · rw [k2]
      simp only [show ((2 : Int) == 1) = false from rfl, show ((2 : Int) == 2) = true from rfl, cond_true, cond_false, e2]
      rw [push_j3 k h o x hc hx hr hb hl]; rfl
    · rw [beqF k1, beqF k2, cond_false, cond_false, if_neg k1, if_neg k2]
      exact push_j3 k h o x hc hx hr hb hl m.words m.draws
theorem Do_m (k : Nat) {m : Twire_Machine} (h : MOk m) (o : Tapi_Op) (x : Int) (hc : IsW o.c) (hx : IsW x) (hb : m.base < 4611686018427387904) : wire_Machine_Do.m (k + 4) m o x = some (doM m o x) := by
  have h2 := h.ops; have h5 := h.most
  unfold wire_Machine_Do.m doM
  by_cases b0 : m.bad = 0
  · rw [show (m.bad != 0) = false by simp [b0], cond_false, if_neg (by omega), right_m k h, Option.bind_some]
    cases hr : rightM m o
    · rw [Bool.not_false, cond_true, fail_m _ _ _ b0, Option.bind_some, if_pos rfl]
    · have hR : Rt o m.len m.n = true := by unfold rightM at hr; rw [Bool.and_eq_true] at hr; exact hr.1
      rw [Bool.not_true, cond_false, if_neg (by simp)]
      unfold wire_Machine_Do.j1
      cases hd : m.dry
      · rw [Bool.not_false, cond_true]
        by_cases hm : m.most ≤ (m.ops.length : Int)
        · rw [decide_eq_true (show ((m.ops.length : Nat) : Int) ≥ m.most from hm), cond_true, fail_m _ _ _ b0, Option.bind_some, if_pos ⟨rfl, hm⟩]
        · rw [decide_eq_false (show ¬ ((m.ops.length : Nat) : Int) ≥ m.most from hm), cond_false, if_neg (fun h => hm h.2)]
          by_cases k1 : o.kind = 1
          · rw [show ((o.kind == 1) && true) = true by simp [k1], cond_true, if_pos ⟨k1, rfl⟩]
            by_cases hn : noMask m.tape
            · rw [draw_no _ h hn, Option.bind_some, if_pos hn]
              dsimp only
              rw [Bool.not_false, cond_true, ← hd, fail_m _ _ _ b0, Option.bind_some]
            · rw [draw_yes _ h hn, Option.bind_some, if_neg hn]
              dsimp only
              rw [Bool.not_true, cond_false, ← hd]
              exact push_j2 (k + 4) (h.draw hn) o _ hc (atI_w h.wtape _) hR hb (fun _ => by show m.ops.length < 1048576; omega)
          · rw [show ((o.kind == 1) && true) = false by rw [beqF k1]; rfl, cond_false, if_neg (fun h => k1 h.1)]
            exact push_j2 (k + 4) h o x hc hx hR hb (fun _ => by omega)
      · rw [Bool.not_true, cond_false, cond_false, Bool.and_false, cond_false, if_neg (fun h => by cases h.1), if_neg (fun h => by cases h.2)]
        exact push_j2 (k + 4) h o x hc hx hR hb (fun e => by rw [hd] at e; cases e)
  · rw [show (m.bad != 0) = true by simp [b0], cond_true, if_pos b0]
theorem pushM_wet {m : Twire_Machine} (hd : m.dry = false) (o : Tapi_Op) (x : Int) : pushM m o x = ((m.ops.length : Int), ⟨m.n, m.most, m.base, if o.kind = 2 then m.words + 1 else m.words, if o.kind = 1 then m.draws + 1 else m.draws, m.dry, m.openF, m.fromF, m.bad, m.tape, m.ops ++ [o], m.values ++ [evalI o (atI m.values o.a) (atI m.values o.b) (atI m.values o.d) x], m.blocks⟩) := by
  unfold pushM; rw [if_neg (by rw [hd]; simp)]
theorem pushM_dry {m : Twire_Machine} (hd : m.dry = true) (o : Tapi_Op) (x : Int) : pushM m o x = (m.base, ⟨m.n, m.most, m.base + 1, if o.kind = 2 then m.words + 1 else m.words, if o.kind = 1 then m.draws + 1 else m.draws, m.dry, m.openF, m.fromF, m.bad, m.tape, m.ops, m.values, m.blocks⟩) := by
  unfold pushM; rw [if_pos hd]
theorem up_le (c : Prop) [Decidable c] {a b : Int} (h0 : 0 ≤ a ∧ a ≤ b) : 0 ≤ (if c then a + 1 else a) ∧ (if c then a + 1 else a) ≤ b + 1 := by split <;> omega
theorem MOk.push {m : Twire_Machine} (h : MOk m) (o : Tapi_Op) (x : Int) (hb : m.base < 4611686018427387904) (hl : m.dry = false → m.ops.length < 1048576) : MOk (pushM m o x).2 := by
  have h1 := h.base; have h2 := h.ops; have h5 := h.vals
  cases hd : m.dry
  · have hl := hl hd
    have hb0 := h.wet hd
    rw [pushM_wet hd]
    refine ⟨h.n, h.most, h.base, ?_, ?_, ?_, ?_, h.bad, ?_, h.wtape, h.used, h.free, h.tlen, fun _ => hb0, fun e => (by rw [hd] at e; cases e)⟩
    · have := up_le (o.kind = 2) h.words
      simp only [List.length_append, List.length_cons, List.length_nil]; omega
    · have := up_le (o.kind = 1) h.draws
      simp only [List.length_append, List.length_cons, List.length_nil]; omega
    · simp only [List.length_append, List.length_cons, List.length_nil]; omega
    · simp only [List.length_append, List.length_cons, List.length_nil]; omega
    · intro y hy
      rcases List.mem_append.1 hy with hy | hy
      · exact h.wvals y hy
      · rw [List.mem_singleton.1 hy]; exact evalI_w _ _ _ _ _
  · rw [pushM_dry hd]
    refine ⟨h.n, h.most, ⟨by show 0 ≤ m.base + 1; omega, by show m.base + 1 ≤ 4611686018427387904; omega⟩, ?_, ?_, h.ops, h.vals, h.bad, h.wvals, h.wtape, h.used, h.free, h.tlen, fun e => (by rw [hd] at e; cases e), fun _ => h.dryV hd⟩
    · have := up_le (o.kind = 2) h.words
      dsimp only; omega
    · have := up_le (o.kind = 1) h.draws
      dsimp only; omega
theorem MOk.fail {m : Twire_Machine} (h : MOk m) (e : Int) (he : 0 ≤ e ∧ e ≤ 3) : MOk (failM m e).2 :=
  ⟨h.n, h.most, h.base, h.words, h.draws, h.ops, h.vals, he, h.wvals, h.wtape, h.used, h.free, h.tlen, h.wet, h.dryV⟩
theorem MOk.did {m : Twire_Machine} (h : MOk m) (o : Tapi_Op) (x : Int) (hb : m.base < 4611686018427387904) : MOk (doM m o x).2 := by
  have h5 := h.most
  unfold doM
  repeat' split
  · exact h
  · exact h.fail 1 (by omega)
  · exact h.fail 3 (by omega)
  · exact h.fail 2 (by omega)
  · rename_i h1 h2 hn; exact (h.draw hn).push o _ hb (fun hd => by show m.ops.length < 1048576; have : ¬ m.most ≤ (m.ops.length : Int) := fun e => h1 ⟨hd, e⟩; omega)
  · rename_i h1 h2; exact h.push o x hb (fun hd => by have : ¬ m.most ≤ (m.ops.length : Int) := fun e => h1 ⟨hd, e⟩; omega)

/-! Begin, End, and what stays true of a machine: its words are what its ops make. -/
theorem Do_k {k : Nat} (hk : 4 ≤ k) {m : Twire_Machine} (h : MOk m) (o : Tapi_Op) (x : Int) (hc : IsW o.c) (hx : IsW x) (hb : m.base < 4611686018427387904) : wire_Machine_Do.m k m o x = some (doM m o x) := by
  obtain ⟨j, rfl⟩ : ∃ j, k = j + 4 := ⟨k - 4, by omega⟩
  exact Do_m j h o x hc hx hb
theorem next_m (k : Nat) {m : Twire_Machine} (h : MOk m) : wire_Machine_next.m k m = some m.words := by
  have := h.words; have := h.base; have := h.ops
  unfold wire_Machine_next.m
  rw [wrap_u64_of (by omega) (by omega)]
theorem words_w {m : Twire_Machine} (h : MOk m) : IsW m.words := by
  have := h.words; have := h.base; have := h.ops
  unfold IsW; omega
theorem Key_k {k : Nat} (hk : 4 ≤ k) {m : Twire_Machine} (h : MOk m) (x a b : Int) (hx : IsW x) (hb : m.base < 4611686018427387904) : wire_Machine_Key.m k m x a b = some (doM m ⟨2, 0, a, b, -1, m.words⟩ x) := by
  unfold wire_Machine_Key.m
  rw [next_m _ h, Option.bind_some, Do_k hk h _ _ (words_w h) hx hb, Option.bind_some]
def beginM (m : Twire_Machine) (kd : Int) : Twire_Machine :=
  if m.bad ≠ 0 then m else if m.openF ≠ 0 ∨ kd < 1 ∨ kd > 3 then (failM m 1).2 else ⟨m.n, m.most, m.base, m.words, m.draws, m.dry, kd, m.len, m.bad, m.tape, m.ops, m.values, m.blocks⟩
def endM (m : Twire_Machine) : Twire_Machine :=
  if m.bad ≠ 0 then m else if m.openF = 0 then (failM m 1).2 else ⟨m.n, m.most, m.base, m.words, m.draws, m.dry, 0, m.fromF, m.bad, m.tape, m.ops, m.values, if m.fromF < m.len ∧ m.dry = false then m.blocks ++ [⟨m.openF, m.fromF, m.len⟩] else m.blocks⟩
theorem Begin_m (k : Nat) {m : Twire_Machine} (h : MOk m) (kd : Int) : wire_Machine_Begin.m k m kd = some (beginM m kd) := by
  unfold wire_Machine_Begin.m beginM
  by_cases b0 : m.bad = 0
  · rw [show (m.bad != 0) = false by simp [b0], cond_false, if_neg (by omega)]
    by_cases c : m.openF ≠ 0 ∨ kd < 1 ∨ kd > 3
    · have e : ((m.openF != 0) || decide (kd < 1) || decide (kd > 3)) = true := by
        simp only [Bool.or_eq_true, bne_iff_ne, ne_eq, decide_eq_true_eq]; rcases c with c | c | c <;> simp [c]
      rw [e, cond_true, fail_m _ _ _ b0, Option.bind_some, if_pos c]
    · have e : ((m.openF != 0) || decide (kd < 1) || decide (kd > 3)) = false := by
        simp only [Bool.or_eq_false_iff, bne_eq_false_iff_eq, decide_eq_false_iff_not]; omega
      rw [e, cond_false, Len_m _ h, Option.bind_some, if_neg c]
  · rw [show (m.bad != 0) = true by simp [b0], cond_true, if_pos b0]
theorem End_m (k : Nat) {m : Twire_Machine} (h : MOk m) (hbl : m.blocks.length ≤ 2097152) : wire_Machine_End.m k m = some (endM m) := by
  unfold wire_Machine_End.m endM
  by_cases b0 : m.bad = 0
  · rw [show (m.bad != 0) = false by simp [b0], cond_false, if_neg (show ¬ m.bad ≠ 0 by omega)]
    by_cases c : m.openF = 0
    · rw [show (m.openF == 0) = true by simp [c], cond_true, fail_m _ _ _ b0, Option.bind_some, if_pos c]
    · rw [beqF c, cond_false, Len_m _ h, Option.bind_some, if_neg c]
      unfold wire_Machine_End.j1 wire_Machine_End.j2
      rw [Len_m _ h, Option.bind_some, if_pos (by simp only [List.length_cons, List.length_nil]; omega)]
      dsimp only
      by_cases c2 : m.fromF < m.len
      · rw [decide_eq_true (show m.len > m.fromF from c2), cond_true]
        cases hd : m.dry
        · rw [Bool.not_false, cond_true, if_pos ⟨c2, rfl⟩]
        · rw [Bool.not_true, cond_false, if_neg (fun h => by cases h.2)]
      · rw [decide_eq_false (show ¬ m.len > m.fromF from c2), cond_false, cond_false, if_neg (fun h => c2 h.1)]
  · rw [show (m.bad != 0) = true by simp [b0], cond_true, if_pos b0]

/-! ops that are made, one by one -/
def cnt (kd : Int) (l : List Tapi_Op) : Nat := l.countP fun o => o.kind == kd
theorem cnt_snoc (kd : Int) (l : List Tapi_Op) (o : Tapi_Op) : cnt kd (l ++ [o]) = cnt kd l + (if o.kind = kd then 1 else 0) := by
  unfold cnt
  rw [List.countP_append]
  by_cases h : o.kind = kd <;> simp [h]
theorem cnt_le (kd : Int) (l : List Tapi_Op) : cnt kd l ≤ l.length := List.countP_le_length
def outw (T K : List Int) (ops : List Tapi_Op) (o : Tapi_Op) : Int := if o.kind = 1 then T.getD (cnt 1 ops) 0 else if o.kind = 2 then K.getD o.c.toNat 0 else 0
inductive Made (n : Int) (T K : List Int) : List Tapi_Op → List Int → Prop
  | nil : Made n T K [] []
  | snoc {ops : List Tapi_Op} {vals : List Int} {o : Tapi_Op} {v : Int} : Made n T K ops vals → Rt o (ops.length : Int) n = true → (o.kind = 2 → o.c = (cnt 2 ops : Int)) → IsW o.c →
      v = evalI o (atI vals o.a) (atI vals o.b) (atI vals o.d) (outw T K ops o) → Made n T K (ops ++ [o]) (vals ++ [v])
theorem Made.len {n : Int} {T K : List Int} {ops : List Tapi_Op} {vals : List Int} (h : Made n T K ops vals) : vals.length = ops.length := by
  induction h with
  | nil => rfl
  | snoc _ _ _ _ _ ih => simp [ih]
theorem Made.more {n : Int} {T K : List Int} {ops : List Tapi_Op} {vals : List Int} (h : Made n T K ops vals) (L : List Int) (hK : cnt 2 ops ≤ K.length) : Made n T (K ++ L) ops vals := by
  induction h with
  | nil => exact .nil
  | @snoc ops vals o v hm h1 h2 h3 h4 ih =>
    rw [cnt_snoc] at hK
    refine .snoc (ih (by omega)) h1 h2 h3 ?_
    rw [h4]
    congr 1
    unfold outw
    by_cases k1 : o.kind = 1
    · rw [if_pos k1, if_pos k1]
    · rw [if_neg k1, if_neg k1]
      by_cases k2 : o.kind = 2
      · rw [if_pos k2] at hK
        rw [if_pos k2, if_pos k2, h2 k2, Int.toNat_natCast, List.getD_eq_getElem?_getD, List.getD_eq_getElem?_getD, List.getElem?_append_left (by omega)]
      · rw [if_neg k2, if_neg k2]
theorem Made.at {n : Int} {T K : List Int} {ops : List Tapi_Op} {vals : List Int} (h : Made n T K ops vals) : ∀ (i : Nat) (o : Tapi_Op) (v : Int), ops[i]? = some o → vals[i]? = some v →
    Rt o (i : Int) n = true ∧ (o.kind = 2 → o.c = (cnt 2 (ops.take i) : Int)) ∧ IsW o.c ∧ v = evalI o (atI vals o.a) (atI vals o.b) (atI vals o.d) (outw T K (ops.take i) o) := by
  induction h with
  | nil => intro i o v h; simp at h
  | @snoc ops vals o' v' hm h1 h2 h3 h4 ih =>
    intro i o v ho hv
    have hl := hm.len
    by_cases hi : i < ops.length
    · rw [List.getElem?_append_left hi] at ho
      rw [List.getElem?_append_left (by omega)] at hv
      obtain ⟨a1, a2, a3, a4⟩ := ih i o v ho hv
      have hr := Rt_regs a1 (by omega)
      rw [List.take_append_of_le_length (by omega)]
      refine ⟨a1, a2, a3, ?_⟩
      rw [atI_append (by omega), atI_append (by omega), atI_append (by omega)]; exact a4
    · have e : i = ops.length := by
        have := (List.getElem?_eq_some_iff.1 ho).1
        simp at this; omega
      subst e
      rw [List.getElem?_append_right (Nat.le_refl _), Nat.sub_self] at ho
      rw [← hl, List.getElem?_append_right (Nat.le_refl _), Nat.sub_self] at hv
      cases ho; cases hv
      have hr := Rt_regs h1 (by omega)
      rw [List.take_left]
      refine ⟨h1, h2, h3, ?_⟩
      rw [atI_append (by omega), atI_append (by omega), atI_append (by omega)]; exact h4
/-- blocks in order, from 'last' on, within so many ops -/
def BlOk (len : Int) : Int → List Tapi_Span → Prop
  | _, [] => True
  | last, b :: l => 1 ≤ b.kind ∧ b.kind ≤ 3 ∧ last ≤ b.fromF ∧ b.fromF < b.to ∧ b.to ≤ len ∧ BlOk len b.to l
def lastTo : Int → List Tapi_Span → Int
  | last, [] => last
  | _, b :: l => lastTo b.to l
theorem BlOk.mono {len len' : Int} (hl : len ≤ len') : ∀ {l : List Tapi_Span} {last : Int}, BlOk len last l → BlOk len' last l
  | [], _, _ => trivial
  | b :: l, _, ⟨h1, h2, h3, h4, h5, h6⟩ => ⟨h1, h2, h3, h4, by omega, BlOk.mono hl h6⟩
theorem BlOk.snoc {len : Int} {b : Tapi_Span} : ∀ {l : List Tapi_Span} {last : Int}, BlOk len last l → 1 ≤ b.kind → b.kind ≤ 3 → lastTo last l ≤ b.fromF → b.fromF < b.to → b.to ≤ len → BlOk len last (l ++ [b])
  | [], _, _, g1, g2, g3, g4, g5 => ⟨g1, g2, g3, g4, g5, trivial⟩
  | _ :: _, _, ⟨h1, h2, h3, h4, h5, h6⟩, g1, g2, g3, g4, g5 => ⟨h1, h2, h3, h4, h5, BlOk.snoc h6 g1 g2 g3 g4 g5⟩
theorem lastTo_snoc {b : Tapi_Span} : ∀ {l : List Tapi_Span} {last : Int}, lastTo last (l ++ [b]) = b.to
  | [], _ => rfl
  | _ :: l, _ => lastTo_snoc (l := l)
theorem BlOk.count {len : Int} : ∀ {l : List Tapi_Span} {last : Int}, BlOk len last l → last + (l.length : Int) ≤ lastTo last l ∧ (last ≤ len → lastTo last l ≤ len)
  | [], last, _ => by simp [lastTo]
  | b :: l, last, ⟨h1, h2, h3, h4, h5, h6⟩ => by
    have := BlOk.count h6
    simp only [lastTo, List.length_cons]; omega

/-! The document's look at a trace that was made. -/
theorem getElem_some {α : Type} {l : List α} {i : Nat} (h : i < l.length) : ∃ x, l[i]? = some x := ⟨l[i], List.getElem?_eq_getElem h⟩
theorem cnt_take (kd : Int) {l : List Tapi_Op} {i : Nat} {o : Tapi_Op} (h : l[i]? = some o) : cnt kd (l.take (i + 1)) = cnt kd (l.take i) + (if o.kind = kd then 1 else 0) := by
  rw [List.take_add_one, h, show (some o).toList = [o] from rfl, cnt_snoc]
theorem Right_ops {n : Int} {T K : List Int} {t : Tapi_Trace} {vals : List Int} (hn : t.n = 2 ∨ t.n = 3) (hlen : t.ops.length ≤ 1048576) (h : Made t.n T K t.ops vals) : ∀ (d i k : Nat), i + d = t.ops.length → d + 5 ≤ k →
    visorref18_Right.l1 t k (cnt 2 (t.ops.take i) : Int) (i : Int) = some (.inr ())
  | 0, i, k, hi, hk => by
    obtain ⟨k, rfl⟩ : ∃ j, k = j + 1 := ⟨k - 1, by omega⟩
    unfold visorref18_Right.l1
    rw [decide_eq_false (by omega), cond_false]
  | d + 1, i, k, hi, hk => by
    obtain ⟨k, rfl⟩ : ∃ j, k = j + 1 := ⟨k - 1, by omega⟩
    obtain ⟨o, ho⟩ := getElem_some (l := t.ops) (i := i) (by omega)
    obtain ⟨v, hv⟩ := getElem_some (l := vals) (i := i) (by rw [h.len]; omega)
    obtain ⟨a1, a2, a3, a4⟩ := h.at i o v ho hv
    have hw : IntKind.i64.wrap ((i : Int) + 1) = ((i + 1 : Nat) : Int) := by rw [wrapI (by omega) (by omega)]; omega
    have ih := Right_ops (n := n) hn hlen h d (i + 1) k (by omega) (by omega)
    rw [cnt_take 2 ho] at ih
    have hc := cnt_le 2 (t.ops.take i)
    rw [List.length_take] at hc
    unfold visorref18_Right.l1
    rw [decide_eq_true (by omega), cond_true, if_pos (by omega), Int.toNat_natCast, ho, Option.bind_some]
    obtain ⟨k', rfl⟩ : ∃ j, k = j + 4 := ⟨k - 4, by omega⟩
    rw [ref_Right_m k' o _ _ hn, a1, Option.bind_some, Bool.not_true, cond_false, if_pos (by omega), Option.bind_some]
    unfold visorref18_Right.j1
    by_cases k2 : o.kind = 2
    · rw [show (o.kind == 2) = true by simp [k2], cond_true, if_pos (by omega), Option.bind_some, a2 k2, show (((cnt 2 (t.ops.take i) : Nat) : Int) != ((cnt 2 (t.ops.take i) : Nat) : Int)) = false by simp, cond_false, hw, wrap_u64_of (by omega) (by omega)]
      rw [if_pos k2] at ih
      exact ih
    · rw [beqF k2, cond_false, hw]
      rw [if_neg k2] at ih
      exact ih
theorem Right_blocks {t : Tapi_Trace} (hb : t.blocks.length ≤ 1048576) : ∀ (d i k : Nat) (last : Int), i + d = t.blocks.length → d < k → BlOk (t.ops.length : Int) last (t.blocks.drop i) →
    visorref18_Right.l2 t k last (i : Int) = some (.inr ())
  | 0, i, k, last, hi, hk, _ => by
    obtain ⟨k, rfl⟩ : ∃ j, k = j + 1 := ⟨k - 1, by omega⟩
    unfold visorref18_Right.l2
    rw [decide_eq_false (by omega), cond_false]
  | d + 1, i, k, last, hi, hk, h => by
    obtain ⟨k, rfl⟩ : ∃ j, k = j + 1 := ⟨k - 1, by omega⟩
    have hlt : i < t.blocks.length := by omega
    have hw : IntKind.i64.wrap ((i : Int) + 1) = ((i + 1 : Nat) : Int) := by rw [wrapI (by omega) (by omega)]; omega
    rw [List.drop_eq_getElem_cons hlt] at h
    obtain ⟨h1, h2, h3, h4, h5, h6⟩ := h
    unfold visorref18_Right.l2
    rw [decide_eq_true (by omega), cond_true, if_pos (by omega), Int.toNat_natCast, List.getElem?_eq_getElem hlt, Option.bind_some]
    rw [show ((((decide (t.blocks[i].kind < 1) || decide (t.blocks[i].kind > 3)) || decide (t.blocks[i].fromF < last)) || decide (t.blocks[i].to ≤ t.blocks[i].fromF)) || decide (t.blocks[i].to > ((t.ops.length : Nat) : Int))) = false by
      simp only [Bool.or_eq_false_iff, decide_eq_false_iff_not]; omega]
    rw [cond_false, hw]
    exact Right_blocks hb d (i + 1) k _ (by omega) (by omega) h6
theorem ref_Trace_m {T K : List Int} {t : Tapi_Trace} {vals : List Int} (hn : t.n = 2 ∨ t.n = 3) (hlen : t.ops.length ≤ 1048576) (h : Made t.n T K t.ops vals) (hb : BlOk (t.ops.length : Int) 0 t.blocks) (k : Nat) (hk : t.ops.length + 5 ≤ k) : visorref18_Right.m k t = some true := by
  have hc := hb.count
  have hbl : t.blocks.length ≤ t.ops.length := by omega
  have h0 : ((t.n != 2) && (t.n != 3)) = false := by rcases hn with e | e <;> rw [e] <;> rfl
  unfold visorref18_Right.m
  rw [h0, Bool.false_or, decide_eq_false (by omega), cond_false]
  have e1 := Right_ops (n := 0) hn hlen h t.ops.length 0 k (by omega) (by omega)
  have e2 := Right_blocks (t := t) (by omega) t.blocks.length 0 k 0 (by omega) (by omega) (by rw [List.drop_zero]; exact hb)
  rw [List.take_zero] at e1
  have z : (((cnt 2 ([] : List Tapi_Op)) : Nat) : Int) = 0 := rfl
  have z2 : ((0 : Nat) : Int) = 0 := rfl
  rw [z, z2] at e1
  rw [z2] at e2
  rw [e1, Option.bind_some]
  dsimp only
  rw [e2, Option.bind_some]

theorem holds_ops {T K : List Int} {t : Tapi_Trace} {vals : List Int} (hlen : t.ops.length ≤ 1048576) (hT : ∀ x ∈ T, IsW x) (hK : ∀ x ∈ K, IsW x) (hv : ∀ x ∈ vals, IsW x) (hTl : T.length ≤ 1048576) (hKl : K.length ≤ 1048576) (h : Made t.n T K t.ops vals) : ∀ (d i k : Nat), i + d = t.ops.length → d + 70 ≤ k →
    visorlaw19_holds.l1 t vals T K k (min (cnt 1 (t.ops.take i)) T.length : Nat) (i : Int) = some (.inr ())
  | 0, i, k, hi, hk => by
    obtain ⟨k, rfl⟩ : ∃ j, k = j + 1 := ⟨k - 1, by omega⟩
    unfold visorlaw19_holds.l1
    rw [decide_eq_false (by omega), cond_false]
  | d + 1, i, k, hi, hk => by
    obtain ⟨k, rfl⟩ : ∃ j, k = j + 1 := ⟨k - 1, by omega⟩
    obtain ⟨o, ho⟩ := getElem_some (l := t.ops) (i := i) (by omega)
    obtain ⟨v, hvv⟩ := getElem_some (l := vals) (i := i) (by rw [h.len]; omega)
    obtain ⟨a1, a2, a3, a4⟩ := h.at i o v ho hvv
    have hr := Rt_regs a1 (by omega)
    have hw : IntKind.i64.wrap ((i : Int) + 1) = ((i + 1 : Nat) : Int) := by rw [wrapI (by omega) (by omega)]; omega
    have ih := holds_ops hlen hT hK hv hTl hKl h d (i + 1) k (by omega) (by omega)
    rw [cnt_take 1 ho] at ih
    have hlv := h.len
    -- the last part: registers and Eval
    have read : ∀ (r : Int) {α : Type} (f : Int → Option α), (r < 0 ∨ r < (i : Int)) → (bif (decide (r < 0)) || (decide (r ≥ ((vals.length : Nat) : Int))) then f 0 else (if 0 ≤ r then (vals[r.toNat]?).bind fun e => f e else none)) = f (atI vals r) := by
      intro r α f hrr
      by_cases h0 : r < 0
      · rw [decide_eq_true h0, Bool.true_or, cond_true, atI_neg h0]
      · have hlt : r.toNat < vals.length := by omega
        rw [decide_eq_false h0, Bool.false_or, decide_eq_false (by omega), cond_false, if_pos (by omega), List.getElem?_eq_getElem hlt, Option.bind_some]
        unfold atI
        rw [if_pos (by omega), List.getD_eq_getElem?_getD, List.getElem?_eq_getElem hlt]; rfl
    have last : ∀ (p : Int) (x : Int), IsW x → evalI o (atI vals o.a) (atI vals o.b) (atI vals o.d) x = v → visorlaw19_holds.j2 k (visorlaw19_holds.l1 t vals T K k) vals (i : Int) o p x = visorlaw19_holds.l1 t vals T K k p ((i + 1 : Nat) : Int) := by
      intro p x hx he
      unfold visorlaw19_holds.j2
      rw [if_pos (by omega), Int.toNat_natCast, hvv, Option.bind_some]
      refine (read o.a (fun a => visorlaw19_holds.j3 k (visorlaw19_holds.l1 t vals T K k) vals (i : Int) o p x v a) hr.1).trans ?_
      unfold visorlaw19_holds.j3
      refine (read o.b (fun b => visorlaw19_holds.j3_2 k (visorlaw19_holds.l1 t vals T K k) vals (i : Int) o p x v (atI vals o.a) b) hr.2.1).trans ?_
      unfold visorlaw19_holds.j3_2
      refine (read o.d (fun d => visorlaw19_holds.j3_3 k (visorlaw19_holds.l1 t vals T K k) (i : Int) o p x v (atI vals o.a) (atI vals o.b) d) hr.2.2).trans ?_
      unfold visorlaw19_holds.j3_3
      rw [ref_Eval_m k (by omega) o _ _ _ _ a3 (atI_w hv _) (atI_w hv _) (atI_w hv _) hx, Option.bind_some, he, bne_self_eq_false, cond_false, hw]
    have mid : ∀ (p : Int) (x : Int), IsW x → (o.kind ≠ 2 → evalI o (atI vals o.a) (atI vals o.b) (atI vals o.d) x = v) → (o.kind = 2 → x = 0) → visorlaw19_holds.j1 k (visorlaw19_holds.l1 t vals T K k) vals K (i : Int) o p x = visorlaw19_holds.l1 t vals T K k p ((i + 1 : Nat) : Int) := by
      intro p x hx he hx0
      unfold visorlaw19_holds.j1
      rw [wrap_u64_of (by omega) (by omega)]
      by_cases k2 : o.kind = 2
      · have k1 : o.kind ≠ 1 := by omega
        have ha4 := a4
        unfold outw at ha4
        rw [if_neg k1, if_pos k2] at ha4
        have hc0 : 0 ≤ o.c := a3.1
        by_cases hcl : o.c < ((K.length : Nat) : Int)
        · have hlt : o.c.toNat < K.length := by omega
          rw [show ((o.kind == 2) && decide (o.c < ((K.length : Nat) : Int))) = true by simp [k2, hcl], cond_true, if_pos hc0, List.getElem?_eq_getElem hlt, Option.bind_some]
          rw [List.getD_eq_getElem?_getD, List.getElem?_eq_getElem hlt] at ha4
          exact last p _ (hK _ (List.getElem_mem hlt)) ha4.symm
        · rw [show ((o.kind == 2) && decide (o.c < ((K.length : Nat) : Int))) = false by simp [k2]; omega, cond_false]
          have e : K[o.c.toNat]? = none := List.getElem?_eq_none (by omega)
          rw [List.getD_eq_getElem?_getD, e] at ha4
          exact last p x hx (by rw [ha4, hx0 k2]; rfl)
      · rw [show ((o.kind == 2) && decide (o.c < ((K.length : Nat) : Int))) = false by rw [beqF k2]; rfl, cond_false]
        exact last p x hx (he k2)
    unfold visorlaw19_holds.l1
    rw [decide_eq_true (by omega), cond_true, if_pos (by omega), Int.toNat_natCast, ho, Option.bind_some]
    by_cases k1 : o.kind = 1
    · have ha4 := a4
      unfold outw at ha4
      rw [if_pos k1] at ha4
      rw [if_pos k1] at ih
      by_cases hd : cnt 1 (t.ops.take i) < T.length
      · have hmin : min (cnt 1 (t.ops.take i)) T.length = cnt 1 (t.ops.take i) := by omega
        rw [hmin, show ((o.kind == 1) && decide (((cnt 1 (t.ops.take i) : Nat) : Int) < ((T.length : Nat) : Int))) = true by simp [k1]; omega, cond_true, if_pos (by omega), Int.toNat_natCast, List.getElem?_eq_getElem hd, Option.bind_some]
        rw [List.getD_eq_getElem?_getD, List.getElem?_eq_getElem hd] at ha4
        rw [mid _ _ (hT _ (List.getElem_mem hd)) (fun _ => ha4.symm) (fun e => by omega), wrapI (by omega) (by omega)]
        rw [show min (cnt 1 (t.ops.take i) + 1) T.length = cnt 1 (t.ops.take i) + 1 by omega] at ih
        exact ih
      · have e : T[cnt 1 (t.ops.take i)]? = none := List.getElem?_eq_none (by omega)
        rw [List.getD_eq_getElem?_getD, e] at ha4
        rw [show min (cnt 1 (t.ops.take i)) T.length = T.length by omega, show ((o.kind == 1) && decide (((T.length : Nat) : Int) < ((T.length : Nat) : Int))) = false by simp, cond_false]
        rw [mid _ _ isW_zero (fun _ => ha4.symm) (fun _ => rfl)]
        rw [show min (cnt 1 (t.ops.take i) + 1) T.length = T.length by omega] at ih
        exact ih
    · rw [if_neg k1, Nat.add_zero] at ih
      rw [show ((o.kind == 1) && decide (((min (cnt 1 (t.ops.take i)) T.length : Nat) : Int) < ((T.length : Nat) : Int))) = false by rw [beqF k1]; rfl, cond_false]
      rw [mid _ _ isW_zero (fun k2 => by rw [a4]; exact evalI_out _ _ _ _ _ _ k1 k2) (fun _ => rfl)]
      exact ih
theorem holds_m {T K : List Int} {t : Tapi_Trace} {vals : List Int} (hn : t.n = 2 ∨ t.n = 3) (hlen : t.ops.length ≤ 1048576) (hT : ∀ x ∈ T, IsW x) (hK : ∀ x ∈ K, IsW x) (hv : ∀ x ∈ vals, IsW x) (hTl : T.length ≤ 1048576) (hKl : K.length ≤ 1048576) (h : Made t.n T K t.ops vals)
    (hb : BlOk (t.ops.length : Int) 0 t.blocks) (k : Nat) (hk : t.ops.length + 70 ≤ k) : visorlaw19_holds.m k t vals T K = some true := by
  unfold visorlaw19_holds.m
  rw [ref_Trace_m hn hlen h hb k (by omega), Option.bind_some, h.len, bne_self_eq_false, Bool.not_true, Bool.or_self, cond_false]
  have e1 := holds_ops hlen hT hK hv hTl hKl h t.ops.length 0 k (by omega) (by omega)
  rw [List.take_zero, show min (cnt 1 []) T.length = 0 by simp [cnt], show ((0 : Nat) : Int) = 0 from rfl] at e1
  rw [e1, Option.bind_some]

/-! WireMakes. -/
def T60 : List Int := (visorlaw19_tapeWords.m 70 60).getD []
theorem T60_m (k : Nat) : visorlaw19_tapeWords.m (k + 70) 60 = some T60 := by kernel_rfl
theorem T60_k {k : Nat} (hk : 70 ≤ k) : visorlaw19_tapeWords.m k 60 = some T60 := by
  obtain ⟨j, rfl⟩ : ∃ j, k = j + 70 := ⟨k - 70, by omega⟩
  exact T60_m j
theorem T60_len : T60.length = 60 := by kernel_rfl
theorem all_isW : ∀ {l : List Int}, (l.all fun x => decide (0 ≤ x) && decide (x ≤ 18446744073709551615)) = true → ∀ x ∈ l, IsW x := by
  intro l h x hx
  have := List.all_eq_true.1 h x hx
  simpa [IsW] using this
theorem T60_w : ∀ x ∈ T60, IsW x := all_isW (by kernel_rfl)

structure WInv (n : Int) (keys : List Int) (m : Twire_Machine) : Prop where
  ok : MOk m
  nn : m.n = n
  most : m.most = 200
  dry : m.dry = false
  made : Made n T60 keys m.ops m.values
  kl : keys.length = cnt 2 m.ops
  kw : ∀ x ∈ keys, IsW x
  words : m.words = (cnt 2 m.ops : Int)
  used : m.tape.used.v = (cnt 1 m.ops : Int)
  tape : m.tape.words = T60
  bl : BlOk (m.ops.length : Int) 0 m.blocks
  fromF : lastTo 0 m.blocks ≤ m.fromF ∨ m.openF = 0
  openF : 0 ≤ m.openF ∧ m.openF ≤ 3
theorem WInv.base {n : Int} {keys : List Int} {m : Twire_Machine} (h : WInv n keys m) : m.base = 0 := h.ok.wet h.dry
theorem WInv.len {n : Int} {keys : List Int} {m : Twire_Machine} (h : WInv n keys m) : m.len = (m.ops.length : Int) := by
  unfold Twire_Machine.len; rw [h.base]; omega
theorem WInv.fail {n : Int} {keys : List Int} {m : Twire_Machine} (h : WInv n keys m) (e : Int) (he : 0 ≤ e ∧ e ≤ 3) : WInv n keys (failM m e).2 :=
  ⟨h.ok.fail e he, h.nn, h.most, h.dry, h.made, h.kl, h.kw, h.words, h.used, h.tape, h.bl, h.fromF, h.openF⟩
theorem WInv.begin {n : Int} {keys : List Int} {m : Twire_Machine} (h : WInv n keys m) (kd : Int) : WInv n keys (beginM m kd) := by
  have hb := h.bl.count
  unfold beginM
  repeat' split
  · exact h
  · exact h.fail 1 (by omega)
  · refine ⟨⟨h.ok.n, h.ok.most, h.ok.base, h.ok.words, h.ok.draws, h.ok.ops, h.ok.vals, h.ok.bad, h.ok.wvals, h.ok.wtape, h.ok.used, h.ok.free, h.ok.tlen, h.ok.wet, h.ok.dryV⟩, h.nn, h.most, h.dry, h.made, h.kl, h.kw, h.words, h.used, h.tape, h.bl, .inl ?_, ?_⟩
    · show lastTo 0 m.blocks ≤ m.len
      rw [h.len]; omega
    · show 0 ≤ kd ∧ kd ≤ 3
      omega
theorem WInv.fin {n : Int} {keys : List Int} {m : Twire_Machine} (h : WInv n keys m) : WInv n keys (endM m) := by
  unfold endM
  have ho := h.openF
  split
  · exact h
  · split
    · exact h.fail 1 (by omega)
    · rename_i h1 h2
      have hok : MOk ⟨m.n, m.most, m.base, m.words, m.draws, m.dry, 0, m.fromF, m.bad, m.tape, m.ops, m.values, if m.fromF < m.len ∧ m.dry = false then m.blocks ++ [⟨m.openF, m.fromF, m.len⟩] else m.blocks⟩ :=
        ⟨h.ok.n, h.ok.most, h.ok.base, h.ok.words, h.ok.draws, h.ok.ops, h.ok.vals, h.ok.bad, h.ok.wvals, h.ok.wtape, h.ok.used, h.ok.free, h.ok.tlen, h.ok.wet, h.ok.dryV⟩
      refine ⟨hok, h.nn, h.most, h.dry, h.made, h.kl, h.kw, h.words, h.used, h.tape, ?_, .inr rfl, ⟨Int.le_refl 0, by show (0 : Int) ≤ 3; omega⟩⟩
      show BlOk (m.ops.length : Int) 0 (if m.fromF < m.len ∧ m.dry = false then m.blocks ++ [⟨m.openF, m.fromF, m.len⟩] else m.blocks)
      split
      · rename_i h3
        refine h.bl.snoc (by show 1 ≤ m.openF; omega) (by show m.openF ≤ 3; omega) (by show lastTo 0 m.blocks ≤ m.fromF; rcases h.fromF with e | e <;> omega) h3.1 (by show m.len ≤ _; rw [h.len]; omega)
      · exact h.bl
theorem WInv.push {n : Int} {keys : List Int} {m : Twire_Machine} (h : WInv n keys m) (o : Tapi_Op) (x : Int) (m' : Twire_Machine) (hok : MOk m') (hc : IsW o.c) (hx : IsW x) (hr : rightM m o = true)
    (e : m' = ⟨m.n, m.most, m.base, if o.kind = 2 then m.words + 1 else m.words, m'.draws, m.dry, m.openF, m.fromF, m.bad, m'.tape, m.ops ++ [o], m.values ++ [evalI o (atI m.values o.a) (atI m.values o.b) (atI m.values o.d) x], m.blocks⟩)
    (ht : m'.tape.words = T60) (hu : m'.tape.used.v = m.tape.used.v + (if o.kind = 1 then 1 else 0)) (hx1 : o.kind = 1 → x = T60.getD (cnt 1 m.ops) 0) :
    WInv n (if o.kind = 2 then keys ++ [x] else keys) m' := by
  have hops : m'.ops = m.ops ++ [o] := by rw [e]
  have hvals : m'.values = m.values ++ [evalI o (atI m.values o.a) (atI m.values o.b) (atI m.values o.d) x] := by rw [e]
  have hbl : m'.blocks = m.blocks := by rw [e]
  have hwords : m'.words = if o.kind = 2 then m.words + 1 else m.words := by rw [e]
  unfold rightM at hr
  rw [Bool.and_eq_true, Bool.or_eq_true] at hr
  have hR := hr.1
  rw [h.len, h.nn] at hR
  have hc2 : o.kind = 2 → o.c = (cnt 2 m.ops : Int) := fun k2 => by
    rcases hr.2 with e | e
    · simp [k2] at e
    · rw [← h.words]; simpa using e
  refine ⟨hok, by rw [e]; exact h.nn, by rw [e]; exact h.most, by rw [e]; exact h.dry, ?_, ?_, ?_, ?_, ?_, ht, ?_, ?_, ?_⟩
  · rw [hops, hvals]
    by_cases k2 : o.kind = 2
    · rw [if_pos k2]
      refine .snoc (h.made.more [x] (by rw [h.kl]; omega)) hR hc2 hc ?_
      congr 1
      unfold outw
      rw [if_neg (by omega), if_pos k2, hc2 k2, Int.toNat_natCast, ← h.kl, List.getD_eq_getElem?_getD, List.getElem?_append_right (Nat.le_refl _), Nat.sub_self]; rfl
    · rw [if_neg k2]
      refine .snoc h.made hR hc2 hc ?_
      unfold outw
      by_cases k1 : o.kind = 1
      · rw [if_pos k1, hx1 k1]
      · exact evalI_out _ _ _ _ _ _ k1 k2
  · rw [hops, cnt_snoc]
    have := h.kl
    split <;> simp [*]
  · intro y hy
    split at hy
    · rcases List.mem_append.1 hy with hy | hy
      · exact h.kw y hy
      · rw [List.mem_singleton.1 hy]; exact hx
    · exact h.kw y hy
  · rw [hops, hwords, cnt_snoc, h.words]; split <;> omega
  · rw [hu, hops, cnt_snoc, h.used]; split <;> omega
  · rw [hops, hbl]; exact h.bl.mono (by rw [List.length_append]; omega)
  · rw [hbl, show m'.fromF = m.fromF by rw [e], show m'.openF = m.openF by rw [e]]; exact h.fromF
  · rw [show m'.openF = m.openF by rw [e]]; exact h.openF
theorem WInv.did {n : Int} {keys : List Int} {m : Twire_Machine} (h : WInv n keys m) (o : Tapi_Op) (x : Int) (hc : IsW o.c) (hx : IsW x) :
    ((doM m o x).2.ops = m.ops ∧ WInv n keys (doM m o x).2) ∨ ((doM m o x).2.ops = m.ops ++ [o] ∧ WInv n (if o.kind = 2 then keys ++ [x] else keys) (doM m o x).2) := by
  have hok := h.ok.did o x (by rw [h.base]; omega)
  revert hok
  unfold doM
  by_cases b0 : m.bad = 0
  · rw [if_neg (by omega)]
    cases hr : rightM m o
    · rw [if_pos rfl]; exact fun _ => .inl ⟨rfl, h.fail 1 (by omega)⟩
    · rw [if_neg (by simp)]
      by_cases hm : m.dry = false ∧ m.most ≤ (m.ops.length : Int)
      · rw [if_pos hm]; exact fun _ => .inl ⟨rfl, h.fail 3 (by omega)⟩
      · rw [if_neg hm]
        by_cases k1 : o.kind = 1 ∧ m.dry = false
        · rw [if_pos k1]
          by_cases hn : noMask m.tape
          · rw [if_pos hn]; exact fun _ => .inl ⟨rfl, h.fail 2 (by omega)⟩
          · rw [if_neg hn, pushM_wet (show (drawnM m).dry = false from h.dry)]
            intro hok
            have hu := h.ok.used
            unfold noMask at hn
            have k2 : o.kind ≠ 2 := by omega
            have hp := h.push o (atI m.tape.words m.tape.used.v) _ hok hc (atI_w h.ok.wtape _) hr rfl h.tape (by show m.tape.used.v + 1 = _; rw [if_pos k1.1]) fun _ => ?_
            · rw [show (if o.kind = 2 then keys ++ [atI m.tape.words m.tape.used.v] else keys) = keys from if_neg k2] at hp
              rw [show (if o.kind = 2 then keys ++ [x] else keys) = keys from if_neg k2]
              exact .inr ⟨rfl, hp⟩
            rw [h.tape] at hn hu ⊢
            rw [h.used] at hn hu ⊢
            unfold atI
            rw [if_pos (by omega), Int.toNat_natCast]
        · rw [if_neg k1, pushM_wet h.dry]
          have k1' : o.kind ≠ 1 := fun e => k1 ⟨e, h.dry⟩
          intro hok
          exact .inr ⟨rfl, h.push o x _ hok hc hx hr rfl h.tape (by rw [if_neg k1']; show m.tape.used.v = _; omega) fun e => absurd e k1'⟩
  · rw [if_pos b0]; exact fun _ => .inl ⟨rfl, h⟩

def actM (e : Tvisorlaw19_Act) (m : Twire_Machine) (keys : List Int) : Twire_Machine × List Int :=
  if e.kind = 2 then ((doM m ⟨2, 0, e.o.a, e.o.b, -1, m.words⟩ e.x).2, if m.len < (doM m ⟨2, 0, e.o.a, e.o.b, -1, m.words⟩ e.x).2.len then keys ++ [e.x] else keys)
  else if e.o.kind = 2 then (m, keys)
  else
    let m1 := (doM m e.o 0).2
    let m2 := if e.kind = 8 then beginM m1 (IntKind.i64.wrap (1 + IntKind.i64.wrap (Int.tmod e.x 3))) else m1
    ((if e.kind = 9 ∧ m2.bad = 0 then endM m2 else m2), keys)
theorem act_inv {n : Int} {keys : List Int} {m : Twire_Machine} (h : WInv n keys m) (e : Tvisorlaw19_Act) (hc : IsW e.o.c) (hx : IsW e.x) : WInv n (actM e m keys).2 (actM e m keys).1 := by
  unfold actM
  split
  · rcases h.did ⟨2, 0, e.o.a, e.o.b, -1, m.words⟩ e.x (words_w h.ok) hx with ⟨h1, h2⟩ | ⟨h1, h2⟩
    · rw [if_neg (by rw [h.len, h2.len, h1]; omega)]; exact h2
    · rw [if_pos (by rw [h.len, h2.len, h1, List.length_append]; simp; omega)]
      simpa using h2
  · rename_i h8
    split
    · exact h
    · rename_i hk
      have hd : WInv n keys (doM m e.o 0).2 := by
        rcases h.did e.o 0 hc isW_zero with ⟨_, h2⟩ | ⟨_, h2⟩
        · exact h2
        · rw [if_neg hk] at h2; exact h2
      dsimp only
      split
      · rw [if_neg (by omega)]
        exact hd.begin _
      · split
        · exact hd.fin
        · exact hd
theorem act_step (x1 : List Tvisorlaw19_Act) (k i : Nat) {n : Int} {keys : List Int} {m : Twire_Machine} (h : WInv n keys m) (e : Tvisorlaw19_Act) (he : x1[i]? = some e) (hi : i < 150) (hc : IsW e.o.c) (hx : IsW e.x) (hk : 4 ≤ k) :
    visorlaw19_WireMakes.l1 x1 (k + 1) m keys (i : Int) = visorlaw19_WireMakes.l1 x1 k (actM e m keys).1 (actM e m keys).2 ((i + 1 : Nat) : Int) := by
  have hw : IntKind.i64.wrap ((i : Int) + 1) = ((i + 1 : Nat) : Int) := by rw [wrapI (by omega) (by omega)]; omega
  have hlt : i < x1.length := (List.getElem?_eq_some_iff.1 he).1
  have hb0 : m.base < 4611686018427387904 := by rw [h.base]; omega
  conv => lhs; unfold visorlaw19_WireMakes.l1
  rw [show (decide ((i : Int) < ((x1.length : Nat) : Int)) && decide ((i : Int) < 150)) = true by simp; omega, cond_true, Len_m _ h.ok, Option.bind_some, if_pos (by omega), Int.toNat_natCast, he, Option.bind_some]
  have hinv := act_inv h e hc hx
  unfold actM at hinv ⊢
  by_cases k2 : e.kind = 2
  · rw [if_pos k2] at hinv ⊢
    rw [show (e.kind == 2) = true by simp [k2], cond_true]
    simp only [if_pos (show (0 : Int) ≤ (i : Int) by omega), Option.bind_some]
    rw [Key_k hk h.ok _ _ _ hx hb0, Option.bind_some]
    dsimp only at hinv ⊢
    generalize (doM m ⟨2, 0, e.o.a, e.o.b, -1, m.words⟩ e.x).2 = m1 at hinv ⊢
    unfold visorlaw19_WireMakes.j2
    rw [Int.toNat_natCast, he, Option.bind_some, if_pos (by omega), show (e.kind == 2) = true by simp [k2], cond_true, Len_m _ hinv.ok, Option.bind_some]
    have hkl : keys.length ≤ 1048576 := by rw [h.kl]; have := cnt_le 2 m.ops; have := h.ok.ops; omega
    have fin : ∀ (ks : List Int) (a : Int) (b : Bool), visorlaw19_WireMakes.j3 k (visorlaw19_WireMakes.l1 x1 k) x1 (i : Int) m.len m1 ks a b = visorlaw19_WireMakes.l1 x1 k m1 ks ((i + 1 : Nat) : Int) := by
      intro ks a b
      unfold visorlaw19_WireMakes.j3 visorlaw19_WireMakes.j4
      rw [if_pos (by omega), Int.toNat_natCast, he, Option.bind_some, k2, show ((2 : Int) == 8) = false from rfl, cond_false, if_pos (by omega), Option.bind_some, k2, show ((2 : Int) == 9) = false from rfl, cond_false, hw]
    by_cases hl : m.len < m1.len
    · rw [decide_eq_true (show m1.len > m.len from hl), cond_true, if_pos (by omega), Option.bind_some, if_pos (by simp only [List.length_cons, List.length_nil]; omega), fin, if_pos hl]
    · rw [decide_eq_false (show ¬ m1.len > m.len from hl), cond_false, fin, if_neg hl]
  · rw [if_neg k2] at hinv ⊢
    rw [beqF k2, cond_false, if_pos (by omega), Option.bind_some]
    by_cases ko : e.o.kind = 2
    · rw [if_pos ko]
      rw [show (e.o.kind == 2) = true by simp [ko], cond_true]
      unfold visorlaw19_WireMakes.j5_3
      rw [hw]
    · rw [if_neg ko] at hinv ⊢
      rw [beqF ko, cond_false, if_pos (by omega), Option.bind_some, Do_k hk h.ok _ _ hc isW_zero hb0, Option.bind_some]
      have hd : WInv n keys (doM m e.o 0).2 := by
        rcases h.did e.o 0 hc isW_zero with ⟨_, h2⟩ | ⟨_, h2⟩
        · exact h2
        · rw [if_neg ko] at h2; exact h2
      dsimp only at hinv ⊢
      generalize (doM m e.o 0).2 = m1 at hinv hd ⊢
      unfold visorlaw19_WireMakes.j2
      rw [Int.toNat_natCast, he, Option.bind_some, if_pos (by omega), beqF k2, cond_false, if_pos (by omega), Option.bind_some]
      have fin : ∀ m2 : Twire_Machine, WInv n keys m2 → visorlaw19_WireMakes.j4_2 k (visorlaw19_WireMakes.l1 x1 k) x1 keys (i : Int) m2 = visorlaw19_WireMakes.l1 x1 k (if e.kind = 9 ∧ m2.bad = 0 then endM m2 else m2) keys ((i + 1 : Nat) : Int) := by
        intro m2 h2
        have hbc := h2.bl.count
        have := h2.ok.ops
        unfold visorlaw19_WireMakes.j4_2 visorlaw19_WireMakes.j5_2 visorlaw19_WireMakes.j5_3 wire_Machine_Err.m
        rw [if_pos (by omega), Int.toNat_natCast, he, Option.bind_some, hw]
        by_cases k9 : e.kind = 9
        · rw [show (e.kind == 9) = true by simp [k9], cond_true, Option.bind_some]
          by_cases kb : m2.bad = 0
          · rw [show (m2.bad == 0) = true by simp [kb], cond_true, End_m _ h2.ok (by omega), Option.bind_some, if_pos ⟨k9, kb⟩]
          · rw [beqF kb, cond_false, if_neg (fun h => kb h.2)]
        · rw [beqF k9, cond_false, if_neg (fun h => k9 h.1)]
      by_cases k8 : e.kind = 8
      · rw [show (e.kind == 8) = true by simp [k8], cond_true, if_pos (by omega), Option.bind_some, Begin_m _ hd.ok, Option.bind_some, fin _ (hd.begin _), if_pos k8]
      · rw [beqF k8, cond_false, fin _ hd, if_neg k8]
theorem acts_all (x1 : List Tvisorlaw19_Act) (hx : ∀ e ∈ x1, IsW e.o.c ∧ IsW e.x) (n : Int) : ∀ (d k i : Nat) (keys : List Int) (m : Twire_Machine), WInv n keys m → i + d = min x1.length 150 → d + 5 ≤ k →
    ∃ keys' m', visorlaw19_WireMakes.l1 x1 k m keys (i : Int) = some (m', keys') ∧ WInv n keys' m'
  | 0, k, i, keys, m, h, hi, hk => by
    obtain ⟨k, rfl⟩ : ∃ j, k = j + 1 := ⟨k - 1, by omega⟩
    refine ⟨keys, m, ?_, h⟩
    unfold visorlaw19_WireMakes.l1
    rw [show (decide ((i : Int) < ((x1.length : Nat) : Int)) && decide ((i : Int) < 150)) = false by
      rw [Bool.and_eq_false_iff, decide_eq_false_iff_not, decide_eq_false_iff_not]; omega, cond_false]
  | d + 1, k, i, keys, m, h, hi, hk => by
    obtain ⟨k, rfl⟩ : ∃ j, k = j + 1 := ⟨k - 1, by omega⟩
    obtain ⟨e, he⟩ := getElem_some (l := x1) (i := i) (by omega)
    have hm := hx e (List.mem_of_getElem? he)
    rw [act_step x1 k i h e he (by omega) hm.1 hm.2 (by omega)]
    exact acts_all x1 hx n d k (i + 1) _ _ (act_inv h e hm.1 hm.2) (by omega) (by omega)
theorem awake19_m (k : Nat) : visorlaw19_awake.m (k + 20) = some true := by kernel_rfl
theorem awake19_k {k : Nat} (hk : 20 ≤ k) : visorlaw19_awake.m k = some true := by
  obtain ⟨j, rfl⟩ : ∃ j, k = j + 20 := ⟨k - 20, by omega⟩
  exact awake19_m j
def mach19 (n : Int) : Twire_Machine := ⟨n, 200, 0, 0, 0, false, 0, 0, 0, ⟨T60, ⟨0⟩, 60⟩, [], [], []⟩
theorem mach19_inv (n : Int) (hn : n = 2 ∨ n = 3) : WInv n [] (mach19 n) := by
  have h60 : (mach19 n).tape.words.length = 60 := T60_len
  refine ⟨⟨hn, by show (200 : Int) ≤ _; omega, ⟨Int.le_refl 0, by show (0 : Int) ≤ _; omega⟩, ⟨Int.le_refl 0, Int.le_refl 0⟩, ⟨Int.le_refl 0, Int.le_refl 0⟩, by show 0 ≤ _; omega, rfl, ⟨Int.le_refl 0, by show (0 : Int) ≤ _; omega⟩, fun _ h => (by cases h), T60_w, ⟨Int.le_refl 0, ?_⟩, ?_, ?_, fun _ => rfl, fun h => (by cases h)⟩, rfl, rfl, rfl, .nil, rfl, fun _ h => (by cases h), rfl, rfl, rfl, trivial, .inr rfl, ⟨Int.le_refl 0, by show (0 : Int) ≤ _; omega⟩⟩
  · rw [h60]; show (0 : Int) ≤ 60; omega
  · rw [h60]; show (60 : Int) ≤ 60; omega
  · rw [h60]; omega
theorem WireMakes_j (n : Int) (hn : n = 2 ∨ n = 3) (K : Nat) (hK : 1048700 ≤ K) (x1 : List Tvisorlaw19_Act) (hx : ∀ e ∈ x1, IsW e.o.c ∧ IsW e.x) : visorlaw19_WireMakes.j1 K x1 n = some true := by
  have h0 : ((n != 2) && (n != 3)) = false := by rcases hn with e | e <;> rw [e] <;> rfl
  have hnew : wire_New.m K n ⟨T60, ⟨0⟩, 60⟩ 200 = some (Sum.inr (mach19 n, 0)) := by
    unfold wire_New.m; rw [h0]; rfl
  have htape : tape_New.m K T60 = some ⟨T60, ⟨0⟩, 0⟩ := by
    unfold tape_New.m slices_Clone_uint64_uint64.m
    rw [if_pos (by rw [T60_len]; decide), Option.bind_some]; rfl
  have hres : tape_Tape_Reserve.m K ⟨T60, ⟨0⟩, 0⟩ 60 = some (0, ⟨T60, ⟨0⟩, 60⟩) := by
    unfold tape_Tape_Reserve.m tape_Tape_Left.m tape_Tape_Used.m
    rw [show decide ((60 : Int) < 0) = false from rfl, cond_false, Option.bind_some, Option.bind_some, show IntKind.i64.wrap (((T60.length : Nat) : Int) - 0) = 60 by rw [T60_len]; decide]
    rfl
  obtain ⟨keys, m, hl, h⟩ := acts_all x1 hx n (min x1.length 150) K 0 [] (mach19 n) (mach19_inv n hn) (by omega) (by omega)
  rw [show ((0 : Nat) : Int) = 0 from rfl] at hl
  have hops : m.ops.length ≤ 1048576 := h.ok.ops
  have hbc := h.bl.count
  unfold visorlaw19_WireMakes.j1
  rw [T60_k (by omega), Option.bind_some, htape, Option.bind_some, hres, Option.bind_some]
  dsimp only
  rw [hnew, Option.bind_some]
  dsimp only
  rw [show (((0 : Int) != 0) || ((0 : Int) != 0)) = false from rfl, cond_false, hl, Option.bind_some]
  dsimp only
  unfold wire_Machine_Trace.m slices_Clone_api_Op_api_Op.m slices_Clone_api_Span_api_Span.m wire_Machine_Values.m slices_Clone_uint64_uint64.m
  have hv := h.ok.vals
  rw [if_pos (by simp only [List.length_nil]; omega), Option.bind_some, if_pos (by simp only [List.length_nil]; omega), Option.bind_some, Option.bind_some, if_pos (by simp only [List.length_nil]; omega), Option.bind_some, Option.bind_some, Option.bind_some]
  simp only [List.nil_append]
  have hkl : keys.length ≤ 1048576 := by rw [h.kl]; have := cnt_le 2 m.ops; omega
  have hold := holds_m (T := T60) (K := keys) (t := ⟨m.n, m.ops, m.blocks⟩) (vals := m.values) (by show m.n = 2 ∨ m.n = 3; rw [h.nn]; exact hn) hops T60_w h.kw h.ok.wvals (by rw [T60_len]; decide) hkl (by show Made m.n T60 keys m.ops m.values; rw [h.nn]; exact h.made) h.bl K (by show m.ops.length + 70 ≤ K; omega)
  rw [hold, Option.bind_some, cond_true, awake19_k (by omega), Option.bind_some]
  rfl
theorem WireMakes_pure (x0 : Bool) (x1 : List Tvisorlaw19_Act) (b1 : ∀ x ∈ x1, x.ok) (n1 : x1.length ≤ maxLen) : ∃ k, visorlaw19_WireMakes.m k x0 x1 = some true := by
  have hx : ∀ e ∈ x1, IsW e.o.c ∧ IsW e.x := fun e he => by
    have := b1 e he
    unfold Tvisorlaw19_Act.ok at this
    obtain ⟨_, _, _, _, _, _, h7, h8, _⟩ := this
    rw [min_u64, max_u64] at h7 h8
    exact ⟨h7, h8⟩
  refine ⟨1048700, ?_⟩
  unfold visorlaw19_WireMakes.m
  cases x0
  · rw [cond_false]; exact WireMakes_j 2 (.inl rfl) 1048700 (Nat.le_refl _) x1 hx
  · rw [cond_true]; exact WireMakes_j 3 (.inr rfl) 1048700 (Nat.le_refl _) x1 hx

end Go.Proofs.Ytjjdlidjlepgeaa
