/- The plain law behind WirePlays: its model answers true for all data that fit; no condition beyond their kinds. -/
import Derived.Test.YtjjdlidjlepgeaaMWirePlays4
namespace Go.Proofs.Ytjjdlidjlepgeaa
open Go Go.Vk
set_option linter.unusedVariables false

def Tvisorlaw19_Act.ok (x : Tvisorlaw19_Act) : Prop := (IntKind.i64.min ≤ x.kind ∧ x.kind ≤ IntKind.i64.max) ∧ (IntKind.i64.min ≤ x.o.kind ∧ x.o.kind ≤ IntKind.i64.max) ∧ (IntKind.i64.min ≤ x.o.dom ∧ x.o.dom ≤ IntKind.i64.max) ∧ (IntKind.i64.min ≤ x.o.a ∧ x.o.a ≤ IntKind.i64.max) ∧ (IntKind.i64.min ≤ x.o.b ∧ x.o.b ≤ IntKind.i64.max) ∧ (IntKind.i64.min ≤ x.o.d ∧ x.o.d ≤ IntKind.i64.max) ∧ (IntKind.u64.min ≤ x.o.c ∧ x.o.c ≤ IntKind.u64.max) ∧ (IntKind.u64.min ≤ x.x ∧ x.x ≤ IntKind.u64.max) ∧ True
theorem Tvisorlaw19_Act.of {cs : Cells} (h : Fits [LK.int .i64, LK.int .i64, LK.int .i64, LK.int .i64, LK.int .i64, LK.int .i64, LK.int .u64, LK.int .u64] cs) : ∃ x : Tvisorlaw19_Act, cs = x.cells ∧ x.ok := by
  match cs, h with
  | [.int _ n0, .int _ n1, .int _ n2, .int _ n3, .int _ n4, .int _ n5, .int _ n6, .int _ n7], ⟨⟨rfl, h0⟩, ⟨rfl, h1⟩, ⟨rfl, h2⟩, ⟨rfl, h3⟩, ⟨rfl, h4⟩, ⟨rfl, h5⟩, ⟨rfl, h6⟩, ⟨rfl, h7⟩, _⟩ => exact ⟨⟨n0, ⟨n1, n2, n3, n4, n5, n6⟩, n7⟩, rfl, ⟨h0, h1, h2, h3, h4, h5, h6, h7, trivial⟩⟩
theorem Tvisorlaw19_Act.ofs : ∀ {l : List Cells}, (∀ x ∈ l, Fits [LK.int .i64, LK.int .i64, LK.int .i64, LK.int .i64, LK.int .i64, LK.int .i64, LK.int .u64, LK.int .u64] x) → ∃ l' : List Tvisorlaw19_Act, l = l'.map Tvisorlaw19_Act.cells ∧ ∀ y ∈ l', y.ok
  | [], _ => ⟨[], rfl, fun _ h => (by cases h)⟩
  | x :: l, h => by
    obtain ⟨y, rfl, hy⟩ := Tvisorlaw19_Act.of (h x (List.mem_cons_self ..)); obtain ⟨l', rfl, hl⟩ := Tvisorlaw19_Act.ofs (l := l) fun z hz => h z (List.mem_cons_of_mem _ hz)
    exact ⟨y :: l', rfl, fun z hz => (List.mem_cons.1 hz).elim (fun e => e ▸ hy) (hl z)⟩

/-! What an op makes: both programs' Eval is one function of words. -/
def evalW (kind : Int) (c a b d x : BitVec 64) : BitVec 64 :=
  if kind = 1 then x else if kind = 2 then x ^^^ a ^^^ b else if kind = 3 then c else if kind = 4 then c else if kind = 5 then a ^^^ b else if kind = 6 then ~~~a
  else if kind = 7 then a &&& b else if kind = 8 then a &&& c else if kind = 9 then a <<< (c.toNat % 64) else if kind = 10 then a >>> (c.toNat % 64)
  else if kind = 11 then a.rotateLeft (c.toNat % 64) else if kind = 12 then a ^^^ b ^^^ d else 0#64
theorem rot63 (x : BitVec 64) (n : Nat) (h : n < 64) : x <<< n ||| x >>> (64 - n) = x.rotateLeft n := by
  rw [BitVec.rotateLeft_def, Nat.mod_eq_of_lt h]

theorem octet_Rot_m (k : Nat) (x : BitVec 64) (n : Nat) (h : n < 64) : octet_Rot.m k (u x) (n : Int) = some (u (x.rotateLeft n)) := by
  have hb : band .i64 (n : Int) 63 = (n : Int) := by
    have : ∀ m : Fin 64, band .i64 ((m : Nat) : Int) 63 = ((m : Nat) : Int) := by decide
    exact this ⟨n, h⟩
  unfold octet_Rot.m
  rw [hb, if_pos (by omega), wrap_i64_of (by omega) (by omega), if_pos (by omega), shl_u _ (by omega), shr_u _ (by omega), bor_u]
  congr 2
  rw [← rot63 x n h]
  have e : ((64 : Int) - (n : Int)).toNat = 64 - n := by omega
  rw [e]; rfl

theorem rot1 (x : BitVec 64) : IntKind.u64.wrap (IntKind.u64.wrap (u x * 2) + IntKind.u64.wrap (Int.tdiv (u x) 9223372036854775808)) = u (x.rotateLeft 1) := by
  have h := x.isLt
  have hd : Int.tdiv (u x) 9223372036854775808 = ((x.toNat / 9223372036854775808 : Nat) : Int) := rfl
  rw [hd, wrap_u64, wrap_u64, wrap_u64]
  have e : (x.rotateLeft 1).toNat = (x.toNat * 2) % 18446744073709551616 + x.toNat / 9223372036854775808 := by
    rw [BitVec.rotateLeft_def]
    have h1 : (x <<< (1 % 64)) &&& (x >>> (64 - 1 % 64)) = 0#64 := by
      apply BitVec.eq_of_getLsbD_eq
      intro i hi
      simp only [BitVec.getLsbD_and, BitVec.getLsbD_shiftLeft, BitVec.getLsbD_ushiftRight, BitVec.getLsbD_zero]
      by_cases h0 : i = 0
      · subst h0; simp
      · have : x.getLsbD (64 - 1 % 64 + i) = false := BitVec.getLsbD_of_ge _ _ (by omega)
        simp [this]
    rw [← BitVec.add_eq_or_of_and_eq_zero _ _ h1, BitVec.toNat_add]
    simp only [BitVec.toNat_shiftLeft, BitVec.toNat_ushiftRight, Nat.shiftLeft_eq, Nat.shiftRight_eq_div_pow, show 1 % 64 = 1 from rfl, show 64 - 1 = 63 from rfl, show 2 ^ 63 = 9223372036854775808 from rfl, show 2 ^ 1 = 2 from rfl]
    omega
  simp only [u, e]
  omega

theorem rotateLeft_zero' (x : BitVec 64) : x.rotateLeft 0 = x := by
  apply BitVec.eq_of_getLsbD_eq
  intro i hi
  rw [BitVec.getLsbD_rotateLeft]; simp [hi]

theorem rotateLeft_add (x : BitVec 64) (a b : Nat) : (x.rotateLeft a).rotateLeft b = x.rotateLeft (a + b) := by
  apply BitVec.eq_of_getLsbD_eq
  intro i hi
  simp only [BitVec.getLsbD_rotateLeft]
  have ha := Nat.mod_lt a (show 0 < 64 by omega)
  have hb := Nat.mod_lt b (show 0 < 64 by omega)
  by_cases h1 : i < b % 64
  · by_cases h2 : i < (a + b) % 64
    · simp only [h1, h2, cond_true, decide_true]
      by_cases h3 : 64 - b % 64 + i < a % 64
      · simp only [h3, decide_true, cond_true]; congr 1; omega
      · simp only [h3, decide_false, cond_false]; rw [decide_eq_true (by omega), Bool.true_and]; congr 1; omega
    · simp only [h1, h2, decide_true, decide_false, cond_true, cond_false, hi, Bool.true_and]
      by_cases h3 : 64 - b % 64 + i < a % 64
      · omega
      · simp only [h3, decide_false, cond_false]; rw [decide_eq_true (by omega), Bool.true_and]; congr 1; omega
  · by_cases h2 : i < (a + b) % 64
    · simp only [h1, h2, decide_true, decide_false, cond_true, cond_false, hi, Bool.true_and]
      by_cases h3 : i - b % 64 < a % 64
      · simp only [h3, decide_true, cond_true]; congr 1; omega
      · omega
    · simp only [h1, h2, decide_false, cond_false, hi, decide_true, Bool.true_and]
      by_cases h3 : i - b % 64 < a % 64
      · simp only [h3, decide_true, cond_true]; congr 1; omega
      · simp only [h3, decide_false, cond_false]; rw [decide_eq_true (by omega), Bool.true_and]; congr 1; omega

theorem mod64 (k : Nat) (n : Nat) : visorref01_Mod.m k (n : Int) 64 = some ((n % 64 : Nat) : Int) := by
  unfold visorref01_Mod.m
  rw [if_pos (by omega)]
  have e : Int.tmod (n : Int) 64 = ((n % 64 : Nat) : Int) := rfl
  rw [e]
  have : decide (((n % 64 : Nat) : Int) < 0) = false := decide_eq_false (by omega)
  rw [this]; simp

theorem ref_Rot_l (n : Nat) : ∀ (d k i : Nat) (x : BitVec 64), n % 64 = i + d → d < k → visorref01_Rot.l1 (n : Int) k (u x) (i : Int) = some (u (x.rotateLeft d)) := by
  intro d
  induction d with
  | zero =>
    intro k i x hi hk
    obtain ⟨k, rfl⟩ : ∃ m, k = m + 1 := ⟨k - 1, by omega⟩
    rw [visorref01_Rot.l1, mod64]
    simp only [Option.bind_some]
    rw [decide_eq_false (by omega)]
    simp [rotateLeft_zero']
  | succ d ih =>
    intro k i x hi hk
    obtain ⟨k, rfl⟩ : ∃ m, k = m + 1 := ⟨k - 1, by omega⟩
    rw [visorref01_Rot.l1, mod64]
    simp only [Option.bind_some]
    rw [decide_eq_true (by omega), rot1, wrap_i64_of (by omega) (by omega)]
    simp only [cond_true]
    have := ih k (i + 1) (x.rotateLeft 1) (by omega) (by omega)
    rw [show ((i : Int) + 1) = ((i + 1 : Nat) : Int) by omega, this, rotateLeft_add, Nat.add_comm 1 d]

theorem ref_Rot_m (k : Nat) (hk : 65 ≤ k) (x : BitVec 64) (n : Nat) : visorref01_Rot.m k (u x) (n : Int) = some (u (x.rotateLeft (n % 64))) := by
  unfold visorref01_Rot.m
  have h := ref_Rot_l n (n % 64) k 0 x (by omega) (by omega)
  rw [show ((0 : Nat) : Int) = 0 from rfl] at h
  rw [h]; rfl

def lowW (n : Nat) : BitVec 64 := BitVec.ofNat 64 (2 ^ n - 1)
theorem ref_Low_l (n : Nat) : ∀ (d k i : Nat), min n 64 = i + d → d < k → visorref01_Low.l1 (n : Int) k (u (lowW i)) (i : Int) = some (u (lowW (min n 64))) := by
  intro d
  induction d with
  | zero =>
    intro k i hi hk
    obtain ⟨k, rfl⟩ : ∃ m, k = m + 1 := ⟨k - 1, by omega⟩
    rw [visorref01_Low.l1]
    have : (decide ((i : Int) < (n : Int)) && decide ((i : Int) < 64)) = false := by
      rw [Bool.and_eq_false_iff]; simp only [decide_eq_false_iff_not]; omega
    rw [this]; simp only [cond_false]
    rw [show min n 64 = i by omega]
  | succ d ih =>
    intro k i hi hk
    obtain ⟨k, rfl⟩ : ∃ m, k = m + 1 := ⟨k - 1, by omega⟩
    rw [visorref01_Low.l1]
    have : (decide ((i : Int) < (n : Int)) && decide ((i : Int) < 64)) = true := by
      rw [Bool.and_eq_true]; simp only [decide_eq_true_eq]; omega
    rw [this, wrap_i64_of (by omega) (by omega)]
    simp only [cond_true]
    have e : IntKind.u64.wrap (IntKind.u64.wrap (u (lowW i) * 2) + 1) = u (lowW (i + 1)) := by
      rw [wrap_u64, wrap_u64]
      simp only [u, lowW, BitVec.toNat_ofNat, Nat.pow_succ]
      have hp : 0 < 2 ^ i := Nat.two_pow_pos i
      omega
    rw [e]
    have := ih k (i + 1) (by omega) (by omega)
    rw [show ((i : Int) + 1) = ((i + 1 : Nat) : Int) by omega, this]
theorem ref_Low_m (k : Nat) (hk : 65 ≤ k) (n : Nat) : visorref01_Low.m k (n : Int) = some (u (lowW (min n 64))) := by
  unfold visorref01_Low.m
  have h := ref_Low_l n (min n 64) k 0 (by omega) (by omega)
  rw [show u (lowW 0) = 0 by decide, show ((0 : Nat) : Int) = 0 from rfl] at h
  rw [h]; rfl

theorem lowW_get (n i : Nat) (h : n ≤ 64) (hi : i < 64) : (lowW n).getLsbD i = decide (i < n) := by
  unfold lowW
  rw [BitVec.getLsbD_ofNat]
  simp [hi, Nat.testBit_two_pow_sub_one]

theorem shl_as (a : BitVec 64) (n : Nat) (h : n < 64) : (a &&& lowW (min (64 - n) 64)).rotateLeft (n % 64) = a <<< n := by
  apply BitVec.eq_of_getLsbD_eq
  intro i hi
  rw [BitVec.getLsbD_rotateLeft, Nat.mod_mod, Nat.mod_eq_of_lt h, BitVec.getLsbD_shiftLeft]
  by_cases h1 : i < n
  · simp only [h1, decide_true, cond_true, Bool.not_true, Bool.and_false, Bool.false_and, BitVec.getLsbD_and]
    rw [lowW_get _ _ (by omega) (by omega), decide_eq_false (by omega)]; simp
  · simp only [h1, decide_false, cond_false, hi, decide_true, Bool.not_false, Bool.true_and, BitVec.getLsbD_and]
    rw [lowW_get _ _ (by omega) (by omega), decide_eq_true (by omega)]; simp

theorem shr_as (a : BitVec 64) (n : Nat) (h : n < 64) : a.rotateLeft ((64 - n) % 64) &&& lowW (min (64 - n) 64) = a >>> n := by
  apply BitVec.eq_of_getLsbD_eq
  intro i hi
  rw [BitVec.getLsbD_and, BitVec.getLsbD_rotateLeft, Nat.mod_mod, BitVec.getLsbD_ushiftRight, lowW_get _ _ (by omega) hi]
  by_cases h1 : i < 64 - n
  · rw [decide_eq_true (show i < min (64 - n) 64 by omega), Bool.and_true]
    by_cases h0 : n = 0
    · subst h0; simp [hi]
    · have e : (64 - n) % 64 = 64 - n := by omega
      rw [e]
      simp only [h1, decide_true, cond_true]
      congr 1; omega
  · rw [decide_eq_false (show ¬ i < min (64 - n) 64 by omega), Bool.and_false]
    rw [BitVec.getLsbD_of_ge _ _ (by omega)]


/-- a word, as a number -/
def IsW (x : Int) : Prop := 0 ≤ x ∧ x ≤ 18446744073709551615
theorem IsW.u {x : Int} (h : IsW x) : ∃ b, x = Go.Vk.u b := exists_u h.1 h.2
theorem isW_u (b : BitVec 64) : IsW (Go.Vk.u b) := u_le b
theorem isW_zero : IsW 0 := ⟨by omega, by omega⟩
/-- what an op makes of numbers -/
def evalI (o : Tapi_Op) (a b d x : Int) : Int := u (evalW o.kind (BitVec.ofInt 64 o.c) (BitVec.ofInt 64 a) (BitVec.ofInt 64 b) (BitVec.ofInt 64 d) (BitVec.ofInt 64 x))
theorem evalI_w (o : Tapi_Op) (a b d x : Int) : IsW (evalI o a b d x) := isW_u _
theorem evalI_u (kind dom r s t : Int) (c a b d x : BitVec 64) : evalI ⟨kind, dom, r, s, t, u c⟩ (u a) (u b) (u d) (u x) = u (evalW kind c a b d x) := by
  unfold evalI; simp only [ofInt_u]
/-- but for masks and words of keys, the outside word does not matter -/
theorem evalI_out (o : Tapi_Op) (a b d x y : Int) (h1 : o.kind ≠ 1) (h2 : o.kind ≠ 2) : evalI o a b d x = evalI o a b d y := by
  unfold evalI evalW; simp only [if_neg h1, if_neg h2]

theorem op_Eval_w (k : Nat) (kind dom r s t : Int) (c a b d x : BitVec 64) : op_Eval.m k ⟨kind, dom, r, s, t, u c⟩ (u a) (u b) (u d) (u x) = some (u (evalW kind c a b d x)) := by
  have hm : Int.tmod (u c) 64 = ((c.toNat % 64 : Nat) : Int) := rfl
  have hlt : c.toNat % 64 < 64 := Nat.mod_lt _ (by omega)
  unfold op_Eval.m op_Eval.j1 evalW
  simp only [hm, bxor_u, bnot_u, band_u]
  rw [if_pos (show (0 : Int) ≤ ((c.toNat % 64 : Nat) : Int) by omega), wrap_i64_of (by omega) (by omega), octet_Rot_m k a _ hlt, shl_u _ (by omega), shr_u _ (by omega)]
  simp only [Option.bind_some, Int.toNat_natCast, if_pos (show (0 : Int) ≤ ((c.toNat % 64 : Nat) : Int) by omega)]
  by_cases h1 : kind = 1
  · subst h1; rfl
  by_cases h2 : kind = 2
  · subst h2; rfl
  by_cases h3 : kind = 3
  · subst h3; rfl
  by_cases h4 : kind = 4
  · subst h4; rfl
  by_cases h5 : kind = 5
  · subst h5; rfl
  by_cases h6 : kind = 6
  · subst h6; rfl
  by_cases h7 : kind = 7
  · subst h7; rfl
  by_cases h8 : kind = 8
  · subst h8; rfl
  by_cases h9 : kind = 9
  · subst h9; rfl
  by_cases h10 : kind = 10
  · subst h10; rfl
  by_cases h11 : kind = 11
  · subst h11; rfl
  by_cases h12 : kind = 12
  · subst h12; rfl
  simp only [if_neg h1, if_neg h2, if_neg h3, if_neg h4, if_neg h5, if_neg h6, if_neg h7, if_neg h8, if_neg h9, if_neg h10, if_neg h11, if_neg h12, beq_eq_false_iff_ne.2 h1, beq_eq_false_iff_ne.2 h2, beq_eq_false_iff_ne.2 h3, beq_eq_false_iff_ne.2 h4, beq_eq_false_iff_ne.2 h5, beq_eq_false_iff_ne.2 h6, beq_eq_false_iff_ne.2 h7, beq_eq_false_iff_ne.2 h8, beq_eq_false_iff_ne.2 h9, beq_eq_false_iff_ne.2 h10, beq_eq_false_iff_ne.2 h11, beq_eq_false_iff_ne.2 h12, cond_false]
  rfl

theorem ref_Eval_w (k : Nat) (hk : 65 ≤ k) (kind dom r s t : Int) (c a b d x : BitVec 64) : visorref17_Eval.m k ⟨kind, dom, r, s, t, u c⟩ (u a) (u b) (u d) (u x) = some (u (evalW kind c a b d x)) := by
  have hm : Int.tmod (u c) 64 = ((c.toNat % 64 : Nat) : Int) := rfl
  have hlt : c.toNat % 64 < 64 := Nat.mod_lt _ (by omega)
  have e1 : IntKind.i64.wrap ((c.toNat % 64 : Nat) : Int) = ((c.toNat % 64 : Nat) : Int) := wrap_i64_of (by omega) (by omega)
  have e2 : IntKind.i64.wrap (64 - ((c.toNat % 64 : Nat) : Int)) = ((64 - c.toNat % 64 : Nat) : Int) := by rw [wrap_i64_of (by omega) (by omega)]; omega
  unfold visorref17_Eval.m visorref17_Eval.j1 evalW
  simp only [Option.bind_some, hm, bxor_u, sub_u, band_u, e1, e2, ref_Low_m k hk, ref_Rot_m k hk]
  rw [shl_as a _ hlt, shr_as a _ hlt, Nat.mod_mod]
  by_cases h1 : kind = 1
  · subst h1; rfl
  by_cases h2 : kind = 2
  · subst h2; rfl
  by_cases h3 : kind = 3
  · subst h3; rfl
  by_cases h4 : kind = 4
  · subst h4; rfl
  by_cases h5 : kind = 5
  · subst h5; rfl
  by_cases h6 : kind = 6
  · subst h6; rfl
  by_cases h7 : kind = 7
  · subst h7; rfl
  by_cases h8 : kind = 8
  · subst h8; rfl
  by_cases h9 : kind = 9
  · subst h9; rfl
  by_cases h10 : kind = 10
  · subst h10; rfl
  by_cases h11 : kind = 11
  · subst h11; rfl
  by_cases h12 : kind = 12
  · subst h12; rfl
  simp only [if_neg h1, if_neg h2, if_neg h3, if_neg h4, if_neg h5, if_neg h6, if_neg h7, if_neg h8, if_neg h9, if_neg h10, if_neg h11, if_neg h12, beq_eq_false_iff_ne.2 h1, beq_eq_false_iff_ne.2 h2, beq_eq_false_iff_ne.2 h3, beq_eq_false_iff_ne.2 h4, beq_eq_false_iff_ne.2 h5, beq_eq_false_iff_ne.2 h6, beq_eq_false_iff_ne.2 h7, beq_eq_false_iff_ne.2 h8, beq_eq_false_iff_ne.2 h9, beq_eq_false_iff_ne.2 h10, beq_eq_false_iff_ne.2 h11, beq_eq_false_iff_ne.2 h12, cond_false]
  rfl

theorem op_Eval_m (k : Nat) (o : Tapi_Op) (a b d x : Int) (hc : IsW o.c) (ha : IsW a) (hb : IsW b) (hd : IsW d) (hx : IsW x) : op_Eval.m k o a b d x = some (evalI o a b d x) := by
  obtain ⟨kind, dom, r, s, t, c⟩ := o
  obtain ⟨c, rfl⟩ := hc.u; obtain ⟨a, rfl⟩ := ha.u; obtain ⟨b, rfl⟩ := hb.u; obtain ⟨d, rfl⟩ := hd.u; obtain ⟨x, rfl⟩ := hx.u
  rw [op_Eval_w, evalI_u]
theorem ref_Eval_m (k : Nat) (hk : 65 ≤ k) (o : Tapi_Op) (a b d x : Int) (hc : IsW o.c) (ha : IsW a) (hb : IsW b) (hd : IsW d) (hx : IsW x) : visorref17_Eval.m k o a b d x = some (evalI o a b d x) := by
  obtain ⟨kind, dom, r, s, t, c⟩ := o
  obtain ⟨c, rfl⟩ := hc.u; obtain ⟨a, rfl⟩ := ha.u; obtain ⟨b, rfl⟩ := hb.u; obtain ⟨d, rfl⟩ := hd.u; obtain ⟨x, rfl⟩ := hx.u
  rw [ref_Eval_w k hk, evalI_u]

/-! Which ops may be: both programs' Right is one question. -/
def opRegs (kind n : Int) : Int := if kind = 2 then n - 1 else if kind = 5 ∨ kind = 7 then 2 else if kind = 6 ∨ kind = 8 ∨ kind = 9 ∨ kind = 10 ∨ kind = 11 then 1 else if kind = 12 then n else 0
def okReg (r at' j regs : Int) : Prop := (j < regs → 0 ≤ r ∧ r < at') ∧ (regs ≤ j → r = -1)
instance (r at' j regs : Int) : Decidable (okReg r at' j regs) := by unfold okReg; infer_instance
def okConst (o : Tapi_Op) : Bool := if o.kind = 9 ∨ o.kind = 10 ∨ o.kind = 11 then decide (o.c < 64) else if o.kind = 2 then decide (o.c < 1048576) else if o.kind = 3 ∨ o.kind = 4 ∨ o.kind = 8 then true else o.c == 0
def okHead (o : Tapi_Op) (n : Int) : Prop := 1 ≤ o.kind ∧ o.kind ≤ 12 ∧ -1 ≤ o.dom ∧ o.dom < n ∧ (o.kind = 12 → o.dom = -1)
instance (o : Tapi_Op) (n : Int) : Decidable (okHead o n) := by unfold okHead; infer_instance
def okRegs (o : Tapi_Op) (at' n : Int) : Prop := okReg o.a at' 0 (opRegs o.kind n) ∧ okReg o.b at' 1 (opRegs o.kind n) ∧ okReg o.d at' 2 (opRegs o.kind n)
instance (o : Tapi_Op) (at' n : Int) : Decidable (okRegs o at' n) := by unfold okRegs; infer_instance
/-- may an op be, at a place, of so many shares? -/
def Rt (o : Tapi_Op) (at' n : Int) : Bool := decide (okHead o n) && (decide (okRegs o at' n) && okConst o)
theorem beqF {a b : Int} (h : ¬ a = b) : (a == b) = false := beq_eq_false_iff_ne.2 h
theorem op_Regs_m (k : Nat) (kind n : Int) (hn : n = 2 ∨ n = 3) : op_Regs.m k kind n = some (opRegs kind n) := by
  have hw : IntKind.i64.wrap (n - 1) = n - 1 := wrap_i64_of (by omega) (by omega)
  have h0 : ((n != 2) && (n != 3)) = false := by rcases hn with rfl | rfl <;> rfl
  unfold op_Regs.m op_Regs.j1 op_Regs.j2 opRegs
  rw [h0, cond_false, hw]
  by_cases h2 : kind = 2
  · subst h2; rfl
  by_cases h5 : kind = 5
  · subst h5; rfl
  by_cases h7 : kind = 7
  · subst h7; rfl
  by_cases h6 : kind = 6
  · subst h6; rfl
  by_cases h8 : kind = 8
  · subst h8; rfl
  by_cases h9 : kind = 9
  · subst h9; rfl
  by_cases h10 : kind = 10
  · subst h10; rfl
  by_cases h11 : kind = 11
  · subst h11; rfl
  by_cases h12 : kind = 12
  · subst h12; rfl
  simp only [h2, h5, h6, h7, h8, h9, h10, h11, h12, beqF h2, beqF h5, beqF h6, beqF h7, beqF h8, beqF h9, beqF h10, beqF h11, beqF h12, cond_false, or_self, if_false]
theorem ref_Regs_m (k : Nat) (kind n : Int) (hn : n = 2 ∨ n = 3) : visorref17_Regs.m k kind n = some (opRegs kind n) := op_Regs_m k kind n hn
theorem op_constant_m (k : Nat) (o : Tapi_Op) : op_constant.m k o = some (okConst o) := by
  unfold op_constant.m op_constant.j1 op_constant.j2 okConst
  by_cases h9 : o.kind = 9
  · rw [h9]; rfl
  by_cases h10 : o.kind = 10
  · rw [h10]; rfl
  by_cases h11 : o.kind = 11
  · rw [h11]; rfl
  by_cases h2 : o.kind = 2
  · rw [h2]; rfl
  by_cases h3 : o.kind = 3
  · rw [h3]; rfl
  by_cases h4 : o.kind = 4
  · rw [h4]; rfl
  by_cases h8 : o.kind = 8
  · rw [h8]; rfl
  simp only [h2, h3, h4, h8, h9, h10, h11, beqF h2, beqF h3, beqF h4, beqF h8, beqF h9, beqF h10, beqF h11, cond_false, or_self, if_false]
theorem op_Right_step (o : Tapi_Op) (at' v : Int) (k j : Nat) (r : Int) (hj : j < 3) (hr : getI .i64 [C.int .i64 o.a, C.int .i64 o.b, C.int .i64 o.d] j = some r) :
    op_Right.l1 o at' v (k + 1) (j : Int) = if okReg r at' j v then op_Right.l1 o at' v k ((j + 1 : Nat) : Int) else some (.inl false) := by
  have hw : IntKind.i64.wrap ((j : Int) + 1) = ((j + 1 : Nat) : Int) := by rw [wrap_i64_of (by omega) (by omega)]; omega
  conv => lhs; unfold op_Right.l1
  rw [decide_eq_true (show (j : Int) < 3 by omega), cond_true, if_pos (by omega), Int.toNat_natCast, hr, Option.bind_some, hw]
  by_cases h1 : (j : Int) < v
  · rw [decide_eq_true h1, cond_true, decide_eq_false (show ¬ (j : Int) ≥ v by omega), cond_false]
    by_cases h2 : r < 0
    · rw [decide_eq_true h2, cond_true, if_neg (by unfold okReg; omega)]
    · rw [decide_eq_false h2, cond_false]
      by_cases h3 : r ≥ at'
      · rw [decide_eq_true h3, cond_true, if_neg (by unfold okReg; omega)]
      · rw [decide_eq_false h3, cond_false, if_pos (by unfold okReg; omega)]
  · rw [decide_eq_false h1, cond_false, decide_eq_true (show (j : Int) ≥ v by omega), cond_true]
    by_cases h2 : r = -1
    · rw [show (r != -1) = false by simp [h2], cond_false, if_pos (by unfold okReg; omega)]
    · rw [show (r != -1) = true by simp [h2], cond_true, if_neg (by unfold okReg; omega)]
theorem op_Right_end (o : Tapi_Op) (at' v : Int) (k : Nat) : op_Right.l1 o at' v (k + 1) ((3 : Nat) : Int) = some (.inr ()) := by unfold op_Right.l1; rfl
theorem ref_Right_step (o : Tapi_Op) (at' n : Int) (hn : n = 2 ∨ n = 3) (k j : Nat) (r : Int) (hj : j < 3) (hr : getI .i64 [C.int .i64 o.a, C.int .i64 o.b, C.int .i64 o.d] j = some r) :
    visorref17_Right.l1 o at' n (k + 1) (j : Int) = if okReg r at' j (opRegs o.kind n) then visorref17_Right.l1 o at' n k ((j + 1 : Nat) : Int) else some (.inl false) := by
  have hw : IntKind.i64.wrap ((j : Int) + 1) = ((j + 1 : Nat) : Int) := by rw [wrap_i64_of (by omega) (by omega)]; omega
  have hj0 : 0 + ((j : Nat) : Int).toNat * 1 = j := by simp
  conv => lhs; unfold visorref17_Right.l1
  rw [decide_eq_true (show (j : Int) < 3 by omega), cond_true, ref_Regs_m _ _ _ hn, Option.bind_some, if_pos (by omega), hj0, hr, Option.bind_some, hw]
  simp only [Option.bind_some]
  generalize opRegs o.kind n = v
  by_cases h1 : (j : Int) < v
  · rw [decide_eq_true h1, cond_true]
    by_cases h2 : r < 0
    · rw [decide_eq_true h2, cond_true, if_neg (by unfold okReg; omega)]
    · rw [decide_eq_false h2, cond_false, if_pos (by omega)]
      by_cases h3 : r ≥ at'
      · rw [decide_eq_true h3, cond_true, if_neg (by unfold okReg; omega)]
      · rw [decide_eq_false h3, cond_false, decide_eq_false (show ¬ (j : Int) ≥ v by omega), cond_false, if_pos (by unfold okReg; omega)]
  · rw [decide_eq_false h1, cond_false, decide_eq_true (show (j : Int) ≥ v by omega), cond_true, if_pos (by omega)]
    by_cases h2 : r = -1
    · rw [show (r != -1) = false by simp [h2], cond_false, if_pos (by unfold okReg; omega)]
    · rw [show (r != -1) = true by simp [h2], cond_true, if_neg (by unfold okReg; omega)]
theorem ref_Right_end (o : Tapi_Op) (at' n : Int) (k : Nat) : visorref17_Right.l1 o at' n (k + 1) ((3 : Nat) : Int) = some (.inr ()) := by unfold visorref17_Right.l1; rfl
theorem op_Right_loop (o : Tapi_Op) (at' n : Int) (k : Nat) : op_Right.l1 o at' (opRegs o.kind n) (k + 4) 0 = some (if okRegs o at' n then .inr () else .inl false) := by
  have h := op_Right_step o at' (opRegs o.kind n) (k + 3) 0 o.a (by omega) rfl
  have h0 : ((0 : Nat) : Int) = 0 := rfl
  rw [h0] at h
  rw [h, op_Right_step o at' _ (k + 2) 1 o.b (by omega) rfl, op_Right_step o at' _ (k + 1) 2 o.d (by omega) rfl, op_Right_end]
  unfold okRegs
  by_cases h1 : okReg o.a at' 0 (opRegs o.kind n)
  · by_cases h2 : okReg o.b at' 1 (opRegs o.kind n)
    · by_cases h3 : okReg o.d at' 2 (opRegs o.kind n)
      · simp [h1, h2, h3]
      · simp [h1, h2, h3]
    · simp [h1, h2]
  · simp [h1]
theorem ref_Right_loop (o : Tapi_Op) (at' n : Int) (hn : n = 2 ∨ n = 3) (k : Nat) : visorref17_Right.l1 o at' n (k + 4) 0 = some (if okRegs o at' n then .inr () else .inl false) := by
  have h := ref_Right_step o at' n hn (k + 3) 0 o.a (by omega) rfl
  have h0 : ((0 : Nat) : Int) = 0 := rfl
  rw [h0] at h
  rw [h, ref_Right_step o at' n hn (k + 2) 1 o.b (by omega) rfl, ref_Right_step o at' n hn (k + 1) 2 o.d (by omega) rfl, ref_Right_end]
  unfold okRegs
  by_cases h1 : okReg o.a at' 0 (opRegs o.kind n)
  · by_cases h2 : okReg o.b at' 1 (opRegs o.kind n)
    · by_cases h3 : okReg o.d at' 2 (opRegs o.kind n)
      · simp [h1, h2, h3]
      · simp [h1, h2, h3]
    · simp [h1, h2]
  · simp [h1]
theorem op_Right_j (k : Nat) (o : Tapi_Op) (at' n : Int) (hn : n = 2 ∨ n = 3) (b : Bool) : op_Right.j1 (k + 4) o at' n b = some (!b && (decide (okRegs o at' n) && okConst o)) := by
  unfold op_Right.j1
  cases b
  · rw [cond_false, op_Regs_m _ _ _ hn, Option.bind_some, op_Right_loop, Option.bind_some, op_constant_m]
    by_cases h : okRegs o at' n
    · rw [if_pos h]; simp [h]
    · rw [if_neg h]; simp [h]
  · rfl
theorem ref_Right_j (k : Nat) (o : Tapi_Op) (at' n : Int) (hn : n = 2 ∨ n = 3) (b : Bool) : visorref17_Right.j1 (k + 4) o at' n b = some (!b && (decide (okRegs o at' n) && okConst o)) := by
  have hc : ∀ k, (bif o.kind == 9 then visorref17_Right.j2 k o (o.kind == 9) else (bif o.kind == 10 then visorref17_Right.j2 k o (o.kind == 10) else visorref17_Right.j2 k o (o.kind == 11))) = some (okConst o) := fun k => op_constant_m k o
  unfold visorref17_Right.j1
  cases b
  · rw [cond_false, ref_Right_loop o at' n hn, Option.bind_some]
    by_cases h : okRegs o at' n
    · rw [if_pos h]; simp only [hc]; simp [h]
    · rw [if_neg h]; simp [h]
  · rfl
theorem op_Right_m (k : Nat) (o : Tapi_Op) (at' n : Int) (hn : n = 2 ∨ n = 3) : op_Right.m (k + 4) o at' n = some (Rt o at' n) := by
  have h0 : ((n != 2) && (n != 3)) = false := by rcases hn with rfl | rfl <;> rfl
  unfold op_Right.m op_is.m
  rw [h0, cond_false, Option.bind_some]
  simp only [op_Right_j _ _ _ _ hn]
  unfold Rt okHead
  by_cases h1 : 1 ≤ o.kind
  · by_cases h2 : o.kind ≤ 12
    · by_cases h3 : -1 ≤ o.dom
      · by_cases h4 : o.dom < n
        · have e : ((!(decide (o.kind ≥ 1) && decide (o.kind ≤ 12)) || decide (o.dom < -1)) || decide (o.dom ≥ n)) = false := by
            simp only [Bool.or_eq_false_iff, decide_eq_false_iff_not, Bool.not_eq_false', Bool.and_eq_true, decide_eq_true_eq]; omega
          rw [e, cond_false]
          by_cases h5 : o.kind = 12
          · by_cases h6 : o.dom = -1
            · simp [h5, h6]; omega
            · have : o.dom ≥ 0 := by omega
              simp [h5, h6, this]
          · simp [h1, h2, h3, h4, h5, beqF h5]
        · have e : ((!(decide (o.kind ≥ 1) && decide (o.kind ≤ 12)) || decide (o.dom < -1)) || decide (o.dom ≥ n)) = true := by simp; omega
          rw [e, cond_true]; simp [h4]
      · have e : ((!(decide (o.kind ≥ 1) && decide (o.kind ≤ 12)) || decide (o.dom < -1)) || decide (o.dom ≥ n)) = true := by simp; omega
        rw [e, cond_true]; simp [h3]
    · have e : ((!(decide (o.kind ≥ 1) && decide (o.kind ≤ 12)) || decide (o.dom < -1)) || decide (o.dom ≥ n)) = true := by simp; omega
      rw [e, cond_true]; simp [h2]
  · have e : ((!(decide (o.kind ≥ 1) && decide (o.kind ≤ 12)) || decide (o.dom < -1)) || decide (o.dom ≥ n)) = true := by simp; omega
    rw [e, cond_true]; simp [h1]
theorem ref_Right_m (k : Nat) (o : Tapi_Op) (at' n : Int) (hn : n = 2 ∨ n = 3) : visorref17_Right.m (k + 4) o at' n = some (Rt o at' n) := by
  have h0 : ((n != 2) && (n != 3)) = false := by rcases hn with rfl | rfl <;> rfl
  unfold visorref17_Right.m
  simp only [ref_Right_j _ _ _ _ hn, h0]
  unfold Rt okHead
  by_cases h1 : 1 ≤ o.kind
  · by_cases h2 : o.kind ≤ 12
    · by_cases h3 : -1 ≤ o.dom
      · by_cases h4 : o.dom < n
        · have e : ((((false || decide (o.kind < 1)) || decide (o.kind > 12)) || decide (o.dom < -1)) || decide (o.dom ≥ n)) = false := by
            simp only [Bool.or_eq_false_iff, decide_eq_false_iff_not, true_and]; omega
          rw [e, cond_false]
          by_cases h5 : o.kind = 12
          · by_cases h6 : o.dom = -1
            · simp [h5, h6]; omega
            · simp [h5, h6]
          · simp [h1, h2, h3, h4, h5, beqF h5]
        · have e : ((((false || decide (o.kind < 1)) || decide (o.kind > 12)) || decide (o.dom < -1)) || decide (o.dom ≥ n)) = true := by simp; omega
          rw [e, cond_true]; simp [h4]
      · have e : ((((false || decide (o.kind < 1)) || decide (o.kind > 12)) || decide (o.dom < -1)) || decide (o.dom ≥ n)) = true := by simp; omega
        rw [e, cond_true]; simp [h3]
    · have e : ((((false || decide (o.kind < 1)) || decide (o.kind > 12)) || decide (o.dom < -1)) || decide (o.dom ≥ n)) = true := by simp; omega
      rw [e, cond_true]; simp [h2]
  · have e : ((((false || decide (o.kind < 1)) || decide (o.kind > 12)) || decide (o.dom < -1)) || decide (o.dom ≥ n)) = true := by simp; omega
    rw [e, cond_true]; simp [h1]

/-! A machine's Do, as one total function. -/
def atI (v : List Int) (r : Int) : Int := if 0 ≤ r ∧ r < (v.length : Int) then v.getD r.toNat 0 else 0
theorem atI_w {v : List Int} (hv : ∀ x ∈ v, IsW x) (r : Int) : IsW (atI v r) := by
  unfold atI
  split
  · rename_i h
    have hlt : r.toNat < v.length := by omega
    rw [List.getD_eq_getElem?_getD, List.getElem?_eq_getElem hlt]; exact hv _ (List.getElem_mem hlt)
  · exact isW_zero
theorem atI_neg {v : List Int} {r : Int} (h : r < 0) : atI v r = 0 := by unfold atI; rw [if_neg (by omega)]
theorem atI_append {v : List Int} {r : Int} (h : r < (v.length : Int)) (l : List Int) : atI (v ++ l) r = atI v r := by
  unfold atI
  by_cases h0 : 0 ≤ r
  · have hlt : r.toNat < v.length := by omega
    rw [if_pos (show 0 ≤ r ∧ r < ((v ++ l).length : Int) from ⟨h0, by rw [List.length_append]; omega⟩), if_pos (show 0 ≤ r ∧ r < (v.length : Int) from ⟨h0, h⟩), List.getD_eq_getElem?_getD, List.getD_eq_getElem?_getD, List.getElem?_append_left hlt]
  · rw [if_neg (by omega), if_neg (by omega)]
theorem value_m (k : Nat) (m : Twire_Machine) (r : Int) (h : r < 0 ∨ r < (m.values.length : Int)) : wire_Machine_value.m k m r = some (atI m.values r) := by
  unfold wire_Machine_value.m
  by_cases h0 : r < 0
  · rw [decide_eq_true h0, cond_true, atI_neg h0]
  · have hlt : r.toNat < m.values.length := by omega
    rw [decide_eq_false h0, cond_false, if_pos (by omega), List.getElem?_eq_getElem hlt, Option.bind_some]
    unfold atI
    rw [if_pos (by omega), List.getD_eq_getElem?_getD, List.getElem?_eq_getElem hlt]; rfl
theorem opRegs_le (kind n : Int) (hn : n = 2 ∨ n = 3) : 0 ≤ opRegs kind n ∧ opRegs kind n ≤ 3 := by
  unfold opRegs
  repeat' split
  all_goals omega
/-- registers of an op that may be -/
theorem Rt_regs {o : Tapi_Op} {at' n : Int} (h : Rt o at' n = true) (h0 : 0 ≤ at') : (o.a < 0 ∨ o.a < at') ∧ (o.b < 0 ∨ o.b < at') ∧ (o.d < 0 ∨ o.d < at') := by
  unfold Rt at h
  simp only [Bool.and_eq_true, decide_eq_true_eq] at h
  obtain ⟨h1, h2, h3⟩ := h.2.1
  unfold okReg at h1 h2 h3
  omega
theorem Rt_head {o : Tapi_Op} {at' n : Int} (h : Rt o at' n = true) : okHead o n := by
  unfold Rt at h
  simp only [Bool.and_eq_true, decide_eq_true_eq] at h
  exact h.1

def Twire_Machine.len (m : Twire_Machine) : Int := m.base + (m.ops.length : Int)
/-- is a mask to be drawn, and there is none? -/
def noMask (t : Ttape_Tape) : Prop := t.free < 1 ∨ (t.words.length : Int) - t.used.v < 1
instance (t : Ttape_Tape) : Decidable (noMask t) := by unfold noMask; infer_instance
def failM (m : Twire_Machine) (e : Int) : Int × Twire_Machine := (-1, ⟨m.n, m.most, m.base, m.words, m.draws, m.dry, m.openF, m.fromF, e, m.tape, m.ops, m.values, m.blocks⟩)
def pushM (m : Twire_Machine) (o : Tapi_Op) (x : Int) : Int × Twire_Machine :=
  if m.dry then (m.base, ⟨m.n, m.most, m.base + 1, if o.kind = 2 then m.words + 1 else m.words, if o.kind = 1 then m.draws + 1 else m.draws, m.dry, m.openF, m.fromF, m.bad, m.tape, m.ops, m.values, m.blocks⟩)
  else ((m.ops.length : Int), ⟨m.n, m.most, m.base, if o.kind = 2 then m.words + 1 else m.words, if o.kind = 1 then m.draws + 1 else m.draws, m.dry, m.openF, m.fromF, m.bad, m.tape, m.ops ++ [o], m.values ++ [evalI o (atI m.values o.a) (atI m.values o.b) (atI m.values o.d) x], m.blocks⟩)
def drawnM (m : Twire_Machine) : Twire_Machine := ⟨m.n, m.most, m.base, m.words, m.draws, m.dry, m.openF, m.fromF, m.bad, ⟨m.tape.words, ⟨m.tape.used.v + 1⟩, m.tape.free - 1⟩, m.ops, m.values, m.blocks⟩
def rightM (m : Twire_Machine) (o : Tapi_Op) : Bool := Rt o m.len m.n && (o.kind != 2 || o.c == m.words)
def doM (m : Twire_Machine) (o : Tapi_Op) (x : Int) : Int × Twire_Machine :=
  if m.bad ≠ 0 then (-1, m)
  else if rightM m o = false then failM m 1
  else if m.dry = false ∧ m.most ≤ (m.ops.length : Int) then failM m 3
  else if o.kind = 1 ∧ m.dry = false then
    (if noMask m.tape then failM m 2 else pushM (drawnM m) o (atI m.tape.words m.tape.used.v))
  else pushM m o x

/-- a machine that may be -/
structure MOk (m : Twire_Machine) : Prop where
  n : m.n = 2 ∨ m.n = 3
  most : m.most ≤ 1048576
  base : 0 ≤ m.base ∧ m.base ≤ 4611686018427387904
  words : 0 ≤ m.words ∧ m.words ≤ m.base + (m.ops.length : Int)
  draws : 0 ≤ m.draws ∧ m.draws ≤ m.base + (m.ops.length : Int)
  ops : m.ops.length ≤ 1048576
  vals : m.values.length = m.ops.length
  bad : 0 ≤ m.bad ∧ m.bad ≤ 3
  wvals : ∀ x ∈ m.values, IsW x
  wtape : ∀ x ∈ m.tape.words, IsW x
  used : 0 ≤ m.tape.used.v ∧ m.tape.used.v ≤ (m.tape.words.length : Int)
  free : m.tape.free ≤ (m.tape.words.length : Int)
  tlen : (m.tape.words.length : Int) ≤ 4611686018427387904
  wet : m.dry = false → m.base = 0
  dryV : m.dry = true → m.ops = []

theorem wrapI {x : Int} (h0 : -4611686018427387904 ≤ x) (h1 : x ≤ 4611686018427387904 * 3 / 2) : IntKind.i64.wrap x = x := wrap_i64_of (by omega) (by omega)
theorem Len_m (k : Nat) {m : Twire_Machine} (h : MOk m) : wire_Machine_Len.m k m = some m.len := by
  have := h.base; have := h.ops
  unfold wire_Machine_Len.m Twire_Machine.len
  rw [wrapI (by omega) (by omega)]
theorem right_m (k : Nat) {m : Twire_Machine} (h : MOk m) (o : Tapi_Op) : wire_Machine_right.m (k + 4) m o = some (rightM m o) := by
  have hw : IntKind.u64.wrap m.words = m.words := by have := h.words; have := h.base; have := h.ops; exact wrap_u64_of (by omega) (by omega)
  unfold wire_Machine_right.m wire_Machine_right.j1 rightM
  rw [Len_m _ h, Option.bind_some, op_Right_m _ _ _ _ h.n, Option.bind_some, hw]
  cases Rt o m.len m.n
  · rfl
  · rw [cond_true, Bool.true_and]
    cases hk : o.kind != 2
    · rw [cond_false, Bool.false_or]
    · rfl
theorem fail_m (k : Nat) (m : Twire_Machine) (e : Int) (h : m.bad = 0) : wire_Machine_fail.m k m e = some (failM m e) := by
  unfold wire_Machine_fail.m wire_Machine_fail.j1 failM
  rw [h]; rfl
theorem draw_no (k : Nat) {m : Twire_Machine} (h : MOk m) (hn : noMask m.tape) : tape_Tape_Draw.m k m.tape = some (0, false, m.tape) := by
  have := h.used; have := h.tlen
  unfold tape_Tape_Draw.m tape_Tape_Draw.j1 tape_Tape_Left.m tape_Tape_Used.m
  unfold noMask at hn
  by_cases hf : m.tape.free < 1
  · rw [decide_eq_true hf]; rfl
  · rw [decide_eq_false hf, cond_false, Option.bind_some, Option.bind_some, wrapI (by omega) (by omega), decide_eq_true (by omega)]; rfl
theorem draw_yes (k : Nat) {m : Twire_Machine} (h : MOk m) (hn : ¬ noMask m.tape) : tape_Tape_Draw.m k m.tape = some (atI m.tape.words m.tape.used.v, true, (drawnM m).tape) := by
  have h1 := h.used; have h2 := h.tlen; have h3 := h.free
  unfold noMask at hn
  have hlt : m.tape.used.v.toNat < m.tape.words.length := by omega
  unfold tape_Tape_Draw.m tape_Tape_Draw.j1 tape_Tape_Left.m tape_Tape_Used.m
  rw [decide_eq_false (show ¬ m.tape.free < 1 by omega), cond_false, Option.bind_some, Option.bind_some, wrapI (by omega) (by omega), decide_eq_false (by omega), cond_false, wrapI (x := m.tape.used.v + 1) (by omega) (by omega), show m.tape.used.v + 1 - 1 = m.tape.used.v by omega, wrapI (x := m.tape.used.v) (by omega) (by omega), wrapI (x := m.tape.free - 1) (by omega) (by omega),
    if_pos (by omega), List.getElem?_eq_getElem hlt, Option.bind_some]
  unfold atI drawnM
  rw [if_pos (by omega), List.getD_eq_getElem?_getD, List.getElem?_eq_getElem hlt]; rfl
theorem MOk.draw {m : Twire_Machine} (h : MOk m) (hn : ¬ noMask m.tape) : MOk (drawnM m) := by
  have h1 := h.used; have h2 := h.tlen; have h3 := h.free
  unfold noMask at hn
  exact ⟨h.n, h.most, h.base, h.words, h.draws, h.ops, h.vals, h.bad, h.wvals, h.wtape, ⟨by show 0 ≤ m.tape.used.v + 1; omega, by show m.tape.used.v + 1 ≤ (m.tape.words.length : Int); omega⟩, by show m.tape.free - 1 ≤ (m.tape.words.length : Int); omega, h.tlen, h.wet, h.dryV⟩
theorem push_j3 (k : Nat) {m : Twire_Machine} (h : MOk m) (o : Tapi_Op) (x : Int) (hc : IsW o.c) (hx : IsW x) (hr : Rt o m.len m.n = true) (hb : m.base < 4611686018427387904) (hl : m.dry = false → m.ops.length < 1048576) (w d : Int) :
    wire_Machine_Do.j3 k o x ⟨m.n, m.most, m.base, w, d, m.dry, m.openF, m.fromF, m.bad, m.tape, m.ops, m.values, m.blocks⟩ =
      some (if m.dry then (m.base, ⟨m.n, m.most, m.base + 1, w, d, m.dry, m.openF, m.fromF, m.bad, m.tape, m.ops, m.values, m.blocks⟩) else ((m.ops.length : Int), ⟨m.n, m.most, m.base, w, d, m.dry, m.openF, m.fromF, m.bad, m.tape, m.ops ++ [o], m.values ++ [evalI o (atI m.values o.a) (atI m.values o.b) (atI m.values o.d) x], m.blocks⟩)) := by
  have h1 := h.base; have h2 := h.ops; have h3 := h.vals
  unfold wire_Machine_Do.j3
  cases hd : m.dry
  · have hb0 := h.wet hd
    have hlen : m.len = (m.ops.length : Int) := by unfold Twire_Machine.len; omega
    have hg := Rt_regs hr (by rw [hlen]; omega)
    rw [hlen] at hg
    have hl := hl hd
    have value : ∀ r : Int, r < 0 ∨ r < (m.ops.length : Int) → wire_Machine_value.m k ⟨m.n, m.most, m.base, w, d, false, m.openF, m.fromF, m.bad, m.tape, m.ops, m.values, m.blocks⟩ r = some (atI m.values r) := fun r hr => value_m k ⟨m.n, m.most, m.base, w, d, false, m.openF, m.fromF, m.bad, m.tape, m.ops, m.values, m.blocks⟩ r (by show r < 0 ∨ r < (m.values.length : Int); omega)
    dsimp only
    rw [cond_false, value _ hg.1, Option.bind_some, value _ hg.2.1, Option.bind_some, value _ hg.2.2, Option.bind_some,
      op_Eval_m k o _ _ _ _ hc (atI_w h.wvals _) (atI_w h.wvals _) (atI_w h.wvals _) hx, Option.bind_some, if_pos (by simp only [List.length_cons, List.length_nil]; omega), if_pos (by simp only [List.length_cons, List.length_nil]; omega)]
    rw [List.length_append, List.length_cons, List.length_nil, wrapI (by omega) (by omega), show (((m.ops.length + (0 + 1) : Nat)) : Int) - 1 = (m.ops.length : Int) by omega]
    rfl
  · dsimp only
    rw [cond_true, wrapI (x := m.base + 1) (by omega) (by omega), show m.base + 1 - 1 = m.base by omega, wrapI (by omega) (by omega)]; rfl
theorem push_j2 (k : Nat) {m : Twire_Machine} (h : MOk m) (o : Tapi_Op) (x : Int) (hc : IsW o.c) (hx : IsW x) (hr : Rt o m.len m.n = true) (hb : m.base < 4611686018427387904) (hl : m.dry = false → m.ops.length < 1048576) :
    wire_Machine_Do.j2 k o m x = some (pushM m o x) := by
  have h1 := h.base; have h2 := h.ops; have h3 := h.words; have h4 := h.draws
  have e1 : IntKind.i64.wrap (m.draws + 1) = m.draws + 1 := wrapI (by omega) (by omega)
  have e2 : IntKind.i64.wrap (m.words + 1) = m.words + 1 := wrapI (by omega) (by omega)
  unfold wire_Machine_Do.j2 pushM
  by_cases k1 : o.kind = 1
  · rw [k1]
    simp only [show ((1 : Int) == 1) = true from rfl, cond_true, e1]
    rw [push_j3 k h o x hc hx hr hb hl]; rfl
  · by_cases k2 : o.kind = 2
    · rw [k2]
      simp only [show ((2 : Int) == 1) = false from rfl, show ((2 : Int) == 2) = true from rfl, cond_true, cond_false, e2]
      rw [push_j3 k h o x hc hx hr hb hl]; rfl
    · rw [beqF k1, beqF k2, cond_false, cond_false, if_neg k1, if_neg k2]
      exact push_j3 k h o x hc hx hr hb hl m.words m.draws
theorem Do_m (k : Nat) {m : Twire_Machine} (h : MOk m) (o : Tapi_Op) (x : Int) (hc : IsW o.c) (hx : IsW x) (hb : m.base < 4611686018427387904) : wire_Machine_Do.m (k + 4) m o x = some (doM m o x) := by
  have h2 := h.ops; have h5 := h.most
  unfold wire_Machine_Do.m doM
  by_cases b0 : m.bad = 0
  · rw [show (m.bad != 0) = false by simp [b0], cond_false, if_neg (by omega), right_m k h, Option.bind_some]
    cases hr : rightM m o
    · rw [Bool.not_false, cond_true, fail_m _ _ _ b0, Option.bind_some, if_pos rfl]
    · have hR : Rt o m.len m.n = true := by unfold rightM at hr; rw [Bool.and_eq_true] at hr; exact hr.1
      rw [Bool.not_true, cond_false, if_neg (by simp)]
      unfold wire_Machine_Do.j1
      cases hd : m.dry
      · rw [Bool.not_false, cond_true]
        by_cases hm : m.most ≤ (m.ops.length : Int)
        · rw [decide_eq_true (show ((m.ops.length : Nat) : Int) ≥ m.most from hm), cond_true, fail_m _ _ _ b0, Option.bind_some, if_pos ⟨rfl, hm⟩]
        · rw [decide_eq_false (show ¬ ((m.ops.length : Nat) : Int) ≥ m.most from hm), cond_false, if_neg (fun h => hm h.2)]
          by_cases k1 : o.kind = 1
          · rw [show ((o.kind == 1) && true) = true by simp [k1], cond_true, cond_false, if_pos ⟨k1, rfl⟩]
            by_cases hn : noMask m.tape
            · rw [draw_no _ h hn, Option.bind_some, if_pos hn]
              dsimp only
              rw [Bool.not_false, cond_true, ← hd, fail_m _ _ _ b0, Option.bind_some]
            · rw [draw_yes _ h hn, Option.bind_some, if_neg hn]
              dsimp only
              rw [Bool.not_true, cond_false, ← hd]
              exact push_j2 (k + 4) (h.draw hn) o _ hc (atI_w h.wtape _) hR hb (fun _ => by show m.ops.length < 1048576; omega)
          · rw [show ((o.kind == 1) && true) = false by rw [beqF k1]; rfl, cond_false, if_neg (fun h => k1 h.1)]
            exact push_j2 (k + 4) h o x hc hx hR hb (fun _ => by omega)
      · rw [Bool.not_true, cond_false, cond_false, Bool.and_false, cond_false, if_neg (fun h => by cases h.1), if_neg (fun h => by cases h.2)]
        exact push_j2 (k + 4) h o x hc hx hR hb (fun e => by rw [hd] at e; cases e)
  · rw [show (m.bad != 0) = true by simp [b0], cond_true, if_pos b0]
theorem pushM_wet {m : Twire_Machine} (hd : m.dry = false) (o : Tapi_Op) (x : Int) : pushM m o x = ((m.ops.length : Int), ⟨m.n, m.most, m.base, if o.kind = 2 then m.words + 1 else m.words, if o.kind = 1 then m.draws + 1 else m.draws, m.dry, m.openF, m.fromF, m.bad, m.tape, m.ops ++ [o], m.values ++ [evalI o (atI m.values o.a) (atI m.values o.b) (atI m.values o.d) x], m.blocks⟩) := by
  unfold pushM; rw [if_neg (by rw [hd]; simp)]
theorem pushM_dry {m : Twire_Machine} (hd : m.dry = true) (o : Tapi_Op) (x : Int) : pushM m o x = (m.base, ⟨m.n, m.most, m.base + 1, if o.kind = 2 then m.words + 1 else m.words, if o.kind = 1 then m.draws + 1 else m.draws, m.dry, m.openF, m.fromF, m.bad, m.tape, m.ops, m.values, m.blocks⟩) := by
  unfold pushM; rw [if_pos hd]
theorem up_le (c : Prop) [Decidable c] {a b : Int} (h0 : 0 ≤ a ∧ a ≤ b) : 0 ≤ (if c then a + 1 else a) ∧ (if c then a + 1 else a) ≤ b + 1 := by split <;> omega
theorem MOk.push {m : Twire_Machine} (h : MOk m) (o : Tapi_Op) (x : Int) (hb : m.base < 4611686018427387904) (hl : m.dry = false → m.ops.length < 1048576) : MOk (pushM m o x).2 := by
  have h1 := h.base; have h2 := h.ops; have h5 := h.vals
  cases hd : m.dry
  · have hl := hl hd
    have hb0 := h.wet hd
    rw [pushM_wet hd]
    refine ⟨h.n, h.most, h.base, ?_, ?_, ?_, ?_, h.bad, ?_, h.wtape, h.used, h.free, h.tlen, fun _ => hb0, fun e => (by rw [hd] at e; cases e)⟩
    · have := up_le (o.kind = 2) h.words
      simp only [List.length_append, List.length_cons, List.length_nil]; omega
    · have := up_le (o.kind = 1) h.draws
      simp only [List.length_append, List.length_cons, List.length_nil]; omega
    · simp only [List.length_append, List.length_cons, List.length_nil]; omega
    · simp only [List.length_append, List.length_cons, List.length_nil]; omega
    · intro y hy
      rcases List.mem_append.1 hy with hy | hy
      · exact h.wvals y hy
      · rw [List.mem_singleton.1 hy]; exact evalI_w _ _ _ _ _
  · rw [pushM_dry hd]
    refine ⟨h.n, h.most, ⟨by show 0 ≤ m.base + 1; omega, by show m.base + 1 ≤ 4611686018427387904; omega⟩, ?_, ?_, h.ops, h.vals, h.bad, h.wvals, h.wtape, h.used, h.free, h.tlen, fun e => (by rw [hd] at e; cases e), fun _ => h.dryV hd⟩
    · have := up_le (o.kind = 2) h.words
      dsimp only; omega
    · have := up_le (o.kind = 1) h.draws
      dsimp only; omega
theorem MOk.fail {m : Twire_Machine} (h : MOk m) (e : Int) (he : 0 ≤ e ∧ e ≤ 3) : MOk (failM m e).2 :=
  ⟨h.n, h.most, h.base, h.words, h.draws, h.ops, h.vals, he, h.wvals, h.wtape, h.used, h.free, h.tlen, h.wet, h.dryV⟩
theorem MOk.did {m : Twire_Machine} (h : MOk m) (o : Tapi_Op) (x : Int) (hb : m.base < 4611686018427387904) : MOk (doM m o x).2 := by
  have h5 := h.most
  unfold doM
  repeat' split
  · exact h
  · exact h.fail 1 (by omega)
  · exact h.fail 3 (by omega)
  · exact h.fail 2 (by omega)
  · rename_i h1 h2 hn; exact (h.draw hn).push o _ hb (fun hd => by show m.ops.length < 1048576; have : ¬ m.most ≤ (m.ops.length : Int) := fun e => h1 ⟨hd, e⟩; omega)
  · rename_i h1 h2; exact h.push o x hb (fun hd => by have : ¬ m.most ≤ (m.ops.length : Int) := fun e => h1 ⟨hd, e⟩; omega)

/-! Begin, End, and what stays true of a machine: its words are what its ops make. -/
theorem Do_k {k : Nat} (hk : 4 ≤ k) {m : Twire_Machine} (h : MOk m) (o : Tapi_Op) (x : Int) (hc : IsW o.c) (hx : IsW x) (hb : m.base < 4611686018427387904) : wire_Machine_Do.m k m o x = some (doM m o x) := by
  obtain ⟨j, rfl⟩ : ∃ j, k = j + 4 := ⟨k - 4, by omega⟩
  exact Do_m j h o x hc hx hb
theorem next_m (k : Nat) {m : Twire_Machine} (h : MOk m) : wire_Machine_next.m k m = some m.words := by
  have := h.words; have := h.base; have := h.ops
  unfold wire_Machine_next.m
  rw [wrap_u64_of (by omega) (by omega)]
theorem words_w {m : Twire_Machine} (h : MOk m) : IsW m.words := by
  have := h.words; have := h.base; have := h.ops
  unfold IsW; omega
theorem Key_k {k : Nat} (hk : 4 ≤ k) {m : Twire_Machine} (h : MOk m) (x a b : Int) (hx : IsW x) (hb : m.base < 4611686018427387904) : wire_Machine_Key.m k m x a b = some (doM m ⟨2, 0, a, b, -1, m.words⟩ x) := by
  unfold wire_Machine_Key.m
  rw [next_m _ h, Option.bind_some, Do_k hk h _ _ (words_w h) hx hb, Option.bind_some]
def beginM (m : Twire_Machine) (kd : Int) : Twire_Machine :=
  if m.bad ≠ 0 then m else if m.openF ≠ 0 ∨ kd < 1 ∨ kd > 3 then (failM m 1).2 else ⟨m.n, m.most, m.base, m.words, m.draws, m.dry, kd, m.len, m.bad, m.tape, m.ops, m.values, m.blocks⟩
def endM (m : Twire_Machine) : Twire_Machine :=
  if m.bad ≠ 0 then m else if m.openF = 0 then (failM m 1).2 else ⟨m.n, m.most, m.base, m.words, m.draws, m.dry, 0, m.fromF, m.bad, m.tape, m.ops, m.values, if m.fromF < m.len ∧ m.dry = false then m.blocks ++ [⟨m.openF, m.fromF, m.len⟩] else m.blocks⟩
theorem Begin_m (k : Nat) {m : Twire_Machine} (h : MOk m) (kd : Int) : wire_Machine_Begin.m k m kd = some (beginM m kd) := by
  unfold wire_Machine_Begin.m beginM
  by_cases b0 : m.bad = 0
  · rw [show (m.bad != 0) = false by simp [b0], cond_false, if_neg (by omega)]
    by_cases c : m.openF ≠ 0 ∨ kd < 1 ∨ kd > 3
    · have e : ((m.openF != 0) || decide (kd < 1) || decide (kd > 3)) = true := by
        simp only [Bool.or_eq_true, bne_iff_ne, ne_eq, decide_eq_true_eq]; rcases c with c | c | c <;> simp [c]
      rw [e, cond_true, fail_m _ _ _ b0, Option.bind_some, if_pos c]
    · have e : ((m.openF != 0) || decide (kd < 1) || decide (kd > 3)) = false := by
        simp only [Bool.or_eq_false_iff, bne_eq_false_iff_eq, decide_eq_false_iff_not]; omega
      rw [e, cond_false, Len_m _ h, Option.bind_some, if_neg c]
  · rw [show (m.bad != 0) = true by simp [b0], cond_true, if_pos b0]
theorem End_m (k : Nat) {m : Twire_Machine} (h : MOk m) (hbl : m.blocks.length ≤ 2097152) : wire_Machine_End.m k m = some (endM m) := by
  unfold wire_Machine_End.m endM
  by_cases b0 : m.bad = 0
  · rw [show (m.bad != 0) = false by simp [b0], cond_false, if_neg (show ¬ m.bad ≠ 0 by omega)]
    by_cases c : m.openF = 0
    · rw [show (m.openF == 0) = true by simp [c], cond_true, fail_m _ _ _ b0, Option.bind_some, if_pos c]
    · rw [beqF c, cond_false, Len_m _ h, Option.bind_some, if_neg c]
      unfold wire_Machine_End.j1 wire_Machine_End.j2
      rw [Len_m _ h, Option.bind_some, if_pos (by simp only [List.length_cons, List.length_nil]; omega)]
      dsimp only
      by_cases c2 : m.fromF < m.len
      · rw [decide_eq_true (show m.len > m.fromF from c2), cond_true]
        cases hd : m.dry
        · rw [Bool.not_false, cond_true, if_pos ⟨c2, rfl⟩]
        · rw [Bool.not_true, cond_false, if_neg (fun h => by cases h.2)]
      · rw [decide_eq_false (show ¬ m.len > m.fromF from c2), cond_false, cond_false, if_neg (fun h => c2 h.1)]
  · rw [show (m.bad != 0) = true by simp [b0], cond_true, if_pos b0]

/-! ops that are made, one by one -/
def cnt (kd : Int) (l : List Tapi_Op) : Nat := l.countP fun o => o.kind == kd
theorem cnt_snoc (kd : Int) (l : List Tapi_Op) (o : Tapi_Op) : cnt kd (l ++ [o]) = cnt kd l + (if o.kind = kd then 1 else 0) := by
  unfold cnt
  rw [List.countP_append]
  by_cases h : o.kind = kd <;> simp [h]
theorem cnt_le (kd : Int) (l : List Tapi_Op) : cnt kd l ≤ l.length := List.countP_le_length
def outw (T K : List Int) (ops : List Tapi_Op) (o : Tapi_Op) : Int := if o.kind = 1 then T.getD (cnt 1 ops) 0 else if o.kind = 2 then K.getD o.c.toNat 0 else 0
inductive Made (n : Int) (T K : List Int) : List Tapi_Op → List Int → Prop
  | nil : Made n T K [] []
  | snoc {ops : List Tapi_Op} {vals : List Int} {o : Tapi_Op} {v : Int} : Made n T K ops vals → Rt o (ops.length : Int) n = true → (o.kind = 2 → o.c = (cnt 2 ops : Int)) → IsW o.c →
      v = evalI o (atI vals o.a) (atI vals o.b) (atI vals o.d) (outw T K ops o) → Made n T K (ops ++ [o]) (vals ++ [v])
theorem Made.len {n : Int} {T K : List Int} {ops : List Tapi_Op} {vals : List Int} (h : Made n T K ops vals) : vals.length = ops.length := by
  induction h with
  | nil => rfl
  | snoc _ _ _ _ _ ih => simp [ih]
theorem Made.more {n : Int} {T K : List Int} {ops : List Tapi_Op} {vals : List Int} (h : Made n T K ops vals) (L : List Int) (hK : cnt 2 ops ≤ K.length) : Made n T (K ++ L) ops vals := by
  induction h with
  | nil => exact .nil
  | @snoc ops vals o v hm h1 h2 h3 h4 ih =>
    rw [cnt_snoc] at hK
    refine .snoc (ih (by omega)) h1 h2 h3 ?_
    rw [h4]
    congr 1
    unfold outw
    by_cases k1 : o.kind = 1
    · rw [if_pos k1, if_pos k1]
    · rw [if_neg k1, if_neg k1]
      by_cases k2 : o.kind = 2
      · rw [if_pos k2] at hK
        rw [if_pos k2, if_pos k2, h2 k2, Int.toNat_natCast, List.getD_eq_getElem?_getD, List.getD_eq_getElem?_getD, List.getElem?_append_left (by omega)]
      · rw [if_neg k2, if_neg k2]
theorem Made.at {n : Int} {T K : List Int} {ops : List Tapi_Op} {vals : List Int} (h : Made n T K ops vals) : ∀ (i : Nat) (o : Tapi_Op) (v : Int), ops[i]? = some o → vals[i]? = some v →
    Rt o (i : Int) n = true ∧ (o.kind = 2 → o.c = (cnt 2 (ops.take i) : Int)) ∧ IsW o.c ∧ v = evalI o (atI vals o.a) (atI vals o.b) (atI vals o.d) (outw T K (ops.take i) o) := by
  induction h with
  | nil => intro i o v h; simp at h
  | @snoc ops vals o' v' hm h1 h2 h3 h4 ih =>
    intro i o v ho hv
    have hl := hm.len
    by_cases hi : i < ops.length
    · rw [List.getElem?_append_left hi] at ho
      rw [List.getElem?_append_left (by omega)] at hv
      obtain ⟨a1, a2, a3, a4⟩ := ih i o v ho hv
      have hr := Rt_regs a1 (by omega)
      rw [List.take_append_of_le_length (by omega)]
      refine ⟨a1, a2, a3, ?_⟩
      rw [atI_append (by omega), atI_append (by omega), atI_append (by omega)]; exact a4
    · have e : i = ops.length := by
        have := (List.getElem?_eq_some_iff.1 ho).1
        simp at this; omega
      subst e
      rw [List.getElem?_append_right (Nat.le_refl _), Nat.sub_self] at ho
      rw [← hl, List.getElem?_append_right (Nat.le_refl _), Nat.sub_self] at hv
      cases ho; cases hv
      have hr := Rt_regs h1 (by omega)
      rw [List.take_left]
      refine ⟨h1, h2, h3, ?_⟩
      rw [atI_append (by omega), atI_append (by omega), atI_append (by omega)]; exact h4
/-- blocks in order, from 'last' on, within so many ops -/
def BlOk (len : Int) : Int → List Tapi_Span → Prop
  | _, [] => True
  | last, b :: l => 1 ≤ b.kind ∧ b.kind ≤ 3 ∧ last ≤ b.fromF ∧ b.fromF < b.to ∧ b.to ≤ len ∧ BlOk len b.to l
def lastTo : Int → List Tapi_Span → Int
  | last, [] => last
  | _, b :: l => lastTo b.to l
theorem BlOk.mono {len len' : Int} (hl : len ≤ len') : ∀ {l : List Tapi_Span} {last : Int}, BlOk len last l → BlOk len' last l
  | [], _, _ => trivial
  | b :: l, _, ⟨h1, h2, h3, h4, h5, h6⟩ => ⟨h1, h2, h3, h4, by omega, BlOk.mono hl h6⟩
theorem BlOk.snoc {len : Int} {b : Tapi_Span} : ∀ {l : List Tapi_Span} {last : Int}, BlOk len last l → 1 ≤ b.kind → b.kind ≤ 3 → lastTo last l ≤ b.fromF → b.fromF < b.to → b.to ≤ len → BlOk len last (l ++ [b])
  | [], _, _, g1, g2, g3, g4, g5 => ⟨g1, g2, g3, g4, g5, trivial⟩
  | _ :: _, _, ⟨h1, h2, h3, h4, h5, h6⟩, g1, g2, g3, g4, g5 => ⟨h1, h2, h3, h4, h5, BlOk.snoc h6 g1 g2 g3 g4 g5⟩
theorem lastTo_snoc {b : Tapi_Span} : ∀ {l : List Tapi_Span} {last : Int}, lastTo last (l ++ [b]) = b.to
  | [], _ => rfl
  | _ :: l, _ => lastTo_snoc (l := l)
theorem BlOk.count {len : Int} : ∀ {l : List Tapi_Span} {last : Int}, BlOk len last l → last + (l.length : Int) ≤ lastTo last l ∧ (last ≤ len → lastTo last l ≤ len)
  | [], last, _ => by simp [lastTo]
  | b :: l, last, ⟨h1, h2, h3, h4, h5, h6⟩ => by
    have := BlOk.count h6
    simp only [lastTo, List.length_cons]; omega

/-! The document's look at a trace that was made. -/
theorem getElem_some {α : Type} {l : List α} {i : Nat} (h : i < l.length) : ∃ x, l[i]? = some x := ⟨l[i], List.getElem?_eq_getElem h⟩

/-! The document's machine is the program's, seen otherwise. -/
def absT (t : Ttape_Tape) : Tvisorref02_T := ⟨t.words.drop t.used.v.toNat, t.used.v, t.free⟩
def absM (m : Twire_Machine) : Tvisorref19_M := ⟨m.n, m.most, m.words, m.draws, m.fromF, 0, m.openF, m.bad, m.ops, m.blocks, m.values, absT m.tape, m.dry⟩
theorem rAt_m (k : Nat) (X : Tvisorref19_M) (r : Int) : visorref19_M_At.m k X r = some (atI X.val r) := by
  unfold visorref19_M_At.m
  by_cases h0 : r < 0
  · rw [decide_eq_true h0, Bool.true_or, cond_true, atI_neg h0]
  · by_cases h1 : r < (X.val.length : Int)
    · have hlt : r.toNat < X.val.length := by omega
      rw [decide_eq_false h0, Bool.false_or, decide_eq_false (by omega), cond_false, if_pos (by omega), List.getElem?_eq_getElem hlt, Option.bind_some]
      unfold atI
      rw [if_pos (by omega), List.getD_eq_getElem?_getD, List.getElem?_eq_getElem hlt]; rfl
    · rw [decide_eq_false h0, Bool.false_or, decide_eq_true (by omega), cond_true]
      unfold atI
      rw [if_neg (by omega)]
theorem rFails_m (k : Nat) (m : Twire_Machine) (e : Int) (h : m.bad = 0) : visorref19_M_Fails.m k (absM m) e = some (-1, absM (failM m e).2) := by
  unfold visorref19_M_Fails.m visorref19_M_Fails.j1
  rw [show (absM m).e = 0 from h]; rfl
theorem rLen_m (k : Nat) {m : Twire_Machine} (h : MOk m) (hd : m.dry = false) : visorref19_M_Len.m k (absM m) = some m.len := by
  have := h.ops; have := h.wet hd
  unfold visorref19_M_Len.m Twire_Machine.len
  rw [show (absM m).skip = 0 from rfl, show (absM m).ops = m.ops from rfl, wrapI (by omega) (by omega)]
  congr 1; omega
theorem rpush_j4 (k : Nat) (hk : 65 ≤ k) {m : Twire_Machine} (h : MOk m) (hd : m.dry = false) (o : Tapi_Op) (x : Int) (hc : IsW o.c) (hx : IsW x) (hl : m.ops.length < 1048576) :
    visorref19_M_Do.j4 k o (absM m) x = some ((pushM m o x).1, absM (pushM m o x).2) := by
  have h2 := h.ops; have h3 := h.words; have h4 := h.draws; have h5 := h.vals; have hb := h.wet hd
  have e1 : IntKind.i64.wrap (m.draws + 1) = m.draws + 1 := wrapI (by omega) (by omega)
  have e2 : IntKind.i64.wrap (m.words + 1) = m.words + 1 := wrapI (by omega) (by omega)
  have six : ∀ w d : Int, visorref19_M_Do.j6 k o x ⟨m.n, m.most, w, d, m.fromF, 0, m.openF, m.bad, m.ops, m.blocks, m.values, absT m.tape, m.dry⟩ =
      some ((m.ops.length : Int), ⟨m.n, m.most, w, d, m.fromF, 0, m.openF, m.bad, m.ops ++ [o], m.blocks, m.values ++ [evalI o (atI m.values o.a) (atI m.values o.b) (atI m.values o.d) x], absT m.tape, m.dry⟩) := by
    intro w d
    unfold visorref19_M_Do.j6
    rw [rAt_m, Option.bind_some, rAt_m, Option.bind_some, rAt_m, Option.bind_some]
    dsimp only
    rw [ref_Eval_m k hk o _ _ _ _ hc (atI_w h.wvals _) (atI_w h.wvals _) (atI_w h.wvals _) hx, Option.bind_some, if_pos (by simp only [List.length_cons, List.length_nil]; omega), if_pos (by simp only [List.length_cons, List.length_nil]; omega)]
    unfold visorref19_M_Len.m
    dsimp only
    rw [List.length_append, List.length_cons, List.length_nil, wrapI (by omega) (by omega), Option.bind_some, wrapI (by omega) (by omega)]
    congr 2; omega
  rw [pushM_wet hd]
  unfold visorref19_M_Do.j4 visorref19_M_Do.j5
  by_cases k1 : o.kind = 1
  · rw [k1, show ((1 : Int) == 1) = true from rfl, cond_true, show ((1 : Int) == 2) = false from rfl, cond_false]
    simp only [show (absM m).draws = m.draws from rfl, e1]
    exact six _ _
  · by_cases k2 : o.kind = 2
    · rw [k2, show ((2 : Int) == 1) = false from rfl, cond_false, show ((2 : Int) == 2) = true from rfl, cond_true]
      simp only [show (absM m).words = m.words from rfl, e2]
      exact six _ _
    · rw [beqF k1, beqF k2, cond_false, cond_false, if_neg k1, if_neg k2]
      exact six _ _
theorem drop_head {l : List Int} {i : Nat} (h : i < l.length) : (l.drop i)[0]? = l[i]? := by rw [List.getElem?_drop]; rfl
theorem rDo_k {k : Nat} (hk : 65 ≤ k) {m : Twire_Machine} (h : MOk m) (hd : m.dry = false) (o : Tapi_Op) (x : Int) (hc : IsW o.c) (hx : IsW x) : visorref19_M_Do.m k (absM m) o x = some ((doM m o x).1, absM (doM m o x).2) := by
  have h2 := h.ops; have h5 := h.most; have hw := h.words; have hb := h.wet hd
  obtain ⟨j, rfl⟩ : ∃ j, k = j + 4 := ⟨k - 4, by omega⟩
  unfold visorref19_M_Do.m doM
  by_cases b0 : m.bad = 0
  · rw [show ((absM m).e != 0) = false by rw [show (absM m).e = 0 from b0]; rfl, cond_false, if_neg (by omega), rLen_m _ h hd, Option.bind_some, show (absM m).n = m.n from rfl, ref_Right_m _ _ _ _ h.n, Option.bind_some,
      show (absM m).words = m.words from rfl, wrap_u64_of (by omega) (by omega)]
    unfold rightM
    have one : ∀ b : Bool, visorref19_M_Do.j1 (j + 4) (absM m) o x b = if b = true then some ((failM m 1).1, absM (failM m 1).2) else (if m.most ≤ (m.ops.length : Int) then some ((failM m 3).1, absM (failM m 3).2) else
        (if o.kind = 1 then (if noMask m.tape then some ((failM m 2).1, absM (failM m 2).2) else some ((pushM (drawnM m) o (atI m.tape.words m.tape.used.v)).1, absM (pushM (drawnM m) o (atI m.tape.words m.tape.used.v)).2)) else some ((pushM m o x).1, absM (pushM m o x).2))) := by
      intro b
      unfold visorref19_M_Do.j1
      cases b
      · rw [cond_false, show (absM m).dry = false from hd, Bool.not_false, cond_true, rLen_m _ h hd, Option.bind_some, if_neg (by simp)]
        have hlen : m.len = (m.ops.length : Int) := by unfold Twire_Machine.len; omega
        unfold visorref19_M_Do.j2
        rw [show (absM m).most = m.most from rfl, hlen, show (absM m).dry = false from hd]
        by_cases hm : m.most ≤ (m.ops.length : Int)
        · rw [decide_eq_true (show (m.ops.length : Int) ≥ m.most from hm), cond_true, rFails_m _ _ _ b0, Option.bind_some, if_pos hm]; rfl
        · rw [decide_eq_false (show ¬ (m.ops.length : Int) ≥ m.most from hm), cond_false, if_neg hm]
          by_cases k1 : o.kind = 1
          · rw [show ((o.kind == 1) && !false) = true by simp [k1], cond_true, if_pos k1]
            have hu := h.used; have hf := h.free; have ht := h.tlen
            have hl : (absM m).tape.l = m.tape.words.drop m.tape.used.v.toNat := rfl
            have hlen' : (absM m).tape.l.length = m.tape.words.length - m.tape.used.v.toNat := by rw [hl, List.length_drop]
            unfold visorref19_M_Do.j3
            by_cases hn : noMask m.tape
            · rw [if_pos hn]
              have hn' := hn
              unfold noMask at hn'
              rw [show (decide ((absM m).tape.free < 1) || (((((absM m).tape.l.length : Nat)) : Int) == 0)) = true by
                rw [hlen', show (absM m).tape.free = m.tape.free from rfl, Bool.or_eq_true, decide_eq_true_eq, beq_iff_eq]; omega, cond_true, Bool.not_false, cond_true, rFails_m _ _ _ b0, Option.bind_some]; rfl
            · rw [if_neg hn]
              have hn' := hn
              unfold noMask at hn'
              rw [show (decide ((absM m).tape.free < 1) || (((((absM m).tape.l.length : Nat)) : Int) == 0)) = false by
                rw [hlen', show (absM m).tape.free = m.tape.free from rfl, Bool.or_eq_false_iff, decide_eq_false_iff_not, beq_eq_false_iff_ne]; omega, cond_false, if_pos (by omega)]
              have hi : m.tape.used.v.toNat < m.tape.words.length := by omega
              rw [hl, drop_head hi, List.getElem?_eq_getElem hi, Option.bind_some, if_pos (by rw [List.length_drop]; omega), Bool.not_true, cond_false]
              have hpush := rpush_j4 (j + 4) hk (h.draw hn) hd o (atI m.tape.words m.tape.used.v) hc (atI_w h.wtape _) (by show m.ops.length < 1048576; omega)
              rw [← hpush]
              have e1 : atI m.tape.words m.tape.used.v = m.tape.words[m.tape.used.v.toNat] := by
                unfold atI
                rw [if_pos (by omega), List.getD_eq_getElem?_getD, List.getElem?_eq_getElem hi]; rfl
              rw [e1]
              congr 1
              have e2 : cut (m.tape.words.drop m.tape.used.v.toNat) 1 (m.tape.words.drop m.tape.used.v.toNat).length = m.tape.words.drop (m.tape.used.v + 1).toNat := by
                unfold cut
                rw [List.take_length, List.drop_drop]
                congr 1; omega
              unfold absM absT drawnM
              simp only [e2]
              rw [wrapI (by omega) (by omega), wrapI (by omega) (by omega), hd]
          · rw [show ((o.kind == 1) && !false) = false by rw [beqF k1]; rfl, cond_false, if_neg k1]
            exact rpush_j4 (j + 4) hk h hd o x hc hx (by omega)
      · rw [cond_true, rFails_m _ _ _ b0, Option.bind_some, if_pos rfl]; rfl
    have tail : ∀ b : Bool, (if b = true then some ((failM m 1).1, absM (failM m 1).2) else (if m.most ≤ (m.ops.length : Int) then some ((failM m 3).1, absM (failM m 3).2) else
        (if o.kind = 1 then (if noMask m.tape then some ((failM m 2).1, absM (failM m 2).2) else some ((pushM (drawnM m) o (atI m.tape.words m.tape.used.v)).1, absM (pushM (drawnM m) o (atI m.tape.words m.tape.used.v)).2)) else some ((pushM m o x).1, absM (pushM m o x).2)))) =
        some ((if (!b) = false then failM m 1 else if m.dry = false ∧ m.most ≤ (m.ops.length : Int) then failM m 3 else if o.kind = 1 ∧ m.dry = false then (if noMask m.tape then failM m 2 else pushM (drawnM m) o (atI m.tape.words m.tape.used.v)) else pushM m o x).1,
          absM (if (!b) = false then failM m 1 else if m.dry = false ∧ m.most ≤ (m.ops.length : Int) then failM m 3 else if o.kind = 1 ∧ m.dry = false then (if noMask m.tape then failM m 2 else pushM (drawnM m) o (atI m.tape.words m.tape.used.v)) else pushM m o x).2) := by
      intro b
      cases b
      · simp only [hd, Bool.not_false, true_and, and_true, if_false, Bool.false_eq_true, Bool.true_eq_false]
        split
        · rfl
        · split
          · split <;> rfl
          · rfl
      · rfl
    cases hR : Rt o m.len m.n
    · rw [Bool.not_false, cond_true, one, tail]; rfl
    · rw [Bool.not_true, cond_false, Bool.true_and]
      by_cases k2 : o.kind = 2
      · rw [show (o.kind == 2) = true by simp [k2], cond_true, one, tail, show (o.kind != 2) = false by simp [k2], Bool.false_or]
        rw [show (o.c == m.words) = !(o.c != m.words) by simp [bne]]
      · rw [beqF k2, cond_false, one, tail, show (o.kind != 2) = true by simp [k2], Bool.true_or]; rfl
  · rw [show ((absM m).e != 0) = true by simp [absM, b0], cond_true, if_pos b0]
theorem rBegin_m (k : Nat) {m : Twire_Machine} (h : MOk m) (hd : m.dry = false) (kd : Int) : visorref19_M_Begin.m k (absM m) kd = some (absM (beginM m kd)) := by
  have h2 := h.ops; have hb := h.wet hd
  unfold visorref19_M_Begin.m beginM
  by_cases b0 : m.bad = 0
  · rw [show ((absM m).e != 0) = false by rw [show (absM m).e = 0 from b0]; rfl, cond_false, if_neg (by omega)]
    by_cases c : m.openF ≠ 0 ∨ kd < 1 ∨ kd > 3
    · have e : (((absM m).kind != 0) || decide (kd < 1) || decide (kd > 3)) = true := by
        rw [show (absM m).kind = m.openF from rfl]
        simp only [Bool.or_eq_true, bne_iff_ne, ne_eq, decide_eq_true_eq]; rcases c with c | c | c <;> simp [c]
      rw [e, cond_true, if_pos c]; rfl
    · have e : (((absM m).kind != 0) || decide (kd < 1) || decide (kd > 3)) = false := by
        rw [show (absM m).kind = m.openF from rfl]
        simp only [Bool.or_eq_false_iff, bne_eq_false_iff_eq, decide_eq_false_iff_not]; omega
      rw [e, cond_false, if_neg c]
      unfold visorref19_M_Len.m
      dsimp only
      rw [show (absM m).skip = 0 from rfl, show (absM m).ops = m.ops from rfl, wrapI (by omega) (by omega), Option.bind_some]
      unfold absM Twire_Machine.len
      dsimp only
      rw [hb]
  · rw [show ((absM m).e != 0) = true by simp [absM, b0], cond_true, if_pos b0]
theorem rEnd_m (k : Nat) {m : Twire_Machine} (h : MOk m) (hd : m.dry = false) (hbl : m.blocks.length ≤ 2097152) : visorref19_M_End.m k (absM m) = some (absM (endM m)) := by
  unfold visorref19_M_End.m endM
  by_cases b0 : m.bad = 0
  · rw [show ((absM m).e != 0) = false by rw [show (absM m).e = 0 from b0]; rfl, cond_false, if_neg (show ¬ m.bad ≠ 0 by omega)]
    by_cases c : m.openF = 0
    · rw [show ((absM m).kind == 0) = true by rw [show (absM m).kind = 0 from c]; rfl, cond_true, if_pos c]; rfl
    · rw [show ((absM m).kind == 0) = false by rw [show (absM m).kind = m.openF from rfl]; exact beqF c, cond_false, rLen_m _ h hd, Option.bind_some, if_neg c, Option.bind_some, show (absM m).fromF = m.fromF from rfl, show (absM m).blocks = m.blocks from rfl]
      unfold visorref19_M_End.j1
      rw [if_pos (by simp only [List.length_cons, List.length_nil]; omega)]
      by_cases c2 : m.fromF < m.len
      · rw [decide_eq_true (show m.len > m.fromF from c2), cond_true, if_pos ⟨c2, hd⟩]; rfl
      · rw [decide_eq_false (show ¬ m.len > m.fromF from c2), cond_false, if_neg (fun h => c2 h.1)]; rfl
  · rw [show ((absM m).e != 0) = true by simp [absM, b0], cond_true, if_pos b0]

/-! A trace held against itself; rows of words. -/
theorem Same_blocks (t : Tapi_Trace) (hb : t.blocks.length ≤ 1048576) : ∀ (d i k : Nat), i + d = t.blocks.length → d < k → visorref18_Same.l1 t t k (i : Int) = some (.inr ())
  | 0, i, k, hi, hk => by
    obtain ⟨k, rfl⟩ : ∃ j, k = j + 1 := ⟨k - 1, by omega⟩
    unfold visorref18_Same.l1
    rw [decide_eq_false (by omega), cond_false]
  | d + 1, i, k, hi, hk => by
    obtain ⟨k, rfl⟩ : ∃ j, k = j + 1 := ⟨k - 1, by omega⟩
    have hlt : i < t.blocks.length := by omega
    have hw : IntKind.i64.wrap ((i : Int) + 1) = ((i + 1 : Nat) : Int) := by rw [wrapI (by omega) (by omega)]; omega
    have ih := Same_blocks t hb d (i + 1) k (by omega) (by omega)
    unfold visorref18_Same.l1
    rw [decide_eq_true (by omega), cond_true, if_pos (by omega), Int.toNat_natCast, List.getElem?_eq_getElem hlt, Option.bind_some, if_pos (by omega), Option.bind_some]
    simp only [beq_self_eq_true, Bool.and_self, Bool.not_true, cond_false, hw]
    exact ih
theorem Same_ops (t : Tapi_Trace) (hb : t.ops.length ≤ 1048576) : ∀ (d i k : Nat), i + d = t.ops.length → d < k → visorref18_Same.l2 t t k (i : Int) = some (.inr ())
  | 0, i, k, hi, hk => by
    obtain ⟨k, rfl⟩ : ∃ j, k = j + 1 := ⟨k - 1, by omega⟩
    unfold visorref18_Same.l2
    rw [decide_eq_false (by omega), cond_false]
  | d + 1, i, k, hi, hk => by
    obtain ⟨k, rfl⟩ : ∃ j, k = j + 1 := ⟨k - 1, by omega⟩
    have hlt : i < t.ops.length := by omega
    have hw : IntKind.i64.wrap ((i : Int) + 1) = ((i + 1 : Nat) : Int) := by rw [wrapI (by omega) (by omega)]; omega
    have ih := Same_ops t hb d (i + 1) k (by omega) (by omega)
    unfold visorref18_Same.l2
    rw [decide_eq_true (by omega), cond_true, if_pos (by omega), Int.toNat_natCast, List.getElem?_eq_getElem hlt, Option.bind_some, if_pos (by omega), Option.bind_some]
    unfold visorref18_Same.j1 visorref18_Same.j2
    cases h4 : t.ops[i].kind == 4
    · simp only [Bool.and_self, cond_false, beq_self_eq_true, Bool.not_true, hw]
      exact ih
    · simp only [Bool.and_self, cond_true, beq_self_eq_true, Bool.not_true, cond_false, hw]
      exact ih
theorem Same_m (t : Tapi_Trace) (ho : t.ops.length ≤ 1048576) (hb : t.blocks.length ≤ 1048576) {k : Nat} (hk : 1048577 ≤ k) : visorref18_Same.m k t t = some true := by
  unfold visorref18_Same.m
  have e1 := Same_blocks t hb t.blocks.length 0 k (by omega) (by omega)
  have e2 := Same_ops t ho t.ops.length 0 k (by omega) (by omega)
  have z2 : ((0 : Nat) : Int) = 0 := rfl
  rw [z2] at e1 e2
  rw [show (((t.n != t.n) || ((t.ops.length : Int) != (t.ops.length : Int))) || ((t.blocks.length : Int) != (t.blocks.length : Int))) = false by simp, cond_false, e1, Option.bind_some]
  dsimp only
  rw [e2, Option.bind_some]

theorem words_l (v : List Int) (hb : v.length ≤ 1048576) : ∀ (d i k : Nat), i + d = v.length → d < k → visorlaw19_words.l1 v v k (i : Int) = some (.inr ())
  | 0, i, k, hi, hk => by
    obtain ⟨k, rfl⟩ : ∃ j, k = j + 1 := ⟨k - 1, by omega⟩
    unfold visorlaw19_words.l1
    rw [decide_eq_false (by omega), cond_false]
  | d + 1, i, k, hi, hk => by
    obtain ⟨k, rfl⟩ : ∃ j, k = j + 1 := ⟨k - 1, by omega⟩
    have hlt : i < v.length := by omega
    have hw : IntKind.i64.wrap ((i : Int) + 1) = ((i + 1 : Nat) : Int) := by rw [wrapI (by omega) (by omega)]; omega
    have ih := words_l v hb d (i + 1) k (by omega) (by omega)
    unfold visorlaw19_words.l1
    rw [decide_eq_true (by omega), cond_true, if_pos (by omega), Int.toNat_natCast, List.getElem?_eq_getElem hlt, Option.bind_some, if_pos (by omega), Option.bind_some, bne_self_eq_false, cond_false, hw]
    exact ih
theorem words_m (v : List Int) (hb : v.length ≤ 1048576) {k : Nat} (hk : 1048577 ≤ k) : visorlaw19_words.m k v v = some true := by
  unfold visorlaw19_words.m
  have e1 := words_l v hb v.length 0 k (by omega) (by omega)
  rw [show ((0 : Nat) : Int) = 0 from rfl] at e1
  rw [show ((v.length : Int) != (v.length : Int)) = false by simp, cond_false, e1, Option.bind_some]

/-! WirePlays: the document's machine goes along, wet and dry. -/
structure RelD (c : Nat) (m : Twire_Machine) (X : Tvisorref19_M) : Prop where
  n : X.n = m.n
  words : X.words = m.words
  draws : X.draws = m.draws
  fromF : X.fromF = m.fromF
  kind : X.kind = m.openF
  e : X.e = m.bad
  dry : X.dry = true
  len : X.skip + (X.ops.length : Int) = m.base
  skip : 0 ≤ X.skip
  val : X.val.length = X.ops.length
  wval : ∀ x ∈ X.val, IsW x
  ops : X.ops.length ≤ c
  blocks : X.blocks.length ≤ c
  none : m.blocks = []
  base : m.base ≤ 1048576 + (c : Int)
def Rel (c : Nat) (m : Twire_Machine) (X : Tvisorref19_M) : Prop := MOk m ∧ ((m.dry = false ∧ X = absM m ∧ m.blocks.length ≤ c) ∨ (m.dry = true ∧ RelD c m X))
theorem RelD.more {c : Nat} {m : Twire_Machine} {X : Tvisorref19_M} (h : RelD c m X) : RelD (c + 1) m X :=
  ⟨h.n, h.words, h.draws, h.fromF, h.kind, h.e, h.dry, h.len, h.skip, h.val, h.wval, by have := h.ops; omega, by have := h.blocks; omega, h.none, by have := h.base; omega⟩
theorem Rel.more {c : Nat} {m : Twire_Machine} {X : Tvisorref19_M} (h : Rel c m X) : Rel (c + 1) m X := by
  obtain ⟨h0, ⟨h1, h2, h3⟩ | ⟨h1, h2⟩⟩ := h
  · exact ⟨h0, .inl ⟨h1, h2, by omega⟩⟩
  · exact ⟨h0, .inr ⟨h1, h2.more⟩⟩
theorem RelD.len' {c : Nat} {m : Twire_Machine} {X : Tvisorref19_M} (h : RelD c m X) (hm : MOk m) (hd : m.dry = true) (k : Nat) (hc : c ≤ 1000) : visorref19_M_Len.m k X = some m.len := by
  have h1 := h.len; have h2 := h.base; have h3 := h.skip; have h4 := hm.dryV hd
  unfold visorref19_M_Len.m Twire_Machine.len
  rw [h4, wrapI (by omega) (by omega), h1]; simp
theorem failM_eqD {c : Nat} {m : Twire_Machine} {X : Tvisorref19_M} (h : RelD c m X) (e : Int) : RelD c (failM m e).2 ⟨X.n, X.most, X.words, X.draws, X.fromF, X.skip, X.kind, e, X.ops, X.blocks, X.val, X.tape, X.dry⟩ :=
  ⟨h.n, h.words, h.draws, h.fromF, h.kind, rfl, h.dry, h.len, h.skip, h.val, h.wval, h.ops, h.blocks, h.none, h.base⟩
theorem rDoD {k : Nat} (hk : 65 ≤ k) {c : Nat} (hc1 : c ≤ 1000) {m : Twire_Machine} {X : Tvisorref19_M} (hm : MOk m) (hd : m.dry = true) (h : RelD c m X) (o : Tapi_Op) (x : Int) (hc : IsW o.c) (hx : IsW x) :
    ∃ X', visorref19_M_Do.m k X o x = some ((doM m o x).1, X') ∧ RelD (c + 1) (doM m o x).2 X' ∧ (0 ≤ (doM m o x).1 → (doM m o x).1 = m.base) := by
  obtain ⟨j, rfl⟩ : ∃ j, k = j + 4 := ⟨k - 4, by omega⟩
  have hw := hm.words; have hdr := hm.draws; have hb := hm.base; have h1 := h.len; have h2 := h.base; have h3 := h.skip; have h4 := hm.dryV hd; have h5 := h.ops
  rw [h4] at hw hdr
  simp only [List.length_nil] at hw hdr
  unfold visorref19_M_Do.m doM
  rw [h.e]
  by_cases b0 : m.bad = 0
  · rw [show (m.bad != 0) = false by simp [b0], cond_false, if_neg (by omega), h.len' hm hd _ hc1, Option.bind_some, h.n, ref_Right_m _ _ _ _ hm.n, Option.bind_some, h.words, wrap_u64_of (by omega) (by omega)]
    have fails : ∀ e : Int, visorref19_M_Fails.m (j + 4) X e = some (-1, ⟨X.n, X.most, X.words, X.draws, X.fromF, X.skip, X.kind, e, X.ops, X.blocks, X.val, X.tape, X.dry⟩) := by
      intro e
      unfold visorref19_M_Fails.m visorref19_M_Fails.j1
      rw [show (X.e == 0) = true by rw [h.e, b0]; rfl, cond_true]
    have six : ∀ w d : Int, visorref19_M_Do.j6 (j + 4) o x ⟨X.n, X.most, w, d, X.fromF, X.skip, X.kind, X.e, X.ops, X.blocks, X.val, X.tape, X.dry⟩ =
        some (m.base, ⟨X.n, X.most, w, d, X.fromF, X.skip, X.kind, X.e, X.ops ++ [o], X.blocks, X.val ++ [evalI o (atI X.val o.a) (atI X.val o.b) (atI X.val o.d) x], X.tape, X.dry⟩) := by
      intro w d
      have hv := h.val
      unfold visorref19_M_Do.j6
      rw [rAt_m, Option.bind_some, rAt_m, Option.bind_some, rAt_m, Option.bind_some]
      dsimp only
      rw [ref_Eval_m _ hk o _ _ _ _ hc (atI_w h.wval _) (atI_w h.wval _) (atI_w h.wval _) hx, Option.bind_some, if_pos (by simp only [List.length_cons, List.length_nil]; omega), if_pos (by simp only [List.length_cons, List.length_nil]; omega)]
      unfold visorref19_M_Len.m
      dsimp only
      rw [List.length_append, List.length_cons, List.length_nil, wrapI (by omega) (by omega), Option.bind_some, wrapI (by omega) (by omega)]
      congr 2; omega
    have good : ∀ X' : Tvisorref19_M, X' = ⟨X.n, X.most, if o.kind = 2 then m.words + 1 else m.words, if o.kind = 1 then m.draws + 1 else m.draws, X.fromF, X.skip, X.kind, X.e, X.ops ++ [o], X.blocks, X.val ++ [evalI o (atI X.val o.a) (atI X.val o.b) (atI X.val o.d) x], X.tape, X.dry⟩ → RelD (c + 1) (pushM m o x).2 X' := by
      intro X' e
      rw [pushM_dry hd, e]
      refine ⟨h.n, rfl, rfl, h.fromF, h.kind, h.e, h.dry, ?_, h.skip, ?_, ?_, ?_, by have := h.blocks; show X.blocks.length ≤ c + 1; omega, h.none, ?_⟩
      · simp only [List.length_append, List.length_cons, List.length_nil]; omega
      · simp only [List.length_append, List.length_cons, List.length_nil]; have := h.val; omega
      · intro y hy
        rcases List.mem_append.1 hy with hy | hy
        · exact h.wval y hy
        · rw [List.mem_singleton.1 hy]; exact evalI_w _ _ _ _ _
      · simp only [List.length_append, List.length_cons, List.length_nil]; omega
      · show m.base + 1 ≤ _; omega
    have push : ∃ X', visorref19_M_Do.j1 (j + 4) X o x false = some ((pushM m o x).1, X') ∧ RelD (c + 1) (pushM m o x).2 X' := by
      refine ⟨_, ?_, good _ rfl⟩
      rw [pushM_dry hd]
      unfold visorref19_M_Do.j1 visorref19_M_Do.j2 visorref19_M_Do.j4 visorref19_M_Do.j5
      rw [cond_false, h.dry, Bool.not_true, cond_false, cond_false, Bool.and_false, cond_false]
      by_cases k1 : o.kind = 1
      · rw [k1, show ((1 : Int) == 1) = true from rfl, cond_true, show ((1 : Int) == 2) = false from rfl, cond_false, h.draws, wrapI (by omega) (by omega), h.words, if_neg (by omega), if_pos rfl, ← h.dry]
        exact six _ _
      · by_cases k2 : o.kind = 2
        · rw [k2, show ((2 : Int) == 1) = false from rfl, cond_false, show ((2 : Int) == 2) = true from rfl, cond_true, h.words, wrapI (by omega) (by omega), if_pos rfl, if_neg (by omega), ← h.draws, ← h.dry]
          exact six _ _
        · rw [beqF k1, beqF k2, cond_false, cond_false, if_neg k1, if_neg k2, ← h.words, ← h.draws, ← h.dry]
          exact six _ _
    have no : ∃ X', visorref19_M_Do.j1 (j + 4) X o x true = some ((failM m 1).1, X') ∧ RelD (c + 1) (failM m 1).2 X' := by
      refine ⟨_, ?_, (failM_eqD h 1).more⟩
      unfold visorref19_M_Do.j1
      rw [cond_true, fails, Option.bind_some]; rfl
    have base : (pushM m o x).1 = m.base := by rw [pushM_dry hd]
    have fin : (0 : Int) ≤ (failM m 1).1 → (failM m 1).1 = m.base := fun h => absurd h (by show ¬ (0 : Int) ≤ -1; omega)
    unfold rightM
    cases hR : Rt o m.len m.n
    · rw [Bool.not_false, cond_true, Bool.false_and, if_pos rfl]
      obtain ⟨X', e1, e2⟩ := no
      exact ⟨X', e1, e2, fin⟩
    · rw [Bool.not_true, cond_false, Bool.true_and]
      have tail : (if m.dry = false ∧ m.most ≤ (m.ops.length : Int) then failM m 3 else if o.kind = 1 ∧ m.dry = false then (if noMask m.tape then failM m 2 else pushM (drawnM m) o (atI m.tape.words m.tape.used.v)) else pushM m o x) = pushM m o x := by
        rw [if_neg (fun h => by rw [hd] at h; cases h.1), if_neg (fun h => by rw [hd] at h; cases h.2)]
      rw [tail]
      obtain ⟨X', e1, e2⟩ := push
      by_cases k2 : o.kind = 2
      · rw [show (o.kind == 2) = true by simp [k2], cond_true, show (o.kind != 2) = false by simp [k2], Bool.false_or]
        by_cases hcw : o.c = m.words
        · rw [show (o.c != m.words) = false by simp [hcw], show (o.c == m.words) = true by simp [hcw], if_neg (by simp)]
          exact ⟨X', e1, e2, fun _ => base⟩
        · rw [show (o.c != m.words) = true by simp [hcw], beqF hcw, if_pos rfl]
          obtain ⟨X', e1, e2⟩ := no
          exact ⟨X', e1, e2, fin⟩
      · rw [beqF k2, cond_false, show (o.kind != 2) = true by simp [k2], Bool.true_or, if_neg (by simp)]
        exact ⟨X', e1, e2, fun _ => base⟩
  · rw [show (m.bad != 0) = true by simp [b0], cond_true, if_pos b0]
    exact ⟨X, rfl, h.more, fun h => absurd h (by omega)⟩
theorem rBeginD {c : Nat} (hc1 : c ≤ 1000) {m : Twire_Machine} {X : Tvisorref19_M} (hm : MOk m) (hd : m.dry = true) (h : RelD c m X) (k : Nat) (kd : Int) : ∃ X', visorref19_M_Begin.m k X kd = some X' ∧ RelD c (beginM m kd) X' := by
  unfold visorref19_M_Begin.m beginM
  rw [h.e, h.kind]
  by_cases b0 : m.bad = 0
  · rw [show (m.bad != 0) = false by simp [b0], cond_false, if_neg (by omega)]
    by_cases cc : m.openF ≠ 0 ∨ kd < 1 ∨ kd > 3
    · have e : ((m.openF != 0) || decide (kd < 1) || decide (kd > 3)) = true := by
        simp only [Bool.or_eq_true, bne_iff_ne, ne_eq, decide_eq_true_eq]; rcases cc with c | c | c <;> simp [c]
      rw [e, cond_true, if_pos cc]
      refine ⟨_, rfl, ?_⟩
      have := failM_eqD h 1
      rw [h.kind] at this; exact this
    · have e : ((m.openF != 0) || decide (kd < 1) || decide (kd > 3)) = false := by
        simp only [Bool.or_eq_false_iff, bne_eq_false_iff_eq, decide_eq_false_iff_not]; omega
      rw [e, cond_false, if_neg cc]
      have hl : visorref19_M_Len.m k (⟨X.n, X.most, X.words, X.draws, X.fromF, X.skip, kd, m.bad, X.ops, X.blocks, X.val, X.tape, X.dry⟩ : Tvisorref19_M) = some m.len := h.len' hm hd k hc1
      rw [hl, Option.bind_some]
      exact ⟨_, rfl, h.n, h.words, h.draws, rfl, rfl, rfl, h.dry, h.len, h.skip, h.val, h.wval, h.ops, h.blocks, h.none, h.base⟩
  · rw [show (m.bad != 0) = true by simp [b0], cond_true, if_pos b0]
    exact ⟨X, rfl, h⟩
theorem rEndD {c : Nat} (hc1 : c ≤ 1000) {m : Twire_Machine} {X : Tvisorref19_M} (hm : MOk m) (hd : m.dry = true) (h : RelD c m X) (k : Nat) : ∃ X', visorref19_M_End.m k X = some X' ∧ RelD (c + 1) (endM m) X' := by
  have hbl := h.blocks
  unfold visorref19_M_End.m endM
  rw [h.e, h.kind]
  by_cases b0 : m.bad = 0
  · rw [show (m.bad != 0) = false by simp [b0], cond_false, if_neg (show ¬ m.bad ≠ 0 by omega)]
    by_cases cc : m.openF = 0
    · rw [show (m.openF == 0) = true by simp [cc], cond_true, if_pos cc]
      refine ⟨_, rfl, ?_⟩
      have := (failM_eqD h 1).more
      rw [h.kind] at this; exact this
    · rw [beqF cc, cond_false, h.len' hm hd k hc1, Option.bind_some, if_neg cc, Option.bind_some, h.fromF]
      unfold visorref19_M_End.j1
      have e : (if m.fromF < m.len ∧ m.dry = false then m.blocks ++ [(⟨m.openF, m.fromF, m.len⟩ : Tapi_Span)] else m.blocks) = [] := by
        rw [if_neg (fun h => by rw [hd] at h; cases h.2)]; exact h.none
      rw [if_pos (by simp only [List.length_cons, List.length_nil]; omega)]
      cases decide (m.len > m.fromF)
      · exact ⟨_, rfl, h.n, h.words, h.draws, h.fromF, rfl, h.e, h.dry, h.len, h.skip, h.val, h.wval, by have := h.ops; show X.ops.length ≤ c + 1; omega, by show X.blocks.length ≤ c + 1; omega, e, by have := h.base; show m.base ≤ _; omega⟩
      · exact ⟨_, rfl, h.n, h.words, h.draws, rfl, rfl, rfl, h.dry, h.len, h.skip, h.val, h.wval, by have := h.ops; show X.ops.length ≤ c + 1; omega, by show (X.blocks ++ [(⟨m.openF, m.fromF, m.len⟩ : Tapi_Span)]).length ≤ c + 1; simp only [List.length_append, List.length_cons, List.length_nil]; omega, e, by have := h.base; show m.base ≤ _; omega⟩
  · rw [show (m.bad != 0) = true by simp [b0], cond_true, if_pos b0]
    exact ⟨X, rfl, h.more⟩
theorem MOk.begin {m : Twire_Machine} (h : MOk m) (kd : Int) : MOk (beginM m kd) := by
  unfold beginM
  repeat' split
  · exact h
  · exact h.fail 1 (by omega)
  · exact ⟨h.n, h.most, h.base, h.words, h.draws, h.ops, h.vals, h.bad, h.wvals, h.wtape, h.used, h.free, h.tlen, h.wet, h.dryV⟩
theorem MOk.fin {m : Twire_Machine} (h : MOk m) : MOk (endM m) := by
  unfold endM
  split
  · exact h
  · split
    · exact h.fail 1 (by omega)
    · exact ⟨h.n, h.most, h.base, h.words, h.draws, h.ops, h.vals, h.bad, h.wvals, h.wtape, h.used, h.free, h.tlen, h.wet, h.dryV⟩
theorem doM_dry (m : Twire_Machine) (o : Tapi_Op) (x : Int) : (doM m o x).2.dry = m.dry ∧ (doM m o x).2.blocks = m.blocks := by
  unfold doM failM pushM
  repeat' split
  all_goals exact ⟨rfl, rfl⟩
theorem beginM_dry (m : Twire_Machine) (kd : Int) : (beginM m kd).dry = m.dry ∧ (beginM m kd).blocks = m.blocks := by
  unfold beginM failM
  repeat' split
  all_goals exact ⟨rfl, rfl⟩
theorem endM_dry (m : Twire_Machine) : (endM m).dry = m.dry ∧ (endM m).blocks.length ≤ m.blocks.length + 1 := by
  unfold endM failM
  split
  · exact ⟨rfl, by omega⟩
  · split
    · exact ⟨rfl, by show m.blocks.length ≤ _; omega⟩
    · refine ⟨rfl, ?_⟩
      dsimp only
      split
      · simp
      · omega

/-- both do an op -/
theorem did_rel {k : Nat} (hk : 65 ≤ k) {c : Nat} (hc1 : c ≤ 1000) {m : Twire_Machine} {X : Tvisorref19_M} (h : Rel c m X) (o : Tapi_Op) (x : Int) (hc : IsW o.c) (hx : IsW x) :
    wire_Machine_Do.m k m o x = some (doM m o x) ∧ ∃ X', visorref19_M_Do.m k X o x = some ((doM m o x).1, X') ∧ Rel (c + 1) (doM m o x).2 X' ∧ X'.dry = m.dry ∧ (m.dry = false → X' = absM (doM m o x).2) := by
  obtain ⟨hm, hr⟩ := h
  have hbase : m.base < 4611686018427387904 := by
    rcases hr with ⟨h1, _⟩ | ⟨_, h2⟩
    · rw [hm.wet h1]; omega
    · have := h2.base; omega
  refine ⟨Do_k (by omega) hm o x hc hx hbase, ?_⟩
  have hm' := hm.did o x hbase
  have hd := doM_dry m o x
  rcases hr with ⟨h1, h2, h3⟩ | ⟨h1, h2⟩
  · subst h2
    exact ⟨absM (doM m o x).2, rDo_k hk hm h1 o x hc hx, ⟨hm', .inl ⟨by rw [hd.1, h1], rfl, by rw [hd.2]; omega⟩⟩, hd.1, fun _ => rfl⟩
  · obtain ⟨X', e1, e2, _⟩ := rDoD hk hc1 hm h1 h2 o x hc hx
    exact ⟨X', e1, ⟨hm', .inr ⟨by rw [hd.1, h1], e2⟩⟩, by rw [e2.dry, h1], fun e => by rw [h1] at e; cases e⟩
theorem Open_k {k : Nat} (hk : 4 ≤ k) {m : Twire_Machine} (h : MOk m) (hb : m.base < 4611686018427387904) (a b d : Int) (r : Int) (m' : Twire_Machine) (hdo : doM m ⟨12, -1, a, b, d, 0⟩ 0 = (r, m')) (hr : 0 ≤ r → m.dry = false → r.toNat < m'.values.length) :
    wire_Machine_Open.m k m a b d = some (if r < 0 then 0 else if m.dry then 18446744073709551615 else atI m'.values r, m') := by
  have hd := (doM_dry m ⟨12, -1, a, b, d, 0⟩ 0).1
  rw [hdo] at hd
  unfold wire_Machine_Open.m
  rw [Do_k hk h _ _ isW_zero isW_zero hb, hdo, Option.bind_some]
  dsimp only at hd ⊢
  by_cases h0 : r < 0
  · rw [decide_eq_true h0, cond_true, if_pos h0]
  · rw [decide_eq_false h0, cond_false, if_neg h0, hd]
    cases hdd : m.dry
    · have hlt := hr (by omega) hdd
      rw [cond_false, if_pos (show 0 ≤ r by omega), List.getElem?_eq_getElem hlt, Option.bind_some, if_neg (show ¬ (false = true) by simp)]
      unfold atI
      rw [if_pos (by omega), List.getD_eq_getElem?_getD, List.getElem?_eq_getElem hlt]; rfl
    · rw [cond_true, if_pos rfl]
theorem doM_reg {m : Twire_Machine} (h : MOk m) (o : Tapi_Op) (x : Int) : 0 ≤ (doM m o x).1 → m.dry = false → (doM m o x).1.toNat < (doM m o x).2.values.length := by
  intro h0 hd
  have hv := h.vals
  revert h0
  unfold doM
  have push : ∀ (m' : Twire_Machine) (y : Int), m'.dry = false → m'.values.length = m'.ops.length → 0 ≤ (pushM m' o y).1 → (pushM m' o y).1.toNat < (pushM m' o y).2.values.length := by
    intro m' y hd' hv' _
    rw [pushM_wet hd']
    simp only [List.length_append, List.length_cons, List.length_nil, Int.toNat_natCast]; omega
  repeat' split
  · intro h0; exact absurd h0 (by show ¬ (0 : Int) ≤ -1; omega)
  · intro h0; exact absurd h0 (by show ¬ (0 : Int) ≤ -1; omega)
  · intro h0; exact absurd h0 (by show ¬ (0 : Int) ≤ -1; omega)
  · intro h0; exact absurd h0 (by show ¬ (0 : Int) ≤ -1; omega)
  · exact push _ _ hd hv
  · exact push _ _ hd hv
theorem does_m {k : Nat} (hk : 65 ≤ k) {c : Nat} (hc1 : c ≤ 1000) {m : Twire_Machine} {X : Tvisorref19_M} (h : Rel c m X) (e : Tvisorlaw19_Act) (hc : IsW e.o.c) (hx : IsW e.x) :
    ∃ m' X', visorlaw19_does.m k m X e = some (true, m', X') ∧ Rel (c + 1) m' X' ∧ m'.dry = m.dry := by
  have one : ∀ (o : Tapi_Op) (x : Int), IsW o.c → IsW x → ∃ X', wire_Machine_Do.m k m o x = some (doM m o x) ∧ visorref19_M_Do.m k X o x = some ((doM m o x).1, X') ∧ Rel (c + 1) (doM m o x).2 X' ∧ (doM m o x).2.dry = m.dry := by
    intro o x h1 h2
    obtain ⟨e1, X', e2, e3, _⟩ := did_rel hk hc1 h o x h1 h2
    exact ⟨X', e1, e2, e3, (doM_dry m o x).1⟩
  have hw := words_w h.1
  have hX : X.words = m.words := by
    rcases h.2 with ⟨_, h2, _⟩ | ⟨_, h2⟩
    · rw [h2]; rfl
    · exact h2.words
  have hwrap : IntKind.u64.wrap m.words = m.words := wrap_u64_of hw.1 (by have := hw.2; omega)
  unfold visorlaw19_does.m
  by_cases k0 : e.kind = 0
  · obtain ⟨X', e1, e2, e3, e4⟩ := one e.o e.x hc hx
    rw [show (e.kind == 0) = true by simp [k0], cond_true, e1, Option.bind_some, e2, Option.bind_some, beq_self_eq_true]
    exact ⟨_, _, rfl, e3, e4⟩
  rw [beqF k0, cond_false]
  by_cases k1 : e.kind = 1
  · obtain ⟨X', e1, e2, e3, e4⟩ := one ⟨1, e.o.dom, -1, -1, -1, 0⟩ 0 isW_zero isW_zero
    rw [show (e.kind == 1) = true by simp [k1], cond_true]
    unfold wire_Machine_Rand.m visorref19_Op.m
    rw [e1, Option.bind_some, Option.bind_some, Option.bind_some, e2, Option.bind_some, beq_self_eq_true]
    exact ⟨_, _, rfl, e3, e4⟩
  rw [beqF k1, cond_false]
  by_cases k2 : e.kind = 2
  · obtain ⟨X', e1, e2, e3, e4⟩ := one ⟨2, 0, e.o.a, e.o.b, -1, m.words⟩ e.x hw hx
    rw [show (e.kind == 2) = true by simp [k2], cond_true, hX, hwrap]
    unfold wire_Machine_Key.m visorref19_Op.m
    rw [next_m _ h.1, Option.bind_some, e1, Option.bind_some, Option.bind_some, Option.bind_some, e2, Option.bind_some, beq_self_eq_true]
    exact ⟨_, _, rfl, e3, e4⟩
  rw [beqF k2, cond_false]
  by_cases k3 : e.kind = 3
  · obtain ⟨X', e1, e2, e3, e4⟩ := one ⟨3, e.o.dom, -1, -1, -1, e.o.c⟩ 0 hc isW_zero
    rw [show (e.kind == 3) = true by simp [k3], cond_true]
    unfold wire_Machine_Const.m visorref19_Op.m
    rw [e1, Option.bind_some, Option.bind_some, Option.bind_some, e2, Option.bind_some, beq_self_eq_true]
    exact ⟨_, _, rfl, e3, e4⟩
  rw [beqF k3, cond_false]
  by_cases k4 : e.kind = 4
  · obtain ⟨X', e1, e2, e3, e4⟩ := one ⟨4, e.o.dom, -1, -1, -1, e.o.c⟩ 0 hc isW_zero
    rw [show (e.kind == 4) = true by simp [k4], cond_true]
    unfold wire_Machine_Told.m visorref19_Op.m
    rw [e1, Option.bind_some, Option.bind_some, Option.bind_some, e2, Option.bind_some, beq_self_eq_true]
    exact ⟨_, _, rfl, e3, e4⟩
  rw [beqF k4, cond_false]
  by_cases k5 : e.kind = 5
  · obtain ⟨X', e1, e2, e3, e4⟩ := one ⟨e.o.kind, e.o.dom, e.o.a, e.o.b, -1, 0⟩ 0 isW_zero isW_zero
    rw [show (e.kind == 5) = true by simp [k5], cond_true]
    unfold wire_Machine_Two.m visorref19_Op.m
    rw [e1, Option.bind_some, Option.bind_some, Option.bind_some, e2, Option.bind_some, beq_self_eq_true]
    exact ⟨_, _, rfl, e3, e4⟩
  rw [beqF k5, cond_false]
  by_cases k6 : e.kind = 6
  · obtain ⟨X', e1, e2, e3, e4⟩ := one ⟨e.o.kind, e.o.dom, e.o.a, -1, -1, e.o.c⟩ 0 hc isW_zero
    rw [show (e.kind == 6) = true by simp [k6], cond_true]
    unfold wire_Machine_One.m visorref19_Op.m
    rw [e1, Option.bind_some, Option.bind_some, Option.bind_some, e2, Option.bind_some, beq_self_eq_true]
    exact ⟨_, _, rfl, e3, e4⟩
  rw [beqF k6, cond_false]
  by_cases k7 : e.kind = 7
  · obtain ⟨e1, X', e2, e3, e4, e5⟩ := did_rel hk hc1 h ⟨12, -1, e.o.a, e.o.b, e.o.d, 0⟩ 0 isW_zero isW_zero
    have hreg := doM_reg h.1 ⟨12, -1, e.o.a, e.o.b, e.o.d, 0⟩ 0
    have hdd := (doM_dry m ⟨12, -1, e.o.a, e.o.b, e.o.d, 0⟩ 0).1
    have hbase : m.base < 4611686018427387904 := by
      rcases h.2 with ⟨h1, _⟩ | ⟨_, h2⟩
      · rw [h.1.wet h1]; omega
      · have := h2.base; omega
    rcases hq : doM m ⟨12, -1, e.o.a, e.o.b, e.o.d, 0⟩ 0 with ⟨r, m'⟩
    rw [hq] at e2 e3 e5 hreg hdd
    dsimp only at e2 e3 e5 hreg hdd
    rw [show (e.kind == 7) = true by simp [k7], cond_true, Open_k (by omega) h.1 hbase _ _ _ r m' hq hreg, Option.bind_some, e2, Option.bind_some]
    dsimp only
    by_cases h0 : r < 0
    · rw [decide_eq_true h0, cond_true, if_pos h0]
      exact ⟨_, _, rfl, e3, hdd⟩
    · rw [decide_eq_false h0, cond_false, if_neg h0, e4]
      unfold visorlaw19_does.j1
      cases hd : m.dry
      · have hlt := hreg (by omega) hd
        have hX' := e5 hd
        rw [Bool.false_and, cond_false, Bool.not_false, cond_true, if_neg (show ¬ (false = true) by simp), if_pos (show 0 ≤ r by omega), show X'.val = m'.values by rw [hX']; rfl, List.getElem?_eq_getElem hlt, Option.bind_some]
        refine ⟨m', X', ?_, e3, by rw [hdd, hd]⟩
        unfold atI
        rw [if_pos (by omega), List.getD_eq_getElem?_getD, List.getElem?_eq_getElem hlt]
        simp
      · rw [if_pos rfl, Bool.true_and, beq_self_eq_true, cond_true]
        exact ⟨m', X', rfl, e3, by rw [hdd, hd]⟩
  rw [beqF k7, cond_false]
  by_cases k8 : e.kind = 8
  · rw [show (e.kind == 8) = true by simp [k8], cond_true, Begin_m _ h.1, Option.bind_some]
    have hb := beginM_dry m e.o.kind
    unfold visorlaw19_does.j2
    rcases h.2 with ⟨h1, h2, h3⟩ | ⟨h1, h2⟩
    · rw [h2, rBegin_m _ h.1 h1, Option.bind_some]
      exact ⟨_, _, rfl, ⟨h.1.begin _, .inl ⟨by rw [hb.1, h1], rfl, by rw [hb.2]; omega⟩⟩, hb.1⟩
    · obtain ⟨X', e1, e2⟩ := rBeginD hc1 h.1 h1 h2 k e.o.kind
      rw [e1, Option.bind_some]
      exact ⟨_, _, rfl, ⟨h.1.begin _, .inr ⟨by rw [hb.1, h1], e2.more⟩⟩, hb.1⟩
  rw [beqF k8, cond_false]
  unfold visorlaw19_does.j2
  by_cases k9 : e.kind = 9
  · have hbl : m.blocks.length ≤ 2097152 := by
      rcases h.2 with ⟨h1, h2, h3⟩ | ⟨h1, h2⟩
      · omega
      · rw [h2.none]; simp
    have hb := endM_dry m
    rw [show (e.kind == 9) = true by simp [k9], cond_true, End_m _ h.1 hbl, Option.bind_some]
    rcases h.2 with ⟨h1, h2, h3⟩ | ⟨h1, h2⟩
    · rw [h2, rEnd_m _ h.1 h1 hbl, Option.bind_some]
      exact ⟨_, _, rfl, ⟨h.1.fin, .inl ⟨by rw [hb.1, h1], rfl, by omega⟩⟩, hb.1⟩
    · obtain ⟨X', e1, e2⟩ := rEndD hc1 h.1 h1 h2 k
      rw [e1, Option.bind_some]
      exact ⟨_, _, rfl, ⟨h.1.fin, .inr ⟨by rw [hb.1, h1], e2⟩⟩, hb.1⟩
  rw [beqF k9, cond_false]
  exact ⟨_, _, rfl, h.more, rfl⟩
theorem same_m {k : Nat} (hk : 1048577 ≤ k) {c : Nat} (hc1 : c ≤ 1000) {m : Twire_Machine} {X : Tvisorref19_M} (h : Rel c m X) : visorlaw19_same.m k m X = some true := by
  obtain ⟨hm, hr⟩ := h
  have ho := hm.ops; have hv := hm.vals
  have hval : wire_Machine_Values.m k m = some m.values := by
    unfold wire_Machine_Values.m slices_Clone_uint64_uint64.m
    rw [if_pos (by simp only [List.length_nil]; omega), Option.bind_some, List.nil_append]
  unfold visorlaw19_same.m wire_Machine_N.m wire_Machine_Draws.m wire_Machine_Err.m
  rw [Option.bind_some]
  rcases hr with ⟨h1, h2, h3⟩ | ⟨h1, h2⟩
  · subst h2
    have htr : wire_Machine_Trace.m k m = some ⟨m.n, m.ops, m.blocks⟩ := by
      unfold wire_Machine_Trace.m slices_Clone_api_Op_api_Op.m slices_Clone_api_Span_api_Span.m
      rw [if_pos (by simp only [List.length_nil]; omega), Option.bind_some, if_pos (by simp only [List.length_nil]; omega), Option.bind_some]; rfl
    rw [show (m.n != (absM m).n) = false by simp [absM], cond_false, Len_m _ hm, Option.bind_some, rLen_m _ hm h1, Option.bind_some, bne_self_eq_false, cond_false, Option.bind_some,
      show (m.draws != (absM m).draws) = false by simp [absM], cond_false, Option.bind_some, show (m.bad != (absM m).e) = false by simp [absM]]
    unfold visorlaw19_same.j1 visorlaw19_same.j3
    rw [cond_false, show (absM m).dry = false from h1, cond_false, hval, Option.bind_some, show (absM m).val = m.values from rfl, words_m _ (by omega) hk, Option.bind_some, cond_true, htr, Option.bind_some]
    show (visorref18_Same.m k ⟨m.n, m.ops, m.blocks⟩ ⟨m.n, m.ops, m.blocks⟩).bind _ = _
    rw [Same_m _ ho (by show m.blocks.length ≤ 1048576; omega) hk, Option.bind_some]
  · have h4 := hm.dryV h1
    have h5 : m.values = [] := List.length_eq_zero_iff.1 (by rw [hv, h4]; rfl)
    have htr : wire_Machine_Trace.m k m = some ⟨m.n, [], []⟩ := by
      unfold wire_Machine_Trace.m slices_Clone_api_Op_api_Op.m slices_Clone_api_Span_api_Span.m
      rw [h4, h2.none]; rfl
    rw [h2.n, bne_self_eq_false, cond_false, Len_m _ hm, Option.bind_some, h2.len' hm h1 k hc1, Option.bind_some, bne_self_eq_false, cond_false, Option.bind_some, h2.draws, bne_self_eq_false, cond_false, Option.bind_some, h2.e, bne_self_eq_false]
    unfold visorlaw19_same.j1 visorlaw19_same.j2
    rw [cond_false, h2.dry, cond_true, hval, Option.bind_some, h5, show ((([] : List Int).length : Int) == 0) = true from rfl, cond_true, htr, Option.bind_some, h2.n, Same_m _ (by show 0 ≤ _; omega) (by show 0 ≤ _; omega) hk, Option.bind_some]
theorem goes_dry {c : Nat} (hc1 : c ≤ 1000) {m : Twire_Machine} {X : Tvisorref19_M} (h : Rel c m X) (hd : X.dry = false) (k : Nat) :
    ∃ m' l, wire_Machine_Dry.m k m = some m' ∧ visorref19_M_Len.m k X = some l ∧ Rel (c + 1) m' ⟨X.n, 0, X.words, 0, 0, l, 0, 0, [], [], [], ⟨[], 0, 0⟩, true⟩ := by
  obtain ⟨hm, ⟨h1, h2, h3⟩ | ⟨h1, h2⟩⟩ := h
  · subst h2
    have ho := hm.ops; have hw := hm.words; have hb := hm.wet h1
    have hlen : m.len = (m.ops.length : Int) := by unfold Twire_Machine.len; omega
    unfold wire_Machine_Dry.m
    rw [Len_m _ hm, Option.bind_some]
    refine ⟨_, _, rfl, rLen_m k hm h1, ⟨hm.n, by show (0 : Int) ≤ _; omega, ⟨by show 0 ≤ m.len; omega, by show m.len ≤ _; omega⟩, ⟨hw.1, ?_⟩, ⟨Int.le_refl 0, ?_⟩, by show 0 ≤ _; omega, rfl, ⟨Int.le_refl 0, by show (0 : Int) ≤ 3; omega⟩, fun _ h => (by cases h), fun _ h => (by cases h), ⟨Int.le_refl 0, Int.le_refl 0⟩, Int.le_refl 0, by show (0 : Int) ≤ _; omega, fun h => (by cases h), fun _ => rfl⟩, .inr ⟨rfl, rfl, rfl, rfl, rfl, rfl, rfl, rfl, ?_, ?_, rfl, fun _ h => (by cases h), by show 0 ≤ _; omega, by show 0 ≤ _; omega, rfl, ?_⟩⟩
    · show m.words ≤ m.len + 0; omega
    · show (0 : Int) ≤ m.len + 0; omega
    · show m.len + 0 = m.len; omega
    · show 0 ≤ m.len; omega
    · show m.len ≤ _; omega
  · rw [h2.dry] at hd; cases hd
theorem plays_all (x3 : List Tvisorlaw19_Act) (hx : ∀ e ∈ x3, IsW e.o.c ∧ IsW e.x) : ∀ (d k i : Nat) (m : Twire_Machine) (X : Tvisorref19_M), Rel (2 * i) m X → i + d = min x3.length 150 → d + 1048600 ≤ k →
    visorlaw19_WirePlays.l1 x3 k m X (i : Int) = some (.inr ())
  | 0, k, i, m, X, h, hi, hk => by
    obtain ⟨k, rfl⟩ : ∃ j, k = j + 1 := ⟨k - 1, by omega⟩
    unfold visorlaw19_WirePlays.l1
    rw [show (decide ((i : Int) < ((x3.length : Nat) : Int)) && decide ((i : Int) < 150)) = false by
      rw [Bool.and_eq_false_iff, decide_eq_false_iff_not, decide_eq_false_iff_not]; omega, cond_false]
  | d + 1, k, i, m, X, h, hi, hk => by
    obtain ⟨k, rfl⟩ : ∃ j, k = j + 1 := ⟨k - 1, by omega⟩
    obtain ⟨e, he⟩ := getElem_some (l := x3) (i := i) (by omega)
    have hm := hx e (List.mem_of_getElem? he)
    have hw : IntKind.i64.wrap ((i : Int) + 1) = ((i + 1 : Nat) : Int) := by rw [wrapI (by omega) (by omega)]; omega
    have step : ∀ (m1 : Twire_Machine) (X1 : Tvisorref19_M), Rel (2 * i + 1) m1 X1 → visorlaw19_WirePlays.j3 k (visorlaw19_WirePlays.l1 x3 k) x3 (i : Int) m1 X1 = some (.inr ()) := by
      intro m1 X1 h1
      obtain ⟨m2, X2, e1, e2, _⟩ := does_m (k := k) (by omega) (by omega) h1 e hm.1 hm.2
      unfold visorlaw19_WirePlays.j3
      rw [if_pos (by omega), Int.toNat_natCast, he, Option.bind_some, e1, Option.bind_some]
      dsimp only
      rw [Bool.not_true, cond_false, same_m (by omega) (by omega) e2, Option.bind_some, Bool.not_true, cond_false, hw]
      exact plays_all x3 hx d k (i + 1) m2 X2 e2 (by omega) (by omega)
    unfold visorlaw19_WirePlays.l1
    rw [show (decide ((i : Int) < ((x3.length : Nat) : Int)) && decide ((i : Int) < 150)) = true by simp; omega, cond_true, if_pos (by omega), Int.toNat_natCast, he, Option.bind_some]
    by_cases c : e.kind = 10 ∧ X.dry = false
    · rw [show ((e.kind == 10) && !X.dry) = true by simp [c.1, c.2], cond_true]
      obtain ⟨m', l, e1, e2, e3⟩ := goes_dry (by omega) h c.2 k
      rw [e1, Option.bind_some, e2, Option.bind_some]
      exact step _ _ e3
    · rw [show ((e.kind == 10) && !X.dry) = false by
        rw [Bool.and_eq_false_iff, beq_eq_false_iff_ne, Bool.not_eq_false']
        by_cases c1 : e.kind = 10
        · right; cases hX : X.dry
          · exact absurd ⟨c1, hX⟩ c
          · rfl
        · exact .inl c1, cond_false]
      exact step m X h.more
def T40 : List Int := (visorlaw19_tapeWords.m 70 40).getD []
theorem T40_m (k : Nat) : visorlaw19_tapeWords.m (k + 70) 40 = some T40 := by kernel_rfl
theorem T40_k {k : Nat} (hk : 70 ≤ k) : visorlaw19_tapeWords.m k 40 = some T40 := by
  obtain ⟨j, rfl⟩ : ∃ j, k = j + 70 := ⟨k - 70, by omega⟩
  exact T40_m j
theorem T40_len : T40.length = 40 := by kernel_rfl
theorem all_isW' : ∀ {l : List Int}, (l.all fun x => decide (0 ≤ x) && decide (x ≤ 18446744073709551615)) = true → ∀ x ∈ l, IsW x := by
  intro l h x hx
  have := List.all_eq_true.1 h x hx
  simpa [IsW] using this
theorem T40_w : ∀ x ∈ T40, IsW x := all_isW' (by kernel_rfl)
theorem awake19_m (k : Nat) : visorlaw19_awake.m (k + 20) = some true := by kernel_rfl
theorem awake19_k {k : Nat} (hk : 20 ≤ k) : visorlaw19_awake.m k = some true := by
  obtain ⟨j, rfl⟩ : ∃ j, k = j + 20 := ⟨k - 20, by omega⟩
  exact awake19_m j
theorem WirePlays_pure (x0 : Int) (x1 : Int) (x2 : Int) (x3 : List Tvisorlaw19_Act) (b0 : IntKind.i64.min ≤ x0 ∧ x0 ≤ IntKind.i64.max) (b1 : IntKind.i64.min ≤ x1 ∧ x1 ≤ IntKind.i64.max) (b2 : IntKind.i64.min ≤ x2 ∧ x2 ≤ IntKind.i64.max) (b3 : ∀ x ∈ x3, x.ok) (n3 : x3.length ≤ maxLen) : ∃ k, visorlaw19_WirePlays.m k x0 x1 x2 x3 = some true := by
  have hx : ∀ e ∈ x3, IsW e.o.c ∧ IsW e.x := fun e he => by
    have := b3 e he
    unfold Tvisorlaw19_Act.ok at this
    obtain ⟨_, _, _, _, _, _, h7, h8, _⟩ := this
    rw [min_u64, max_u64] at h7 h8
    exact ⟨h7, h8⟩
  refine ⟨1049000, ?_⟩
  generalize hK : (1049000 : Nat) = K
  have htape : tape_New.m K T40 = some ⟨T40, ⟨0⟩, 0⟩ := by
    unfold tape_New.m slices_Clone_uint64_uint64.m
    rw [if_pos (by rw [T40_len]; decide), Option.bind_some]; rfl
  have hres : tape_Tape_Reserve.m K ⟨T40, ⟨0⟩, 0⟩ x2 = some (if 0 ≤ x2 ∧ x2 ≤ 40 then (0, ⟨T40, ⟨0⟩, x2⟩) else (if x2 < 0 then 1 else 2, ⟨T40, ⟨0⟩, 0⟩)) := by
    unfold tape_Tape_Reserve.m tape_Tape_Left.m tape_Tape_Used.m
    have e : IntKind.i64.wrap (((T40.length : Nat) : Int) - 0) = 40 := by rw [T40_len]; decide
    by_cases h0 : x2 < 0
    · rw [decide_eq_true h0, cond_true, if_neg (by omega), if_pos h0]
    · rw [decide_eq_false h0, cond_false, Option.bind_some, Option.bind_some, e]
      by_cases h1 : x2 > 40
      · rw [decide_eq_true h1, cond_true, if_neg (by omega), if_neg h0]
      · rw [decide_eq_false h1, cond_false, if_pos (by omega)]
  have start : ∀ f : Int, 0 ≤ f ∧ f ≤ 40 → (x0 = 2 ∨ x0 = 3) → (0 ≤ x1 ∧ x1 ≤ 1048576) → visorlaw19_WirePlays.j2 K x3 (⟨x0, x1, 0, 0, 0, false, 0, 0, 0, ⟨T40, ⟨0⟩, f⟩, [], [], []⟩, 0) ⟨x0, x1, 0, 0, 0, 0, 0, 0, [], [], [], ⟨T40, 0, f⟩, false⟩ = some true := by
    intro f hf hn hm
    have h40 : T40.length = 40 := T40_len
    unfold visorlaw19_WirePlays.j2
    have hrel : Rel (2 * 0) (⟨x0, x1, 0, 0, 0, false, 0, 0, 0, ⟨T40, ⟨0⟩, f⟩, [], [], []⟩ : Twire_Machine) ⟨x0, x1, 0, 0, 0, 0, 0, 0, [], [], [], ⟨T40, 0, f⟩, false⟩ := by
      refine ⟨⟨hn, hm.2, ⟨Int.le_refl 0, by show (0 : Int) ≤ _; omega⟩, ⟨Int.le_refl 0, Int.le_refl 0⟩, ⟨Int.le_refl 0, Int.le_refl 0⟩, by show 0 ≤ _; omega, rfl, ⟨Int.le_refl 0, by show (0 : Int) ≤ 3; omega⟩, fun _ h => (by cases h), T40_w, ⟨Int.le_refl 0, ?_⟩, ?_, ?_, fun _ => rfl, fun h => (by cases h)⟩, .inl ⟨rfl, rfl, by show 0 ≤ _; omega⟩⟩
      · show (0 : Int) ≤ (T40.length : Int); omega
      · show f ≤ (T40.length : Int); omega
      · show (T40.length : Int) ≤ _; omega
    have hl := plays_all x3 hx (min x3.length 150) K 0 _ _ hrel (by omega) (by omega)
    rw [show ((0 : Nat) : Int) = 0 from rfl] at hl
    rw [hl, Option.bind_some]
    dsimp only
    rw [awake19_k (by omega), Option.bind_some]
  unfold visorlaw19_WirePlays.m
  rw [T40_k (by omega), Option.bind_some, htape, Option.bind_some, hres, Option.bind_some]
  have hbool : ((((if 0 ≤ x2 ∧ x2 ≤ 40 then ((0 : Int), (⟨T40, ⟨0⟩, x2⟩ : Ttape_Tape)) else (if x2 < 0 then 1 else 2, ⟨T40, ⟨0⟩, 0⟩)).1 == 0) == (decide (x2 ≥ 0) && decide (x2 ≤ 40)))) = true := by
    by_cases h : 0 ≤ x2 ∧ x2 ≤ 40
    · rw [if_pos h, decide_eq_true (show x2 ≥ 0 from h.1), decide_eq_true h.2]; rfl
    · rw [if_neg h]
      have : (decide (x2 ≥ 0) && decide (x2 ≤ 40)) = false := by rw [← Bool.not_eq_true, Bool.and_eq_true, decide_eq_true_eq, decide_eq_true_eq]; exact h
      rw [this]
      dsimp only
      split <;> rfl
  rw [hbool, Bool.not_true, cond_false]
  unfold wire_New.m
  by_cases hbad : (((x0 != 2) && (x0 != 3)) || decide (x1 < 0) || decide (x1 > 1048576)) = true
  · rw [hbad, cond_true, Option.bind_some]
    dsimp only
    rw [cond_true]
    unfold visorlaw19_WirePlays.j1
    rw [show ((1 : Int) == 1) = true from rfl, cond_true, awake19_k (by omega), Option.bind_some]
  · rw [Bool.not_eq_true] at hbad
    rw [hbad, cond_false, Option.bind_some]
    dsimp only
    have hn : x0 = 2 ∨ x0 = 3 := by
      simp only [Bool.or_eq_false_iff, Bool.and_eq_false_iff, bne_eq_false_iff_eq, decide_eq_false_iff_not] at hbad; exact hbad.1.1
    have hm : 0 ≤ x1 ∧ x1 ≤ 1048576 := by
      simp only [Bool.or_eq_false_iff, Bool.and_eq_false_iff, bne_eq_false_iff_eq, decide_eq_false_iff_not] at hbad; omega
    unfold visorref19_New.m
    rw [cond_false, show ((0 : Int) != 0) = false from rfl, cond_false, Option.bind_some, Option.bind_some]
    dsimp only
    by_cases h : 0 ≤ x2 ∧ x2 ≤ 40
    · rw [if_pos h, show (decide (x2 ≥ 0) && decide (x2 ≤ 40)) = true by simp; omega, cond_true]
      exact start x2 h hn hm
    · rw [if_neg h, show (decide (x2 ≥ 0) && decide (x2 ≤ 40)) = false by rw [← Bool.not_eq_true, Bool.and_eq_true, decide_eq_true_eq, decide_eq_true_eq]; exact h, cond_false]
      exact start 0 (by omega) hn hm

end Go.Proofs.Ytjjdlidjlepgeaa
