/- The plain law behind SlicePlays: its model answers true for all data that fit; no condition beyond their kinds. -/
import Derived.Test.YtflgefjocjpjaaaGreatMSlicePlays3
namespace Go.Proofs.YtflgefjocjpjaaaGreat
open Go Go.Vk
set_option linter.unusedVariables false

/-! What an op makes: both programs' Eval is one function of words. -/
def evalW (kind : Int) (c a b d x : BitVec 64) : BitVec 64 :=
  if kind = 1 then x else if kind = 2 then x ^^^ a ^^^ b else if kind = 3 then c else if kind = 4 then c else if kind = 5 then a ^^^ b else if kind = 6 then ~~~a
  else if kind = 7 then a &&& b else if kind = 8 then a &&& c else if kind = 9 then a <<< (c.toNat % 64) else if kind = 10 then a >>> (c.toNat % 64)
  else if kind = 11 then a.rotateLeft (c.toNat % 64) else if kind = 12 then a ^^^ b ^^^ d else 0#64
theorem rot63 (x : BitVec 64) (n : Nat) (h : n < 64) : x <<< n ||| x >>> (64 - n) = x.rotateLeft n := by
  rw [BitVec.rotateLeft_def, Nat.mod_eq_of_lt h]
theorem octet_Rot_m (k : Nat) (x : BitVec 64) (n : Nat) (h : n < 64) : octet_Rot.m k (u x) (n : Int) = some (u (x.rotateLeft n)) := by
  have hb : band .i64 (n : Int) 63 = (n : Int) := by
    have : ∀ m : Fin 64, band .i64 ((m : Nat) : Int) 63 = ((m : Nat) : Int) := by decide
    exact this ⟨n, h⟩
  unfold octet_Rot.m
  rw [hb, if_pos (by omega), wrap_i64_of (by omega) (by omega), if_pos (by omega), shl_u _ (by omega), shr_u _ (by omega), bor_u]
  congr 2
  rw [← rot63 x n h]
  have e : ((64 : Int) - (n : Int)).toNat = 64 - n := by omega
  rw [e]; rfl
theorem rot1 (x : BitVec 64) : IntKind.u64.wrap (IntKind.u64.wrap (u x * 2) + IntKind.u64.wrap (Int.tdiv (u x) 9223372036854775808)) = u (x.rotateLeft 1) := by
  have h := x.isLt
  have hd : Int.tdiv (u x) 9223372036854775808 = ((x.toNat / 9223372036854775808 : Nat) : Int) := rfl
  rw [hd, wrap_u64, wrap_u64, wrap_u64]
  have e : (x.rotateLeft 1).toNat = (x.toNat * 2) % 18446744073709551616 + x.toNat / 9223372036854775808 := by
    rw [BitVec.rotateLeft_def]
    have h1 : (x <<< (1 % 64)) &&& (x >>> (64 - 1 % 64)) = 0#64 := by
      apply BitVec.eq_of_getLsbD_eq
      intro i hi
      simp only [BitVec.getLsbD_and, BitVec.getLsbD_shiftLeft, BitVec.getLsbD_ushiftRight, BitVec.getLsbD_zero]
      by_cases h0 : i = 0
      · subst h0; simp
      · have : x.getLsbD (64 - 1 % 64 + i) = false := BitVec.getLsbD_of_ge _ _ (by omega)
        simp [this]
    rw [← BitVec.add_eq_or_of_and_eq_zero _ _ h1, BitVec.toNat_add]
    simp only [BitVec.toNat_shiftLeft, BitVec.toNat_ushiftRight, Nat.shiftLeft_eq, Nat.shiftRight_eq_div_pow, show 1 % 64 = 1 from rfl, show 64 - 1 = 63 from rfl, show 2 ^ 63 = 9223372036854775808 from rfl, show 2 ^ 1 = 2 from rfl]
    omega
  simp only [u, e]
  omega
theorem rotateLeft_zero' (x : BitVec 64) : x.rotateLeft 0 = x := by
  apply BitVec.eq_of_getLsbD_eq
  intro i hi
  rw [BitVec.getLsbD_rotateLeft]; simp [hi]
theorem rotateLeft_add (x : BitVec 64) (a b : Nat) : (x.rotateLeft a).rotateLeft b = x.rotateLeft (a + b) := by
  apply BitVec.eq_of_getLsbD_eq
  intro i hi
  simp only [BitVec.getLsbD_rotateLeft]
  have ha := Nat.mod_lt a (show 0 < 64 by omega)
  have hb := Nat.mod_lt b (show 0 < 64 by omega)
  by_cases h1 : i < b % 64
  · by_cases h2 : i < (a + b) % 64
    · simp only [h1, h2, cond_true, decide_true]
      by_cases h3 : 64 - b % 64 + i < a % 64
      · simp only [h3, decide_true, cond_true]; congr 1; omega
      · simp only [h3, decide_false, cond_false]; rw [decide_eq_true (by omega), Bool.true_and]; congr 1; omega
    · simp only [h1, h2, decide_true, decide_false, cond_true, cond_false, hi, Bool.true_and]
      by_cases h3 : 64 - b % 64 + i < a % 64
      · omega
      · simp only [h3, decide_false, cond_false]; rw [decide_eq_true (by omega), Bool.true_and]; congr 1; omega
  · by_cases h2 : i < (a + b) % 64
    · simp only [h1, h2, decide_true, decide_false, cond_true, cond_false, hi, Bool.true_and]
      by_cases h3 : i - b % 64 < a % 64
      · simp only [h3, decide_true, cond_true]; congr 1; omega
      · omega
    · simp only [h1, h2, decide_false, cond_false, hi, decide_true, Bool.true_and]
      by_cases h3 : i - b % 64 < a % 64
      · simp only [h3, decide_true, cond_true]; congr 1; omega
      · simp only [h3, decide_false, cond_false]; rw [decide_eq_true (by omega), Bool.true_and]; congr 1; omega
theorem mod64 (k : Nat) (n : Nat) : visorref01_Mod.m k (n : Int) 64 = some ((n % 64 : Nat) : Int) := by
  unfold visorref01_Mod.m
  rw [if_pos (by omega)]
  have e : Int.tmod (n : Int) 64 = ((n % 64 : Nat) : Int) := rfl
  rw [e]
  have : decide (((n % 64 : Nat) : Int) < 0) = false := decide_eq_false (by omega)
  rw [this]; simp
theorem ref_Rot_l (n : Nat) : ∀ (d k i : Nat) (x : BitVec 64), n % 64 = i + d → d < k → visorref01_Rot.l1 (n : Int) k (u x) (i : Int) = some (u (x.rotateLeft d)) := by
  intro d
  induction d with
  | zero =>
    intro k i x hi hk
    obtain ⟨k, rfl⟩ : ∃ m, k = m + 1 := ⟨k - 1, by omega⟩
    rw [visorref01_Rot.l1, mod64]
    simp only [Option.bind_some]
    rw [decide_eq_false (by omega)]
    simp [rotateLeft_zero']
  | succ d ih =>
    intro k i x hi hk
    obtain ⟨k, rfl⟩ : ∃ m, k = m + 1 := ⟨k - 1, by omega⟩
    rw [visorref01_Rot.l1, mod64]
    simp only [Option.bind_some]
    rw [decide_eq_true (by omega), rot1, wrap_i64_of (by omega) (by omega)]
    simp only [cond_true]
    have := ih k (i + 1) (x.rotateLeft 1) (by omega) (by omega)
    rw [show ((i : Int) + 1) = ((i + 1 : Nat) : Int) by omega, this, rotateLeft_add, Nat.add_comm 1 d]
theorem ref_Rot_m (k : Nat) (hk : 65 ≤ k) (x : BitVec 64) (n : Nat) : visorref01_Rot.m k (u x) (n : Int) = some (u (x.rotateLeft (n % 64))) := by
  unfold visorref01_Rot.m
  have h := ref_Rot_l n (n % 64) k 0 x (by omega) (by omega)
  rw [show ((0 : Nat) : Int) = 0 from rfl] at h
  rw [h]; rfl
def lowW (n : Nat) : BitVec 64 := BitVec.ofNat 64 (2 ^ n - 1)
theorem ref_Low_l (n : Nat) : ∀ (d k i : Nat), min n 64 = i + d → d < k → visorref01_Low.l1 (n : Int) k (u (lowW i)) (i : Int) = some (u (lowW (min n 64))) := by
  intro d
  induction d with
  | zero =>
    intro k i hi hk
    obtain ⟨k, rfl⟩ : ∃ m, k = m + 1 := ⟨k - 1, by omega⟩
    rw [visorref01_Low.l1]
    have : (decide ((i : Int) < (n : Int)) && decide ((i : Int) < 64)) = false := by
      rw [Bool.and_eq_false_iff]; simp only [decide_eq_false_iff_not]; omega
    rw [this]; simp only [cond_false]
    rw [show min n 64 = i by omega]
  | succ d ih =>
    intro k i hi hk
    obtain ⟨k, rfl⟩ : ∃ m, k = m + 1 := ⟨k - 1, by omega⟩
    rw [visorref01_Low.l1]
    have : (decide ((i : Int) < (n : Int)) && decide ((i : Int) < 64)) = true := by
      rw [Bool.and_eq_true]; simp only [decide_eq_true_eq]; omega
    rw [this, wrap_i64_of (by omega) (by omega)]
    simp only [cond_true]
    have e : IntKind.u64.wrap (IntKind.u64.wrap (u (lowW i) * 2) + 1) = u (lowW (i + 1)) := by
      rw [wrap_u64, wrap_u64]
      simp only [u, lowW, BitVec.toNat_ofNat, Nat.pow_succ]
      have hp : 0 < 2 ^ i := Nat.two_pow_pos i
      omega
    rw [e]
    have := ih k (i + 1) (by omega) (by omega)
    rw [show ((i : Int) + 1) = ((i + 1 : Nat) : Int) by omega, this]
theorem ref_Low_m (k : Nat) (hk : 65 ≤ k) (n : Nat) : visorref01_Low.m k (n : Int) = some (u (lowW (min n 64))) := by
  unfold visorref01_Low.m
  have h := ref_Low_l n (min n 64) k 0 (by omega) (by omega)
  rw [show u (lowW 0) = 0 by decide, show ((0 : Nat) : Int) = 0 from rfl] at h
  rw [h]; rfl
theorem lowW_get (n i : Nat) (h : n ≤ 64) (hi : i < 64) : (lowW n).getLsbD i = decide (i < n) := by
  unfold lowW
  rw [BitVec.getLsbD_ofNat]
  simp [hi, Nat.testBit_two_pow_sub_one]
theorem shl_as (a : BitVec 64) (n : Nat) (h : n < 64) : (a &&& lowW (min (64 - n) 64)).rotateLeft (n % 64) = a <<< n := by
  apply BitVec.eq_of_getLsbD_eq
  intro i hi
  rw [BitVec.getLsbD_rotateLeft, Nat.mod_mod, Nat.mod_eq_of_lt h, BitVec.getLsbD_shiftLeft]
  by_cases h1 : i < n
  · simp only [h1, decide_true, cond_true, Bool.not_true, Bool.and_false, Bool.false_and, BitVec.getLsbD_and]
    rw [lowW_get _ _ (by omega) (by omega), decide_eq_false (by omega)]; simp
  · simp only [h1, decide_false, cond_false, hi, decide_true, Bool.not_false, Bool.true_and, BitVec.getLsbD_and]
    rw [lowW_get _ _ (by omega) (by omega), decide_eq_true (by omega)]; simp
theorem shr_as (a : BitVec 64) (n : Nat) (h : n < 64) : a.rotateLeft ((64 - n) % 64) &&& lowW (min (64 - n) 64) = a >>> n := by
  apply BitVec.eq_of_getLsbD_eq
  intro i hi
  rw [BitVec.getLsbD_and, BitVec.getLsbD_rotateLeft, Nat.mod_mod, BitVec.getLsbD_ushiftRight, lowW_get _ _ (by omega) hi]
  by_cases h1 : i < 64 - n
  · rw [decide_eq_true (show i < min (64 - n) 64 by omega), Bool.and_true]
    by_cases h0 : n = 0
    · subst h0; simp [hi]
    · have e : (64 - n) % 64 = 64 - n := by omega
      rw [e]
      simp only [h1, decide_true, cond_true]
      congr 1; omega
  · rw [decide_eq_false (show ¬ i < min (64 - n) 64 by omega), Bool.and_false]
    rw [BitVec.getLsbD_of_ge _ _ (by omega)]
/-- a word, as a number -/
def IsW (x : Int) : Prop := 0 ≤ x ∧ x ≤ 18446744073709551615
theorem IsW.u {x : Int} (h : IsW x) : ∃ b, x = Go.Vk.u b := exists_u h.1 h.2
theorem isW_u (b : BitVec 64) : IsW (Go.Vk.u b) := u_le b
theorem isW_zero : IsW 0 := ⟨by omega, by omega⟩
/-- what an op makes of numbers -/
def evalI (o : Tapi_Op) (a b d x : Int) : Int := u (evalW o.kind (BitVec.ofInt 64 o.c) (BitVec.ofInt 64 a) (BitVec.ofInt 64 b) (BitVec.ofInt 64 d) (BitVec.ofInt 64 x))
theorem evalI_w (o : Tapi_Op) (a b d x : Int) : IsW (evalI o a b d x) := isW_u _
theorem evalI_u (kind dom r s t : Int) (c a b d x : BitVec 64) : evalI ⟨kind, dom, r, s, t, u c⟩ (u a) (u b) (u d) (u x) = u (evalW kind c a b d x) := by
  unfold evalI; simp only [ofInt_u]
theorem op_Eval_w (k : Nat) (kind dom r s t : Int) (c a b d x : BitVec 64) : op_Eval.m k ⟨kind, dom, r, s, t, u c⟩ (u a) (u b) (u d) (u x) = some (u (evalW kind c a b d x)) := by
  have hm : Int.tmod (u c) 64 = ((c.toNat % 64 : Nat) : Int) := rfl
  have hlt : c.toNat % 64 < 64 := Nat.mod_lt _ (by omega)
  unfold op_Eval.m op_Eval.j1 evalW
  simp only [hm, bxor_u, bnot_u, band_u]
  rw [if_pos (show (0 : Int) ≤ ((c.toNat % 64 : Nat) : Int) by omega), wrap_i64_of (by omega) (by omega), octet_Rot_m k a _ hlt, shl_u _ (by omega), shr_u _ (by omega)]
  simp only [Option.bind_some, Int.toNat_natCast, if_pos (show (0 : Int) ≤ ((c.toNat % 64 : Nat) : Int) by omega)]
  by_cases h1 : kind = 1
  · subst h1; rfl
  by_cases h2 : kind = 2
  · subst h2; rfl
  by_cases h3 : kind = 3
  · subst h3; rfl
  by_cases h4 : kind = 4
  · subst h4; rfl
  by_cases h5 : kind = 5
  · subst h5; rfl
  by_cases h6 : kind = 6
  · subst h6; rfl
  by_cases h7 : kind = 7
  · subst h7; rfl
  by_cases h8 : kind = 8
  · subst h8; rfl
  by_cases h9 : kind = 9
  · subst h9; rfl
  by_cases h10 : kind = 10
  · subst h10; rfl
  by_cases h11 : kind = 11
  · subst h11; rfl
  by_cases h12 : kind = 12
  · subst h12; rfl
  simp only [if_neg h1, if_neg h2, if_neg h3, if_neg h4, if_neg h5, if_neg h6, if_neg h7, if_neg h8, if_neg h9, if_neg h10, if_neg h11, if_neg h12, beq_eq_false_iff_ne.2 h1, beq_eq_false_iff_ne.2 h2, beq_eq_false_iff_ne.2 h3, beq_eq_false_iff_ne.2 h4, beq_eq_false_iff_ne.2 h5, beq_eq_false_iff_ne.2 h6, beq_eq_false_iff_ne.2 h7, beq_eq_false_iff_ne.2 h8, beq_eq_false_iff_ne.2 h9, beq_eq_false_iff_ne.2 h10, beq_eq_false_iff_ne.2 h11, beq_eq_false_iff_ne.2 h12, cond_false]
  rfl
theorem ref_Eval_w (k : Nat) (hk : 65 ≤ k) (kind dom r s t : Int) (c a b d x : BitVec 64) : visorref17_Eval.m k ⟨kind, dom, r, s, t, u c⟩ (u a) (u b) (u d) (u x) = some (u (evalW kind c a b d x)) := by
  have hm : Int.tmod (u c) 64 = ((c.toNat % 64 : Nat) : Int) := rfl
  have hlt : c.toNat % 64 < 64 := Nat.mod_lt _ (by omega)
  have e1 : IntKind.i64.wrap ((c.toNat % 64 : Nat) : Int) = ((c.toNat % 64 : Nat) : Int) := wrap_i64_of (by omega) (by omega)
  have e2 : IntKind.i64.wrap (64 - ((c.toNat % 64 : Nat) : Int)) = ((64 - c.toNat % 64 : Nat) : Int) := by rw [wrap_i64_of (by omega) (by omega)]; omega
  unfold visorref17_Eval.m visorref17_Eval.j1 evalW
  simp only [Option.bind_some, hm, bxor_u, sub_u, band_u, e1, e2, ref_Low_m k hk, ref_Rot_m k hk]
  rw [shl_as a _ hlt, shr_as a _ hlt, Nat.mod_mod]
  by_cases h1 : kind = 1
  · subst h1; rfl
  by_cases h2 : kind = 2
  · subst h2; rfl
  by_cases h3 : kind = 3
  · subst h3; rfl
  by_cases h4 : kind = 4
  · subst h4; rfl
  by_cases h5 : kind = 5
  · subst h5; rfl
  by_cases h6 : kind = 6
  · subst h6; rfl
  by_cases h7 : kind = 7
  · subst h7; rfl
  by_cases h8 : kind = 8
  · subst h8; rfl
  by_cases h9 : kind = 9
  · subst h9; rfl
  by_cases h10 : kind = 10
  · subst h10; rfl
  by_cases h11 : kind = 11
  · subst h11; rfl
  by_cases h12 : kind = 12
  · subst h12; rfl
  simp only [if_neg h1, if_neg h2, if_neg h3, if_neg h4, if_neg h5, if_neg h6, if_neg h7, if_neg h8, if_neg h9, if_neg h10, if_neg h11, if_neg h12, beq_eq_false_iff_ne.2 h1, beq_eq_false_iff_ne.2 h2, beq_eq_false_iff_ne.2 h3, beq_eq_false_iff_ne.2 h4, beq_eq_false_iff_ne.2 h5, beq_eq_false_iff_ne.2 h6, beq_eq_false_iff_ne.2 h7, beq_eq_false_iff_ne.2 h8, beq_eq_false_iff_ne.2 h9, beq_eq_false_iff_ne.2 h10, beq_eq_false_iff_ne.2 h11, beq_eq_false_iff_ne.2 h12, cond_false]
  rfl
theorem op_Eval_m (k : Nat) (o : Tapi_Op) (a b d x : Int) (hc : IsW o.c) (ha : IsW a) (hb : IsW b) (hd : IsW d) (hx : IsW x) : op_Eval.m k o a b d x = some (evalI o a b d x) := by
  obtain ⟨kind, dom, r, s, t, c⟩ := o
  obtain ⟨c, rfl⟩ := hc.u; obtain ⟨a, rfl⟩ := ha.u; obtain ⟨b, rfl⟩ := hb.u; obtain ⟨d, rfl⟩ := hd.u; obtain ⟨x, rfl⟩ := hx.u
  rw [op_Eval_w, evalI_u]
theorem ref_Eval_m (k : Nat) (hk : 65 ≤ k) (o : Tapi_Op) (a b d x : Int) (hc : IsW o.c) (ha : IsW a) (hb : IsW b) (hd : IsW d) (hx : IsW x) : visorref17_Eval.m k o a b d x = some (evalI o a b d x) := by
  obtain ⟨kind, dom, r, s, t, c⟩ := o
  obtain ⟨c, rfl⟩ := hc.u; obtain ⟨a, rfl⟩ := ha.u; obtain ⟨b, rfl⟩ := hb.u; obtain ⟨d, rfl⟩ := hd.u; obtain ⟨x, rfl⟩ := hx.u
  rw [ref_Eval_w k hk, evalI_u]
/-! Which ops may be: both programs' Right is one question. -/
def opRegs (kind n : Int) : Int := if kind = 2 then n - 1 else if kind = 5 ∨ kind = 7 then 2 else if kind = 6 ∨ kind = 8 ∨ kind = 9 ∨ kind = 10 ∨ kind = 11 then 1 else if kind = 12 then n else 0
def okReg (r at' j regs : Int) : Prop := (j < regs → 0 ≤ r ∧ r < at') ∧ (regs ≤ j → r = -1)
instance (r at' j regs : Int) : Decidable (okReg r at' j regs) := by unfold okReg; infer_instance
def okConst (o : Tapi_Op) : Bool := if o.kind = 9 ∨ o.kind = 10 ∨ o.kind = 11 then decide (o.c < 64) else if o.kind = 2 then decide (o.c < 1048576) else if o.kind = 3 ∨ o.kind = 4 ∨ o.kind = 8 then true else o.c == 0
def okHead (o : Tapi_Op) (n : Int) : Prop := 1 ≤ o.kind ∧ o.kind ≤ 12 ∧ -1 ≤ o.dom ∧ o.dom < n ∧ (o.kind = 12 → o.dom = -1)
instance (o : Tapi_Op) (n : Int) : Decidable (okHead o n) := by unfold okHead; infer_instance
def okRegs (o : Tapi_Op) (at' n : Int) : Prop := okReg o.a at' 0 (opRegs o.kind n) ∧ okReg o.b at' 1 (opRegs o.kind n) ∧ okReg o.d at' 2 (opRegs o.kind n)
instance (o : Tapi_Op) (at' n : Int) : Decidable (okRegs o at' n) := by unfold okRegs; infer_instance
/-- may an op be, at a place, of so many shares? -/
def Rt (o : Tapi_Op) (at' n : Int) : Bool := decide (okHead o n) && (decide (okRegs o at' n) && okConst o)
theorem beqF {a b : Int} (h : ¬ a = b) : (a == b) = false := beq_eq_false_iff_ne.2 h
theorem op_Regs_m (k : Nat) (kind n : Int) (hn : n = 2 ∨ n = 3) : op_Regs.m k kind n = some (opRegs kind n) := by
  have hw : IntKind.i64.wrap (n - 1) = n - 1 := wrap_i64_of (by omega) (by omega)
  have h0 : ((n != 2) && (n != 3)) = false := by rcases hn with rfl | rfl <;> rfl
  unfold op_Regs.m op_Regs.j1 op_Regs.j2 opRegs
  rw [h0, cond_false, hw]
  by_cases h2 : kind = 2
  · subst h2; rfl
  by_cases h5 : kind = 5
  · subst h5; rfl
  by_cases h7 : kind = 7
  · subst h7; rfl
  by_cases h6 : kind = 6
  · subst h6; rfl
  by_cases h8 : kind = 8
  · subst h8; rfl
  by_cases h9 : kind = 9
  · subst h9; rfl
  by_cases h10 : kind = 10
  · subst h10; rfl
  by_cases h11 : kind = 11
  · subst h11; rfl
  by_cases h12 : kind = 12
  · subst h12; rfl
  simp only [h2, h5, h6, h7, h8, h9, h10, h11, h12, beqF h2, beqF h5, beqF h6, beqF h7, beqF h8, beqF h9, beqF h10, beqF h11, beqF h12, cond_false, or_self, if_false]
theorem ref_Regs_m (k : Nat) (kind n : Int) (hn : n = 2 ∨ n = 3) : visorref17_Regs.m k kind n = some (opRegs kind n) := op_Regs_m k kind n hn
theorem op_constant_m (k : Nat) (o : Tapi_Op) : op_constant.m k o = some (okConst o) := by
  unfold op_constant.m op_constant.j1 op_constant.j2 okConst
  by_cases h9 : o.kind = 9
  · rw [h9]; rfl
  by_cases h10 : o.kind = 10
  · rw [h10]; rfl
  by_cases h11 : o.kind = 11
  · rw [h11]; rfl
  by_cases h2 : o.kind = 2
  · rw [h2]; rfl
  by_cases h3 : o.kind = 3
  · rw [h3]; rfl
  by_cases h4 : o.kind = 4
  · rw [h4]; rfl
  by_cases h8 : o.kind = 8
  · rw [h8]; rfl
  simp only [h2, h3, h4, h8, h9, h10, h11, beqF h2, beqF h3, beqF h4, beqF h8, beqF h9, beqF h10, beqF h11, cond_false, or_self, if_false]
theorem op_Right_step (o : Tapi_Op) (at' v : Int) (k j : Nat) (r : Int) (hj : j < 3) (hr : getI .i64 [C.int .i64 o.a, C.int .i64 o.b, C.int .i64 o.d] j = some r) :
    op_Right.l1 o at' v (k + 1) (j : Int) = if okReg r at' j v then op_Right.l1 o at' v k ((j + 1 : Nat) : Int) else some (.inl false) := by
  have hw : IntKind.i64.wrap ((j : Int) + 1) = ((j + 1 : Nat) : Int) := by rw [wrap_i64_of (by omega) (by omega)]; omega
  conv => lhs; unfold op_Right.l1
  rw [decide_eq_true (show (j : Int) < 3 by omega), cond_true, if_pos (by omega), Int.toNat_natCast, hr, Option.bind_some, hw]
  by_cases h1 : (j : Int) < v
  · rw [decide_eq_true h1, cond_true, decide_eq_false (show ¬ (j : Int) ≥ v by omega), cond_false]
    by_cases h2 : r < 0
    · rw [decide_eq_true h2, cond_true, if_neg (by unfold okReg; omega)]
    · rw [decide_eq_false h2, cond_false]
      by_cases h3 : r ≥ at'
      · rw [decide_eq_true h3, cond_true, if_neg (by unfold okReg; omega)]
      · rw [decide_eq_false h3, cond_false, if_pos (by unfold okReg; omega)]
  · rw [decide_eq_false h1, cond_false, decide_eq_true (show (j : Int) ≥ v by omega), cond_true]
    by_cases h2 : r = -1
    · rw [show (r != -1) = false by simp [h2], cond_false, if_pos (by unfold okReg; omega)]
    · rw [show (r != -1) = true by simp [h2], cond_true, if_neg (by unfold okReg; omega)]
theorem op_Right_end (o : Tapi_Op) (at' v : Int) (k : Nat) : op_Right.l1 o at' v (k + 1) ((3 : Nat) : Int) = some (.inr ()) := by unfold op_Right.l1; rfl
theorem ref_Right_step (o : Tapi_Op) (at' n : Int) (hn : n = 2 ∨ n = 3) (k j : Nat) (r : Int) (hj : j < 3) (hr : getI .i64 [C.int .i64 o.a, C.int .i64 o.b, C.int .i64 o.d] j = some r) :
    visorref17_Right.l1 o at' n (k + 1) (j : Int) = if okReg r at' j (opRegs o.kind n) then visorref17_Right.l1 o at' n k ((j + 1 : Nat) : Int) else some (.inl false) := by
  have hw : IntKind.i64.wrap ((j : Int) + 1) = ((j + 1 : Nat) : Int) := by rw [wrap_i64_of (by omega) (by omega)]; omega
  have hj0 : 0 + ((j : Nat) : Int).toNat * 1 = j := by simp
  conv => lhs; unfold visorref17_Right.l1
  rw [decide_eq_true (show (j : Int) < 3 by omega), cond_true, ref_Regs_m _ _ _ hn, Option.bind_some, if_pos (by omega), hj0, hr, Option.bind_some, hw]
  simp only [Option.bind_some]
  generalize opRegs o.kind n = v
  by_cases h1 : (j : Int) < v
  · rw [decide_eq_true h1, cond_true]
    by_cases h2 : r < 0
    · rw [decide_eq_true h2, cond_true, if_neg (by unfold okReg; omega)]
    · rw [decide_eq_false h2, cond_false, if_pos (by omega)]
      by_cases h3 : r ≥ at'
      · rw [decide_eq_true h3, cond_true, if_neg (by unfold okReg; omega)]
      · rw [decide_eq_false h3, cond_false, decide_eq_false (show ¬ (j : Int) ≥ v by omega), cond_false, if_pos (by unfold okReg; omega)]
  · rw [decide_eq_false h1, cond_false, decide_eq_true (show (j : Int) ≥ v by omega), cond_true, if_pos (by omega)]
    by_cases h2 : r = -1
    · rw [show (r != -1) = false by simp [h2], cond_false, if_pos (by unfold okReg; omega)]
    · rw [show (r != -1) = true by simp [h2], cond_true, if_neg (by unfold okReg; omega)]
theorem ref_Right_end (o : Tapi_Op) (at' n : Int) (k : Nat) : visorref17_Right.l1 o at' n (k + 1) ((3 : Nat) : Int) = some (.inr ()) := by unfold visorref17_Right.l1; rfl
theorem op_Right_loop (o : Tapi_Op) (at' n : Int) (k : Nat) : op_Right.l1 o at' (opRegs o.kind n) (k + 4) 0 = some (if okRegs o at' n then .inr () else .inl false) := by
  have h := op_Right_step o at' (opRegs o.kind n) (k + 3) 0 o.a (by omega) rfl
  have h0 : ((0 : Nat) : Int) = 0 := rfl
  rw [h0] at h
  rw [h, op_Right_step o at' _ (k + 2) 1 o.b (by omega) rfl, op_Right_step o at' _ (k + 1) 2 o.d (by omega) rfl, op_Right_end]
  unfold okRegs
  by_cases h1 : okReg o.a at' 0 (opRegs o.kind n)
  · by_cases h2 : okReg o.b at' 1 (opRegs o.kind n)
    · by_cases h3 : okReg o.d at' 2 (opRegs o.kind n)
      · simp [h1, h2, h3]
      · simp [h1, h2, h3]
    · simp [h1, h2]
  · simp [h1]
theorem ref_Right_loop (o : Tapi_Op) (at' n : Int) (hn : n = 2 ∨ n = 3) (k : Nat) : visorref17_Right.l1 o at' n (k + 4) 0 = some (if okRegs o at' n then .inr () else .inl false) := by
  have h := ref_Right_step o at' n hn (k + 3) 0 o.a (by omega) rfl
  have h0 : ((0 : Nat) : Int) = 0 := rfl
  rw [h0] at h
  rw [h, ref_Right_step o at' n hn (k + 2) 1 o.b (by omega) rfl, ref_Right_step o at' n hn (k + 1) 2 o.d (by omega) rfl, ref_Right_end]
  unfold okRegs
  by_cases h1 : okReg o.a at' 0 (opRegs o.kind n)
  · by_cases h2 : okReg o.b at' 1 (opRegs o.kind n)
    · by_cases h3 : okReg o.d at' 2 (opRegs o.kind n)
      · simp [h1, h2, h3]
      · simp [h1, h2, h3]
    · simp [h1, h2]
  · simp [h1]
theorem op_Right_j (k : Nat) (o : Tapi_Op) (at' n : Int) (hn : n = 2 ∨ n = 3) (b : Bool) : op_Right.j1 (k + 4) o at' n b = some (!b && (decide (okRegs o at' n) && okConst o)) := by
  unfold op_Right.j1
  cases b
  · rw [cond_false, op_Regs_m _ _ _ hn, Option.bind_some, op_Right_loop, Option.bind_some, op_constant_m]
    by_cases h : okRegs o at' n
    · rw [if_pos h]; simp [h]
    · rw [if_neg h]; simp [h]
  · rfl
theorem ref_Right_j (k : Nat) (o : Tapi_Op) (at' n : Int) (hn : n = 2 ∨ n = 3) (b : Bool) : visorref17_Right.j1 (k + 4) o at' n b = some (!b && (decide (okRegs o at' n) && okConst o)) := by
  have hc : ∀ k, (bif o.kind == 9 then visorref17_Right.j2 k o (o.kind == 9) else (bif o.kind == 10 then visorref17_Right.j2 k o (o.kind == 10) else visorref17_Right.j2 k o (o.kind == 11))) = some (okConst o) := fun k => op_constant_m k o
  unfold visorref17_Right.j1
  cases b
  · rw [cond_false, ref_Right_loop o at' n hn, Option.bind_some]
    by_cases h : okRegs o at' n
    · rw [if_pos h]; simp only [hc]; simp [h]
    · rw [if_neg h]; simp [h]
  · rfl
theorem op_Right_m (k : Nat) (o : Tapi_Op) (at' n : Int) (hn : n = 2 ∨ n = 3) : op_Right.m (k + 4) o at' n = some (Rt o at' n) := by
  have h0 : ((n != 2) && (n != 3)) = false := by rcases hn with rfl | rfl <;> rfl
  unfold op_Right.m op_is.m
  rw [h0, cond_false, Option.bind_some]
  simp only [op_Right_j _ _ _ _ hn]
  unfold Rt okHead
  by_cases h1 : 1 ≤ o.kind
  · by_cases h2 : o.kind ≤ 12
    · by_cases h3 : -1 ≤ o.dom
      · by_cases h4 : o.dom < n
        · have e : ((!(decide (o.kind ≥ 1) && decide (o.kind ≤ 12)) || decide (o.dom < -1)) || decide (o.dom ≥ n)) = false := by
            simp only [Bool.or_eq_false_iff, decide_eq_false_iff_not, Bool.not_eq_false', Bool.and_eq_true, decide_eq_true_eq]; omega
          rw [e, cond_false]
          by_cases h5 : o.kind = 12
          · by_cases h6 : o.dom = -1
            · simp [h5, h6]; omega
            · have : o.dom ≥ 0 := by omega
              simp [h5, h6, this]
          · simp [h1, h2, h3, h4, h5, beqF h5]
        · have e : ((!(decide (o.kind ≥ 1) && decide (o.kind ≤ 12)) || decide (o.dom < -1)) || decide (o.dom ≥ n)) = true := by simp; omega
          rw [e, cond_true]; simp [h4]
      · have e : ((!(decide (o.kind ≥ 1) && decide (o.kind ≤ 12)) || decide (o.dom < -1)) || decide (o.dom ≥ n)) = true := by simp; omega
        rw [e, cond_true]; simp [h3]
    · have e : ((!(decide (o.kind ≥ 1) && decide (o.kind ≤ 12)) || decide (o.dom < -1)) || decide (o.dom ≥ n)) = true := by simp; omega
      rw [e, cond_true]; simp [h2]
  · have e : ((!(decide (o.kind ≥ 1) && decide (o.kind ≤ 12)) || decide (o.dom < -1)) || decide (o.dom ≥ n)) = true := by simp; omega
    rw [e, cond_true]; simp [h1]
theorem ref_Right_m (k : Nat) (o : Tapi_Op) (at' n : Int) (hn : n = 2 ∨ n = 3) : visorref17_Right.m (k + 4) o at' n = some (Rt o at' n) := by
  have h0 : ((n != 2) && (n != 3)) = false := by rcases hn with rfl | rfl <;> rfl
  unfold visorref17_Right.m
  simp only [ref_Right_j _ _ _ _ hn, h0]
  unfold Rt okHead
  by_cases h1 : 1 ≤ o.kind
  · by_cases h2 : o.kind ≤ 12
    · by_cases h3 : -1 ≤ o.dom
      · by_cases h4 : o.dom < n
        · have e : ((((false || decide (o.kind < 1)) || decide (o.kind > 12)) || decide (o.dom < -1)) || decide (o.dom ≥ n)) = false := by
            simp only [Bool.or_eq_false_iff, decide_eq_false_iff_not, true_and]; omega
          rw [e, cond_false]
          by_cases h5 : o.kind = 12
          · by_cases h6 : o.dom = -1
            · simp [h5, h6]; omega
            · simp [h5, h6]
          · simp [h1, h2, h3, h4, h5, beqF h5]
        · have e : ((((false || decide (o.kind < 1)) || decide (o.kind > 12)) || decide (o.dom < -1)) || decide (o.dom ≥ n)) = true := by simp; omega
          rw [e, cond_true]; simp [h4]
      · have e : ((((false || decide (o.kind < 1)) || decide (o.kind > 12)) || decide (o.dom < -1)) || decide (o.dom ≥ n)) = true := by simp; omega
        rw [e, cond_true]; simp [h3]
    · have e : ((((false || decide (o.kind < 1)) || decide (o.kind > 12)) || decide (o.dom < -1)) || decide (o.dom ≥ n)) = true := by simp; omega
      rw [e, cond_true]; simp [h2]
  · have e : ((((false || decide (o.kind < 1)) || decide (o.kind > 12)) || decide (o.dom < -1)) || decide (o.dom ≥ n)) = true := by simp; omega
    rw [e, cond_true]; simp [h1]
/-! A machine's Do, as one total function. -/
def atI (v : List Int) (r : Int) : Int := if 0 ≤ r ∧ r < (v.length : Int) then v.getD r.toNat 0 else 0
theorem atI_w {v : List Int} (hv : ∀ x ∈ v, IsW x) (r : Int) : IsW (atI v r) := by
  unfold atI
  split
  · rename_i h
    have hlt : r.toNat < v.length := by omega
    rw [List.getD_eq_getElem?_getD, List.getElem?_eq_getElem hlt]; exact hv _ (List.getElem_mem hlt)
  · exact isW_zero
theorem atI_neg {v : List Int} {r : Int} (h : r < 0) : atI v r = 0 := by unfold atI; rw [if_neg (by omega)]
theorem atI_append {v : List Int} {r : Int} (h : r < (v.length : Int)) (l : List Int) : atI (v ++ l) r = atI v r := by
  unfold atI
  by_cases h0 : 0 ≤ r
  · have hlt : r.toNat < v.length := by omega
    rw [if_pos (show 0 ≤ r ∧ r < ((v ++ l).length : Int) from ⟨h0, by rw [List.length_append]; omega⟩), if_pos (show 0 ≤ r ∧ r < (v.length : Int) from ⟨h0, h⟩), List.getD_eq_getElem?_getD, List.getD_eq_getElem?_getD, List.getElem?_append_left hlt]
  · rw [if_neg (by omega), if_neg (by omega)]
theorem value_m (k : Nat) (m : Twire_Machine) (r : Int) (h : r < 0 ∨ r < (m.values.length : Int)) : wire_Machine_value.m k m r = some (atI m.values r) := by
  unfold wire_Machine_value.m
  by_cases h0 : r < 0
  · rw [decide_eq_true h0, cond_true, atI_neg h0]
  · have hlt : r.toNat < m.values.length := by omega
    rw [decide_eq_false h0, cond_false, if_pos (by omega), List.getElem?_eq_getElem hlt, Option.bind_some]
    unfold atI
    rw [if_pos (by omega), List.getD_eq_getElem?_getD, List.getElem?_eq_getElem hlt]; rfl
/-- registers of an op that may be -/
theorem Rt_regs {o : Tapi_Op} {at' n : Int} (h : Rt o at' n = true) (h0 : 0 ≤ at') : (o.a < 0 ∨ o.a < at') ∧ (o.b < 0 ∨ o.b < at') ∧ (o.d < 0 ∨ o.d < at') := by
  unfold Rt at h
  simp only [Bool.and_eq_true, decide_eq_true_eq] at h
  obtain ⟨h1, h2, h3⟩ := h.2.1
  unfold okReg at h1 h2 h3
  omega
def Twire_Machine.len (m : Twire_Machine) : Int := m.base + (m.ops.length : Int)
/-- is a mask to be drawn, and there is none? -/
def noMask (t : Ttape_Tape) : Prop := t.free < 1 ∨ (t.words.length : Int) - t.used.v < 1
instance (t : Ttape_Tape) : Decidable (noMask t) := by unfold noMask; infer_instance
def failM (m : Twire_Machine) (e : Int) : Int × Twire_Machine := (-1, ⟨m.n, m.most, m.base, m.words, m.draws, m.dry, m.openF, m.fromF, e, m.tape, m.ops, m.values, m.blocks⟩)
def pushM (m : Twire_Machine) (o : Tapi_Op) (x : Int) : Int × Twire_Machine :=
  if m.dry then (m.base, ⟨m.n, m.most, m.base + 1, if o.kind = 2 then m.words + 1 else m.words, if o.kind = 1 then m.draws + 1 else m.draws, m.dry, m.openF, m.fromF, m.bad, m.tape, m.ops, m.values, m.blocks⟩)
  else ((m.ops.length : Int), ⟨m.n, m.most, m.base, if o.kind = 2 then m.words + 1 else m.words, if o.kind = 1 then m.draws + 1 else m.draws, m.dry, m.openF, m.fromF, m.bad, m.tape, m.ops ++ [o], m.values ++ [evalI o (atI m.values o.a) (atI m.values o.b) (atI m.values o.d) x], m.blocks⟩)
def drawnM (m : Twire_Machine) : Twire_Machine := ⟨m.n, m.most, m.base, m.words, m.draws, m.dry, m.openF, m.fromF, m.bad, ⟨m.tape.words, ⟨m.tape.used.v + 1⟩, m.tape.free - 1⟩, m.ops, m.values, m.blocks⟩
def rightM (m : Twire_Machine) (o : Tapi_Op) : Bool := Rt o m.len m.n && (o.kind != 2 || o.c == m.words)
def doM (m : Twire_Machine) (o : Tapi_Op) (x : Int) : Int × Twire_Machine :=
  if m.bad ≠ 0 then (-1, m)
  else if rightM m o = false then failM m 1
  else if m.dry = false ∧ m.most ≤ (m.ops.length : Int) then failM m 3
  else if o.kind = 1 ∧ m.dry = false then
    (if noMask m.tape then failM m 2 else pushM (drawnM m) o (atI m.tape.words m.tape.used.v))
  else pushM m o x
/-- a machine that may be -/
structure MOk (m : Twire_Machine) : Prop where
  n : m.n = 2 ∨ m.n = 3
  most : m.most ≤ 1048576
  base : 0 ≤ m.base ∧ m.base ≤ 4611686018427387904
  words : 0 ≤ m.words ∧ m.words ≤ m.base + (m.ops.length : Int)
  draws : 0 ≤ m.draws ∧ m.draws ≤ m.base + (m.ops.length : Int)
  ops : m.ops.length ≤ 1048576
  vals : m.values.length = m.ops.length
  bad : 0 ≤ m.bad ∧ m.bad ≤ 3
  wvals : ∀ x ∈ m.values, IsW x
  wtape : ∀ x ∈ m.tape.words, IsW x
  used : 0 ≤ m.tape.used.v ∧ m.tape.used.v ≤ (m.tape.words.length : Int)
  free : m.tape.free ≤ (m.tape.words.length : Int)
  tlen : (m.tape.words.length : Int) ≤ 4611686018427387904
  wet : m.dry = false → m.base = 0
  dryV : m.dry = true → m.ops = []
theorem wrapI {x : Int} (h0 : -4611686018427387904 ≤ x) (h1 : x ≤ 4611686018427387904 * 3 / 2) : IntKind.i64.wrap x = x := wrap_i64_of (by omega) (by omega)
theorem Len_m (k : Nat) {m : Twire_Machine} (h : MOk m) : wire_Machine_Len.m k m = some m.len := by
  have := h.base; have := h.ops
  unfold wire_Machine_Len.m Twire_Machine.len
  rw [wrapI (by omega) (by omega)]
theorem right_m (k : Nat) {m : Twire_Machine} (h : MOk m) (o : Tapi_Op) : wire_Machine_right.m (k + 4) m o = some (rightM m o) := by
  have hw : IntKind.u64.wrap m.words = m.words := by have := h.words; have := h.base; have := h.ops; exact wrap_u64_of (by omega) (by omega)
  unfold wire_Machine_right.m wire_Machine_right.j1 rightM
  rw [Len_m _ h, Option.bind_some, op_Right_m _ _ _ _ h.n, Option.bind_some, hw]
  cases Rt o m.len m.n
  · rfl
  · rw [cond_true, Bool.true_and]
    cases hk : o.kind != 2
    · rw [cond_false, Bool.false_or]
    · rfl
theorem fail_m (k : Nat) (m : Twire_Machine) (e : Int) (h : m.bad = 0) : wire_Machine_fail.m k m e = some (failM m e) := by
  unfold wire_Machine_fail.m wire_Machine_fail.j1 failM
  rw [h]; rfl
theorem draw_no (k : Nat) {m : Twire_Machine} (h : MOk m) (hn : noMask m.tape) : tape_Tape_Draw.m k m.tape = some (0, false, m.tape) := by
  have := h.used; have := h.tlen
  unfold tape_Tape_Draw.m tape_Tape_Draw.j1 tape_Tape_Left.m tape_Tape_Used.m
  unfold noMask at hn
  by_cases hf : m.tape.free < 1
  · rw [decide_eq_true hf]; rfl
  · rw [decide_eq_false hf, cond_false, Option.bind_some, Option.bind_some, wrapI (by omega) (by omega), decide_eq_true (by omega)]; rfl
theorem draw_yes (k : Nat) {m : Twire_Machine} (h : MOk m) (hn : ¬ noMask m.tape) : tape_Tape_Draw.m k m.tape = some (atI m.tape.words m.tape.used.v, true, (drawnM m).tape) := by
  have h1 := h.used; have h2 := h.tlen; have h3 := h.free
  unfold noMask at hn
  have hlt : m.tape.used.v.toNat < m.tape.words.length := by omega
  unfold tape_Tape_Draw.m tape_Tape_Draw.j1 tape_Tape_Left.m tape_Tape_Used.m
  rw [decide_eq_false (show ¬ m.tape.free < 1 by omega), cond_false, Option.bind_some, Option.bind_some, wrapI (by omega) (by omega), decide_eq_false (by omega), cond_false, wrapI (x := m.tape.used.v + 1) (by omega) (by omega), show m.tape.used.v + 1 - 1 = m.tape.used.v by omega, wrapI (x := m.tape.used.v) (by omega) (by omega), wrapI (x := m.tape.free - 1) (by omega) (by omega),
    if_pos (by omega), List.getElem?_eq_getElem hlt, Option.bind_some]
  unfold atI drawnM
  rw [if_pos (by omega), List.getD_eq_getElem?_getD, List.getElem?_eq_getElem hlt]; rfl
theorem MOk.draw {m : Twire_Machine} (h : MOk m) (hn : ¬ noMask m.tape) : MOk (drawnM m) := by
  have h1 := h.used; have h2 := h.tlen; have h3 := h.free
  unfold noMask at hn
  exact ⟨h.n, h.most, h.base, h.words, h.draws, h.ops, h.vals, h.bad, h.wvals, h.wtape, ⟨by show 0 ≤ m.tape.used.v + 1; omega, by show m.tape.used.v + 1 ≤ (m.tape.words.length : Int); omega⟩, by show m.tape.free - 1 ≤ (m.tape.words.length : Int); omega, h.tlen, h.wet, h.dryV⟩
theorem push_j3 (k : Nat) {m : Twire_Machine} (h : MOk m) (o : Tapi_Op) (x : Int) (hc : IsW o.c) (hx : IsW x) (hr : Rt o m.len m.n = true) (hb : m.base < 4611686018427387904) (hl : m.dry = false → m.ops.length < 1048576) (w d : Int) :
    wire_Machine_Do.j3 k o x ⟨m.n, m.most, m.base, w, d, m.dry, m.openF, m.fromF, m.bad, m.tape, m.ops, m.values, m.blocks⟩ =
      some (if m.dry then (m.base, ⟨m.n, m.most, m.base + 1, w, d, m.dry, m.openF, m.fromF, m.bad, m.tape, m.ops, m.values, m.blocks⟩) else ((m.ops.length : Int), ⟨m.n, m.most, m.base, w, d, m.dry, m.openF, m.fromF, m.bad, m.tape, m.ops ++ [o], m.values ++ [evalI o (atI m.values o.a) (atI m.values o.b) (atI m.values o.d) x], m.blocks⟩)) := by
  have h1 := h.base; have h2 := h.ops; have h3 := h.vals
  unfold wire_Machine_Do.j3
  cases hd : m.dry
  · have hb0 := h.wet hd
    have hlen : m.len = (m.ops.length : Int) := by unfold Twire_Machine.len; omega
    have hg := Rt_regs hr (by rw [hlen]; omega)
    rw [hlen] at hg
    have hl := hl hd
    have value : ∀ r : Int, r < 0 ∨ r < (m.ops.length : Int) → wire_Machine_value.m k ⟨m.n, m.most, m.base, w, d, false, m.openF, m.fromF, m.bad, m.tape, m.ops, m.values, m.blocks⟩ r = some (atI m.values r) := fun r hr => value_m k ⟨m.n, m.most, m.base, w, d, false, m.openF, m.fromF, m.bad, m.tape, m.ops, m.values, m.blocks⟩ r (by show r < 0 ∨ r < (m.values.length : Int); omega)
    dsimp only
    rw [cond_false, value _ hg.1, Option.bind_some, value _ hg.2.1, Option.bind_some, value _ hg.2.2, Option.bind_some,
      op_Eval_m k o _ _ _ _ hc (atI_w h.wvals _) (atI_w h.wvals _) (atI_w h.wvals _) hx, Option.bind_some, if_pos (by simp only [List.length_cons, List.length_nil]; omega), if_pos (by simp only [List.length_cons, List.length_nil]; omega)]
    rw [List.length_append, List.length_cons, List.length_nil, wrapI (by omega) (by omega), show (((m.ops.length + (0 + 1) : Nat)) : Int) - 1 = (m.ops.length : Int) by omega]
    rfl
  · dsimp only
    rw [cond_true, wrapI (x := m.base + 1) (by omega) (by omega), show m.base + 1 - 1 = m.base by omega, wrapI (by omega) (by omega)]; rfl
theorem push_j2 (k : Nat) {m : Twire_Machine} (h : MOk m) (o : Tapi_Op) (x : Int) (hc : IsW o.c) (hx : IsW x) (hr : Rt o m.len m.n = true) (hb : m.base < 4611686018427387904) (hl : m.dry = false → m.ops.length < 1048576) :
    wire_Machine_Do.j2 k o m x = some (pushM m o x) := by
  have h1 := h.base; have h2 := h.ops; have h3 := h.words; have h4 := h.draws
  have e1 : IntKind.i64.wrap (m.draws + 1) = m.draws + 1 := wrapI (by omega) (by omega)
  have e2 : IntKind.i64.wrap (m.words + 1) = m.words + 1 := wrapI (by omega) (by omega)
  unfold wire_Machine_Do.j2 pushM
  by_cases k1 : o.kind = 1
  · rw [k1]
    simp only [show ((1 : Int) == 1) = true from rfl, cond_true, e1]
    rw [push_j3 k h o x hc hx hr hb hl]; rfl
  · by_cases k2 : o.kind = 2
    · rw [k2]
      simp only [show ((2 : Int) == 1) = false from rfl, show ((2 : Int) == 2) = true from rfl, cond_true, cond_false, e2]
      rw [push_j3 k h o x hc hx hr hb hl]; rfl
    · rw [beqF k1, beqF k2, cond_false, cond_false, if_neg k1, if_neg k2]
      exact push_j3 k h o x hc hx hr hb hl m.words m.draws
theorem Do_m (k : Nat) {m : Twire_Machine} (h : MOk m) (o : Tapi_Op) (x : Int) (hc : IsW o.c) (hx : IsW x) (hb : m.base < 4611686018427387904) : wire_Machine_Do.m (k + 4) m o x = some (doM m o x) := by
  have h2 := h.ops; have h5 := h.most
  unfold wire_Machine_Do.m doM
  by_cases b0 : m.bad = 0
  · rw [show (m.bad != 0) = false by simp [b0], cond_false, if_neg (by omega), right_m k h, Option.bind_some]
    cases hr : rightM m o
    · rw [Bool.not_false, cond_true, fail_m _ _ _ b0, Option.bind_some, if_pos rfl]
    · have hR : Rt o m.len m.n = true := by unfold rightM at hr; rw [Bool.and_eq_true] at hr; exact hr.1
      rw [Bool.not_true, cond_false, if_neg (by simp)]
      unfold wire_Machine_Do.j1
      cases hd : m.dry
      · rw [Bool.not_false, cond_true]
        by_cases hm : m.most ≤ (m.ops.length : Int)
        · rw [decide_eq_true (show ((m.ops.length : Nat) : Int) ≥ m.most from hm), cond_true, fail_m _ _ _ b0, Option.bind_some, if_pos ⟨rfl, hm⟩]
        · rw [decide_eq_false (show ¬ ((m.ops.length : Nat) : Int) ≥ m.most from hm), cond_false, if_neg (fun h => hm h.2)]
          by_cases k1 : o.kind = 1
          · rw [show ((o.kind == 1) && true) = true by simp [k1], cond_true, cond_false, if_pos ⟨k1, rfl⟩]
            by_cases hn : noMask m.tape
            · rw [draw_no _ h hn, Option.bind_some, if_pos hn]
              dsimp only
              rw [Bool.not_false, cond_true, ← hd, fail_m _ _ _ b0, Option.bind_some]
            · rw [draw_yes _ h hn, Option.bind_some, if_neg hn]
              dsimp only
              rw [Bool.not_true, cond_false, ← hd]
              exact push_j2 (k + 4) (h.draw hn) o _ hc (atI_w h.wtape _) hR hb (fun _ => by show m.ops.length < 1048576; omega)
          · rw [show ((o.kind == 1) && true) = false by rw [beqF k1]; rfl, cond_false, if_neg (fun h => k1 h.1)]
            exact push_j2 (k + 4) h o x hc hx hR hb (fun _ => by omega)
      · rw [Bool.not_true, cond_false, cond_false, Bool.and_false, cond_false, if_neg (fun h => by cases h.1), if_neg (fun h => by cases h.2)]
        exact push_j2 (k + 4) h o x hc hx hR hb (fun e => by rw [hd] at e; cases e)
  · rw [show (m.bad != 0) = true by simp [b0], cond_true, if_pos b0]
theorem pushM_wet {m : Twire_Machine} (hd : m.dry = false) (o : Tapi_Op) (x : Int) : pushM m o x = ((m.ops.length : Int), ⟨m.n, m.most, m.base, if o.kind = 2 then m.words + 1 else m.words, if o.kind = 1 then m.draws + 1 else m.draws, m.dry, m.openF, m.fromF, m.bad, m.tape, m.ops ++ [o], m.values ++ [evalI o (atI m.values o.a) (atI m.values o.b) (atI m.values o.d) x], m.blocks⟩) := by
  unfold pushM; rw [if_neg (by rw [hd]; simp)]
theorem pushM_dry {m : Twire_Machine} (hd : m.dry = true) (o : Tapi_Op) (x : Int) : pushM m o x = (m.base, ⟨m.n, m.most, m.base + 1, if o.kind = 2 then m.words + 1 else m.words, if o.kind = 1 then m.draws + 1 else m.draws, m.dry, m.openF, m.fromF, m.bad, m.tape, m.ops, m.values, m.blocks⟩) := by
  unfold pushM; rw [if_pos hd]
theorem up_le (c : Prop) [Decidable c] {a b : Int} (h0 : 0 ≤ a ∧ a ≤ b) : 0 ≤ (if c then a + 1 else a) ∧ (if c then a + 1 else a) ≤ b + 1 := by split <;> omega
theorem MOk.push {m : Twire_Machine} (h : MOk m) (o : Tapi_Op) (x : Int) (hb : m.base < 4611686018427387904) (hl : m.dry = false → m.ops.length < 1048576) : MOk (pushM m o x).2 := by
  have h1 := h.base; have h2 := h.ops; have h5 := h.vals
  cases hd : m.dry
  · have hl := hl hd
    have hb0 := h.wet hd
    rw [pushM_wet hd]
    refine ⟨h.n, h.most, h.base, ?_, ?_, ?_, ?_, h.bad, ?_, h.wtape, h.used, h.free, h.tlen, fun _ => hb0, fun e => (by rw [hd] at e; cases e)⟩
    · have := up_le (o.kind = 2) h.words
      simp only [List.length_append, List.length_cons, List.length_nil]; omega
    · have := up_le (o.kind = 1) h.draws
      simp only [List.length_append, List.length_cons, List.length_nil]; omega
    · simp only [List.length_append, List.length_cons, List.length_nil]; omega
    · simp only [List.length_append, List.length_cons, List.length_nil]; omega
    · intro y hy
      rcases List.mem_append.1 hy with hy | hy
      · exact h.wvals y hy
      · rw [List.mem_singleton.1 hy]; exact evalI_w _ _ _ _ _
  · rw [pushM_dry hd]
    refine ⟨h.n, h.most, ⟨by show 0 ≤ m.base + 1; omega, by show m.base + 1 ≤ 4611686018427387904; omega⟩, ?_, ?_, h.ops, h.vals, h.bad, h.wvals, h.wtape, h.used, h.free, h.tlen, fun e => (by rw [hd] at e; cases e), fun _ => h.dryV hd⟩
    · have := up_le (o.kind = 2) h.words
      dsimp only; omega
    · have := up_le (o.kind = 1) h.draws
      dsimp only; omega
theorem MOk.fail {m : Twire_Machine} (h : MOk m) (e : Int) (he : 0 ≤ e ∧ e ≤ 3) : MOk (failM m e).2 :=
  ⟨h.n, h.most, h.base, h.words, h.draws, h.ops, h.vals, he, h.wvals, h.wtape, h.used, h.free, h.tlen, h.wet, h.dryV⟩
theorem MOk.did {m : Twire_Machine} (h : MOk m) (o : Tapi_Op) (x : Int) (hb : m.base < 4611686018427387904) : MOk (doM m o x).2 := by
  have h5 := h.most
  unfold doM
  repeat' split
  · exact h
  · exact h.fail 1 (by omega)
  · exact h.fail 3 (by omega)
  · exact h.fail 2 (by omega)
  · rename_i h1 h2 hn; exact (h.draw hn).push o _ hb (fun hd => by show m.ops.length < 1048576; have : ¬ m.most ≤ (m.ops.length : Int) := fun e => h1 ⟨hd, e⟩; omega)
  · rename_i h1 h2; exact h.push o x hb (fun hd => by have : ¬ m.most ≤ (m.ops.length : Int) := fun e => h1 ⟨hd, e⟩; omega)
/-! Begin, End, and what stays true of a machine: its words are what its ops make. -/
theorem Do_k {k : Nat} (hk : 4 ≤ k) {m : Twire_Machine} (h : MOk m) (o : Tapi_Op) (x : Int) (hc : IsW o.c) (hx : IsW x) (hb : m.base < 4611686018427387904) : wire_Machine_Do.m k m o x = some (doM m o x) := by
  obtain ⟨j, rfl⟩ : ∃ j, k = j + 4 := ⟨k - 4, by omega⟩
  exact Do_m j h o x hc hx hb
theorem next_m (k : Nat) {m : Twire_Machine} (h : MOk m) : wire_Machine_next.m k m = some m.words := by
  have := h.words; have := h.base; have := h.ops
  unfold wire_Machine_next.m
  rw [wrap_u64_of (by omega) (by omega)]
theorem words_w {m : Twire_Machine} (h : MOk m) : IsW m.words := by
  have := h.words; have := h.base; have := h.ops
  unfold IsW; omega
theorem Key_k {k : Nat} (hk : 4 ≤ k) {m : Twire_Machine} (h : MOk m) (x a b : Int) (hx : IsW x) (hb : m.base < 4611686018427387904) : wire_Machine_Key.m k m x a b = some (doM m ⟨2, 0, a, b, -1, m.words⟩ x) := by
  unfold wire_Machine_Key.m
  rw [next_m _ h, Option.bind_some, Do_k hk h _ _ (words_w h) hx hb, Option.bind_some]
def beginM (m : Twire_Machine) (kd : Int) : Twire_Machine :=
  if m.bad ≠ 0 then m else if m.openF ≠ 0 ∨ kd < 1 ∨ kd > 3 then (failM m 1).2 else ⟨m.n, m.most, m.base, m.words, m.draws, m.dry, kd, m.len, m.bad, m.tape, m.ops, m.values, m.blocks⟩
def endM (m : Twire_Machine) : Twire_Machine :=
  if m.bad ≠ 0 then m else if m.openF = 0 then (failM m 1).2 else ⟨m.n, m.most, m.base, m.words, m.draws, m.dry, 0, m.fromF, m.bad, m.tape, m.ops, m.values, if m.fromF < m.len ∧ m.dry = false then m.blocks ++ [⟨m.openF, m.fromF, m.len⟩] else m.blocks⟩
theorem Begin_m (k : Nat) {m : Twire_Machine} (h : MOk m) (kd : Int) : wire_Machine_Begin.m k m kd = some (beginM m kd) := by
  unfold wire_Machine_Begin.m beginM
  by_cases b0 : m.bad = 0
  · rw [show (m.bad != 0) = false by simp [b0], cond_false, if_neg (by omega)]
    by_cases c : m.openF ≠ 0 ∨ kd < 1 ∨ kd > 3
    · have e : ((m.openF != 0) || decide (kd < 1) || decide (kd > 3)) = true := by
        simp only [Bool.or_eq_true, bne_iff_ne, ne_eq, decide_eq_true_eq]; rcases c with c | c | c <;> simp [c]
      rw [e, cond_true, fail_m _ _ _ b0, Option.bind_some, if_pos c]
    · have e : ((m.openF != 0) || decide (kd < 1) || decide (kd > 3)) = false := by
        simp only [Bool.or_eq_false_iff, bne_eq_false_iff_eq, decide_eq_false_iff_not]; omega
      rw [e, cond_false, Len_m _ h, Option.bind_some, if_neg c]
  · rw [show (m.bad != 0) = true by simp [b0], cond_true, if_pos b0]
theorem End_m (k : Nat) {m : Twire_Machine} (h : MOk m) (hbl : m.blocks.length ≤ 2097152) : wire_Machine_End.m k m = some (endM m) := by
  unfold wire_Machine_End.m endM
  by_cases b0 : m.bad = 0
  · rw [show (m.bad != 0) = false by simp [b0], cond_false, if_neg (show ¬ m.bad ≠ 0 by omega)]
    by_cases c : m.openF = 0
    · rw [show (m.openF == 0) = true by simp [c], cond_true, fail_m _ _ _ b0, Option.bind_some, if_pos c]
    · rw [beqF c, cond_false, Len_m _ h, Option.bind_some, if_neg c]
      unfold wire_Machine_End.j1 wire_Machine_End.j2
      rw [Len_m _ h, Option.bind_some, if_pos (by simp only [List.length_cons, List.length_nil]; omega)]
      dsimp only
      by_cases c2 : m.fromF < m.len
      · rw [decide_eq_true (show m.len > m.fromF from c2), cond_true]
        cases hd : m.dry
        · rw [Bool.not_false, cond_true, if_pos ⟨c2, rfl⟩]
        · rw [Bool.not_true, cond_false, if_neg (fun h => by cases h.2)]
      · rw [decide_eq_false (show ¬ m.len > m.fromF from c2), cond_false, cond_false, if_neg (fun h => c2 h.1)]
  · rw [show (m.bad != 0) = true by simp [b0], cond_true, if_pos b0]
/-! ops that are made, one by one -/
def cnt (kd : Int) (l : List Tapi_Op) : Nat := l.countP fun o => o.kind == kd
def outw (T K : List Int) (ops : List Tapi_Op) (o : Tapi_Op) : Int := if o.kind = 1 then T.getD (cnt 1 ops) 0 else if o.kind = 2 then K.getD o.c.toNat 0 else 0
inductive Made (n : Int) (T K : List Int) : List Tapi_Op → List Int → Prop
  | nil : Made n T K [] []
  | snoc {ops : List Tapi_Op} {vals : List Int} {o : Tapi_Op} {v : Int} : Made n T K ops vals → Rt o (ops.length : Int) n = true → (o.kind = 2 → o.c = (cnt 2 ops : Int)) → IsW o.c →
      v = evalI o (atI vals o.a) (atI vals o.b) (atI vals o.d) (outw T K ops o) → Made n T K (ops ++ [o]) (vals ++ [v])
theorem Made.len {n : Int} {T K : List Int} {ops : List Tapi_Op} {vals : List Int} (h : Made n T K ops vals) : vals.length = ops.length := by
  induction h with
  | nil => rfl
  | snoc _ _ _ _ _ ih => simp [ih]
theorem Made.at {n : Int} {T K : List Int} {ops : List Tapi_Op} {vals : List Int} (h : Made n T K ops vals) : ∀ (i : Nat) (o : Tapi_Op) (v : Int), ops[i]? = some o → vals[i]? = some v →
    Rt o (i : Int) n = true ∧ (o.kind = 2 → o.c = (cnt 2 (ops.take i) : Int)) ∧ IsW o.c ∧ v = evalI o (atI vals o.a) (atI vals o.b) (atI vals o.d) (outw T K (ops.take i) o) := by
  induction h with
  | nil => intro i o v h; simp at h
  | @snoc ops vals o' v' hm h1 h2 h3 h4 ih =>
    intro i o v ho hv
    have hl := hm.len
    by_cases hi : i < ops.length
    · rw [List.getElem?_append_left hi] at ho
      rw [List.getElem?_append_left (by omega)] at hv
      obtain ⟨a1, a2, a3, a4⟩ := ih i o v ho hv
      have hr := Rt_regs a1 (by omega)
      rw [List.take_append_of_le_length (by omega)]
      refine ⟨a1, a2, a3, ?_⟩
      rw [atI_append (by omega), atI_append (by omega), atI_append (by omega)]; exact a4
    · have e : i = ops.length := by
        have := (List.getElem?_eq_some_iff.1 ho).1
        simp at this; omega
      subst e
      rw [List.getElem?_append_right (Nat.le_refl _), Nat.sub_self] at ho
      rw [← hl, List.getElem?_append_right (Nat.le_refl _), Nat.sub_self] at hv
      cases ho; cases hv
      have hr := Rt_regs h1 (by omega)
      rw [List.take_left]
      refine ⟨h1, h2, h3, ?_⟩
      rw [atI_append (by omega), atI_append (by omega), atI_append (by omega)]; exact h4
/-- blocks in order, from 'last' on, within so many ops -/
def BlOk (len : Int) : Int → List Tapi_Span → Prop
  | _, [] => True
  | last, b :: l => 1 ≤ b.kind ∧ b.kind ≤ 3 ∧ last ≤ b.fromF ∧ b.fromF < b.to ∧ b.to ≤ len ∧ BlOk len b.to l
def lastTo : Int → List Tapi_Span → Int
  | last, [] => last
  | _, b :: l => lastTo b.to l
theorem BlOk.mono {len len' : Int} (hl : len ≤ len') : ∀ {l : List Tapi_Span} {last : Int}, BlOk len last l → BlOk len' last l
  | [], _, _ => trivial
  | b :: l, _, ⟨h1, h2, h3, h4, h5, h6⟩ => ⟨h1, h2, h3, h4, by omega, BlOk.mono hl h6⟩
theorem BlOk.snoc {len : Int} {b : Tapi_Span} : ∀ {l : List Tapi_Span} {last : Int}, BlOk len last l → 1 ≤ b.kind → b.kind ≤ 3 → lastTo last l ≤ b.fromF → b.fromF < b.to → b.to ≤ len → BlOk len last (l ++ [b])
  | [], _, _, g1, g2, g3, g4, g5 => ⟨g1, g2, g3, g4, g5, trivial⟩
  | _ :: _, _, ⟨h1, h2, h3, h4, h5, h6⟩, g1, g2, g3, g4, g5 => ⟨h1, h2, h3, h4, h5, BlOk.snoc h6 g1 g2 g3 g4 g5⟩
theorem BlOk.count {len : Int} : ∀ {l : List Tapi_Span} {last : Int}, BlOk len last l → last + (l.length : Int) ≤ lastTo last l ∧ (last ≤ len → lastTo last l ≤ len)
  | [], last, _ => by simp [lastTo]
  | b :: l, last, ⟨h1, h2, h3, h4, h5, h6⟩ => by
    have := BlOk.count h6
    simp only [lastTo, List.length_cons]; omega
/-! The document's machine is the program's, seen otherwise. -/
def absT (t : Ttape_Tape) : Tvisorref02_T := ⟨t.words.drop t.used.v.toNat, t.used.v, t.free⟩
def absM (m : Twire_Machine) : Tvisorref19_M := ⟨m.n, m.most, m.words, m.draws, m.fromF, 0, m.openF, m.bad, m.ops, m.blocks, m.values, absT m.tape, m.dry⟩
theorem rAt_m (k : Nat) (X : Tvisorref19_M) (r : Int) : visorref19_M_At.m k X r = some (atI X.val r) := by
  unfold visorref19_M_At.m
  by_cases h0 : r < 0
  · rw [decide_eq_true h0, Bool.true_or, cond_true, atI_neg h0]
  · by_cases h1 : r < (X.val.length : Int)
    · have hlt : r.toNat < X.val.length := by omega
      rw [decide_eq_false h0, Bool.false_or, decide_eq_false (by omega), cond_false, if_pos (by omega), List.getElem?_eq_getElem hlt, Option.bind_some]
      unfold atI
      rw [if_pos (by omega), List.getD_eq_getElem?_getD, List.getElem?_eq_getElem hlt]; rfl
    · rw [decide_eq_false h0, Bool.false_or, decide_eq_true (by omega), cond_true]
      unfold atI
      rw [if_neg (by omega)]
theorem rFails_m (k : Nat) (m : Twire_Machine) (e : Int) (h : m.bad = 0) : visorref19_M_Fails.m k (absM m) e = some (-1, absM (failM m e).2) := by
  unfold visorref19_M_Fails.m visorref19_M_Fails.j1
  rw [show (absM m).e = 0 from h]; rfl
theorem rLen_m (k : Nat) {m : Twire_Machine} (h : MOk m) (hd : m.dry = false) : visorref19_M_Len.m k (absM m) = some m.len := by
  have := h.ops; have := h.wet hd
  unfold visorref19_M_Len.m Twire_Machine.len
  rw [show (absM m).skip = 0 from rfl, show (absM m).ops = m.ops from rfl, wrapI (by omega) (by omega)]
  congr 1; omega
theorem rpush_j4 (k : Nat) (hk : 65 ≤ k) {m : Twire_Machine} (h : MOk m) (hd : m.dry = false) (o : Tapi_Op) (x : Int) (hc : IsW o.c) (hx : IsW x) (hl : m.ops.length < 1048576) :
    visorref19_M_Do.j4 k o (absM m) x = some ((pushM m o x).1, absM (pushM m o x).2) := by
  have h2 := h.ops; have h3 := h.words; have h4 := h.draws; have h5 := h.vals; have hb := h.wet hd
  have e1 : IntKind.i64.wrap (m.draws + 1) = m.draws + 1 := wrapI (by omega) (by omega)
  have e2 : IntKind.i64.wrap (m.words + 1) = m.words + 1 := wrapI (by omega) (by omega)
  have six : ∀ w d : Int, visorref19_M_Do.j6 k o x ⟨m.n, m.most, w, d, m.fromF, 0, m.openF, m.bad, m.ops, m.blocks, m.values, absT m.tape, m.dry⟩ =
      some ((m.ops.length : Int), ⟨m.n, m.most, w, d, m.fromF, 0, m.openF, m.bad, m.ops ++ [o], m.blocks, m.values ++ [evalI o (atI m.values o.a) (atI m.values o.b) (atI m.values o.d) x], absT m.tape, m.dry⟩) := by
    intro w d
    unfold visorref19_M_Do.j6
    rw [rAt_m, Option.bind_some, rAt_m, Option.bind_some, rAt_m, Option.bind_some]
    dsimp only
    rw [ref_Eval_m k hk o _ _ _ _ hc (atI_w h.wvals _) (atI_w h.wvals _) (atI_w h.wvals _) hx, Option.bind_some, if_pos (by simp only [List.length_cons, List.length_nil]; omega), if_pos (by simp only [List.length_cons, List.length_nil]; omega)]
    unfold visorref19_M_Len.m
    dsimp only
    rw [List.length_append, List.length_cons, List.length_nil, wrapI (by omega) (by omega), Option.bind_some, wrapI (by omega) (by omega)]
    congr 2; omega
  rw [pushM_wet hd]
  unfold visorref19_M_Do.j4 visorref19_M_Do.j5
  by_cases k1 : o.kind = 1
  · rw [k1, show ((1 : Int) == 1) = true from rfl, cond_true, show ((1 : Int) == 2) = false from rfl, cond_false]
    simp only [show (absM m).draws = m.draws from rfl, e1]
    exact six _ _
  · by_cases k2 : o.kind = 2
    · rw [k2, show ((2 : Int) == 1) = false from rfl, cond_false, show ((2 : Int) == 2) = true from rfl, cond_true]
      simp only [show (absM m).words = m.words from rfl, e2]
      exact six _ _
    · rw [beqF k1, beqF k2, cond_false, cond_false, if_neg k1, if_neg k2]
      exact six _ _
theorem drop_head {l : List Int} {i : Nat} (h : i < l.length) : (l.drop i)[0]? = l[i]? := by rw [List.getElem?_drop]; rfl
theorem rDo_k {k : Nat} (hk : 65 ≤ k) {m : Twire_Machine} (h : MOk m) (hd : m.dry = false) (o : Tapi_Op) (x : Int) (hc : IsW o.c) (hx : IsW x) : visorref19_M_Do.m k (absM m) o x = some ((doM m o x).1, absM (doM m o x).2) := by
  have h2 := h.ops; have h5 := h.most; have hw := h.words; have hb := h.wet hd
  obtain ⟨j, rfl⟩ : ∃ j, k = j + 4 := ⟨k - 4, by omega⟩
  unfold visorref19_M_Do.m doM
  by_cases b0 : m.bad = 0
  · rw [show ((absM m).e != 0) = false by rw [show (absM m).e = 0 from b0]; rfl, cond_false, if_neg (by omega), rLen_m _ h hd, Option.bind_some, show (absM m).n = m.n from rfl, ref_Right_m _ _ _ _ h.n, Option.bind_some,
      show (absM m).words = m.words from rfl, wrap_u64_of (by omega) (by omega)]
    unfold rightM
    have one : ∀ b : Bool, visorref19_M_Do.j1 (j + 4) (absM m) o x b = if b = true then some ((failM m 1).1, absM (failM m 1).2) else (if m.most ≤ (m.ops.length : Int) then some ((failM m 3).1, absM (failM m 3).2) else
        (if o.kind = 1 then (if noMask m.tape then some ((failM m 2).1, absM (failM m 2).2) else some ((pushM (drawnM m) o (atI m.tape.words m.tape.used.v)).1, absM (pushM (drawnM m) o (atI m.tape.words m.tape.used.v)).2)) else some ((pushM m o x).1, absM (pushM m o x).2))) := by
      intro b
      unfold visorref19_M_Do.j1
      cases b
      · rw [cond_false, show (absM m).dry = false from hd, Bool.not_false, cond_true, rLen_m _ h hd, Option.bind_some, if_neg (by simp)]
        have hlen : m.len = (m.ops.length : Int) := by unfold Twire_Machine.len; omega
        unfold visorref19_M_Do.j2
        rw [show (absM m).most = m.most from rfl, hlen, show (absM m).dry = false from hd]
        by_cases hm : m.most ≤ (m.ops.length : Int)
        · rw [decide_eq_true (show (m.ops.length : Int) ≥ m.most from hm), cond_true, rFails_m _ _ _ b0, Option.bind_some, if_pos hm]; rfl
        · rw [decide_eq_false (show ¬ (m.ops.length : Int) ≥ m.most from hm), cond_false, if_neg hm]
          by_cases k1 : o.kind = 1
          · rw [show ((o.kind == 1) && !false) = true by simp [k1], cond_true, if_pos k1]
            have hu := h.used; have hf := h.free; have ht := h.tlen
            have hl : (absM m).tape.l = m.tape.words.drop m.tape.used.v.toNat := rfl
            have hlen' : (absM m).tape.l.length = m.tape.words.length - m.tape.used.v.toNat := by rw [hl, List.length_drop]
            unfold visorref19_M_Do.j3
            by_cases hn : noMask m.tape
            · rw [if_pos hn]
              have hn' := hn
              unfold noMask at hn'
              rw [show (decide ((absM m).tape.free < 1) || (((((absM m).tape.l.length : Nat)) : Int) == 0)) = true by
                rw [hlen', show (absM m).tape.free = m.tape.free from rfl, Bool.or_eq_true, decide_eq_true_eq, beq_iff_eq]; omega, cond_true, Bool.not_false, cond_true, rFails_m _ _ _ b0, Option.bind_some]; rfl
            · rw [if_neg hn]
              have hn' := hn
              unfold noMask at hn'
              rw [show (decide ((absM m).tape.free < 1) || (((((absM m).tape.l.length : Nat)) : Int) == 0)) = false by
                rw [hlen', show (absM m).tape.free = m.tape.free from rfl, Bool.or_eq_false_iff, decide_eq_false_iff_not, beq_eq_false_iff_ne]; omega, cond_false, if_pos (by omega)]
              have hi : m.tape.used.v.toNat < m.tape.words.length := by omega
              rw [hl, drop_head hi, List.getElem?_eq_getElem hi, Option.bind_some, if_pos (by rw [List.length_drop]; omega), Bool.not_true, cond_false]
              have hpush := rpush_j4 (j + 4) hk (h.draw hn) hd o (atI m.tape.words m.tape.used.v) hc (atI_w h.wtape _) (by show m.ops.length < 1048576; omega)
              rw [← hpush]
              have e1 : atI m.tape.words m.tape.used.v = m.tape.words[m.tape.used.v.toNat] := by
                unfold atI
                rw [if_pos (by omega), List.getD_eq_getElem?_getD, List.getElem?_eq_getElem hi]; rfl
              rw [e1]
              congr 1
              have e2 : cut (m.tape.words.drop m.tape.used.v.toNat) 1 (m.tape.words.drop m.tape.used.v.toNat).length = m.tape.words.drop (m.tape.used.v + 1).toNat := by
                unfold cut
                rw [List.take_length, List.drop_drop]
                congr 1; omega
              unfold absM absT drawnM
              simp only [e2]
              rw [wrapI (by omega) (by omega), wrapI (by omega) (by omega), hd]
          · rw [show ((o.kind == 1) && !false) = false by rw [beqF k1]; rfl, cond_false, if_neg k1]
            exact rpush_j4 (j + 4) hk h hd o x hc hx (by omega)
      · rw [cond_true, rFails_m _ _ _ b0, Option.bind_some, if_pos rfl]; rfl
    have tail : ∀ b : Bool, (if b = true then some ((failM m 1).1, absM (failM m 1).2) else (if m.most ≤ (m.ops.length : Int) then some ((failM m 3).1, absM (failM m 3).2) else
        (if o.kind = 1 then (if noMask m.tape then some ((failM m 2).1, absM (failM m 2).2) else some ((pushM (drawnM m) o (atI m.tape.words m.tape.used.v)).1, absM (pushM (drawnM m) o (atI m.tape.words m.tape.used.v)).2)) else some ((pushM m o x).1, absM (pushM m o x).2)))) =
        some ((if (!b) = false then failM m 1 else if m.dry = false ∧ m.most ≤ (m.ops.length : Int) then failM m 3 else if o.kind = 1 ∧ m.dry = false then (if noMask m.tape then failM m 2 else pushM (drawnM m) o (atI m.tape.words m.tape.used.v)) else pushM m o x).1,
          absM (if (!b) = false then failM m 1 else if m.dry = false ∧ m.most ≤ (m.ops.length : Int) then failM m 3 else if o.kind = 1 ∧ m.dry = false then (if noMask m.tape then failM m 2 else pushM (drawnM m) o (atI m.tape.words m.tape.used.v)) else pushM m o x).2) := by
      intro b
      cases b
      · simp only [hd, Bool.not_false, true_and, and_true, if_false, Bool.false_eq_true, Bool.true_eq_false]
        split
        · rfl
        · split
          · split <;> rfl
          · rfl
      · rfl
    cases hR : Rt o m.len m.n
    · rw [Bool.not_false, cond_true, one, tail]; rfl
    · rw [Bool.not_true, cond_false, Bool.true_and]
      by_cases k2 : o.kind = 2
      · rw [show (o.kind == 2) = true by simp [k2], cond_true, one, tail, show (o.kind != 2) = false by simp [k2], Bool.false_or]
        rw [show (o.c == m.words) = !(o.c != m.words) by simp [bne]]
      · rw [beqF k2, cond_false, one, tail, show (o.kind != 2) = true by simp [k2], Bool.true_or]; rfl
  · rw [show ((absM m).e != 0) = true by simp [absM, b0], cond_true, if_pos b0]
theorem rBegin_m (k : Nat) {m : Twire_Machine} (h : MOk m) (hd : m.dry = false) (kd : Int) : visorref19_M_Begin.m k (absM m) kd = some (absM (beginM m kd)) := by
  have h2 := h.ops; have hb := h.wet hd
  unfold visorref19_M_Begin.m beginM
  by_cases b0 : m.bad = 0
  · rw [show ((absM m).e != 0) = false by rw [show (absM m).e = 0 from b0]; rfl, cond_false, if_neg (by omega)]
    by_cases c : m.openF ≠ 0 ∨ kd < 1 ∨ kd > 3
    · have e : (((absM m).kind != 0) || decide (kd < 1) || decide (kd > 3)) = true := by
        rw [show (absM m).kind = m.openF from rfl]
        simp only [Bool.or_eq_true, bne_iff_ne, ne_eq, decide_eq_true_eq]; rcases c with c | c | c <;> simp [c]
      rw [e, cond_true, if_pos c]; rfl
    · have e : (((absM m).kind != 0) || decide (kd < 1) || decide (kd > 3)) = false := by
        rw [show (absM m).kind = m.openF from rfl]
        simp only [Bool.or_eq_false_iff, bne_eq_false_iff_eq, decide_eq_false_iff_not]; omega
      rw [e, cond_false, if_neg c]
      unfold visorref19_M_Len.m
      dsimp only
      rw [show (absM m).skip = 0 from rfl, show (absM m).ops = m.ops from rfl, wrapI (by omega) (by omega), Option.bind_some]
      unfold absM Twire_Machine.len
      dsimp only
      rw [hb]
  · rw [show ((absM m).e != 0) = true by simp [absM, b0], cond_true, if_pos b0]
theorem rEnd_m (k : Nat) {m : Twire_Machine} (h : MOk m) (hd : m.dry = false) (hbl : m.blocks.length ≤ 2097152) : visorref19_M_End.m k (absM m) = some (absM (endM m)) := by
  unfold visorref19_M_End.m endM
  by_cases b0 : m.bad = 0
  · rw [show ((absM m).e != 0) = false by rw [show (absM m).e = 0 from b0]; rfl, cond_false, if_neg (show ¬ m.bad ≠ 0 by omega)]
    by_cases c : m.openF = 0
    · rw [show ((absM m).kind == 0) = true by rw [show (absM m).kind = 0 from c]; rfl, cond_true, if_pos c]; rfl
    · rw [show ((absM m).kind == 0) = false by rw [show (absM m).kind = m.openF from rfl]; exact beqF c, cond_false, rLen_m _ h hd, Option.bind_some, if_neg c, Option.bind_some, show (absM m).fromF = m.fromF from rfl, show (absM m).blocks = m.blocks from rfl]
      unfold visorref19_M_End.j1
      rw [if_pos (by simp only [List.length_cons, List.length_nil]; omega)]
      by_cases c2 : m.fromF < m.len
      · rw [decide_eq_true (show m.len > m.fromF from c2), cond_true, if_pos ⟨c2, hd⟩]; rfl
      · rw [decide_eq_false (show ¬ m.len > m.fromF from c2), cond_false, if_neg (fun h => c2 h.1)]; rfl
  · rw [show ((absM m).e != 0) = true by simp [absM, b0], cond_true, if_pos b0]
/-! A wet machine that may be, with what is done to it as total functions: by the program, and by the document. -/
structure WMok (m : Twire_Machine) : Prop where
  ok : MOk m
  dry : m.dry = false
  bl : BlOk (m.ops.length : Int) 0 m.blocks
  fr : lastTo 0 m.blocks ≤ m.fromF ∨ m.openF = 0
  op : 0 ≤ m.openF ∧ m.openF ≤ 3
theorem WMok.len {m : Twire_Machine} (h : WMok m) : m.len = (m.ops.length : Int) := by
  unfold Twire_Machine.len; rw [h.ok.wet h.dry]; omega
theorem WMok.fail {m : Twire_Machine} (h : WMok m) (e : Int) (he : 0 ≤ e ∧ e ≤ 3) : WMok (failM m e).2 := ⟨h.ok.fail e he, h.dry, h.bl, h.fr, h.op⟩
theorem doM_keeps (m : Twire_Machine) (o : Tapi_Op) (x : Int) : (doM m o x).2.dry = m.dry ∧ (doM m o x).2.blocks = m.blocks ∧ (doM m o x).2.fromF = m.fromF ∧ (doM m o x).2.openF = m.openF ∧ (doM m o x).2.n = m.n := by
  unfold doM failM pushM drawnM
  repeat' split
  all_goals exact ⟨rfl, rfl, rfl, rfl, rfl⟩
theorem doM_grows (m : Twire_Machine) (o : Tapi_Op) (x : Int) : m.ops.length ≤ (doM m o x).2.ops.length := by
  unfold doM failM pushM drawnM
  repeat' split
  all_goals first | exact Nat.le_refl _ | (simp only [List.length_append]; omega)
theorem WMok.did {m : Twire_Machine} (h : WMok m) (o : Tapi_Op) (x : Int) : WMok (doM m o x).2 := by
  obtain ⟨h1, h2, h3, h4, _⟩ := doM_keeps m o x
  have hg := doM_grows m o x
  refine ⟨h.ok.did o x (by rw [h.ok.wet h.dry]; omega), by rw [h1]; exact h.dry, ?_, ?_, ?_⟩
  · rw [h2]; exact h.bl.mono (by omega)
  · rw [h2, h3, h4]; exact h.fr
  · rw [h4]; exact h.op
theorem WMok.begin {m : Twire_Machine} (h : WMok m) (kd : Int) : WMok (beginM m kd) := by
  have hb := h.bl.count
  unfold beginM
  repeat' split
  · exact h
  · exact h.fail 1 (by omega)
  · refine ⟨⟨h.ok.n, h.ok.most, h.ok.base, h.ok.words, h.ok.draws, h.ok.ops, h.ok.vals, h.ok.bad, h.ok.wvals, h.ok.wtape, h.ok.used, h.ok.free, h.ok.tlen, h.ok.wet, h.ok.dryV⟩, h.dry, h.bl, .inl ?_, ?_⟩
    · show lastTo 0 m.blocks ≤ m.len
      rw [h.len]; omega
    · show 0 ≤ kd ∧ kd ≤ 3
      omega
theorem WMok.fin {m : Twire_Machine} (h : WMok m) : WMok (endM m) := by
  unfold endM
  have ho := h.op
  split
  · exact h
  · split
    · exact h.fail 1 (by omega)
    · rename_i h1 h2
      have hok : MOk ⟨m.n, m.most, m.base, m.words, m.draws, m.dry, 0, m.fromF, m.bad, m.tape, m.ops, m.values, if m.fromF < m.len ∧ m.dry = false then m.blocks ++ [⟨m.openF, m.fromF, m.len⟩] else m.blocks⟩ :=
        ⟨h.ok.n, h.ok.most, h.ok.base, h.ok.words, h.ok.draws, h.ok.ops, h.ok.vals, h.ok.bad, h.ok.wvals, h.ok.wtape, h.ok.used, h.ok.free, h.ok.tlen, h.ok.wet, h.ok.dryV⟩
      refine ⟨hok, h.dry, ?_, .inr rfl, ⟨Int.le_refl 0, by show (0 : Int) ≤ 3; omega⟩⟩
      show BlOk (m.ops.length : Int) 0 (if m.fromF < m.len ∧ m.dry = false then m.blocks ++ [⟨m.openF, m.fromF, m.len⟩] else m.blocks)
      split
      · rename_i h3
        refine h.bl.snoc (by show 1 ≤ m.openF; omega) (by show m.openF ≤ 3; omega) (by show lastTo 0 m.blocks ≤ m.fromF; rcases h.fr with e | e <;> omega) h3.1 (by show m.len ≤ _; rw [h.len]; omega)
      · exact h.bl
structure WM where
  m : Twire_Machine
  w : WMok m
def WM.D (M : WM) (o : Tapi_Op) (x : Int) : Int × WM := ((doM M.m o x).1, ⟨(doM M.m o x).2, M.w.did o x⟩)
def WM.B (M : WM) (kd : Int) : WM := ⟨beginM M.m kd, M.w.begin kd⟩
def WM.E (M : WM) : WM := ⟨endM M.m, M.w.fin⟩
theorem WM.blocks (M : WM) : M.m.blocks.length ≤ 1048576 := by
  have := M.w.bl.count; have := M.w.ok.ops; omega
theorem N_w (k : Nat) (M : WM) : wire_Machine_N.m k M.m = some M.m.n := rfl
theorem D_n (M : WM) (o : Tapi_Op) (x : Int) : (M.D o x).2.m.n = M.m.n := (doM_keeps M.m o x).2.2.2.2
theorem B_n (M : WM) (kd : Int) : (M.B kd).m.n = M.m.n := by
  show (beginM M.m kd).n = M.m.n
  unfold beginM failM; repeat' split
  all_goals rfl
theorem E_n (M : WM) : M.E.m.n = M.m.n := by
  show (endM M.m).n = M.m.n
  unfold endM failM; repeat' split
  all_goals rfl
theorem Do_w {k : Nat} (hk : 4 ≤ k) (M : WM) (o : Tapi_Op) (x : Int) (hc : IsW o.c) (hx : IsW x) : wire_Machine_Do.m k M.m o x = some ((M.D o x).1, (M.D o x).2.m) := Do_k hk M.w.ok o x hc hx (by rw [M.w.ok.wet M.w.dry]; omega)
theorem Two_w {k : Nat} (hk : 4 ≤ k) (M : WM) (kd dom a b : Int) : wire_Machine_Two.m k M.m kd dom a b = some ((M.D ⟨kd, dom, a, b, -1, 0⟩ 0).1, (M.D ⟨kd, dom, a, b, -1, 0⟩ 0).2.m) := by
  unfold wire_Machine_Two.m; rw [Do_w hk M _ _ isW_zero isW_zero]; rfl
theorem Rand_w {k : Nat} (hk : 4 ≤ k) (M : WM) (dom : Int) : wire_Machine_Rand.m k M.m dom = some ((M.D ⟨1, dom, -1, -1, -1, 0⟩ 0).1, (M.D ⟨1, dom, -1, -1, -1, 0⟩ 0).2.m) := by
  unfold wire_Machine_Rand.m; rw [Do_w hk M _ _ isW_zero isW_zero]; rfl
theorem Key_w {k : Nat} (hk : 4 ≤ k) (M : WM) (x a b : Int) (hx : IsW x) : wire_Machine_Key.m k M.m x a b = some ((M.D ⟨2, 0, a, b, -1, M.m.words⟩ x).1, (M.D ⟨2, 0, a, b, -1, M.m.words⟩ x).2.m) := Key_k hk M.w.ok x a b hx (by rw [M.w.ok.wet M.w.dry]; omega)
theorem Begin_w (k : Nat) (M : WM) (kd : Int) : wire_Machine_Begin.m k M.m kd = some (M.B kd).m := Begin_m k M.w.ok kd
theorem End_w (k : Nat) (M : WM) : wire_Machine_End.m k M.m = some M.E.m := End_m k M.w.ok (by have := M.blocks; omega)
theorem rDo_w {k : Nat} (hk : 65 ≤ k) (M : WM) (o : Tapi_Op) (x : Int) (hc : IsW o.c) (hx : IsW x) : visorref19_M_Do.m k (absM M.m) o x = some ((M.D o x).1, absM (M.D o x).2.m) := rDo_k hk M.w.ok M.w.dry o x hc hx
theorem rBegin_w (k : Nat) (M : WM) (kd : Int) : visorref19_M_Begin.m k (absM M.m) kd = some (absM (M.B kd).m) := rBegin_m k M.w.ok M.w.dry kd
theorem rEnd_w (k : Nat) (M : WM) : visorref19_M_End.m k (absM M.m) = some (absM M.E.m) := rEnd_m k M.w.ok M.w.dry (by have := M.blocks; omega)
theorem rOp_w (k : Nat) (a b c d e : Int) : visorref19_Op.m k a b c d e = some ⟨a, b, c, d, -1, e⟩ := rfl
theorem absM_words (M : WM) : IntKind.u64.wrap (absM M.m).words = M.m.words := by
  have h := words_w M.w.ok
  exact wrap_u64_of h.1 (by have := h.2; show M.m.words < _; omega)
theorem words_W (M : WM) : IsW M.m.words := words_w M.w.ok
theorem W2 : IntKind.i64.wrap (1 + 1) = 2 := by decide
theorem W3 : IntKind.i64.wrap (2 + 1) = 3 := by decide
theorem W01 : IntKind.i64.wrap (0 + 1) = 1 := by decide
/-! What registers stand for. -/
def vstep (x0 : List Int) (a x : Int) : Int := if 0 ≤ a ∧ a < (x0.length : Int) then bxor .u64 x (x0.getD a.toNat 0) else x
theorem value_step (x0 : List Int) (x1 : Cells) (k j : Nat) (x a : Int) (hj : j < 3) (ha : getI .i64 x1 j = some a) :
    share_Value.l1 x0 x1 (k + 1) x (j : Int) = share_Value.l1 x0 x1 k (vstep x0 a x) ((j + 1 : Nat) : Int) := by
  have hw : IntKind.i64.wrap ((j : Int) + 1) = ((j + 1 : Nat) : Int) := by rw [wrap_i64_of (by omega) (by omega)]; omega
  conv => lhs; unfold share_Value.l1
  rw [show decide ((j : Int) < 3) = true from decide_eq_true (by omega), cond_true, if_pos (by omega), Int.toNat_natCast, ha, Option.bind_some]
  unfold vstep
  by_cases h : 0 ≤ a ∧ a < (x0.length : Int)
  · have hlt : a.toNat < x0.length := by omega
    rw [if_pos h, show (decide (a ≥ 0) && decide (a < ((x0.length : Nat) : Int))) = true by simp; omega, cond_true, if_pos h.1, List.getElem?_eq_getElem hlt, Option.bind_some]
    unfold share_Value.j1
    rw [hw, List.getD_eq_getElem?_getD, List.getElem?_eq_getElem hlt]; rfl
  · have hd : (decide (a ≥ 0) && decide (a < ((x0.length : Nat) : Int))) = false := by rw [← Bool.not_eq_true, Bool.and_eq_true, decide_eq_true_eq, decide_eq_true_eq]; exact h
    rw [if_neg h, hd, cond_false]
    unfold share_Value.j1
    rw [hw]
theorem value_end (x0 : List Int) (x1 : Cells) (k : Nat) (x : Int) : share_Value.l1 x0 x1 (k + 1) x ((3 : Nat) : Int) = some x := by unfold share_Value.l1; rfl
def val3 (x0 : List Int) (a b c : Int) : Int := vstep x0 c (vstep x0 b (vstep x0 a 0))
theorem Value_m (x0 : List Int) (a b c : Int) (k : Nat) : share_Value.m (k + 4) x0 [C.int .i64 a, C.int .i64 b, C.int .i64 c] = some (val3 x0 a b c) := by
  unfold share_Value.m
  rw [if_pos (show [C.int .i64 a, C.int .i64 b, C.int .i64 c].length = 3 from rfl)]
  have h := value_step x0 [C.int .i64 a, C.int .i64 b, C.int .i64 c] (k + 3) 0 0 a (by omega) rfl
  have h0 : ((0 : Nat) : Int) = 0 := rfl
  rw [h0] at h
  rw [h, value_step _ _ (k + 2) 1 _ b (by omega) rfl, value_step _ _ (k + 1) 2 _ c (by omega) rfl, value_end, Option.bind_some]; rfl
theorem rvalue_step (x0 : List Int) (x1 : Cells) (k j : Nat) (x a : Int) (hj : j < 3) (ha : getI .i64 x1 j = some a) :
    visorref20_Value.l1 x0 x1 (k + 1) x (j : Int) = visorref20_Value.l1 x0 x1 k (vstep x0 a x) ((j + 1 : Nat) : Int) := by
  have hw : IntKind.i64.wrap ((j : Int) + 1) = ((j + 1 : Nat) : Int) := by rw [wrap_i64_of (by omega) (by omega)]; omega
  have h0 : 0 + ((j : Nat) : Int).toNat * 1 = j := by simp
  conv => lhs; unfold visorref20_Value.l1
  rw [show decide ((j : Int) < 3) = true from decide_eq_true (by omega), cond_true, if_pos (by omega), h0, ha, Option.bind_some, if_pos (by omega), Option.bind_some, if_pos (by omega), Option.bind_some]
  unfold vstep
  by_cases h1 : 0 ≤ a
  · rw [show decide (a ≥ 0) = true from decide_eq_true h1, cond_true]
    by_cases h2 : a < (x0.length : Int)
    · have hlt : a.toNat < x0.length := by omega
      rw [show decide (a < ((x0.length : Nat) : Int)) = true from decide_eq_true h2, cond_true, if_pos h1, List.getElem?_eq_getElem hlt, Option.bind_some, if_pos ⟨h1, h2⟩]
      unfold visorref20_Value.j1
      rw [hw, List.getD_eq_getElem?_getD, List.getElem?_eq_getElem hlt]; rfl
    · rw [show decide (a < ((x0.length : Nat) : Int)) = false from decide_eq_false h2, cond_false, if_neg (fun h => h2 h.2)]
      unfold visorref20_Value.j1
      rw [hw]
  · rw [show decide (a ≥ 0) = false from decide_eq_false h1, cond_false, if_neg (fun h => h1 h.1), hw]
theorem rvalue_end (x0 : List Int) (x1 : Cells) (k : Nat) (x : Int) : visorref20_Value.l1 x0 x1 (k + 1) x ((3 : Nat) : Int) = some x := by unfold visorref20_Value.l1; rfl
theorem rValue_m (x0 : List Int) (a b c : Int) (k : Nat) : visorref20_Value.m (k + 4) x0 [C.int .i64 a, C.int .i64 b, C.int .i64 c] = some (val3 x0 a b c) := by
  unfold visorref20_Value.m
  have h := rvalue_step x0 [C.int .i64 a, C.int .i64 b, C.int .i64 c] (k + 3) 0 0 a (by omega) rfl
  have h0 : ((0 : Nat) : Int) = 0 := rfl
  rw [h0] at h
  rw [h, rvalue_step _ _ (k + 2) 1 _ b (by omega) rfl, rvalue_step _ _ (k + 1) 2 _ c (by omega) rfl, rvalue_end, Option.bind_some]; rfl
/-! What a machine's registers hold, and what words stand for. -/
def Val (M : WM) (r : Int) (x : BitVec 64) : Prop := 0 ≤ r ∧ M.m.values[r.toNat]? = some (u x)
structure Ext (M M' : WM) : Prop where
  n : M'.m.n = M.m.n
  bad : M'.m.bad = 0 → M.m.bad = 0
  vals : ∃ l, M'.m.values = M.m.values ++ l
theorem Ext.refl (M : WM) : Ext M M := ⟨rfl, id, [], by simp⟩
theorem Ext.trans {M N P : WM} (h : Ext M N) (g : Ext N P) : Ext M P := by
  obtain ⟨l, hl⟩ := h.vals
  obtain ⟨l', hl'⟩ := g.vals
  exact ⟨g.n.trans h.n, fun e => h.bad (g.bad e), l ++ l', by rw [hl', hl, List.append_assoc]⟩
theorem Val.ext {M M' : WM} {r : Int} {x : BitVec 64} (h : Val M r x) (e : Ext M M') : Val M' r x := by
  obtain ⟨l, hl⟩ := e.vals
  refine ⟨h.1, ?_⟩
  have := (List.getElem?_eq_some_iff.1 h.2).1
  rw [hl, List.getElem?_append_left this]; exact h.2
theorem Val.at {M : WM} {r : Int} {x : BitVec 64} (h : Val M r x) : atI M.m.values r = u x := by
  have := (List.getElem?_eq_some_iff.1 h.2).1
  have h0 := h.1
  unfold atI
  rw [if_pos (by omega), List.getD_eq_getElem?_getD, h.2]; rfl
theorem Val.lt {M : WM} {r : Int} {x : BitVec 64} (h : Val M r x) : 0 ≤ r ∧ r < (M.m.values.length : Int) := by
  have := (List.getElem?_eq_some_iff.1 h.2).1
  have h0 := h.1
  omega
theorem doM_ext (M : WM) (o : Tapi_Op) (x : Int) : ((M.D o x).2.m.bad = 0 → M.m.bad = 0) ∧ (∃ l, (M.D o x).2.m.values = M.m.values ++ l) := by
  show ((doM M.m o x).2.bad = 0 → M.m.bad = 0) ∧ (∃ l, (doM M.m o x).2.values = M.m.values ++ l)
  have hd := M.w.dry
  unfold doM
  repeat' split
  · exact ⟨id, [], by simp⟩
  · exact ⟨fun h => by simp [failM] at h, [], by simp [failM]⟩
  · exact ⟨fun h => by simp [failM] at h, [], by simp [failM]⟩
  · exact ⟨fun h => by simp [failM] at h, [], by simp [failM]⟩
  · rw [pushM_wet (m := drawnM M.m) hd]; exact ⟨id, _, rfl⟩
  · rw [pushM_wet hd]; exact ⟨id, _, rfl⟩
theorem D_ext (M : WM) (o : Tapi_Op) (x : Int) : Ext M (M.D o x).2 := ⟨D_n M o x, (doM_ext M o x).1, (doM_ext M o x).2⟩
theorem B_ext (M : WM) (kd : Int) : Ext M (M.B kd) := by
  refine ⟨B_n M kd, ?_, [], ?_⟩
  · show (beginM M.m kd).bad = 0 → M.m.bad = 0
    unfold beginM failM; repeat' split
    · exact id
    · intro h; cases h
    · exact id
  · show (beginM M.m kd).values = M.m.values ++ []
    unfold beginM failM; repeat' split
    all_goals simp
theorem E_ext (M : WM) : Ext M M.E := by
  refine ⟨E_n M, ?_, [], ?_⟩
  · show (endM M.m).bad = 0 → M.m.bad = 0
    unfold endM failM; repeat' split
    all_goals first | exact id | (intro h; cases h)
  · show (endM M.m).values = M.m.values ++ []
    unfold endM failM; repeat' split
    all_goals simp
/-- what a Do without an error leaves -/
theorem D_val (M : WM) (o : Tapi_Op) (x : Int) (h : (M.D o x).2.m.bad = 0) : Rt o (M.m.ops.length : Int) M.m.n = true ∧ ∃ z, (o.kind ≠ 1 → z = x) ∧ Val (M.D o x).2 (M.D o x).1 (evalW o.kind (BitVec.ofInt 64 o.c) (BitVec.ofInt 64 (atI M.m.values o.a)) (BitVec.ofInt 64 (atI M.m.values o.b)) (BitVec.ofInt 64 (atI M.m.values o.d)) (BitVec.ofInt 64 z)) := by
  change (doM M.m o x).2.bad = 0 at h
  show Rt o (M.m.ops.length : Int) M.m.n = true ∧ ∃ z, _ ∧ (0 ≤ (doM M.m o x).1 ∧ (doM M.m o x).2.values[(doM M.m o x).1.toNat]? = _)
  have hd := M.w.dry
  have hl := M.w.ok.vals
  have hlen := M.w.len
  have h' := (doM_ext M o x).1 h
  unfold doM at h ⊢
  rw [if_neg (by omega)] at h ⊢
  by_cases hr : rightM M.m o = false
  · rw [if_pos hr] at h; cases h
  · rw [if_neg hr] at h ⊢
    have hR : Rt o (M.m.ops.length : Int) M.m.n = true := by
      rw [Bool.not_eq_false] at hr
      unfold rightM at hr; rw [Bool.and_eq_true, hlen] at hr; exact hr.1
    refine ⟨hR, ?_⟩
    by_cases hm : M.m.dry = false ∧ M.m.most ≤ (M.m.ops.length : Int)
    · rw [if_pos hm] at h; cases h
    · rw [if_neg hm] at h ⊢
      by_cases k1 : o.kind = 1 ∧ M.m.dry = false
      · rw [if_pos k1] at h ⊢
        by_cases hn : noMask M.m.tape
        · rw [if_pos hn] at h; cases h
        · rw [if_neg hn] at h ⊢
          refine ⟨atI M.m.tape.words M.m.tape.used.v, fun e => absurd k1.1 e, ?_⟩
          rw [pushM_wet (m := drawnM M.m) hd]
          refine ⟨by show (0 : Int) ≤ ((M.m.ops.length : Nat) : Int); omega, ?_⟩
          show (M.m.values ++ [_])[(M.m.ops.length : Int).toNat]? = _
          rw [Int.toNat_natCast, ← hl, List.getElem?_append_right (Nat.le_refl _), Nat.sub_self]; rfl
      · rw [if_neg k1] at h ⊢
        refine ⟨x, fun _ => rfl, ?_⟩
        rw [pushM_wet hd]
        refine ⟨by show (0 : Int) ≤ ((M.m.ops.length : Nat) : Int); omega, ?_⟩
        show (M.m.values ++ [_])[(M.m.ops.length : Int).toNat]? = _
        rw [Int.toNat_natCast, ← hl, List.getElem?_append_right (Nat.le_refl _), Nat.sub_self]; rfl
/-- what a word stands for -/
def Stands (M : WM) (a b c : Int) (x : BitVec 64) : Prop :=
  (M.m.n = 2 ∧ c = -1 ∧ ∃ p q, Val M a p ∧ Val M b q ∧ x = p ^^^ q) ∨ (M.m.n = 3 ∧ ∃ p q r, Val M a p ∧ Val M b q ∧ Val M c r ∧ x = p ^^^ q ^^^ r)
theorem Stands.ext {M M' : WM} {a b c : Int} {x : BitVec 64} (h : Stands M a b c x) (e : Ext M M') : Stands M' a b c x := by
  rcases h with ⟨hn, hc, p, q, h1, h2, h3⟩ | ⟨hn, p, q, r, h1, h2, h3, h4⟩
  · exact .inl ⟨e.n.trans hn, hc, p, q, h1.ext e, h2.ext e, h3⟩
  · exact .inr ⟨e.n.trans hn, p, q, r, h1.ext e, h2.ext e, h3.ext e, h4⟩
theorem vstep_val {M : WM} {r : Int} {x y : BitVec 64} (h : Val M r x) : vstep M.m.values r (u y) = u (y ^^^ x) := by
  have := h.lt
  unfold vstep
  rw [if_pos this, List.getD_eq_getElem?_getD, h.2]
  exact bxor_u _ _
theorem Stands.val3 {M : WM} {a b c : Int} {x : BitVec 64} (h : Stands M a b c x) : val3 M.m.values a b c = u x := by
  have z : (0 : Int) = u 0#64 := rfl
  show vstep M.m.values c (vstep M.m.values b (vstep M.m.values a 0)) = u x
  rw [z]
  rcases h with ⟨hn, hc, p, q, h1, h2, h3⟩ | ⟨hn, p, q, r, h1, h2, h3, h4⟩
  · rw [vstep_val h1, vstep_val h2, hc, h3, BitVec.zero_xor]
    unfold vstep; rw [if_neg (by omega)]
  · rw [vstep_val h1, vstep_val h2, vstep_val h3, h4, BitVec.zero_xor]
/-! One step of a chain of calls, by what it leaves. -/
theorem bstep {α β : Type} {o : Option α} {v : α} {f : α → Option β} {r : Option β} (h : o = some v) (h2 : f v = r) : o.bind f = r := by rw [h]; exact h2
theorem bifT {α : Type} {c : Bool} {x y r : α} (h : c = true) (h2 : x = r) : (bif c then x else y) = r := by rw [h]; exact h2
theorem bifF {α : Type} {c : Bool} {x y r : α} (h : c = false) (h2 : y = r) : (bif c then x else y) = r := by rw [h]; exact h2
theorem iteP {α : Type} {c : Prop} {inst : Decidable c} {x y r : α} (h : c) (h2 : x = r) : (if c then x else y) = r := by rw [if_pos h]; exact h2
theorem beqT {a b : Int} (h : a = b) : (a == b) = true := by simp [h]
theorem beqN {a b : Int} (h : a ≠ b) : (a == b) = false := by simp [h]
theorem bneT {a b : Int} (h : a ≠ b) : (a != b) = true := by simp [h]
theorem bneN {a b : Int} (h : a = b) : (a != b) = false := by simp [h]
theorem N_v {k : Nat} {M : WM} {n : Int} (h : M.m.n = n) : wire_Machine_N.m k M.m = some n := by rw [N_w, h]
theorem Begin_v {k : Nat} {M B : WM} {kd : Int} (h : B = M.B kd) : wire_Machine_Begin.m k M.m kd = some B.m := by rw [Begin_w, h]
theorem End_v {k : Nat} {M B : WM} (h : B = M.E) : wire_Machine_End.m k M.m = some B.m := by rw [End_w, h]
theorem Rand_v {k : Nat} {M : WM} {X : Int × WM} {dom : Int} (h : X = M.D ⟨1, dom, -1, -1, -1, 0⟩ 0) (hk : 4 ≤ k) : wire_Machine_Rand.m k M.m dom = some (X.1, X.2.m) := by rw [Rand_w hk, h]
theorem Two_v {k : Nat} {M : WM} {X : Int × WM} {kd dom a b : Int} (h : X = M.D ⟨kd, dom, a, b, -1, 0⟩ 0) (hk : 4 ≤ k) : wire_Machine_Two.m k M.m kd dom a b = some (X.1, X.2.m) := by rw [Two_w hk, h]
theorem One_v {k : Nat} {M : WM} {X : Int × WM} {kd dom a c : Int} (h : X = M.D ⟨kd, dom, a, -1, -1, c⟩ 0) (hk : 4 ≤ k) (hc : IsW c) : wire_Machine_One.m k M.m kd dom a c = some (X.1, X.2.m) := by
  unfold wire_Machine_One.m; rw [Do_w hk M _ _ hc isW_zero, h]; rfl
theorem Const_v {k : Nat} {M : WM} {X : Int × WM} {dom c : Int} (h : X = M.D ⟨3, dom, -1, -1, -1, c⟩ 0) (hk : 4 ≤ k) (hc : IsW c) : wire_Machine_Const.m k M.m dom c = some (X.1, X.2.m) := by
  unfold wire_Machine_Const.m; rw [Do_w hk M _ _ hc isW_zero, h]; rfl
theorem Told_v {k : Nat} {M : WM} {X : Int × WM} {dom c : Int} (h : X = M.D ⟨4, dom, -1, -1, -1, c⟩ 0) (hk : 4 ≤ k) (hc : IsW c) : wire_Machine_Told.m k M.m dom c = some (X.1, X.2.m) := by
  unfold wire_Machine_Told.m; rw [Do_w hk M _ _ hc isW_zero, h]; rfl
theorem rDo_v {k : Nat} {M : WM} {X : Int × WM} {o : Tapi_Op} {x : Int} (h : X = M.D o x) (hk : 65 ≤ k) (hc : IsW o.c) (hx : IsW x) : visorref19_M_Do.m k (absM M.m) o x = some (X.1, absM X.2.m) := by rw [rDo_w hk M o x hc hx, h]
theorem rBegin_v {k : Nat} {M B : WM} {kd : Int} (h : B = M.B kd) : visorref19_M_Begin.m k (absM M.m) kd = some (absM B.m) := by rw [rBegin_w, h]
theorem rEnd_v {k : Nat} {M B : WM} (h : B = M.E) : visorref19_M_End.m k (absM M.m) = some (absM B.m) := by rw [rEnd_w, h]
/-! Steps inside a bind; what a register holds, told of a later machine. -/
theorem bassoc {α β γ : Type} {A : Option α} {g : α → Option β} {f : β → Option γ} {r : Option γ} (h : A.bind (fun x => (g x).bind f) = r) : (A.bind g).bind f = r := by cases A <;> exact h
theorem biteP {α β : Type} {c : Prop} {inst : Decidable c} {x y : Option α} {f : α → Option β} {r : Option β} (h : c) (h2 : x.bind f = r) : Option.bind (if c then x else y) f = r := by rw [if_pos h]; exact h2
theorem bbifT {α β : Type} {c : Bool} {x y : Option α} {f : α → Option β} {r : Option β} (h : c = true) (h2 : x.bind f = r) : Option.bind (bif c then x else y) f = r := by rw [h]; exact h2
theorem bbifF {α β : Type} {c : Bool} {x y : Option α} {f : α → Option β} {r : Option β} (h : c = false) (h2 : y.bind f = r) : Option.bind (bif c then x else y) f = r := by rw [h]; exact h2
theorem bsome {α β : Type} {x : α} {f : α → Option β} {r : Option β} (h : f x = r) : (some x).bind f = r := h
theorem ltT {a b n : Int} (h : b = n) (h2 : decide (a < n) = true) : decide (a < b) = true := by rw [h]; exact h2
theorem ltF {a b n : Int} (h : b = n) (h2 : decide (a < n) = false) : decide (a < b) = false := by rw [h]; exact h2
theorem Do_v {k : Nat} {M : WM} {X : Int × WM} {o : Tapi_Op} {x : Int} (h : X = M.D o x) (hk : 4 ≤ k) (hc : IsW o.c) (hx : IsW x) : wire_Machine_Do.m k M.m o x = some (X.1, X.2.m) := by rw [Do_w hk M o x hc hx, h]
theorem Key_v {k : Nat} {M : WM} {X : Int × WM} {a b x : Int} (h : X = M.D ⟨2, 0, a, b, -1, M.m.words⟩ x) (hk : 4 ≤ k) (hx : IsW x) : wire_Machine_Key.m k M.m x a b = some (X.1, X.2.m) := by rw [Key_w hk M x a b hx, h]
theorem D_vext {M : WM} {X : Int × WM} {o : Tapi_Op} {x : Int} (e : X = M.D o x) : Ext M X.2 := by rw [e]; exact D_ext ..
theorem B_vext {M B : WM} {kd : Int} (e : B = M.B kd) : Ext M B := by rw [e]; exact B_ext ..
theorem E_vext {M B : WM} (e : B = M.E) : Ext M B := by rw [e]; exact E_ext ..
theorem opRegs_reg {o : Tapi_Op} {len n : Int} (h : Rt o len n = true) (hl : 0 ≤ len) : o.a < len ∧ o.b < len ∧ o.d < len := by
  obtain ⟨h1, h2, h3⟩ := Rt_regs h hl
  omega
/-- a Do, seen from a later machine without an error -/
theorem D_at {M F : WM} {X : Int × WM} {o : Tapi_Op} {x : Int} (e : X = M.D o x) (g : Ext X.2 F) (hF : F.m.bad = 0) : ∃ z, (o.kind ≠ 1 → z = x) ∧ Val F X.1 (evalW o.kind (BitVec.ofInt 64 o.c) (BitVec.ofInt 64 (atI F.m.values o.a)) (BitVec.ofInt 64 (atI F.m.values o.b)) (BitVec.ofInt 64 (atI F.m.values o.d)) (BitVec.ofInt 64 z)) := by
  have hX := g.bad hF
  subst e
  obtain ⟨hR, z, hz, hv⟩ := D_val M o x hX
  refine ⟨z, hz, ?_⟩
  have hl := M.w.ok.vals
  obtain ⟨h1, h2, h3⟩ := opRegs_reg hR (by omega)
  obtain ⟨l, hle⟩ := ((D_ext M o x).trans g).vals
  rw [hle, atI_append (by omega), atI_append (by omega), atI_append (by omega)]
  exact hv.ext g
theorem F_rand {M F : WM} {X : Int × WM} {dom : Int} (e : X = M.D ⟨1, dom, -1, -1, -1, 0⟩ 0) (g : Ext X.2 F) (hF : F.m.bad = 0) : ∃ z, Val F X.1 z := by
  obtain ⟨z, _, hv⟩ := D_at e g hF
  exact ⟨_, hv⟩
theorem F_two {M F : WM} {X : Int × WM} {kd dom a b : Int} (e : X = M.D ⟨kd, dom, a, b, -1, 0⟩ 0) (g : Ext X.2 F) (hF : F.m.bad = 0) (hk : kd ≠ 1) {x y : BitVec 64} (ha : Val F a x) (hb : Val F b y) : Val F X.1 (evalW kd 0#64 x y 0#64 0#64) := by
  obtain ⟨z, hz, hv⟩ := D_at e g hF
  rw [hz hk] at hv
  dsimp only at hv
  rw [ha.at, hb.at, ofInt_u, ofInt_u, atI_neg (show (-1 : Int) < 0 by omega)] at hv
  exact hv
theorem F_xor {M F : WM} {X : Int × WM} {dom a b : Int} (e : X = M.D ⟨5, dom, a, b, -1, 0⟩ 0) (g : Ext X.2 F) (hF : F.m.bad = 0) {x y : BitVec 64} (ha : Val F a x) (hb : Val F b y) : Val F X.1 (x ^^^ y) := F_two e g hF (by decide) ha hb
theorem F_one {M F : WM} {X : Int × WM} {kd dom a c : Int} (e : X = M.D ⟨kd, dom, a, -1, -1, c⟩ 0) (g : Ext X.2 F) (hF : F.m.bad = 0) (hk : kd ≠ 1) {x : BitVec 64} (ha : Val F a x) : Val F X.1 (evalW kd (BitVec.ofInt 64 c) x 0#64 0#64 0#64) := by
  obtain ⟨z, hz, hv⟩ := D_at e g hF
  rw [hz hk] at hv
  dsimp only at hv
  rw [ha.at, ofInt_u, atI_neg (show (-1 : Int) < 0 by omega)] at hv
  exact hv
theorem F_not {M F : WM} {X : Int × WM} {dom a : Int} (e : X = M.D ⟨6, dom, a, -1, -1, 0⟩ 0) (g : Ext X.2 F) (hF : F.m.bad = 0) {x : BitVec 64} (ha : Val F a x) : Val F X.1 (~~~ x) := F_one e g hF (by decide) ha
theorem F_const {M F : WM} {X : Int × WM} {kd dom c : Int} (e : X = M.D ⟨kd, dom, -1, -1, -1, c⟩ 0) (g : Ext X.2 F) (hF : F.m.bad = 0) (hk : kd = 3 ∨ kd = 4) : Val F X.1 (BitVec.ofInt 64 c) := by
  obtain ⟨z, hz, hv⟩ := D_at e g hF
  rcases hk with rfl | rfl <;> exact hv
theorem F_key {M F : WM} {X : Int × WM} {dom a b c x : Int} (e : X = M.D ⟨2, dom, a, b, -1, c⟩ x) (g : Ext X.2 F) (hF : F.m.bad = 0) {y z : BitVec 64} (ha : Val F a y) (hb : Val F b z) : Val F X.1 (BitVec.ofInt 64 x ^^^ y ^^^ z) := by
  obtain ⟨w, hw, hv⟩ := D_at e g hF
  rw [hw (by decide : (2 : Int) ≠ 1)] at hv
  dsimp only at hv
  rw [ha.at, hb.at, ofInt_u, ofInt_u] at hv
  exact hv
theorem F_key1 {M F : WM} {X : Int × WM} {dom a c x : Int} (e : X = M.D ⟨2, dom, a, -1, -1, c⟩ x) (g : Ext X.2 F) (hF : F.m.bad = 0) {y : BitVec 64} (ha : Val F a y) : Val F X.1 (BitVec.ofInt 64 x ^^^ y ^^^ 0#64) := by
  obtain ⟨w, hw, hv⟩ := D_at e g hF
  rw [hw (by decide : (2 : Int) ≠ 1)] at hv
  dsimp only at hv
  rw [ha.at, atI_neg (show (-1 : Int) < 0 by omega), ofInt_u] at hv
  exact hv
/-! Words as shares: each call as a row of Do's (printed by wip/gen/gads.py). -/
def PubC (M : WM) (c : Int) (o0 o1 o2 : Int) (M' : WM) : Prop :=
  (∃ X0 : Int × WM, ∃ X1 : Int × WM, M.m.n = 2 ∧ X0 = M.D ⟨3, 0, -1, -1, -1, c⟩ 0 ∧ X1 = X0.2.D ⟨3, 1, -1, -1, -1, 0⟩ 0 ∧ o0 = X0.1 ∧ o1 = X1.1 ∧ o2 = -1 ∧ M' = X1.2) ∨
  (∃ X0 : Int × WM, ∃ X1 : Int × WM, ∃ X2 : Int × WM, M.m.n = 3 ∧ X0 = M.D ⟨3, 0, -1, -1, -1, c⟩ 0 ∧ X1 = X0.2.D ⟨3, 1, -1, -1, -1, 0⟩ 0 ∧ X2 = X1.2.D ⟨3, 2, -1, -1, -1, 0⟩ 0 ∧ o0 = X0.1 ∧ o1 = X1.1 ∧ o2 = X2.1 ∧ M' = X2.2)
theorem PubC.ex (M : WM) (c : Int) : ∃ o0 o1 o2 M', PubC M c o0 o1 o2 M' := by
  rcases M.w.ok.n with h | h
  · exact ⟨_, _, _, _, .inl ⟨_, _, h, rfl, rfl, rfl, rfl, rfl, rfl⟩⟩
  · exact ⟨_, _, _, _, .inr ⟨_, _, _, h, rfl, rfl, rfl, rfl, rfl, rfl, rfl⟩⟩
theorem PubC.ext {M M' : WM} {c : Int} {o0 o1 o2 : Int} (h : PubC M c o0 o1 o2 M') : Ext M M' := by
  rcases h with ⟨X0, X1, hn, eX0, eX1, rfl, rfl, rfl, rfl⟩ | ⟨X0, X1, X2, hn, eX0, eX1, eX2, rfl, rfl, rfl, rfl⟩
  · exact ((D_vext eX0).trans (D_vext eX1))
  · exact (((D_vext eX0).trans (D_vext eX1)).trans (D_vext eX2))
theorem PubC.c {M M' : WM} {c : Int} {o0 o1 o2 : Int} (h : PubC M c o0 o1 o2 M') (hn' : M'.m.n = 2) : o2 = -1 := by
  have hm := h.ext.n
  rcases h with ⟨X0, X1, hn, eX0, eX1, rfl, rfl, rfl, rfl⟩ | ⟨X0, X1, X2, hn, eX0, eX1, eX2, rfl, rfl, rfl, rfl⟩
  · rfl
  · omega
theorem PubC.p {k : Nat} (hk : 90 ≤ k) {M M' : WM} {c : Int} {o0 o1 o2 : Int} (h : PubC M c o0 o1 o2 M') (hw : IsW c) : share_Public.m k M.m c = some ([ci o0, ci o1, ci o2], M'.m) := by
  obtain ⟨k, rfl⟩ : ∃ j, k = j + 20 := ⟨k - 20, by omega⟩
  rcases h with ⟨X0, X1, hn, eX0, eX1, rfl, rfl, rfl, rfl⟩ | ⟨X0, X1, X2, hn, eX0, eX1, eX2, rfl, rfl, rfl, rfl⟩
  · skip
    have hm : M.m.n ≠ 3 := by omega
    have nX0 : X0.2.m.n = 2 := (D_vext eX0).n.trans hn
    have mX0 : X0.2.m.n ≠ 3 := by omega
    have nX1 : X1.2.m.n = 2 := (D_vext eX1).n.trans nX0
    have mX1 : X1.2.m.n ≠ 3 := by omega
    unfold share_Public.m
    unfold share_none.m
    repeat (first
      | with_reducible refine bstep (N_v (by assumption)) ?_
      | with_reducible refine bstep (Const_v (by assumption) (by omega) isW_zero) ?_
      | with_reducible refine bstep (Do_v (by assumption) (by omega) isW_zero isW_zero) ?_
      | with_reducible refine bstep (Const_v (by assumption) (by omega) hw) ?_
      | with_reducible refine bstep (Do_v (by assumption) (by omega) hw isW_zero) ?_
      | with_reducible refine bassoc ?_
      | with_reducible refine bsome ?_
      | ((with_reducible refine biteP ?_ ?_); · first | exact rfl | exact Nat.le_of_ble_eq_true rfl | decide)
      | ((with_reducible refine iteP ?_ ?_); · first | exact rfl | exact Nat.le_of_ble_eq_true rfl | decide)
      | ((with_reducible refine bbifT ?_ ?_); · first | decide | exact beqT (by assumption) | exact ltT (by assumption) (by decide) | exact bneT (by assumption))
      | ((with_reducible refine bbifF ?_ ?_); · first | decide | exact beqN (by assumption) | exact ltF (by assumption) (by decide) | exact bneN (by assumption))
      | ((with_reducible refine bifT ?_ ?_); · first | decide | exact beqT (by assumption) | exact ltT (by assumption) (by decide) | exact bneT (by assumption))
      | ((with_reducible refine bifF ?_ ?_); · first | decide | exact beqN (by assumption) | exact ltF (by assumption) (by decide) | exact bneN (by assumption))
      | rw [share_Public.l1]
      | rw [W01]
      | rw [W2]
      | rw [W3]
      | unfold share_Public.j1
      | ((with_reducible apply bstep); · exact rfl)
      | dsimp only)
    exact rfl
  · skip
    have hm : M.m.n ≠ 2 := by omega
    have nX0 : X0.2.m.n = 3 := (D_vext eX0).n.trans hn
    have mX0 : X0.2.m.n ≠ 2 := by omega
    have nX1 : X1.2.m.n = 3 := (D_vext eX1).n.trans nX0
    have mX1 : X1.2.m.n ≠ 2 := by omega
    have nX2 : X2.2.m.n = 3 := (D_vext eX2).n.trans nX1
    have mX2 : X2.2.m.n ≠ 2 := by omega
    unfold share_Public.m
    unfold share_none.m
    repeat (first
      | with_reducible refine bstep (N_v (by assumption)) ?_
      | with_reducible refine bstep (Const_v (by assumption) (by omega) isW_zero) ?_
      | with_reducible refine bstep (Do_v (by assumption) (by omega) isW_zero isW_zero) ?_
      | with_reducible refine bstep (Const_v (by assumption) (by omega) hw) ?_
      | with_reducible refine bstep (Do_v (by assumption) (by omega) hw isW_zero) ?_
      | with_reducible refine bassoc ?_
      | with_reducible refine bsome ?_
      | ((with_reducible refine biteP ?_ ?_); · first | exact rfl | exact Nat.le_of_ble_eq_true rfl | decide)
      | ((with_reducible refine iteP ?_ ?_); · first | exact rfl | exact Nat.le_of_ble_eq_true rfl | decide)
      | ((with_reducible refine bbifT ?_ ?_); · first | decide | exact beqT (by assumption) | exact ltT (by assumption) (by decide) | exact bneT (by assumption))
      | ((with_reducible refine bbifF ?_ ?_); · first | decide | exact beqN (by assumption) | exact ltF (by assumption) (by decide) | exact bneN (by assumption))
      | ((with_reducible refine bifT ?_ ?_); · first | decide | exact beqT (by assumption) | exact ltT (by assumption) (by decide) | exact bneT (by assumption))
      | ((with_reducible refine bifF ?_ ?_); · first | decide | exact beqN (by assumption) | exact ltF (by assumption) (by decide) | exact bneN (by assumption))
      | rw [share_Public.l1]
      | rw [W01]
      | rw [W2]
      | rw [W3]
      | unfold share_Public.j1
      | ((with_reducible apply bstep); · exact rfl)
      | dsimp only)
    exact rfl
theorem PubC.r {k : Nat} (hk : 90 ≤ k) {M M' : WM} {c : Int} {o0 o1 o2 : Int} (h : PubC M c o0 o1 o2 M') (hw : IsW c) : visorref20_Const.m k (absM M.m) 3 c = some ([ci o0, ci o1, ci o2], absM M'.m) := by
  obtain ⟨k, rfl⟩ : ∃ j, k = j + 20 := ⟨k - 20, by omega⟩
  rcases h with ⟨X0, X1, hn, eX0, eX1, rfl, rfl, rfl, rfl⟩ | ⟨X0, X1, X2, hn, eX0, eX1, eX2, rfl, rfl, rfl, rfl⟩
  · skip
    have hm : M.m.n ≠ 3 := by omega
    have nX0 : X0.2.m.n = 2 := (D_vext eX0).n.trans hn
    have mX0 : X0.2.m.n ≠ 3 := by omega
    have nX1 : X1.2.m.n = 2 := (D_vext eX1).n.trans nX0
    have mX1 : X1.2.m.n ≠ 3 := by omega
    unfold visorref20_Const.m
    unfold visorref20_None.m
    repeat (first
      | with_reducible refine bstep (rOp_w ..) ?_
      | with_reducible refine bstep (rDo_v (by assumption) (by omega) isW_zero isW_zero) ?_
      | with_reducible refine bstep (rDo_v (by assumption) (by omega) hw isW_zero) ?_
      | with_reducible refine bassoc ?_
      | with_reducible refine bsome ?_
      | ((with_reducible refine biteP ?_ ?_); · first | exact rfl | exact Nat.le_of_ble_eq_true rfl | decide)
      | ((with_reducible refine iteP ?_ ?_); · first | exact rfl | exact Nat.le_of_ble_eq_true rfl | decide)
      | ((with_reducible refine bbifT ?_ ?_); · first | decide | exact beqT (by assumption) | exact ltT (by assumption) (by decide) | exact bneT (by assumption))
      | ((with_reducible refine bbifF ?_ ?_); · first | decide | exact beqN (by assumption) | exact ltF (by assumption) (by decide) | exact bneN (by assumption))
      | ((with_reducible refine bifT ?_ ?_); · first | decide | exact beqT (by assumption) | exact ltT (by assumption) (by decide) | exact bneT (by assumption))
      | ((with_reducible refine bifF ?_ ?_); · first | decide | exact beqN (by assumption) | exact ltF (by assumption) (by decide) | exact bneN (by assumption))
      | rw [visorref20_Const.l1]
      | rw [W01]
      | rw [W2]
      | rw [W3]
      | ((with_reducible apply bstep); · exact rfl)
      | dsimp only)
    exact rfl
  · skip
    have hm : M.m.n ≠ 2 := by omega
    have nX0 : X0.2.m.n = 3 := (D_vext eX0).n.trans hn
    have mX0 : X0.2.m.n ≠ 2 := by omega
    have nX1 : X1.2.m.n = 3 := (D_vext eX1).n.trans nX0
    have mX1 : X1.2.m.n ≠ 2 := by omega
    have nX2 : X2.2.m.n = 3 := (D_vext eX2).n.trans nX1
    have mX2 : X2.2.m.n ≠ 2 := by omega
    unfold visorref20_Const.m
    unfold visorref20_None.m
    repeat (first
      | with_reducible refine bstep (rOp_w ..) ?_
      | with_reducible refine bstep (rDo_v (by assumption) (by omega) isW_zero isW_zero) ?_
      | with_reducible refine bstep (rDo_v (by assumption) (by omega) hw isW_zero) ?_
      | with_reducible refine bassoc ?_
      | with_reducible refine bsome ?_
      | ((with_reducible refine biteP ?_ ?_); · first | exact rfl | exact Nat.le_of_ble_eq_true rfl | decide)
      | ((with_reducible refine iteP ?_ ?_); · first | exact rfl | exact Nat.le_of_ble_eq_true rfl | decide)
      | ((with_reducible refine bbifT ?_ ?_); · first | decide | exact beqT (by assumption) | exact ltT (by assumption) (by decide) | exact bneT (by assumption))
      | ((with_reducible refine bbifF ?_ ?_); · first | decide | exact beqN (by assumption) | exact ltF (by assumption) (by decide) | exact bneN (by assumption))
      | ((with_reducible refine bifT ?_ ?_); · first | decide | exact beqT (by assumption) | exact ltT (by assumption) (by decide) | exact bneT (by assumption))
      | ((with_reducible refine bifF ?_ ?_); · first | decide | exact beqN (by assumption) | exact ltF (by assumption) (by decide) | exact bneN (by assumption))
      | rw [visorref20_Const.l1]
      | rw [W01]
      | rw [W2]
      | rw [W3]
      | ((with_reducible apply bstep); · exact rfl)
      | dsimp only)
    exact rfl
theorem PubC.s {M M' F : WM} {c : Int} {o0 o1 o2 : Int} (h : PubC M c o0 o1 o2 M') (x : Ext M' F) (hF : F.m.bad = 0) : Stands F o0 o1 o2 (BitVec.ofInt 64 c) := by
  rcases h with ⟨X0, X1, hn, eX0, eX1, rfl, rfl, rfl, rfl⟩ | ⟨X0, X1, X2, hn, eX0, eX1, eX2, rfl, rfl, rfl, rfl⟩
  · have x2 := x
    have x1 := (D_vext eX1).trans x2
    have x0 := (D_vext eX0).trans x1
    have nF : F.m.n = 2 := x0.n.trans hn
    have vX0 := F_const eX0 x1 hF (by decide)
    have vX1 := F_const eX1 x2 hF (by decide)
    refine .inl ⟨nF, rfl, _, _, vX0, vX1, ?_⟩
    simp
  · have x3 := x
    have x2 := (D_vext eX2).trans x3
    have x1 := (D_vext eX1).trans x2
    have x0 := (D_vext eX0).trans x1
    have nF : F.m.n = 3 := x0.n.trans hn
    have vX0 := F_const eX0 x1 hF (by decide)
    have vX1 := F_const eX1 x2 hF (by decide)
    have vX2 := F_const eX2 x3 hF (by decide)
    refine .inr ⟨nF, _, _, _, vX0, vX1, vX2, ?_⟩
    simp
def TldC (M : WM) (c : Int) (o0 o1 o2 : Int) (M' : WM) : Prop :=
  (∃ X0 : Int × WM, ∃ X1 : Int × WM, M.m.n = 2 ∧ X0 = M.D ⟨4, 0, -1, -1, -1, c⟩ 0 ∧ X1 = X0.2.D ⟨3, 1, -1, -1, -1, 0⟩ 0 ∧ o0 = X0.1 ∧ o1 = X1.1 ∧ o2 = -1 ∧ M' = X1.2) ∨
  (∃ X0 : Int × WM, ∃ X1 : Int × WM, ∃ X2 : Int × WM, M.m.n = 3 ∧ X0 = M.D ⟨4, 0, -1, -1, -1, c⟩ 0 ∧ X1 = X0.2.D ⟨3, 1, -1, -1, -1, 0⟩ 0 ∧ X2 = X1.2.D ⟨3, 2, -1, -1, -1, 0⟩ 0 ∧ o0 = X0.1 ∧ o1 = X1.1 ∧ o2 = X2.1 ∧ M' = X2.2)
theorem TldC.ex (M : WM) (c : Int) : ∃ o0 o1 o2 M', TldC M c o0 o1 o2 M' := by
  rcases M.w.ok.n with h | h
  · exact ⟨_, _, _, _, .inl ⟨_, _, h, rfl, rfl, rfl, rfl, rfl, rfl⟩⟩
  · exact ⟨_, _, _, _, .inr ⟨_, _, _, h, rfl, rfl, rfl, rfl, rfl, rfl, rfl⟩⟩
theorem TldC.ext {M M' : WM} {c : Int} {o0 o1 o2 : Int} (h : TldC M c o0 o1 o2 M') : Ext M M' := by
  rcases h with ⟨X0, X1, hn, eX0, eX1, rfl, rfl, rfl, rfl⟩ | ⟨X0, X1, X2, hn, eX0, eX1, eX2, rfl, rfl, rfl, rfl⟩
  · exact ((D_vext eX0).trans (D_vext eX1))
  · exact (((D_vext eX0).trans (D_vext eX1)).trans (D_vext eX2))
theorem TldC.c {M M' : WM} {c : Int} {o0 o1 o2 : Int} (h : TldC M c o0 o1 o2 M') (hn' : M'.m.n = 2) : o2 = -1 := by
  have hm := h.ext.n
  rcases h with ⟨X0, X1, hn, eX0, eX1, rfl, rfl, rfl, rfl⟩ | ⟨X0, X1, X2, hn, eX0, eX1, eX2, rfl, rfl, rfl, rfl⟩
  · rfl
  · omega
theorem TldC.p {k : Nat} (hk : 90 ≤ k) {M M' : WM} {c : Int} {o0 o1 o2 : Int} (h : TldC M c o0 o1 o2 M') (hw : IsW c) : share_Told.m k M.m c = some ([ci o0, ci o1, ci o2], M'.m) := by
  obtain ⟨k, rfl⟩ : ∃ j, k = j + 20 := ⟨k - 20, by omega⟩
  rcases h with ⟨X0, X1, hn, eX0, eX1, rfl, rfl, rfl, rfl⟩ | ⟨X0, X1, X2, hn, eX0, eX1, eX2, rfl, rfl, rfl, rfl⟩
  · skip
    have hm : M.m.n ≠ 3 := by omega
    have nX0 : X0.2.m.n = 2 := (D_vext eX0).n.trans hn
    have mX0 : X0.2.m.n ≠ 3 := by omega
    have nX1 : X1.2.m.n = 2 := (D_vext eX1).n.trans nX0
    have mX1 : X1.2.m.n ≠ 3 := by omega
    unfold share_Told.m
    unfold share_none.m
    repeat (first
      | with_reducible refine bstep (N_v (by assumption)) ?_
      | with_reducible refine bstep (Const_v (by assumption) (by omega) isW_zero) ?_
      | with_reducible refine bstep (Told_v (by assumption) (by omega) isW_zero) ?_
      | with_reducible refine bstep (Do_v (by assumption) (by omega) isW_zero isW_zero) ?_
      | with_reducible refine bstep (Const_v (by assumption) (by omega) hw) ?_
      | with_reducible refine bstep (Told_v (by assumption) (by omega) hw) ?_
      | with_reducible refine bstep (Do_v (by assumption) (by omega) hw isW_zero) ?_
      | with_reducible refine bassoc ?_
      | with_reducible refine bsome ?_
      | ((with_reducible refine biteP ?_ ?_); · first | exact rfl | exact Nat.le_of_ble_eq_true rfl | decide)
      | ((with_reducible refine iteP ?_ ?_); · first | exact rfl | exact Nat.le_of_ble_eq_true rfl | decide)
      | ((with_reducible refine bbifT ?_ ?_); · first | decide | exact beqT (by assumption) | exact ltT (by assumption) (by decide) | exact bneT (by assumption))
      | ((with_reducible refine bbifF ?_ ?_); · first | decide | exact beqN (by assumption) | exact ltF (by assumption) (by decide) | exact bneN (by assumption))
      | ((with_reducible refine bifT ?_ ?_); · first | decide | exact beqT (by assumption) | exact ltT (by assumption) (by decide) | exact bneT (by assumption))
      | ((with_reducible refine bifF ?_ ?_); · first | decide | exact beqN (by assumption) | exact ltF (by assumption) (by decide) | exact bneN (by assumption))
      | rw [share_Told.l1]
      | rw [W01]
      | rw [W2]
      | rw [W3]
      | unfold share_Told.j1
      | ((with_reducible apply bstep); · exact rfl)
      | dsimp only)
    exact rfl
  · skip
    have hm : M.m.n ≠ 2 := by omega
    have nX0 : X0.2.m.n = 3 := (D_vext eX0).n.trans hn
    have mX0 : X0.2.m.n ≠ 2 := by omega
    have nX1 : X1.2.m.n = 3 := (D_vext eX1).n.trans nX0
    have mX1 : X1.2.m.n ≠ 2 := by omega
    have nX2 : X2.2.m.n = 3 := (D_vext eX2).n.trans nX1
    have mX2 : X2.2.m.n ≠ 2 := by omega
    unfold share_Told.m
    unfold share_none.m
    repeat (first
      | with_reducible refine bstep (N_v (by assumption)) ?_
      | with_reducible refine bstep (Const_v (by assumption) (by omega) isW_zero) ?_
      | with_reducible refine bstep (Told_v (by assumption) (by omega) isW_zero) ?_
      | with_reducible refine bstep (Do_v (by assumption) (by omega) isW_zero isW_zero) ?_
      | with_reducible refine bstep (Const_v (by assumption) (by omega) hw) ?_
      | with_reducible refine bstep (Told_v (by assumption) (by omega) hw) ?_
      | with_reducible refine bstep (Do_v (by assumption) (by omega) hw isW_zero) ?_
      | with_reducible refine bassoc ?_
      | with_reducible refine bsome ?_
      | ((with_reducible refine biteP ?_ ?_); · first | exact rfl | exact Nat.le_of_ble_eq_true rfl | decide)
      | ((with_reducible refine iteP ?_ ?_); · first | exact rfl | exact Nat.le_of_ble_eq_true rfl | decide)
      | ((with_reducible refine bbifT ?_ ?_); · first | decide | exact beqT (by assumption) | exact ltT (by assumption) (by decide) | exact bneT (by assumption))
      | ((with_reducible refine bbifF ?_ ?_); · first | decide | exact beqN (by assumption) | exact ltF (by assumption) (by decide) | exact bneN (by assumption))
      | ((with_reducible refine bifT ?_ ?_); · first | decide | exact beqT (by assumption) | exact ltT (by assumption) (by decide) | exact bneT (by assumption))
      | ((with_reducible refine bifF ?_ ?_); · first | decide | exact beqN (by assumption) | exact ltF (by assumption) (by decide) | exact bneN (by assumption))
      | rw [share_Told.l1]
      | rw [W01]
      | rw [W2]
      | rw [W3]
      | unfold share_Told.j1
      | ((with_reducible apply bstep); · exact rfl)
      | dsimp only)
    exact rfl
theorem TldC.r {k : Nat} (hk : 90 ≤ k) {M M' : WM} {c : Int} {o0 o1 o2 : Int} (h : TldC M c o0 o1 o2 M') (hw : IsW c) : visorref20_Const.m k (absM M.m) 4 c = some ([ci o0, ci o1, ci o2], absM M'.m) := by
  obtain ⟨k, rfl⟩ : ∃ j, k = j + 20 := ⟨k - 20, by omega⟩
  rcases h with ⟨X0, X1, hn, eX0, eX1, rfl, rfl, rfl, rfl⟩ | ⟨X0, X1, X2, hn, eX0, eX1, eX2, rfl, rfl, rfl, rfl⟩
  · skip
    have hm : M.m.n ≠ 3 := by omega
    have nX0 : X0.2.m.n = 2 := (D_vext eX0).n.trans hn
    have mX0 : X0.2.m.n ≠ 3 := by omega
    have nX1 : X1.2.m.n = 2 := (D_vext eX1).n.trans nX0
    have mX1 : X1.2.m.n ≠ 3 := by omega
    unfold visorref20_Const.m
    unfold visorref20_None.m
    repeat (first
      | with_reducible refine bstep (rOp_w ..) ?_
      | with_reducible refine bstep (rDo_v (by assumption) (by omega) isW_zero isW_zero) ?_
      | with_reducible refine bstep (rDo_v (by assumption) (by omega) hw isW_zero) ?_
      | with_reducible refine bassoc ?_
      | with_reducible refine bsome ?_
      | ((with_reducible refine biteP ?_ ?_); · first | exact rfl | exact Nat.le_of_ble_eq_true rfl | decide)
      | ((with_reducible refine iteP ?_ ?_); · first | exact rfl | exact Nat.le_of_ble_eq_true rfl | decide)
      | ((with_reducible refine bbifT ?_ ?_); · first | decide | exact beqT (by assumption) | exact ltT (by assumption) (by decide) | exact bneT (by assumption))
      | ((with_reducible refine bbifF ?_ ?_); · first | decide | exact beqN (by assumption) | exact ltF (by assumption) (by decide) | exact bneN (by assumption))
      | ((with_reducible refine bifT ?_ ?_); · first | decide | exact beqT (by assumption) | exact ltT (by assumption) (by decide) | exact bneT (by assumption))
      | ((with_reducible refine bifF ?_ ?_); · first | decide | exact beqN (by assumption) | exact ltF (by assumption) (by decide) | exact bneN (by assumption))
      | rw [visorref20_Const.l1]
      | rw [W01]
      | rw [W2]
      | rw [W3]
      | ((with_reducible apply bstep); · exact rfl)
      | dsimp only)
    exact rfl
  · skip
    have hm : M.m.n ≠ 2 := by omega
    have nX0 : X0.2.m.n = 3 := (D_vext eX0).n.trans hn
    have mX0 : X0.2.m.n ≠ 2 := by omega
    have nX1 : X1.2.m.n = 3 := (D_vext eX1).n.trans nX0
    have mX1 : X1.2.m.n ≠ 2 := by omega
    have nX2 : X2.2.m.n = 3 := (D_vext eX2).n.trans nX1
    have mX2 : X2.2.m.n ≠ 2 := by omega
    unfold visorref20_Const.m
    unfold visorref20_None.m
    repeat (first
      | with_reducible refine bstep (rOp_w ..) ?_
      | with_reducible refine bstep (rDo_v (by assumption) (by omega) isW_zero isW_zero) ?_
      | with_reducible refine bstep (rDo_v (by assumption) (by omega) hw isW_zero) ?_
      | with_reducible refine bassoc ?_
      | with_reducible refine bsome ?_
      | ((with_reducible refine biteP ?_ ?_); · first | exact rfl | exact Nat.le_of_ble_eq_true rfl | decide)
      | ((with_reducible refine iteP ?_ ?_); · first | exact rfl | exact Nat.le_of_ble_eq_true rfl | decide)
      | ((with_reducible refine bbifT ?_ ?_); · first | decide | exact beqT (by assumption) | exact ltT (by assumption) (by decide) | exact bneT (by assumption))
      | ((with_reducible refine bbifF ?_ ?_); · first | decide | exact beqN (by assumption) | exact ltF (by assumption) (by decide) | exact bneN (by assumption))
      | ((with_reducible refine bifT ?_ ?_); · first | decide | exact beqT (by assumption) | exact ltT (by assumption) (by decide) | exact bneT (by assumption))
      | ((with_reducible refine bifF ?_ ?_); · first | decide | exact beqN (by assumption) | exact ltF (by assumption) (by decide) | exact bneN (by assumption))
      | rw [visorref20_Const.l1]
      | rw [W01]
      | rw [W2]
      | rw [W3]
      | ((with_reducible apply bstep); · exact rfl)
      | dsimp only)
    exact rfl
theorem TldC.s {M M' F : WM} {c : Int} {o0 o1 o2 : Int} (h : TldC M c o0 o1 o2 M') (x : Ext M' F) (hF : F.m.bad = 0) : Stands F o0 o1 o2 (BitVec.ofInt 64 c) := by
  rcases h with ⟨X0, X1, hn, eX0, eX1, rfl, rfl, rfl, rfl⟩ | ⟨X0, X1, X2, hn, eX0, eX1, eX2, rfl, rfl, rfl, rfl⟩
  · have x2 := x
    have x1 := (D_vext eX1).trans x2
    have x0 := (D_vext eX0).trans x1
    have nF : F.m.n = 2 := x0.n.trans hn
    have vX0 := F_const eX0 x1 hF (by decide)
    have vX1 := F_const eX1 x2 hF (by decide)
    refine .inl ⟨nF, rfl, _, _, vX0, vX1, ?_⟩
    simp
  · have x3 := x
    have x2 := (D_vext eX2).trans x3
    have x1 := (D_vext eX1).trans x2
    have x0 := (D_vext eX0).trans x1
    have nF : F.m.n = 3 := x0.n.trans hn
    have vX0 := F_const eX0 x1 hF (by decide)
    have vX1 := F_const eX1 x2 hF (by decide)
    have vX2 := F_const eX2 x3 hF (by decide)
    refine .inr ⟨nF, _, _, _, vX0, vX1, vX2, ?_⟩
    simp
def XrC (M : WM) (a0 : Int) (b0 : Int) (c0 : Int) (a1 : Int) (b1 : Int) (c1 : Int) (o0 o1 o2 : Int) (M' : WM) : Prop :=
  (∃ X0 : Int × WM, ∃ X1 : Int × WM, M.m.n = 2 ∧ X0 = M.D ⟨5, 0, a0, a1, -1, 0⟩ 0 ∧ X1 = X0.2.D ⟨5, 1, b0, b1, -1, 0⟩ 0 ∧ o0 = X0.1 ∧ o1 = X1.1 ∧ o2 = -1 ∧ M' = X1.2) ∨
  (∃ X0 : Int × WM, ∃ X1 : Int × WM, ∃ X2 : Int × WM, M.m.n = 3 ∧ X0 = M.D ⟨5, 0, a0, a1, -1, 0⟩ 0 ∧ X1 = X0.2.D ⟨5, 1, b0, b1, -1, 0⟩ 0 ∧ X2 = X1.2.D ⟨5, 2, c0, c1, -1, 0⟩ 0 ∧ o0 = X0.1 ∧ o1 = X1.1 ∧ o2 = X2.1 ∧ M' = X2.2)
theorem XrC.ex (M : WM) (a0 : Int) (b0 : Int) (c0 : Int) (a1 : Int) (b1 : Int) (c1 : Int) : ∃ o0 o1 o2 M', XrC M a0 b0 c0 a1 b1 c1 o0 o1 o2 M' := by
  rcases M.w.ok.n with h | h
  · exact ⟨_, _, _, _, .inl ⟨_, _, h, rfl, rfl, rfl, rfl, rfl, rfl⟩⟩
  · exact ⟨_, _, _, _, .inr ⟨_, _, _, h, rfl, rfl, rfl, rfl, rfl, rfl, rfl⟩⟩
theorem XrC.ext {M M' : WM} {a0 : Int} {b0 : Int} {c0 : Int} {a1 : Int} {b1 : Int} {c1 : Int} {o0 o1 o2 : Int} (h : XrC M a0 b0 c0 a1 b1 c1 o0 o1 o2 M') : Ext M M' := by
  rcases h with ⟨X0, X1, hn, eX0, eX1, rfl, rfl, rfl, rfl⟩ | ⟨X0, X1, X2, hn, eX0, eX1, eX2, rfl, rfl, rfl, rfl⟩
  · exact ((D_vext eX0).trans (D_vext eX1))
  · exact (((D_vext eX0).trans (D_vext eX1)).trans (D_vext eX2))
theorem XrC.c {M M' : WM} {a0 : Int} {b0 : Int} {c0 : Int} {a1 : Int} {b1 : Int} {c1 : Int} {o0 o1 o2 : Int} (h : XrC M a0 b0 c0 a1 b1 c1 o0 o1 o2 M') (hn' : M'.m.n = 2) : o2 = -1 := by
  have hm := h.ext.n
  rcases h with ⟨X0, X1, hn, eX0, eX1, rfl, rfl, rfl, rfl⟩ | ⟨X0, X1, X2, hn, eX0, eX1, eX2, rfl, rfl, rfl, rfl⟩
  · rfl
  · omega
theorem XrC.p {k : Nat} (hk : 90 ≤ k) {M M' : WM} {a0 : Int} {b0 : Int} {c0 : Int} {a1 : Int} {b1 : Int} {c1 : Int} {o0 o1 o2 : Int} (h : XrC M a0 b0 c0 a1 b1 c1 o0 o1 o2 M') : share_Xor.m k M.m [ci a0, ci b0, ci c0] [ci a1, ci b1, ci c1] = some ([ci o0, ci o1, ci o2], M'.m) := by
  obtain ⟨k, rfl⟩ : ∃ j, k = j + 20 := ⟨k - 20, by omega⟩
  rcases h with ⟨X0, X1, hn, eX0, eX1, rfl, rfl, rfl, rfl⟩ | ⟨X0, X1, X2, hn, eX0, eX1, eX2, rfl, rfl, rfl, rfl⟩
  · skip
    have hm : M.m.n ≠ 3 := by omega
    have nX0 : X0.2.m.n = 2 := (D_vext eX0).n.trans hn
    have mX0 : X0.2.m.n ≠ 3 := by omega
    have nX1 : X1.2.m.n = 2 := (D_vext eX1).n.trans nX0
    have mX1 : X1.2.m.n ≠ 3 := by omega
    unfold share_Xor.m
    unfold share_none.m
    repeat (first
      | with_reducible refine bstep (N_v (by assumption)) ?_
      | with_reducible refine bstep (Two_v (by assumption) (by omega)) ?_
      | with_reducible refine bstep (Do_v (by assumption) (by omega) isW_zero isW_zero) ?_
      | with_reducible refine bassoc ?_
      | with_reducible refine bsome ?_
      | ((with_reducible refine biteP ?_ ?_); · first | exact rfl | exact Nat.le_of_ble_eq_true rfl | decide)
      | ((with_reducible refine iteP ?_ ?_); · first | exact rfl | exact Nat.le_of_ble_eq_true rfl | decide)
      | ((with_reducible refine bbifT ?_ ?_); · first | decide | exact beqT (by assumption) | exact ltT (by assumption) (by decide) | exact bneT (by assumption))
      | ((with_reducible refine bbifF ?_ ?_); · first | decide | exact beqN (by assumption) | exact ltF (by assumption) (by decide) | exact bneN (by assumption))
      | ((with_reducible refine bifT ?_ ?_); · first | decide | exact beqT (by assumption) | exact ltT (by assumption) (by decide) | exact bneT (by assumption))
      | ((with_reducible refine bifF ?_ ?_); · first | decide | exact beqN (by assumption) | exact ltF (by assumption) (by decide) | exact bneN (by assumption))
      | rw [share_Xor.l1]
      | rw [W01]
      | rw [W2]
      | rw [W3]
      | ((with_reducible apply bstep); · exact rfl)
      | dsimp only)
    exact rfl
  · skip
    have hm : M.m.n ≠ 2 := by omega
    have nX0 : X0.2.m.n = 3 := (D_vext eX0).n.trans hn
    have mX0 : X0.2.m.n ≠ 2 := by omega
    have nX1 : X1.2.m.n = 3 := (D_vext eX1).n.trans nX0
    have mX1 : X1.2.m.n ≠ 2 := by omega
    have nX2 : X2.2.m.n = 3 := (D_vext eX2).n.trans nX1
    have mX2 : X2.2.m.n ≠ 2 := by omega
    unfold share_Xor.m
    unfold share_none.m
    repeat (first
      | with_reducible refine bstep (N_v (by assumption)) ?_
      | with_reducible refine bstep (Two_v (by assumption) (by omega)) ?_
      | with_reducible refine bstep (Do_v (by assumption) (by omega) isW_zero isW_zero) ?_
      | with_reducible refine bassoc ?_
      | with_reducible refine bsome ?_
      | ((with_reducible refine biteP ?_ ?_); · first | exact rfl | exact Nat.le_of_ble_eq_true rfl | decide)
      | ((with_reducible refine iteP ?_ ?_); · first | exact rfl | exact Nat.le_of_ble_eq_true rfl | decide)
      | ((with_reducible refine bbifT ?_ ?_); · first | decide | exact beqT (by assumption) | exact ltT (by assumption) (by decide) | exact bneT (by assumption))
      | ((with_reducible refine bbifF ?_ ?_); · first | decide | exact beqN (by assumption) | exact ltF (by assumption) (by decide) | exact bneN (by assumption))
      | ((with_reducible refine bifT ?_ ?_); · first | decide | exact beqT (by assumption) | exact ltT (by assumption) (by decide) | exact bneT (by assumption))
      | ((with_reducible refine bifF ?_ ?_); · first | decide | exact beqN (by assumption) | exact ltF (by assumption) (by decide) | exact bneN (by assumption))
      | rw [share_Xor.l1]
      | rw [W01]
      | rw [W2]
      | rw [W3]
      | ((with_reducible apply bstep); · exact rfl)
      | dsimp only)
    exact rfl
theorem XrC.r {k : Nat} (hk : 90 ≤ k) {M M' : WM} {a0 : Int} {b0 : Int} {c0 : Int} {a1 : Int} {b1 : Int} {c1 : Int} {o0 o1 o2 : Int} (h : XrC M a0 b0 c0 a1 b1 c1 o0 o1 o2 M') : visorref20_Xor.m k (absM M.m) [ci a0, ci b0, ci c0] [ci a1, ci b1, ci c1] = some ([ci o0, ci o1, ci o2], absM M'.m) := by
  obtain ⟨k, rfl⟩ : ∃ j, k = j + 20 := ⟨k - 20, by omega⟩
  rcases h with ⟨X0, X1, hn, eX0, eX1, rfl, rfl, rfl, rfl⟩ | ⟨X0, X1, X2, hn, eX0, eX1, eX2, rfl, rfl, rfl, rfl⟩
  · skip
    have hm : M.m.n ≠ 3 := by omega
    have nX0 : X0.2.m.n = 2 := (D_vext eX0).n.trans hn
    have mX0 : X0.2.m.n ≠ 3 := by omega
    have nX1 : X1.2.m.n = 2 := (D_vext eX1).n.trans nX0
    have mX1 : X1.2.m.n ≠ 3 := by omega
    unfold visorref20_Xor.m
    unfold visorref20_None.m
    repeat (first
      | with_reducible refine bstep (rOp_w ..) ?_
      | with_reducible refine bstep (rDo_v (by assumption) (by omega) isW_zero isW_zero) ?_
      | with_reducible refine bassoc ?_
      | with_reducible refine bsome ?_
      | ((with_reducible refine biteP ?_ ?_); · first | exact rfl | exact Nat.le_of_ble_eq_true rfl | decide)
      | ((with_reducible refine iteP ?_ ?_); · first | exact rfl | exact Nat.le_of_ble_eq_true rfl | decide)
      | ((with_reducible refine bbifT ?_ ?_); · first | decide | exact beqT (by assumption) | exact ltT (by assumption) (by decide) | exact bneT (by assumption))
      | ((with_reducible refine bbifF ?_ ?_); · first | decide | exact beqN (by assumption) | exact ltF (by assumption) (by decide) | exact bneN (by assumption))
      | ((with_reducible refine bifT ?_ ?_); · first | decide | exact beqT (by assumption) | exact ltT (by assumption) (by decide) | exact bneT (by assumption))
      | ((with_reducible refine bifF ?_ ?_); · first | decide | exact beqN (by assumption) | exact ltF (by assumption) (by decide) | exact bneN (by assumption))
      | rw [visorref20_Xor.l1]
      | rw [W01]
      | rw [W2]
      | rw [W3]
      | ((with_reducible apply bstep); · exact rfl)
      | dsimp only)
    exact rfl
  · skip
    have hm : M.m.n ≠ 2 := by omega
    have nX0 : X0.2.m.n = 3 := (D_vext eX0).n.trans hn
    have mX0 : X0.2.m.n ≠ 2 := by omega
    have nX1 : X1.2.m.n = 3 := (D_vext eX1).n.trans nX0
    have mX1 : X1.2.m.n ≠ 2 := by omega
    have nX2 : X2.2.m.n = 3 := (D_vext eX2).n.trans nX1
    have mX2 : X2.2.m.n ≠ 2 := by omega
    unfold visorref20_Xor.m
    unfold visorref20_None.m
    repeat (first
      | with_reducible refine bstep (rOp_w ..) ?_
      | with_reducible refine bstep (rDo_v (by assumption) (by omega) isW_zero isW_zero) ?_
      | with_reducible refine bassoc ?_
      | with_reducible refine bsome ?_
      | ((with_reducible refine biteP ?_ ?_); · first | exact rfl | exact Nat.le_of_ble_eq_true rfl | decide)
      | ((with_reducible refine iteP ?_ ?_); · first | exact rfl | exact Nat.le_of_ble_eq_true rfl | decide)
      | ((with_reducible refine bbifT ?_ ?_); · first | decide | exact beqT (by assumption) | exact ltT (by assumption) (by decide) | exact bneT (by assumption))
      | ((with_reducible refine bbifF ?_ ?_); · first | decide | exact beqN (by assumption) | exact ltF (by assumption) (by decide) | exact bneN (by assumption))
      | ((with_reducible refine bifT ?_ ?_); · first | decide | exact beqT (by assumption) | exact ltT (by assumption) (by decide) | exact bneT (by assumption))
      | ((with_reducible refine bifF ?_ ?_); · first | decide | exact beqN (by assumption) | exact ltF (by assumption) (by decide) | exact bneN (by assumption))
      | rw [visorref20_Xor.l1]
      | rw [W01]
      | rw [W2]
      | rw [W3]
      | ((with_reducible apply bstep); · exact rfl)
      | dsimp only)
    exact rfl
theorem XrC.s {M M' F : WM} {a0 : Int} {b0 : Int} {c0 : Int} {a1 : Int} {b1 : Int} {c1 : Int} {o0 o1 o2 : Int} (h : XrC M a0 b0 c0 a1 b1 c1 o0 o1 o2 M') (x : Ext M' F) (hF : F.m.bad = 0) {z0 z1 : BitVec 64} (s0 : Stands F a0 b0 c0 z0) (s1 : Stands F a1 b1 c1 z1) : Stands F o0 o1 o2 (z0 ^^^ z1) := by
  rcases h with ⟨X0, X1, hn, eX0, eX1, rfl, rfl, rfl, rfl⟩ | ⟨X0, X1, X2, hn, eX0, eX1, eX2, rfl, rfl, rfl, rfl⟩
  · have x2 := x
    have x1 := (D_vext eX1).trans x2
    have x0 := (D_vext eX0).trans x1
    have nF : F.m.n = 2 := x0.n.trans hn
    obtain ⟨_, hc0, p0, q0, vp0, vq0, rfl⟩ : F.m.n = 2 ∧ _ := by
      rcases s0 with h | h
      · exact h
      · exact absurd h.1 (by omega)
    obtain ⟨_, hc1, p1, q1, vp1, vq1, rfl⟩ : F.m.n = 2 ∧ _ := by
      rcases s1 with h | h
      · exact h
      · exact absurd h.1 (by omega)
    have vX0 := F_xor eX0 x1 hF vp0 vp1
    have vX1 := F_xor eX1 x2 hF vq0 vq1
    refine .inl ⟨nF, rfl, _, _, vX0, vX1, ?_⟩
    apply BitVec.eq_of_getLsbD_eq; intro i hi
    simp only [BitVec.getLsbD_xor]
    generalize BitVec.getLsbD p0 i = yp0
    generalize BitVec.getLsbD q0 i = yq0
    generalize BitVec.getLsbD p1 i = yp1
    generalize BitVec.getLsbD q1 i = yq1
    revert yp0 yq0 yp1 yq1
    decide
  · have x3 := x
    have x2 := (D_vext eX2).trans x3
    have x1 := (D_vext eX1).trans x2
    have x0 := (D_vext eX0).trans x1
    have nF : F.m.n = 3 := x0.n.trans hn
    obtain ⟨_, p0, q0, r0, vp0, vq0, vr0, rfl⟩ : F.m.n = 3 ∧ _ := by
      rcases s0 with h | h
      · exact absurd h.1 (by omega)
      · exact h
    obtain ⟨_, p1, q1, r1, vp1, vq1, vr1, rfl⟩ : F.m.n = 3 ∧ _ := by
      rcases s1 with h | h
      · exact absurd h.1 (by omega)
      · exact h
    have vX0 := F_xor eX0 x1 hF vp0 vp1
    have vX1 := F_xor eX1 x2 hF vq0 vq1
    have vX2 := F_xor eX2 x3 hF vr0 vr1
    refine .inr ⟨nF, _, _, _, vX0, vX1, vX2, ?_⟩
    apply BitVec.eq_of_getLsbD_eq; intro i hi
    simp only [BitVec.getLsbD_xor]
    generalize BitVec.getLsbD p0 i = yp0
    generalize BitVec.getLsbD q0 i = yq0
    generalize BitVec.getLsbD r0 i = yr0
    generalize BitVec.getLsbD p1 i = yp1
    generalize BitVec.getLsbD q1 i = yq1
    generalize BitVec.getLsbD r1 i = yr1
    revert yp0 yq0 yr0 yp1 yq1 yr1
    decide
def NtC (M : WM) (a : Int) (b : Int) (c : Int) (o0 o1 o2 : Int) (M' : WM) : Prop :=
  (∃ X0 : Int × WM, X0 = M.D ⟨6, 0, a, -1, -1, 0⟩ 0 ∧ o0 = X0.1 ∧ o1 = b ∧ o2 = c ∧ M' = X0.2)
theorem NtC.ex (M : WM) (a : Int) (b : Int) (c : Int) : ∃ o0 o1 o2 M', NtC M a b c o0 o1 o2 M' := by
  exact ⟨_, _, _, _, ⟨_, rfl, rfl, rfl, rfl, rfl⟩⟩
theorem NtC.ext {M M' : WM} {a : Int} {b : Int} {c : Int} {o0 o1 o2 : Int} (h : NtC M a b c o0 o1 o2 M') : Ext M M' := by
  rcases h with ⟨X0, eX0, rfl, rfl, rfl, rfl⟩
  · exact D_vext eX0
theorem NtC.s {M M' F : WM} {a : Int} {b : Int} {c : Int} {o0 o1 o2 : Int} (h : NtC M a b c o0 o1 o2 M') (x : Ext M' F) (hF : F.m.bad = 0) {z : BitVec 64} (s0 : Stands F a b c z) : Stands F o0 o1 o2 (~~~ z) := by
  obtain ⟨X0, eX0, rfl, rfl, rfl, rfl⟩ := h
  rcases s0 with ⟨n, hc, p, q, v0, v1, rfl⟩ | ⟨n, p, q, r, v0, v1, v2, rfl⟩
  · refine .inl ⟨n, hc, _, _, F_not eX0 x hF v0, v1, ?_⟩
    apply BitVec.eq_of_getLsbD_eq; intro i hi
    simp only [BitVec.getLsbD_xor, BitVec.getLsbD_not, hi, decide_true, Bool.true_and]
    generalize BitVec.getLsbD p i = yp
    generalize BitVec.getLsbD q i = yq
    revert yp yq
    decide
  · refine .inr ⟨n, _, _, _, F_not eX0 x hF v0, v1, v2, ?_⟩
    apply BitVec.eq_of_getLsbD_eq; intro i hi
    simp only [BitVec.getLsbD_xor, BitVec.getLsbD_not, hi, decide_true, Bool.true_and]
    generalize BitVec.getLsbD p i = yp
    generalize BitVec.getLsbD q i = yq
    generalize BitVec.getLsbD r i = yr
    revert yp yq yr
    decide
def AdC (M : WM) (kd : Int) (a : Int) (b : Int) (c : Int) (w : Int) (o0 o1 o2 : Int) (M' : WM) : Prop :=
  (∃ X0 : Int × WM, ∃ X1 : Int × WM, X0 = M.D ⟨kd, 0, -1, -1, -1, w⟩ 0 ∧ X1 = X0.2.D ⟨5, 0, a, X0.1, -1, 0⟩ 0 ∧ o0 = X1.1 ∧ o1 = b ∧ o2 = c ∧ M' = X1.2)
theorem AdC.ex (M : WM) (kd : Int) (a : Int) (b : Int) (c : Int) (w : Int) : ∃ o0 o1 o2 M', AdC M kd a b c w o0 o1 o2 M' := by
  exact ⟨_, _, _, _, ⟨_, _, rfl, rfl, rfl, rfl, rfl, rfl⟩⟩
theorem AdC.ext {M M' : WM} {kd : Int} {a : Int} {b : Int} {c : Int} {w : Int} {o0 o1 o2 : Int} (h : AdC M kd a b c w o0 o1 o2 M') : Ext M M' := by
  rcases h with ⟨X0, X1, eX0, eX1, rfl, rfl, rfl, rfl⟩
  · exact ((D_vext eX0).trans (D_vext eX1))
theorem AdC.p {k : Nat} (hk : 90 ≤ k) {M M' : WM} {a : Int} {b : Int} {c : Int} {w : Int} {o0 o1 o2 : Int} (h : AdC M 3 a b c w o0 o1 o2 M') (hw : IsW w) : share_Add.m k M.m [ci a, ci b, ci c] w = some ([ci o0, ci o1, ci o2], M'.m) := by
  rcases h with ⟨X0, X1, eX0, eX1, rfl, rfl, rfl, rfl⟩
  · skip
    unfold share_Add.m
    repeat (first
      | with_reducible refine bstep (N_v (by assumption)) ?_
      | with_reducible refine bstep (Two_v (by assumption) (by omega)) ?_
      | with_reducible refine bstep (Const_v (by assumption) (by omega) isW_zero) ?_
      | with_reducible refine bstep (Const_v (by assumption) (by omega) hw) ?_
      | ((with_reducible refine iteP ?_ ?_); · first | exact rfl | exact Nat.le_of_ble_eq_true rfl | decide)
      | ((with_reducible refine bifT ?_ ?_); · first | decide | exact beqT (by assumption) | exact ltT (by assumption) (by decide) | exact bneT (by assumption))
      | ((with_reducible refine bifF ?_ ?_); · first | decide | exact beqN (by assumption) | exact ltF (by assumption) (by decide) | exact bneN (by assumption))
      | ((with_reducible apply bstep); · exact rfl)
      | dsimp only)
    exact rfl
theorem AdC.p4 {k : Nat} (hk : 90 ≤ k) {M M' : WM} {a : Int} {b : Int} {c : Int} {w : Int} {o0 o1 o2 : Int} (h : AdC M 4 a b c w o0 o1 o2 M') (hw : IsW w) : share_AddTold.m k M.m [ci a, ci b, ci c] w = some ([ci o0, ci o1, ci o2], M'.m) := by
  rcases h with ⟨X0, X1, eX0, eX1, rfl, rfl, rfl, rfl⟩
  · skip
    unfold share_AddTold.m
    repeat (first
      | with_reducible refine bstep (N_v (by assumption)) ?_
      | with_reducible refine bstep (Two_v (by assumption) (by omega)) ?_
      | with_reducible refine bstep (Told_v (by assumption) (by omega) isW_zero) ?_
      | with_reducible refine bstep (Told_v (by assumption) (by omega) hw) ?_
      | ((with_reducible refine iteP ?_ ?_); · first | exact rfl | exact Nat.le_of_ble_eq_true rfl | decide)
      | ((with_reducible refine bifT ?_ ?_); · first | decide | exact beqT (by assumption) | exact ltT (by assumption) (by decide) | exact bneT (by assumption))
      | ((with_reducible refine bifF ?_ ?_); · first | decide | exact beqN (by assumption) | exact ltF (by assumption) (by decide) | exact bneN (by assumption))
      | ((with_reducible apply bstep); · exact rfl)
      | dsimp only)
    exact rfl
theorem AdC.r {k : Nat} (hk : 90 ≤ k) {M M' : WM} {kd : Int} {a : Int} {b : Int} {c : Int} {w : Int} {o0 o1 o2 : Int} (h : AdC M kd a b c w o0 o1 o2 M') (hw : IsW w) : visorref20_Add.m k (absM M.m) kd [ci a, ci b, ci c] w = some ([ci o0, ci o1, ci o2], absM M'.m) := by
  rcases h with ⟨X0, X1, eX0, eX1, rfl, rfl, rfl, rfl⟩
  · skip
    unfold visorref20_Add.m
    repeat (first
      | with_reducible refine bstep (rOp_w ..) ?_
      | with_reducible refine bstep (rDo_v (by assumption) (by omega) isW_zero isW_zero) ?_
      | with_reducible refine bstep (rDo_v (by assumption) (by omega) hw isW_zero) ?_
      | ((with_reducible refine iteP ?_ ?_); · first | exact rfl | exact Nat.le_of_ble_eq_true rfl | decide)
      | ((with_reducible refine bifT ?_ ?_); · first | decide | exact beqT (by assumption) | exact ltT (by assumption) (by decide) | exact bneT (by assumption))
      | ((with_reducible refine bifF ?_ ?_); · first | decide | exact beqN (by assumption) | exact ltF (by assumption) (by decide) | exact bneN (by assumption))
      | ((with_reducible apply bstep); · exact rfl)
      | dsimp only)
    exact rfl
theorem AdC.s {M M' F : WM} {kd a b c w : Int} {o0 o1 o2 : Int} (h : AdC M kd a b c w o0 o1 o2 M') (x : Ext M' F) (hF : F.m.bad = 0) (hk : kd = 3 ∨ kd = 4) {z : BitVec 64} (s0 : Stands F a b c z) : Stands F o0 o1 o2 (z ^^^ BitVec.ofInt 64 w) := by
  obtain ⟨X0, X1, eX0, eX1, rfl, rfl, rfl, rfl⟩ := h
  have vc := F_const eX0 ((D_vext eX1).trans x) hF hk
  generalize BitVec.ofInt 64 w = d at *
  rcases s0 with ⟨n, hc, p, q, v0, v1, rfl⟩ | ⟨n, p, q, r, v0, v1, v2, rfl⟩
  · refine .inl ⟨n, hc, _, _, F_xor eX1 x hF v0 vc, v1, ?_⟩
    apply BitVec.eq_of_getLsbD_eq; intro i hi
    simp only [BitVec.getLsbD_xor]
    generalize BitVec.getLsbD p i = yp
    generalize BitVec.getLsbD q i = yq
    generalize BitVec.getLsbD d i = yd
    revert yp yq yd
    decide
  · refine .inr ⟨n, _, _, _, F_xor eX1 x hF v0 vc, v1, v2, ?_⟩
    apply BitVec.eq_of_getLsbD_eq; intro i hi
    simp only [BitVec.getLsbD_xor]
    generalize BitVec.getLsbD p i = yp
    generalize BitVec.getLsbD q i = yq
    generalize BitVec.getLsbD r i = yr
    generalize BitVec.getLsbD d i = yd
    revert yp yq yr yd
    decide
def OnC (M : WM) (kd : Int) (a : Int) (b : Int) (c : Int) (w : Int) (o0 o1 o2 : Int) (M' : WM) : Prop :=
  (∃ X0 : Int × WM, ∃ X1 : Int × WM, M.m.n = 2 ∧ X0 = M.D ⟨kd, 0, a, -1, -1, w⟩ 0 ∧ X1 = X0.2.D ⟨kd, 1, b, -1, -1, w⟩ 0 ∧ o0 = X0.1 ∧ o1 = X1.1 ∧ o2 = -1 ∧ M' = X1.2) ∨
  (∃ X0 : Int × WM, ∃ X1 : Int × WM, ∃ X2 : Int × WM, M.m.n = 3 ∧ X0 = M.D ⟨kd, 0, a, -1, -1, w⟩ 0 ∧ X1 = X0.2.D ⟨kd, 1, b, -1, -1, w⟩ 0 ∧ X2 = X1.2.D ⟨kd, 2, c, -1, -1, w⟩ 0 ∧ o0 = X0.1 ∧ o1 = X1.1 ∧ o2 = X2.1 ∧ M' = X2.2)
theorem OnC.ex (M : WM) (kd : Int) (a : Int) (b : Int) (c : Int) (w : Int) : ∃ o0 o1 o2 M', OnC M kd a b c w o0 o1 o2 M' := by
  rcases M.w.ok.n with h | h
  · exact ⟨_, _, _, _, .inl ⟨_, _, h, rfl, rfl, rfl, rfl, rfl, rfl⟩⟩
  · exact ⟨_, _, _, _, .inr ⟨_, _, _, h, rfl, rfl, rfl, rfl, rfl, rfl, rfl⟩⟩
theorem OnC.ext {M M' : WM} {kd : Int} {a : Int} {b : Int} {c : Int} {w : Int} {o0 o1 o2 : Int} (h : OnC M kd a b c w o0 o1 o2 M') : Ext M M' := by
  rcases h with ⟨X0, X1, hn, eX0, eX1, rfl, rfl, rfl, rfl⟩ | ⟨X0, X1, X2, hn, eX0, eX1, eX2, rfl, rfl, rfl, rfl⟩
  · exact ((D_vext eX0).trans (D_vext eX1))
  · exact (((D_vext eX0).trans (D_vext eX1)).trans (D_vext eX2))
theorem OnC.c {M M' : WM} {kd : Int} {a : Int} {b : Int} {c : Int} {w : Int} {o0 o1 o2 : Int} (h : OnC M kd a b c w o0 o1 o2 M') (hn' : M'.m.n = 2) : o2 = -1 := by
  have hm := h.ext.n
  rcases h with ⟨X0, X1, hn, eX0, eX1, rfl, rfl, rfl, rfl⟩ | ⟨X0, X1, X2, hn, eX0, eX1, eX2, rfl, rfl, rfl, rfl⟩
  · rfl
  · omega
theorem OnC.p {k : Nat} (hk : 90 ≤ k) {M M' : WM} {kd : Int} {a : Int} {b : Int} {c : Int} {w : Int} {o0 o1 o2 : Int} (h : OnC M kd a b c w o0 o1 o2 M') (hw : IsW w) : share_One.m k M.m kd [ci a, ci b, ci c] w = some ([ci o0, ci o1, ci o2], M'.m) := by
  obtain ⟨k, rfl⟩ : ∃ j, k = j + 20 := ⟨k - 20, by omega⟩
  rcases h with ⟨X0, X1, hn, eX0, eX1, rfl, rfl, rfl, rfl⟩ | ⟨X0, X1, X2, hn, eX0, eX1, eX2, rfl, rfl, rfl, rfl⟩
  · skip
    have hm : M.m.n ≠ 3 := by omega
    have nX0 : X0.2.m.n = 2 := (D_vext eX0).n.trans hn
    have mX0 : X0.2.m.n ≠ 3 := by omega
    have nX1 : X1.2.m.n = 2 := (D_vext eX1).n.trans nX0
    have mX1 : X1.2.m.n ≠ 3 := by omega
    unfold share_One.m
    unfold share_none.m
    repeat (first
      | with_reducible refine bstep (N_v (by assumption)) ?_
      | with_reducible refine bstep (One_v (by assumption) (by omega) isW_zero) ?_
      | with_reducible refine bstep (Do_v (by assumption) (by omega) isW_zero isW_zero) ?_
      | with_reducible refine bstep (One_v (by assumption) (by omega) hw) ?_
      | with_reducible refine bstep (Do_v (by assumption) (by omega) hw isW_zero) ?_
      | with_reducible refine bassoc ?_
      | with_reducible refine bsome ?_
      | ((with_reducible refine biteP ?_ ?_); · first | exact rfl | exact Nat.le_of_ble_eq_true rfl | decide)
      | ((with_reducible refine iteP ?_ ?_); · first | exact rfl | exact Nat.le_of_ble_eq_true rfl | decide)
      | ((with_reducible refine bbifT ?_ ?_); · first | decide | exact beqT (by assumption) | exact ltT (by assumption) (by decide) | exact bneT (by assumption))
      | ((with_reducible refine bbifF ?_ ?_); · first | decide | exact beqN (by assumption) | exact ltF (by assumption) (by decide) | exact bneN (by assumption))
      | ((with_reducible refine bifT ?_ ?_); · first | decide | exact beqT (by assumption) | exact ltT (by assumption) (by decide) | exact bneT (by assumption))
      | ((with_reducible refine bifF ?_ ?_); · first | decide | exact beqN (by assumption) | exact ltF (by assumption) (by decide) | exact bneN (by assumption))
      | rw [share_One.l1]
      | rw [W01]
      | rw [W2]
      | rw [W3]
      | ((with_reducible apply bstep); · exact rfl)
      | dsimp only)
    exact rfl
  · skip
    have hm : M.m.n ≠ 2 := by omega
    have nX0 : X0.2.m.n = 3 := (D_vext eX0).n.trans hn
    have mX0 : X0.2.m.n ≠ 2 := by omega
    have nX1 : X1.2.m.n = 3 := (D_vext eX1).n.trans nX0
    have mX1 : X1.2.m.n ≠ 2 := by omega
    have nX2 : X2.2.m.n = 3 := (D_vext eX2).n.trans nX1
    have mX2 : X2.2.m.n ≠ 2 := by omega
    unfold share_One.m
    unfold share_none.m
    repeat (first
      | with_reducible refine bstep (N_v (by assumption)) ?_
      | with_reducible refine bstep (One_v (by assumption) (by omega) isW_zero) ?_
      | with_reducible refine bstep (Do_v (by assumption) (by omega) isW_zero isW_zero) ?_
      | with_reducible refine bstep (One_v (by assumption) (by omega) hw) ?_
      | with_reducible refine bstep (Do_v (by assumption) (by omega) hw isW_zero) ?_
      | with_reducible refine bassoc ?_
      | with_reducible refine bsome ?_
      | ((with_reducible refine biteP ?_ ?_); · first | exact rfl | exact Nat.le_of_ble_eq_true rfl | decide)
      | ((with_reducible refine iteP ?_ ?_); · first | exact rfl | exact Nat.le_of_ble_eq_true rfl | decide)
      | ((with_reducible refine bbifT ?_ ?_); · first | decide | exact beqT (by assumption) | exact ltT (by assumption) (by decide) | exact bneT (by assumption))
      | ((with_reducible refine bbifF ?_ ?_); · first | decide | exact beqN (by assumption) | exact ltF (by assumption) (by decide) | exact bneN (by assumption))
      | ((with_reducible refine bifT ?_ ?_); · first | decide | exact beqT (by assumption) | exact ltT (by assumption) (by decide) | exact bneT (by assumption))
      | ((with_reducible refine bifF ?_ ?_); · first | decide | exact beqN (by assumption) | exact ltF (by assumption) (by decide) | exact bneN (by assumption))
      | rw [share_One.l1]
      | rw [W01]
      | rw [W2]
      | rw [W3]
      | ((with_reducible apply bstep); · exact rfl)
      | dsimp only)
    exact rfl
theorem OnC.r {k : Nat} (hk : 90 ≤ k) {M M' : WM} {kd : Int} {a : Int} {b : Int} {c : Int} {w : Int} {o0 o1 o2 : Int} (h : OnC M kd a b c w o0 o1 o2 M') (hw : IsW w) : visorref20_One.m k (absM M.m) kd [ci a, ci b, ci c] w = some ([ci o0, ci o1, ci o2], absM M'.m) := by
  obtain ⟨k, rfl⟩ : ∃ j, k = j + 20 := ⟨k - 20, by omega⟩
  rcases h with ⟨X0, X1, hn, eX0, eX1, rfl, rfl, rfl, rfl⟩ | ⟨X0, X1, X2, hn, eX0, eX1, eX2, rfl, rfl, rfl, rfl⟩
  · skip
    have hm : M.m.n ≠ 3 := by omega
    have nX0 : X0.2.m.n = 2 := (D_vext eX0).n.trans hn
    have mX0 : X0.2.m.n ≠ 3 := by omega
    have nX1 : X1.2.m.n = 2 := (D_vext eX1).n.trans nX0
    have mX1 : X1.2.m.n ≠ 3 := by omega
    unfold visorref20_One.m
    unfold visorref20_None.m
    repeat (first
      | with_reducible refine bstep (rOp_w ..) ?_
      | with_reducible refine bstep (rDo_v (by assumption) (by omega) isW_zero isW_zero) ?_
      | with_reducible refine bstep (rDo_v (by assumption) (by omega) hw isW_zero) ?_
      | with_reducible refine bassoc ?_
      | with_reducible refine bsome ?_
      | ((with_reducible refine biteP ?_ ?_); · first | exact rfl | exact Nat.le_of_ble_eq_true rfl | decide)
      | ((with_reducible refine iteP ?_ ?_); · first | exact rfl | exact Nat.le_of_ble_eq_true rfl | decide)
      | ((with_reducible refine bbifT ?_ ?_); · first | decide | exact beqT (by assumption) | exact ltT (by assumption) (by decide) | exact bneT (by assumption))
      | ((with_reducible refine bbifF ?_ ?_); · first | decide | exact beqN (by assumption) | exact ltF (by assumption) (by decide) | exact bneN (by assumption))
      | ((with_reducible refine bifT ?_ ?_); · first | decide | exact beqT (by assumption) | exact ltT (by assumption) (by decide) | exact bneT (by assumption))
      | ((with_reducible refine bifF ?_ ?_); · first | decide | exact beqN (by assumption) | exact ltF (by assumption) (by decide) | exact bneN (by assumption))
      | rw [visorref20_One.l1]
      | rw [W01]
      | rw [W2]
      | rw [W3]
      | ((with_reducible apply bstep); · exact rfl)
      | dsimp only)
    exact rfl
  · skip
    have hm : M.m.n ≠ 2 := by omega
    have nX0 : X0.2.m.n = 3 := (D_vext eX0).n.trans hn
    have mX0 : X0.2.m.n ≠ 2 := by omega
    have nX1 : X1.2.m.n = 3 := (D_vext eX1).n.trans nX0
    have mX1 : X1.2.m.n ≠ 2 := by omega
    have nX2 : X2.2.m.n = 3 := (D_vext eX2).n.trans nX1
    have mX2 : X2.2.m.n ≠ 2 := by omega
    unfold visorref20_One.m
    unfold visorref20_None.m
    repeat (first
      | with_reducible refine bstep (rOp_w ..) ?_
      | with_reducible refine bstep (rDo_v (by assumption) (by omega) isW_zero isW_zero) ?_
      | with_reducible refine bstep (rDo_v (by assumption) (by omega) hw isW_zero) ?_
      | with_reducible refine bassoc ?_
      | with_reducible refine bsome ?_
      | ((with_reducible refine biteP ?_ ?_); · first | exact rfl | exact Nat.le_of_ble_eq_true rfl | decide)
      | ((with_reducible refine iteP ?_ ?_); · first | exact rfl | exact Nat.le_of_ble_eq_true rfl | decide)
      | ((with_reducible refine bbifT ?_ ?_); · first | decide | exact beqT (by assumption) | exact ltT (by assumption) (by decide) | exact bneT (by assumption))
      | ((with_reducible refine bbifF ?_ ?_); · first | decide | exact beqN (by assumption) | exact ltF (by assumption) (by decide) | exact bneN (by assumption))
      | ((with_reducible refine bifT ?_ ?_); · first | decide | exact beqT (by assumption) | exact ltT (by assumption) (by decide) | exact bneT (by assumption))
      | ((with_reducible refine bifF ?_ ?_); · first | decide | exact beqN (by assumption) | exact ltF (by assumption) (by decide) | exact bneN (by assumption))
      | rw [visorref20_One.l1]
      | rw [W01]
      | rw [W2]
      | rw [W3]
      | ((with_reducible apply bstep); · exact rfl)
      | dsimp only)
    exact rfl
theorem OnC.s {M M' F : WM} {kd : Int} {a : Int} {b : Int} {c : Int} {w : Int} {o0 o1 o2 : Int} (h : OnC M kd a b c w o0 o1 o2 M') (x : Ext M' F) (hF : F.m.bad = 0) (hkd : kd ≠ 1) {z : BitVec 64} (s0 : Stands F a b c z) {f : BitVec 64 → BitVec 64} (hf : ∀ y, evalW kd (BitVec.ofInt 64 w) y 0#64 0#64 0#64 = f y) (hx : ∀ y y', f (y ^^^ y') = f y ^^^ f y') : Stands F o0 o1 o2 (f z) := by
  rcases h with ⟨X0, X1, hn, eX0, eX1, rfl, rfl, rfl, rfl⟩ | ⟨X0, X1, X2, hn, eX0, eX1, eX2, rfl, rfl, rfl, rfl⟩
  · have x2 := x
    have x1 := (D_vext eX1).trans x2
    have x0 := (D_vext eX0).trans x1
    have nF : F.m.n = 2 := x0.n.trans hn
    obtain ⟨_, hc0, p0, q0, vp0, vq0, rfl⟩ : F.m.n = 2 ∧ _ := by
      rcases s0 with h | h
      · exact h
      · exact absurd h.1 (by omega)
    have vX0 := F_one eX0 x1 hF hkd vp0
    have vX1 := F_one eX1 x2 hF hkd vq0
    refine .inl ⟨nF, rfl, _, _, vX0, vX1, ?_⟩
    simp only [hf, hx]
  · have x3 := x
    have x2 := (D_vext eX2).trans x3
    have x1 := (D_vext eX1).trans x2
    have x0 := (D_vext eX0).trans x1
    have nF : F.m.n = 3 := x0.n.trans hn
    obtain ⟨_, p0, q0, r0, vp0, vq0, vr0, rfl⟩ : F.m.n = 3 ∧ _ := by
      rcases s0 with h | h
      · exact absurd h.1 (by omega)
      · exact h
    have vX0 := F_one eX0 x1 hF hkd vp0
    have vX1 := F_one eX1 x2 hF hkd vq0
    have vX2 := F_one eX2 x3 hF hkd vr0
    refine .inr ⟨nF, _, _, _, vX0, vX1, vX2, ?_⟩
    simp only [hf, hx]
def EnC (M : WM) (w : Int) (o0 o1 o2 : Int) (M' : WM) : Prop :=
  (∃ B : WM, ∃ R1 : Int × WM, ∃ K : Int × WM, ∃ E : WM, M.m.n = 2 ∧ B = M.B 1 ∧ R1 = B.D ⟨1, 1, -1, -1, -1, 0⟩ 0 ∧ K = R1.2.D ⟨2, 0, R1.1, -1, -1, R1.2.m.words⟩ w ∧ E = K.2.E ∧ o0 = K.1 ∧ o1 = R1.1 ∧ o2 = -1 ∧ M' = E) ∨
  (∃ B : WM, ∃ R1 : Int × WM, ∃ R2 : Int × WM, ∃ K : Int × WM, ∃ E : WM, M.m.n = 3 ∧ B = M.B 1 ∧ R1 = B.D ⟨1, 1, -1, -1, -1, 0⟩ 0 ∧ R2 = R1.2.D ⟨1, 2, -1, -1, -1, 0⟩ 0 ∧ K = R2.2.D ⟨2, 0, R1.1, R2.1, -1, R2.2.m.words⟩ w ∧ E = K.2.E ∧ o0 = K.1 ∧ o1 = R1.1 ∧ o2 = R2.1 ∧ M' = E)
theorem EnC.ex (M : WM) (w : Int) : ∃ o0 o1 o2 M', EnC M w o0 o1 o2 M' := by
  rcases M.w.ok.n with h | h
  · exact ⟨_, _, _, _, .inl ⟨_, _, _, _, h, rfl, rfl, rfl, rfl, rfl, rfl, rfl, rfl⟩⟩
  · exact ⟨_, _, _, _, .inr ⟨_, _, _, _, _, h, rfl, rfl, rfl, rfl, rfl, rfl, rfl, rfl, rfl⟩⟩
theorem EnC.ext {M M' : WM} {w : Int} {o0 o1 o2 : Int} (h : EnC M w o0 o1 o2 M') : Ext M M' := by
  rcases h with ⟨B, R1, K, E, hn, eB, eR1, eK, eE, rfl, rfl, rfl, rfl⟩ | ⟨B, R1, R2, K, E, hn, eB, eR1, eR2, eK, eE, rfl, rfl, rfl, rfl⟩
  · exact ((((B_vext eB).trans (D_vext eR1)).trans (D_vext eK)).trans (E_vext eE))
  · exact (((((B_vext eB).trans (D_vext eR1)).trans (D_vext eR2)).trans (D_vext eK)).trans (E_vext eE))
theorem EnC.c {M M' : WM} {w : Int} {o0 o1 o2 : Int} (h : EnC M w o0 o1 o2 M') (hn' : M'.m.n = 2) : o2 = -1 := by
  have hm := h.ext.n
  rcases h with ⟨B, R1, K, E, hn, eB, eR1, eK, eE, rfl, rfl, rfl, rfl⟩ | ⟨B, R1, R2, K, E, hn, eB, eR1, eR2, eK, eE, rfl, rfl, rfl, rfl⟩
  · rfl
  · omega
theorem EnC.p {k : Nat} (hk : 90 ≤ k) {M M' : WM} {w : Int} {o0 o1 o2 : Int} (h : EnC M w o0 o1 o2 M') (hw : IsW w) : share_Encode.m k M.m w = some ([ci o0, ci o1, ci o2], M'.m) := by
  obtain ⟨k, rfl⟩ : ∃ j, k = j + 20 := ⟨k - 20, by omega⟩
  rcases h with ⟨B, R1, K, E, hn, eB, eR1, eK, eE, rfl, rfl, rfl, rfl⟩ | ⟨B, R1, R2, K, E, hn, eB, eR1, eR2, eK, eE, rfl, rfl, rfl, rfl⟩
  · skip
    have hm : M.m.n ≠ 3 := by omega
    have nB : B.m.n = 2 := (B_vext eB).n.trans hn
    have mB : B.m.n ≠ 3 := by omega
    have nR1 : R1.2.m.n = 2 := (D_vext eR1).n.trans nB
    have mR1 : R1.2.m.n ≠ 3 := by omega
    have nK : K.2.m.n = 2 := (D_vext eK).n.trans nR1
    have mK : K.2.m.n ≠ 3 := by omega
    unfold share_Encode.m
    unfold share_none.m
    repeat (first
      | with_reducible refine bstep (N_v (by assumption)) ?_
      | with_reducible refine bstep (Begin_v (by assumption)) ?_
      | with_reducible refine bstep (Rand_v (by assumption) (by omega)) ?_
      | with_reducible refine bstep (Do_v (by assumption) (by omega) isW_zero isW_zero) ?_
      | with_reducible refine bstep (Do_v (by assumption) (by omega) hw isW_zero) ?_
      | with_reducible refine bstep (Key_v (by assumption) (by omega) hw) ?_
      | with_reducible refine bstep (End_v (by assumption)) ?_
      | with_reducible refine bassoc ?_
      | with_reducible refine bsome ?_
      | ((with_reducible refine biteP ?_ ?_); · first | exact rfl | exact Nat.le_of_ble_eq_true rfl | decide)
      | ((with_reducible refine iteP ?_ ?_); · first | exact rfl | exact Nat.le_of_ble_eq_true rfl | decide)
      | ((with_reducible refine bbifT ?_ ?_); · first | decide | exact beqT (by assumption) | exact ltT (by assumption) (by decide) | exact bneT (by assumption))
      | ((with_reducible refine bbifF ?_ ?_); · first | decide | exact beqN (by assumption) | exact ltF (by assumption) (by decide) | exact bneN (by assumption))
      | ((with_reducible refine bifT ?_ ?_); · first | decide | exact beqT (by assumption) | exact ltT (by assumption) (by decide) | exact bneT (by assumption))
      | ((with_reducible refine bifF ?_ ?_); · first | decide | exact beqN (by assumption) | exact ltF (by assumption) (by decide) | exact bneN (by assumption))
      | rw [share_Encode.l1]
      | rw [W01]
      | rw [W2]
      | rw [W3]
      | ((with_reducible apply bstep); · exact rfl)
      | dsimp only)
    exact rfl
  · skip
    have hm : M.m.n ≠ 2 := by omega
    have nB : B.m.n = 3 := (B_vext eB).n.trans hn
    have mB : B.m.n ≠ 2 := by omega
    have nR1 : R1.2.m.n = 3 := (D_vext eR1).n.trans nB
    have mR1 : R1.2.m.n ≠ 2 := by omega
    have nR2 : R2.2.m.n = 3 := (D_vext eR2).n.trans nR1
    have mR2 : R2.2.m.n ≠ 2 := by omega
    have nK : K.2.m.n = 3 := (D_vext eK).n.trans nR2
    have mK : K.2.m.n ≠ 2 := by omega
    unfold share_Encode.m
    unfold share_none.m
    repeat (first
      | with_reducible refine bstep (N_v (by assumption)) ?_
      | with_reducible refine bstep (Begin_v (by assumption)) ?_
      | with_reducible refine bstep (Rand_v (by assumption) (by omega)) ?_
      | with_reducible refine bstep (Do_v (by assumption) (by omega) isW_zero isW_zero) ?_
      | with_reducible refine bstep (Do_v (by assumption) (by omega) hw isW_zero) ?_
      | with_reducible refine bstep (Key_v (by assumption) (by omega) hw) ?_
      | with_reducible refine bstep (End_v (by assumption)) ?_
      | with_reducible refine bassoc ?_
      | with_reducible refine bsome ?_
      | ((with_reducible refine biteP ?_ ?_); · first | exact rfl | exact Nat.le_of_ble_eq_true rfl | decide)
      | ((with_reducible refine iteP ?_ ?_); · first | exact rfl | exact Nat.le_of_ble_eq_true rfl | decide)
      | ((with_reducible refine bbifT ?_ ?_); · first | decide | exact beqT (by assumption) | exact ltT (by assumption) (by decide) | exact bneT (by assumption))
      | ((with_reducible refine bbifF ?_ ?_); · first | decide | exact beqN (by assumption) | exact ltF (by assumption) (by decide) | exact bneN (by assumption))
      | ((with_reducible refine bifT ?_ ?_); · first | decide | exact beqT (by assumption) | exact ltT (by assumption) (by decide) | exact bneT (by assumption))
      | ((with_reducible refine bifF ?_ ?_); · first | decide | exact beqN (by assumption) | exact ltF (by assumption) (by decide) | exact bneN (by assumption))
      | rw [share_Encode.l1]
      | rw [W01]
      | rw [W2]
      | rw [W3]
      | ((with_reducible apply bstep); · exact rfl)
      | dsimp only)
    exact rfl
theorem EnC.r {k : Nat} (hk : 90 ≤ k) {M M' : WM} {w : Int} {o0 o1 o2 : Int} (h : EnC M w o0 o1 o2 M') (hw : IsW w) : visorref20_Encode.m k (absM M.m) w = some ([ci o0, ci o1, ci o2], absM M'.m) := by
  obtain ⟨k, rfl⟩ : ∃ j, k = j + 20 := ⟨k - 20, by omega⟩
  rcases h with ⟨B, R1, K, E, hn, eB, eR1, eK, eE, rfl, rfl, rfl, rfl⟩ | ⟨B, R1, R2, K, E, hn, eB, eR1, eR2, eK, eE, rfl, rfl, rfl, rfl⟩
  · skip
    have hm : M.m.n ≠ 3 := by omega
    have nB : B.m.n = 2 := (B_vext eB).n.trans hn
    have mB : B.m.n ≠ 3 := by omega
    have nR1 : R1.2.m.n = 2 := (D_vext eR1).n.trans nB
    have mR1 : R1.2.m.n ≠ 3 := by omega
    have nK : K.2.m.n = 2 := (D_vext eK).n.trans nR1
    have mK : K.2.m.n ≠ 3 := by omega
    unfold visorref20_Encode.m
    unfold visorref20_None.m
    repeat (first
      | with_reducible refine bstep (rBegin_v (by assumption)) ?_
      | (rw [absM_words]; with_reducible refine bstep (rOp_w ..) ?_; with_reducible refine bstep (rDo_v (by assumption) (by omega) (words_W _) hw) ?_)
      | with_reducible refine bstep (rOp_w ..) ?_
      | with_reducible refine bstep (rDo_v (by assumption) (by omega) isW_zero isW_zero) ?_
      | with_reducible refine bstep (rDo_v (by assumption) (by omega) hw isW_zero) ?_
      | with_reducible refine bstep (rEnd_v (by assumption)) ?_
      | with_reducible refine bassoc ?_
      | with_reducible refine bsome ?_
      | ((with_reducible refine biteP ?_ ?_); · first | exact rfl | exact Nat.le_of_ble_eq_true rfl | decide)
      | ((with_reducible refine iteP ?_ ?_); · first | exact rfl | exact Nat.le_of_ble_eq_true rfl | decide)
      | ((with_reducible refine bbifT ?_ ?_); · first | decide | exact beqT (by assumption) | exact ltT (by assumption) (by decide) | exact bneT (by assumption))
      | ((with_reducible refine bbifF ?_ ?_); · first | decide | exact beqN (by assumption) | exact ltF (by assumption) (by decide) | exact bneN (by assumption))
      | ((with_reducible refine bifT ?_ ?_); · first | decide | exact beqT (by assumption) | exact ltT (by assumption) (by decide) | exact bneT (by assumption))
      | ((with_reducible refine bifF ?_ ?_); · first | decide | exact beqN (by assumption) | exact ltF (by assumption) (by decide) | exact bneN (by assumption))
      | rw [visorref20_Encode.l1]
      | rw [W01]
      | rw [W2]
      | rw [W3]
      | ((with_reducible apply bstep); · exact rfl)
      | dsimp only)
    exact rfl
  · skip
    have hm : M.m.n ≠ 2 := by omega
    have nB : B.m.n = 3 := (B_vext eB).n.trans hn
    have mB : B.m.n ≠ 2 := by omega
    have nR1 : R1.2.m.n = 3 := (D_vext eR1).n.trans nB
    have mR1 : R1.2.m.n ≠ 2 := by omega
    have nR2 : R2.2.m.n = 3 := (D_vext eR2).n.trans nR1
    have mR2 : R2.2.m.n ≠ 2 := by omega
    have nK : K.2.m.n = 3 := (D_vext eK).n.trans nR2
    have mK : K.2.m.n ≠ 2 := by omega
    unfold visorref20_Encode.m
    unfold visorref20_None.m
    repeat (first
      | with_reducible refine bstep (rBegin_v (by assumption)) ?_
      | (rw [absM_words]; with_reducible refine bstep (rOp_w ..) ?_; with_reducible refine bstep (rDo_v (by assumption) (by omega) (words_W _) hw) ?_)
      | with_reducible refine bstep (rOp_w ..) ?_
      | with_reducible refine bstep (rDo_v (by assumption) (by omega) isW_zero isW_zero) ?_
      | with_reducible refine bstep (rDo_v (by assumption) (by omega) hw isW_zero) ?_
      | with_reducible refine bstep (rEnd_v (by assumption)) ?_
      | with_reducible refine bassoc ?_
      | with_reducible refine bsome ?_
      | ((with_reducible refine biteP ?_ ?_); · first | exact rfl | exact Nat.le_of_ble_eq_true rfl | decide)
      | ((with_reducible refine iteP ?_ ?_); · first | exact rfl | exact Nat.le_of_ble_eq_true rfl | decide)
      | ((with_reducible refine bbifT ?_ ?_); · first | decide | exact beqT (by assumption) | exact ltT (by assumption) (by decide) | exact bneT (by assumption))
      | ((with_reducible refine bbifF ?_ ?_); · first | decide | exact beqN (by assumption) | exact ltF (by assumption) (by decide) | exact bneN (by assumption))
      | ((with_reducible refine bifT ?_ ?_); · first | decide | exact beqT (by assumption) | exact ltT (by assumption) (by decide) | exact bneT (by assumption))
      | ((with_reducible refine bifF ?_ ?_); · first | decide | exact beqN (by assumption) | exact ltF (by assumption) (by decide) | exact bneN (by assumption))
      | rw [visorref20_Encode.l1]
      | rw [W01]
      | rw [W2]
      | rw [W3]
      | ((with_reducible apply bstep); · exact rfl)
      | dsimp only)
    exact rfl
theorem EnC.s {M M' F : WM} {w : Int} {o0 o1 o2 : Int} (h : EnC M w o0 o1 o2 M') (x : Ext M' F) (hF : F.m.bad = 0) : Stands F o0 o1 o2 (BitVec.ofInt 64 w) := by
  rcases h with ⟨B, R1, K, E, hn, eB, eR1, eK, eE, rfl, rfl, rfl, rfl⟩ | ⟨B, R1, R2, K, E, hn, eB, eR1, eR2, eK, eE, rfl, rfl, rfl, rfl⟩
  · have x4 := x
    have x3 := (E_vext eE).trans x4
    have x2 := (D_vext eK).trans x3
    have x1 := (D_vext eR1).trans x2
    have x0 := (B_vext eB).trans x1
    have nF : F.m.n = 2 := x0.n.trans hn
    obtain ⟨zR1, vR1⟩ := F_rand eR1 x2 hF
    have vK := F_key1 eK x3 hF vR1
    refine .inl ⟨nF, rfl, _, _, vK, vR1, ?_⟩
    generalize BitVec.ofInt 64 w = d at *
    apply BitVec.eq_of_getLsbD_eq; intro i hi
    simp only [BitVec.getLsbD_xor, BitVec.getLsbD_zero]
    generalize BitVec.getLsbD zR1 i = yzR1
    generalize BitVec.getLsbD d i = yd
    revert yzR1 yd
    decide
  · have x5 := x
    have x4 := (E_vext eE).trans x5
    have x3 := (D_vext eK).trans x4
    have x2 := (D_vext eR2).trans x3
    have x1 := (D_vext eR1).trans x2
    have x0 := (B_vext eB).trans x1
    have nF : F.m.n = 3 := x0.n.trans hn
    obtain ⟨zR1, vR1⟩ := F_rand eR1 x2 hF
    obtain ⟨zR2, vR2⟩ := F_rand eR2 x3 hF
    have vK := F_key eK x4 hF vR1 vR2
    refine .inr ⟨nF, _, _, _, vK, vR1, vR2, ?_⟩
    generalize BitVec.ofInt 64 w = d at *
    apply BitVec.eq_of_getLsbD_eq; intro i hi
    simp only [BitVec.getLsbD_xor]
    generalize BitVec.getLsbD zR1 i = yzR1
    generalize BitVec.getLsbD zR2 i = yzR2
    generalize BitVec.getLsbD d i = yd
    revert yzR1 yzR2 yd
    decide
/-! A trace held against itself; rows of words. -/
theorem Same_blocks (t : Tapi_Trace) (hb : t.blocks.length ≤ 1048576) : ∀ (d i k : Nat), i + d = t.blocks.length → d < k → visorref18_Same.l1 t t k (i : Int) = some (.inr ())
  | 0, i, k, hi, hk => by
    obtain ⟨k, rfl⟩ : ∃ j, k = j + 1 := ⟨k - 1, by omega⟩
    unfold visorref18_Same.l1
    rw [decide_eq_false (by omega), cond_false]
  | d + 1, i, k, hi, hk => by
    obtain ⟨k, rfl⟩ : ∃ j, k = j + 1 := ⟨k - 1, by omega⟩
    have hlt : i < t.blocks.length := by omega
    have hw : IntKind.i64.wrap ((i : Int) + 1) = ((i + 1 : Nat) : Int) := by rw [wrapI (by omega) (by omega)]; omega
    have ih := Same_blocks t hb d (i + 1) k (by omega) (by omega)
    unfold visorref18_Same.l1
    rw [decide_eq_true (by omega), cond_true, if_pos (by omega), Int.toNat_natCast, List.getElem?_eq_getElem hlt, Option.bind_some, if_pos (by omega), Option.bind_some]
    simp only [beq_self_eq_true, Bool.and_self, Bool.not_true, cond_false, hw]
    exact ih
theorem Same_ops (t : Tapi_Trace) (hb : t.ops.length ≤ 1048576) : ∀ (d i k : Nat), i + d = t.ops.length → d < k → visorref18_Same.l2 t t k (i : Int) = some (.inr ())
  | 0, i, k, hi, hk => by
    obtain ⟨k, rfl⟩ : ∃ j, k = j + 1 := ⟨k - 1, by omega⟩
    unfold visorref18_Same.l2
    rw [decide_eq_false (by omega), cond_false]
  | d + 1, i, k, hi, hk => by
    obtain ⟨k, rfl⟩ : ∃ j, k = j + 1 := ⟨k - 1, by omega⟩
    have hlt : i < t.ops.length := by omega
    have hw : IntKind.i64.wrap ((i : Int) + 1) = ((i + 1 : Nat) : Int) := by rw [wrapI (by omega) (by omega)]; omega
    have ih := Same_ops t hb d (i + 1) k (by omega) (by omega)
    unfold visorref18_Same.l2
    rw [decide_eq_true (by omega), cond_true, if_pos (by omega), Int.toNat_natCast, List.getElem?_eq_getElem hlt, Option.bind_some, if_pos (by omega), Option.bind_some]
    unfold visorref18_Same.j1 visorref18_Same.j2
    cases h4 : t.ops[i].kind == 4
    · simp only [Bool.and_self, cond_false, beq_self_eq_true, Bool.not_true, hw]
      exact ih
    · simp only [Bool.and_self, cond_true, beq_self_eq_true, Bool.not_true, cond_false, hw]
      exact ih
theorem Same_m (t : Tapi_Trace) (ho : t.ops.length ≤ 1048576) (hb : t.blocks.length ≤ 1048576) {k : Nat} (hk : 1048577 ≤ k) : visorref18_Same.m k t t = some true := by
  unfold visorref18_Same.m
  have e1 := Same_blocks t hb t.blocks.length 0 k (by omega) (by omega)
  have e2 := Same_ops t ho t.ops.length 0 k (by omega) (by omega)
  have z2 : ((0 : Nat) : Int) = 0 := rfl
  rw [z2] at e1 e2
  rw [show (((t.n != t.n) || ((t.ops.length : Int) != (t.ops.length : Int))) || ((t.blocks.length : Int) != (t.blocks.length : Int))) = false by simp, cond_false, e1, Option.bind_some]
  dsimp only
  rw [e2, Option.bind_some]
/-! A pair of machines that begins, and that both are alike. -/
def startM (n most : Int) (ms : List Int) : Twire_Machine := ⟨n, most, 0, 0, 0, false, 0, 0, 0, ⟨ms, ⟨0⟩, (ms.length : Int)⟩, [], [], []⟩
theorem start_ok {n most : Int} {ms : List Int} (hn : n = 2 ∨ n = 3) (hm : most ≤ 1048576) (hw : ∀ x ∈ ms, IsW x) (hl : ms.length * 8 ≤ 140737488351232) : WMok (startM n most ms) := by
  refine ⟨⟨hn, hm, ⟨Int.le_refl 0, by show (0 : Int) ≤ 4611686018427387904; omega⟩, ⟨Int.le_refl 0, Int.le_refl 0⟩, ⟨Int.le_refl 0, Int.le_refl 0⟩, Nat.zero_le _, rfl, ⟨Int.le_refl 0, by show (0 : Int) ≤ 3; omega⟩, fun x h => (by cases h), hw, ⟨Int.le_refl 0, by show (0 : Int) ≤ (ms.length : Int); omega⟩, Int.le_refl _, by show (ms.length : Int) ≤ 4611686018427387904; omega, fun _ => rfl, fun h => (by cases h)⟩, rfl, trivial, .inr rfl, ⟨Int.le_refl 0, by show (0 : Int) ≤ 3; omega⟩⟩
theorem Begins_m (k : Nat) {n most : Int} {ms : List Int} (hn : n = 2 ∨ n = 3) (h0 : 0 ≤ most) (hm : most ≤ 1048576) (hl : ms.length * 8 ≤ 140737488351232) :
    visorlaw20_Begins.m k n ms most = some (Sum.inr (startM n most ms, absM (startM n most ms), [], [], true)) := by
  have e1 : tape_New.m k ms = some ⟨ms, ⟨0⟩, 0⟩ := by
    unfold tape_New.m slices_Clone_uint64_uint64.m
    rw [if_pos (by simp only [List.length_nil]; omega)]; rfl
  have e2 : tape_Tape_Reserve.m k ⟨ms, ⟨0⟩, 0⟩ (ms.length : Int) = some (0, ⟨ms, ⟨0⟩, (ms.length : Int)⟩) := by
    unfold tape_Tape_Reserve.m tape_Tape_Left.m tape_Tape_Used.m
    rw [decide_eq_false (by omega), cond_false, Option.bind_some]
    dsimp only
    rw [wrapI (by omega) (by omega), Option.bind_some, decide_eq_false (by omega), cond_false]
  have e3 : ((((n != 2) && (n != 3)) || (decide (most < 0))) || (decide (most > 1048576))) = false := by
    rw [decide_eq_false (by omega), decide_eq_false (by omega)]
    rcases hn with rfl | rfl <;> rfl
  unfold visorlaw20_Begins.m wire_New.m visorref19_New.m
  rw [e1, Option.bind_some, e2, Option.bind_some]
  dsimp only
  rw [e3, cond_false]
  rfl
def start (n most : Int) (ms : List Int) (hn : n = 2 ∨ n = 3) (hm : most ≤ 1048576) (hw : ∀ x ∈ ms, IsW x) (hl : ms.length * 8 ≤ 140737488351232) : WM := ⟨startM n most ms, start_ok hn hm hw hl⟩
theorem like_l (P : Tvisorlaw20_Pair) (v : List Int) (he : P.x.val = v) (hb : v.length ≤ 1048576) : ∀ (d i k : Nat), i + d = v.length → d < k → visorlaw20_Pair_Like.l1 P v k (i : Int) = some (.inr ())
  | 0, i, k, hi, hk => by
    obtain ⟨k, rfl⟩ : ∃ j, k = j + 1 := ⟨k - 1, by omega⟩
    unfold visorlaw20_Pair_Like.l1
    rw [decide_eq_false (by omega), cond_false]
  | d + 1, i, k, hi, hk => by
    obtain ⟨k, rfl⟩ : ∃ j, k = j + 1 := ⟨k - 1, by omega⟩
    have hlt : i < v.length := by omega
    have hw : IntKind.i64.wrap ((i : Int) + 1) = ((i + 1 : Nat) : Int) := by rw [wrapI (by omega) (by omega)]; omega
    have ih := like_l P v he hb d (i + 1) k (by omega) (by omega)
    unfold visorlaw20_Pair_Like.l1
    rw [decide_eq_true (by omega), cond_true, if_pos (by omega), Int.toNat_natCast, List.getElem?_eq_getElem hlt, Option.bind_some, if_pos (by omega), he, List.getElem?_eq_getElem hlt, Option.bind_some, bne_self_eq_false, cond_false, hw]
    exact ih
theorem Values_w (k : Nat) (M : WM) : wire_Machine_Values.m k M.m = some M.m.values := by
  have := M.w.ok.vals; have := M.w.ok.ops
  unfold wire_Machine_Values.m slices_Clone_uint64_uint64.m
  rw [if_pos (by simp only [List.length_nil]; omega)]; rfl
theorem Trace_w (k : Nat) (M : WM) : wire_Machine_Trace.m k M.m = some ⟨M.m.n, M.m.ops, M.m.blocks⟩ := by
  have := M.w.ok.ops; have := M.blocks
  unfold wire_Machine_Trace.m slices_Clone_api_Op_api_Op.m slices_Clone_api_Span_api_Span.m
  rw [if_pos (by simp only [List.length_nil]; omega), Option.bind_some, if_pos (by simp only [List.length_nil]; omega)]; rfl
theorem Like_w {k : Nat} (hk : 1048577 ≤ k) (M : WM) (l : List Cells) (v : List Int) : visorlaw20_Pair_Like.m k ⟨M.m, absM M.m, l, v⟩ = some true := by
  have hv := M.w.ok.vals; have ho := M.w.ok.ops
  have e := like_l ⟨M.m, absM M.m, l, v⟩ M.m.values rfl (by omega) M.m.values.length 0 k (by omega) (by omega)
  rw [show ((0 : Nat) : Int) = 0 from rfl] at e
  have hs := Same_m ⟨M.m.n, M.m.ops, M.m.blocks⟩ ho M.blocks hk
  unfold visorlaw20_Pair_Like.m wire_Machine_Err.m
  rw [Values_w, Option.bind_some]
  dsimp only
  rw [show (absM M.m).val = M.m.values from rfl, show (absM M.m).e = M.m.bad from rfl, show (absM M.m).n = M.m.n from rfl, show (absM M.m).ops = M.m.ops from rfl, show (absM M.m).blocks = M.m.blocks from rfl]
  rw [bne_self_eq_false, cond_false, Option.bind_some, bne_self_eq_false, cond_false, Trace_w, Option.bind_some, hs, Option.bind_some]
  unfold visorlaw20_Pair_Like.j1
  rw [Bool.not_true, cond_false, e]; rfl
theorem Value_w {k : Nat} (hk : 4 ≤ k) {M : WM} {a b c : Int} {x : BitVec 64} (h : Stands M a b c x) : share_Value.m k M.m.values [ci a, ci b, ci c] = some (u x) := by
  obtain ⟨k, rfl⟩ : ∃ j, k = j + 4 := ⟨k - 4, by omega⟩
  rw [← h.val3]; exact Value_m _ _ _ _ _
def movedW (kd : Int) (w x : BitVec 64) : BitVec 64 := evalW kd w x 0#64 0#64 0#64
theorem movedW_xor {kd : Int} (h : kd = 8 ∨ kd = 9 ∨ kd = 10 ∨ kd = 11) (w x y : BitVec 64) : movedW kd w (x ^^^ y) = movedW kd w x ^^^ movedW kd w y := by
  rcases h with rfl | rfl | rfl | rfl
  · show (x ^^^ y) &&& w = (x &&& w) ^^^ (y &&& w)
    apply BitVec.eq_of_getLsbD_eq; intro i hi
    simp only [BitVec.getLsbD_xor, BitVec.getLsbD_and]
    cases x.getLsbD i <;> cases y.getLsbD i <;> cases w.getLsbD i <;> rfl
  · show (x ^^^ y) <<< (w.toNat % 64) = x <<< (w.toNat % 64) ^^^ y <<< (w.toNat % 64)
    exact BitVec.shiftLeft_xor_distrib ..
  · show (x ^^^ y) >>> (w.toNat % 64) = x >>> (w.toNat % 64) ^^^ y >>> (w.toNat % 64)
    exact BitVec.ushiftRight_xor_distrib ..
  · show (x ^^^ y).rotateLeft (w.toNat % 64) = x.rotateLeft (w.toNat % 64) ^^^ y.rotateLeft (w.toNat % 64)
    have hlt : w.toNat % 64 < 64 := Nat.mod_lt _ (by omega)
    apply BitVec.eq_of_getLsbD_eq; intro i hi
    rw [← rot63 _ _ hlt, ← rot63 _ _ hlt, ← rot63 _ _ hlt]
    simp only [BitVec.getLsbD_xor, BitVec.getLsbD_or, BitVec.getLsbD_shiftLeft, BitVec.getLsbD_ushiftRight, hi, decide_true, Bool.true_and]
    by_cases hc : i < w.toNat % 64
    · have : 64 ≤ 64 - w.toNat % 64 + i ∨ 64 - w.toNat % 64 + i < 64 := by omega
      simp [hc]
    · have h64 : 64 ≤ 64 - w.toNat % 64 + i := by omega
      rw [BitVec.getLsbD_of_ge x _ h64, BitVec.getLsbD_of_ge y _ h64]
      cases x.getLsbD (i - w.toNat % 64) <;> cases y.getLsbD (i - w.toNat % 64) <;> cases decide (i < w.toNat % 64) <;> rfl
theorem Stands.c {M : WM} {a b c : Int} {z : BitVec 64} (h : Stands M a b c z) (hn : M.m.n = 2) : c = -1 := by
  rcases h with ⟨_, h, _⟩ | ⟨h, _⟩
  · exact h
  · omega
theorem rValue_w {k : Nat} (hk : 4 ≤ k) {M : WM} {a b c : Int} {x : BitVec 64} (h : Stands M a b c x) : visorref20_Value.m k (absM M.m).val [ci a, ci b, ci c] = some (u x) := by
  obtain ⟨k, rfl⟩ : ∃ j, k = j + 4 := ⟨k - 4, by omega⟩
  rw [← h.val3]; exact rValue_m _ _ _ _ _
/-! What two words both have, and what hangs on it: each call by the program and by the document. -/
structure Gd (P : Nat → Option (Cells × Twire_Machine)) (R : Nat → Option (Cells × Tvisorref19_M)) (M : WM) (o0 o1 o2 : Int) (M' : WM) : Prop where
  p : ∀ k, 90 ≤ k → P k = some ([ci o0, ci o1, ci o2], M'.m)
  r : ∀ k, 90 ≤ k → R k = some ([ci o0, ci o1, ci o2], absM M'.m)
  e : Ext M M'
  c : M'.m.n = 2 → o2 = -1
/-- whenever it stands for anything at all -/
def Std (M : WM) (a b c : Int) (z : BitVec 64) : Prop := ∀ F, Ext M F → F.m.bad = 0 → Stands F a b c z
theorem Std.ext {M M' : WM} {a b c : Int} {z : BitVec 64} (h : Std M a b c z) (e : Ext M M') : Std M' a b c z := fun F x hF => h F (e.trans x) hF
theorem Std.now {M : WM} {a b c : Int} {z : BitVec 64} (h : Std M a b c z) (hb : M.m.bad = 0) : Stands M a b c z := h M (.refl _) hb
theorem Pub_g (M : WM) (w : Int) (hw : IsW w) : ∃ o0 o1 o2 M', Gd (fun k => share_Public.m k M.m w) (fun k => visorref20_Const.m k (absM M.m) 3 w) M o0 o1 o2 M' ∧ Std M' o0 o1 o2 (BitVec.ofInt 64 w) := by
  obtain ⟨o0, o1, o2, M', h⟩ := PubC.ex M w
  exact ⟨o0, o1, o2, M', ⟨fun k hk => h.p hk hw, fun k hk => h.r hk hw, h.ext, h.c⟩, fun F x hF => h.s x hF⟩
/-! any of words -/
def WInv (M : WM) (L : List Cells) (Z : List (BitVec 64)) : Prop := L.length = Z.length ∧ ∀ i, i < L.length → ∃ a b c z, L[i]? = some [ci a, ci b, ci c] ∧ Z[i]? = some z ∧ (M.m.n = 2 → c = -1) ∧ Std M a b c z
theorem WInv.ext {M M' : WM} {L : List Cells} {Z : List (BitVec 64)} (h : WInv M L Z) (e : Ext M M') : WInv M' L Z := ⟨h.1, fun i hi => by
  obtain ⟨a, b, c, z, h1, h2, h3, h4⟩ := h.2 i hi
  exact ⟨a, b, c, z, h1, h2, fun hn => h3 (e.n ▸ hn), h4.ext e⟩⟩
theorem WInv.snoc {M : WM} {L : List Cells} {Z : List (BitVec 64)} (h : WInv M L Z) {a b c : Int} {z : BitVec 64} (hc : M.m.n = 2 → c = -1) (s : Std M a b c z) : WInv M (L ++ [[ci a, ci b, ci c]]) (Z ++ [z]) := by
  refine ⟨by simp [h.1], fun i hi => ?_⟩
  simp only [List.length_append, List.length_singleton] at hi
  by_cases h' : i < L.length
  · obtain ⟨a, b, c, z, h1, h2, h3, h4⟩ := h.2 i h'
    exact ⟨a, b, c, z, by rw [List.getElem?_append_left h']; exact h1, by rw [List.getElem?_append_left (h.1 ▸ h')]; exact h2, h3, h4⟩
  · have e : i = L.length := by omega
    refine ⟨a, b, c, z, ?_, ?_, hc, s⟩
    · rw [e, List.getElem?_append_right (Nat.le_refl _), Nat.sub_self]; rfl
    · rw [e, h.1, List.getElem?_append_right (Nat.le_refl _), Nat.sub_self]; rfl
/-! Bytes, bit by bit: planes 'P', and back 'B'. -/
def bitN (e q : Nat) : Nat := e / 2 ^ q % 2
theorem bitN_lt (e q : Nat) : bitN e q < 2 := Nat.mod_lt _ (by decide)
/-- bit j of the first p bytes, as a word -/
def P33 (ys : List Int) (j : Nat) : Nat → Nat
  | 0 => 0
  | p + 1 => P33 ys j p + bitN ((ys[p]?).getD 0).toNat j * 2 ^ p
theorem P33_lt (ys : List Int) (j : Nat) : ∀ p, P33 ys j p < 2 ^ p
  | 0 => by simp [P33]
  | p + 1 => by
    have h1 := P33_lt ys j p; have h2 := bitN_lt ((ys[p]?).getD 0).toNat j
    have : bitN ((ys[p]?).getD 0).toNat j * 2 ^ p ≤ 1 * 2 ^ p := Nat.mul_le_mul_right _ (by omega)
    simp only [P33, Nat.pow_succ]; omega
def cellsF (f : Nat → Nat) : Cells := (List.range 8).map fun j => C.int .u64 ((f j : Nat) : Int)
theorem cellsF_len (f : Nat → Nat) : (cellsF f).length = 8 := by simp [cellsF]
theorem cellsF_get (f : Nat → Nat) {q : Nat} (h : q < 8) : getI .u64 (cellsF f) q = some ((f q : Nat) : Int) := by simp [getI, cellsF, h]
theorem cellsF_set (f : Nat → Nat) {q : Nat} (h : q < 8) (v : Nat) : (cellsF f).set q (C.int .u64 (v : Int)) = cellsF (fun j => if j = q then v else f j) := by
  apply List.ext_getElem?
  intro i
  rw [List.getElem?_set]
  by_cases hi : q = i
  · subst hi; simp [cellsF, h]
  · by_cases h8 : i < 8
    · simp [cellsF, h8, hi, Ne.symm hi]
    · simp [cellsF, h8, hi]
theorem cellsF_congr {f g : Nat → Nat} (h : ∀ j, j < 8 → f j = g j) : cellsF f = cellsF g := by
  unfold cellsF
  exact List.map_congr_left fun j hj => by rw [h j (List.mem_range.1 hj)]
theorem cellsF_kinds (f : Nat → Nat) : Kinds ((List.replicate 8 [LK.int .u64]).flatten) (cellsF f) := rfl
theorem ceq_self : ∀ (f : Nat → Nat), ceq (cellsF f) (cellsF f) = true := fun f => (ceq_iff (cellsF_kinds f) (cellsF_kinds f)).2 rfl
/-! bits, as the programs take them -/
theorem shr_nat {k : IntKind} (e q : Nat) (h : q ≤ k.bits) : shr k (e : Int) (q : Int) = ((e / 2 ^ q : Nat) : Int) := by
  unfold shr
  rw [show min ((q : Int)).toNat k.bits = q by rw [Int.toNat_natCast]; omega]
  have : ((2 : Int) ^ q) = ((2 ^ q : Nat) : Int) := by simp
  rw [this, Int.fdiv_eq_ediv_of_nonneg _ (Int.natCast_nonneg _)]; rfl
theorem nat_u {x : Nat} (h : x < 18446744073709551616) : (x : Int) = u (BitVec.ofNat 64 x) := by
  unfold u; rw [BitVec.toNat_ofNat, Nat.mod_eq_of_lt h]
theorem band1_u8 (x : Nat) (h : x < 256) : band .u8 (x : Int) 1 = ((x % 2 : Nat) : Int) := by
  have : ∀ m : Fin 256, band .u8 ((m : Nat) : Int) 1 = ((m.val % 2 : Nat) : Int) := by decide +kernel
  exact this ⟨x, h⟩
theorem shl1_u64 (b p : Nat) (hb : b < 2) (hp : p < 64) : shl .u64 (b : Int) (p : Int) = ((b * 2 ^ p : Nat) : Int) := by
  unfold shl
  rw [show min ((p : Int)).toNat IntKind.u64.bits = p by rw [Int.toNat_natCast]; show min p 64 = p; omega, wrap_u64]
  have h2 : (2 : Nat) ^ p < 2 ^ 64 := Nat.pow_lt_pow_right (by decide) hp
  have h3 : b * 2 ^ p ≤ 1 * 2 ^ p := Nat.mul_le_mul_right _ (by omega)
  have e : (b : Int) * 2 ^ p = ((b * 2 ^ p : Nat) : Int) := by simp
  rw [e]; omega
theorem bor_low {v b p : Nat} (hv : v < 2 ^ p) (hp : p < 64) (hb : b < 2) : bor .u64 (v : Int) ((b * 2 ^ p : Nat) : Int) = ((v + b * 2 ^ p : Nat) : Int) := by
  have h2 : (2 : Nat) ^ p < 2 ^ 64 := Nat.pow_lt_pow_right (by decide) hp
  have h3 : b * 2 ^ p ≤ 1 * 2 ^ p := Nat.mul_le_mul_right _ (by omega)
  have h4 : v + b * 2 ^ p < 2 ^ 64 := by
    have : 2 ^ p + 2 ^ p ≤ 2 ^ 64 := by rw [← Nat.two_mul, ← Nat.pow_succ']; exact Nat.pow_le_pow_right (by decide) (by omega)
    omega
  rw [nat_u (show v < 18446744073709551616 by omega), nat_u (show b * 2 ^ p < 18446744073709551616 by omega), bor_u]
  unfold u
  rw [BitVec.toNat_or, BitVec.toNat_ofNat, BitVec.toNat_ofNat, Nat.mod_eq_of_lt (by omega : v < 2 ^ 64), Nat.mod_eq_of_lt (by omega : b * 2 ^ p < 2 ^ 64), Nat.or_comm, Nat.mul_comm b, ← Nat.two_pow_add_eq_or_of_lt hv, Nat.add_comm]
/-- one byte more: what either program's inner loop makes of a plane -/
def st33 (e p : Nat) (f : Nat → Nat) (j : Nat) : Nat := f j + bitN e j * 2 ^ p
/-- the planes from q on -/
def from33 (e p q : Nat) (f : Nat → Nat) (j : Nat) : Nat := if q ≤ j then st33 e p f j else f j
theorem from33_next {e p q : Nat} {f : Nat → Nat} (h : q < 8) : cellsF (from33 e p (q + 1) fun j => if j = q then st33 e p f q else f j) = cellsF (from33 e p q f) := by
  refine cellsF_congr fun j hj => ?_
  unfold from33
  by_cases h1 : j = q
  · subst h1; simp [show ¬ j + 1 ≤ j by omega]
  · by_cases h2 : q ≤ j
    · simp [show q + 1 ≤ j by omega, h2, st33, h1]
    · simp [show ¬ q + 1 ≤ j by omega, h2, h1]
theorem from33_end {e p : Nat} {f : Nat → Nat} : cellsF (from33 e p 8 f) = cellsF f := cellsF_congr fun j hj => by simp [from33, show ¬ 8 ≤ j by omega]
theorem from33_all {e p : Nat} {f : Nat → Nat} : cellsF (from33 e p 0 f) = cellsF (st33 e p f) := cellsF_congr fun j hj => by simp [from33]
theorem Cut_in (e p : Nat) (he : e < 256) (hp : p < 64) : ∀ (m q k : Nat) (f : Nat → Nat), q + m = 8 → m < k → (∀ j, q ≤ j → f j < 2 ^ p) →
    slice_Cut.l2 (p : Int) (e : Int) k (cellsF f) (q : Int) = some (cellsF (from33 e p q f))
  | _, _, 0, _, _, h, _ => by omega
  | 0, q, k + 1, f, hq, _, _ => by
    have : q = 8 := by omega
    subst this
    unfold slice_Cut.l2
    simp only [show decide (((8 : Nat) : Int) < 8) = false by decide, cond_false]
    rw [from33_end]
  | m + 1, q, k + 1, f, hq, hk, hf => by
    have hq8 : q < 8 := by omega
    unfold slice_Cut.l2
    rw [show decide ((q : Int) < 8) = true by simp; omega, cond_true, if_pos (by omega : (0 : Int) ≤ q ∧ (q : Int) < 8), Int.toNat_natCast, show 0 + q * 1 = q by omega, cellsF_get f hq8, Option.bind_some,
      if_pos (by omega), if_pos (by omega), if_pos (by omega : (0 : Int) ≤ q ∧ (q : Int) < 8), if_pos (by rw [cellsF_len]; exact hq8)]
    have e1 : bor .u64 ((f q : Nat) : Int) (shl .u64 (IntKind.u64.wrap (band .u8 (shr .u8 (e : Int) (q : Int)) 1)) (p : Int)) = ((st33 e p f q : Nat) : Int) := by
      have hd : e / 2 ^ q < 256 := Nat.lt_of_le_of_lt (Nat.div_le_self _ _) he
      rw [shr_nat (k := .u8) e q (show q ≤ 8 by omega), band1_u8 _ hd, wrap_u64_of (by omega) (by omega), shl1_u64 _ p (Nat.mod_lt _ (by decide)) hp, bor_low (hf q (Nat.le_refl _)) hp (Nat.mod_lt _ (by decide))]
      rfl
    rw [e1, cellsF_set f hq8, show IntKind.i64.wrap ((q : Int) + 1) = ((q + 1 : Nat) : Int) by rw [wrap_i64_of (by omega) (by omega)]; omega]
    rw [Cut_in e p he hp m (q + 1) k _ (by omega) (by omega) (fun j hj => by simp only [show j ≠ q by omega, if_false]; exact hf j (by omega)), from33_next hq8]
theorem rCut_in (x0 : List Int) (e p : Nat) (he : e < 256) (hp : p < 64) (hx : x0[p]? = some (e : Int)) : ∀ (m q k : Nat) (f : Nat → Nat), q + m = 8 → m < k → (∀ j, q ≤ j → f j < 2 ^ p) →
    visorref33_Cut.l2 x0 (p : Int) k (cellsF f) (q : Int) = some (cellsF (from33 e p q f))
  | _, _, 0, _, _, h, _ => by omega
  | 0, q, k + 1, f, hq, _, _ => by
    have : q = 8 := by omega
    subst this
    unfold visorref33_Cut.l2
    simp only [show decide (((8 : Nat) : Int) < 8) = false by decide, cond_false]
    rw [from33_end]
  | m + 1, q, k + 1, f, hq, hk, hf => by
    have hq8 : q < 8 := by omega
    unfold visorref33_Cut.l2
    rw [show decide ((q : Int) < 8) = true by simp; omega, cond_true, if_pos (by omega : (0 : Int) ≤ q ∧ (q : Int) < 8), Int.toNat_natCast, show 0 + q * 1 = q by omega, cellsF_get f hq8, Option.bind_some,
      if_pos (by omega), Int.toNat_natCast, hx, Option.bind_some, wrap_u64_of (by omega) (by omega), wrap_u64_of (by omega) (by omega), if_pos (by omega), if_pos (by omega), if_pos (by omega : (0 : Int) ≤ q ∧ (q : Int) < 8), if_pos (by rw [cellsF_len]; exact hq8)]
    have e1 : IntKind.u64.wrap (((f q : Nat) : Int) + shl .u64 (IntKind.u64.wrap (Int.tmod (shr .u8 (e : Int) (q : Int)) 2)) (p : Int)) = ((st33 e p f q : Nat) : Int) := by
      have hd : e / 2 ^ q < 256 := Nat.lt_of_le_of_lt (Nat.div_le_self _ _) he
      have h2 : (2 : Nat) ^ p < 2 ^ 64 := Nat.pow_lt_pow_right (by decide) hp
      have h5 := hf q (Nat.le_refl _)
      have h3 : e / 2 ^ q % 2 * 2 ^ p ≤ 1 * 2 ^ p := Nat.mul_le_mul_right _ (by have := Nat.mod_lt (e / 2 ^ q) (show 0 < 2 by decide); omega)
      have h4 : 2 ^ p + 2 ^ p ≤ 2 ^ 64 := by rw [← Nat.two_mul, ← Nat.pow_succ']; exact Nat.pow_le_pow_right (by decide) (by omega)
      rw [shr_nat (k := .u8) e q (show q ≤ 8 by omega), show Int.tmod ((e / 2 ^ q : Nat) : Int) 2 = ((e / 2 ^ q % 2 : Nat) : Int) from rfl, wrap_u64_of (x := ((e / 2 ^ q % 2 : Nat) : Int)) (by omega) (by omega), shl1_u64 _ p (Nat.mod_lt _ (by decide)) hp]
      unfold st33 bitN
      rw [wrap_u64_of (by omega) (by omega)]; omega
    rw [e1, cellsF_set f hq8, show IntKind.i64.wrap ((q : Int) + 1) = ((q + 1 : Nat) : Int) by rw [wrap_i64_of (by omega) (by omega)]; omega]
    rw [rCut_in x0 e p he hp hx m (q + 1) k _ (by omega) (by omega) (fun j hj => by simp only [show j ≠ q by omega, if_false]; exact hf j (by omega)), from33_next hq8]
def Bytes (xs : List Int) : Prop := ∀ x ∈ xs, 0 ≤ x ∧ x < 256
theorem Bytes.get {xs : List Int} (h : Bytes xs) {i : Nat} (hi : i < xs.length) : ∃ e : Nat, e < 256 ∧ xs[i]? = some (e : Int) := by
  have h1 := h _ (List.getElem_mem hi)
  exact ⟨xs[i].toNat, by omega, by rw [List.getElem?_eq_getElem hi, Int.toNat_of_nonneg h1.1]⟩
theorem P33_step {ys : List Int} {p e : Nat} (h : ys[p]? = some (e : Int)) : cellsF (st33 e p (fun j => P33 ys j p)) = cellsF (fun j => P33 ys j (p + 1)) :=
  cellsF_congr fun j _ => by simp [st33, P33, h]
theorem Cut_out (x0 : List Int) (hb : Bytes x0) : ∀ (m p k : Nat), p + m = (x0.take 64).length → m + 9 < k →
    slice_Cut.l1 x0 k (cellsF fun j => P33 (x0.take 64) j p) (p : Int) = some (cellsF fun j => P33 (x0.take 64) j (x0.take 64).length)
  | _, _, 0, _, h => by omega
  | m, p, k + 1, hp, hk => by
    have hcut : cut x0 0 (mn ((x0.length : Nat) : Int) 64).toNat = x0.take 64 := by
      unfold cut mn
      rw [List.drop_zero]
      split
      · rfl
      · rw [Int.toNat_natCast, List.take_of_length_le (Nat.le_refl _), List.take_of_length_le (by omega)]
    have hlen : (x0.take 64).length ≤ 64 := by rw [List.length_take]; omega
    unfold slice_Cut.l1
    rw [hcut]
    cases m with
    | zero => rw [show decide ((p : Int) < (((x0.take 64).length : Nat) : Int)) = false from decide_eq_false (by omega), cond_false, show p = (x0.take 64).length by omega]
    | succ m =>
      obtain ⟨e, he, hg⟩ := Bytes.get (xs := x0.take 64) (fun x hx => hb x (List.mem_of_mem_take hx)) (show p < (x0.take 64).length by omega)
      rw [show decide ((p : Int) < (((x0.take 64).length : Nat) : Int)) = true from decide_eq_true (by omega), cond_true, if_pos (by omega), Int.toNat_natCast, hg, Option.bind_some]
      have hin := Cut_in e p he (by omega) 8 0 k (fun j => P33 (x0.take 64) j p) rfl (by omega) (fun j _ => P33_lt _ _ _)
      rw [from33_all, P33_step hg] at hin
      have h0 : ((0 : Nat) : Int) = 0 := rfl
      rw [h0] at hin
      rw [hin, Option.bind_some, show IntKind.i64.wrap ((p : Int) + 1) = ((p + 1 : Nat) : Int) by rw [wrap_i64_of (by omega) (by omega)]; omega]
      exact Cut_out x0 hb m (p + 1) k (by omega) (by omega)
theorem rCut_out (x0 : List Int) (hb : Bytes x0) : ∀ (m p k : Nat), p + m = (x0.take 64).length → m + 9 < k →
    visorref33_Cut.l1 x0 k (cellsF fun j => P33 (x0.take 64) j p) (p : Int) = some (cellsF fun j => P33 (x0.take 64) j (x0.take 64).length)
  | _, _, 0, _, h => by omega
  | m, p, k + 1, hp, hk => by
    have hlen : (x0.take 64).length = min 64 x0.length := List.length_take
    unfold visorref33_Cut.l1
    cases m with
    | zero =>
      have hd : (decide ((p : Int) < ((x0.length : Nat) : Int)) && decide ((p : Int) < 64)) = false := by
        rw [← Bool.not_eq_true, Bool.and_eq_true, decide_eq_true_eq, decide_eq_true_eq]; omega
      rw [hd, cond_false, show p = (x0.take 64).length by omega]
    | succ m =>
      obtain ⟨e, he, hg⟩ := Bytes.get (xs := x0.take 64) (fun x hx => hb x (List.mem_of_mem_take hx)) (show p < (x0.take 64).length by omega)
      have hg0 : x0[p]? = some (e : Int) := by rw [List.getElem?_take, if_pos (by omega)] at hg; exact hg
      have hd : (decide ((p : Int) < ((x0.length : Nat) : Int)) && decide ((p : Int) < 64)) = true := by
        rw [Bool.and_eq_true, decide_eq_true_eq, decide_eq_true_eq]; omega
      rw [hd, cond_true]
      have hin := rCut_in x0 e p he (by omega) hg0 8 0 k (fun j => P33 (x0.take 64) j p) rfl (by omega) (fun j _ => P33_lt _ _ _)
      rw [from33_all, P33_step hg] at hin
      have h0 : ((0 : Nat) : Int) = 0 := rfl
      rw [h0] at hin
      rw [hin, Option.bind_some, show IntKind.i64.wrap ((p : Int) + 1) = ((p + 1 : Nat) : Int) by rw [wrap_i64_of (by omega) (by omega)]; omega]
      exact rCut_out x0 hb m (p + 1) k (by omega) (by omega)
/-- bytes' planes -/
def planes (x : List Int) : Cells := cellsF fun j => P33 (x.take 64) j (x.take 64).length
theorem Cut_m (x0 : List Int) (hb : Bytes x0) (k : Nat) (hk : 80 < k) : slice_Cut.m k x0 = some (planes x0) := by
  have hlen : (x0.take 64).length = min 64 x0.length := List.length_take
  have h := Cut_out x0 hb (x0.take 64).length 0 k (by omega) (by omega)
  unfold slice_Cut.m
  have hmn : 0 ≤ mn ((x0.length : Nat) : Int) 64 ∧ (mn ((x0.length : Nat) : Int) 64).toNat ≤ x0.length := by unfold mn; split <;> omega
  rw [if_pos ⟨hmn.1, Nat.zero_le _, hmn.2⟩]
  have e : (cellsF fun j => P33 (x0.take 64) j 0) = [C.int .u64 0, C.int .u64 0, C.int .u64 0, C.int .u64 0, C.int .u64 0, C.int .u64 0, C.int .u64 0, C.int .u64 0] := rfl
  rw [e] at h
  have h0 : ((0 : Nat) : Int) = 0 := rfl
  rw [h0] at h
  rw [h, Option.bind_some, if_pos (cellsF_len _)]; rfl
theorem rCut_m (x0 : List Int) (hb : Bytes x0) (k : Nat) (hk : 80 < k) : visorref33_Cut.m k x0 = some (planes x0) := by
  have hlen : (x0.take 64).length = min 64 x0.length := List.length_take
  have h := rCut_out x0 hb (x0.take 64).length 0 k (by omega) (by omega)
  unfold visorref33_Cut.m
  have e : (cellsF fun j => P33 (x0.take 64) j 0) = [C.int .u64 0, C.int .u64 0, C.int .u64 0, C.int .u64 0, C.int .u64 0, C.int .u64 0, C.int .u64 0, C.int .u64 0] := rfl
  rw [e] at h
  have h0 : ((0 : Nat) : Int) = 0 := rfl
  rw [h0] at h
  rw [h, Option.bind_some, if_pos (cellsF_len _)]; rfl
theorem planes_len (x : List Int) : (planes x).length = 8 := cellsF_len _
theorem planes_kinds (x : List Int) : Kinds ((List.replicate 8 [LK.int .u64]).flatten) (planes x) := cellsF_kinds _
theorem awake33_m (k : Nat) (hk : 80 < k) : visorlaw33_awake.m k = some true := by
  unfold visorlaw33_awake.m
  rw [Cut_m [5] (fun x hx => by simp at hx; omega) k hk, Option.bind_some, if_pos (planes_kinds _)]
  decide
theorem planes_lt (x : List Int) (j : Nat) : P33 (x.take 64) j (x.take 64).length < 18446744073709551616 := by
  have h1 := P33_lt (x.take 64) j (x.take 64).length
  have h2 : (x.take 64).length ≤ 64 := by rw [List.length_take]; omega
  have h3 : 2 ^ (x.take 64).length ≤ 2 ^ 64 := Nat.pow_le_pow_right (by decide) h2
  omega
/-! Planes: eight words as shares. -/
abbrev Tri := Int × Int × Int
def c3 (w : Tri) : Cells := [ci w.1, ci w.2.1, ci w.2.2]
def pl (f : Nat → Tri) : Cells := c3 (f 0) ++ (c3 (f 1) ++ (c3 (f 2) ++ (c3 (f 3) ++ (c3 (f 4) ++ (c3 (f 5) ++ (c3 (f 6) ++ c3 (f 7)))))))
theorem pl_len (f : Nat → Tri) : (pl f).length = 24 := rfl
theorem lt8 {j : Nat} (h : j < 8) : j = 0 ∨ j = 1 ∨ j = 2 ∨ j = 3 ∨ j = 4 ∨ j = 5 ∨ j = 6 ∨ j = 7 := by omega
theorem pl_part (f : Nat → Tri) {j : Nat} (h : j < 8) : part? (pl f) (0 + (j : Int).toNat * 3) 3 = some (c3 (f j)) := by
  rcases lt8 h with rfl | rfl | rfl | rfl | rfl | rfl | rfl | rfl <;> rfl
theorem pl_part' (f : Nat → Tri) {j : Nat} (h : j < 8) : part? (pl f) ((j : Int).toNat * 3) 3 = some (c3 (f j)) := by
  rcases lt8 h with rfl | rfl | rfl | rfl | rfl | rfl | rfl | rfl <;> rfl
theorem pl_congr {f g : Nat → Tri} (h : ∀ j, j < 8 → f j = g j) : pl f = pl g := by
  unfold pl
  rw [h 0 (by omega), h 1 (by omega), h 2 (by omega), h 3 (by omega), h 4 (by omega), h 5 (by omega), h 6 (by omega), h 7 (by omega)]
theorem pl_splice (f : Nat → Tri) (w : Tri) {j : Nat} (h : j < 8) : splice (pl f) (0 + (j : Int).toNat * 3) (c3 w) = pl (fun i => if i = j then w else f i) := by
  rcases lt8 h with rfl | rfl | rfl | rfl | rfl | rfl | rfl | rfl <;> rfl
theorem pl_kinds (f : Nat → Tri) : Kinds ((List.replicate 8 ((List.replicate 3 [LK.int .i64]).flatten)).flatten) (pl f) := rfl
theorem pl_ceq (f : Nat → Tri) : ceq (pl f) (pl f) = true := (ceq_iff (pl_kinds f) (pl_kinds f)).2 rfl
def zW : Nat → Tri := fun _ => (0, 0, 0)
/-- each plane stands for a word -/
def PlW (M : WM) (f : Nat → Tri) (x : Nat → BitVec 64) : Prop := ∀ j, j < 8 → (M.m.n = 2 → (f j).2.2 = -1) ∧ Std M (f j).1 (f j).2.1 (f j).2.2 (x j)
theorem PlW.ext {M M' : WM} {f : Nat → Tri} {x : Nat → BitVec 64} (h : PlW M f x) (e : Ext M M') : PlW M' f x := fun j hj => ⟨fun hn => (h j hj).1 (e.n ▸ hn), (h j hj).2.ext e⟩
theorem PlW.to {M : WM} {f : Nat → Tri} {x y : Nat → BitVec 64} (h : PlW M f x) (e : ∀ j, j < 8 → x j = y j) : PlW M f y := fun j hj => ⟨(h j hj).1, e j hj ▸ (h j hj).2⟩
def mix (j : Nat) (f z : Nat → Tri) : Nat → Tri := fun i => if i < j then f i else z i
theorem mix_next {j : Nat} (hj : j < 8) (f z : Nat → Tri) (w : Tri) : splice (pl (mix j f z)) (0 + (j : Int).toNat * 3) (c3 w) = pl (mix (j + 1) (fun i => if i = j then w else f i) z) := by
  rw [pl_splice _ _ hj]
  refine pl_congr fun i hi => ?_
  unfold mix
  by_cases h1 : i = j
  · rw [if_pos h1, if_pos (by omega)]; exact (if_pos h1).symm
  · rw [if_neg h1]
    by_cases h2 : i < j
    · rw [if_pos h2, if_pos (by omega)]; exact (if_neg h1).symm
    · rw [if_neg h2, if_neg (by omega)]
theorem mix_end (f z : Nat → Tri) : pl (mix 8 f z) = pl f := pl_congr fun i hi => by unfold mix; rw [if_pos hi]
section
variable {P : Nat → Twire_Machine → Cells → Int → Option (Cells × Twire_Machine)} {R : Nat → Tvisorref19_M → Cells → Int → Option (Cells × Tvisorref19_M)} {M0 : WM} {zP zR : Nat → Tri} {x : Nat → BitVec 64}
/-- a step of both loops -/
def StepB (P : Nat → Twire_Machine → Cells → Int → Option (Cells × Twire_Machine)) (R : Nat → Tvisorref19_M → Cells → Int → Option (Cells × Tvisorref19_M)) (zP zR : Nat → Tri) (x : Nat → BitVec 64) (j : Nat) (M : WM) : Prop :=
  ∃ o0 o1 o2, ∃ M' : WM, (∀ k, 90 ≤ k → ∀ A : Cells, A.length = 24 → part? A (0 + (j : Int).toNat * 3) 3 = some (c3 (zP j)) → P (k + 1) M.m A (j : Int) = P k M'.m (splice A (0 + (j : Int).toNat * 3) (c3 (o0, o1, o2))) ((j + 1 : Nat) : Int)) ∧
    (∀ k, 90 ≤ k → ∀ A : Cells, A.length = 24 → part? A (0 + (j : Int).toNat * 3) 3 = some (c3 (zR j)) → R (k + 1) (absM M.m) A (j : Int) = R k (absM M'.m) (splice A (0 + (j : Int).toNat * 3) (c3 (o0, o1, o2))) ((j + 1 : Nat) : Int)) ∧
    Ext M M' ∧ (M'.m.n = 2 → o2 = -1) ∧ Std M' o0 o1 o2 (x j)
theorem each_l (G : ∀ j, j < 8 → ∀ M, Ext M0 M → StepB P R zP zR x j M) (eP : ∀ k m A, P (k + 1) m A ((8 : Nat) : Int) = some (A, m)) (eR : ∀ k m A, R (k + 1) m A ((8 : Nat) : Int) = some (A, m)) :
    ∀ (d j : Nat), j + d = 8 → ∀ (M : WM) (f : Nat → Tri), Ext M0 M → (∀ i, i < j → (M.m.n = 2 → (f i).2.2 = -1) ∧ Std M (f i).1 (f i).2.1 (f i).2.2 (x i)) →
      ∃ f' M', (∀ k, 91 + d ≤ k → P k M.m (pl (mix j f zP)) (j : Int) = some (pl f', M'.m)) ∧ (∀ k, 91 + d ≤ k → R k (absM M.m) (pl (mix j f zR)) (j : Int) = some (pl f', absM M'.m)) ∧ Ext M0 M' ∧ PlW M' f' x := by
  intro d
  induction d with
  | zero =>
    intro j hj M f he hf
    obtain rfl : j = 8 := by omega
    refine ⟨f, M, fun k hk => ?_, fun k hk => ?_, he, fun i hi => hf i hi⟩
    · obtain ⟨k, rfl⟩ : ∃ i, k = i + 1 := ⟨k - 1, by omega⟩
      rw [eP, mix_end]
    · obtain ⟨k, rfl⟩ : ∃ i, k = i + 1 := ⟨k - 1, by omega⟩
      rw [eR, mix_end]
  | succ d ih =>
    intro j hj M f he hf
    obtain ⟨o0, o1, o2, M1, hP, hR, e1, c1, s1⟩ := G j (by omega) M he
    obtain ⟨f', M', h1, h2, h3, h4⟩ := ih (j + 1) (by omega) M1 (fun i => if i = j then (o0, o1, o2) else f i) (he.trans e1) (fun i hi => by
      by_cases h : i = j
      · subst h; rw [if_pos rfl]; exact ⟨c1, s1⟩
      · rw [if_neg h]
        have := hf i (by omega)
        exact ⟨fun hn => this.1 (e1.n ▸ hn), this.2.ext e1⟩)
    have hp : ∀ z : Nat → Tri, part? (pl (mix j f z)) (0 + (j : Int).toNat * 3) 3 = some (c3 (z j)) := fun z => by
      rw [pl_part _ (by omega)]; unfold mix; rw [if_neg (by omega)]
    refine ⟨f', M', fun k hk => ?_, fun k hk => ?_, h3, h4⟩
    · obtain ⟨k, rfl⟩ : ∃ i, k = i + 1 := ⟨k - 1, by omega⟩
      rw [hP k (by omega) _ (pl_len _) (hp _), mix_next (by omega)]
      exact h1 k (by omega)
    · obtain ⟨k, rfl⟩ : ∃ i, k = i + 1 := ⟨k - 1, by omega⟩
      rw [hR k (by omega) _ (pl_len _) (hp _), mix_next (by omega)]
      exact h2 k (by omega)
theorem each_g (G : ∀ j, j < 8 → ∀ M, Ext M0 M → StepB P R zP zR x j M) (eP : ∀ k m A, P (k + 1) m A ((8 : Nat) : Int) = some (A, m)) (eR : ∀ k m A, R (k + 1) m A ((8 : Nat) : Int) = some (A, m)) :
    ∃ f M', (∀ k, 99 ≤ k → P k M0.m (pl zP) 0 = some (pl f, M'.m)) ∧ (∀ k, 99 ≤ k → R k (absM M0.m) (pl zR) 0 = some (pl f, absM M'.m)) ∧ Ext M0 M' ∧ PlW M' f x := by
  obtain ⟨f, M', h1, h2, h3, h4⟩ := each_l G eP eR 8 0 (by omega) M0 zW (.refl _) (fun i hi => by omega)
  have e : ∀ z : Nat → Tri, mix 0 zW z = z := fun z => by funext i; unfold mix; rw [if_neg (by omega)]
  rw [e] at h1 h2
  exact ⟨f, M', h1, h2, h3, h4⟩
end
/-- a byte row's word of plane j -/
def wd (x : List Int) (j : Nat) : Nat := P33 (x.take 64) j (x.take 64).length
theorem wd_get (x : List Int) {j : Nat} (h : j < 8) : getI .u64 (planes x) (0 + (j : Int).toNat * 1) = some ((wd x j : Nat) : Int) := by
  rw [Int.toNat_natCast, Nat.mul_one, Nat.zero_add]; exact cellsF_get _ h
theorem wd_w (x : List Int) (j : Nat) : IsW ((wd x j : Nat) : Int) := by
  have := planes_lt x j
  exact ⟨by omega, by unfold wd; omega⟩
def bw (x : List Int) (j : Nat) : BitVec 64 := BitVec.ofInt 64 ((wd x j : Nat) : Int)
theorem bw_nat (x : List Int) (j : Nat) : (bw x j).toNat = wd x j := by
  have := planes_lt x j
  unfold bw
  rw [BitVec.toNat_ofInt]
  have h : wd x j < 18446744073709551616 := this
  omega
theorem i8 {j : Nat} (h : j < 8) : (0 : Int) ≤ (j : Int) ∧ (j : Int) < 8 := by omega
theorem l8 {A : Cells} (hA : A.length = 24) {j : Nat} (h : j < 8) (a b c : Int) : 0 + (j : Int).toNat * 3 + ([ci a, ci b, ci c] : Cells).length ≤ A.length := by
  rw [hA]; simp only [List.length_cons, List.length_nil]; omega
theorem nx8 {j : Nat} (h : j < 8) : IntKind.i64.wrap ((j : Int) + 1) = ((j + 1 : Nat) : Int) := by rw [wrapI (by omega) (by omega)]; rfl
theorem lt8d {j : Nat} (h : j < 8) : decide ((j : Int) < 8) = true := decide_eq_true (by omega)
theorem Public_g (M : WM) (b : List Int) (hb : Bytes b) : ∃ f M', (∀ k, 99 ≤ k → slice_Public.m k M.m b = some (pl f, M'.m)) ∧ (∀ k, 99 ≤ k → visorref33_Const.m k (absM M.m) 3 b = some (pl f, absM M'.m)) ∧ Ext M M' ∧ PlW M' f (bw b) := by
  obtain ⟨f, M', h1, h2, h3, h4⟩ := each_g (M0 := M) (P := slice_Public.l1 (planes b)) (R := visorref33_Const.l1 3 (planes b)) (zP := zW) (zR := zW) (x := bw b)
    (fun j hj M1 he => by
      obtain ⟨o0, o1, o2, M2, h, s⟩ := Pub_g M1 _ (wd_w b j)
      refine ⟨o0, o1, o2, M2, fun k hk A hA _ => ?_, fun k hk A hA _ => ?_, h.e, h.c, s⟩
      · rw [slice_Public.l1, lt8d hj, cond_true, if_pos (i8 hj), wd_get b hj, Option.bind_some, h.p k hk, Option.bind_some, if_pos (by rfl), if_pos (i8 hj), if_pos (l8 hA hj ..), nx8 hj]; rfl
      · rw [visorref33_Const.l1, lt8d hj, cond_true, if_pos (i8 hj), wd_get b hj, Option.bind_some, h.r k hk, Option.bind_some, if_pos (i8 hj), if_pos (by rfl), if_pos (l8 hA hj ..), nx8 hj]; rfl)
    (fun k m A => by rw [slice_Public.l1]; rfl) (fun k m A => by rw [visorref33_Const.l1]; rfl)
  refine ⟨f, M', fun k hk => ?_, fun k hk => ?_, h3, h4⟩
  · unfold slice_Public.m
    rw [Cut_m b hb k (by omega), Option.bind_some, if_pos (planes_len b), show ([ci 0, ci 0, ci 0, ci 0, ci 0, ci 0, ci 0, ci 0, ci 0, ci 0, ci 0, ci 0, ci 0, ci 0, ci 0, ci 0, ci 0, ci 0, ci 0, ci 0, ci 0, ci 0, ci 0, ci 0] : Cells) = pl zW from rfl, h1 k hk]; rfl
  · unfold visorref33_Const.m
    rw [rCut_m b hb k (by omega), Option.bind_some, if_pos (planes_len b), show ([ci 0, ci 0, ci 0, ci 0, ci 0, ci 0, ci 0, ci 0, ci 0, ci 0, ci 0, ci 0, ci 0, ci 0, ci 0, ci 0, ci 0, ci 0, ci 0, ci 0, ci 0, ci 0, ci 0, ci 0] : Cells) = pl zW from rfl, h2 k hk]; rfl
theorem Told_g (M : WM) (b : List Int) (hb : Bytes b) : ∃ f M', (∀ k, 99 ≤ k → slice_Told.m k M.m b = some (pl f, M'.m)) ∧ (∀ k, 99 ≤ k → visorref33_Const.m k (absM M.m) 4 b = some (pl f, absM M'.m)) ∧ Ext M M' ∧ PlW M' f (bw b) := by
  obtain ⟨f, M', h1, h2, h3, h4⟩ := each_g (M0 := M) (P := slice_Told.l1 (planes b)) (R := visorref33_Const.l1 4 (planes b)) (zP := zW) (zR := zW) (x := bw b)
    (fun j hj M1 he => by
      obtain ⟨o0, o1, o2, M2, h⟩ := TldC.ex M1 ((wd b j : Nat) : Int)
      refine ⟨o0, o1, o2, M2, fun k hk A hA _ => ?_, fun k hk A hA _ => ?_, h.ext, h.c, fun F x hF => h.s x hF⟩
      · rw [slice_Told.l1, lt8d hj, cond_true, if_pos (i8 hj), wd_get b hj, Option.bind_some, h.p hk (wd_w b j), Option.bind_some, if_pos (by rfl), if_pos (i8 hj), if_pos (l8 hA hj ..), nx8 hj]; rfl
      · rw [visorref33_Const.l1, lt8d hj, cond_true, if_pos (i8 hj), wd_get b hj, Option.bind_some, h.r hk (wd_w b j), Option.bind_some, if_pos (i8 hj), if_pos (by rfl), if_pos (l8 hA hj ..), nx8 hj]; rfl)
    (fun k m A => by rw [slice_Told.l1]; rfl) (fun k m A => by rw [visorref33_Const.l1]; rfl)
  refine ⟨f, M', fun k hk => ?_, fun k hk => ?_, h3, h4⟩
  · unfold slice_Told.m
    rw [Cut_m b hb k (by omega), Option.bind_some, if_pos (planes_len b), show ([ci 0, ci 0, ci 0, ci 0, ci 0, ci 0, ci 0, ci 0, ci 0, ci 0, ci 0, ci 0, ci 0, ci 0, ci 0, ci 0, ci 0, ci 0, ci 0, ci 0, ci 0, ci 0, ci 0, ci 0] : Cells) = pl zW from rfl, h1 k hk]; rfl
  · unfold visorref33_Const.m
    rw [rCut_m b hb k (by omega), Option.bind_some, if_pos (planes_len b), show ([ci 0, ci 0, ci 0, ci 0, ci 0, ci 0, ci 0, ci 0, ci 0, ci 0, ci 0, ci 0, ci 0, ci 0, ci 0, ci 0, ci 0, ci 0, ci 0, ci 0, ci 0, ci 0, ci 0, ci 0] : Cells) = pl zW from rfl, h2 k hk]; rfl
theorem Encode_g (M : WM) (b : List Int) (hb : Bytes b) : ∃ f M', (∀ k, 99 ≤ k → slice_Encode.m k M.m b = some (pl f, M'.m)) ∧ (∀ k, 99 ≤ k → visorref33_Encode.m k (absM M.m) b = some (pl f, absM M'.m)) ∧ Ext M M' ∧ PlW M' f (bw b) := by
  obtain ⟨f, M', h1, h2, h3, h4⟩ := each_g (M0 := M) (P := slice_Encode.l1 (planes b)) (R := visorref33_Encode.l1 (planes b)) (zP := zW) (zR := zW) (x := bw b)
    (fun j hj M1 he => by
      obtain ⟨o0, o1, o2, M2, h⟩ := EnC.ex M1 ((wd b j : Nat) : Int)
      refine ⟨o0, o1, o2, M2, fun k hk A hA _ => ?_, fun k hk A hA _ => ?_, h.ext, h.c, fun F x hF => h.s x hF⟩
      · rw [slice_Encode.l1, lt8d hj, cond_true, if_pos (i8 hj), wd_get b hj, Option.bind_some, h.p hk (wd_w b j), Option.bind_some, if_pos (by rfl), if_pos (i8 hj), if_pos (l8 hA hj ..), nx8 hj]; rfl
      · rw [visorref33_Encode.l1, lt8d hj, cond_true, if_pos (i8 hj), wd_get b hj, Option.bind_some, h.r hk (wd_w b j), Option.bind_some, if_pos (i8 hj), if_pos (by rfl), if_pos (l8 hA hj ..), nx8 hj]; rfl)
    (fun k m A => by rw [slice_Encode.l1]; rfl) (fun k m A => by rw [visorref33_Encode.l1]; rfl)
  refine ⟨f, M', fun k hk => ?_, fun k hk => ?_, h3, h4⟩
  · unfold slice_Encode.m
    rw [Cut_m b hb k (by omega), Option.bind_some, if_pos (planes_len b), show ([ci 0, ci 0, ci 0, ci 0, ci 0, ci 0, ci 0, ci 0, ci 0, ci 0, ci 0, ci 0, ci 0, ci 0, ci 0, ci 0, ci 0, ci 0, ci 0, ci 0, ci 0, ci 0, ci 0, ci 0] : Cells) = pl zW from rfl, h1 k hk]; rfl
  · unfold visorref33_Encode.m
    rw [rCut_m b hb k (by omega), Option.bind_some, if_pos (planes_len b), show ([ci 0, ci 0, ci 0, ci 0, ci 0, ci 0, ci 0, ci 0, ci 0, ci 0, ci 0, ci 0, ci 0, ci 0, ci 0, ci 0, ci 0, ci 0, ci 0, ci 0, ci 0, ci 0, ci 0, ci 0] : Cells) = pl zW from rfl, h2 k hk]; rfl
theorem pXor_g (M : WM) {f g : Nat → Tri} {x y : Nat → BitVec 64} (hf : PlW M f x) (hg : PlW M g y) : ∃ f' M', (∀ k, 99 ≤ k → slice_Xor.m k M.m (pl f) (pl g) = some (pl f', M'.m)) ∧ (∀ k, 99 ≤ k → visorref33_Xor.m k (absM M.m) (pl f) (pl g) = some (pl f', absM M'.m)) ∧ Ext M M' ∧ PlW M' f' (fun j => x j ^^^ y j) := by
  obtain ⟨f', M', h1, h2, h3, h4⟩ := each_g (M0 := M) (P := slice_Xor.l1 (pl f) (pl g)) (R := visorref33_Xor.l1 (pl g)) (zP := zW) (zR := f) (x := fun j => x j ^^^ y j)
    (fun j hj M1 he => by
      obtain ⟨o0, o1, o2, M2, h⟩ := XrC.ex M1 (f j).1 (f j).2.1 (f j).2.2 (g j).1 (g j).2.1 (g j).2.2
      refine ⟨o0, o1, o2, M2, fun k hk A hA _ => ?_, fun k hk A hA hp => ?_, h.ext, h.c, fun F e hF => h.s e hF (((hf j hj).2.ext he).ext h.ext F e hF) (((hg j hj).2.ext he).ext h.ext F e hF)⟩
      · rw [slice_Xor.l1, lt8d hj, cond_true, if_pos (i8 hj), pl_part f hj, Option.bind_some, if_pos (i8 hj), pl_part g hj, Option.bind_some]
        unfold c3
        rw [h.p hk, Option.bind_some, if_pos (by rfl), if_pos (i8 hj), if_pos (l8 hA hj ..), nx8 hj]
      · rw [visorref33_Xor.l1, lt8d hj, cond_true, if_pos (i8 hj), hp, Option.bind_some, if_pos (i8 hj), pl_part g hj, Option.bind_some]
        unfold c3
        rw [h.r hk, Option.bind_some, if_pos (i8 hj), if_pos (by rfl), if_pos (l8 hA hj ..), nx8 hj])
    (fun k m A => by rw [slice_Xor.l1]; rfl) (fun k m A => by rw [visorref33_Xor.l1]; rfl)
  refine ⟨f', M', fun k hk => ?_, fun k hk => ?_, h3, h4⟩
  · unfold slice_Xor.m
    rw [show ([ci 0, ci 0, ci 0, ci 0, ci 0, ci 0, ci 0, ci 0, ci 0, ci 0, ci 0, ci 0, ci 0, ci 0, ci 0, ci 0, ci 0, ci 0, ci 0, ci 0, ci 0, ci 0, ci 0, ci 0] : Cells) = pl zW from rfl, h1 k hk]; rfl
  · unfold visorref33_Xor.m
    rw [h2 k hk]; rfl
theorem pAdd_g (M : WM) {f : Nat → Tri} {x : Nat → BitVec 64} (hf : PlW M f x) (b : List Int) (hb : Bytes b) : ∃ f' M', (∀ k, 99 ≤ k → slice_Add.m k M.m (pl f) b = some (pl f', M'.m)) ∧ (∀ k, 99 ≤ k → visorref33_Add.m k (absM M.m) 3 (pl f) b = some (pl f', absM M'.m)) ∧ Ext M M' ∧ PlW M' f' (fun j => x j ^^^ bw b j) := by
  obtain ⟨f', M', h1, h2, h3, h4⟩ := each_g (M0 := M) (P := slice_Add.l1 (pl f) (planes b)) (R := visorref33_Add.l1 3 (planes b)) (zP := zW) (zR := f) (x := fun j => x j ^^^ bw b j)
    (fun j hj M1 he => by
      obtain ⟨o0, o1, o2, M2, h⟩ := AdC.ex M1 3 (f j).1 (f j).2.1 (f j).2.2 ((wd b j : Nat) : Int)
      refine ⟨o0, o1, o2, M2, fun k hk A hA _ => ?_, fun k hk A hA hp => ?_, h.ext, fun hn => ?_, fun F e hF => h.s e hF (.inl rfl) (((hf j hj).2.ext he).ext h.ext F e hF)⟩
      · rw [slice_Add.l1, lt8d hj, cond_true, if_pos (i8 hj), pl_part f hj, Option.bind_some, if_pos (i8 hj), wd_get b hj, Option.bind_some]
        unfold c3
        rw [h.p hk (wd_w b j), Option.bind_some, if_pos (by rfl), if_pos (i8 hj), if_pos (l8 hA hj ..), nx8 hj]
      · rw [visorref33_Add.l1, lt8d hj, cond_true, if_pos (i8 hj), hp, Option.bind_some, if_pos (i8 hj), wd_get b hj, Option.bind_some]
        unfold c3
        rw [h.r hk (wd_w b j), Option.bind_some, if_pos (i8 hj), if_pos (by rfl), if_pos (l8 hA hj ..), nx8 hj]
      · have hc := (hf j hj).1
        have e1 := he.n; have e2 := h.ext.n
        obtain ⟨X0, X1, _, _, _, _, rfl, _⟩ := h
        exact hc (by rw [← e1, ← e2]; exact hn))
    (fun k m A => by rw [slice_Add.l1]; rfl) (fun k m A => by rw [visorref33_Add.l1]; rfl)
  refine ⟨f', M', fun k hk => ?_, fun k hk => ?_, h3, h4⟩
  · unfold slice_Add.m
    rw [Cut_m b hb k (by omega), Option.bind_some, if_pos (planes_len b), show ([ci 0, ci 0, ci 0, ci 0, ci 0, ci 0, ci 0, ci 0, ci 0, ci 0, ci 0, ci 0, ci 0, ci 0, ci 0, ci 0, ci 0, ci 0, ci 0, ci 0, ci 0, ci 0, ci 0, ci 0] : Cells) = pl zW from rfl, h1 k hk]; rfl
  · unfold visorref33_Add.m
    rw [rCut_m b hb k (by omega), Option.bind_some, if_pos (planes_len b), h2 k hk]; rfl
theorem pAddT_g (M : WM) {f : Nat → Tri} {x : Nat → BitVec 64} (hf : PlW M f x) (b : List Int) (hb : Bytes b) : ∃ f' M', (∀ k, 99 ≤ k → slice_AddTold.m k M.m (pl f) b = some (pl f', M'.m)) ∧ (∀ k, 99 ≤ k → visorref33_Add.m k (absM M.m) 4 (pl f) b = some (pl f', absM M'.m)) ∧ Ext M M' ∧ PlW M' f' (fun j => x j ^^^ bw b j) := by
  obtain ⟨f', M', h1, h2, h3, h4⟩ := each_g (M0 := M) (P := slice_AddTold.l1 (pl f) (planes b)) (R := visorref33_Add.l1 4 (planes b)) (zP := zW) (zR := f) (x := fun j => x j ^^^ bw b j)
    (fun j hj M1 he => by
      obtain ⟨o0, o1, o2, M2, h⟩ := AdC.ex M1 4 (f j).1 (f j).2.1 (f j).2.2 ((wd b j : Nat) : Int)
      refine ⟨o0, o1, o2, M2, fun k hk A hA _ => ?_, fun k hk A hA hp => ?_, h.ext, fun hn => ?_, fun F e hF => h.s e hF (.inr rfl) (((hf j hj).2.ext he).ext h.ext F e hF)⟩
      · rw [slice_AddTold.l1, lt8d hj, cond_true, if_pos (i8 hj), pl_part f hj, Option.bind_some, if_pos (i8 hj), wd_get b hj, Option.bind_some]
        unfold c3
        rw [h.p4 hk (wd_w b j), Option.bind_some, if_pos (by rfl), if_pos (i8 hj), if_pos (l8 hA hj ..), nx8 hj]
      · rw [visorref33_Add.l1, lt8d hj, cond_true, if_pos (i8 hj), hp, Option.bind_some, if_pos (i8 hj), wd_get b hj, Option.bind_some]
        unfold c3
        rw [h.r hk (wd_w b j), Option.bind_some, if_pos (i8 hj), if_pos (by rfl), if_pos (l8 hA hj ..), nx8 hj]
      · have hc := (hf j hj).1
        have e1 := he.n; have e2 := h.ext.n
        obtain ⟨X0, X1, _, _, _, _, rfl, _⟩ := h
        exact hc (by rw [← e1, ← e2]; exact hn))
    (fun k m A => by rw [slice_AddTold.l1]; rfl) (fun k m A => by rw [visorref33_Add.l1]; rfl)
  refine ⟨f', M', fun k hk => ?_, fun k hk => ?_, h3, h4⟩
  · unfold slice_AddTold.m
    rw [Cut_m b hb k (by omega), Option.bind_some, if_pos (planes_len b), show ([ci 0, ci 0, ci 0, ci 0, ci 0, ci 0, ci 0, ci 0, ci 0, ci 0, ci 0, ci 0, ci 0, ci 0, ci 0, ci 0, ci 0, ci 0, ci 0, ci 0, ci 0, ci 0, ci 0, ci 0] : Cells) = pl zW from rfl, h1 k hk]; rfl
  · unfold visorref33_Add.m
    rw [rCut_m b hb k (by omega), Option.bind_some, if_pos (planes_len b), h2 k hk]; rfl
theorem pOne_g (M : WM) {f : Nat → Tri} {x : Nat → BitVec 64} (hf : PlW M f x) {kd c : Int} (hk8 : kd = 8 ∨ kd = 9 ∨ kd = 10 ∨ kd = 11) (hc : IsW c) : ∃ f' M', (∀ k, 99 ≤ k → slice_One.m k M.m kd (pl f) c = some (pl f', M'.m)) ∧ (∀ k, 99 ≤ k → visorref33_One.m k (absM M.m) kd (pl f) c = some (pl f', absM M'.m)) ∧ Ext M M' ∧ PlW M' f' (fun j => movedW kd (BitVec.ofInt 64 c) (x j)) := by
  obtain ⟨f', M', h1, h2, h3, h4⟩ := each_g (M0 := M) (P := slice_One.l1 kd (pl f) c) (R := visorref33_One.l1 kd c) (zP := zW) (zR := f) (x := fun j => movedW kd (BitVec.ofInt 64 c) (x j))
    (fun j hj M1 he => by
      obtain ⟨o0, o1, o2, M2, h⟩ := OnC.ex M1 kd (f j).1 (f j).2.1 (f j).2.2 c
      refine ⟨o0, o1, o2, M2, fun k hk A hA _ => ?_, fun k hk A hA hp => ?_, h.ext, h.c, fun F e hF => h.s e hF (by omega) (((hf j hj).2.ext he).ext h.ext F e hF) (f := movedW kd (BitVec.ofInt 64 c)) (fun y => rfl) (fun y y' => movedW_xor hk8 _ y y')⟩
      · rw [slice_One.l1, lt8d hj, cond_true, if_pos (i8 hj), pl_part f hj, Option.bind_some]
        unfold c3
        rw [h.p hk hc, Option.bind_some, if_pos (by rfl), if_pos (i8 hj), if_pos (l8 hA hj ..), nx8 hj]
      · rw [visorref33_One.l1, lt8d hj, cond_true, if_pos (i8 hj), hp, Option.bind_some]
        unfold c3
        rw [h.r hk hc, Option.bind_some, if_pos (i8 hj), if_pos (by rfl), if_pos (l8 hA hj ..), nx8 hj])
    (fun k m A => by rw [slice_One.l1]; rfl) (fun k m A => by rw [visorref33_One.l1]; rfl)
  refine ⟨f', M', fun k hk => ?_, fun k hk => ?_, h3, h4⟩
  · unfold slice_One.m
    rw [show ([ci 0, ci 0, ci 0, ci 0, ci 0, ci 0, ci 0, ci 0, ci 0, ci 0, ci 0, ci 0, ci 0, ci 0, ci 0, ci 0, ci 0, ci 0, ci 0, ci 0, ci 0, ci 0, ci 0, ci 0] : Cells) = pl zW from rfl, h1 k hk]; rfl
  · unfold visorref33_One.m
    rw [h2 k hk]; rfl
/-! what planes stand for -/
def got (j : Nat) (x : Nat → BitVec 64) : Nat → Nat := fun i => if i < j then (x i).toNat else 0
theorem got_next {j : Nat} (hj : j < 8) (x : Nat → BitVec 64) : (cellsF (got j x)).set (0 + (j : Int).toNat * 1) (cw (u (x j))) = cellsF (got (j + 1) x) := by
  rw [Int.toNat_natCast, Nat.mul_one, Nat.zero_add]
  refine (cellsF_set _ hj _).trans (cellsF_congr fun i hi => ?_)
  unfold got
  by_cases h : i = j
  · rw [if_pos h, if_pos (by omega), h]
  · rw [if_neg h]
    by_cases h2 : i < j
    · rw [if_pos h2, if_pos (by omega)]
    · rw [if_neg h2, if_neg (by omega)]
theorem got_end (x : Nat → BitVec 64) : cellsF (got 8 x) = cellsF (fun j => (x j).toNat) := cellsF_congr fun i hi => by unfold got; rw [if_pos hi]
theorem val_l {M : WM} {f : Nat → Tri} {x : Nat → BitVec 64} (hf : PlW M f x) (hb : M.m.bad = 0) : ∀ (d j k : Nat), j + d = 8 → d + 90 ≤ k → slice_Value.l1 M.m.values (pl f) k (cellsF (got j x)) (j : Int) = some (cellsF fun j => (x j).toNat) := by
  intro d
  induction d with
  | zero =>
    intro j k hj hk
    obtain rfl : j = 8 := by omega
    obtain ⟨k, rfl⟩ : ∃ i, k = i + 1 := ⟨k - 1, by omega⟩
    rw [slice_Value.l1, decide_eq_false (by omega), cond_false, got_end]
  | succ d ih =>
    intro j k hj hk
    obtain ⟨k, rfl⟩ : ∃ i, k = i + 1 := ⟨k - 1, by omega⟩
    have hj8 : j < 8 := by omega
    rw [slice_Value.l1, lt8d hj8, cond_true, if_pos (i8 hj8), pl_part' f hj8, Option.bind_some]
    unfold c3
    rw [Value_w (by omega) ((hf j hj8).2.now hb), Option.bind_some, if_pos (i8 hj8), if_pos (by rw [cellsF_len]; omega), got_next hj8, nx8 hj8]
    exact ih (j + 1) k (by omega) (by omega)
theorem rval_l {M : WM} {f : Nat → Tri} {x : Nat → BitVec 64} (hf : PlW M f x) (hb : M.m.bad = 0) : ∀ (d j k : Nat), j + d = 8 → d + 90 ≤ k → visorref33_Value.l1 (absM M.m).val (pl f) k (cellsF (got j x)) (j : Int) = some (cellsF fun j => (x j).toNat) := by
  intro d
  induction d with
  | zero =>
    intro j k hj hk
    obtain rfl : j = 8 := by omega
    obtain ⟨k, rfl⟩ : ∃ i, k = i + 1 := ⟨k - 1, by omega⟩
    rw [visorref33_Value.l1, decide_eq_false (by omega), cond_false, got_end]
  | succ d ih =>
    intro j k hj hk
    obtain ⟨k, rfl⟩ : ∃ i, k = i + 1 := ⟨k - 1, by omega⟩
    have hj8 : j < 8 := by omega
    rw [visorref33_Value.l1, lt8d hj8, cond_true, if_pos (i8 hj8), pl_part f hj8, Option.bind_some]
    unfold c3
    rw [rValue_w (by omega) ((hf j hj8).2.now hb), Option.bind_some, if_pos (i8 hj8), if_pos (by rw [cellsF_len]; omega), got_next hj8, nx8 hj8]
    exact ih (j + 1) k (by omega) (by omega)
theorem got_zero (x : Nat → BitVec 64) : cellsF (got 0 x) = [cw 0, cw 0, cw 0, cw 0, cw 0, cw 0, cw 0, cw 0] := rfl
theorem pValue_w {M : WM} {f : Nat → Tri} {x : Nat → BitVec 64} (hf : PlW M f x) (hb : M.m.bad = 0) (k : Nat) (hk : 99 ≤ k) : slice_Value.m k M.m.values (pl f) = some (cellsF fun j => (x j).toNat) := by
  unfold slice_Value.m
  rw [if_pos (pl_len f), ← got_zero x, show (0 : Int) = ((0 : Nat) : Int) from rfl, val_l hf hb 8 0 k (by omega) (by omega), Option.bind_some, if_pos (cellsF_len _)]
theorem rpValue_w {M : WM} {f : Nat → Tri} {x : Nat → BitVec 64} (hf : PlW M f x) (hb : M.m.bad = 0) (k : Nat) (hk : 99 ≤ k) : visorref33_Value.m k (absM M.m).val (pl f) = some (cellsF fun j => (x j).toNat) := by
  unfold visorref33_Value.m
  rw [← got_zero x, show (0 : Int) = ((0 : Nat) : Int) from rfl, rval_l hf hb 8 0 k (by omega) (by omega), Option.bind_some, if_pos (cellsF_len _)]
theorem bw_planes (b : List Int) : (cellsF fun j => (bw b j).toNat) = planes b := cellsF_congr fun j _ => bw_nat b j
/-! SlicePlays. -/
theorem xyx (x y : BitVec 64) : x ^^^ y ^^^ x = y := by
  apply BitVec.eq_of_getLsbD_eq; intro i hi
  simp only [BitVec.getLsbD_xor]
  cases x.getLsbD i <;> cases y.getLsbD i <;> rfl
theorem planes_nil : (cellsF fun _ => (0#64).toNat) = planes [] := rfl
theorem splays_12 (a b : List Int) (ha : Bytes a) (hb : Bytes b) {M : WM} {fx fs : Nat → Tri} (wx : PlW M fx (bw a)) (ws : PlW M fs (bw b)) (h0 : M.m.bad = 0) : visorlaw33_SlicePlays.j12 1048700 a b (pl fx) (pl fs) M.m.values false = some true := by
  unfold visorlaw33_SlicePlays.j12 visorlaw33_SlicePlays.j13
  rw [cond_false, if_pos (pl_len _), pValue_w wx h0 _ (by omega), Option.bind_some, rCut_m a ha _ (by omega), Option.bind_some, bw_planes, if_pos (planes_kinds _), if_pos (planes_kinds _), show ceq (planes a) (planes a) = true from ceq_self _, cond_true,
    if_pos (pl_len _), pValue_w ws h0 _ (by omega), Option.bind_some, rCut_m b hb _ (by omega), Option.bind_some, bw_planes, if_pos (planes_kinds _), if_pos (planes_kinds _), show ceq (planes b) (planes b) = true from ceq_self _, cond_true, awake33_m _ (by omega)]
  rfl
theorem splays_11 (a b : List Int) (ha : Bytes a) (hb : Bytes b) {M : WM} {fx fs ff fh fz : Nat → Tri} {z : Nat → BitVec 64} (wx : PlW M fx (bw a)) (ws : PlW M fs (bw b)) (wf : PlW M ff (bw b)) (wh : PlW M fh fun _ => 0#64) (wz : PlW M fz z) :
    visorlaw33_SlicePlays.j11 1048700 a b (pl fx) (pl fs) (pl ff) (pl fh) M.m (absM M.m) (pl fz) (pl fz) false = some true := by
  unfold visorlaw33_SlicePlays.j11
  rw [cond_false, Values_w, Option.bind_some, show (absM M.m).e = M.m.bad from rfl]
  by_cases h0 : M.m.bad = 0
  · rw [bneN h0, cond_false, if_pos (pl_len _), if_pos (pl_len _), pValue_w wz h0 _ (by omega), Option.bind_some, rpValue_w wz h0 _ (by omega), Option.bind_some, if_pos (cellsF_kinds _), if_pos (cellsF_kinds _), ceq_self, Bool.not_true, cond_false,
      if_pos (pl_len _), pValue_w wh h0 _ (by omega), Option.bind_some, rCut_m [] (fun x h => by cases h) _ (by omega), Option.bind_some, planes_nil, if_pos (planes_kinds _), if_pos (planes_kinds _), show ceq (planes []) (planes []) = true from ceq_self _, Bool.not_true, cond_false,
      if_pos (pl_len _), pValue_w wf h0 _ (by omega), Option.bind_some, rCut_m b hb _ (by omega), Option.bind_some, bw_planes, if_pos (planes_kinds _), if_pos (planes_kinds _), show ceq (planes b) (planes b) = true from ceq_self _, Bool.not_true]
    exact splays_12 a b ha hb wx ws h0
  · rw [bneT h0, cond_true, awake33_m _ (by omega)]; rfl
theorem splays_2 {V : Twire_Machine × Tvisorref19_M × List Cells × List Int × Bool} {M : WM} (hV : V.1 = M.m) (hV2 : V.2.1 = absM M.m) (a b : List Int) (ha : Bytes a) (hb : Bytes b) (x3 c : Int) (hc : IsW c)
    (hkd : IntKind.i64.wrap (8 + Int.tmod (IntKind.i64.wrap x3) 4) = 8 ∨ IntKind.i64.wrap (8 + Int.tmod (IntKind.i64.wrap x3) 4) = 9 ∨ IntKind.i64.wrap (8 + Int.tmod (IntKind.i64.wrap x3) 4) = 10 ∨ IntKind.i64.wrap (8 + Int.tmod (IntKind.i64.wrap x3) 4) = 11) :
    visorlaw33_SlicePlays.j2 1048700 a b x3 V c = some true := by
  obtain ⟨fx, M1, p1, r1, e1, w1⟩ := Public_g M a ha
  obtain ⟨fu, M2, p2, r2, e2, w2⟩ := Told_g M1 b hb
  obtain ⟨fs, M3, p3, r3, e3, w3⟩ := Encode_g M2 b hb
  obtain ⟨fd, M4, p4, r4, e4, w4⟩ := pXor_g M3 ((w1.ext e2).ext e3) w3
  obtain ⟨ff, M5, p5, r5, e5, w5⟩ := pAdd_g M4 w4 a ha
  obtain ⟨fh, M6, p6, r6, e6, w6⟩ := pAddT_g M5 w5 b hb
  obtain ⟨fz, M7, p7, r7, e7, w7⟩ := pOne_g M6 ((w4.ext e5).ext e6) hkd hc
  unfold visorlaw33_SlicePlays.j2
  rw [hV, hV2, p1 _ (by omega), Option.bind_some, r1 _ (by omega), Option.bind_some, if_pos (pl_len _), if_pos (pl_len _)]
  unfold visorlaw33_SlicePlays.j3
  rw [p2 _ (by omega), Option.bind_some, r2 _ (by omega), Option.bind_some, if_pos (pl_len _), if_pos (pl_len _)]
  unfold visorlaw33_SlicePlays.j4
  rw [p3 _ (by omega), Option.bind_some, r3 _ (by omega), Option.bind_some, if_pos (pl_len _), if_pos (pl_len _)]
  unfold visorlaw33_SlicePlays.j5
  rw [if_pos (pl_len _), if_pos (pl_len _), if_pos (pl_kinds _), if_pos (pl_kinds _), pl_ceq, Bool.not_true, cond_false, if_pos (pl_len _), if_pos (pl_len _), if_pos (pl_kinds _), if_pos (pl_kinds _), pl_ceq, Bool.not_true, cond_false, if_pos (pl_len _), if_pos (pl_len _), if_pos (pl_kinds _), if_pos (pl_kinds _), pl_ceq, Bool.not_true]
  unfold visorlaw33_SlicePlays.j6
  rw [cond_false, if_pos (pl_len _), if_pos (pl_len _), if_pos (pl_len _), if_pos (pl_len _), p4 _ (by omega), Option.bind_some, r4 _ (by omega), Option.bind_some, if_pos (pl_len _), if_pos (pl_len _)]
  unfold visorlaw33_SlicePlays.j7
  rw [if_pos (pl_len _), if_pos (pl_len _), p5 _ (by omega), Option.bind_some, r5 _ (by omega), Option.bind_some, if_pos (pl_len _), if_pos (pl_len _)]
  unfold visorlaw33_SlicePlays.j8
  rw [if_pos (pl_len _), if_pos (pl_len _), p6 _ (by omega), Option.bind_some, r6 _ (by omega), Option.bind_some, if_pos (pl_len _), if_pos (pl_len _)]
  unfold visorlaw33_SlicePlays.j9
  rw [if_pos (pl_len _), if_pos (pl_len _), p7 _ (by omega), Option.bind_some, r7 _ (by omega), Option.bind_some, if_pos (pl_len _), if_pos (pl_len _)]
  unfold visorlaw33_SlicePlays.j10
  rw [if_pos (pl_len _), if_pos (pl_len _), if_pos (pl_kinds _), if_pos (pl_kinds _), pl_ceq, Bool.not_true, cond_false, if_pos (pl_len _), if_pos (pl_len _), if_pos (pl_kinds _), if_pos (pl_kinds _), pl_ceq, Bool.not_true, cond_false, if_pos (pl_len _), if_pos (pl_len _), if_pos (pl_kinds _), if_pos (pl_kinds _), pl_ceq, Bool.not_true, cond_false,
    if_pos (pl_len _), if_pos (pl_len _), if_pos (pl_kinds _), if_pos (pl_kinds _), pl_ceq, Bool.not_true, cond_false, Like_w (by omega), Option.bind_some, Bool.not_true]
  have f5 : PlW M5 ff (bw b) := w5.to fun j _ => xyx _ _
  have f6 : PlW M6 fh fun _ => 0#64 := w6.to fun j _ => by rw [xyx]; exact BitVec.xor_self
  exact splays_11 a b ha hb ((((((w1.ext e2).ext e3).ext e4).ext e5).ext e6).ext e7) ((((w3.ext e4).ext e5).ext e6).ext e7) ((f5.ext e6).ext e7) (f6.ext e7) w7
theorem splays_n {n : Int} (hn : n = 2 ∨ n = 3) (a b : List Int) (ha : Bytes a) (hb : Bytes b) {x3 x4 : Int} (h3 : 0 ≤ x3 ∧ x3 ≤ 255) (h4 : IsW x4) {x5 : List Int} (hw : ∀ x ∈ x5, IsW x) (n5 : x5.length * 8 ≤ 140737488351232) : visorlaw33_SlicePlays.j1 1048700 a b x3 x4 x5 n = some true := by
  unfold visorlaw33_SlicePlays.j1
  by_cases hl : ((decide (((a.length : Nat) : Int) > 100)) || (decide (((b.length : Nat) : Int) > 100))) = true
  · rw [hl, cond_true, awake33_m _ (by omega)]; rfl
  · rw [Bool.not_eq_true] at hl
    rw [hl, cond_false, Begins_m 1048700 hn (by omega) (by omega) n5, Option.bind_some]
    dsimp only
    have e3 : IntKind.i64.wrap (8 + Int.tmod (IntKind.i64.wrap x3) 4) = 8 + x3 % 4 := by
      rw [wrapI (x := x3) (by omega) (by omega), Int.tmod_eq_emod_of_nonneg h3.1, wrapI (by omega) (by omega)]
    have hkd : IntKind.i64.wrap (8 + Int.tmod (IntKind.i64.wrap x3) 4) = 8 ∨ IntKind.i64.wrap (8 + Int.tmod (IntKind.i64.wrap x3) 4) = 9 ∨ IntKind.i64.wrap (8 + Int.tmod (IntKind.i64.wrap x3) 4) = 10 ∨ IntKind.i64.wrap (8 + Int.tmod (IntKind.i64.wrap x3) 4) = 11 := by rw [e3]; omega
    have hc : IsW (Int.tmod x4 64) := by
      rw [Int.tmod_eq_emod_of_nonneg h4.1]; exact ⟨by omega, by omega⟩
    rw [Bool.not_true, cond_false]
    by_cases h8 : IntKind.i64.wrap (8 + Int.tmod (IntKind.i64.wrap x3) 4) > 8
    · rw [decide_eq_true h8, cond_true]
      exact splays_2 (M := start n 2000 x5 hn (by omega) hw n5) rfl rfl a b ha hb x3 _ hc hkd
    · rw [decide_eq_false h8, cond_false]
      exact splays_2 (M := start n 2000 x5 hn (by omega) hw n5) rfl rfl a b ha hb x3 _ h4 hkd
theorem bytes_of {x : List Int} (h : ∀ y ∈ x, IntKind.u8.min ≤ y ∧ y ≤ IntKind.u8.max) : Bytes x := fun y hy => by
  have := h y hy
  rw [show IntKind.u8.min = 0 from rfl, show IntKind.u8.max = 255 by decide] at this
  omega
theorem SlicePlays_pure (x0 : Bool) (x1 : List Int) (x2 : List Int) (x3 : Int) (x4 : Int) (x5 : List Int) (b1 : ∀ x ∈ x1, IntKind.u8.min ≤ x ∧ x ≤ IntKind.u8.max) (n1 : x1.length * 1 ≤ 140737488351232) (b2 : ∀ x ∈ x2, IntKind.u8.min ≤ x ∧ x ≤ IntKind.u8.max) (n2 : x2.length * 1 ≤ 140737488351232) (b3 : IntKind.u8.min ≤ x3 ∧ x3 ≤ IntKind.u8.max) (b4 : IntKind.u64.min ≤ x4 ∧ x4 ≤ IntKind.u64.max) (b5 : ∀ x ∈ x5, IntKind.u64.min ≤ x ∧ x ≤ IntKind.u64.max) (n5 : x5.length * 8 ≤ 140737488351232) : ∃ k, visorlaw33_SlicePlays.m k x0 x1 x2 x3 x4 x5 = some true := by
  refine ⟨1048700, ?_⟩
  simp only [min_u64, max_u64] at b4 b5
  rw [show IntKind.u8.min = 0 from rfl, show IntKind.u8.max = 255 by decide] at b3
  unfold visorlaw33_SlicePlays.m
  cases x0
  · exact splays_n (.inl rfl) x1 x2 (bytes_of b1) (bytes_of b2) b3 b4 b5 n5
  · exact splays_n (.inr rfl) x1 x2 (bytes_of b1) (bytes_of b2) b3 b4 b5 n5
end Go.Proofs.YtflgefjocjpjaaaGreat
