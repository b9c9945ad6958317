/- The plain law behind MapsTells: its model answers true for all data that fit; no condition beyond their kinds. -/
import Derived.Test.YtflgefjocjpjaaaMMapsTells2
namespace Go.Proofs.Ytflgefjocjpjaaa
open Go Go.Vk
set_option linter.unusedVariables false

/-! What an op makes: both programs' Eval is one function of words. -/
def evalW (kind : Int) (c a b d x : BitVec 64) : BitVec 64 :=
  if kind = 1 then x else if kind = 2 then x ^^^ a ^^^ b else if kind = 3 then c else if kind = 4 then c else if kind = 5 then a ^^^ b else if kind = 6 then ~~~a
  else if kind = 7 then a &&& b else if kind = 8 then a &&& c else if kind = 9 then a <<< (c.toNat % 64) else if kind = 10 then a >>> (c.toNat % 64)
  else if kind = 11 then a.rotateLeft (c.toNat % 64) else if kind = 12 then a ^^^ b ^^^ d else 0#64
theorem rot63 (x : BitVec 64) (n : Nat) (h : n < 64) : x <<< n ||| x >>> (64 - n) = x.rotateLeft n := by
  rw [BitVec.rotateLeft_def, Nat.mod_eq_of_lt h]
theorem octet_Rot_m (k : Nat) (x : BitVec 64) (n : Nat) (h : n < 64) : octet_Rot.m k (u x) (n : Int) = some (u (x.rotateLeft n)) := by
  have hb : band .i64 (n : Int) 63 = (n : Int) := by
    have : ∀ m : Fin 64, band .i64 ((m : Nat) : Int) 63 = ((m : Nat) : Int) := by decide
    exact this ⟨n, h⟩
  unfold octet_Rot.m
  rw [hb, if_pos (by omega), wrap_i64_of (by omega) (by omega), if_pos (by omega), shl_u _ (by omega), shr_u _ (by omega), bor_u]
  congr 2
  rw [← rot63 x n h]
  have e : ((64 : Int) - (n : Int)).toNat = 64 - n := by omega
  rw [e]; rfl
theorem rot1 (x : BitVec 64) : IntKind.u64.wrap (IntKind.u64.wrap (u x * 2) + IntKind.u64.wrap (Int.tdiv (u x) 9223372036854775808)) = u (x.rotateLeft 1) := by
  have h := x.isLt
  have hd : Int.tdiv (u x) 9223372036854775808 = ((x.toNat / 9223372036854775808 : Nat) : Int) := rfl
  rw [hd, wrap_u64, wrap_u64, wrap_u64]
  have e : (x.rotateLeft 1).toNat = (x.toNat * 2) % 18446744073709551616 + x.toNat / 9223372036854775808 := by
    rw [BitVec.rotateLeft_def]
    have h1 : (x <<< (1 % 64)) &&& (x >>> (64 - 1 % 64)) = 0#64 := by
      apply BitVec.eq_of_getLsbD_eq
      intro i hi
      simp only [BitVec.getLsbD_and, BitVec.getLsbD_shiftLeft, BitVec.getLsbD_ushiftRight, BitVec.getLsbD_zero]
      by_cases h0 : i = 0
      · subst h0; simp
      · have : x.getLsbD (64 - 1 % 64 + i) = false := BitVec.getLsbD_of_ge _ _ (by omega)
        simp [this]
    rw [← BitVec.add_eq_or_of_and_eq_zero _ _ h1, BitVec.toNat_add]
    simp only [BitVec.toNat_shiftLeft, BitVec.toNat_ushiftRight, Nat.shiftLeft_eq, Nat.shiftRight_eq_div_pow, show 1 % 64 = 1 from rfl, show 64 - 1 = 63 from rfl, show 2 ^ 63 = 9223372036854775808 from rfl, show 2 ^ 1 = 2 from rfl]
    omega
  simp only [u, e]
  omega
theorem rotateLeft_zero' (x : BitVec 64) : x.rotateLeft 0 = x := by
  apply BitVec.eq_of_getLsbD_eq
  intro i hi
  rw [BitVec.getLsbD_rotateLeft]; simp [hi]
theorem rotateLeft_add (x : BitVec 64) (a b : Nat) : (x.rotateLeft a).rotateLeft b = x.rotateLeft (a + b) := by
  apply BitVec.eq_of_getLsbD_eq
  intro i hi
  simp only [BitVec.getLsbD_rotateLeft]
  have ha := Nat.mod_lt a (show 0 < 64 by omega)
  have hb := Nat.mod_lt b (show 0 < 64 by omega)
  by_cases h1 : i < b % 64
  · by_cases h2 : i < (a + b) % 64
    · simp only [h1, h2, cond_true, decide_true]
      by_cases h3 : 64 - b % 64 + i < a % 64
      · simp only [h3, decide_true, cond_true]; congr 1; omega
      · simp only [h3, decide_false, cond_false]; rw [decide_eq_true (by omega), Bool.true_and]; congr 1; omega
    · simp only [h1, h2, decide_true, decide_false, cond_true, cond_false, hi, Bool.true_and]
      by_cases h3 : 64 - b % 64 + i < a % 64
      · omega
      · simp only [h3, decide_false, cond_false]; rw [decide_eq_true (by omega), Bool.true_and]; congr 1; omega
  · by_cases h2 : i < (a + b) % 64
    · simp only [h1, h2, decide_true, decide_false, cond_true, cond_false, hi, Bool.true_and]
      by_cases h3 : i - b % 64 < a % 64
      · simp only [h3, decide_true, cond_true]; congr 1; omega
      · omega
    · simp only [h1, h2, decide_false, cond_false, hi, decide_true, Bool.true_and]
      by_cases h3 : i - b % 64 < a % 64
      · simp only [h3, decide_true, cond_true]; congr 1; omega
      · simp only [h3, decide_false, cond_false]; rw [decide_eq_true (by omega), Bool.true_and]; congr 1; omega
theorem mod64 (k : Nat) (n : Nat) : visorref01_Mod.m k (n : Int) 64 = some ((n % 64 : Nat) : Int) := by
  unfold visorref01_Mod.m
  rw [if_pos (by omega)]
  have e : Int.tmod (n : Int) 64 = ((n % 64 : Nat) : Int) := rfl
  rw [e]
  have : decide (((n % 64 : Nat) : Int) < 0) = false := decide_eq_false (by omega)
  rw [this]; simp
theorem ref_Rot_l (n : Nat) : ∀ (d k i : Nat) (x : BitVec 64), n % 64 = i + d → d < k → visorref01_Rot.l1 (n : Int) k (u x) (i : Int) = some (u (x.rotateLeft d)) := by
  intro d
  induction d with
  | zero =>
    intro k i x hi hk
    obtain ⟨k, rfl⟩ : ∃ m, k = m + 1 := ⟨k - 1, by omega⟩
    rw [visorref01_Rot.l1, mod64]
    simp only [Option.bind_some]
    rw [decide_eq_false (by omega)]
    simp [rotateLeft_zero']
  | succ d ih =>
    intro k i x hi hk
    obtain ⟨k, rfl⟩ : ∃ m, k = m + 1 := ⟨k - 1, by omega⟩
    rw [visorref01_Rot.l1, mod64]
    simp only [Option.bind_some]
    rw [decide_eq_true (by omega), rot1, wrap_i64_of (by omega) (by omega)]
    simp only [cond_true]
    have := ih k (i + 1) (x.rotateLeft 1) (by omega) (by omega)
    rw [show ((i : Int) + 1) = ((i + 1 : Nat) : Int) by omega, this, rotateLeft_add, Nat.add_comm 1 d]
theorem ref_Rot_m (k : Nat) (hk : 65 ≤ k) (x : BitVec 64) (n : Nat) : visorref01_Rot.m k (u x) (n : Int) = some (u (x.rotateLeft (n % 64))) := by
  unfold visorref01_Rot.m
  have h := ref_Rot_l n (n % 64) k 0 x (by omega) (by omega)
  rw [show ((0 : Nat) : Int) = 0 from rfl] at h
  rw [h]; rfl
def lowW (n : Nat) : BitVec 64 := BitVec.ofNat 64 (2 ^ n - 1)
theorem ref_Low_l (n : Nat) : ∀ (d k i : Nat), min n 64 = i + d → d < k → visorref01_Low.l1 (n : Int) k (u (lowW i)) (i : Int) = some (u (lowW (min n 64))) := by
  intro d
  induction d with
  | zero =>
    intro k i hi hk
    obtain ⟨k, rfl⟩ : ∃ m, k = m + 1 := ⟨k - 1, by omega⟩
    rw [visorref01_Low.l1]
    have : (decide ((i : Int) < (n : Int)) && decide ((i : Int) < 64)) = false := by
      rw [Bool.and_eq_false_iff]; simp only [decide_eq_false_iff_not]; omega
    rw [this]; simp only [cond_false]
    rw [show min n 64 = i by omega]
  | succ d ih =>
    intro k i hi hk
    obtain ⟨k, rfl⟩ : ∃ m, k = m + 1 := ⟨k - 1, by omega⟩
    rw [visorref01_Low.l1]
    have : (decide ((i : Int) < (n : Int)) && decide ((i : Int) < 64)) = true := by
      rw [Bool.and_eq_true]; simp only [decide_eq_true_eq]; omega
    rw [this, wrap_i64_of (by omega) (by omega)]
    simp only [cond_true]
    have e : IntKind.u64.wrap (IntKind.u64.wrap (u (lowW i) * 2) + 1) = u (lowW (i + 1)) := by
      rw [wrap_u64, wrap_u64]
      simp only [u, lowW, BitVec.toNat_ofNat, Nat.pow_succ]
      have hp : 0 < 2 ^ i := Nat.two_pow_pos i
      omega
    rw [e]
    have := ih k (i + 1) (by omega) (by omega)
    rw [show ((i : Int) + 1) = ((i + 1 : Nat) : Int) by omega, this]
theorem ref_Low_m (k : Nat) (hk : 65 ≤ k) (n : Nat) : visorref01_Low.m k (n : Int) = some (u (lowW (min n 64))) := by
  unfold visorref01_Low.m
  have h := ref_Low_l n (min n 64) k 0 (by omega) (by omega)
  rw [show u (lowW 0) = 0 by decide, show ((0 : Nat) : Int) = 0 from rfl] at h
  rw [h]; rfl
theorem lowW_get (n i : Nat) (h : n ≤ 64) (hi : i < 64) : (lowW n).getLsbD i = decide (i < n) := by
  unfold lowW
  rw [BitVec.getLsbD_ofNat]
  simp [hi, Nat.testBit_two_pow_sub_one]
theorem shl_as (a : BitVec 64) (n : Nat) (h : n < 64) : (a &&& lowW (min (64 - n) 64)).rotateLeft (n % 64) = a <<< n := by
  apply BitVec.eq_of_getLsbD_eq
  intro i hi
  rw [BitVec.getLsbD_rotateLeft, Nat.mod_mod, Nat.mod_eq_of_lt h, BitVec.getLsbD_shiftLeft]
  by_cases h1 : i < n
  · simp only [h1, decide_true, cond_true, Bool.not_true, Bool.and_false, Bool.false_and, BitVec.getLsbD_and]
    rw [lowW_get _ _ (by omega) (by omega), decide_eq_false (by omega)]; simp
  · simp only [h1, decide_false, cond_false, hi, decide_true, Bool.not_false, Bool.true_and, BitVec.getLsbD_and]
    rw [lowW_get _ _ (by omega) (by omega), decide_eq_true (by omega)]; simp
theorem shr_as (a : BitVec 64) (n : Nat) (h : n < 64) : a.rotateLeft ((64 - n) % 64) &&& lowW (min (64 - n) 64) = a >>> n := by
  apply BitVec.eq_of_getLsbD_eq
  intro i hi
  rw [BitVec.getLsbD_and, BitVec.getLsbD_rotateLeft, Nat.mod_mod, BitVec.getLsbD_ushiftRight, lowW_get _ _ (by omega) hi]
  by_cases h1 : i < 64 - n
  · rw [decide_eq_true (show i < min (64 - n) 64 by omega), Bool.and_true]
    by_cases h0 : n = 0
    · subst h0; simp [hi]
    · have e : (64 - n) % 64 = 64 - n := by omega
      rw [e]
      simp only [h1, decide_true, cond_true]
      congr 1; omega
  · rw [decide_eq_false (show ¬ i < min (64 - n) 64 by omega), Bool.and_false]
    rw [BitVec.getLsbD_of_ge _ _ (by omega)]
/-- a word, as a number -/
def IsW (x : Int) : Prop := 0 ≤ x ∧ x ≤ 18446744073709551615
theorem IsW.u {x : Int} (h : IsW x) : ∃ b, x = Go.Vk.u b := exists_u h.1 h.2
theorem isW_u (b : BitVec 64) : IsW (Go.Vk.u b) := u_le b
theorem isW_zero : IsW 0 := ⟨by omega, by omega⟩
/-- what an op makes of numbers -/
def evalI (o : Tapi_Op) (a b d x : Int) : Int := u (evalW o.kind (BitVec.ofInt 64 o.c) (BitVec.ofInt 64 a) (BitVec.ofInt 64 b) (BitVec.ofInt 64 d) (BitVec.ofInt 64 x))
theorem evalI_w (o : Tapi_Op) (a b d x : Int) : IsW (evalI o a b d x) := isW_u _
theorem evalI_u (kind dom r s t : Int) (c a b d x : BitVec 64) : evalI ⟨kind, dom, r, s, t, u c⟩ (u a) (u b) (u d) (u x) = u (evalW kind c a b d x) := by
  unfold evalI; simp only [ofInt_u]
theorem op_Eval_w (k : Nat) (kind dom r s t : Int) (c a b d x : BitVec 64) : op_Eval.m k ⟨kind, dom, r, s, t, u c⟩ (u a) (u b) (u d) (u x) = some (u (evalW kind c a b d x)) := by
  have hm : Int.tmod (u c) 64 = ((c.toNat % 64 : Nat) : Int) := rfl
  have hlt : c.toNat % 64 < 64 := Nat.mod_lt _ (by omega)
  unfold op_Eval.m op_Eval.j1 evalW
  simp only [hm, bxor_u, bnot_u, band_u]
  rw [if_pos (show (0 : Int) ≤ ((c.toNat % 64 : Nat) : Int) by omega), wrap_i64_of (by omega) (by omega), octet_Rot_m k a _ hlt, shl_u _ (by omega), shr_u _ (by omega)]
  simp only [Option.bind_some, Int.toNat_natCast, if_pos (show (0 : Int) ≤ ((c.toNat % 64 : Nat) : Int) by omega)]
  by_cases h1 : kind = 1
  · subst h1; rfl
  by_cases h2 : kind = 2
  · subst h2; rfl
  by_cases h3 : kind = 3
  · subst h3; rfl
  by_cases h4 : kind = 4
  · subst h4; rfl
  by_cases h5 : kind = 5
  · subst h5; rfl
  by_cases h6 : kind = 6
  · subst h6; rfl
  by_cases h7 : kind = 7
  · subst h7; rfl
  by_cases h8 : kind = 8
  · subst h8; rfl
  by_cases h9 : kind = 9
  · subst h9; rfl
  by_cases h10 : kind = 10
  · subst h10; rfl
  by_cases h11 : kind = 11
  · subst h11; rfl
  by_cases h12 : kind = 12
  · subst h12; rfl
  simp only [if_neg h1, if_neg h2, if_neg h3, if_neg h4, if_neg h5, if_neg h6, if_neg h7, if_neg h8, if_neg h9, if_neg h10, if_neg h11, if_neg h12, beq_eq_false_iff_ne.2 h1, beq_eq_false_iff_ne.2 h2, beq_eq_false_iff_ne.2 h3, beq_eq_false_iff_ne.2 h4, beq_eq_false_iff_ne.2 h5, beq_eq_false_iff_ne.2 h6, beq_eq_false_iff_ne.2 h7, beq_eq_false_iff_ne.2 h8, beq_eq_false_iff_ne.2 h9, beq_eq_false_iff_ne.2 h10, beq_eq_false_iff_ne.2 h11, beq_eq_false_iff_ne.2 h12, cond_false]
  rfl
theorem ref_Eval_w (k : Nat) (hk : 65 ≤ k) (kind dom r s t : Int) (c a b d x : BitVec 64) : visorref17_Eval.m k ⟨kind, dom, r, s, t, u c⟩ (u a) (u b) (u d) (u x) = some (u (evalW kind c a b d x)) := by
  have hm : Int.tmod (u c) 64 = ((c.toNat % 64 : Nat) : Int) := rfl
  have hlt : c.toNat % 64 < 64 := Nat.mod_lt _ (by omega)
  have e1 : IntKind.i64.wrap ((c.toNat % 64 : Nat) : Int) = ((c.toNat % 64 : Nat) : Int) := wrap_i64_of (by omega) (by omega)
  have e2 : IntKind.i64.wrap (64 - ((c.toNat % 64 : Nat) : Int)) = ((64 - c.toNat % 64 : Nat) : Int) := by rw [wrap_i64_of (by omega) (by omega)]; omega
  unfold visorref17_Eval.m visorref17_Eval.j1 evalW
  simp only [Option.bind_some, hm, bxor_u, sub_u, band_u, e1, e2, ref_Low_m k hk, ref_Rot_m k hk]
  rw [shl_as a _ hlt, shr_as a _ hlt, Nat.mod_mod]
  by_cases h1 : kind = 1
  · subst h1; rfl
  by_cases h2 : kind = 2
  · subst h2; rfl
  by_cases h3 : kind = 3
  · subst h3; rfl
  by_cases h4 : kind = 4
  · subst h4; rfl
  by_cases h5 : kind = 5
  · subst h5; rfl
  by_cases h6 : kind = 6
  · subst h6; rfl
  by_cases h7 : kind = 7
  · subst h7; rfl
  by_cases h8 : kind = 8
  · subst h8; rfl
  by_cases h9 : kind = 9
  · subst h9; rfl
  by_cases h10 : kind = 10
  · subst h10; rfl
  by_cases h11 : kind = 11
  · subst h11; rfl
  by_cases h12 : kind = 12
  · subst h12; rfl
  simp only [if_neg h1, if_neg h2, if_neg h3, if_neg h4, if_neg h5, if_neg h6, if_neg h7, if_neg h8, if_neg h9, if_neg h10, if_neg h11, if_neg h12, beq_eq_false_iff_ne.2 h1, beq_eq_false_iff_ne.2 h2, beq_eq_false_iff_ne.2 h3, beq_eq_false_iff_ne.2 h4, beq_eq_false_iff_ne.2 h5, beq_eq_false_iff_ne.2 h6, beq_eq_false_iff_ne.2 h7, beq_eq_false_iff_ne.2 h8, beq_eq_false_iff_ne.2 h9, beq_eq_false_iff_ne.2 h10, beq_eq_false_iff_ne.2 h11, beq_eq_false_iff_ne.2 h12, cond_false]
  rfl
theorem op_Eval_m (k : Nat) (o : Tapi_Op) (a b d x : Int) (hc : IsW o.c) (ha : IsW a) (hb : IsW b) (hd : IsW d) (hx : IsW x) : op_Eval.m k o a b d x = some (evalI o a b d x) := by
  obtain ⟨kind, dom, r, s, t, c⟩ := o
  obtain ⟨c, rfl⟩ := hc.u; obtain ⟨a, rfl⟩ := ha.u; obtain ⟨b, rfl⟩ := hb.u; obtain ⟨d, rfl⟩ := hd.u; obtain ⟨x, rfl⟩ := hx.u
  rw [op_Eval_w, evalI_u]
theorem ref_Eval_m (k : Nat) (hk : 65 ≤ k) (o : Tapi_Op) (a b d x : Int) (hc : IsW o.c) (ha : IsW a) (hb : IsW b) (hd : IsW d) (hx : IsW x) : visorref17_Eval.m k o a b d x = some (evalI o a b d x) := by
  obtain ⟨kind, dom, r, s, t, c⟩ := o
  obtain ⟨c, rfl⟩ := hc.u; obtain ⟨a, rfl⟩ := ha.u; obtain ⟨b, rfl⟩ := hb.u; obtain ⟨d, rfl⟩ := hd.u; obtain ⟨x, rfl⟩ := hx.u
  rw [ref_Eval_w k hk, evalI_u]
/-! Which ops may be: both programs' Right is one question. -/
def opRegs (kind n : Int) : Int := if kind = 2 then n - 1 else if kind = 5 ∨ kind = 7 then 2 else if kind = 6 ∨ kind = 8 ∨ kind = 9 ∨ kind = 10 ∨ kind = 11 then 1 else if kind = 12 then n else 0
def okReg (r at' j regs : Int) : Prop := (j < regs → 0 ≤ r ∧ r < at') ∧ (regs ≤ j → r = -1)
instance (r at' j regs : Int) : Decidable (okReg r at' j regs) := by unfold okReg; infer_instance
def okConst (o : Tapi_Op) : Bool := if o.kind = 9 ∨ o.kind = 10 ∨ o.kind = 11 then decide (o.c < 64) else if o.kind = 2 then decide (o.c < 1048576) else if o.kind = 3 ∨ o.kind = 4 ∨ o.kind = 8 then true else o.c == 0
def okHead (o : Tapi_Op) (n : Int) : Prop := 1 ≤ o.kind ∧ o.kind ≤ 12 ∧ -1 ≤ o.dom ∧ o.dom < n ∧ (o.kind = 12 → o.dom = -1)
instance (o : Tapi_Op) (n : Int) : Decidable (okHead o n) := by unfold okHead; infer_instance
def okRegs (o : Tapi_Op) (at' n : Int) : Prop := okReg o.a at' 0 (opRegs o.kind n) ∧ okReg o.b at' 1 (opRegs o.kind n) ∧ okReg o.d at' 2 (opRegs o.kind n)
instance (o : Tapi_Op) (at' n : Int) : Decidable (okRegs o at' n) := by unfold okRegs; infer_instance
/-- may an op be, at a place, of so many shares? -/
def Rt (o : Tapi_Op) (at' n : Int) : Bool := decide (okHead o n) && (decide (okRegs o at' n) && okConst o)
theorem beqF {a b : Int} (h : ¬ a = b) : (a == b) = false := beq_eq_false_iff_ne.2 h
theorem op_Regs_m (k : Nat) (kind n : Int) (hn : n = 2 ∨ n = 3) : op_Regs.m k kind n = some (opRegs kind n) := by
  have hw : IntKind.i64.wrap (n - 1) = n - 1 := wrap_i64_of (by omega) (by omega)
  have h0 : ((n != 2) && (n != 3)) = false := by rcases hn with rfl | rfl <;> rfl
  unfold op_Regs.m op_Regs.j1 op_Regs.j2 opRegs
  rw [h0, cond_false, hw]
  by_cases h2 : kind = 2
  · subst h2; rfl
  by_cases h5 : kind = 5
  · subst h5; rfl
  by_cases h7 : kind = 7
  · subst h7; rfl
  by_cases h6 : kind = 6
  · subst h6; rfl
  by_cases h8 : kind = 8
  · subst h8; rfl
  by_cases h9 : kind = 9
  · subst h9; rfl
  by_cases h10 : kind = 10
  · subst h10; rfl
  by_cases h11 : kind = 11
  · subst h11; rfl
  by_cases h12 : kind = 12
  · subst h12; rfl
  simp only [h2, h5, h6, h7, h8, h9, h10, h11, h12, beqF h2, beqF h5, beqF h6, beqF h7, beqF h8, beqF h9, beqF h10, beqF h11, beqF h12, cond_false, or_self, if_false]
theorem ref_Regs_m (k : Nat) (kind n : Int) (hn : n = 2 ∨ n = 3) : visorref17_Regs.m k kind n = some (opRegs kind n) := op_Regs_m k kind n hn
theorem op_constant_m (k : Nat) (o : Tapi_Op) : op_constant.m k o = some (okConst o) := by
  unfold op_constant.m op_constant.j1 op_constant.j2 okConst
  by_cases h9 : o.kind = 9
  · rw [h9]; rfl
  by_cases h10 : o.kind = 10
  · rw [h10]; rfl
  by_cases h11 : o.kind = 11
  · rw [h11]; rfl
  by_cases h2 : o.kind = 2
  · rw [h2]; rfl
  by_cases h3 : o.kind = 3
  · rw [h3]; rfl
  by_cases h4 : o.kind = 4
  · rw [h4]; rfl
  by_cases h8 : o.kind = 8
  · rw [h8]; rfl
  simp only [h2, h3, h4, h8, h9, h10, h11, beqF h2, beqF h3, beqF h4, beqF h8, beqF h9, beqF h10, beqF h11, cond_false, or_self, if_false]
theorem op_Right_step (o : Tapi_Op) (at' v : Int) (k j : Nat) (r : Int) (hj : j < 3) (hr : getI .i64 [C.int .i64 o.a, C.int .i64 o.b, C.int .i64 o.d] j = some r) :
    op_Right.l1 o at' v (k + 1) (j : Int) = if okReg r at' j v then op_Right.l1 o at' v k ((j + 1 : Nat) : Int) else some (.inl false) := by
  have hw : IntKind.i64.wrap ((j : Int) + 1) = ((j + 1 : Nat) : Int) := by rw [wrap_i64_of (by omega) (by omega)]; omega
  conv => lhs; unfold op_Right.l1
  rw [decide_eq_true (show (j : Int) < 3 by omega), cond_true, if_pos (by omega), Int.toNat_natCast, hr, Option.bind_some, hw]
  by_cases h1 : (j : Int) < v
  · rw [decide_eq_true h1, cond_true, decide_eq_false (show ¬ (j : Int) ≥ v by omega), cond_false]
    by_cases h2 : r < 0
    · rw [decide_eq_true h2, cond_true, if_neg (by unfold okReg; omega)]
    · rw [decide_eq_false h2, cond_false]
      by_cases h3 : r ≥ at'
      · rw [decide_eq_true h3, cond_true, if_neg (by unfold okReg; omega)]
      · rw [decide_eq_false h3, cond_false, if_pos (by unfold okReg; omega)]
  · rw [decide_eq_false h1, cond_false, decide_eq_true (show (j : Int) ≥ v by omega), cond_true]
    by_cases h2 : r = -1
    · rw [show (r != -1) = false by simp [h2], cond_false, if_pos (by unfold okReg; omega)]
    · rw [show (r != -1) = true by simp [h2], cond_true, if_neg (by unfold okReg; omega)]
theorem op_Right_end (o : Tapi_Op) (at' v : Int) (k : Nat) : op_Right.l1 o at' v (k + 1) ((3 : Nat) : Int) = some (.inr ()) := by unfold op_Right.l1; rfl
theorem ref_Right_step (o : Tapi_Op) (at' n : Int) (hn : n = 2 ∨ n = 3) (k j : Nat) (r : Int) (hj : j < 3) (hr : getI .i64 [C.int .i64 o.a, C.int .i64 o.b, C.int .i64 o.d] j = some r) :
    visorref17_Right.l1 o at' n (k + 1) (j : Int) = if okReg r at' j (opRegs o.kind n) then visorref17_Right.l1 o at' n k ((j + 1 : Nat) : Int) else some (.inl false) := by
  have hw : IntKind.i64.wrap ((j : Int) + 1) = ((j + 1 : Nat) : Int) := by rw [wrap_i64_of (by omega) (by omega)]; omega
  have hj0 : 0 + ((j : Nat) : Int).toNat * 1 = j := by simp
  conv => lhs; unfold visorref17_Right.l1
  rw [decide_eq_true (show (j : Int) < 3 by omega), cond_true, ref_Regs_m _ _ _ hn, Option.bind_some, if_pos (by omega), hj0, hr, Option.bind_some, hw]
  simp only [Option.bind_some]
  generalize opRegs o.kind n = v
  by_cases h1 : (j : Int) < v
  · rw [decide_eq_true h1, cond_true]
    by_cases h2 : r < 0
    · rw [decide_eq_true h2, cond_true, if_neg (by unfold okReg; omega)]
    · rw [decide_eq_false h2, cond_false, if_pos (by omega)]
      by_cases h3 : r ≥ at'
      · rw [decide_eq_true h3, cond_true, if_neg (by unfold okReg; omega)]
      · rw [decide_eq_false h3, cond_false, decide_eq_false (show ¬ (j : Int) ≥ v by omega), cond_false, if_pos (by unfold okReg; omega)]
  · rw [decide_eq_false h1, cond_false, decide_eq_true (show (j : Int) ≥ v by omega), cond_true, if_pos (by omega)]
    by_cases h2 : r = -1
    · rw [show (r != -1) = false by simp [h2], cond_false, if_pos (by unfold okReg; omega)]
    · rw [show (r != -1) = true by simp [h2], cond_true, if_neg (by unfold okReg; omega)]
theorem ref_Right_end (o : Tapi_Op) (at' n : Int) (k : Nat) : visorref17_Right.l1 o at' n (k + 1) ((3 : Nat) : Int) = some (.inr ()) := by unfold visorref17_Right.l1; rfl
theorem op_Right_loop (o : Tapi_Op) (at' n : Int) (k : Nat) : op_Right.l1 o at' (opRegs o.kind n) (k + 4) 0 = some (if okRegs o at' n then .inr () else .inl false) := by
  have h := op_Right_step o at' (opRegs o.kind n) (k + 3) 0 o.a (by omega) rfl
  have h0 : ((0 : Nat) : Int) = 0 := rfl
  rw [h0] at h
  rw [h, op_Right_step o at' _ (k + 2) 1 o.b (by omega) rfl, op_Right_step o at' _ (k + 1) 2 o.d (by omega) rfl, op_Right_end]
  unfold okRegs
  by_cases h1 : okReg o.a at' 0 (opRegs o.kind n)
  · by_cases h2 : okReg o.b at' 1 (opRegs o.kind n)
    · by_cases h3 : okReg o.d at' 2 (opRegs o.kind n)
      · simp [h1, h2, h3]
      · simp [h1, h2, h3]
    · simp [h1, h2]
  · simp [h1]
theorem ref_Right_loop (o : Tapi_Op) (at' n : Int) (hn : n = 2 ∨ n = 3) (k : Nat) : visorref17_Right.l1 o at' n (k + 4) 0 = some (if okRegs o at' n then .inr () else .inl false) := by
  have h := ref_Right_step o at' n hn (k + 3) 0 o.a (by omega) rfl
  have h0 : ((0 : Nat) : Int) = 0 := rfl
  rw [h0] at h
  rw [h, ref_Right_step o at' n hn (k + 2) 1 o.b (by omega) rfl, ref_Right_step o at' n hn (k + 1) 2 o.d (by omega) rfl, ref_Right_end]
  unfold okRegs
  by_cases h1 : okReg o.a at' 0 (opRegs o.kind n)
  · by_cases h2 : okReg o.b at' 1 (opRegs o.kind n)
    · by_cases h3 : okReg o.d at' 2 (opRegs o.kind n)
      · simp [h1, h2, h3]
      · simp [h1, h2, h3]
    · simp [h1, h2]
  · simp [h1]
theorem op_Right_j (k : Nat) (o : Tapi_Op) (at' n : Int) (hn : n = 2 ∨ n = 3) (b : Bool) : op_Right.j1 (k + 4) o at' n b = some (!b && (decide (okRegs o at' n) && okConst o)) := by
  unfold op_Right.j1
  cases b
  · rw [cond_false, op_Regs_m _ _ _ hn, Option.bind_some, op_Right_loop, Option.bind_some, op_constant_m]
    by_cases h : okRegs o at' n
    · rw [if_pos h]; simp [h]
    · rw [if_neg h]; simp [h]
  · rfl
theorem ref_Right_j (k : Nat) (o : Tapi_Op) (at' n : Int) (hn : n = 2 ∨ n = 3) (b : Bool) : visorref17_Right.j1 (k + 4) o at' n b = some (!b && (decide (okRegs o at' n) && okConst o)) := by
  have hc : ∀ k, (bif o.kind == 9 then visorref17_Right.j2 k o (o.kind == 9) else (bif o.kind == 10 then visorref17_Right.j2 k o (o.kind == 10) else visorref17_Right.j2 k o (o.kind == 11))) = some (okConst o) := fun k => op_constant_m k o
  unfold visorref17_Right.j1
  cases b
  · rw [cond_false, ref_Right_loop o at' n hn, Option.bind_some]
    by_cases h : okRegs o at' n
    · rw [if_pos h]; simp only [hc]; simp [h]
    · rw [if_neg h]; simp [h]
  · rfl
theorem op_Right_m (k : Nat) (o : Tapi_Op) (at' n : Int) (hn : n = 2 ∨ n = 3) : op_Right.m (k + 4) o at' n = some (Rt o at' n) := by
  have h0 : ((n != 2) && (n != 3)) = false := by rcases hn with rfl | rfl <;> rfl
  unfold op_Right.m op_is.m
  rw [h0, cond_false, Option.bind_some]
  simp only [op_Right_j _ _ _ _ hn]
  unfold Rt okHead
  by_cases h1 : 1 ≤ o.kind
  · by_cases h2 : o.kind ≤ 12
    · by_cases h3 : -1 ≤ o.dom
      · by_cases h4 : o.dom < n
        · have e : ((!(decide (o.kind ≥ 1) && decide (o.kind ≤ 12)) || decide (o.dom < -1)) || decide (o.dom ≥ n)) = false := by
            simp only [Bool.or_eq_false_iff, decide_eq_false_iff_not, Bool.not_eq_false', Bool.and_eq_true, decide_eq_true_eq]; omega
          rw [e, cond_false]
          by_cases h5 : o.kind = 12
          · by_cases h6 : o.dom = -1
            · simp [h5, h6]; omega
            · have : o.dom ≥ 0 := by omega
              simp [h5, h6, this]
          · simp [h1, h2, h3, h4, h5, beqF h5]
        · have e : ((!(decide (o.kind ≥ 1) && decide (o.kind ≤ 12)) || decide (o.dom < -1)) || decide (o.dom ≥ n)) = true := by simp; omega
          rw [e, cond_true]; simp [h4]
      · have e : ((!(decide (o.kind ≥ 1) && decide (o.kind ≤ 12)) || decide (o.dom < -1)) || decide (o.dom ≥ n)) = true := by simp; omega
        rw [e, cond_true]; simp [h3]
    · have e : ((!(decide (o.kind ≥ 1) && decide (o.kind ≤ 12)) || decide (o.dom < -1)) || decide (o.dom ≥ n)) = true := by simp; omega
      rw [e, cond_true]; simp [h2]
  · have e : ((!(decide (o.kind ≥ 1) && decide (o.kind ≤ 12)) || decide (o.dom < -1)) || decide (o.dom ≥ n)) = true := by simp; omega
    rw [e, cond_true]; simp [h1]
theorem ref_Right_m (k : Nat) (o : Tapi_Op) (at' n : Int) (hn : n = 2 ∨ n = 3) : visorref17_Right.m (k + 4) o at' n = some (Rt o at' n) := by
  have h0 : ((n != 2) && (n != 3)) = false := by rcases hn with rfl | rfl <;> rfl
  unfold visorref17_Right.m
  simp only [ref_Right_j _ _ _ _ hn, h0]
  unfold Rt okHead
  by_cases h1 : 1 ≤ o.kind
  · by_cases h2 : o.kind ≤ 12
    · by_cases h3 : -1 ≤ o.dom
      · by_cases h4 : o.dom < n
        · have e : ((((false || decide (o.kind < 1)) || decide (o.kind > 12)) || decide (o.dom < -1)) || decide (o.dom ≥ n)) = false := by
            simp only [Bool.or_eq_false_iff, decide_eq_false_iff_not, true_and]; omega
          rw [e, cond_false]
          by_cases h5 : o.kind = 12
          · by_cases h6 : o.dom = -1
            · simp [h5, h6]; omega
            · simp [h5, h6]
          · simp [h1, h2, h3, h4, h5, beqF h5]
        · have e : ((((false || decide (o.kind < 1)) || decide (o.kind > 12)) || decide (o.dom < -1)) || decide (o.dom ≥ n)) = true := by simp; omega
          rw [e, cond_true]; simp [h4]
      · have e : ((((false || decide (o.kind < 1)) || decide (o.kind > 12)) || decide (o.dom < -1)) || decide (o.dom ≥ n)) = true := by simp; omega
        rw [e, cond_true]; simp [h3]
    · have e : ((((false || decide (o.kind < 1)) || decide (o.kind > 12)) || decide (o.dom < -1)) || decide (o.dom ≥ n)) = true := by simp; omega
      rw [e, cond_true]; simp [h2]
  · have e : ((((false || decide (o.kind < 1)) || decide (o.kind > 12)) || decide (o.dom < -1)) || decide (o.dom ≥ n)) = true := by simp; omega
    rw [e, cond_true]; simp [h1]
/-! A machine's Do, as one total function. -/
def atI (v : List Int) (r : Int) : Int := if 0 ≤ r ∧ r < (v.length : Int) then v.getD r.toNat 0 else 0
theorem atI_w {v : List Int} (hv : ∀ x ∈ v, IsW x) (r : Int) : IsW (atI v r) := by
  unfold atI
  split
  · rename_i h
    have hlt : r.toNat < v.length := by omega
    rw [List.getD_eq_getElem?_getD, List.getElem?_eq_getElem hlt]; exact hv _ (List.getElem_mem hlt)
  · exact isW_zero
theorem atI_neg {v : List Int} {r : Int} (h : r < 0) : atI v r = 0 := by unfold atI; rw [if_neg (by omega)]
theorem atI_append {v : List Int} {r : Int} (h : r < (v.length : Int)) (l : List Int) : atI (v ++ l) r = atI v r := by
  unfold atI
  by_cases h0 : 0 ≤ r
  · have hlt : r.toNat < v.length := by omega
    rw [if_pos (show 0 ≤ r ∧ r < ((v ++ l).length : Int) from ⟨h0, by rw [List.length_append]; omega⟩), if_pos (show 0 ≤ r ∧ r < (v.length : Int) from ⟨h0, h⟩), List.getD_eq_getElem?_getD, List.getD_eq_getElem?_getD, List.getElem?_append_left hlt]
  · rw [if_neg (by omega), if_neg (by omega)]
theorem value_m (k : Nat) (m : Twire_Machine) (r : Int) (h : r < 0 ∨ r < (m.values.length : Int)) : wire_Machine_value.m k m r = some (atI m.values r) := by
  unfold wire_Machine_value.m
  by_cases h0 : r < 0
  · rw [decide_eq_true h0, cond_true, atI_neg h0]
  · have hlt : r.toNat < m.values.length := by omega
    rw [decide_eq_false h0, cond_false, if_pos (by omega), List.getElem?_eq_getElem hlt, Option.bind_some]
    unfold atI
    rw [if_pos (by omega), List.getD_eq_getElem?_getD, List.getElem?_eq_getElem hlt]; rfl
/-- registers of an op that may be -/
theorem Rt_regs {o : Tapi_Op} {at' n : Int} (h : Rt o at' n = true) (h0 : 0 ≤ at') : (o.a < 0 ∨ o.a < at') ∧ (o.b < 0 ∨ o.b < at') ∧ (o.d < 0 ∨ o.d < at') := by
  unfold Rt at h
  simp only [Bool.and_eq_true, decide_eq_true_eq] at h
  obtain ⟨h1, h2, h3⟩ := h.2.1
  unfold okReg at h1 h2 h3
  omega
def Twire_Machine.len (m : Twire_Machine) : Int := m.base + (m.ops.length : Int)
/-- is a mask to be drawn, and there is none? -/
def noMask (t : Ttape_Tape) : Prop := t.free < 1 ∨ (t.words.length : Int) - t.used.v < 1
instance (t : Ttape_Tape) : Decidable (noMask t) := by unfold noMask; infer_instance
def failM (m : Twire_Machine) (e : Int) : Int × Twire_Machine := (-1, ⟨m.n, m.most, m.base, m.words, m.draws, m.dry, m.openF, m.fromF, e, m.tape, m.ops, m.values, m.blocks⟩)
def pushM (m : Twire_Machine) (o : Tapi_Op) (x : Int) : Int × Twire_Machine :=
  if m.dry then (m.base, ⟨m.n, m.most, m.base + 1, if o.kind = 2 then m.words + 1 else m.words, if o.kind = 1 then m.draws + 1 else m.draws, m.dry, m.openF, m.fromF, m.bad, m.tape, m.ops, m.values, m.blocks⟩)
  else ((m.ops.length : Int), ⟨m.n, m.most, m.base, if o.kind = 2 then m.words + 1 else m.words, if o.kind = 1 then m.draws + 1 else m.draws, m.dry, m.openF, m.fromF, m.bad, m.tape, m.ops ++ [o], m.values ++ [evalI o (atI m.values o.a) (atI m.values o.b) (atI m.values o.d) x], m.blocks⟩)
def drawnM (m : Twire_Machine) : Twire_Machine := ⟨m.n, m.most, m.base, m.words, m.draws, m.dry, m.openF, m.fromF, m.bad, ⟨m.tape.words, ⟨m.tape.used.v + 1⟩, m.tape.free - 1⟩, m.ops, m.values, m.blocks⟩
def rightM (m : Twire_Machine) (o : Tapi_Op) : Bool := Rt o m.len m.n && (o.kind != 2 || o.c == m.words)
def doM (m : Twire_Machine) (o : Tapi_Op) (x : Int) : Int × Twire_Machine :=
  if m.bad ≠ 0 then (-1, m)
  else if rightM m o = false then failM m 1
  else if m.dry = false ∧ m.most ≤ (m.ops.length : Int) then failM m 3
  else if o.kind = 1 ∧ m.dry = false then
    (if noMask m.tape then failM m 2 else pushM (drawnM m) o (atI m.tape.words m.tape.used.v))
  else pushM m o x
/-- a machine that may be -/
structure MOk (m : Twire_Machine) : Prop where
  n : m.n = 2 ∨ m.n = 3
  most : m.most ≤ 1048576
  base : 0 ≤ m.base ∧ m.base ≤ 4611686018427387904
  words : 0 ≤ m.words ∧ m.words ≤ m.base + (m.ops.length : Int)
  draws : 0 ≤ m.draws ∧ m.draws ≤ m.base + (m.ops.length : Int)
  ops : m.ops.length ≤ 1048576
  vals : m.values.length = m.ops.length
  bad : 0 ≤ m.bad ∧ m.bad ≤ 3
  wvals : ∀ x ∈ m.values, IsW x
  wtape : ∀ x ∈ m.tape.words, IsW x
  used : 0 ≤ m.tape.used.v ∧ m.tape.used.v ≤ (m.tape.words.length : Int)
  free : m.tape.free ≤ (m.tape.words.length : Int)
  tlen : (m.tape.words.length : Int) ≤ 4611686018427387904
  wet : m.dry = false → m.base = 0
  dryV : m.dry = true → m.ops = []
theorem wrapI {x : Int} (h0 : -4611686018427387904 ≤ x) (h1 : x ≤ 4611686018427387904 * 3 / 2) : IntKind.i64.wrap x = x := wrap_i64_of (by omega) (by omega)
theorem Len_m (k : Nat) {m : Twire_Machine} (h : MOk m) : wire_Machine_Len.m k m = some m.len := by
  have := h.base; have := h.ops
  unfold wire_Machine_Len.m Twire_Machine.len
  rw [wrapI (by omega) (by omega)]
theorem right_m (k : Nat) {m : Twire_Machine} (h : MOk m) (o : Tapi_Op) : wire_Machine_right.m (k + 4) m o = some (rightM m o) := by
  have hw : IntKind.u64.wrap m.words = m.words := by have := h.words; have := h.base; have := h.ops; exact wrap_u64_of (by omega) (by omega)
  unfold wire_Machine_right.m wire_Machine_right.j1 rightM
  rw [Len_m _ h, Option.bind_some, op_Right_m _ _ _ _ h.n, Option.bind_some, hw]
  cases Rt o m.len m.n
  · rfl
  · rw [cond_true, Bool.true_and]
    cases hk : o.kind != 2
    · rw [cond_false, Bool.false_or]
    · rfl
theorem fail_m (k : Nat) (m : Twire_Machine) (e : Int) (h : m.bad = 0) : wire_Machine_fail.m k m e = some (failM m e) := by
  unfold wire_Machine_fail.m wire_Machine_fail.j1 failM
  rw [h]; rfl
theorem draw_no (k : Nat) {m : Twire_Machine} (h : MOk m) (hn : noMask m.tape) : tape_Tape_Draw.m k m.tape = some (0, false, m.tape) := by
  have := h.used; have := h.tlen
  unfold tape_Tape_Draw.m tape_Tape_Draw.j1 tape_Tape_Left.m tape_Tape_Used.m
  unfold noMask at hn
  by_cases hf : m.tape.free < 1
  · rw [decide_eq_true hf]; rfl
  · rw [decide_eq_false hf, cond_false, Option.bind_some, Option.bind_some, wrapI (by omega) (by omega), decide_eq_true (by omega)]; rfl
theorem draw_yes (k : Nat) {m : Twire_Machine} (h : MOk m) (hn : ¬ noMask m.tape) : tape_Tape_Draw.m k m.tape = some (atI m.tape.words m.tape.used.v, true, (drawnM m).tape) := by
  have h1 := h.used; have h2 := h.tlen; have h3 := h.free
  unfold noMask at hn
  have hlt : m.tape.used.v.toNat < m.tape.words.length := by omega
  unfold tape_Tape_Draw.m tape_Tape_Draw.j1 tape_Tape_Left.m tape_Tape_Used.m
  rw [decide_eq_false (show ¬ m.tape.free < 1 by omega), cond_false, Option.bind_some, Option.bind_some, wrapI (by omega) (by omega), decide_eq_false (by omega), cond_false, wrapI (x := m.tape.used.v + 1) (by omega) (by omega), show m.tape.used.v + 1 - 1 = m.tape.used.v by omega, wrapI (x := m.tape.used.v) (by omega) (by omega), wrapI (x := m.tape.free - 1) (by omega) (by omega),
    if_pos (by omega), List.getElem?_eq_getElem hlt, Option.bind_some]
  unfold atI drawnM
  rw [if_pos (by omega), List.getD_eq_getElem?_getD, List.getElem?_eq_getElem hlt]; rfl
theorem MOk.draw {m : Twire_Machine} (h : MOk m) (hn : ¬ noMask m.tape) : MOk (drawnM m) := by
  have h1 := h.used; have h2 := h.tlen; have h3 := h.free
  unfold noMask at hn
  exact ⟨h.n, h.most, h.base, h.words, h.draws, h.ops, h.vals, h.bad, h.wvals, h.wtape, ⟨by show 0 ≤ m.tape.used.v + 1; omega, by show m.tape.used.v + 1 ≤ (m.tape.words.length : Int); omega⟩, by show m.tape.free - 1 ≤ (m.tape.words.length : Int); omega, h.tlen, h.wet, h.dryV⟩
theorem push_j3 (k : Nat) {m : Twire_Machine} (h : MOk m) (o : Tapi_Op) (x : Int) (hc : IsW o.c) (hx : IsW x) (hr : Rt o m.len m.n = true) (hb : m.base < 4611686018427387904) (hl : m.dry = false → m.ops.length < 1048576) (w d : Int) :
    wire_Machine_Do.j3 k o x ⟨m.n, m.most, m.base, w, d, m.dry, m.openF, m.fromF, m.bad, m.tape, m.ops, m.values, m.blocks⟩ =
      some (if m.dry then (m.base, ⟨m.n, m.most, m.base + 1, w, d, m.dry, m.openF, m.fromF, m.bad, m.tape, m.ops, m.values, m.blocks⟩) else ((m.ops.length : Int), ⟨m.n, m.most, m.base, w, d, m.dry, m.openF, m.fromF, m.bad, m.tape, m.ops ++ [o], m.values ++ [evalI o (atI m.values o.a) (atI m.values o.b) (atI m.values o.d) x], m.blocks⟩)) := by
  have h1 := h.base; have h2 := h.ops; have h3 := h.vals
  unfold wire_Machine_Do.j3
  cases hd : m.dry
  · have hb0 := h.wet hd
    have hlen : m.len = (m.ops.length : Int) := by unfold Twire_Machine.len; omega
    have hg := Rt_regs hr (by rw [hlen]; omega)
    rw [hlen] at hg
    have hl := hl hd
    have value : ∀ r : Int, r < 0 ∨ r < (m.ops.length : Int) → wire_Machine_value.m k ⟨m.n, m.most, m.base, w, d, false, m.openF, m.fromF, m.bad, m.tape, m.ops, m.values, m.blocks⟩ r = some (atI m.values r) := fun r hr => value_m k ⟨m.n, m.most, m.base, w, d, false, m.openF, m.fromF, m.bad, m.tape, m.ops, m.values, m.blocks⟩ r (by show r < 0 ∨ r < (m.values.length : Int); omega)
    dsimp only
    rw [cond_false, value _ hg.1, Option.bind_some, value _ hg.2.1, Option.bind_some, value _ hg.2.2, Option.bind_some,
      op_Eval_m k o _ _ _ _ hc (atI_w h.wvals _) (atI_w h.wvals _) (atI_w h.wvals _) hx, Option.bind_some, if_pos (by simp only [List.length_cons, List.length_nil]; omega), if_pos (by simp only [List.length_cons, List.length_nil]; omega)]
    rw [List.length_append, List.length_cons, List.length_nil, wrapI (by omega) (by omega), show (((m.ops.length + (0 + 1) : Nat)) : Int) - 1 = (m.ops.length : Int) by omega]
    rfl
  · dsimp only
    rw [cond_true, wrapI (x := m.base + 1) (by omega) (by omega), show m.base + 1 - 1 = m.base by omega, wrapI (by omega) (by omega)]; rfl
theorem push_j2 (k : Nat) {m : Twire_Machine} (h : MOk m) (o : Tapi_Op) (x : Int) (hc : IsW o.c) (hx : IsW x) (hr : Rt o m.len m.n = true) (hb : m.base < 4611686018427387904) (hl : m.dry = false → m.ops.length < 1048576) :
    wire_Machine_Do.j2 k o m x = some (pushM m o x) := by
  have h1 := h.base; have h2 := h.ops; have h3 := h.words; have h4 := h.draws
  have e1 : IntKind.i64.wrap (m.draws + 1) = m.draws + 1 := wrapI (by omega) (by omega)
  have e2 : IntKind.i64.wrap (m.words + 1) = m.words + 1 := wrapI (by omega) (by omega)
  unfold wire_Machine_Do.j2 pushM
  by_cases k1 : o.kind = 1
  · rw [k1]
    simp only [show ((1 : Int) == 1) = true from rfl, cond_true, e1]
    rw [push_j3 k h o x hc hx hr hb hl]; rfl
  · by_cases k2 : o.kind = 2
    · rw [k2]
      simp only [show ((2 : Int) == 1) = false from rfl, show ((2 : Int) == 2) = true from rfl, cond_true, cond_false, e2]
      rw [push_j3 k h o x hc hx hr hb hl]; rfl
    · rw [beqF k1, beqF k2, cond_false, cond_false, if_neg k1, if_neg k2]
      exact push_j3 k h o x hc hx hr hb hl m.words m.draws
theorem Do_m (k : Nat) {m : Twire_Machine} (h : MOk m) (o : Tapi_Op) (x : Int) (hc : IsW o.c) (hx : IsW x) (hb : m.base < 4611686018427387904) : wire_Machine_Do.m (k + 4) m o x = some (doM m o x) := by
  have h2 := h.ops; have h5 := h.most
  unfold wire_Machine_Do.m doM
  by_cases b0 : m.bad = 0
  · rw [show (m.bad != 0) = false by simp [b0], cond_false, if_neg (by omega), right_m k h, Option.bind_some]
    cases hr : rightM m o
    · rw [Bool.not_false, cond_true, fail_m _ _ _ b0, Option.bind_some, if_pos rfl]
    · have hR : Rt o m.len m.n = true := by unfold rightM at hr; rw [Bool.and_eq_true] at hr; exact hr.1
      rw [Bool.not_true, cond_false, if_neg (by simp)]
      unfold wire_Machine_Do.j1
      cases hd : m.dry
      · rw [Bool.not_false, cond_true]
        by_cases hm : m.most ≤ (m.ops.length : Int)
        · rw [decide_eq_true (show ((m.ops.length : Nat) : Int) ≥ m.most from hm), cond_true, fail_m _ _ _ b0, Option.bind_some, if_pos ⟨rfl, hm⟩]
        · rw [decide_eq_false (show ¬ ((m.ops.length : Nat) : Int) ≥ m.most from hm), cond_false, if_neg (fun h => hm h.2)]
          by_cases k1 : o.kind = 1
          · rw [show ((o.kind == 1) && true) = true by simp [k1], cond_true, cond_false, if_pos ⟨k1, rfl⟩]
            by_cases hn : noMask m.tape
            · rw [draw_no _ h hn, Option.bind_some, if_pos hn]
              dsimp only
              rw [Bool.not_false, cond_true, ← hd, fail_m _ _ _ b0, Option.bind_some]
            · rw [draw_yes _ h hn, Option.bind_some, if_neg hn]
              dsimp only
              rw [Bool.not_true, cond_false, ← hd]
              exact push_j2 (k + 4) (h.draw hn) o _ hc (atI_w h.wtape _) hR hb (fun _ => by show m.ops.length < 1048576; omega)
          · rw [show ((o.kind == 1) && true) = false by rw [beqF k1]; rfl, cond_false, if_neg (fun h => k1 h.1)]
            exact push_j2 (k + 4) h o x hc hx hR hb (fun _ => by omega)
      · rw [Bool.not_true, cond_false, cond_false, Bool.and_false, cond_false, if_neg (fun h => by cases h.1), if_neg (fun h => by cases h.2)]
        exact push_j2 (k + 4) h o x hc hx hR hb (fun e => by rw [hd] at e; cases e)
  · rw [show (m.bad != 0) = true by simp [b0], cond_true, if_pos b0]
theorem pushM_wet {m : Twire_Machine} (hd : m.dry = false) (o : Tapi_Op) (x : Int) : pushM m o x = ((m.ops.length : Int), ⟨m.n, m.most, m.base, if o.kind = 2 then m.words + 1 else m.words, if o.kind = 1 then m.draws + 1 else m.draws, m.dry, m.openF, m.fromF, m.bad, m.tape, m.ops ++ [o], m.values ++ [evalI o (atI m.values o.a) (atI m.values o.b) (atI m.values o.d) x], m.blocks⟩) := by
  unfold pushM; rw [if_neg (by rw [hd]; simp)]
theorem pushM_dry {m : Twire_Machine} (hd : m.dry = true) (o : Tapi_Op) (x : Int) : pushM m o x = (m.base, ⟨m.n, m.most, m.base + 1, if o.kind = 2 then m.words + 1 else m.words, if o.kind = 1 then m.draws + 1 else m.draws, m.dry, m.openF, m.fromF, m.bad, m.tape, m.ops, m.values, m.blocks⟩) := by
  unfold pushM; rw [if_pos hd]
theorem up_le (c : Prop) [Decidable c] {a b : Int} (h0 : 0 ≤ a ∧ a ≤ b) : 0 ≤ (if c then a + 1 else a) ∧ (if c then a + 1 else a) ≤ b + 1 := by split <;> omega
theorem MOk.push {m : Twire_Machine} (h : MOk m) (o : Tapi_Op) (x : Int) (hb : m.base < 4611686018427387904) (hl : m.dry = false → m.ops.length < 1048576) : MOk (pushM m o x).2 := by
  have h1 := h.base; have h2 := h.ops; have h5 := h.vals
  cases hd : m.dry
  · have hl := hl hd
    have hb0 := h.wet hd
    rw [pushM_wet hd]
    refine ⟨h.n, h.most, h.base, ?_, ?_, ?_, ?_, h.bad, ?_, h.wtape, h.used, h.free, h.tlen, fun _ => hb0, fun e => (by rw [hd] at e; cases e)⟩
    · have := up_le (o.kind = 2) h.words
      simp only [List.length_append, List.length_cons, List.length_nil]; omega
    · have := up_le (o.kind = 1) h.draws
      simp only [List.length_append, List.length_cons, List.length_nil]; omega
    · simp only [List.length_append, List.length_cons, List.length_nil]; omega
    · simp only [List.length_append, List.length_cons, List.length_nil]; omega
    · intro y hy
      rcases List.mem_append.1 hy with hy | hy
      · exact h.wvals y hy
      · rw [List.mem_singleton.1 hy]; exact evalI_w _ _ _ _ _
  · rw [pushM_dry hd]
    refine ⟨h.n, h.most, ⟨by show 0 ≤ m.base + 1; omega, by show m.base + 1 ≤ 4611686018427387904; omega⟩, ?_, ?_, h.ops, h.vals, h.bad, h.wvals, h.wtape, h.used, h.free, h.tlen, fun e => (by rw [hd] at e; cases e), fun _ => h.dryV hd⟩
    · have := up_le (o.kind = 2) h.words
      dsimp only; omega
    · have := up_le (o.kind = 1) h.draws
      dsimp only; omega
theorem MOk.fail {m : Twire_Machine} (h : MOk m) (e : Int) (he : 0 ≤ e ∧ e ≤ 3) : MOk (failM m e).2 :=
  ⟨h.n, h.most, h.base, h.words, h.draws, h.ops, h.vals, he, h.wvals, h.wtape, h.used, h.free, h.tlen, h.wet, h.dryV⟩
theorem MOk.did {m : Twire_Machine} (h : MOk m) (o : Tapi_Op) (x : Int) (hb : m.base < 4611686018427387904) : MOk (doM m o x).2 := by
  have h5 := h.most
  unfold doM
  repeat' split
  · exact h
  · exact h.fail 1 (by omega)
  · exact h.fail 3 (by omega)
  · exact h.fail 2 (by omega)
  · rename_i h1 h2 hn; exact (h.draw hn).push o _ hb (fun hd => by show m.ops.length < 1048576; have : ¬ m.most ≤ (m.ops.length : Int) := fun e => h1 ⟨hd, e⟩; omega)
  · rename_i h1 h2; exact h.push o x hb (fun hd => by have : ¬ m.most ≤ (m.ops.length : Int) := fun e => h1 ⟨hd, e⟩; omega)
/-! Begin, End, and what stays true of a machine: its words are what its ops make. -/
theorem Do_k {k : Nat} (hk : 4 ≤ k) {m : Twire_Machine} (h : MOk m) (o : Tapi_Op) (x : Int) (hc : IsW o.c) (hx : IsW x) (hb : m.base < 4611686018427387904) : wire_Machine_Do.m k m o x = some (doM m o x) := by
  obtain ⟨j, rfl⟩ : ∃ j, k = j + 4 := ⟨k - 4, by omega⟩
  exact Do_m j h o x hc hx hb
def beginM (m : Twire_Machine) (kd : Int) : Twire_Machine :=
  if m.bad ≠ 0 then m else if m.openF ≠ 0 ∨ kd < 1 ∨ kd > 3 then (failM m 1).2 else ⟨m.n, m.most, m.base, m.words, m.draws, m.dry, kd, m.len, m.bad, m.tape, m.ops, m.values, m.blocks⟩
def endM (m : Twire_Machine) : Twire_Machine :=
  if m.bad ≠ 0 then m else if m.openF = 0 then (failM m 1).2 else ⟨m.n, m.most, m.base, m.words, m.draws, m.dry, 0, m.fromF, m.bad, m.tape, m.ops, m.values, if m.fromF < m.len ∧ m.dry = false then m.blocks ++ [⟨m.openF, m.fromF, m.len⟩] else m.blocks⟩
/-! ops that are made, one by one -/
def cnt (kd : Int) (l : List Tapi_Op) : Nat := l.countP fun o => o.kind == kd
def outw (T K : List Int) (ops : List Tapi_Op) (o : Tapi_Op) : Int := if o.kind = 1 then T.getD (cnt 1 ops) 0 else if o.kind = 2 then K.getD o.c.toNat 0 else 0
inductive Made (n : Int) (T K : List Int) : List Tapi_Op → List Int → Prop
  | nil : Made n T K [] []
  | snoc {ops : List Tapi_Op} {vals : List Int} {o : Tapi_Op} {v : Int} : Made n T K ops vals → Rt o (ops.length : Int) n = true → (o.kind = 2 → o.c = (cnt 2 ops : Int)) → IsW o.c →
      v = evalI o (atI vals o.a) (atI vals o.b) (atI vals o.d) (outw T K ops o) → Made n T K (ops ++ [o]) (vals ++ [v])
theorem Made.len {n : Int} {T K : List Int} {ops : List Tapi_Op} {vals : List Int} (h : Made n T K ops vals) : vals.length = ops.length := by
  induction h with
  | nil => rfl
  | snoc _ _ _ _ _ ih => simp [ih]
theorem Made.at {n : Int} {T K : List Int} {ops : List Tapi_Op} {vals : List Int} (h : Made n T K ops vals) : ∀ (i : Nat) (o : Tapi_Op) (v : Int), ops[i]? = some o → vals[i]? = some v →
    Rt o (i : Int) n = true ∧ (o.kind = 2 → o.c = (cnt 2 (ops.take i) : Int)) ∧ IsW o.c ∧ v = evalI o (atI vals o.a) (atI vals o.b) (atI vals o.d) (outw T K (ops.take i) o) := by
  induction h with
  | nil => intro i o v h; simp at h
  | @snoc ops vals o' v' hm h1 h2 h3 h4 ih =>
    intro i o v ho hv
    have hl := hm.len
    by_cases hi : i < ops.length
    · rw [List.getElem?_append_left hi] at ho
      rw [List.getElem?_append_left (by omega)] at hv
      obtain ⟨a1, a2, a3, a4⟩ := ih i o v ho hv
      have hr := Rt_regs a1 (by omega)
      rw [List.take_append_of_le_length (by omega)]
      refine ⟨a1, a2, a3, ?_⟩
      rw [atI_append (by omega), atI_append (by omega), atI_append (by omega)]; exact a4
    · have e : i = ops.length := by
        have := (List.getElem?_eq_some_iff.1 ho).1
        simp at this; omega
      subst e
      rw [List.getElem?_append_right (Nat.le_refl _), Nat.sub_self] at ho
      rw [← hl, List.getElem?_append_right (Nat.le_refl _), Nat.sub_self] at hv
      cases ho; cases hv
      have hr := Rt_regs h1 (by omega)
      rw [List.take_left]
      refine ⟨h1, h2, h3, ?_⟩
      rw [atI_append (by omega), atI_append (by omega), atI_append (by omega)]; exact h4
/-- blocks in order, from 'last' on, within so many ops -/
def BlOk (len : Int) : Int → List Tapi_Span → Prop
  | _, [] => True
  | last, b :: l => 1 ≤ b.kind ∧ b.kind ≤ 3 ∧ last ≤ b.fromF ∧ b.fromF < b.to ∧ b.to ≤ len ∧ BlOk len b.to l
def lastTo : Int → List Tapi_Span → Int
  | last, [] => last
  | _, b :: l => lastTo b.to l
theorem BlOk.mono {len len' : Int} (hl : len ≤ len') : ∀ {l : List Tapi_Span} {last : Int}, BlOk len last l → BlOk len' last l
  | [], _, _ => trivial
  | b :: l, _, ⟨h1, h2, h3, h4, h5, h6⟩ => ⟨h1, h2, h3, h4, by omega, BlOk.mono hl h6⟩
theorem BlOk.snoc {len : Int} {b : Tapi_Span} : ∀ {l : List Tapi_Span} {last : Int}, BlOk len last l → 1 ≤ b.kind → b.kind ≤ 3 → lastTo last l ≤ b.fromF → b.fromF < b.to → b.to ≤ len → BlOk len last (l ++ [b])
  | [], _, _, g1, g2, g3, g4, g5 => ⟨g1, g2, g3, g4, g5, trivial⟩
  | _ :: _, _, ⟨h1, h2, h3, h4, h5, h6⟩, g1, g2, g3, g4, g5 => ⟨h1, h2, h3, h4, h5, BlOk.snoc h6 g1 g2 g3 g4 g5⟩
theorem BlOk.count {len : Int} : ∀ {l : List Tapi_Span} {last : Int}, BlOk len last l → last + (l.length : Int) ≤ lastTo last l ∧ (last ≤ len → lastTo last l ≤ len)
  | [], last, _ => by simp [lastTo]
  | b :: l, last, ⟨h1, h2, h3, h4, h5, h6⟩ => by
    have := BlOk.count h6
    simp only [lastTo, List.length_cons]; omega
/-! The document's machine is the program's, seen otherwise. -/
def absT (t : Ttape_Tape) : Tvisorref02_T := ⟨t.words.drop t.used.v.toNat, t.used.v, t.free⟩
def absM (m : Twire_Machine) : Tvisorref19_M := ⟨m.n, m.most, m.words, m.draws, m.fromF, 0, m.openF, m.bad, m.ops, m.blocks, m.values, absT m.tape, m.dry⟩
theorem rAt_m (k : Nat) (X : Tvisorref19_M) (r : Int) : visorref19_M_At.m k X r = some (atI X.val r) := by
  unfold visorref19_M_At.m
  by_cases h0 : r < 0
  · rw [decide_eq_true h0, Bool.true_or, cond_true, atI_neg h0]
  · by_cases h1 : r < (X.val.length : Int)
    · have hlt : r.toNat < X.val.length := by omega
      rw [decide_eq_false h0, Bool.false_or, decide_eq_false (by omega), cond_false, if_pos (by omega), List.getElem?_eq_getElem hlt, Option.bind_some]
      unfold atI
      rw [if_pos (by omega), List.getD_eq_getElem?_getD, List.getElem?_eq_getElem hlt]; rfl
    · rw [decide_eq_false h0, Bool.false_or, decide_eq_true (by omega), cond_true]
      unfold atI
      rw [if_neg (by omega)]
theorem rFails_m (k : Nat) (m : Twire_Machine) (e : Int) (h : m.bad = 0) : visorref19_M_Fails.m k (absM m) e = some (-1, absM (failM m e).2) := by
  unfold visorref19_M_Fails.m visorref19_M_Fails.j1
  rw [show (absM m).e = 0 from h]; rfl
theorem rLen_m (k : Nat) {m : Twire_Machine} (h : MOk m) (hd : m.dry = false) : visorref19_M_Len.m k (absM m) = some m.len := by
  have := h.ops; have := h.wet hd
  unfold visorref19_M_Len.m Twire_Machine.len
  rw [show (absM m).skip = 0 from rfl, show (absM m).ops = m.ops from rfl, wrapI (by omega) (by omega)]
  congr 1; omega
theorem rpush_j4 (k : Nat) (hk : 65 ≤ k) {m : Twire_Machine} (h : MOk m) (hd : m.dry = false) (o : Tapi_Op) (x : Int) (hc : IsW o.c) (hx : IsW x) (hl : m.ops.length < 1048576) :
    visorref19_M_Do.j4 k o (absM m) x = some ((pushM m o x).1, absM (pushM m o x).2) := by
  have h2 := h.ops; have h3 := h.words; have h4 := h.draws; have h5 := h.vals; have hb := h.wet hd
  have e1 : IntKind.i64.wrap (m.draws + 1) = m.draws + 1 := wrapI (by omega) (by omega)
  have e2 : IntKind.i64.wrap (m.words + 1) = m.words + 1 := wrapI (by omega) (by omega)
  have six : ∀ w d : Int, visorref19_M_Do.j6 k o x ⟨m.n, m.most, w, d, m.fromF, 0, m.openF, m.bad, m.ops, m.blocks, m.values, absT m.tape, m.dry⟩ =
      some ((m.ops.length : Int), ⟨m.n, m.most, w, d, m.fromF, 0, m.openF, m.bad, m.ops ++ [o], m.blocks, m.values ++ [evalI o (atI m.values o.a) (atI m.values o.b) (atI m.values o.d) x], absT m.tape, m.dry⟩) := by
    intro w d
    unfold visorref19_M_Do.j6
    rw [rAt_m, Option.bind_some, rAt_m, Option.bind_some, rAt_m, Option.bind_some]
    dsimp only
    rw [ref_Eval_m k hk o _ _ _ _ hc (atI_w h.wvals _) (atI_w h.wvals _) (atI_w h.wvals _) hx, Option.bind_some, if_pos (by simp only [List.length_cons, List.length_nil]; omega), if_pos (by simp only [List.length_cons, List.length_nil]; omega)]
    unfold visorref19_M_Len.m
    dsimp only
    rw [List.length_append, List.length_cons, List.length_nil, wrapI (by omega) (by omega), Option.bind_some, wrapI (by omega) (by omega)]
    congr 2; omega
  rw [pushM_wet hd]
  unfold visorref19_M_Do.j4 visorref19_M_Do.j5
  by_cases k1 : o.kind = 1
  · rw [k1, show ((1 : Int) == 1) = true from rfl, cond_true, show ((1 : Int) == 2) = false from rfl, cond_false]
    simp only [show (absM m).draws = m.draws from rfl, e1]
    exact six _ _
  · by_cases k2 : o.kind = 2
    · rw [k2, show ((2 : Int) == 1) = false from rfl, cond_false, show ((2 : Int) == 2) = true from rfl, cond_true]
      simp only [show (absM m).words = m.words from rfl, e2]
      exact six _ _
    · rw [beqF k1, beqF k2, cond_false, cond_false, if_neg k1, if_neg k2]
      exact six _ _
theorem drop_head {l : List Int} {i : Nat} (h : i < l.length) : (l.drop i)[0]? = l[i]? := by rw [List.getElem?_drop]; rfl
theorem rDo_k {k : Nat} (hk : 65 ≤ k) {m : Twire_Machine} (h : MOk m) (hd : m.dry = false) (o : Tapi_Op) (x : Int) (hc : IsW o.c) (hx : IsW x) : visorref19_M_Do.m k (absM m) o x = some ((doM m o x).1, absM (doM m o x).2) := by
  have h2 := h.ops; have h5 := h.most; have hw := h.words; have hb := h.wet hd
  obtain ⟨j, rfl⟩ : ∃ j, k = j + 4 := ⟨k - 4, by omega⟩
  unfold visorref19_M_Do.m doM
  by_cases b0 : m.bad = 0
  · rw [show ((absM m).e != 0) = false by rw [show (absM m).e = 0 from b0]; rfl, cond_false, if_neg (by omega), rLen_m _ h hd, Option.bind_some, show (absM m).n = m.n from rfl, ref_Right_m _ _ _ _ h.n, Option.bind_some,
      show (absM m).words = m.words from rfl, wrap_u64_of (by omega) (by omega)]
    unfold rightM
    have one : ∀ b : Bool, visorref19_M_Do.j1 (j + 4) (absM m) o x b = if b = true then some ((failM m 1).1, absM (failM m 1).2) else (if m.most ≤ (m.ops.length : Int) then some ((failM m 3).1, absM (failM m 3).2) else
        (if o.kind = 1 then (if noMask m.tape then some ((failM m 2).1, absM (failM m 2).2) else some ((pushM (drawnM m) o (atI m.tape.words m.tape.used.v)).1, absM (pushM (drawnM m) o (atI m.tape.words m.tape.used.v)).2)) else some ((pushM m o x).1, absM (pushM m o x).2))) := by
      intro b
      unfold visorref19_M_Do.j1
      cases b
      · rw [cond_false, show (absM m).dry = false from hd, Bool.not_false, cond_true, rLen_m _ h hd, Option.bind_some, if_neg (by simp)]
        have hlen : m.len = (m.ops.length : Int) := by unfold Twire_Machine.len; omega
        unfold visorref19_M_Do.j2
        rw [show (absM m).most = m.most from rfl, hlen, show (absM m).dry = false from hd]
        by_cases hm : m.most ≤ (m.ops.length : Int)
        · rw [decide_eq_true (show (m.ops.length : Int) ≥ m.most from hm), cond_true, rFails_m _ _ _ b0, Option.bind_some, if_pos hm]; rfl
        · rw [decide_eq_false (show ¬ (m.ops.length : Int) ≥ m.most from hm), cond_false, if_neg hm]
          by_cases k1 : o.kind = 1
          · rw [show ((o.kind == 1) && !false) = true by simp [k1], cond_true, if_pos k1]
            have hu := h.used; have hf := h.free; have ht := h.tlen
            have hl : (absM m).tape.l = m.tape.words.drop m.tape.used.v.toNat := rfl
            have hlen' : (absM m).tape.l.length = m.tape.words.length - m.tape.used.v.toNat := by rw [hl, List.length_drop]
            unfold visorref19_M_Do.j3
            by_cases hn : noMask m.tape
            · rw [if_pos hn]
              have hn' := hn
              unfold noMask at hn'
              rw [show (decide ((absM m).tape.free < 1) || (((((absM m).tape.l.length : Nat)) : Int) == 0)) = true by
                rw [hlen', show (absM m).tape.free = m.tape.free from rfl, Bool.or_eq_true, decide_eq_true_eq, beq_iff_eq]; omega, cond_true, Bool.not_false, cond_true, rFails_m _ _ _ b0, Option.bind_some]; rfl
            · rw [if_neg hn]
              have hn' := hn
              unfold noMask at hn'
              rw [show (decide ((absM m).tape.free < 1) || (((((absM m).tape.l.length : Nat)) : Int) == 0)) = false by
                rw [hlen', show (absM m).tape.free = m.tape.free from rfl, Bool.or_eq_false_iff, decide_eq_false_iff_not, beq_eq_false_iff_ne]; omega, cond_false, if_pos (by omega)]
              have hi : m.tape.used.v.toNat < m.tape.words.length := by omega
              rw [hl, drop_head hi, List.getElem?_eq_getElem hi, Option.bind_some, if_pos (by rw [List.length_drop]; omega), Bool.not_true, cond_false]
              have hpush := rpush_j4 (j + 4) hk (h.draw hn) hd o (atI m.tape.words m.tape.used.v) hc (atI_w h.wtape _) (by show m.ops.length < 1048576; omega)
              rw [← hpush]
              have e1 : atI m.tape.words m.tape.used.v = m.tape.words[m.tape.used.v.toNat] := by
                unfold atI
                rw [if_pos (by omega), List.getD_eq_getElem?_getD, List.getElem?_eq_getElem hi]; rfl
              rw [e1]
              congr 1
              have e2 : cut (m.tape.words.drop m.tape.used.v.toNat) 1 (m.tape.words.drop m.tape.used.v.toNat).length = m.tape.words.drop (m.tape.used.v + 1).toNat := by
                unfold cut
                rw [List.take_length, List.drop_drop]
                congr 1; omega
              unfold absM absT drawnM
              simp only [e2]
              rw [wrapI (by omega) (by omega), wrapI (by omega) (by omega), hd]
          · rw [show ((o.kind == 1) && !false) = false by rw [beqF k1]; rfl, cond_false, if_neg k1]
            exact rpush_j4 (j + 4) hk h hd o x hc hx (by omega)
      · rw [cond_true, rFails_m _ _ _ b0, Option.bind_some, if_pos rfl]; rfl
    have tail : ∀ b : Bool, (if b = true then some ((failM m 1).1, absM (failM m 1).2) else (if m.most ≤ (m.ops.length : Int) then some ((failM m 3).1, absM (failM m 3).2) else
        (if o.kind = 1 then (if noMask m.tape then some ((failM m 2).1, absM (failM m 2).2) else some ((pushM (drawnM m) o (atI m.tape.words m.tape.used.v)).1, absM (pushM (drawnM m) o (atI m.tape.words m.tape.used.v)).2)) else some ((pushM m o x).1, absM (pushM m o x).2)))) =
        some ((if (!b) = false then failM m 1 else if m.dry = false ∧ m.most ≤ (m.ops.length : Int) then failM m 3 else if o.kind = 1 ∧ m.dry = false then (if noMask m.tape then failM m 2 else pushM (drawnM m) o (atI m.tape.words m.tape.used.v)) else pushM m o x).1,
          absM (if (!b) = false then failM m 1 else if m.dry = false ∧ m.most ≤ (m.ops.length : Int) then failM m 3 else if o.kind = 1 ∧ m.dry = false then (if noMask m.tape then failM m 2 else pushM (drawnM m) o (atI m.tape.words m.tape.used.v)) else pushM m o x).2) := by
      intro b
      cases b
      · simp only [hd, Bool.not_false, true_and, and_true, if_false, Bool.false_eq_true, Bool.true_eq_false]
        split
        · rfl
        · split
          · split <;> rfl
          · rfl
      · rfl
    cases hR : Rt o m.len m.n
    · rw [Bool.not_false, cond_true, one, tail]; rfl
    · rw [Bool.not_true, cond_false, Bool.true_and]
      by_cases k2 : o.kind = 2
      · rw [show (o.kind == 2) = true by simp [k2], cond_true, one, tail, show (o.kind != 2) = false by simp [k2], Bool.false_or]
        rw [show (o.c == m.words) = !(o.c != m.words) by simp [bne]]
      · rw [beqF k2, cond_false, one, tail, show (o.kind != 2) = true by simp [k2], Bool.true_or]; rfl
  · rw [show ((absM m).e != 0) = true by simp [absM, b0], cond_true, if_pos b0]
/-! A wet machine that may be, with what is done to it as total functions: by the program, and by the document. -/
structure WMok (m : Twire_Machine) : Prop where
  ok : MOk m
  dry : m.dry = false
  bl : BlOk (m.ops.length : Int) 0 m.blocks
  fr : lastTo 0 m.blocks ≤ m.fromF ∨ m.openF = 0
  op : 0 ≤ m.openF ∧ m.openF ≤ 3
theorem WMok.len {m : Twire_Machine} (h : WMok m) : m.len = (m.ops.length : Int) := by
  unfold Twire_Machine.len; rw [h.ok.wet h.dry]; omega
theorem WMok.fail {m : Twire_Machine} (h : WMok m) (e : Int) (he : 0 ≤ e ∧ e ≤ 3) : WMok (failM m e).2 := ⟨h.ok.fail e he, h.dry, h.bl, h.fr, h.op⟩
theorem doM_keeps (m : Twire_Machine) (o : Tapi_Op) (x : Int) : (doM m o x).2.dry = m.dry ∧ (doM m o x).2.blocks = m.blocks ∧ (doM m o x).2.fromF = m.fromF ∧ (doM m o x).2.openF = m.openF ∧ (doM m o x).2.n = m.n := by
  unfold doM failM pushM drawnM
  repeat' split
  all_goals exact ⟨rfl, rfl, rfl, rfl, rfl⟩
theorem doM_grows (m : Twire_Machine) (o : Tapi_Op) (x : Int) : m.ops.length ≤ (doM m o x).2.ops.length := by
  unfold doM failM pushM drawnM
  repeat' split
  all_goals first | exact Nat.le_refl _ | (simp only [List.length_append]; omega)
theorem WMok.did {m : Twire_Machine} (h : WMok m) (o : Tapi_Op) (x : Int) : WMok (doM m o x).2 := by
  obtain ⟨h1, h2, h3, h4, _⟩ := doM_keeps m o x
  have hg := doM_grows m o x
  refine ⟨h.ok.did o x (by rw [h.ok.wet h.dry]; omega), by rw [h1]; exact h.dry, ?_, ?_, ?_⟩
  · rw [h2]; exact h.bl.mono (by omega)
  · rw [h2, h3, h4]; exact h.fr
  · rw [h4]; exact h.op
theorem WMok.begin {m : Twire_Machine} (h : WMok m) (kd : Int) : WMok (beginM m kd) := by
  have hb := h.bl.count
  unfold beginM
  repeat' split
  · exact h
  · exact h.fail 1 (by omega)
  · refine ⟨⟨h.ok.n, h.ok.most, h.ok.base, h.ok.words, h.ok.draws, h.ok.ops, h.ok.vals, h.ok.bad, h.ok.wvals, h.ok.wtape, h.ok.used, h.ok.free, h.ok.tlen, h.ok.wet, h.ok.dryV⟩, h.dry, h.bl, .inl ?_, ?_⟩
    · show lastTo 0 m.blocks ≤ m.len
      rw [h.len]; omega
    · show 0 ≤ kd ∧ kd ≤ 3
      omega
theorem WMok.fin {m : Twire_Machine} (h : WMok m) : WMok (endM m) := by
  unfold endM
  have ho := h.op
  split
  · exact h
  · split
    · exact h.fail 1 (by omega)
    · rename_i h1 h2
      have hok : MOk ⟨m.n, m.most, m.base, m.words, m.draws, m.dry, 0, m.fromF, m.bad, m.tape, m.ops, m.values, if m.fromF < m.len ∧ m.dry = false then m.blocks ++ [⟨m.openF, m.fromF, m.len⟩] else m.blocks⟩ :=
        ⟨h.ok.n, h.ok.most, h.ok.base, h.ok.words, h.ok.draws, h.ok.ops, h.ok.vals, h.ok.bad, h.ok.wvals, h.ok.wtape, h.ok.used, h.ok.free, h.ok.tlen, h.ok.wet, h.ok.dryV⟩
      refine ⟨hok, h.dry, ?_, .inr rfl, ⟨Int.le_refl 0, by show (0 : Int) ≤ 3; omega⟩⟩
      show BlOk (m.ops.length : Int) 0 (if m.fromF < m.len ∧ m.dry = false then m.blocks ++ [⟨m.openF, m.fromF, m.len⟩] else m.blocks)
      split
      · rename_i h3
        refine h.bl.snoc (by show 1 ≤ m.openF; omega) (by show m.openF ≤ 3; omega) (by show lastTo 0 m.blocks ≤ m.fromF; rcases h.fr with e | e <;> omega) h3.1 (by show m.len ≤ _; rw [h.len]; omega)
      · exact h.bl
structure WM where
  m : Twire_Machine
  w : WMok m
def WM.D (M : WM) (o : Tapi_Op) (x : Int) : Int × WM := ((doM M.m o x).1, ⟨(doM M.m o x).2, M.w.did o x⟩)
def WM.B (M : WM) (kd : Int) : WM := ⟨beginM M.m kd, M.w.begin kd⟩
def WM.E (M : WM) : WM := ⟨endM M.m, M.w.fin⟩
theorem WM.blocks (M : WM) : M.m.blocks.length ≤ 1048576 := by
  have := M.w.bl.count; have := M.w.ok.ops; omega
theorem N_w (k : Nat) (M : WM) : wire_Machine_N.m k M.m = some M.m.n := rfl
theorem D_n (M : WM) (o : Tapi_Op) (x : Int) : (M.D o x).2.m.n = M.m.n := (doM_keeps M.m o x).2.2.2.2
theorem B_n (M : WM) (kd : Int) : (M.B kd).m.n = M.m.n := by
  show (beginM M.m kd).n = M.m.n
  unfold beginM failM; repeat' split
  all_goals rfl
theorem E_n (M : WM) : M.E.m.n = M.m.n := by
  show (endM M.m).n = M.m.n
  unfold endM failM; repeat' split
  all_goals rfl
theorem Do_w {k : Nat} (hk : 4 ≤ k) (M : WM) (o : Tapi_Op) (x : Int) (hc : IsW o.c) (hx : IsW x) : wire_Machine_Do.m k M.m o x = some ((M.D o x).1, (M.D o x).2.m) := Do_k hk M.w.ok o x hc hx (by rw [M.w.ok.wet M.w.dry]; omega)
theorem Two_w {k : Nat} (hk : 4 ≤ k) (M : WM) (kd dom a b : Int) : wire_Machine_Two.m k M.m kd dom a b = some ((M.D ⟨kd, dom, a, b, -1, 0⟩ 0).1, (M.D ⟨kd, dom, a, b, -1, 0⟩ 0).2.m) := by
  unfold wire_Machine_Two.m; rw [Do_w hk M _ _ isW_zero isW_zero]; rfl
theorem rDo_w {k : Nat} (hk : 65 ≤ k) (M : WM) (o : Tapi_Op) (x : Int) (hc : IsW o.c) (hx : IsW x) : visorref19_M_Do.m k (absM M.m) o x = some ((M.D o x).1, absM (M.D o x).2.m) := rDo_k hk M.w.ok M.w.dry o x hc hx
theorem rOp_w (k : Nat) (a b c d e : Int) : visorref19_Op.m k a b c d e = some ⟨a, b, c, d, -1, e⟩ := rfl
theorem W2 : IntKind.i64.wrap (1 + 1) = 2 := by decide
theorem W3 : IntKind.i64.wrap (2 + 1) = 3 := by decide
theorem W01 : IntKind.i64.wrap (0 + 1) = 1 := by decide
/-! What registers stand for. -/
def vstep (x0 : List Int) (a x : Int) : Int := if 0 ≤ a ∧ a < (x0.length : Int) then bxor .u64 x (x0.getD a.toNat 0) else x
theorem value_step (x0 : List Int) (x1 : Cells) (k j : Nat) (x a : Int) (hj : j < 3) (ha : getI .i64 x1 j = some a) :
    share_Value.l1 x0 x1 (k + 1) x (j : Int) = share_Value.l1 x0 x1 k (vstep x0 a x) ((j + 1 : Nat) : Int) := by
  have hw : IntKind.i64.wrap ((j : Int) + 1) = ((j + 1 : Nat) : Int) := by rw [wrap_i64_of (by omega) (by omega)]; omega
  conv => lhs; unfold share_Value.l1
  rw [show decide ((j : Int) < 3) = true from decide_eq_true (by omega), cond_true, if_pos (by omega), Int.toNat_natCast, ha, Option.bind_some]
  unfold vstep
  by_cases h : 0 ≤ a ∧ a < (x0.length : Int)
  · have hlt : a.toNat < x0.length := by omega
    rw [if_pos h, show (decide (a ≥ 0) && decide (a < ((x0.length : Nat) : Int))) = true by simp; omega, cond_true, if_pos h.1, List.getElem?_eq_getElem hlt, Option.bind_some]
    unfold share_Value.j1
    rw [hw, List.getD_eq_getElem?_getD, List.getElem?_eq_getElem hlt]; rfl
  · have hd : (decide (a ≥ 0) && decide (a < ((x0.length : Nat) : Int))) = false := by rw [← Bool.not_eq_true, Bool.and_eq_true, decide_eq_true_eq, decide_eq_true_eq]; exact h
    rw [if_neg h, hd, cond_false]
    unfold share_Value.j1
    rw [hw]
theorem value_end (x0 : List Int) (x1 : Cells) (k : Nat) (x : Int) : share_Value.l1 x0 x1 (k + 1) x ((3 : Nat) : Int) = some x := by unfold share_Value.l1; rfl
def val3 (x0 : List Int) (a b c : Int) : Int := vstep x0 c (vstep x0 b (vstep x0 a 0))
theorem Value_m (x0 : List Int) (a b c : Int) (k : Nat) : share_Value.m (k + 4) x0 [C.int .i64 a, C.int .i64 b, C.int .i64 c] = some (val3 x0 a b c) := by
  unfold share_Value.m
  rw [if_pos (show [C.int .i64 a, C.int .i64 b, C.int .i64 c].length = 3 from rfl)]
  have h := value_step x0 [C.int .i64 a, C.int .i64 b, C.int .i64 c] (k + 3) 0 0 a (by omega) rfl
  have h0 : ((0 : Nat) : Int) = 0 := rfl
  rw [h0] at h
  rw [h, value_step _ _ (k + 2) 1 _ b (by omega) rfl, value_step _ _ (k + 1) 2 _ c (by omega) rfl, value_end, Option.bind_some]; rfl
/-! What a machine's registers hold, and what words stand for. -/
def Val (M : WM) (r : Int) (x : BitVec 64) : Prop := 0 ≤ r ∧ M.m.values[r.toNat]? = some (u x)
structure Ext (M M' : WM) : Prop where
  n : M'.m.n = M.m.n
  bad : M'.m.bad = 0 → M.m.bad = 0
  vals : ∃ l, M'.m.values = M.m.values ++ l
theorem Ext.refl (M : WM) : Ext M M := ⟨rfl, id, [], by simp⟩
theorem Ext.trans {M N P : WM} (h : Ext M N) (g : Ext N P) : Ext M P := by
  obtain ⟨l, hl⟩ := h.vals
  obtain ⟨l', hl'⟩ := g.vals
  exact ⟨g.n.trans h.n, fun e => h.bad (g.bad e), l ++ l', by rw [hl', hl, List.append_assoc]⟩
theorem Val.ext {M M' : WM} {r : Int} {x : BitVec 64} (h : Val M r x) (e : Ext M M') : Val M' r x := by
  obtain ⟨l, hl⟩ := e.vals
  refine ⟨h.1, ?_⟩
  have := (List.getElem?_eq_some_iff.1 h.2).1
  rw [hl, List.getElem?_append_left this]; exact h.2
theorem Val.at {M : WM} {r : Int} {x : BitVec 64} (h : Val M r x) : atI M.m.values r = u x := by
  have := (List.getElem?_eq_some_iff.1 h.2).1
  have h0 := h.1
  unfold atI
  rw [if_pos (by omega), List.getD_eq_getElem?_getD, h.2]; rfl
theorem Val.lt {M : WM} {r : Int} {x : BitVec 64} (h : Val M r x) : 0 ≤ r ∧ r < (M.m.values.length : Int) := by
  have := (List.getElem?_eq_some_iff.1 h.2).1
  have h0 := h.1
  omega
theorem doM_ext (M : WM) (o : Tapi_Op) (x : Int) : ((M.D o x).2.m.bad = 0 → M.m.bad = 0) ∧ (∃ l, (M.D o x).2.m.values = M.m.values ++ l) := by
  show ((doM M.m o x).2.bad = 0 → M.m.bad = 0) ∧ (∃ l, (doM M.m o x).2.values = M.m.values ++ l)
  have hd := M.w.dry
  unfold doM
  repeat' split
  · exact ⟨id, [], by simp⟩
  · exact ⟨fun h => by simp [failM] at h, [], by simp [failM]⟩
  · exact ⟨fun h => by simp [failM] at h, [], by simp [failM]⟩
  · exact ⟨fun h => by simp [failM] at h, [], by simp [failM]⟩
  · rw [pushM_wet (m := drawnM M.m) hd]; exact ⟨id, _, rfl⟩
  · rw [pushM_wet hd]; exact ⟨id, _, rfl⟩
theorem D_ext (M : WM) (o : Tapi_Op) (x : Int) : Ext M (M.D o x).2 := ⟨D_n M o x, (doM_ext M o x).1, (doM_ext M o x).2⟩
theorem B_ext (M : WM) (kd : Int) : Ext M (M.B kd) := by
  refine ⟨B_n M kd, ?_, [], ?_⟩
  · show (beginM M.m kd).bad = 0 → M.m.bad = 0
    unfold beginM failM; repeat' split
    · exact id
    · intro h; cases h
    · exact id
  · show (beginM M.m kd).values = M.m.values ++ []
    unfold beginM failM; repeat' split
    all_goals simp
theorem E_ext (M : WM) : Ext M M.E := by
  refine ⟨E_n M, ?_, [], ?_⟩
  · show (endM M.m).bad = 0 → M.m.bad = 0
    unfold endM failM; repeat' split
    all_goals first | exact id | (intro h; cases h)
  · show (endM M.m).values = M.m.values ++ []
    unfold endM failM; repeat' split
    all_goals simp
/-- what a Do without an error leaves -/
theorem D_val (M : WM) (o : Tapi_Op) (x : Int) (h : (M.D o x).2.m.bad = 0) : Rt o (M.m.ops.length : Int) M.m.n = true ∧ ∃ z, (o.kind ≠ 1 → z = x) ∧ Val (M.D o x).2 (M.D o x).1 (evalW o.kind (BitVec.ofInt 64 o.c) (BitVec.ofInt 64 (atI M.m.values o.a)) (BitVec.ofInt 64 (atI M.m.values o.b)) (BitVec.ofInt 64 (atI M.m.values o.d)) (BitVec.ofInt 64 z)) := by
  change (doM M.m o x).2.bad = 0 at h
  show Rt o (M.m.ops.length : Int) M.m.n = true ∧ ∃ z, _ ∧ (0 ≤ (doM M.m o x).1 ∧ (doM M.m o x).2.values[(doM M.m o x).1.toNat]? = _)
  have hd := M.w.dry
  have hl := M.w.ok.vals
  have hlen := M.w.len
  have h' := (doM_ext M o x).1 h
  unfold doM at h ⊢
  rw [if_neg (by omega)] at h ⊢
  by_cases hr : rightM M.m o = false
  · rw [if_pos hr] at h; cases h
  · rw [if_neg hr] at h ⊢
    have hR : Rt o (M.m.ops.length : Int) M.m.n = true := by
      rw [Bool.not_eq_false] at hr
      unfold rightM at hr; rw [Bool.and_eq_true, hlen] at hr; exact hr.1
    refine ⟨hR, ?_⟩
    by_cases hm : M.m.dry = false ∧ M.m.most ≤ (M.m.ops.length : Int)
    · rw [if_pos hm] at h; cases h
    · rw [if_neg hm] at h ⊢
      by_cases k1 : o.kind = 1 ∧ M.m.dry = false
      · rw [if_pos k1] at h ⊢
        by_cases hn : noMask M.m.tape
        · rw [if_pos hn] at h; cases h
        · rw [if_neg hn] at h ⊢
          refine ⟨atI M.m.tape.words M.m.tape.used.v, fun e => absurd k1.1 e, ?_⟩
          rw [pushM_wet (m := drawnM M.m) hd]
          refine ⟨by show (0 : Int) ≤ ((M.m.ops.length : Nat) : Int); omega, ?_⟩
          show (M.m.values ++ [_])[(M.m.ops.length : Int).toNat]? = _
          rw [Int.toNat_natCast, ← hl, List.getElem?_append_right (Nat.le_refl _), Nat.sub_self]; rfl
      · rw [if_neg k1] at h ⊢
        refine ⟨x, fun _ => rfl, ?_⟩
        rw [pushM_wet hd]
        refine ⟨by show (0 : Int) ≤ ((M.m.ops.length : Nat) : Int); omega, ?_⟩
        show (M.m.values ++ [_])[(M.m.ops.length : Int).toNat]? = _
        rw [Int.toNat_natCast, ← hl, List.getElem?_append_right (Nat.le_refl _), Nat.sub_self]; rfl
/-- what a word stands for -/
def Stands (M : WM) (a b c : Int) (x : BitVec 64) : Prop :=
  (M.m.n = 2 ∧ c = -1 ∧ ∃ p q, Val M a p ∧ Val M b q ∧ x = p ^^^ q) ∨ (M.m.n = 3 ∧ ∃ p q r, Val M a p ∧ Val M b q ∧ Val M c r ∧ x = p ^^^ q ^^^ r)
theorem Stands.ext {M M' : WM} {a b c : Int} {x : BitVec 64} (h : Stands M a b c x) (e : Ext M M') : Stands M' a b c x := by
  rcases h with ⟨hn, hc, p, q, h1, h2, h3⟩ | ⟨hn, p, q, r, h1, h2, h3, h4⟩
  · exact .inl ⟨e.n.trans hn, hc, p, q, h1.ext e, h2.ext e, h3⟩
  · exact .inr ⟨e.n.trans hn, p, q, r, h1.ext e, h2.ext e, h3.ext e, h4⟩
theorem vstep_val {M : WM} {r : Int} {x y : BitVec 64} (h : Val M r x) : vstep M.m.values r (u y) = u (y ^^^ x) := by
  have := h.lt
  unfold vstep
  rw [if_pos this, List.getD_eq_getElem?_getD, h.2]
  exact bxor_u _ _
theorem Stands.val3 {M : WM} {a b c : Int} {x : BitVec 64} (h : Stands M a b c x) : val3 M.m.values a b c = u x := by
  have z : (0 : Int) = u 0#64 := rfl
  show vstep M.m.values c (vstep M.m.values b (vstep M.m.values a 0)) = u x
  rw [z]
  rcases h with ⟨hn, hc, p, q, h1, h2, h3⟩ | ⟨hn, p, q, r, h1, h2, h3, h4⟩
  · rw [vstep_val h1, vstep_val h2, hc, h3, BitVec.zero_xor]
    unfold vstep; rw [if_neg (by omega)]
  · rw [vstep_val h1, vstep_val h2, vstep_val h3, h4, BitVec.zero_xor]
/-! One step of a chain of calls, by what it leaves. -/
theorem bstep {α β : Type} {o : Option α} {v : α} {f : α → Option β} {r : Option β} (h : o = some v) (h2 : f v = r) : o.bind f = r := by rw [h]; exact h2
theorem bifT {α : Type} {c : Bool} {x y r : α} (h : c = true) (h2 : x = r) : (bif c then x else y) = r := by rw [h]; exact h2
theorem bifF {α : Type} {c : Bool} {x y r : α} (h : c = false) (h2 : y = r) : (bif c then x else y) = r := by rw [h]; exact h2
theorem iteP {α : Type} {c : Prop} {inst : Decidable c} {x y r : α} (h : c) (h2 : x = r) : (if c then x else y) = r := by rw [if_pos h]; exact h2
theorem beqT {a b : Int} (h : a = b) : (a == b) = true := by simp [h]
theorem beqN {a b : Int} (h : a ≠ b) : (a == b) = false := by simp [h]
theorem bneT {a b : Int} (h : a ≠ b) : (a != b) = true := by simp [h]
theorem bneN {a b : Int} (h : a = b) : (a != b) = false := by simp [h]
theorem N_v {k : Nat} {M : WM} {n : Int} (h : M.m.n = n) : wire_Machine_N.m k M.m = some n := by rw [N_w, h]
theorem Two_v {k : Nat} {M : WM} {X : Int × WM} {kd dom a b : Int} (h : X = M.D ⟨kd, dom, a, b, -1, 0⟩ 0) (hk : 4 ≤ k) : wire_Machine_Two.m k M.m kd dom a b = some (X.1, X.2.m) := by rw [Two_w hk, h]
theorem Const_v {k : Nat} {M : WM} {X : Int × WM} {dom c : Int} (h : X = M.D ⟨3, dom, -1, -1, -1, c⟩ 0) (hk : 4 ≤ k) (hc : IsW c) : wire_Machine_Const.m k M.m dom c = some (X.1, X.2.m) := by
  unfold wire_Machine_Const.m; rw [Do_w hk M _ _ hc isW_zero, h]; rfl
theorem rDo_v {k : Nat} {M : WM} {X : Int × WM} {o : Tapi_Op} {x : Int} (h : X = M.D o x) (hk : 65 ≤ k) (hc : IsW o.c) (hx : IsW x) : visorref19_M_Do.m k (absM M.m) o x = some (X.1, absM X.2.m) := by rw [rDo_w hk M o x hc hx, h]
/-! Steps inside a bind; what a register holds, told of a later machine. -/
theorem bassoc {α β γ : Type} {A : Option α} {g : α → Option β} {f : β → Option γ} {r : Option γ} (h : A.bind (fun x => (g x).bind f) = r) : (A.bind g).bind f = r := by cases A <;> exact h
theorem biteP {α β : Type} {c : Prop} {inst : Decidable c} {x y : Option α} {f : α → Option β} {r : Option β} (h : c) (h2 : x.bind f = r) : Option.bind (if c then x else y) f = r := by rw [if_pos h]; exact h2
theorem bbifT {α β : Type} {c : Bool} {x y : Option α} {f : α → Option β} {r : Option β} (h : c = true) (h2 : x.bind f = r) : Option.bind (bif c then x else y) f = r := by rw [h]; exact h2
theorem bbifF {α β : Type} {c : Bool} {x y : Option α} {f : α → Option β} {r : Option β} (h : c = false) (h2 : y.bind f = r) : Option.bind (bif c then x else y) f = r := by rw [h]; exact h2
theorem bsome {α β : Type} {x : α} {f : α → Option β} {r : Option β} (h : f x = r) : (some x).bind f = r := h
theorem ltT {a b n : Int} (h : b = n) (h2 : decide (a < n) = true) : decide (a < b) = true := by rw [h]; exact h2
theorem ltF {a b n : Int} (h : b = n) (h2 : decide (a < n) = false) : decide (a < b) = false := by rw [h]; exact h2
theorem Do_v {k : Nat} {M : WM} {X : Int × WM} {o : Tapi_Op} {x : Int} (h : X = M.D o x) (hk : 4 ≤ k) (hc : IsW o.c) (hx : IsW x) : wire_Machine_Do.m k M.m o x = some (X.1, X.2.m) := by rw [Do_w hk M o x hc hx, h]
theorem D_vext {M : WM} {X : Int × WM} {o : Tapi_Op} {x : Int} (e : X = M.D o x) : Ext M X.2 := by rw [e]; exact D_ext ..
theorem B_vext {M B : WM} {kd : Int} (e : B = M.B kd) : Ext M B := by rw [e]; exact B_ext ..
theorem E_vext {M B : WM} (e : B = M.E) : Ext M B := by rw [e]; exact E_ext ..
theorem opRegs_reg {o : Tapi_Op} {len n : Int} (h : Rt o len n = true) (hl : 0 ≤ len) : o.a < len ∧ o.b < len ∧ o.d < len := by
  obtain ⟨h1, h2, h3⟩ := Rt_regs h hl
  omega
/-- a Do, seen from a later machine without an error -/
theorem D_at {M F : WM} {X : Int × WM} {o : Tapi_Op} {x : Int} (e : X = M.D o x) (g : Ext X.2 F) (hF : F.m.bad = 0) : ∃ z, (o.kind ≠ 1 → z = x) ∧ Val F X.1 (evalW o.kind (BitVec.ofInt 64 o.c) (BitVec.ofInt 64 (atI F.m.values o.a)) (BitVec.ofInt 64 (atI F.m.values o.b)) (BitVec.ofInt 64 (atI F.m.values o.d)) (BitVec.ofInt 64 z)) := by
  have hX := g.bad hF
  subst e
  obtain ⟨hR, z, hz, hv⟩ := D_val M o x hX
  refine ⟨z, hz, ?_⟩
  have hl := M.w.ok.vals
  obtain ⟨h1, h2, h3⟩ := opRegs_reg hR (by omega)
  obtain ⟨l, hle⟩ := ((D_ext M o x).trans g).vals
  rw [hle, atI_append (by omega), atI_append (by omega), atI_append (by omega)]
  exact hv.ext g
theorem F_rand {M F : WM} {X : Int × WM} {dom : Int} (e : X = M.D ⟨1, dom, -1, -1, -1, 0⟩ 0) (g : Ext X.2 F) (hF : F.m.bad = 0) : ∃ z, Val F X.1 z := by
  obtain ⟨z, _, hv⟩ := D_at e g hF
  exact ⟨_, hv⟩
theorem F_two {M F : WM} {X : Int × WM} {kd dom a b : Int} (e : X = M.D ⟨kd, dom, a, b, -1, 0⟩ 0) (g : Ext X.2 F) (hF : F.m.bad = 0) (hk : kd ≠ 1) {x y : BitVec 64} (ha : Val F a x) (hb : Val F b y) : Val F X.1 (evalW kd 0#64 x y 0#64 0#64) := by
  obtain ⟨z, hz, hv⟩ := D_at e g hF
  rw [hz hk] at hv
  dsimp only at hv
  rw [ha.at, hb.at, ofInt_u, ofInt_u, atI_neg (show (-1 : Int) < 0 by omega)] at hv
  exact hv
theorem F_xor {M F : WM} {X : Int × WM} {dom a b : Int} (e : X = M.D ⟨5, dom, a, b, -1, 0⟩ 0) (g : Ext X.2 F) (hF : F.m.bad = 0) {x y : BitVec 64} (ha : Val F a x) (hb : Val F b y) : Val F X.1 (x ^^^ y) := F_two e g hF (by decide) ha hb
theorem F_one {M F : WM} {X : Int × WM} {kd dom a c : Int} (e : X = M.D ⟨kd, dom, a, -1, -1, c⟩ 0) (g : Ext X.2 F) (hF : F.m.bad = 0) (hk : kd ≠ 1) {x : BitVec 64} (ha : Val F a x) : Val F X.1 (evalW kd (BitVec.ofInt 64 c) x 0#64 0#64 0#64) := by
  obtain ⟨z, hz, hv⟩ := D_at e g hF
  rw [hz hk] at hv
  dsimp only at hv
  rw [ha.at, ofInt_u, atI_neg (show (-1 : Int) < 0 by omega)] at hv
  exact hv
theorem F_not {M F : WM} {X : Int × WM} {dom a : Int} (e : X = M.D ⟨6, dom, a, -1, -1, 0⟩ 0) (g : Ext X.2 F) (hF : F.m.bad = 0) {x : BitVec 64} (ha : Val F a x) : Val F X.1 (~~~ x) := F_one e g hF (by decide) ha
theorem F_const {M F : WM} {X : Int × WM} {kd dom c : Int} (e : X = M.D ⟨kd, dom, -1, -1, -1, c⟩ 0) (g : Ext X.2 F) (hF : F.m.bad = 0) (hk : kd = 3 ∨ kd = 4) : Val F X.1 (BitVec.ofInt 64 c) := by
  obtain ⟨z, hz, hv⟩ := D_at e g hF
  rcases hk with rfl | rfl <;> exact hv
theorem F_key {M F : WM} {X : Int × WM} {dom a b c x : Int} (e : X = M.D ⟨2, dom, a, b, -1, c⟩ x) (g : Ext X.2 F) (hF : F.m.bad = 0) {y z : BitVec 64} (ha : Val F a y) (hb : Val F b z) : Val F X.1 (BitVec.ofInt 64 x ^^^ y ^^^ z) := by
  obtain ⟨w, hw, hv⟩ := D_at e g hF
  rw [hw (by decide : (2 : Int) ≠ 1)] at hv
  dsimp only at hv
  rw [ha.at, hb.at, ofInt_u, ofInt_u] at hv
  exact hv
theorem F_key1 {M F : WM} {X : Int × WM} {dom a c x : Int} (e : X = M.D ⟨2, dom, a, -1, -1, c⟩ x) (g : Ext X.2 F) (hF : F.m.bad = 0) {y : BitVec 64} (ha : Val F a y) : Val F X.1 (BitVec.ofInt 64 x ^^^ y ^^^ 0#64) := by
  obtain ⟨w, hw, hv⟩ := D_at e g hF
  rw [hw (by decide : (2 : Int) ≠ 1)] at hv
  dsimp only at hv
  rw [ha.at, atI_neg (show (-1 : Int) < 0 by omega), ofInt_u] at hv
  exact hv
/-! Where there is room, and masks, nothing fails: 'd' masks, and 'q' ops, are still to be had. -/
structure Fine (M : WM) (p : Bool) (d q : Nat) : Prop where
  bad : M.m.bad = 0
  op : M.m.openF = 0 ↔ p = false
  room : (M.m.ops.length : Int) + q ≤ M.m.most
  free : (d : Int) ≤ M.m.tape.free
  left : M.m.tape.used.v + (d : Int) ≤ (M.m.tape.words.length : Int)
abbrev Reg (M : WM) (r : Int) : Prop := 0 ≤ r ∧ r < (M.m.ops.length : Int)
theorem Rt_of {o : Tapi_Op} {len n : Int} (h1 : okHead o n) (h2 : okRegs o len n) (h3 : okConst o = true) : Rt o len n = true := by
  unfold Rt; rw [decide_eq_true h1, decide_eq_true h2, h3]; rfl
theorem okh {kd dom a b dd c n : Int} (h : 1 ≤ kd ∧ kd ≤ 12 ∧ kd ≠ 12) (hd : -1 ≤ dom ∧ dom < n) : okHead ⟨kd, dom, a, b, dd, c⟩ n := ⟨h.1, h.2.1, hd.1, hd.2, fun e => absurd e h.2.2⟩
theorem Rt_const {kd dom c len n : Int} (hn : n = 2 ∨ n = 3) (hk : kd = 3 ∨ kd = 4) (hd : -1 ≤ dom ∧ dom < n) : kd ≠ 1 ∧ kd ≠ 2 ∧ Rt ⟨kd, dom, -1, -1, -1, c⟩ len n = true := by
  refine ⟨by omega, by omega, ?_⟩
  rcases hk with rfl | rfl
  · have hr : opRegs 3 n = 0 := rfl
    refine Rt_of (okh (by decide) hd) ?_ rfl
    unfold okRegs okReg; dsimp only; rw [hr]; omega
  · have hr : opRegs 4 n = 0 := rfl
    refine Rt_of (okh (by decide) hd) ?_ rfl
    unfold okRegs okReg; dsimp only; rw [hr]; omega
theorem Rt_two {kd dom a b len n : Int} (hn : n = 2 ∨ n = 3) (hk : kd = 5 ∨ kd = 7) (hd : -1 ≤ dom ∧ dom < n) (ha : 0 ≤ a ∧ a < len) (hb : 0 ≤ b ∧ b < len) : kd ≠ 1 ∧ kd ≠ 2 ∧ Rt ⟨kd, dom, a, b, -1, 0⟩ len n = true := by
  refine ⟨by omega, by omega, ?_⟩
  rcases hk with rfl | rfl
  · have hr : opRegs 5 n = 2 := rfl
    refine Rt_of (okh (by decide) hd) ?_ rfl
    unfold okRegs okReg; dsimp only; rw [hr]; omega
  · have hr : opRegs 7 n = 2 := rfl
    refine Rt_of (okh (by decide) hd) ?_ rfl
    unfold okRegs okReg; dsimp only; rw [hr]; omega
theorem D_fo {M : WM} {X : Int × WM} {o : Tapi_Op} {x : Int} {p : Bool} {d q : Nat} (e : X = M.D o x) (f : Fine M p d (q + 1)) (hR : o.kind ≠ 1 ∧ o.kind ≠ 2 ∧ Rt o (M.m.ops.length : Int) M.m.n = true) :
    Fine X.2 p d q ∧ X.1 = (M.m.ops.length : Int) ∧ X.2.m.ops.length = M.m.ops.length + 1 ∧ X.2.m.draws = M.m.draws ∧ X.2.m.n = M.m.n := by
  have hd := M.w.dry
  have hro := f.room
  have hr : rightM M.m o = true := by
    unfold rightM
    rw [M.w.len, hR.2.2, bneT hR.2.1]; rfl
  have ed : doM M.m o x = pushM M.m o x := by
    unfold doM
    rw [if_neg (by rw [f.bad]; omega), if_neg (by rw [hr]; decide), if_neg (by omega), if_neg (by rw [hd]; exact fun h => hR.1 h.1)]
  rw [pushM_wet hd] at ed
  subst e
  have e1 : (M.D o x).1 = (doM M.m o x).1 := rfl
  have e2 : (M.D o x).2.m = (doM M.m o x).2 := rfl
  rw [e1, e2, ed]
  refine ⟨⟨?_, ?_, ?_, ?_, ?_⟩, rfl, by simp, ?_, rfl⟩
  · rw [e2, ed]; exact f.bad
  · rw [e2, ed]; exact f.op
  · rw [e2, ed]; simp; omega
  · rw [e2, ed]; exact f.free
  · rw [e2, ed]; exact f.left
  · simp [hR.1]
theorem rg {r : Int} {L j i len : Nat} (hr : r = ((L + j : Nat) : Int)) (hl : len = L + i) (h : j < i) : 0 ≤ r ∧ r < (len : Int) := by omega
theorem rgi {r : Int} {L i len : Nat} (hr : 0 ≤ r ∧ r < (L : Int)) (hl : len = L + i) : 0 ≤ r ∧ r < (len : Int) := by omega
theorem dm {n N dom : Int} (h : n = N) (hd : -1 ≤ dom ∧ dom < N) : -1 ≤ dom ∧ dom < n := h ▸ hd
theorem ln1 {a b L i : Nat} (h : a = b + 1) (h2 : b = L + i) : a = L + (i + 1) := by omega
theorem rr1 {r : Int} {b L i : Nat} (h : r = (b : Int)) (h2 : b = L + i) : r = ((L + i : Nat) : Int) := by omega
/-! Words as shares: each call as a row of Do's (printed by wip/gen/gads.py). -/
def PubC (M : WM) (c : Int) (o0 o1 o2 : Int) (M' : WM) : Prop :=
  (∃ X0 : Int × WM, ∃ X1 : Int × WM, M.m.n = 2 ∧ X0 = M.D ⟨3, 0, -1, -1, -1, c⟩ 0 ∧ X1 = X0.2.D ⟨3, 1, -1, -1, -1, 0⟩ 0 ∧ o0 = X0.1 ∧ o1 = X1.1 ∧ o2 = -1 ∧ M' = X1.2) ∨
  (∃ X0 : Int × WM, ∃ X1 : Int × WM, ∃ X2 : Int × WM, M.m.n = 3 ∧ X0 = M.D ⟨3, 0, -1, -1, -1, c⟩ 0 ∧ X1 = X0.2.D ⟨3, 1, -1, -1, -1, 0⟩ 0 ∧ X2 = X1.2.D ⟨3, 2, -1, -1, -1, 0⟩ 0 ∧ o0 = X0.1 ∧ o1 = X1.1 ∧ o2 = X2.1 ∧ M' = X2.2)
theorem PubC.ex (M : WM) (c : Int) : ∃ o0 o1 o2 M', PubC M c o0 o1 o2 M' := by
  rcases M.w.ok.n with h | h
  · exact ⟨_, _, _, _, .inl ⟨_, _, h, rfl, rfl, rfl, rfl, rfl, rfl⟩⟩
  · exact ⟨_, _, _, _, .inr ⟨_, _, _, h, rfl, rfl, rfl, rfl, rfl, rfl, rfl⟩⟩
theorem PubC.ext {M M' : WM} {c : Int} {o0 o1 o2 : Int} (h : PubC M c o0 o1 o2 M') : Ext M M' := by
  rcases h with ⟨X0, X1, hn, eX0, eX1, rfl, rfl, rfl, rfl⟩ | ⟨X0, X1, X2, hn, eX0, eX1, eX2, rfl, rfl, rfl, rfl⟩
  · exact ((D_vext eX0).trans (D_vext eX1))
  · exact (((D_vext eX0).trans (D_vext eX1)).trans (D_vext eX2))
theorem PubC.c {M M' : WM} {c : Int} {o0 o1 o2 : Int} (h : PubC M c o0 o1 o2 M') (hn' : M'.m.n = 2) : o2 = -1 := by
  have hm := h.ext.n
  rcases h with ⟨X0, X1, hn, eX0, eX1, rfl, rfl, rfl, rfl⟩ | ⟨X0, X1, X2, hn, eX0, eX1, eX2, rfl, rfl, rfl, rfl⟩
  · rfl
  · omega
theorem PubC.p {k : Nat} (hk : 90 ≤ k) {M M' : WM} {c : Int} {o0 o1 o2 : Int} (h : PubC M c o0 o1 o2 M') (hw : IsW c) : share_Public.m k M.m c = some ([ci o0, ci o1, ci o2], M'.m) := by
  obtain ⟨k, rfl⟩ : ∃ j, k = j + 20 := ⟨k - 20, by omega⟩
  rcases h with ⟨X0, X1, hn, eX0, eX1, rfl, rfl, rfl, rfl⟩ | ⟨X0, X1, X2, hn, eX0, eX1, eX2, rfl, rfl, rfl, rfl⟩
  · skip
    have hm : M.m.n ≠ 3 := by omega
    have nX0 : X0.2.m.n = 2 := (D_vext eX0).n.trans hn
    have mX0 : X0.2.m.n ≠ 3 := by omega
    have nX1 : X1.2.m.n = 2 := (D_vext eX1).n.trans nX0
    have mX1 : X1.2.m.n ≠ 3 := by omega
    unfold share_Public.m
    unfold share_none.m
    repeat (first
      | with_reducible refine bstep (N_v (by assumption)) ?_
      | with_reducible refine bstep (Const_v (by assumption) (by omega) isW_zero) ?_
      | with_reducible refine bstep (Do_v (by assumption) (by omega) isW_zero isW_zero) ?_
      | with_reducible refine bstep (Const_v (by assumption) (by omega) hw) ?_
      | with_reducible refine bstep (Do_v (by assumption) (by omega) hw isW_zero) ?_
      | with_reducible refine bassoc ?_
      | with_reducible refine bsome ?_
      | ((with_reducible refine biteP ?_ ?_); · first | exact rfl | exact Nat.le_of_ble_eq_true rfl | decide)
      | ((with_reducible refine iteP ?_ ?_); · first | exact rfl | exact Nat.le_of_ble_eq_true rfl | decide)
      | ((with_reducible refine bbifT ?_ ?_); · first | decide | exact beqT (by assumption) | exact ltT (by assumption) (by decide) | exact bneT (by assumption))
      | ((with_reducible refine bbifF ?_ ?_); · first | decide | exact beqN (by assumption) | exact ltF (by assumption) (by decide) | exact bneN (by assumption))
      | ((with_reducible refine bifT ?_ ?_); · first | decide | exact beqT (by assumption) | exact ltT (by assumption) (by decide) | exact bneT (by assumption))
      | ((with_reducible refine bifF ?_ ?_); · first | decide | exact beqN (by assumption) | exact ltF (by assumption) (by decide) | exact bneN (by assumption))
      | rw [share_Public.l1]
      | rw [W01]
      | rw [W2]
      | rw [W3]
      | unfold share_Public.j1
      | ((with_reducible apply bstep); · exact rfl)
      | dsimp only)
    exact rfl
  · skip
    have hm : M.m.n ≠ 2 := by omega
    have nX0 : X0.2.m.n = 3 := (D_vext eX0).n.trans hn
    have mX0 : X0.2.m.n ≠ 2 := by omega
    have nX1 : X1.2.m.n = 3 := (D_vext eX1).n.trans nX0
    have mX1 : X1.2.m.n ≠ 2 := by omega
    have nX2 : X2.2.m.n = 3 := (D_vext eX2).n.trans nX1
    have mX2 : X2.2.m.n ≠ 2 := by omega
    unfold share_Public.m
    unfold share_none.m
    repeat (first
      | with_reducible refine bstep (N_v (by assumption)) ?_
      | with_reducible refine bstep (Const_v (by assumption) (by omega) isW_zero) ?_
      | with_reducible refine bstep (Do_v (by assumption) (by omega) isW_zero isW_zero) ?_
      | with_reducible refine bstep (Const_v (by assumption) (by omega) hw) ?_
      | with_reducible refine bstep (Do_v (by assumption) (by omega) hw isW_zero) ?_
      | with_reducible refine bassoc ?_
      | with_reducible refine bsome ?_
      | ((with_reducible refine biteP ?_ ?_); · first | exact rfl | exact Nat.le_of_ble_eq_true rfl | decide)
      | ((with_reducible refine iteP ?_ ?_); · first | exact rfl | exact Nat.le_of_ble_eq_true rfl | decide)
      | ((with_reducible refine bbifT ?_ ?_); · first | decide | exact beqT (by assumption) | exact ltT (by assumption) (by decide) | exact bneT (by assumption))
      | ((with_reducible refine bbifF ?_ ?_); · first | decide | exact beqN (by assumption) | exact ltF (by assumption) (by decide) | exact bneN (by assumption))
      | ((with_reducible refine bifT ?_ ?_); · first | decide | exact beqT (by assumption) | exact ltT (by assumption) (by decide) | exact bneT (by assumption))
      | ((with_reducible refine bifF ?_ ?_); · first | decide | exact beqN (by assumption) | exact ltF (by assumption) (by decide) | exact bneN (by assumption))
      | rw [share_Public.l1]
      | rw [W01]
      | rw [W2]
      | rw [W3]
      | unfold share_Public.j1
      | ((with_reducible apply bstep); · exact rfl)
      | dsimp only)
    exact rfl
theorem PubC.r {k : Nat} (hk : 90 ≤ k) {M M' : WM} {c : Int} {o0 o1 o2 : Int} (h : PubC M c o0 o1 o2 M') (hw : IsW c) : visorref20_Const.m k (absM M.m) 3 c = some ([ci o0, ci o1, ci o2], absM M'.m) := by
  obtain ⟨k, rfl⟩ : ∃ j, k = j + 20 := ⟨k - 20, by omega⟩
  rcases h with ⟨X0, X1, hn, eX0, eX1, rfl, rfl, rfl, rfl⟩ | ⟨X0, X1, X2, hn, eX0, eX1, eX2, rfl, rfl, rfl, rfl⟩
  · skip
    have hm : M.m.n ≠ 3 := by omega
    have nX0 : X0.2.m.n = 2 := (D_vext eX0).n.trans hn
    have mX0 : X0.2.m.n ≠ 3 := by omega
    have nX1 : X1.2.m.n = 2 := (D_vext eX1).n.trans nX0
    have mX1 : X1.2.m.n ≠ 3 := by omega
    unfold visorref20_Const.m
    unfold visorref20_None.m
    repeat (first
      | with_reducible refine bstep (rOp_w ..) ?_
      | with_reducible refine bstep (rDo_v (by assumption) (by omega) isW_zero isW_zero) ?_
      | with_reducible refine bstep (rDo_v (by assumption) (by omega) hw isW_zero) ?_
      | with_reducible refine bassoc ?_
      | with_reducible refine bsome ?_
      | ((with_reducible refine biteP ?_ ?_); · first | exact rfl | exact Nat.le_of_ble_eq_true rfl | decide)
      | ((with_reducible refine iteP ?_ ?_); · first | exact rfl | exact Nat.le_of_ble_eq_true rfl | decide)
      | ((with_reducible refine bbifT ?_ ?_); · first | decide | exact beqT (by assumption) | exact ltT (by assumption) (by decide) | exact bneT (by assumption))
      | ((with_reducible refine bbifF ?_ ?_); · first | decide | exact beqN (by assumption) | exact ltF (by assumption) (by decide) | exact bneN (by assumption))
      | ((with_reducible refine bifT ?_ ?_); · first | decide | exact beqT (by assumption) | exact ltT (by assumption) (by decide) | exact bneT (by assumption))
      | ((with_reducible refine bifF ?_ ?_); · first | decide | exact beqN (by assumption) | exact ltF (by assumption) (by decide) | exact bneN (by assumption))
      | rw [visorref20_Const.l1]
      | rw [W01]
      | rw [W2]
      | rw [W3]
      | ((with_reducible apply bstep); · exact rfl)
      | dsimp only)
    exact rfl
  · skip
    have hm : M.m.n ≠ 2 := by omega
    have nX0 : X0.2.m.n = 3 := (D_vext eX0).n.trans hn
    have mX0 : X0.2.m.n ≠ 2 := by omega
    have nX1 : X1.2.m.n = 3 := (D_vext eX1).n.trans nX0
    have mX1 : X1.2.m.n ≠ 2 := by omega
    have nX2 : X2.2.m.n = 3 := (D_vext eX2).n.trans nX1
    have mX2 : X2.2.m.n ≠ 2 := by omega
    unfold visorref20_Const.m
    unfold visorref20_None.m
    repeat (first
      | with_reducible refine bstep (rOp_w ..) ?_
      | with_reducible refine bstep (rDo_v (by assumption) (by omega) isW_zero isW_zero) ?_
      | with_reducible refine bstep (rDo_v (by assumption) (by omega) hw isW_zero) ?_
      | with_reducible refine bassoc ?_
      | with_reducible refine bsome ?_
      | ((with_reducible refine biteP ?_ ?_); · first | exact rfl | exact Nat.le_of_ble_eq_true rfl | decide)
      | ((with_reducible refine iteP ?_ ?_); · first | exact rfl | exact Nat.le_of_ble_eq_true rfl | decide)
      | ((with_reducible refine bbifT ?_ ?_); · first | decide | exact beqT (by assumption) | exact ltT (by assumption) (by decide) | exact bneT (by assumption))
      | ((with_reducible refine bbifF ?_ ?_); · first | decide | exact beqN (by assumption) | exact ltF (by assumption) (by decide) | exact bneN (by assumption))
      | ((with_reducible refine bifT ?_ ?_); · first | decide | exact beqT (by assumption) | exact ltT (by assumption) (by decide) | exact bneT (by assumption))
      | ((with_reducible refine bifF ?_ ?_); · first | decide | exact beqN (by assumption) | exact ltF (by assumption) (by decide) | exact bneN (by assumption))
      | rw [visorref20_Const.l1]
      | rw [W01]
      | rw [W2]
      | rw [W3]
      | ((with_reducible apply bstep); · exact rfl)
      | dsimp only)
    exact rfl
theorem PubC.s {M M' F : WM} {c : Int} {o0 o1 o2 : Int} (h : PubC M c o0 o1 o2 M') (x : Ext M' F) (hF : F.m.bad = 0) : Stands F o0 o1 o2 (BitVec.ofInt 64 c) := by
  rcases h with ⟨X0, X1, hn, eX0, eX1, rfl, rfl, rfl, rfl⟩ | ⟨X0, X1, X2, hn, eX0, eX1, eX2, rfl, rfl, rfl, rfl⟩
  · have x2 := x
    have x1 := (D_vext eX1).trans x2
    have x0 := (D_vext eX0).trans x1
    have nF : F.m.n = 2 := x0.n.trans hn
    have vX0 := F_const eX0 x1 hF (by decide)
    have vX1 := F_const eX1 x2 hF (by decide)
    refine .inl ⟨nF, rfl, _, _, vX0, vX1, ?_⟩
    simp
  · have x3 := x
    have x2 := (D_vext eX2).trans x3
    have x1 := (D_vext eX1).trans x2
    have x0 := (D_vext eX0).trans x1
    have nF : F.m.n = 3 := x0.n.trans hn
    have vX0 := F_const eX0 x1 hF (by decide)
    have vX1 := F_const eX1 x2 hF (by decide)
    have vX2 := F_const eX2 x3 hF (by decide)
    refine .inr ⟨nF, _, _, _, vX0, vX1, vX2, ?_⟩
    simp
def TldC (M : WM) (c : Int) (o0 o1 o2 : Int) (M' : WM) : Prop :=
  (∃ X0 : Int × WM, ∃ X1 : Int × WM, M.m.n = 2 ∧ X0 = M.D ⟨4, 0, -1, -1, -1, c⟩ 0 ∧ X1 = X0.2.D ⟨3, 1, -1, -1, -1, 0⟩ 0 ∧ o0 = X0.1 ∧ o1 = X1.1 ∧ o2 = -1 ∧ M' = X1.2) ∨
  (∃ X0 : Int × WM, ∃ X1 : Int × WM, ∃ X2 : Int × WM, M.m.n = 3 ∧ X0 = M.D ⟨4, 0, -1, -1, -1, c⟩ 0 ∧ X1 = X0.2.D ⟨3, 1, -1, -1, -1, 0⟩ 0 ∧ X2 = X1.2.D ⟨3, 2, -1, -1, -1, 0⟩ 0 ∧ o0 = X0.1 ∧ o1 = X1.1 ∧ o2 = X2.1 ∧ M' = X2.2)
theorem TldC.ex (M : WM) (c : Int) : ∃ o0 o1 o2 M', TldC M c o0 o1 o2 M' := by
  rcases M.w.ok.n with h | h
  · exact ⟨_, _, _, _, .inl ⟨_, _, h, rfl, rfl, rfl, rfl, rfl, rfl⟩⟩
  · exact ⟨_, _, _, _, .inr ⟨_, _, _, h, rfl, rfl, rfl, rfl, rfl, rfl, rfl⟩⟩
theorem TldC.ext {M M' : WM} {c : Int} {o0 o1 o2 : Int} (h : TldC M c o0 o1 o2 M') : Ext M M' := by
  rcases h with ⟨X0, X1, hn, eX0, eX1, rfl, rfl, rfl, rfl⟩ | ⟨X0, X1, X2, hn, eX0, eX1, eX2, rfl, rfl, rfl, rfl⟩
  · exact ((D_vext eX0).trans (D_vext eX1))
  · exact (((D_vext eX0).trans (D_vext eX1)).trans (D_vext eX2))
theorem TldC.c {M M' : WM} {c : Int} {o0 o1 o2 : Int} (h : TldC M c o0 o1 o2 M') (hn' : M'.m.n = 2) : o2 = -1 := by
  have hm := h.ext.n
  rcases h with ⟨X0, X1, hn, eX0, eX1, rfl, rfl, rfl, rfl⟩ | ⟨X0, X1, X2, hn, eX0, eX1, eX2, rfl, rfl, rfl, rfl⟩
  · rfl
  · omega
theorem TldC.r {k : Nat} (hk : 90 ≤ k) {M M' : WM} {c : Int} {o0 o1 o2 : Int} (h : TldC M c o0 o1 o2 M') (hw : IsW c) : visorref20_Const.m k (absM M.m) 4 c = some ([ci o0, ci o1, ci o2], absM M'.m) := by
  obtain ⟨k, rfl⟩ : ∃ j, k = j + 20 := ⟨k - 20, by omega⟩
  rcases h with ⟨X0, X1, hn, eX0, eX1, rfl, rfl, rfl, rfl⟩ | ⟨X0, X1, X2, hn, eX0, eX1, eX2, rfl, rfl, rfl, rfl⟩
  · skip
    have hm : M.m.n ≠ 3 := by omega
    have nX0 : X0.2.m.n = 2 := (D_vext eX0).n.trans hn
    have mX0 : X0.2.m.n ≠ 3 := by omega
    have nX1 : X1.2.m.n = 2 := (D_vext eX1).n.trans nX0
    have mX1 : X1.2.m.n ≠ 3 := by omega
    unfold visorref20_Const.m
    unfold visorref20_None.m
    repeat (first
      | with_reducible refine bstep (rOp_w ..) ?_
      | with_reducible refine bstep (rDo_v (by assumption) (by omega) isW_zero isW_zero) ?_
      | with_reducible refine bstep (rDo_v (by assumption) (by omega) hw isW_zero) ?_
      | with_reducible refine bassoc ?_
      | with_reducible refine bsome ?_
      | ((with_reducible refine biteP ?_ ?_); · first | exact rfl | exact Nat.le_of_ble_eq_true rfl | decide)
      | ((with_reducible refine iteP ?_ ?_); · first | exact rfl | exact Nat.le_of_ble_eq_true rfl | decide)
      | ((with_reducible refine bbifT ?_ ?_); · first | decide | exact beqT (by assumption) | exact ltT (by assumption) (by decide) | exact bneT (by assumption))
      | ((with_reducible refine bbifF ?_ ?_); · first | decide | exact beqN (by assumption) | exact ltF (by assumption) (by decide) | exact bneN (by assumption))
      | ((with_reducible refine bifT ?_ ?_); · first | decide | exact beqT (by assumption) | exact ltT (by assumption) (by decide) | exact bneT (by assumption))
      | ((with_reducible refine bifF ?_ ?_); · first | decide | exact beqN (by assumption) | exact ltF (by assumption) (by decide) | exact bneN (by assumption))
      | rw [visorref20_Const.l1]
      | rw [W01]
      | rw [W2]
      | rw [W3]
      | ((with_reducible apply bstep); · exact rfl)
      | dsimp only)
    exact rfl
  · skip
    have hm : M.m.n ≠ 2 := by omega
    have nX0 : X0.2.m.n = 3 := (D_vext eX0).n.trans hn
    have mX0 : X0.2.m.n ≠ 2 := by omega
    have nX1 : X1.2.m.n = 3 := (D_vext eX1).n.trans nX0
    have mX1 : X1.2.m.n ≠ 2 := by omega
    have nX2 : X2.2.m.n = 3 := (D_vext eX2).n.trans nX1
    have mX2 : X2.2.m.n ≠ 2 := by omega
    unfold visorref20_Const.m
    unfold visorref20_None.m
    repeat (first
      | with_reducible refine bstep (rOp_w ..) ?_
      | with_reducible refine bstep (rDo_v (by assumption) (by omega) isW_zero isW_zero) ?_
      | with_reducible refine bstep (rDo_v (by assumption) (by omega) hw isW_zero) ?_
      | with_reducible refine bassoc ?_
      | with_reducible refine bsome ?_
      | ((with_reducible refine biteP ?_ ?_); · first | exact rfl | exact Nat.le_of_ble_eq_true rfl | decide)
      | ((with_reducible refine iteP ?_ ?_); · first | exact rfl | exact Nat.le_of_ble_eq_true rfl | decide)
      | ((with_reducible refine bbifT ?_ ?_); · first | decide | exact beqT (by assumption) | exact ltT (by assumption) (by decide) | exact bneT (by assumption))
      | ((with_reducible refine bbifF ?_ ?_); · first | decide | exact beqN (by assumption) | exact ltF (by assumption) (by decide) | exact bneN (by assumption))
      | ((with_reducible refine bifT ?_ ?_); · first | decide | exact beqT (by assumption) | exact ltT (by assumption) (by decide) | exact bneT (by assumption))
      | ((with_reducible refine bifF ?_ ?_); · first | decide | exact beqN (by assumption) | exact ltF (by assumption) (by decide) | exact bneN (by assumption))
      | rw [visorref20_Const.l1]
      | rw [W01]
      | rw [W2]
      | rw [W3]
      | ((with_reducible apply bstep); · exact rfl)
      | dsimp only)
    exact rfl
theorem TldC.s {M M' F : WM} {c : Int} {o0 o1 o2 : Int} (h : TldC M c o0 o1 o2 M') (x : Ext M' F) (hF : F.m.bad = 0) : Stands F o0 o1 o2 (BitVec.ofInt 64 c) := by
  rcases h with ⟨X0, X1, hn, eX0, eX1, rfl, rfl, rfl, rfl⟩ | ⟨X0, X1, X2, hn, eX0, eX1, eX2, rfl, rfl, rfl, rfl⟩
  · have x2 := x
    have x1 := (D_vext eX1).trans x2
    have x0 := (D_vext eX0).trans x1
    have nF : F.m.n = 2 := x0.n.trans hn
    have vX0 := F_const eX0 x1 hF (by decide)
    have vX1 := F_const eX1 x2 hF (by decide)
    refine .inl ⟨nF, rfl, _, _, vX0, vX1, ?_⟩
    simp
  · have x3 := x
    have x2 := (D_vext eX2).trans x3
    have x1 := (D_vext eX1).trans x2
    have x0 := (D_vext eX0).trans x1
    have nF : F.m.n = 3 := x0.n.trans hn
    have vX0 := F_const eX0 x1 hF (by decide)
    have vX1 := F_const eX1 x2 hF (by decide)
    have vX2 := F_const eX2 x3 hF (by decide)
    refine .inr ⟨nF, _, _, _, vX0, vX1, vX2, ?_⟩
    simp
def XrC (M : WM) (a0 : Int) (b0 : Int) (c0 : Int) (a1 : Int) (b1 : Int) (c1 : Int) (o0 o1 o2 : Int) (M' : WM) : Prop :=
  (∃ X0 : Int × WM, ∃ X1 : Int × WM, M.m.n = 2 ∧ X0 = M.D ⟨5, 0, a0, a1, -1, 0⟩ 0 ∧ X1 = X0.2.D ⟨5, 1, b0, b1, -1, 0⟩ 0 ∧ o0 = X0.1 ∧ o1 = X1.1 ∧ o2 = -1 ∧ M' = X1.2) ∨
  (∃ X0 : Int × WM, ∃ X1 : Int × WM, ∃ X2 : Int × WM, M.m.n = 3 ∧ X0 = M.D ⟨5, 0, a0, a1, -1, 0⟩ 0 ∧ X1 = X0.2.D ⟨5, 1, b0, b1, -1, 0⟩ 0 ∧ X2 = X1.2.D ⟨5, 2, c0, c1, -1, 0⟩ 0 ∧ o0 = X0.1 ∧ o1 = X1.1 ∧ o2 = X2.1 ∧ M' = X2.2)
theorem XrC.ex (M : WM) (a0 : Int) (b0 : Int) (c0 : Int) (a1 : Int) (b1 : Int) (c1 : Int) : ∃ o0 o1 o2 M', XrC M a0 b0 c0 a1 b1 c1 o0 o1 o2 M' := by
  rcases M.w.ok.n with h | h
  · exact ⟨_, _, _, _, .inl ⟨_, _, h, rfl, rfl, rfl, rfl, rfl, rfl⟩⟩
  · exact ⟨_, _, _, _, .inr ⟨_, _, _, h, rfl, rfl, rfl, rfl, rfl, rfl, rfl⟩⟩
theorem XrC.ext {M M' : WM} {a0 : Int} {b0 : Int} {c0 : Int} {a1 : Int} {b1 : Int} {c1 : Int} {o0 o1 o2 : Int} (h : XrC M a0 b0 c0 a1 b1 c1 o0 o1 o2 M') : Ext M M' := by
  rcases h with ⟨X0, X1, hn, eX0, eX1, rfl, rfl, rfl, rfl⟩ | ⟨X0, X1, X2, hn, eX0, eX1, eX2, rfl, rfl, rfl, rfl⟩
  · exact ((D_vext eX0).trans (D_vext eX1))
  · exact (((D_vext eX0).trans (D_vext eX1)).trans (D_vext eX2))
theorem XrC.c {M M' : WM} {a0 : Int} {b0 : Int} {c0 : Int} {a1 : Int} {b1 : Int} {c1 : Int} {o0 o1 o2 : Int} (h : XrC M a0 b0 c0 a1 b1 c1 o0 o1 o2 M') (hn' : M'.m.n = 2) : o2 = -1 := by
  have hm := h.ext.n
  rcases h with ⟨X0, X1, hn, eX0, eX1, rfl, rfl, rfl, rfl⟩ | ⟨X0, X1, X2, hn, eX0, eX1, eX2, rfl, rfl, rfl, rfl⟩
  · rfl
  · omega
theorem XrC.p {k : Nat} (hk : 90 ≤ k) {M M' : WM} {a0 : Int} {b0 : Int} {c0 : Int} {a1 : Int} {b1 : Int} {c1 : Int} {o0 o1 o2 : Int} (h : XrC M a0 b0 c0 a1 b1 c1 o0 o1 o2 M') : share_Xor.m k M.m [ci a0, ci b0, ci c0] [ci a1, ci b1, ci c1] = some ([ci o0, ci o1, ci o2], M'.m) := by
  obtain ⟨k, rfl⟩ : ∃ j, k = j + 20 := ⟨k - 20, by omega⟩
  rcases h with ⟨X0, X1, hn, eX0, eX1, rfl, rfl, rfl, rfl⟩ | ⟨X0, X1, X2, hn, eX0, eX1, eX2, rfl, rfl, rfl, rfl⟩
  · skip
    have hm : M.m.n ≠ 3 := by omega
    have nX0 : X0.2.m.n = 2 := (D_vext eX0).n.trans hn
    have mX0 : X0.2.m.n ≠ 3 := by omega
    have nX1 : X1.2.m.n = 2 := (D_vext eX1).n.trans nX0
    have mX1 : X1.2.m.n ≠ 3 := by omega
    unfold share_Xor.m
    unfold share_none.m
    repeat (first
      | with_reducible refine bstep (N_v (by assumption)) ?_
      | with_reducible refine bstep (Two_v (by assumption) (by omega)) ?_
      | with_reducible refine bstep (Do_v (by assumption) (by omega) isW_zero isW_zero) ?_
      | with_reducible refine bassoc ?_
      | with_reducible refine bsome ?_
      | ((with_reducible refine biteP ?_ ?_); · first | exact rfl | exact Nat.le_of_ble_eq_true rfl | decide)
      | ((with_reducible refine iteP ?_ ?_); · first | exact rfl | exact Nat.le_of_ble_eq_true rfl | decide)
      | ((with_reducible refine bbifT ?_ ?_); · first | decide | exact beqT (by assumption) | exact ltT (by assumption) (by decide) | exact bneT (by assumption))
      | ((with_reducible refine bbifF ?_ ?_); · first | decide | exact beqN (by assumption) | exact ltF (by assumption) (by decide) | exact bneN (by assumption))
      | ((with_reducible refine bifT ?_ ?_); · first | decide | exact beqT (by assumption) | exact ltT (by assumption) (by decide) | exact bneT (by assumption))
      | ((with_reducible refine bifF ?_ ?_); · first | decide | exact beqN (by assumption) | exact ltF (by assumption) (by decide) | exact bneN (by assumption))
      | rw [share_Xor.l1]
      | rw [W01]
      | rw [W2]
      | rw [W3]
      | ((with_reducible apply bstep); · exact rfl)
      | dsimp only)
    exact rfl
  · skip
    have hm : M.m.n ≠ 2 := by omega
    have nX0 : X0.2.m.n = 3 := (D_vext eX0).n.trans hn
    have mX0 : X0.2.m.n ≠ 2 := by omega
    have nX1 : X1.2.m.n = 3 := (D_vext eX1).n.trans nX0
    have mX1 : X1.2.m.n ≠ 2 := by omega
    have nX2 : X2.2.m.n = 3 := (D_vext eX2).n.trans nX1
    have mX2 : X2.2.m.n ≠ 2 := by omega
    unfold share_Xor.m
    unfold share_none.m
    repeat (first
      | with_reducible refine bstep (N_v (by assumption)) ?_
      | with_reducible refine bstep (Two_v (by assumption) (by omega)) ?_
      | with_reducible refine bstep (Do_v (by assumption) (by omega) isW_zero isW_zero) ?_
      | with_reducible refine bassoc ?_
      | with_reducible refine bsome ?_
      | ((with_reducible refine biteP ?_ ?_); · first | exact rfl | exact Nat.le_of_ble_eq_true rfl | decide)
      | ((with_reducible refine iteP ?_ ?_); · first | exact rfl | exact Nat.le_of_ble_eq_true rfl | decide)
      | ((with_reducible refine bbifT ?_ ?_); · first | decide | exact beqT (by assumption) | exact ltT (by assumption) (by decide) | exact bneT (by assumption))
      | ((with_reducible refine bbifF ?_ ?_); · first | decide | exact beqN (by assumption) | exact ltF (by assumption) (by decide) | exact bneN (by assumption))
      | ((with_reducible refine bifT ?_ ?_); · first | decide | exact beqT (by assumption) | exact ltT (by assumption) (by decide) | exact bneT (by assumption))
      | ((with_reducible refine bifF ?_ ?_); · first | decide | exact beqN (by assumption) | exact ltF (by assumption) (by decide) | exact bneN (by assumption))
      | rw [share_Xor.l1]
      | rw [W01]
      | rw [W2]
      | rw [W3]
      | ((with_reducible apply bstep); · exact rfl)
      | dsimp only)
    exact rfl
theorem XrC.r {k : Nat} (hk : 90 ≤ k) {M M' : WM} {a0 : Int} {b0 : Int} {c0 : Int} {a1 : Int} {b1 : Int} {c1 : Int} {o0 o1 o2 : Int} (h : XrC M a0 b0 c0 a1 b1 c1 o0 o1 o2 M') : visorref20_Xor.m k (absM M.m) [ci a0, ci b0, ci c0] [ci a1, ci b1, ci c1] = some ([ci o0, ci o1, ci o2], absM M'.m) := by
  obtain ⟨k, rfl⟩ : ∃ j, k = j + 20 := ⟨k - 20, by omega⟩
  rcases h with ⟨X0, X1, hn, eX0, eX1, rfl, rfl, rfl, rfl⟩ | ⟨X0, X1, X2, hn, eX0, eX1, eX2, rfl, rfl, rfl, rfl⟩
  · skip
    have hm : M.m.n ≠ 3 := by omega
    have nX0 : X0.2.m.n = 2 := (D_vext eX0).n.trans hn
    have mX0 : X0.2.m.n ≠ 3 := by omega
    have nX1 : X1.2.m.n = 2 := (D_vext eX1).n.trans nX0
    have mX1 : X1.2.m.n ≠ 3 := by omega
    unfold visorref20_Xor.m
    unfold visorref20_None.m
    repeat (first
      | with_reducible refine bstep (rOp_w ..) ?_
      | with_reducible refine bstep (rDo_v (by assumption) (by omega) isW_zero isW_zero) ?_
      | with_reducible refine bassoc ?_
      | with_reducible refine bsome ?_
      | ((with_reducible refine biteP ?_ ?_); · first | exact rfl | exact Nat.le_of_ble_eq_true rfl | decide)
      | ((with_reducible refine iteP ?_ ?_); · first | exact rfl | exact Nat.le_of_ble_eq_true rfl | decide)
      | ((with_reducible refine bbifT ?_ ?_); · first | decide | exact beqT (by assumption) | exact ltT (by assumption) (by decide) | exact bneT (by assumption))
      | ((with_reducible refine bbifF ?_ ?_); · first | decide | exact beqN (by assumption) | exact ltF (by assumption) (by decide) | exact bneN (by assumption))
      | ((with_reducible refine bifT ?_ ?_); · first | decide | exact beqT (by assumption) | exact ltT (by assumption) (by decide) | exact bneT (by assumption))
      | ((with_reducible refine bifF ?_ ?_); · first | decide | exact beqN (by assumption) | exact ltF (by assumption) (by decide) | exact bneN (by assumption))
      | rw [visorref20_Xor.l1]
      | rw [W01]
      | rw [W2]
      | rw [W3]
      | ((with_reducible apply bstep); · exact rfl)
      | dsimp only)
    exact rfl
  · skip
    have hm : M.m.n ≠ 2 := by omega
    have nX0 : X0.2.m.n = 3 := (D_vext eX0).n.trans hn
    have mX0 : X0.2.m.n ≠ 2 := by omega
    have nX1 : X1.2.m.n = 3 := (D_vext eX1).n.trans nX0
    have mX1 : X1.2.m.n ≠ 2 := by omega
    have nX2 : X2.2.m.n = 3 := (D_vext eX2).n.trans nX1
    have mX2 : X2.2.m.n ≠ 2 := by omega
    unfold visorref20_Xor.m
    unfold visorref20_None.m
    repeat (first
      | with_reducible refine bstep (rOp_w ..) ?_
      | with_reducible refine bstep (rDo_v (by assumption) (by omega) isW_zero isW_zero) ?_
      | with_reducible refine bassoc ?_
      | with_reducible refine bsome ?_
      | ((with_reducible refine biteP ?_ ?_); · first | exact rfl | exact Nat.le_of_ble_eq_true rfl | decide)
      | ((with_reducible refine iteP ?_ ?_); · first | exact rfl | exact Nat.le_of_ble_eq_true rfl | decide)
      | ((with_reducible refine bbifT ?_ ?_); · first | decide | exact beqT (by assumption) | exact ltT (by assumption) (by decide) | exact bneT (by assumption))
      | ((with_reducible refine bbifF ?_ ?_); · first | decide | exact beqN (by assumption) | exact ltF (by assumption) (by decide) | exact bneN (by assumption))
      | ((with_reducible refine bifT ?_ ?_); · first | decide | exact beqT (by assumption) | exact ltT (by assumption) (by decide) | exact bneT (by assumption))
      | ((with_reducible refine bifF ?_ ?_); · first | decide | exact beqN (by assumption) | exact ltF (by assumption) (by decide) | exact bneN (by assumption))
      | rw [visorref20_Xor.l1]
      | rw [W01]
      | rw [W2]
      | rw [W3]
      | ((with_reducible apply bstep); · exact rfl)
      | dsimp only)
    exact rfl
theorem XrC.s {M M' F : WM} {a0 : Int} {b0 : Int} {c0 : Int} {a1 : Int} {b1 : Int} {c1 : Int} {o0 o1 o2 : Int} (h : XrC M a0 b0 c0 a1 b1 c1 o0 o1 o2 M') (x : Ext M' F) (hF : F.m.bad = 0) {z0 z1 : BitVec 64} (s0 : Stands F a0 b0 c0 z0) (s1 : Stands F a1 b1 c1 z1) : Stands F o0 o1 o2 (z0 ^^^ z1) := by
  rcases h with ⟨X0, X1, hn, eX0, eX1, rfl, rfl, rfl, rfl⟩ | ⟨X0, X1, X2, hn, eX0, eX1, eX2, rfl, rfl, rfl, rfl⟩
  · have x2 := x
    have x1 := (D_vext eX1).trans x2
    have x0 := (D_vext eX0).trans x1
    have nF : F.m.n = 2 := x0.n.trans hn
    obtain ⟨_, hc0, p0, q0, vp0, vq0, rfl⟩ : F.m.n = 2 ∧ _ := by
      rcases s0 with h | h
      · exact h
      · exact absurd h.1 (by omega)
    obtain ⟨_, hc1, p1, q1, vp1, vq1, rfl⟩ : F.m.n = 2 ∧ _ := by
      rcases s1 with h | h
      · exact h
      · exact absurd h.1 (by omega)
    have vX0 := F_xor eX0 x1 hF vp0 vp1
    have vX1 := F_xor eX1 x2 hF vq0 vq1
    refine .inl ⟨nF, rfl, _, _, vX0, vX1, ?_⟩
    apply BitVec.eq_of_getLsbD_eq; intro i hi
    simp only [BitVec.getLsbD_xor]
    generalize BitVec.getLsbD p0 i = yp0
    generalize BitVec.getLsbD q0 i = yq0
    generalize BitVec.getLsbD p1 i = yp1
    generalize BitVec.getLsbD q1 i = yq1
    revert yp0 yq0 yp1 yq1
    decide
  · have x3 := x
    have x2 := (D_vext eX2).trans x3
    have x1 := (D_vext eX1).trans x2
    have x0 := (D_vext eX0).trans x1
    have nF : F.m.n = 3 := x0.n.trans hn
    obtain ⟨_, p0, q0, r0, vp0, vq0, vr0, rfl⟩ : F.m.n = 3 ∧ _ := by
      rcases s0 with h | h
      · exact absurd h.1 (by omega)
      · exact h
    obtain ⟨_, p1, q1, r1, vp1, vq1, vr1, rfl⟩ : F.m.n = 3 ∧ _ := by
      rcases s1 with h | h
      · exact absurd h.1 (by omega)
      · exact h
    have vX0 := F_xor eX0 x1 hF vp0 vp1
    have vX1 := F_xor eX1 x2 hF vq0 vq1
    have vX2 := F_xor eX2 x3 hF vr0 vr1
    refine .inr ⟨nF, _, _, _, vX0, vX1, vX2, ?_⟩
    apply BitVec.eq_of_getLsbD_eq; intro i hi
    simp only [BitVec.getLsbD_xor]
    generalize BitVec.getLsbD p0 i = yp0
    generalize BitVec.getLsbD q0 i = yq0
    generalize BitVec.getLsbD r0 i = yr0
    generalize BitVec.getLsbD p1 i = yp1
    generalize BitVec.getLsbD q1 i = yq1
    generalize BitVec.getLsbD r1 i = yr1
    revert yp0 yq0 yr0 yp1 yq1 yr1
    decide
def NtC (M : WM) (a : Int) (b : Int) (c : Int) (o0 o1 o2 : Int) (M' : WM) : Prop :=
  (∃ X0 : Int × WM, X0 = M.D ⟨6, 0, a, -1, -1, 0⟩ 0 ∧ o0 = X0.1 ∧ o1 = b ∧ o2 = c ∧ M' = X0.2)
theorem NtC.ex (M : WM) (a : Int) (b : Int) (c : Int) : ∃ o0 o1 o2 M', NtC M a b c o0 o1 o2 M' := by
  exact ⟨_, _, _, _, ⟨_, rfl, rfl, rfl, rfl, rfl⟩⟩
theorem NtC.ext {M M' : WM} {a : Int} {b : Int} {c : Int} {o0 o1 o2 : Int} (h : NtC M a b c o0 o1 o2 M') : Ext M M' := by
  rcases h with ⟨X0, eX0, rfl, rfl, rfl, rfl⟩
  · exact D_vext eX0
theorem NtC.s {M M' F : WM} {a : Int} {b : Int} {c : Int} {o0 o1 o2 : Int} (h : NtC M a b c o0 o1 o2 M') (x : Ext M' F) (hF : F.m.bad = 0) {z : BitVec 64} (s0 : Stands F a b c z) : Stands F o0 o1 o2 (~~~ z) := by
  obtain ⟨X0, eX0, rfl, rfl, rfl, rfl⟩ := h
  rcases s0 with ⟨n, hc, p, q, v0, v1, rfl⟩ | ⟨n, p, q, r, v0, v1, v2, rfl⟩
  · refine .inl ⟨n, hc, _, _, F_not eX0 x hF v0, v1, ?_⟩
    apply BitVec.eq_of_getLsbD_eq; intro i hi
    simp only [BitVec.getLsbD_xor, BitVec.getLsbD_not, hi, decide_true, Bool.true_and]
    generalize BitVec.getLsbD p i = yp
    generalize BitVec.getLsbD q i = yq
    revert yp yq
    decide
  · refine .inr ⟨n, _, _, _, F_not eX0 x hF v0, v1, v2, ?_⟩
    apply BitVec.eq_of_getLsbD_eq; intro i hi
    simp only [BitVec.getLsbD_xor, BitVec.getLsbD_not, hi, decide_true, Bool.true_and]
    generalize BitVec.getLsbD p i = yp
    generalize BitVec.getLsbD q i = yq
    generalize BitVec.getLsbD r i = yr
    revert yp yq yr
    decide
def AdC (M : WM) (kd : Int) (a : Int) (b : Int) (c : Int) (w : Int) (o0 o1 o2 : Int) (M' : WM) : Prop :=
  (∃ X0 : Int × WM, ∃ X1 : Int × WM, X0 = M.D ⟨kd, 0, -1, -1, -1, w⟩ 0 ∧ X1 = X0.2.D ⟨5, 0, a, X0.1, -1, 0⟩ 0 ∧ o0 = X1.1 ∧ o1 = b ∧ o2 = c ∧ M' = X1.2)
theorem AdC.ex (M : WM) (kd : Int) (a : Int) (b : Int) (c : Int) (w : Int) : ∃ o0 o1 o2 M', AdC M kd a b c w o0 o1 o2 M' := by
  exact ⟨_, _, _, _, ⟨_, _, rfl, rfl, rfl, rfl, rfl, rfl⟩⟩
theorem AdC.ext {M M' : WM} {kd : Int} {a : Int} {b : Int} {c : Int} {w : Int} {o0 o1 o2 : Int} (h : AdC M kd a b c w o0 o1 o2 M') : Ext M M' := by
  rcases h with ⟨X0, X1, eX0, eX1, rfl, rfl, rfl, rfl⟩
  · exact ((D_vext eX0).trans (D_vext eX1))
theorem AdC.p {k : Nat} (hk : 90 ≤ k) {M M' : WM} {a : Int} {b : Int} {c : Int} {w : Int} {o0 o1 o2 : Int} (h : AdC M 3 a b c w o0 o1 o2 M') (hw : IsW w) : share_Add.m k M.m [ci a, ci b, ci c] w = some ([ci o0, ci o1, ci o2], M'.m) := by
  rcases h with ⟨X0, X1, eX0, eX1, rfl, rfl, rfl, rfl⟩
  · skip
    unfold share_Add.m
    repeat (first
      | with_reducible refine bstep (N_v (by assumption)) ?_
      | with_reducible refine bstep (Two_v (by assumption) (by omega)) ?_
      | with_reducible refine bstep (Const_v (by assumption) (by omega) isW_zero) ?_
      | with_reducible refine bstep (Const_v (by assumption) (by omega) hw) ?_
      | ((with_reducible refine iteP ?_ ?_); · first | exact rfl | exact Nat.le_of_ble_eq_true rfl | decide)
      | ((with_reducible refine bifT ?_ ?_); · first | decide | exact beqT (by assumption) | exact ltT (by assumption) (by decide) | exact bneT (by assumption))
      | ((with_reducible refine bifF ?_ ?_); · first | decide | exact beqN (by assumption) | exact ltF (by assumption) (by decide) | exact bneN (by assumption))
      | ((with_reducible apply bstep); · exact rfl)
      | dsimp only)
    exact rfl
theorem AdC.r {k : Nat} (hk : 90 ≤ k) {M M' : WM} {kd : Int} {a : Int} {b : Int} {c : Int} {w : Int} {o0 o1 o2 : Int} (h : AdC M kd a b c w o0 o1 o2 M') (hw : IsW w) : visorref20_Add.m k (absM M.m) kd [ci a, ci b, ci c] w = some ([ci o0, ci o1, ci o2], absM M'.m) := by
  rcases h with ⟨X0, X1, eX0, eX1, rfl, rfl, rfl, rfl⟩
  · skip
    unfold visorref20_Add.m
    repeat (first
      | with_reducible refine bstep (rOp_w ..) ?_
      | with_reducible refine bstep (rDo_v (by assumption) (by omega) isW_zero isW_zero) ?_
      | with_reducible refine bstep (rDo_v (by assumption) (by omega) hw isW_zero) ?_
      | ((with_reducible refine iteP ?_ ?_); · first | exact rfl | exact Nat.le_of_ble_eq_true rfl | decide)
      | ((with_reducible refine bifT ?_ ?_); · first | decide | exact beqT (by assumption) | exact ltT (by assumption) (by decide) | exact bneT (by assumption))
      | ((with_reducible refine bifF ?_ ?_); · first | decide | exact beqN (by assumption) | exact ltF (by assumption) (by decide) | exact bneN (by assumption))
      | ((with_reducible apply bstep); · exact rfl)
      | dsimp only)
    exact rfl
theorem AdC.s {M M' F : WM} {kd a b c w : Int} {o0 o1 o2 : Int} (h : AdC M kd a b c w o0 o1 o2 M') (x : Ext M' F) (hF : F.m.bad = 0) (hk : kd = 3 ∨ kd = 4) {z : BitVec 64} (s0 : Stands F a b c z) : Stands F o0 o1 o2 (z ^^^ BitVec.ofInt 64 w) := by
  obtain ⟨X0, X1, eX0, eX1, rfl, rfl, rfl, rfl⟩ := h
  have vc := F_const eX0 ((D_vext eX1).trans x) hF hk
  generalize BitVec.ofInt 64 w = d at *
  rcases s0 with ⟨n, hc, p, q, v0, v1, rfl⟩ | ⟨n, p, q, r, v0, v1, v2, rfl⟩
  · refine .inl ⟨n, hc, _, _, F_xor eX1 x hF v0 vc, v1, ?_⟩
    apply BitVec.eq_of_getLsbD_eq; intro i hi
    simp only [BitVec.getLsbD_xor]
    generalize BitVec.getLsbD p i = yp
    generalize BitVec.getLsbD q i = yq
    generalize BitVec.getLsbD d i = yd
    revert yp yq yd
    decide
  · refine .inr ⟨n, _, _, _, F_xor eX1 x hF v0 vc, v1, v2, ?_⟩
    apply BitVec.eq_of_getLsbD_eq; intro i hi
    simp only [BitVec.getLsbD_xor]
    generalize BitVec.getLsbD p i = yp
    generalize BitVec.getLsbD q i = yq
    generalize BitVec.getLsbD r i = yr
    generalize BitVec.getLsbD d i = yd
    revert yp yq yr yd
    decide
def OnC (M : WM) (kd : Int) (a : Int) (b : Int) (c : Int) (w : Int) (o0 o1 o2 : Int) (M' : WM) : Prop :=
  (∃ X0 : Int × WM, ∃ X1 : Int × WM, M.m.n = 2 ∧ X0 = M.D ⟨kd, 0, a, -1, -1, w⟩ 0 ∧ X1 = X0.2.D ⟨kd, 1, b, -1, -1, w⟩ 0 ∧ o0 = X0.1 ∧ o1 = X1.1 ∧ o2 = -1 ∧ M' = X1.2) ∨
  (∃ X0 : Int × WM, ∃ X1 : Int × WM, ∃ X2 : Int × WM, M.m.n = 3 ∧ X0 = M.D ⟨kd, 0, a, -1, -1, w⟩ 0 ∧ X1 = X0.2.D ⟨kd, 1, b, -1, -1, w⟩ 0 ∧ X2 = X1.2.D ⟨kd, 2, c, -1, -1, w⟩ 0 ∧ o0 = X0.1 ∧ o1 = X1.1 ∧ o2 = X2.1 ∧ M' = X2.2)
theorem OnC.ex (M : WM) (kd : Int) (a : Int) (b : Int) (c : Int) (w : Int) : ∃ o0 o1 o2 M', OnC M kd a b c w o0 o1 o2 M' := by
  rcases M.w.ok.n with h | h
  · exact ⟨_, _, _, _, .inl ⟨_, _, h, rfl, rfl, rfl, rfl, rfl, rfl⟩⟩
  · exact ⟨_, _, _, _, .inr ⟨_, _, _, h, rfl, rfl, rfl, rfl, rfl, rfl, rfl⟩⟩
theorem OnC.ext {M M' : WM} {kd : Int} {a : Int} {b : Int} {c : Int} {w : Int} {o0 o1 o2 : Int} (h : OnC M kd a b c w o0 o1 o2 M') : Ext M M' := by
  rcases h with ⟨X0, X1, hn, eX0, eX1, rfl, rfl, rfl, rfl⟩ | ⟨X0, X1, X2, hn, eX0, eX1, eX2, rfl, rfl, rfl, rfl⟩
  · exact ((D_vext eX0).trans (D_vext eX1))
  · exact (((D_vext eX0).trans (D_vext eX1)).trans (D_vext eX2))
theorem OnC.c {M M' : WM} {kd : Int} {a : Int} {b : Int} {c : Int} {w : Int} {o0 o1 o2 : Int} (h : OnC M kd a b c w o0 o1 o2 M') (hn' : M'.m.n = 2) : o2 = -1 := by
  have hm := h.ext.n
  rcases h with ⟨X0, X1, hn, eX0, eX1, rfl, rfl, rfl, rfl⟩ | ⟨X0, X1, X2, hn, eX0, eX1, eX2, rfl, rfl, rfl, rfl⟩
  · rfl
  · omega
theorem OnC.s {M M' F : WM} {kd : Int} {a : Int} {b : Int} {c : Int} {w : Int} {o0 o1 o2 : Int} (h : OnC M kd a b c w o0 o1 o2 M') (x : Ext M' F) (hF : F.m.bad = 0) (hkd : kd ≠ 1) {z : BitVec 64} (s0 : Stands F a b c z) {f : BitVec 64 → BitVec 64} (hf : ∀ y, evalW kd (BitVec.ofInt 64 w) y 0#64 0#64 0#64 = f y) (hx : ∀ y y', f (y ^^^ y') = f y ^^^ f y') : Stands F o0 o1 o2 (f z) := by
  rcases h with ⟨X0, X1, hn, eX0, eX1, rfl, rfl, rfl, rfl⟩ | ⟨X0, X1, X2, hn, eX0, eX1, eX2, rfl, rfl, rfl, rfl⟩
  · have x2 := x
    have x1 := (D_vext eX1).trans x2
    have x0 := (D_vext eX0).trans x1
    have nF : F.m.n = 2 := x0.n.trans hn
    obtain ⟨_, hc0, p0, q0, vp0, vq0, rfl⟩ : F.m.n = 2 ∧ _ := by
      rcases s0 with h | h
      · exact h
      · exact absurd h.1 (by omega)
    have vX0 := F_one eX0 x1 hF hkd vp0
    have vX1 := F_one eX1 x2 hF hkd vq0
    refine .inl ⟨nF, rfl, _, _, vX0, vX1, ?_⟩
    simp only [hf, hx]
  · have x3 := x
    have x2 := (D_vext eX2).trans x3
    have x1 := (D_vext eX1).trans x2
    have x0 := (D_vext eX0).trans x1
    have nF : F.m.n = 3 := x0.n.trans hn
    obtain ⟨_, p0, q0, r0, vp0, vq0, vr0, rfl⟩ : F.m.n = 3 ∧ _ := by
      rcases s0 with h | h
      · exact absurd h.1 (by omega)
      · exact h
    have vX0 := F_one eX0 x1 hF hkd vp0
    have vX1 := F_one eX1 x2 hF hkd vq0
    have vX2 := F_one eX2 x3 hF hkd vr0
    refine .inr ⟨nF, _, _, _, vX0, vX1, vX2, ?_⟩
    simp only [hf, hx]
def EnC (M : WM) (w : Int) (o0 o1 o2 : Int) (M' : WM) : Prop :=
  (∃ B : WM, ∃ R1 : Int × WM, ∃ K : Int × WM, ∃ E : WM, M.m.n = 2 ∧ B = M.B 1 ∧ R1 = B.D ⟨1, 1, -1, -1, -1, 0⟩ 0 ∧ K = R1.2.D ⟨2, 0, R1.1, -1, -1, R1.2.m.words⟩ w ∧ E = K.2.E ∧ o0 = K.1 ∧ o1 = R1.1 ∧ o2 = -1 ∧ M' = E) ∨
  (∃ B : WM, ∃ R1 : Int × WM, ∃ R2 : Int × WM, ∃ K : Int × WM, ∃ E : WM, M.m.n = 3 ∧ B = M.B 1 ∧ R1 = B.D ⟨1, 1, -1, -1, -1, 0⟩ 0 ∧ R2 = R1.2.D ⟨1, 2, -1, -1, -1, 0⟩ 0 ∧ K = R2.2.D ⟨2, 0, R1.1, R2.1, -1, R2.2.m.words⟩ w ∧ E = K.2.E ∧ o0 = K.1 ∧ o1 = R1.1 ∧ o2 = R2.1 ∧ M' = E)
theorem EnC.ex (M : WM) (w : Int) : ∃ o0 o1 o2 M', EnC M w o0 o1 o2 M' := by
  rcases M.w.ok.n with h | h
  · exact ⟨_, _, _, _, .inl ⟨_, _, _, _, h, rfl, rfl, rfl, rfl, rfl, rfl, rfl, rfl⟩⟩
  · exact ⟨_, _, _, _, .inr ⟨_, _, _, _, _, h, rfl, rfl, rfl, rfl, rfl, rfl, rfl, rfl, rfl⟩⟩
theorem EnC.ext {M M' : WM} {w : Int} {o0 o1 o2 : Int} (h : EnC M w o0 o1 o2 M') : Ext M M' := by
  rcases h with ⟨B, R1, K, E, hn, eB, eR1, eK, eE, rfl, rfl, rfl, rfl⟩ | ⟨B, R1, R2, K, E, hn, eB, eR1, eR2, eK, eE, rfl, rfl, rfl, rfl⟩
  · exact ((((B_vext eB).trans (D_vext eR1)).trans (D_vext eK)).trans (E_vext eE))
  · exact (((((B_vext eB).trans (D_vext eR1)).trans (D_vext eR2)).trans (D_vext eK)).trans (E_vext eE))
theorem EnC.c {M M' : WM} {w : Int} {o0 o1 o2 : Int} (h : EnC M w o0 o1 o2 M') (hn' : M'.m.n = 2) : o2 = -1 := by
  have hm := h.ext.n
  rcases h with ⟨B, R1, K, E, hn, eB, eR1, eK, eE, rfl, rfl, rfl, rfl⟩ | ⟨B, R1, R2, K, E, hn, eB, eR1, eR2, eK, eE, rfl, rfl, rfl, rfl⟩
  · rfl
  · omega
theorem EnC.s {M M' F : WM} {w : Int} {o0 o1 o2 : Int} (h : EnC M w o0 o1 o2 M') (x : Ext M' F) (hF : F.m.bad = 0) : Stands F o0 o1 o2 (BitVec.ofInt 64 w) := by
  rcases h with ⟨B, R1, K, E, hn, eB, eR1, eK, eE, rfl, rfl, rfl, rfl⟩ | ⟨B, R1, R2, K, E, hn, eB, eR1, eR2, eK, eE, rfl, rfl, rfl, rfl⟩
  · have x4 := x
    have x3 := (E_vext eE).trans x4
    have x2 := (D_vext eK).trans x3
    have x1 := (D_vext eR1).trans x2
    have x0 := (B_vext eB).trans x1
    have nF : F.m.n = 2 := x0.n.trans hn
    obtain ⟨zR1, vR1⟩ := F_rand eR1 x2 hF
    have vK := F_key1 eK x3 hF vR1
    refine .inl ⟨nF, rfl, _, _, vK, vR1, ?_⟩
    generalize BitVec.ofInt 64 w = d at *
    apply BitVec.eq_of_getLsbD_eq; intro i hi
    simp only [BitVec.getLsbD_xor, BitVec.getLsbD_zero]
    generalize BitVec.getLsbD zR1 i = yzR1
    generalize BitVec.getLsbD d i = yd
    revert yzR1 yd
    decide
  · have x5 := x
    have x4 := (E_vext eE).trans x5
    have x3 := (D_vext eK).trans x4
    have x2 := (D_vext eR2).trans x3
    have x1 := (D_vext eR1).trans x2
    have x0 := (B_vext eB).trans x1
    have nF : F.m.n = 3 := x0.n.trans hn
    obtain ⟨zR1, vR1⟩ := F_rand eR1 x2 hF
    obtain ⟨zR2, vR2⟩ := F_rand eR2 x3 hF
    have vK := F_key eK x4 hF vR1 vR2
    refine .inr ⟨nF, _, _, _, vK, vR1, vR2, ?_⟩
    generalize BitVec.ofInt 64 w = d at *
    apply BitVec.eq_of_getLsbD_eq; intro i hi
    simp only [BitVec.getLsbD_xor]
    generalize BitVec.getLsbD zR1 i = yzR1
    generalize BitVec.getLsbD zR2 i = yzR2
    generalize BitVec.getLsbD d i = yd
    revert yzR1 yzR2 yd
    decide
/-! Nothing fails where there is room, and masks (printed by wip/gen/fine.py). -/
set_option maxHeartbeats 4000000 in
theorem PubC.f2 {M M' : WM} {c : Int} {o0 o1 o2 : Int} (h : PubC M c o0 o1 o2 M') (hn : M.m.n = 2) {d q : Nat} (f0 : Fine M false (d + 0) (q + 2)) :
    Fine M' false d q ∧ M'.m.draws = M.m.draws + 0 ∧ M'.m.ops.length = M.m.ops.length + 2 ∧ Reg M' o0 ∧ Reg M' o1 := by
  rcases h with ⟨X0, X1, hm, eX0, eX1, rfl, rfl, rfl, rfl⟩ | ⟨X0, X1, X2, hm, eX0, eX1, eX2, rfl, rfl, rfl, rfl⟩
  · have l0 : M.m.ops.length = M.m.ops.length + 0 := rfl
    have w0 : M.m.draws = M.m.draws + 0 := (Int.add_zero _).symm
    have n0 := hn
    obtain ⟨f1, r, l, w, n⟩ := D_fo eX0 (q := q + 1) (d := d + 0) f0 (Rt_const (kd := 3) (.inl n0) (by decide) (dm n0 (by decide)))
    have rX0 := rr1 r l0
    have l1 := ln1 l l0
    have w1 := w.trans w0
    have n1 := n.trans n0
    clear l w n r l0 w0
    obtain ⟨f2, r, l, w, n⟩ := D_fo eX1 (q := q + 0) (d := d + 0) f1 (Rt_const (kd := 3) (.inl n1) (by decide) (dm n1 (by decide)))
    have rX1 := rr1 r l1
    have l2 := ln1 l l1
    have w2 := w.trans w1
    have n2 := n.trans n1
    clear l w n r l1 w1
    exact ⟨f2, w2, l2, (rg rX0 l2 (by decide)), (rg rX1 l2 (by decide))⟩
  · omega
set_option maxHeartbeats 4000000 in
theorem PubC.f3 {M M' : WM} {c : Int} {o0 o1 o2 : Int} (h : PubC M c o0 o1 o2 M') (hn : M.m.n = 3) {d q : Nat} (f0 : Fine M false (d + 0) (q + 3)) :
    Fine M' false d q ∧ M'.m.draws = M.m.draws + 0 ∧ M'.m.ops.length = M.m.ops.length + 3 ∧ Reg M' o0 ∧ Reg M' o1 ∧ Reg M' o2 := by
  rcases h with ⟨X0, X1, hm, eX0, eX1, rfl, rfl, rfl, rfl⟩ | ⟨X0, X1, X2, hm, eX0, eX1, eX2, rfl, rfl, rfl, rfl⟩
  · omega
  · have l0 : M.m.ops.length = M.m.ops.length + 0 := rfl
    have w0 : M.m.draws = M.m.draws + 0 := (Int.add_zero _).symm
    have n0 := hn
    obtain ⟨f1, r, l, w, n⟩ := D_fo eX0 (q := q + 2) (d := d + 0) f0 (Rt_const (kd := 3) (.inr n0) (by decide) (dm n0 (by decide)))
    have rX0 := rr1 r l0
    have l1 := ln1 l l0
    have w1 := w.trans w0
    have n1 := n.trans n0
    clear l w n r l0 w0
    obtain ⟨f2, r, l, w, n⟩ := D_fo eX1 (q := q + 1) (d := d + 0) f1 (Rt_const (kd := 3) (.inr n1) (by decide) (dm n1 (by decide)))
    have rX1 := rr1 r l1
    have l2 := ln1 l l1
    have w2 := w.trans w1
    have n2 := n.trans n1
    clear l w n r l1 w1
    obtain ⟨f3, r, l, w, n⟩ := D_fo eX2 (q := q + 0) (d := d + 0) f2 (Rt_const (kd := 3) (.inr n2) (by decide) (dm n2 (by decide)))
    have rX2 := rr1 r l2
    have l3 := ln1 l l2
    have w3 := w.trans w2
    have n3 := n.trans n2
    clear l w n r l2 w2
    exact ⟨f3, w3, l3, (rg rX0 l3 (by decide)), (rg rX1 l3 (by decide)), (rg rX2 l3 (by decide))⟩
set_option maxHeartbeats 4000000 in
theorem XrC.f2 {M M' : WM} {a0 : Int} {b0 : Int} {c0 : Int} {a1 : Int} {b1 : Int} {c1 : Int} {o0 o1 o2 : Int} (h : XrC M a0 b0 c0 a1 b1 c1 o0 o1 o2 M') (hn : M.m.n = 2) {d q : Nat} (f0 : Fine M false (d + 0) (q + 2)) (ha0 : Reg M a0) (hb0 : Reg M b0) (ha1 : Reg M a1) (hb1 : Reg M b1) :
    Fine M' false d q ∧ M'.m.draws = M.m.draws + 0 ∧ M'.m.ops.length = M.m.ops.length + 2 ∧ Reg M' o0 ∧ Reg M' o1 := by
  rcases h with ⟨X0, X1, hm, eX0, eX1, rfl, rfl, rfl, rfl⟩ | ⟨X0, X1, X2, hm, eX0, eX1, eX2, rfl, rfl, rfl, rfl⟩
  · have l0 : M.m.ops.length = M.m.ops.length + 0 := rfl
    have w0 : M.m.draws = M.m.draws + 0 := (Int.add_zero _).symm
    have n0 := hn
    obtain ⟨f1, r, l, w, n⟩ := D_fo eX0 (q := q + 1) (d := d + 0) f0 (Rt_two (kd := 5) (.inl n0) (by decide) (dm n0 (by decide)) (rgi ha0 l0) (rgi ha1 l0))
    have rX0 := rr1 r l0
    have l1 := ln1 l l0
    have w1 := w.trans w0
    have n1 := n.trans n0
    clear l w n r l0 w0
    obtain ⟨f2, r, l, w, n⟩ := D_fo eX1 (q := q + 0) (d := d + 0) f1 (Rt_two (kd := 5) (.inl n1) (by decide) (dm n1 (by decide)) (rgi hb0 l1) (rgi hb1 l1))
    have rX1 := rr1 r l1
    have l2 := ln1 l l1
    have w2 := w.trans w1
    have n2 := n.trans n1
    clear l w n r l1 w1
    exact ⟨f2, w2, l2, (rg rX0 l2 (by decide)), (rg rX1 l2 (by decide))⟩
  · omega
set_option maxHeartbeats 4000000 in
theorem XrC.f3 {M M' : WM} {a0 : Int} {b0 : Int} {c0 : Int} {a1 : Int} {b1 : Int} {c1 : Int} {o0 o1 o2 : Int} (h : XrC M a0 b0 c0 a1 b1 c1 o0 o1 o2 M') (hn : M.m.n = 3) {d q : Nat} (f0 : Fine M false (d + 0) (q + 3)) (ha0 : Reg M a0) (hb0 : Reg M b0) (hc0 : Reg M c0) (ha1 : Reg M a1) (hb1 : Reg M b1) (hc1 : Reg M c1) :
    Fine M' false d q ∧ M'.m.draws = M.m.draws + 0 ∧ M'.m.ops.length = M.m.ops.length + 3 ∧ Reg M' o0 ∧ Reg M' o1 ∧ Reg M' o2 := by
  rcases h with ⟨X0, X1, hm, eX0, eX1, rfl, rfl, rfl, rfl⟩ | ⟨X0, X1, X2, hm, eX0, eX1, eX2, rfl, rfl, rfl, rfl⟩
  · omega
  · have l0 : M.m.ops.length = M.m.ops.length + 0 := rfl
    have w0 : M.m.draws = M.m.draws + 0 := (Int.add_zero _).symm
    have n0 := hn
    obtain ⟨f1, r, l, w, n⟩ := D_fo eX0 (q := q + 2) (d := d + 0) f0 (Rt_two (kd := 5) (.inr n0) (by decide) (dm n0 (by decide)) (rgi ha0 l0) (rgi ha1 l0))
    have rX0 := rr1 r l0
    have l1 := ln1 l l0
    have w1 := w.trans w0
    have n1 := n.trans n0
    clear l w n r l0 w0
    obtain ⟨f2, r, l, w, n⟩ := D_fo eX1 (q := q + 1) (d := d + 0) f1 (Rt_two (kd := 5) (.inr n1) (by decide) (dm n1 (by decide)) (rgi hb0 l1) (rgi hb1 l1))
    have rX1 := rr1 r l1
    have l2 := ln1 l l1
    have w2 := w.trans w1
    have n2 := n.trans n1
    clear l w n r l1 w1
    obtain ⟨f3, r, l, w, n⟩ := D_fo eX2 (q := q + 0) (d := d + 0) f2 (Rt_two (kd := 5) (.inr n2) (by decide) (dm n2 (by decide)) (rgi hc0 l2) (rgi hc1 l2))
    have rX2 := rr1 r l2
    have l3 := ln1 l l2
    have w3 := w.trans w2
    have n3 := n.trans n2
    clear l w n r l2 w2
    exact ⟨f3, w3, l3, (rg rX0 l3 (by decide)), (rg rX1 l3 (by decide)), (rg rX2 l3 (by decide))⟩
set_option maxHeartbeats 4000000 in
theorem AdC.f2 {M M' : WM} {a : Int} {b : Int} {c : Int} {w : Int} {o0 o1 o2 : Int} (h : AdC M 3 a b c w o0 o1 o2 M') (hn : M.m.n = 2) {d q : Nat} (f0 : Fine M false (d + 0) (q + 2)) (ha : Reg M a) (hb : Reg M b) :
    Fine M' false d q ∧ M'.m.draws = M.m.draws + 0 ∧ M'.m.ops.length = M.m.ops.length + 2 ∧ Reg M' o0 ∧ Reg M' o1 := by
  obtain ⟨X0, X1, eX0, eX1, rfl, rfl, rfl, rfl⟩ := h
  have l0 : M.m.ops.length = M.m.ops.length + 0 := rfl
  have w0 : M.m.draws = M.m.draws + 0 := (Int.add_zero _).symm
  have n0 := hn
  obtain ⟨f1, r, l, w, n⟩ := D_fo eX0 (q := q + 1) (d := d + 0) f0 (Rt_const (kd := 3) (.inl n0) (by decide) (dm n0 (by decide)))
  have rX0 := rr1 r l0
  have l1 := ln1 l l0
  have w1 := w.trans w0
  have n1 := n.trans n0
  clear l w n r l0 w0
  obtain ⟨f2, r, l, w, n⟩ := D_fo eX1 (q := q + 0) (d := d + 0) f1 (Rt_two (kd := 5) (.inl n1) (by decide) (dm n1 (by decide)) (rgi ha l1) (rg rX0 l1 (by decide)))
  have rX1 := rr1 r l1
  have l2 := ln1 l l1
  have w2 := w.trans w1
  have n2 := n.trans n1
  clear l w n r l1 w1
  exact ⟨f2, w2, l2, (rg rX1 l2 (by decide)), (rgi hb l2)⟩
set_option maxHeartbeats 4000000 in
theorem AdC.f3 {M M' : WM} {a : Int} {b : Int} {c : Int} {w : Int} {o0 o1 o2 : Int} (h : AdC M 3 a b c w o0 o1 o2 M') (hn : M.m.n = 3) {d q : Nat} (f0 : Fine M false (d + 0) (q + 2)) (ha : Reg M a) (hb : Reg M b) (hc : Reg M c) :
    Fine M' false d q ∧ M'.m.draws = M.m.draws + 0 ∧ M'.m.ops.length = M.m.ops.length + 2 ∧ Reg M' o0 ∧ Reg M' o1 ∧ Reg M' o2 := by
  obtain ⟨X0, X1, eX0, eX1, rfl, rfl, rfl, rfl⟩ := h
  have l0 : M.m.ops.length = M.m.ops.length + 0 := rfl
  have w0 : M.m.draws = M.m.draws + 0 := (Int.add_zero _).symm
  have n0 := hn
  obtain ⟨f1, r, l, w, n⟩ := D_fo eX0 (q := q + 1) (d := d + 0) f0 (Rt_const (kd := 3) (.inr n0) (by decide) (dm n0 (by decide)))
  have rX0 := rr1 r l0
  have l1 := ln1 l l0
  have w1 := w.trans w0
  have n1 := n.trans n0
  clear l w n r l0 w0
  obtain ⟨f2, r, l, w, n⟩ := D_fo eX1 (q := q + 0) (d := d + 0) f1 (Rt_two (kd := 5) (.inr n1) (by decide) (dm n1 (by decide)) (rgi ha l1) (rg rX0 l1 (by decide)))
  have rX1 := rr1 r l1
  have l2 := ln1 l l1
  have w2 := w.trans w1
  have n2 := n.trans n1
  clear l w n r l1 w1
  exact ⟨f2, w2, l2, (rg rX1 l2 (by decide)), (rgi hb l2), (rgi hc l2)⟩
/-! A trace held against itself; rows of words. -/
theorem Same_blocks (t : Tapi_Trace) (hb : t.blocks.length ≤ 1048576) : ∀ (d i k : Nat), i + d = t.blocks.length → d < k → visorref18_Same.l1 t t k (i : Int) = some (.inr ())
  | 0, i, k, hi, hk => by
    obtain ⟨k, rfl⟩ : ∃ j, k = j + 1 := ⟨k - 1, by omega⟩
    unfold visorref18_Same.l1
    rw [decide_eq_false (by omega), cond_false]
  | d + 1, i, k, hi, hk => by
    obtain ⟨k, rfl⟩ : ∃ j, k = j + 1 := ⟨k - 1, by omega⟩
    have hlt : i < t.blocks.length := by omega
    have hw : IntKind.i64.wrap ((i : Int) + 1) = ((i + 1 : Nat) : Int) := by rw [wrapI (by omega) (by omega)]; omega
    have ih := Same_blocks t hb d (i + 1) k (by omega) (by omega)
    unfold visorref18_Same.l1
    rw [decide_eq_true (by omega), cond_true, if_pos (by omega), Int.toNat_natCast, List.getElem?_eq_getElem hlt, Option.bind_some, if_pos (by omega), Option.bind_some]
    simp only [beq_self_eq_true, Bool.and_self, Bool.not_true, cond_false, hw]
    exact ih
theorem Same_ops (t : Tapi_Trace) (hb : t.ops.length ≤ 1048576) : ∀ (d i k : Nat), i + d = t.ops.length → d < k → visorref18_Same.l2 t t k (i : Int) = some (.inr ())
  | 0, i, k, hi, hk => by
    obtain ⟨k, rfl⟩ : ∃ j, k = j + 1 := ⟨k - 1, by omega⟩
    unfold visorref18_Same.l2
    rw [decide_eq_false (by omega), cond_false]
  | d + 1, i, k, hi, hk => by
    obtain ⟨k, rfl⟩ : ∃ j, k = j + 1 := ⟨k - 1, by omega⟩
    have hlt : i < t.ops.length := by omega
    have hw : IntKind.i64.wrap ((i : Int) + 1) = ((i + 1 : Nat) : Int) := by rw [wrapI (by omega) (by omega)]; omega
    have ih := Same_ops t hb d (i + 1) k (by omega) (by omega)
    unfold visorref18_Same.l2
    rw [decide_eq_true (by omega), cond_true, if_pos (by omega), Int.toNat_natCast, List.getElem?_eq_getElem hlt, Option.bind_some, if_pos (by omega), Option.bind_some]
    unfold visorref18_Same.j1 visorref18_Same.j2
    cases h4 : t.ops[i].kind == 4
    · simp only [Bool.and_self, cond_false, beq_self_eq_true, Bool.not_true, hw]
      exact ih
    · simp only [Bool.and_self, cond_true, beq_self_eq_true, Bool.not_true, cond_false, hw]
      exact ih
theorem Same_m (t : Tapi_Trace) (ho : t.ops.length ≤ 1048576) (hb : t.blocks.length ≤ 1048576) {k : Nat} (hk : 1048577 ≤ k) : visorref18_Same.m k t t = some true := by
  unfold visorref18_Same.m
  have e1 := Same_blocks t hb t.blocks.length 0 k (by omega) (by omega)
  have e2 := Same_ops t ho t.ops.length 0 k (by omega) (by omega)
  have z2 : ((0 : Nat) : Int) = 0 := rfl
  rw [z2] at e1 e2
  rw [show (((t.n != t.n) || ((t.ops.length : Int) != (t.ops.length : Int))) || ((t.blocks.length : Int) != (t.blocks.length : Int))) = false by simp, cond_false, e1, Option.bind_some]
  dsimp only
  rw [e2, Option.bind_some]
/-! A pair of machines that begins, and that both are alike. -/
def startM (n most : Int) (ms : List Int) : Twire_Machine := ⟨n, most, 0, 0, 0, false, 0, 0, 0, ⟨ms, ⟨0⟩, (ms.length : Int)⟩, [], [], []⟩
theorem start_ok {n most : Int} {ms : List Int} (hn : n = 2 ∨ n = 3) (hm : most ≤ 1048576) (hw : ∀ x ∈ ms, IsW x) (hl : ms.length * 8 ≤ 140737488351232) : WMok (startM n most ms) := by
  refine ⟨⟨hn, hm, ⟨Int.le_refl 0, by show (0 : Int) ≤ 4611686018427387904; omega⟩, ⟨Int.le_refl 0, Int.le_refl 0⟩, ⟨Int.le_refl 0, Int.le_refl 0⟩, Nat.zero_le _, rfl, ⟨Int.le_refl 0, by show (0 : Int) ≤ 3; omega⟩, fun x h => (by cases h), hw, ⟨Int.le_refl 0, by show (0 : Int) ≤ (ms.length : Int); omega⟩, Int.le_refl _, by show (ms.length : Int) ≤ 4611686018427387904; omega, fun _ => rfl, fun h => (by cases h)⟩, rfl, trivial, .inr rfl, ⟨Int.le_refl 0, by show (0 : Int) ≤ 3; omega⟩⟩
theorem Begins_m (k : Nat) {n most : Int} {ms : List Int} (hn : n = 2 ∨ n = 3) (h0 : 0 ≤ most) (hm : most ≤ 1048576) (hl : ms.length * 8 ≤ 140737488351232) :
    visorlaw20_Begins.m k n ms most = some (Sum.inr (startM n most ms, absM (startM n most ms), [], [], true)) := by
  have e1 : tape_New.m k ms = some ⟨ms, ⟨0⟩, 0⟩ := by
    unfold tape_New.m slices_Clone_uint64_uint64.m
    rw [if_pos (by simp only [List.length_nil]; omega)]; rfl
  have e2 : tape_Tape_Reserve.m k ⟨ms, ⟨0⟩, 0⟩ (ms.length : Int) = some (0, ⟨ms, ⟨0⟩, (ms.length : Int)⟩) := by
    unfold tape_Tape_Reserve.m tape_Tape_Left.m tape_Tape_Used.m
    rw [decide_eq_false (by omega), cond_false, Option.bind_some]
    dsimp only
    rw [wrapI (by omega) (by omega), Option.bind_some, decide_eq_false (by omega), cond_false]
  have e3 : ((((n != 2) && (n != 3)) || (decide (most < 0))) || (decide (most > 1048576))) = false := by
    rw [decide_eq_false (by omega), decide_eq_false (by omega)]
    rcases hn with rfl | rfl <;> rfl
  unfold visorlaw20_Begins.m wire_New.m visorref19_New.m
  rw [e1, Option.bind_some, e2, Option.bind_some]
  dsimp only
  rw [e3, cond_false]
  rfl
def start (n most : Int) (ms : List Int) (hn : n = 2 ∨ n = 3) (hm : most ≤ 1048576) (hw : ∀ x ∈ ms, IsW x) (hl : ms.length * 8 ≤ 140737488351232) : WM := ⟨startM n most ms, start_ok hn hm hw hl⟩
theorem like_l (P : Tvisorlaw20_Pair) (v : List Int) (he : P.x.val = v) (hb : v.length ≤ 1048576) : ∀ (d i k : Nat), i + d = v.length → d < k → visorlaw20_Pair_Like.l1 P v k (i : Int) = some (.inr ())
  | 0, i, k, hi, hk => by
    obtain ⟨k, rfl⟩ : ∃ j, k = j + 1 := ⟨k - 1, by omega⟩
    unfold visorlaw20_Pair_Like.l1
    rw [decide_eq_false (by omega), cond_false]
  | d + 1, i, k, hi, hk => by
    obtain ⟨k, rfl⟩ : ∃ j, k = j + 1 := ⟨k - 1, by omega⟩
    have hlt : i < v.length := by omega
    have hw : IntKind.i64.wrap ((i : Int) + 1) = ((i + 1 : Nat) : Int) := by rw [wrapI (by omega) (by omega)]; omega
    have ih := like_l P v he hb d (i + 1) k (by omega) (by omega)
    unfold visorlaw20_Pair_Like.l1
    rw [decide_eq_true (by omega), cond_true, if_pos (by omega), Int.toNat_natCast, List.getElem?_eq_getElem hlt, Option.bind_some, if_pos (by omega), he, List.getElem?_eq_getElem hlt, Option.bind_some, bne_self_eq_false, cond_false, hw]
    exact ih
theorem Values_w (k : Nat) (M : WM) : wire_Machine_Values.m k M.m = some M.m.values := by
  have := M.w.ok.vals; have := M.w.ok.ops
  unfold wire_Machine_Values.m slices_Clone_uint64_uint64.m
  rw [if_pos (by simp only [List.length_nil]; omega)]; rfl
theorem Trace_w (k : Nat) (M : WM) : wire_Machine_Trace.m k M.m = some ⟨M.m.n, M.m.ops, M.m.blocks⟩ := by
  have := M.w.ok.ops; have := M.blocks
  unfold wire_Machine_Trace.m slices_Clone_api_Op_api_Op.m slices_Clone_api_Span_api_Span.m
  rw [if_pos (by simp only [List.length_nil]; omega), Option.bind_some, if_pos (by simp only [List.length_nil]; omega)]; rfl
theorem Like_w {k : Nat} (hk : 1048577 ≤ k) (M : WM) (l : List Cells) (v : List Int) : visorlaw20_Pair_Like.m k ⟨M.m, absM M.m, l, v⟩ = some true := by
  have hv := M.w.ok.vals; have ho := M.w.ok.ops
  have e := like_l ⟨M.m, absM M.m, l, v⟩ M.m.values rfl (by omega) M.m.values.length 0 k (by omega) (by omega)
  rw [show ((0 : Nat) : Int) = 0 from rfl] at e
  have hs := Same_m ⟨M.m.n, M.m.ops, M.m.blocks⟩ ho M.blocks hk
  unfold visorlaw20_Pair_Like.m wire_Machine_Err.m
  rw [Values_w, Option.bind_some]
  dsimp only
  rw [show (absM M.m).val = M.m.values from rfl, show (absM M.m).e = M.m.bad from rfl, show (absM M.m).n = M.m.n from rfl, show (absM M.m).ops = M.m.ops from rfl, show (absM M.m).blocks = M.m.blocks from rfl]
  rw [bne_self_eq_false, cond_false, Option.bind_some, bne_self_eq_false, cond_false, Trace_w, Option.bind_some, hs, Option.bind_some]
  unfold visorlaw20_Pair_Like.j1
  rw [Bool.not_true, cond_false, e]; rfl
theorem Value_w {k : Nat} (hk : 4 ≤ k) {M : WM} {a b c : Int} {x : BitVec 64} (h : Stands M a b c x) : share_Value.m k M.m.values [ci a, ci b, ci c] = some (u x) := by
  obtain ⟨k, rfl⟩ : ∃ j, k = j + 4 := ⟨k - 4, by omega⟩
  rw [← h.val3]; exact Value_m _ _ _ _ _
theorem Stands.c {M : WM} {a b c : Int} {z : BitVec 64} (h : Stands M a b c z) (hn : M.m.n = 2) : c = -1 := by
  rcases h with ⟨_, h, _⟩ | ⟨h, _⟩
  · exact h
  · omega
/-- whenever it stands for anything at all -/
def Std (M : WM) (a b c : Int) (z : BitVec 64) : Prop := ∀ F, Ext M F → F.m.bad = 0 → Stands F a b c z
theorem Std.ext {M M' : WM} {a b c : Int} {z : BitVec 64} (h : Std M a b c z) (e : Ext M M') : Std M' a b c z := fun F x hF => h F (e.trans x) hF
theorem Std.now {M : WM} {a b c : Int} {z : BitVec 64} (h : Std M a b c z) (hb : M.m.bad = 0) : Stands M a b c z := h M (.refl _) hb
/-! any of words -/
def WInv (M : WM) (L : List Cells) (Z : List (BitVec 64)) : Prop := L.length = Z.length ∧ ∀ i, i < L.length → ∃ a b c z, L[i]? = some [ci a, ci b, ci c] ∧ Z[i]? = some z ∧ (M.m.n = 2 → c = -1) ∧ Std M a b c z
theorem WInv.ext {M M' : WM} {L : List Cells} {Z : List (BitVec 64)} (h : WInv M L Z) (e : Ext M M') : WInv M' L Z := ⟨h.1, fun i hi => by
  obtain ⟨a, b, c, z, h1, h2, h3, h4⟩ := h.2 i hi
  exact ⟨a, b, c, z, h1, h2, fun hn => h3 (e.n ▸ hn), h4.ext e⟩⟩
theorem WInv.snoc {M : WM} {L : List Cells} {Z : List (BitVec 64)} (h : WInv M L Z) {a b c : Int} {z : BitVec 64} (hc : M.m.n = 2 → c = -1) (s : Std M a b c z) : WInv M (L ++ [[ci a, ci b, ci c]]) (Z ++ [z]) := by
  refine ⟨by simp [h.1], fun i hi => ?_⟩
  simp only [List.length_append, List.length_singleton] at hi
  by_cases h' : i < L.length
  · obtain ⟨a, b, c, z, h1, h2, h3, h4⟩ := h.2 i h'
    exact ⟨a, b, c, z, by rw [List.getElem?_append_left h']; exact h1, by rw [List.getElem?_append_left (h.1 ▸ h')]; exact h2, h3, h4⟩
  · have e : i = L.length := by omega
    refine ⟨a, b, c, z, ?_, ?_, hc, s⟩
    · rw [e, List.getElem?_append_right (Nat.le_refl _), Nat.sub_self]; rfl
    · rw [e, h.1, List.getElem?_append_right (Nat.le_refl _), Nat.sub_self]; rfl
/-! Bytes, bit by bit: planes 'P', and back 'B'. -/
def bitN (e q : Nat) : Nat := e / 2 ^ q % 2
theorem bitN_lt (e q : Nat) : bitN e q < 2 := Nat.mod_lt _ (by decide)
/-- bit j of the first p bytes, as a word -/
def P33 (ys : List Int) (j : Nat) : Nat → Nat
  | 0 => 0
  | p + 1 => P33 ys j p + bitN ((ys[p]?).getD 0).toNat j * 2 ^ p
theorem P33_lt (ys : List Int) (j : Nat) : ∀ p, P33 ys j p < 2 ^ p
  | 0 => by simp [P33]
  | p + 1 => by
    have h1 := P33_lt ys j p; have h2 := bitN_lt ((ys[p]?).getD 0).toNat j
    have : bitN ((ys[p]?).getD 0).toNat j * 2 ^ p ≤ 1 * 2 ^ p := Nat.mul_le_mul_right _ (by omega)
    simp only [P33, Nat.pow_succ]; omega
def cellsF (f : Nat → Nat) : Cells := (List.range 8).map fun j => C.int .u64 ((f j : Nat) : Int)
theorem cellsF_len (f : Nat → Nat) : (cellsF f).length = 8 := by simp [cellsF]
theorem cellsF_get (f : Nat → Nat) {q : Nat} (h : q < 8) : getI .u64 (cellsF f) q = some ((f q : Nat) : Int) := by simp [getI, cellsF, h]
theorem cellsF_set (f : Nat → Nat) {q : Nat} (h : q < 8) (v : Nat) : (cellsF f).set q (C.int .u64 (v : Int)) = cellsF (fun j => if j = q then v else f j) := by
  apply List.ext_getElem?
  intro i
  rw [List.getElem?_set]
  by_cases hi : q = i
  · subst hi; simp [cellsF, h]
  · by_cases h8 : i < 8
    · simp [cellsF, h8, hi, Ne.symm hi]
    · simp [cellsF, h8, hi]
theorem cellsF_congr {f g : Nat → Nat} (h : ∀ j, j < 8 → f j = g j) : cellsF f = cellsF g := by
  unfold cellsF
  exact List.map_congr_left fun j hj => by rw [h j (List.mem_range.1 hj)]
/-! bits, as the programs take them -/
theorem shr_nat {k : IntKind} (e q : Nat) (h : q ≤ k.bits) : shr k (e : Int) (q : Int) = ((e / 2 ^ q : Nat) : Int) := by
  unfold shr
  rw [show min ((q : Int)).toNat k.bits = q by rw [Int.toNat_natCast]; omega]
  have : ((2 : Int) ^ q) = ((2 ^ q : Nat) : Int) := by simp
  rw [this, Int.fdiv_eq_ediv_of_nonneg _ (Int.natCast_nonneg _)]; rfl
theorem nat_u {x : Nat} (h : x < 18446744073709551616) : (x : Int) = u (BitVec.ofNat 64 x) := by
  unfold u; rw [BitVec.toNat_ofNat, Nat.mod_eq_of_lt h]
theorem band1_u8 (x : Nat) (h : x < 256) : band .u8 (x : Int) 1 = ((x % 2 : Nat) : Int) := by
  have : ∀ m : Fin 256, band .u8 ((m : Nat) : Int) 1 = ((m.val % 2 : Nat) : Int) := by decide +kernel
  exact this ⟨x, h⟩
theorem shl1_u64 (b p : Nat) (hb : b < 2) (hp : p < 64) : shl .u64 (b : Int) (p : Int) = ((b * 2 ^ p : Nat) : Int) := by
  unfold shl
  rw [show min ((p : Int)).toNat IntKind.u64.bits = p by rw [Int.toNat_natCast]; show min p 64 = p; omega, wrap_u64]
  have h2 : (2 : Nat) ^ p < 2 ^ 64 := Nat.pow_lt_pow_right (by decide) hp
  have h3 : b * 2 ^ p ≤ 1 * 2 ^ p := Nat.mul_le_mul_right _ (by omega)
  have e : (b : Int) * 2 ^ p = ((b * 2 ^ p : Nat) : Int) := by simp
  rw [e]; omega
theorem bor_low {v b p : Nat} (hv : v < 2 ^ p) (hp : p < 64) (hb : b < 2) : bor .u64 (v : Int) ((b * 2 ^ p : Nat) : Int) = ((v + b * 2 ^ p : Nat) : Int) := by
  have h2 : (2 : Nat) ^ p < 2 ^ 64 := Nat.pow_lt_pow_right (by decide) hp
  have h3 : b * 2 ^ p ≤ 1 * 2 ^ p := Nat.mul_le_mul_right _ (by omega)
  have h4 : v + b * 2 ^ p < 2 ^ 64 := by
    have : 2 ^ p + 2 ^ p ≤ 2 ^ 64 := by rw [← Nat.two_mul, ← Nat.pow_succ']; exact Nat.pow_le_pow_right (by decide) (by omega)
    omega
  rw [nat_u (show v < 18446744073709551616 by omega), nat_u (show b * 2 ^ p < 18446744073709551616 by omega), bor_u]
  unfold u
  rw [BitVec.toNat_or, BitVec.toNat_ofNat, BitVec.toNat_ofNat, Nat.mod_eq_of_lt (by omega : v < 2 ^ 64), Nat.mod_eq_of_lt (by omega : b * 2 ^ p < 2 ^ 64), Nat.or_comm, Nat.mul_comm b, ← Nat.two_pow_add_eq_or_of_lt hv, Nat.add_comm]
/-- one byte more: what either program's inner loop makes of a plane -/
def st33 (e p : Nat) (f : Nat → Nat) (j : Nat) : Nat := f j + bitN e j * 2 ^ p
/-- the planes from q on -/
def from33 (e p q : Nat) (f : Nat → Nat) (j : Nat) : Nat := if q ≤ j then st33 e p f j else f j
theorem from33_next {e p q : Nat} {f : Nat → Nat} (h : q < 8) : cellsF (from33 e p (q + 1) fun j => if j = q then st33 e p f q else f j) = cellsF (from33 e p q f) := by
  refine cellsF_congr fun j hj => ?_
  unfold from33
  by_cases h1 : j = q
  · subst h1; simp [show ¬ j + 1 ≤ j by omega]
  · by_cases h2 : q ≤ j
    · simp [show q + 1 ≤ j by omega, h2, st33, h1]
    · simp [show ¬ q + 1 ≤ j by omega, h2, h1]
theorem from33_end {e p : Nat} {f : Nat → Nat} : cellsF (from33 e p 8 f) = cellsF f := cellsF_congr fun j hj => by simp [from33, show ¬ 8 ≤ j by omega]
theorem from33_all {e p : Nat} {f : Nat → Nat} : cellsF (from33 e p 0 f) = cellsF (st33 e p f) := cellsF_congr fun j hj => by simp [from33]
theorem Cut_in (e p : Nat) (he : e < 256) (hp : p < 64) : ∀ (m q k : Nat) (f : Nat → Nat), q + m = 8 → m < k → (∀ j, q ≤ j → f j < 2 ^ p) →
    slice_Cut.l2 (p : Int) (e : Int) k (cellsF f) (q : Int) = some (cellsF (from33 e p q f))
  | _, _, 0, _, _, h, _ => by omega
  | 0, q, k + 1, f, hq, _, _ => by
    have : q = 8 := by omega
    subst this
    unfold slice_Cut.l2
    simp only [show decide (((8 : Nat) : Int) < 8) = false by decide, cond_false]
    rw [from33_end]
  | m + 1, q, k + 1, f, hq, hk, hf => by
    have hq8 : q < 8 := by omega
    unfold slice_Cut.l2
    rw [show decide ((q : Int) < 8) = true by simp; omega, cond_true, if_pos (by omega : (0 : Int) ≤ q ∧ (q : Int) < 8), Int.toNat_natCast, show 0 + q * 1 = q by omega, cellsF_get f hq8, Option.bind_some,
      if_pos (by omega), if_pos (by omega), if_pos (by omega : (0 : Int) ≤ q ∧ (q : Int) < 8), if_pos (by rw [cellsF_len]; exact hq8)]
    have e1 : bor .u64 ((f q : Nat) : Int) (shl .u64 (IntKind.u64.wrap (band .u8 (shr .u8 (e : Int) (q : Int)) 1)) (p : Int)) = ((st33 e p f q : Nat) : Int) := by
      have hd : e / 2 ^ q < 256 := Nat.lt_of_le_of_lt (Nat.div_le_self _ _) he
      rw [shr_nat (k := .u8) e q (show q ≤ 8 by omega), band1_u8 _ hd, wrap_u64_of (by omega) (by omega), shl1_u64 _ p (Nat.mod_lt _ (by decide)) hp, bor_low (hf q (Nat.le_refl _)) hp (Nat.mod_lt _ (by decide))]
      rfl
    rw [e1, cellsF_set f hq8, show IntKind.i64.wrap ((q : Int) + 1) = ((q + 1 : Nat) : Int) by rw [wrap_i64_of (by omega) (by omega)]; omega]
    rw [Cut_in e p he hp m (q + 1) k _ (by omega) (by omega) (fun j hj => by simp only [show j ≠ q by omega, if_false]; exact hf j (by omega)), from33_next hq8]
theorem rCut_in (x0 : List Int) (e p : Nat) (he : e < 256) (hp : p < 64) (hx : x0[p]? = some (e : Int)) : ∀ (m q k : Nat) (f : Nat → Nat), q + m = 8 → m < k → (∀ j, q ≤ j → f j < 2 ^ p) →
    visorref33_Cut.l2 x0 (p : Int) k (cellsF f) (q : Int) = some (cellsF (from33 e p q f))
  | _, _, 0, _, _, h, _ => by omega
  | 0, q, k + 1, f, hq, _, _ => by
    have : q = 8 := by omega
    subst this
    unfold visorref33_Cut.l2
    simp only [show decide (((8 : Nat) : Int) < 8) = false by decide, cond_false]
    rw [from33_end]
  | m + 1, q, k + 1, f, hq, hk, hf => by
    have hq8 : q < 8 := by omega
    unfold visorref33_Cut.l2
    rw [show decide ((q : Int) < 8) = true by simp; omega, cond_true, if_pos (by omega : (0 : Int) ≤ q ∧ (q : Int) < 8), Int.toNat_natCast, show 0 + q * 1 = q by omega, cellsF_get f hq8, Option.bind_some,
      if_pos (by omega), Int.toNat_natCast, hx, Option.bind_some, wrap_u64_of (by omega) (by omega), wrap_u64_of (by omega) (by omega), if_pos (by omega), if_pos (by omega), if_pos (by omega : (0 : Int) ≤ q ∧ (q : Int) < 8), if_pos (by rw [cellsF_len]; exact hq8)]
    have e1 : IntKind.u64.wrap (((f q : Nat) : Int) + shl .u64 (IntKind.u64.wrap (Int.tmod (shr .u8 (e : Int) (q : Int)) 2)) (p : Int)) = ((st33 e p f q : Nat) : Int) := by
      have hd : e / 2 ^ q < 256 := Nat.lt_of_le_of_lt (Nat.div_le_self _ _) he
      have h2 : (2 : Nat) ^ p < 2 ^ 64 := Nat.pow_lt_pow_right (by decide) hp
      have h5 := hf q (Nat.le_refl _)
      have h3 : e / 2 ^ q % 2 * 2 ^ p ≤ 1 * 2 ^ p := Nat.mul_le_mul_right _ (by have := Nat.mod_lt (e / 2 ^ q) (show 0 < 2 by decide); omega)
      have h4 : 2 ^ p + 2 ^ p ≤ 2 ^ 64 := by rw [← Nat.two_mul, ← Nat.pow_succ']; exact Nat.pow_le_pow_right (by decide) (by omega)
      rw [shr_nat (k := .u8) e q (show q ≤ 8 by omega), show Int.tmod ((e / 2 ^ q : Nat) : Int) 2 = ((e / 2 ^ q % 2 : Nat) : Int) from rfl, wrap_u64_of (x := ((e / 2 ^ q % 2 : Nat) : Int)) (by omega) (by omega), shl1_u64 _ p (Nat.mod_lt _ (by decide)) hp]
      unfold st33 bitN
      rw [wrap_u64_of (by omega) (by omega)]; omega
    rw [e1, cellsF_set f hq8, show IntKind.i64.wrap ((q : Int) + 1) = ((q + 1 : Nat) : Int) by rw [wrap_i64_of (by omega) (by omega)]; omega]
    rw [rCut_in x0 e p he hp hx m (q + 1) k _ (by omega) (by omega) (fun j hj => by simp only [show j ≠ q by omega, if_false]; exact hf j (by omega)), from33_next hq8]
def Bytes (xs : List Int) : Prop := ∀ x ∈ xs, 0 ≤ x ∧ x < 256
theorem Bytes.get {xs : List Int} (h : Bytes xs) {i : Nat} (hi : i < xs.length) : ∃ e : Nat, e < 256 ∧ xs[i]? = some (e : Int) := by
  have h1 := h _ (List.getElem_mem hi)
  exact ⟨xs[i].toNat, by omega, by rw [List.getElem?_eq_getElem hi, Int.toNat_of_nonneg h1.1]⟩
theorem P33_step {ys : List Int} {p e : Nat} (h : ys[p]? = some (e : Int)) : cellsF (st33 e p (fun j => P33 ys j p)) = cellsF (fun j => P33 ys j (p + 1)) :=
  cellsF_congr fun j _ => by simp [st33, P33, h]
theorem Cut_out (x0 : List Int) (hb : Bytes x0) : ∀ (m p k : Nat), p + m = (x0.take 64).length → m + 9 < k →
    slice_Cut.l1 x0 k (cellsF fun j => P33 (x0.take 64) j p) (p : Int) = some (cellsF fun j => P33 (x0.take 64) j (x0.take 64).length)
  | _, _, 0, _, h => by omega
  | m, p, k + 1, hp, hk => by
    have hcut : cut x0 0 (mn ((x0.length : Nat) : Int) 64).toNat = x0.take 64 := by
      unfold cut mn
      rw [List.drop_zero]
      split
      · rfl
      · rw [Int.toNat_natCast, List.take_of_length_le (Nat.le_refl _), List.take_of_length_le (by omega)]
    have hlen : (x0.take 64).length ≤ 64 := by rw [List.length_take]; omega
    unfold slice_Cut.l1
    rw [hcut]
    cases m with
    | zero => rw [show decide ((p : Int) < (((x0.take 64).length : Nat) : Int)) = false from decide_eq_false (by omega), cond_false, show p = (x0.take 64).length by omega]
    | succ m =>
      obtain ⟨e, he, hg⟩ := Bytes.get (xs := x0.take 64) (fun x hx => hb x (List.mem_of_mem_take hx)) (show p < (x0.take 64).length by omega)
      rw [show decide ((p : Int) < (((x0.take 64).length : Nat) : Int)) = true from decide_eq_true (by omega), cond_true, if_pos (by omega), Int.toNat_natCast, hg, Option.bind_some]
      have hin := Cut_in e p he (by omega) 8 0 k (fun j => P33 (x0.take 64) j p) rfl (by omega) (fun j _ => P33_lt _ _ _)
      rw [from33_all, P33_step hg] at hin
      have h0 : ((0 : Nat) : Int) = 0 := rfl
      rw [h0] at hin
      rw [hin, Option.bind_some, show IntKind.i64.wrap ((p : Int) + 1) = ((p + 1 : Nat) : Int) by rw [wrap_i64_of (by omega) (by omega)]; omega]
      exact Cut_out x0 hb m (p + 1) k (by omega) (by omega)
theorem rCut_out (x0 : List Int) (hb : Bytes x0) : ∀ (m p k : Nat), p + m = (x0.take 64).length → m + 9 < k →
    visorref33_Cut.l1 x0 k (cellsF fun j => P33 (x0.take 64) j p) (p : Int) = some (cellsF fun j => P33 (x0.take 64) j (x0.take 64).length)
  | _, _, 0, _, h => by omega
  | m, p, k + 1, hp, hk => by
    have hlen : (x0.take 64).length = min 64 x0.length := List.length_take
    unfold visorref33_Cut.l1
    cases m with
    | zero =>
      have hd : (decide ((p : Int) < ((x0.length : Nat) : Int)) && decide ((p : Int) < 64)) = false := by
        rw [← Bool.not_eq_true, Bool.and_eq_true, decide_eq_true_eq, decide_eq_true_eq]; omega
      rw [hd, cond_false, show p = (x0.take 64).length by omega]
    | succ m =>
      obtain ⟨e, he, hg⟩ := Bytes.get (xs := x0.take 64) (fun x hx => hb x (List.mem_of_mem_take hx)) (show p < (x0.take 64).length by omega)
      have hg0 : x0[p]? = some (e : Int) := by rw [List.getElem?_take, if_pos (by omega)] at hg; exact hg
      have hd : (decide ((p : Int) < ((x0.length : Nat) : Int)) && decide ((p : Int) < 64)) = true := by
        rw [Bool.and_eq_true, decide_eq_true_eq, decide_eq_true_eq]; omega
      rw [hd, cond_true]
      have hin := rCut_in x0 e p he (by omega) hg0 8 0 k (fun j => P33 (x0.take 64) j p) rfl (by omega) (fun j _ => P33_lt _ _ _)
      rw [from33_all, P33_step hg] at hin
      have h0 : ((0 : Nat) : Int) = 0 := rfl
      rw [h0] at hin
      rw [hin, Option.bind_some, show IntKind.i64.wrap ((p : Int) + 1) = ((p + 1 : Nat) : Int) by rw [wrap_i64_of (by omega) (by omega)]; omega]
      exact rCut_out x0 hb m (p + 1) k (by omega) (by omega)
/-- bytes' planes -/
def planes (x : List Int) : Cells := cellsF fun j => P33 (x.take 64) j (x.take 64).length
theorem Cut_m (x0 : List Int) (hb : Bytes x0) (k : Nat) (hk : 80 < k) : slice_Cut.m k x0 = some (planes x0) := by
  have hlen : (x0.take 64).length = min 64 x0.length := List.length_take
  have h := Cut_out x0 hb (x0.take 64).length 0 k (by omega) (by omega)
  unfold slice_Cut.m
  have hmn : 0 ≤ mn ((x0.length : Nat) : Int) 64 ∧ (mn ((x0.length : Nat) : Int) 64).toNat ≤ x0.length := by unfold mn; split <;> omega
  rw [if_pos ⟨hmn.1, Nat.zero_le _, hmn.2⟩]
  have e : (cellsF fun j => P33 (x0.take 64) j 0) = [C.int .u64 0, C.int .u64 0, C.int .u64 0, C.int .u64 0, C.int .u64 0, C.int .u64 0, C.int .u64 0, C.int .u64 0] := rfl
  rw [e] at h
  have h0 : ((0 : Nat) : Int) = 0 := rfl
  rw [h0] at h
  rw [h, Option.bind_some, if_pos (cellsF_len _)]; rfl
theorem rCut_m (x0 : List Int) (hb : Bytes x0) (k : Nat) (hk : 80 < k) : visorref33_Cut.m k x0 = some (planes x0) := by
  have hlen : (x0.take 64).length = min 64 x0.length := List.length_take
  have h := rCut_out x0 hb (x0.take 64).length 0 k (by omega) (by omega)
  unfold visorref33_Cut.m
  have e : (cellsF fun j => P33 (x0.take 64) j 0) = [C.int .u64 0, C.int .u64 0, C.int .u64 0, C.int .u64 0, C.int .u64 0, C.int .u64 0, C.int .u64 0, C.int .u64 0] := rfl
  rw [e] at h
  have h0 : ((0 : Nat) : Int) = 0 := rfl
  rw [h0] at h
  rw [h, Option.bind_some, if_pos (cellsF_len _)]; rfl
theorem planes_len (x : List Int) : (planes x).length = 8 := cellsF_len _
/-! and back -/
def B33 (f : Nat → Nat) (p : Nat) : Nat → Nat
  | 0 => 0
  | q + 1 => B33 f p q + bitN (f q) p * 2 ^ q
theorem B33_lt (f : Nat → Nat) (p : Nat) : ∀ q, B33 f p q < 2 ^ q
  | 0 => by simp [B33]
  | q + 1 => by
    have h1 := B33_lt f p q; have h2 := bitN_lt (f q) p
    have : bitN (f q) p * 2 ^ q ≤ 1 * 2 ^ q := Nat.mul_le_mul_right _ (by omega)
    simp only [B33, Nat.pow_succ]; omega
theorem shl1_u8 (b q : Nat) (hb : b < 2) (hq : q < 8) : shl .u8 (b : Int) (q : Int) = ((b * 2 ^ q : Nat) : Int) := by
  have : ∀ (b : Fin 2) (q : Fin 8), shl .u8 ((b : Nat) : Int) ((q : Nat) : Int) = ((b.val * 2 ^ q.val : Nat) : Int) := by decide +kernel
  exact this ⟨b, hb⟩ ⟨q, hq⟩
theorem rJoin_in (f : Nat → Nat) (hf : ∀ j, f j < 18446744073709551616) (p : Nat) (hp : p < 64) : ∀ (m q k : Nat), q + m = 8 → m < k →
    visorref33_Join.l2 (cellsF f) (p : Int) k ((B33 f p q : Nat) : Int) (q : Int) = some ((B33 f p 8 : Nat) : Int)
  | _, _, 0, _, h => by omega
  | 0, q, k + 1, hq, _ => by
    have : q = 8 := by omega
    subst this
    unfold visorref33_Join.l2
    simp only [show decide (((8 : Nat) : Int) < 8) = false by decide, cond_false]
  | m + 1, q, k + 1, hq, hk => by
    have hq8 : q < 8 := by omega
    unfold visorref33_Join.l2
    rw [show decide ((q : Int) < 8) = true by simp; omega, cond_true, if_pos (by omega : (0 : Int) ≤ q ∧ (q : Int) < 8), Int.toNat_natCast, show 0 + q * 1 = q by omega, cellsF_get f hq8, Option.bind_some,
      wrap_u64_of (by omega) (by omega), wrap_u64_of (by omega) (by omega), if_pos (by omega), if_pos (by omega)]
    have e1 : IntKind.u8.wrap (((B33 f p q : Nat) : Int) + shl .u8 (IntKind.u8.wrap (Int.tmod (shr .u64 ((f q : Nat) : Int) (p : Int)) 2)) (q : Int)) = ((B33 f p (q + 1) : Nat) : Int) := by
      have h1 := B33_lt f p (q + 1)
      have h2 : 2 ^ (q + 1) ≤ 2 ^ 8 := Nat.pow_le_pow_right (by decide) (by omega)
      rw [shr_nat (k := .u64) (f q) p (show p ≤ 64 by omega), show Int.tmod ((f q / 2 ^ p : Nat) : Int) 2 = ((f q / 2 ^ p % 2 : Nat) : Int) from rfl, wrap_u8_of (x := ((f q / 2 ^ p % 2 : Nat) : Int)) (by omega) (by omega), shl1_u8 _ q (Nat.mod_lt _ (by decide)) hq8]
      have e : ((B33 f p q : Nat) : Int) + ((f q / 2 ^ p % 2 * 2 ^ q : Nat) : Int) = ((B33 f p (q + 1) : Nat) : Int) := by simp only [B33, bitN]; omega
      rw [e, wrap_u8_of (by omega) (by omega)]
    rw [e1, show IntKind.i64.wrap ((q : Int) + 1) = ((q + 1 : Nat) : Int) by rw [wrap_i64_of (by omega) (by omega)]; omega]
    exact rJoin_in f hf p hp m (q + 1) k (by omega) (by omega)
/-- so many bytes of planes' words -/
def joinB (f : Nat → Nat) (n : Nat) : List Int := (List.range n).map fun p => ((B33 f p 8 : Nat) : Int)
theorem joinB_succ (f : Nat → Nat) (n : Nat) : joinB f (n + 1) = joinB f n ++ [((B33 f n 8 : Nat) : Int)] := by simp [joinB, List.range_succ]
theorem joinB_len (f : Nat → Nat) (n : Nat) : (joinB f n).length = n := by simp [joinB]
theorem rJoin_out (f : Nat → Nat) (hf : ∀ j, f j < 18446744073709551616) (x1 : Int) (n : Nat) (hn : n = (mx 0 (mn x1 64)).toNat) (hn64 : n ≤ 64) : ∀ (m p k : Nat), p + m = n → m + 9 < k →
    visorref33_Join.l1 (cellsF f) x1 k (joinB f p) (p : Int) = some (joinB f n)
  | _, _, 0, _, h => by omega
  | m, p, k + 1, hp, hk => by
    have hx : (p : Int) < x1 ∧ (p : Int) < 64 ↔ p < n := by
      subst hn; unfold mx mn
      split <;> split <;> omega
    unfold visorref33_Join.l1
    cases m with
    | zero =>
      have : (decide ((p : Int) < x1) && decide ((p : Int) < 64)) = false := by
        rw [← Bool.not_eq_true, Bool.and_eq_true, decide_eq_true_eq, decide_eq_true_eq, hx]; omega
      rw [this, cond_false, show p = n by omega]
    | succ m =>
      have : (decide ((p : Int) < x1) && decide ((p : Int) < 64)) = true := by
        rw [Bool.and_eq_true, decide_eq_true_eq, decide_eq_true_eq, hx]; omega
      rw [this, cond_true]
      have hin := rJoin_in f hf p (by omega) 8 0 k rfl (by omega)
      have h0 : ((0 : Nat) : Int) = 0 := rfl
      have h1 : ((B33 f p 0 : Nat) : Int) = 0 := rfl
      rw [h0, h1] at hin
      rw [hin, Option.bind_some, if_pos (by rw [joinB_len, List.length_singleton]; omega), show IntKind.i64.wrap ((p : Int) + 1) = ((p + 1 : Nat) : Int) by rw [wrap_i64_of (by omega) (by omega)]; omega, ← joinB_succ]
      exact rJoin_out f hf x1 n hn hn64 m (p + 1) k (by omega) (by omega)
theorem rJoin_m (f : Nat → Nat) (hf : ∀ j, f j < 18446744073709551616) (x1 : Int) (k : Nat) (hk : 80 < k) : visorref33_Join.m k (cellsF f) x1 = some (joinB f (mx 0 (mn x1 64)).toNat) := by
  have hb : 0 ≤ mx 0 (mn x1 64) ∧ mx 0 (mn x1 64) ≤ 64 := by unfold mx mn; split <;> split <;> omega
  unfold visorref33_Join.m
  have h := rJoin_out f hf x1 _ rfl (by omega) (mx 0 (mn x1 64)).toNat 0 k (by omega) (by omega)
  have h0 : ((0 : Nat) : Int) = 0 := rfl
  have h1 : joinB f 0 = [] := rfl
  rw [h0, h1] at h
  rw [h, Option.bind_some]
theorem P33_high (ys : List Int) (j p : Nat) : ∀ d, P33 ys j (p + d) % 2 ^ p = P33 ys j p
  | 0 => Nat.mod_eq_of_lt (P33_lt ys j p)
  | d + 1 => by
    show (P33 ys j (p + d) + bitN ((ys[p + d]?).getD 0).toNat j * 2 ^ (p + d)) % 2 ^ p = _
    rw [Nat.pow_add, ← Nat.mul_assoc, Nat.mul_comm _ (2 ^ p), Nat.mul_assoc, Nat.add_mul_mod_self_left]
    exact P33_high ys j p d
/-- bit p of plane j is bit j of byte p -/
theorem bit_plane (ys : List Int) (j p n : Nat) (h : p < n) : bitN (P33 ys j n) p = bitN ((ys[p]?).getD 0).toNat j := by
  have h1 := P33_high ys j (p + 1) (n - (p + 1))
  rw [show p + 1 + (n - (p + 1)) = n by omega] at h1
  unfold bitN
  have h2 : P33 ys j n / 2 ^ p % 2 = P33 ys j n % 2 ^ (p + 1) / 2 ^ p := by
    rw [Nat.pow_succ, Nat.mod_mul_right_div_self]
  rw [h2, h1]
  show (P33 ys j p + bitN ((ys[p]?).getD 0).toNat j * 2 ^ p) / 2 ^ p = _
  rw [Nat.add_mul_div_right _ _ (Nat.two_pow_pos p), Nat.div_eq_of_lt (P33_lt ys j p), Nat.zero_add]; rfl
theorem B33_congr {f : Nat → Nat} {p e : Nat} : ∀ q, (∀ j, j < q → bitN (f j) p = bitN e j) → B33 f p q = e % 2 ^ q
  | 0, _ => by simp [B33, Nat.mod_one]
  | q + 1, h => by
    show B33 f p q + bitN (f q) p * 2 ^ q = _
    rw [B33_congr q (fun j hj => h j (by omega)), h q (by omega), Nat.pow_succ, Nat.mod_mul]; unfold bitN
    rw [Nat.mul_comm]
theorem planes_lt (x : List Int) (j : Nat) : P33 (x.take 64) j (x.take 64).length < 18446744073709551616 := by
  have h1 := P33_lt (x.take 64) j (x.take 64).length
  have h2 : (x.take 64).length ≤ 64 := by rw [List.length_take]; omega
  have h3 : 2 ^ (x.take 64).length ≤ 2 ^ 64 := Nat.pow_le_pow_right (by decide) h2
  omega
/-! Planes: eight words as shares. -/
abbrev Tri := Int × Int × Int
def c3 (w : Tri) : Cells := [ci w.1, ci w.2.1, ci w.2.2]
def pl (f : Nat → Tri) : Cells := c3 (f 0) ++ (c3 (f 1) ++ (c3 (f 2) ++ (c3 (f 3) ++ (c3 (f 4) ++ (c3 (f 5) ++ (c3 (f 6) ++ c3 (f 7)))))))
theorem pl_len (f : Nat → Tri) : (pl f).length = 24 := rfl
theorem lt8 {j : Nat} (h : j < 8) : j = 0 ∨ j = 1 ∨ j = 2 ∨ j = 3 ∨ j = 4 ∨ j = 5 ∨ j = 6 ∨ j = 7 := by omega
theorem pl_part (f : Nat → Tri) {j : Nat} (h : j < 8) : part? (pl f) (0 + (j : Int).toNat * 3) 3 = some (c3 (f j)) := by
  rcases lt8 h with rfl | rfl | rfl | rfl | rfl | rfl | rfl | rfl <;> rfl
theorem pl_part' (f : Nat → Tri) {j : Nat} (h : j < 8) : part? (pl f) ((j : Int).toNat * 3) 3 = some (c3 (f j)) := by
  rcases lt8 h with rfl | rfl | rfl | rfl | rfl | rfl | rfl | rfl <;> rfl
theorem pl_splice (f : Nat → Tri) (w : Tri) {j : Nat} (h : j < 8) : splice (pl f) (0 + (j : Int).toNat * 3) (c3 w) = pl (fun i => if i = j then w else f i) := by
  rcases lt8 h with rfl | rfl | rfl | rfl | rfl | rfl | rfl | rfl <;> rfl
theorem pl_kinds (f : Nat → Tri) : Kinds ((List.replicate 8 ((List.replicate 3 [LK.int .i64]).flatten)).flatten) (pl f) := rfl
theorem pl_ceq (f : Nat → Tri) : ceq (pl f) (pl f) = true := (ceq_iff (pl_kinds f) (pl_kinds f)).2 rfl
def zW : Nat → Tri := fun _ => (0, 0, 0)
/-- each plane stands for a word -/
def PlW (M : WM) (f : Nat → Tri) (x : Nat → BitVec 64) : Prop := ∀ j, j < 8 → (M.m.n = 2 → (f j).2.2 = -1) ∧ Std M (f j).1 (f j).2.1 (f j).2.2 (x j)
theorem PlW.ext {M M' : WM} {f : Nat → Tri} {x : Nat → BitVec 64} (h : PlW M f x) (e : Ext M M') : PlW M' f x := fun j hj => ⟨fun hn => (h j hj).1 (e.n ▸ hn), (h j hj).2.ext e⟩
theorem PlW.to {M : WM} {f : Nat → Tri} {x y : Nat → BitVec 64} (h : PlW M f x) (e : ∀ j, j < 8 → x j = y j) : PlW M f y := fun j hj => ⟨(h j hj).1, e j hj ▸ (h j hj).2⟩
/-- a byte row's word of plane j -/
def wd (x : List Int) (j : Nat) : Nat := P33 (x.take 64) j (x.take 64).length
theorem wd_get (x : List Int) {j : Nat} (h : j < 8) : getI .u64 (planes x) (0 + (j : Int).toNat * 1) = some ((wd x j : Nat) : Int) := by
  rw [Int.toNat_natCast, Nat.mul_one, Nat.zero_add]; exact cellsF_get _ h
theorem wd_w (x : List Int) (j : Nat) : IsW ((wd x j : Nat) : Int) := by
  have := planes_lt x j
  exact ⟨by omega, by unfold wd; omega⟩
def bw (x : List Int) (j : Nat) : BitVec 64 := BitVec.ofInt 64 ((wd x j : Nat) : Int)
theorem bw_nat (x : List Int) (j : Nat) : (bw x j).toNat = wd x j := by
  have := planes_lt x j
  unfold bw
  rw [BitVec.toNat_ofInt]
  have h : wd x j < 18446744073709551616 := this
  omega
theorem i8 {j : Nat} (h : j < 8) : (0 : Int) ≤ (j : Int) ∧ (j : Int) < 8 := by omega
theorem nx8 {j : Nat} (h : j < 8) : IntKind.i64.wrap ((j : Int) + 1) = ((j + 1 : Nat) : Int) := by rw [wrapI (by omega) (by omega)]; rfl
theorem lt8d {j : Nat} (h : j < 8) : decide ((j : Int) < 8) = true := decide_eq_true (by omega)
/-! what planes stand for -/
def got (j : Nat) (x : Nat → BitVec 64) : Nat → Nat := fun i => if i < j then (x i).toNat else 0
theorem got_next {j : Nat} (hj : j < 8) (x : Nat → BitVec 64) : (cellsF (got j x)).set (0 + (j : Int).toNat * 1) (cw (u (x j))) = cellsF (got (j + 1) x) := by
  rw [Int.toNat_natCast, Nat.mul_one, Nat.zero_add]
  refine (cellsF_set _ hj _).trans (cellsF_congr fun i hi => ?_)
  unfold got
  by_cases h : i = j
  · rw [if_pos h, if_pos (by omega), h]
  · rw [if_neg h]
    by_cases h2 : i < j
    · rw [if_pos h2, if_pos (by omega)]
    · rw [if_neg h2, if_neg (by omega)]
theorem got_end (x : Nat → BitVec 64) : cellsF (got 8 x) = cellsF (fun j => (x j).toNat) := cellsF_congr fun i hi => by unfold got; rw [if_pos hi]
theorem val_l {M : WM} {f : Nat → Tri} {x : Nat → BitVec 64} (hf : PlW M f x) (hb : M.m.bad = 0) : ∀ (d j k : Nat), j + d = 8 → d + 90 ≤ k → slice_Value.l1 M.m.values (pl f) k (cellsF (got j x)) (j : Int) = some (cellsF fun j => (x j).toNat) := by
  intro d
  induction d with
  | zero =>
    intro j k hj hk
    obtain rfl : j = 8 := by omega
    obtain ⟨k, rfl⟩ : ∃ i, k = i + 1 := ⟨k - 1, by omega⟩
    rw [slice_Value.l1, decide_eq_false (by omega), cond_false, got_end]
  | succ d ih =>
    intro j k hj hk
    obtain ⟨k, rfl⟩ : ∃ i, k = i + 1 := ⟨k - 1, by omega⟩
    have hj8 : j < 8 := by omega
    rw [slice_Value.l1, lt8d hj8, cond_true, if_pos (i8 hj8), pl_part' f hj8, Option.bind_some]
    unfold c3
    rw [Value_w (by omega) ((hf j hj8).2.now hb), Option.bind_some, if_pos (i8 hj8), if_pos (by rw [cellsF_len]; omega), got_next hj8, nx8 hj8]
    exact ih (j + 1) k (by omega) (by omega)
theorem got_zero (x : Nat → BitVec 64) : cellsF (got 0 x) = [cw 0, cw 0, cw 0, cw 0, cw 0, cw 0, cw 0, cw 0] := rfl
theorem pValue_w {M : WM} {f : Nat → Tri} {x : Nat → BitVec 64} (hf : PlW M f x) (hb : M.m.bad = 0) (k : Nat) (hk : 99 ≤ k) : slice_Value.m k M.m.values (pl f) = some (cellsF fun j => (x j).toNat) := by
  unfold slice_Value.m
  rw [if_pos (pl_len f), ← got_zero x, show (0 : Int) = ((0 : Nat) : Int) from rfl, val_l hf hb 8 0 k (by omega) (by omega), Option.bind_some, if_pos (cellsF_len _)]
/-! Planes turned by a matrix: columns of a row, both ways. -/
def colsN (c : Nat) : List Nat := (List.range 8).filter fun j => c.testBit j
def colsF (c j : Nat) : List Nat := ((List.range 8).drop j).filter fun j => c.testBit j
def tzOk (n : Nat) : Bool := (n == 0) || (match bits_TrailingZeros8.m 0 (n : Int), colsN n with
  | some j, a :: l => (j == (a : Int)) && (decide (a < 8)) && (l == colsN (n &&& (n - 1))) && (band .u8 (n : Int) (IntKind.u8.wrap ((n : Int) - 1)) == ((n &&& (n - 1) : Nat) : Int))
  | _, _ => false)
theorem tz_all : (List.range 256).all tzOk = true := by kernel_rfl
theorem tz_step {n : Nat} (h : n < 256) (h0 : n ≠ 0) (k : Nat) : ∃ a l, colsN n = a :: l ∧ a < 8 ∧ bits_TrailingZeros8.m k (n : Int) = some (a : Int) ∧ colsN (n &&& (n - 1)) = l ∧ band .u8 (n : Int) (IntKind.u8.wrap ((n : Int) - 1)) = ((n &&& (n - 1) : Nat) : Int) ∧ n &&& (n - 1) < 256 := by
  have e := List.all_eq_true.1 tz_all n (List.mem_range.2 h)
  unfold tzOk at e
  rw [show (n == 0) = false by simp [h0], Bool.false_or] at e
  split at e
  · rename_i j a l h1 h2
    simp only [Bool.and_eq_true, beq_iff_eq, decide_eq_true_eq] at e
    obtain ⟨⟨⟨e1, e2⟩, e3⟩, e4⟩ := e
    refine ⟨a, l, h2, e2, ?_, e3.symm, e4, Nat.lt_of_le_of_lt Nat.and_le_left h⟩
    rw [← e1]; exact h1
  · cases e
def bitOk (n : Nat) : Bool := (List.range 8).all fun j => ((Int.tmod (shr .u8 (n : Int) ((j : Nat) : Int)) 2) == 1) == n.testBit j
theorem bit_all : (List.range 256).all bitOk = true := by kernel_rfl
theorem bit_at {n j : Nat} (h : n < 256) (hj : j < 8) : ((Int.tmod (shr .u8 (n : Int) (j : Int)) 2) == 1) = n.testBit j := by
  have e := List.all_eq_true.1 bit_all n (List.mem_range.2 h)
  unfold bitOk at e
  exact eq_of_beq (List.all_eq_true.1 e j (List.mem_range.2 hj))
theorem colsF_8 (c : Nat) : colsF c 8 = [] := rfl
theorem colsF_step (c : Nat) {j : Nat} (hj : j < 8) : colsF c j = if c.testBit j = true then j :: colsF c (j + 1) else colsF c (j + 1) := by
  unfold colsF
  have e : (List.range 8).drop j = j :: (List.range 8).drop (j + 1) := by
    rw [List.drop_eq_getElem_cons (by simpa using hj)]; simp
  rw [e, List.filter_cons]
theorem colsF_lt (c j : Nat) : ∀ i ∈ colsF c j, i < 8 := fun i hi => by
  unfold colsF at hi
  exact List.mem_range.1 (List.mem_of_mem_drop (List.mem_filter.1 hi).1)
theorem colsN_F (c : Nat) : colsN c = colsF c 0 := rfl
def rows8 (a : Nat → Nat) : Cells := [.int .u8 (a 0), .int .u8 (a 1), .int .u8 (a 2), .int .u8 (a 3), .int .u8 (a 4), .int .u8 (a 5), .int .u8 (a 6), .int .u8 (a 7)]
theorem rows8_get (a : Nat → Nat) {i : Nat} (h : i < 8) : getI .u8 (rows8 a) (0 + (i : Int).toNat * 1) = some ((a i : Nat) : Int) := by
  rcases lt8 h with rfl | rfl | rfl | rfl | rfl | rfl | rfl | rfl <;> rfl
theorem rows8_get' (a : Nat → Nat) {i : Nat} (h : i < 8) : getI .u8 (rows8 a) (i : Int).toNat = some ((a i : Nat) : Int) := by
  rcases lt8 h with rfl | rfl | rfl | rfl | rfl | rfl | rfl | rfl <;> rfl
theorem wrap_u64_8 {j : Nat} (h : j < 64) : IntKind.u64.wrap (j : Int) = (j : Int) := wrap_u64_of (by omega) (by omega)
theorem Bit_m (k : Nat) (a : Nat → Nat) (ha : ∀ i, a i < 256) {i j : Nat} (hi : i < 8) (hj : j < 8) : visorref05_Bit.m k (rows8 a) (i : Int) (j : Int) = some ((a i).testBit j) := by
  unfold visorref05_Bit.m
  rw [if_pos (i8 hi), rows8_get a hi, Option.bind_some, wrap_u64_8 (by omega), if_pos (by omega), bit_at (ha i) hj]
/-- words, with all that is known of them -/
structure Wd3 (M : WM) (w : Tri) (x : BitVec 64) : Prop where
  c : M.m.n = 2 → w.2.2 = -1
  s : Std M w.1 w.2.1 w.2.2 x
  g : Reg M w.1 ∧ Reg M w.2.1 ∧ (M.m.n = 3 → Reg M w.2.2)
structure Up (M M' : WM) (q : Nat) : Prop where
  e : Ext M M'
  l : M'.m.ops.length = M.m.ops.length + q
theorem Up.refl (M : WM) : Up M M 0 := ⟨.refl _, rfl⟩
theorem Up.trans {M N P : WM} {q r : Nat} (h : Up M N q) (g : Up N P r) : Up M P (q + r) := ⟨h.e.trans g.e, by rw [g.l, h.l]; omega⟩
theorem Up.cast {M N : WM} {q r : Nat} (h : Up M N q) (e : q = r) : Up M N r := e ▸ h
theorem Reg.up {M M' : WM} {r : Int} {q : Nat} (h : Reg M r) (u : Up M M' q) : Reg M' r := ⟨h.1, by have := h.2; have := u.l; omega⟩
theorem Wd3.up {M M' : WM} {w : Tri} {x : BitVec 64} {q : Nat} (h : Wd3 M w x) (u : Up M M' q) : Wd3 M' w x :=
  ⟨fun hn => h.c (u.e.n ▸ hn), h.s.ext u.e, h.g.1.up u, h.g.2.1.up u, fun hn => (h.g.2.2 (u.e.n ▸ hn)).up u⟩
def nn (M : WM) : Nat := M.m.n.toNat
theorem Up.nnE {M M' : WM} {q : Nat} (u : Up M M' q) : nn M' = nn M := by unfold nn; rw [u.e.n]
theorem nn2 {M : WM} (h : M.m.n = 2) : nn M = 2 := by unfold nn; rw [h]; rfl
theorem nn3 {M : WM} (h : M.m.n = 3) : nn M = 3 := by unfold nn; rw [h]; rfl
theorem XrC.w {M M' : WM} {a b : Tri} {o0 o1 o2 : Int} (h : XrC M a.1 a.2.1 a.2.2 b.1 b.2.1 b.2.2 o0 o1 o2 M') {x y : BitVec 64} (wa : Wd3 M a x) (wb : Wd3 M b y) {q : Nat} (f : Fine M false 0 (q + nn M)) : Fine M' false 0 q ∧ Up M M' (nn M) ∧ Wd3 M' (o0, o1, o2) (x ^^^ y) := by
  have s : Std M' o0 o1 o2 (x ^^^ y) := fun F e hF => h.s e hF (wa.s.ext h.ext F e hF) (wb.s.ext h.ext F e hF)
  rcases M.w.ok.n with hn | hn
  · rw [nn2 hn] at f ⊢
    obtain ⟨f', _, l, g0, g1⟩ := h.f2 hn f wa.g.1 wa.g.2.1 wb.g.1 wb.g.2.1
    exact ⟨f', ⟨h.ext, l⟩, h.c, s, g0, g1, fun h3 => by have := h.ext.n; omega⟩
  · rw [nn3 hn] at f ⊢
    obtain ⟨f', _, l, g0, g1, g2⟩ := h.f3 hn f wa.g.1 wa.g.2.1 (wa.g.2.2 hn) wb.g.1 wb.g.2.1 (wb.g.2.2 hn)
    exact ⟨f', ⟨h.ext, l⟩, h.c, s, g0, g1, fun _ => g2⟩
theorem PubC.w {M M' : WM} {c : Int} {o0 o1 o2 : Int} (h : PubC M c o0 o1 o2 M') {q : Nat} (f : Fine M false 0 (q + nn M)) : Fine M' false 0 q ∧ Up M M' (nn M) ∧ Wd3 M' (o0, o1, o2) (BitVec.ofInt 64 c) := by
  have s : Std M' o0 o1 o2 (BitVec.ofInt 64 c) := fun F e hF => h.s e hF
  rcases M.w.ok.n with hn | hn
  · rw [nn2 hn] at f ⊢
    obtain ⟨f', _, l, g0, g1⟩ := h.f2 hn f
    exact ⟨f', ⟨h.ext, l⟩, h.c, s, g0, g1, fun h3 => by have := h.ext.n; omega⟩
  · rw [nn3 hn] at f ⊢
    obtain ⟨f', _, l, g0, g1, g2⟩ := h.f3 hn f
    exact ⟨f', ⟨h.ext, l⟩, h.c, s, g0, g1, fun _ => g2⟩
theorem AdC.w {M M' : WM} {a : Tri} {c : Int} {o0 o1 o2 : Int} (h : AdC M 3 a.1 a.2.1 a.2.2 c o0 o1 o2 M') {x : BitVec 64} (wa : Wd3 M a x) {q : Nat} (f : Fine M false 0 (q + 2)) : Fine M' false 0 q ∧ Up M M' 2 ∧ Wd3 M' (o0, o1, o2) (x ^^^ BitVec.ofInt 64 c) := by
  have s : Std M' o0 o1 o2 (x ^^^ BitVec.ofInt 64 c) := fun F e hF => h.s e hF (.inl rfl) (wa.s.ext h.ext F e hF)
  have hc : M'.m.n = 2 → o2 = -1 := by
    have he := h.ext.n
    intro h2
    have := wa.c (he ▸ h2)
    obtain ⟨_, _, _, _, _, _, e, _⟩ := h
    rw [e]; exact this
  rcases M.w.ok.n with hn | hn
  · obtain ⟨f', _, l, g0, g1⟩ := h.f2 hn f wa.g.1 wa.g.2.1
    exact ⟨f', ⟨h.ext, l⟩, hc, s, g0, g1, fun h3 => by have := h.ext.n; omega⟩
  · obtain ⟨f', _, l, g0, g1, g2⟩ := h.f3 hn f wa.g.1 wa.g.2.1 (wa.g.2.2 hn)
    exact ⟨f', ⟨h.ext, l⟩, hc, s, g0, g1, fun _ => g2⟩
/-! A row's columns, put together, by both. -/
inductive Turn (f : Nat → Tri) : List Nat → WM → Tri → WM → Tri → Prop
  | nil {M : WM} {w : Tri} : Turn f [] M w M w
  | cons {j : Nat} {js : List Nat} {M : WM} {w : Tri} {o0 o1 o2 : Int} {M1 M' : WM} {w' : Tri} : XrC M w.1 w.2.1 w.2.2 (f j).1 (f j).2.1 (f j).2.2 o0 o1 o2 M1 → Turn f js M1 (o0, o1, o2) M' w' → Turn f (j :: js) M w M' w'
theorem Turn.ex (f : Nat → Tri) : ∀ (js : List Nat) (M : WM) (w : Tri), ∃ M' w', Turn f js M w M' w'
  | [], M, w => ⟨M, w, .nil⟩
  | j :: js, M, w => by
    obtain ⟨o0, o1, o2, M1, h⟩ := XrC.ex M w.1 w.2.1 w.2.2 (f j).1 (f j).2.1 (f j).2.2
    obtain ⟨M', w', g⟩ := Turn.ex f js M1 (o0, o1, o2)
    exact ⟨M', w', .cons h g⟩
def xsum (x : Nat → BitVec 64) (js : List Nat) (y : BitVec 64) : BitVec 64 := js.foldl (fun z j => z ^^^ x j) y
def PlF (M : WM) (f : Nat → Tri) (x : Nat → BitVec 64) : Prop := ∀ j, j < 8 → Wd3 M (f j) (x j)
theorem PlF.up {M M' : WM} {f : Nat → Tri} {x : Nat → BitVec 64} {q : Nat} (h : PlF M f x) (u : Up M M' q) : PlF M' f x := fun j hj => (h j hj).up u
theorem Turn.w {f : Nat → Tri} {js : List Nat} {M M' : WM} {w w' : Tri} (h : Turn f js M w M' w') : ∀ {x : Nat → BitVec 64} {y : BitVec 64} {q : Nat}, (∀ j ∈ js, j < 8) → PlF M f x → Wd3 M w y → Fine M false 0 (q + js.length * nn M) →
    Fine M' false 0 q ∧ Up M M' (js.length * nn M) ∧ Wd3 M' w' (xsum x js y) := by
  induction h with
  | nil => intro x y q _ _ hw f; rw [List.length_nil, Nat.zero_mul] at f ⊢; exact ⟨f, .refl _, hw⟩
  | @cons j js M w o0 o1 o2 M1 M' w' h g ih =>
    intro x y q hj hf hw f
    have e : (j :: js).length * nn M = nn M + js.length * nn M := by rw [List.length_cons, Nat.add_mul, Nat.one_mul, Nat.add_comm]
    rw [e] at f ⊢
    obtain ⟨f1, u1, w1⟩ := h.w hw (hf j (hj j (List.mem_cons_self ..))) (q := q + js.length * nn M) (by rw [Nat.add_assoc, Nat.add_comm (js.length * nn M)]; exact f)
    obtain ⟨f2, u2, w2⟩ := ih (fun i hi => hj i (List.mem_cons_of_mem _ hi)) (hf.up u1) w1 (by rw [u1.nnE]; exact f1)
    rw [u1.nnE] at u2
    exact ⟨f2, u1.trans u2, w2⟩
theorem Turn.p {f : Nat → Tri} {js : List Nat} {M M' : WM} {w w' : Tri} (h : Turn f js M w M' w') : ∀ {k n : Nat}, 95 + js.length ≤ k → n < 256 → colsN n = js → maps_turned.l1 (pl f) k (n : Int) M.m (c3 w) false = some (M'.m, c3 w', false, 0) := by
  induction h with
  | nil =>
    intro k n hk hn hc
    obtain ⟨k, rfl⟩ : ∃ i, k = i + 1 := ⟨k - 1, by omega⟩
    have h0 : n = 0 := by
      refine Decidable.byContradiction fun h0 => ?_
      obtain ⟨a, l, e, _⟩ := tz_step hn h0 0
      rw [e] at hc; cases hc
    subst h0
    rw [maps_turned.l1]; rfl
  | @cons j js M w o0 o1 o2 M1 M' w' h g ih =>
    intro k n hk hn hc
    rw [List.length_cons] at hk
    obtain ⟨k, rfl⟩ : ∃ i, k = i + 1 := ⟨k - 1, by omega⟩
    have h0 : n ≠ 0 := fun h0 => by subst h0; cases hc
    obtain ⟨a, l, e, ha, ht, hl, hb, hlt⟩ := tz_step hn h0 k
    rw [hc] at e
    cases e
    rw [maps_turned.l1, show ((n : Int) != 0) = true by simp [h0], cond_true, ht, Option.bind_some, cond_false, if_pos (by rfl), if_pos (i8 ha), pl_part f ha, Option.bind_some]
    have e2 := h.p (k := k) (by omega)
    unfold c3
    rw [e2, Option.bind_some, if_pos (by rfl)]
    unfold maps_turned.j1
    rw [hb]
    exact ih (by omega) hlt hl
def upd (g : Nat → Tri) (i : Nat) (w : Tri) : Nat → Tri := fun t => if t = i then w else g t
theorem upd_at (g : Nat → Tri) (i : Nat) (w : Tri) : upd g i w i = w := if_pos rfl
theorem upd_upd (g : Nat → Tri) (i : Nat) (u v : Tri) : upd (upd g i u) i v = upd g i v := by funext t; unfold upd; split <;> rfl
theorem upd_self (g : Nat → Tri) (i : Nat) : upd g i (g i) = g := by funext t; unfold upd; split <;> simp_all
theorem pl_upd (g : Nat → Tri) {i : Nat} (hi : i < 8) (w : Tri) : splice (pl g) (0 + (i : Int).toNat * 3) (c3 w) = pl (upd g i w) := pl_splice g w hi
theorem c3l {j : Nat} (hj : j < 8) (g : Nat → Tri) (w : Tri) : 0 + (j : Int).toNat * 3 + (c3 w).length ≤ (pl g).length := by
  rw [pl_len]; unfold c3; simp only [List.length_cons, List.length_nil]; omega
theorem Turn.r {f : Nat → Tri} {a : Nat → Nat} (ha : ∀ i, a i < 256) {i : Nat} (hi : i < 8) {M' : WM} {w' : Tri} : ∀ (d j k : Nat) (g : Nat → Tri) (M : WM), j + d = 8 → 95 + d ≤ k → Turn f (colsF (a i) j) M (g i) M' w' →
    visorref34_Apply.l2 (rows8 a) (pl f) (i : Int) k (absM M.m) (pl g) true (j : Int) = some (absM M'.m, pl (upd g i w'), true) := by
  intro d
  induction d with
  | zero =>
    intro j k g M hj hk h
    obtain rfl : j = 8 := by omega
    obtain ⟨k, rfl⟩ : ∃ i, k = i + 1 := ⟨k - 1, by omega⟩
    rw [colsF_8] at h
    cases h
    rw [visorref34_Apply.l2, upd_self]; rfl
  | succ d ih =>
    intro j k g M hj hk h
    obtain ⟨k, rfl⟩ : ∃ i, k = i + 1 := ⟨k - 1, by omega⟩
    have hj8 : j < 8 := by omega
    rw [colsF_step _ hj8] at h
    rw [visorref34_Apply.l2, lt8d hj8, cond_true, if_pos (by rfl), Bit_m k a ha hi hj8, Option.bind_some]
    cases hb : (a i).testBit j
    · rw [hb, if_neg (by decide)] at h
      rw [Bool.not_false, cond_true]
      unfold visorref34_Apply.j1
      rw [nx8 hj8]
      exact ih (j + 1) k g M (by omega) (by omega) h
    · rw [hb, if_pos rfl] at h
      rw [Bool.not_true, cond_false, cond_true, if_pos (i8 hi), pl_part g hi, Option.bind_some, if_pos (i8 hj8), pl_part f hj8, Option.bind_some]
      generalize hw : g i = w at h
      cases h with
      | @cons _ _ _ _ o0 o1 o2 M1 _ _ h1 h2 =>
        have e := h1.r (k := k) (by omega)
        unfold c3
        rw [e, Option.bind_some, if_pos (i8 hi), if_pos (by rfl)]
        have hl := c3l hi g (o0, o1, o2)
        unfold c3 at hl
        rw [if_pos hl]
        unfold visorref34_Apply.j2 visorref34_Apply.j1
        have hs := pl_upd g hi (o0, o1, o2)
        unfold c3 at hs
        rw [hs, nx8 hj8]
        have := ih (j + 1) k (upd g i (o0, o1, o2)) M1 (by omega) (by omega) (by rw [upd_at]; exact h2)
        rw [upd_upd] at this
        exact this
/-- a row: none of its columns, or all, put together -/
inductive TRow (f : Nat → Tri) (n : Nat) (M M' : WM) (w : Tri) : Prop
  | none : colsN n = [] → PubC M 0 w.1 w.2.1 w.2.2 M' → TRow f n M M' w
  | some {j : Nat} {js : List Nat} : colsN n = j :: js → Turn f js M (f j) M' w → TRow f n M M' w
theorem TRow.ex (f : Nat → Tri) (n : Nat) (M : WM) : ∃ M' w, TRow f n M M' w := by
  cases h : colsN n with
  | nil => obtain ⟨o0, o1, o2, M', g⟩ := PubC.ex M 0; exact ⟨M', (o0, o1, o2), .none h g⟩
  | cons j js => obtain ⟨M', w, g⟩ := Turn.ex f js M (f j); exact ⟨M', w, .some h g⟩
theorem TRow.r {f g : Nat → Tri} {a : Nat → Nat} (ha : ∀ i, a i < 256) {i : Nat} (hi : i < 8) {M M' : WM} {w : Tri} (h : TRow f (a i) M M' w) {k : Nat} (hk : 110 ≤ k) : visorref34_Apply.l1 (rows8 a) (pl f) (k + 1) (absM M.m) (pl g) (i : Int) = visorref34_Apply.l1 (rows8 a) (pl f) k (absM M'.m) (pl (upd g i w)) ((i + 1 : Nat) : Int) := by
  have none : ∀ (d j k : Nat), j + d = 8 → d < k → colsF (a i) j = [] → visorref34_Apply.l2 (rows8 a) (pl f) (i : Int) k (absM M.m) (pl g) false (j : Int) = Option.some (absM M.m, pl g, false) := by
    intro d
    induction d with
    | zero =>
      intro j k hj hk _
      obtain rfl : j = 8 := by omega
      obtain ⟨k, rfl⟩ : ∃ i, k = i + 1 := ⟨k - 1, by omega⟩
      rw [visorref34_Apply.l2]; rfl
    | succ d ih =>
      intro j k hj hk h
      obtain ⟨k, rfl⟩ : ∃ i, k = i + 1 := ⟨k - 1, by omega⟩
      have hj8 : j < 8 := by omega
      rw [colsF_step _ hj8] at h
      rw [visorref34_Apply.l2, lt8d hj8, cond_true, if_pos (by rfl), Bit_m k a ha hi hj8, Option.bind_some]
      cases hb : (a i).testBit j
      · rw [hb, if_neg (by decide)] at h
        rw [Bool.not_false, cond_true]
        unfold visorref34_Apply.j1
        rw [nx8 hj8]
        exact ih (j + 1) k (by omega) (by omega) h
      · rw [hb, if_pos rfl] at h; cases h
  have some : ∀ (d j k t : Nat) (js : List Nat), j + d = 8 → 95 + d ≤ k → colsF (a i) j = t :: js → Turn f js M (f t) M' w → visorref34_Apply.l2 (rows8 a) (pl f) (i : Int) k (absM M.m) (pl g) false (j : Int) = Option.some (absM M'.m, pl (upd g i w), true) := by
    intro d
    induction d with
    | zero =>
      intro j k t js hj hk h
      obtain rfl : j = 8 := by omega
      rw [colsF_8] at h; cases h
    | succ d ih =>
      intro j k t js hj hk h hT
      obtain ⟨k, rfl⟩ : ∃ i, k = i + 1 := ⟨k - 1, by omega⟩
      have hj8 : j < 8 := by omega
      rw [colsF_step _ hj8] at h
      rw [visorref34_Apply.l2, lt8d hj8, cond_true, if_pos (by rfl), Bit_m k a ha hi hj8, Option.bind_some]
      cases hb : (a i).testBit j
      · rw [hb, if_neg (by decide)] at h
        rw [Bool.not_false, cond_true]
        unfold visorref34_Apply.j1
        rw [nx8 hj8]
        exact ih (j + 1) k t js (by omega) (by omega) h hT
      · rw [hb, if_pos rfl] at h
        cases h
        rw [Bool.not_true, cond_false, cond_false, if_pos (i8 hj8), pl_part f hj8, Option.bind_some, if_pos (i8 hi), if_pos (c3l hi g _)]
        unfold visorref34_Apply.j2 visorref34_Apply.j1
        rw [pl_upd g hi, nx8 hj8]
        have := Turn.r (f := f) ha hi d (j + 1) k (upd g i (f j)) M (by omega) (by omega) (by rw [upd_at]; exact hT)
        rw [upd_upd] at this
        exact this
  rw [visorref34_Apply.l1, lt8d hi, cond_true]
  cases h with
  | none h1 h2 =>
    rw [show (0 : Int) = ((0 : Nat) : Int) from rfl, none 8 0 k (by omega) (by omega) h1, Option.bind_some]
    dsimp only
    have e := h2.r (k := k) (by omega) isW_zero
    rw [Bool.not_false, cond_true]
    rw [show ((0 : Nat) : Int) = 0 from rfl, e, Option.bind_some, if_pos (i8 hi), if_pos (by rfl)]
    have hl := c3l hi g w
    unfold c3 at hl
    rw [if_pos hl]
    unfold visorref34_Apply.j3
    have hs := pl_upd g hi w
    unfold c3 at hs
    rw [hs, nx8 hi]
  | some h1 h2 =>
    rw [show (0 : Int) = ((0 : Nat) : Int) from rfl, some 8 0 k _ _ (by omega) (by omega) h1 h2, Option.bind_some]
    dsimp only
    rw [Bool.not_true, cond_false]
    unfold visorref34_Apply.j3
    rw [nx8 hi]
theorem TRow.p {f g : Nat → Tri} {a : Nat → Nat} (ha : ∀ i, a i < 256) {i : Nat} (hi : i < 8) {M M' : WM} {w : Tri} (h : TRow f (a i) M M' w) {k : Nat} (hk : 110 ≤ k) : maps_Apply.l1 (rows8 a) (pl f) (k + 1) M.m (pl g) (i : Int) = maps_Apply.l1 (rows8 a) (pl f) k M'.m (pl (upd g i w)) ((i + 1 : Nat) : Int) := by
  have e : maps_turned.m k M.m ((a i : Nat) : Int) (pl f) = Option.some (c3 w, M'.m) := by
    unfold maps_turned.m
    cases h with
    | none h1 h2 =>
      have h0 : a i = 0 := by
        refine Decidable.byContradiction fun h0 => ?_
        obtain ⟨_, _, e, _⟩ := tz_step (ha i) h0 0
        rw [e] at h1; cases h1
      rw [h0, show (((0 : Nat) : Int) == 0) = true from rfl, cond_true, h2.p (k := k) (by omega) isW_zero, Option.bind_some, if_pos (by rfl)]; rfl
    | @some j js h1 h2 =>
      have h0 : a i ≠ 0 := fun h0 => by rw [h0] at h1; cases h1
      obtain ⟨k, rfl⟩ : ∃ i, k = i + 1 := ⟨k - 1, by omega⟩
      obtain ⟨b, l, e, hb, ht, hl, hbd, hlt⟩ := tz_step (ha i) h0 k
      rw [h1] at e
      cases e
      have hlen : js.length ≤ 8 := by
        have : (colsN (a i)).length ≤ 8 := List.length_filter_le _ _
        rw [h1] at this; simp at this; omega
      rw [show (((a i : Nat) : Int) == 0) = false by simp [h0], cond_false, maps_turned.l1, show (((a i : Nat) : Int) != 0) = true by simp [h0], cond_true, ht, Option.bind_some, cond_true, if_pos (i8 hb), pl_part f hb, Option.bind_some, if_pos (by rfl)]
      unfold maps_turned.j1
      rw [hbd, h2.p (by omega) hlt hl, Option.bind_some]
      dsimp only
      rw [if_pos (by rfl)]
  rw [maps_Apply.l1, lt8d hi, cond_true, if_pos (i8 hi), rows8_get' a hi, Option.bind_some, if_pos (pl_len f), e, Option.bind_some, if_pos (i8 hi), if_pos (by rfl), if_pos (c3l hi g w), pl_upd g hi, nx8 hi]
/-! Rows of a matrix, one by one; how many ops it takes. -/
def rowC (c : Nat) : Nat := if (colsN c).length = 0 then 1 else (colsN c).length - 1
theorem TRow.w {f : Nat → Tri} {n : Nat} {M M' : WM} {w : Tri} (h : TRow f n M M' w) {x : Nat → BitVec 64} {q : Nat} (hf : PlF M f x) (fi : Fine M false 0 (q + rowC n * nn M)) : Fine M' false 0 q ∧ Up M M' (rowC n * nn M) ∧ Wd3 M' w (xsum x (colsN n) 0#64) := by
  cases h with
  | none h1 h2 =>
    unfold rowC at fi ⊢
    rw [h1, List.length_nil, if_pos rfl, Nat.one_mul] at fi
    rw [h1, List.length_nil, if_pos rfl, Nat.one_mul]
    exact h2.w fi
  | @some j js h1 h2 =>
    unfold rowC at fi ⊢
    have hl : ∀ i ∈ j :: js, i < 8 := by rw [← h1, colsN_F]; exact colsF_lt n 0
    rw [h1, List.length_cons, if_neg (by omega), Nat.add_sub_cancel] at fi
    rw [h1, List.length_cons, if_neg (by omega), Nat.add_sub_cancel]
    have e : xsum x (j :: js) 0#64 = xsum x js (x j) := by unfold xsum; rw [List.foldl_cons, BitVec.zero_xor]
    rw [e]
    exact h2.w (fun i hi => hl i (List.mem_cons_of_mem _ hi)) hf (hf j (hl j (List.mem_cons_self ..))) fi
def rowsC (a : Nat → Nat) : Nat → Nat
  | 0 => 0
  | i + 1 => rowsC a i + rowC (a i)
theorem Apply_l {a : Nat → Nat} (ha : ∀ i, a i < 256) {f : Nat → Tri} {x : Nat → BitVec 64} : ∀ (d i : Nat) (M : WM) (g : Nat → Tri) (q : Nat), i + d = 8 → PlF M f x → (∀ j, j < i → Wd3 M (g j) (xsum x (colsN (a j)) 0#64)) → Fine M false 0 (q + (rowsC a 8 - rowsC a i) * nn M) → rowsC a i ≤ rowsC a 8 →
    ∃ f' M', (∀ k, 111 + d ≤ k → maps_Apply.l1 (rows8 a) (pl f) k M.m (pl g) (i : Int) = some (pl f', M'.m)) ∧ (∀ k, 111 + d ≤ k → visorref34_Apply.l1 (rows8 a) (pl f) k (absM M.m) (pl g) (i : Int) = some (pl f', absM M'.m)) ∧
      Fine M' false 0 q ∧ Up M M' ((rowsC a 8 - rowsC a i) * nn M) ∧ PlF M' f' (fun j => xsum x (colsN (a j)) 0#64) := by
  intro d
  induction d with
  | zero =>
    intro i M g q hi hf hg fi _
    obtain rfl : i = 8 := by omega
    rw [Nat.sub_self, Nat.zero_mul] at fi ⊢
    refine ⟨g, M, fun k hk => ?_, fun k hk => ?_, fi, .refl _, hg⟩
    · obtain ⟨k, rfl⟩ : ∃ i, k = i + 1 := ⟨k - 1, by omega⟩
      rw [maps_Apply.l1]; rfl
    · obtain ⟨k, rfl⟩ : ∃ i, k = i + 1 := ⟨k - 1, by omega⟩
      rw [visorref34_Apply.l1]; rfl
  | succ d ih =>
    intro i M g q hi hf hg fi hle
    obtain ⟨M1, w, h⟩ := TRow.ex f (a i) M
    have mono : ∀ d, rowsC a (i + 1) ≤ rowsC a (i + 1 + d) := by
      intro d
      induction d with
      | zero => exact Nat.le_refl _
      | succ d ih => exact Nat.le_trans ih (Nat.le_add_right _ _)
    have hm := mono d
    rw [show i + 1 + d = 8 by omega] at hm
    have hs : rowsC a (i + 1) = rowsC a i + rowC (a i) := rfl
    have e : (rowsC a 8 - rowsC a i) * nn M = rowC (a i) * nn M + (rowsC a 8 - rowsC a (i + 1)) * nn M := by rw [← Nat.add_mul]; congr 1; omega
    rw [e] at fi ⊢
    obtain ⟨f1, u1, w1⟩ := h.w (q := q + (rowsC a 8 - rowsC a (i + 1)) * nn M) hf (by rw [Nat.add_assoc, Nat.add_comm ((rowsC a 8 - rowsC a (i + 1)) * nn M)]; exact fi)
    obtain ⟨f', M', h1, h2, h3, h4, h5⟩ := ih (i + 1) M1 (upd g i w) q (by omega) (hf.up u1) (fun j hj => by
      unfold upd
      by_cases hji : j = i
      · subst hji; rw [if_pos rfl]; exact w1
      · rw [if_neg hji]; exact (hg j (by omega)).up u1) (by rw [u1.nnE]; exact f1) hm
    rw [u1.nnE] at h4
    refine ⟨f', M', fun k hk => ?_, fun k hk => ?_, h3, u1.trans h4, h5⟩
    · obtain ⟨k, rfl⟩ : ∃ i, k = i + 1 := ⟨k - 1, by omega⟩
      rw [h.p (g := g) ha (by omega) (by omega)]
      exact h1 k (by omega)
    · obtain ⟨k, rfl⟩ : ∃ i, k = i + 1 := ⟨k - 1, by omega⟩
      rw [h.r (g := g) ha (by omega) (by omega)]
      exact h2 k (by omega)
theorem zW_pl : ([ci 0, ci 0, ci 0, ci 0, ci 0, ci 0, ci 0, ci 0, ci 0, ci 0, ci 0, ci 0, ci 0, ci 0, ci 0, ci 0, ci 0, ci 0, ci 0, ci 0, ci 0, ci 0, ci 0, ci 0] : Cells) = pl zW := rfl
theorem Apply_b {a : Nat → Nat} (ha : ∀ i, a i < 256) {f : Nat → Tri} {x : Nat → BitVec 64} (M : WM) (q : Nat) (hf : PlF M f x) (fi : Fine M false 0 (q + rowsC a 8 * nn M)) :
    ∃ f' M', (∀ k, 120 ≤ k → maps_Apply.m k M.m (rows8 a) (pl f) = some (pl f', M'.m)) ∧ (∀ k, 120 ≤ k → visorref34_Apply.m k (absM M.m) (rows8 a) (pl f) = some (pl f', absM M'.m)) ∧
      Fine M' false 0 q ∧ Up M M' (rowsC a 8 * nn M) ∧ PlF M' f' (fun j => xsum x (colsN (a j)) 0#64) := by
  obtain ⟨f', M', h1, h2, h3, h4, h5⟩ := Apply_l ha (f := f) (x := x) 8 0 M zW q (by omega) hf (fun j hj => by omega) fi (Nat.zero_le _)
  refine ⟨f', M', fun k hk => ?_, fun k hk => ?_, h3, h4, h5⟩
  · unfold maps_Apply.m
    rw [if_pos (by rfl), zW_pl, show (0 : Int) = ((0 : Nat) : Int) from rfl, h1 k (by omega), Option.bind_some]
    dsimp only
    rw [if_pos (pl_len _)]
  · unfold visorref34_Apply.m
    rw [zW_pl, show (0 : Int) = ((0 : Nat) : Int) from rfl, h2 k (by omega), Option.bind_some]
    dsimp only
    rw [if_pos (pl_len _)]
def ocOk (n : Nat) : Bool := bits_OnesCount8.m 0 (n : Int) == some (((colsN n).length : Nat) : Int)
theorem oc_all : (List.range 256).all ocOk = true := by kernel_rfl
theorem oc_m {n : Nat} (h : n < 256) (k : Nat) : bits_OnesCount8.m k (n : Int) = some (((colsN n).length : Nat) : Int) := eq_of_beq (List.all_eq_true.1 oc_all n (List.mem_range.2 h))
theorem colsN_le (n : Nat) : (colsN n).length ≤ 8 := List.length_filter_le _ _
theorem rowC_le (n : Nat) : rowC n ≤ 8 := by unfold rowC; have := colsN_le n; split <;> omega
theorem rowsC_le (a : Nat → Nat) : ∀ i, rowsC a i ≤ 8 * i
  | 0 => Nat.le_refl _
  | i + 1 => by have := rowsC_le a i; have := rowC_le (a i); unfold rowsC; omega
theorem mOps_l {a : Nat → Nat} (ha : ∀ i, a i < 256) : ∀ (d i k : Nat), i + d = 8 → d < k → maps_Ops.l1 (rows8 a) k ((rowsC a i : Nat) : Int) (i : Int) = some ((rowsC a 8 : Nat) : Int)
  | 0, i, k, hi, hk => by
    obtain rfl : i = 8 := by omega
    obtain ⟨k, rfl⟩ : ∃ i, k = i + 1 := ⟨k - 1, by omega⟩
    rw [maps_Ops.l1]; rfl
  | d + 1, i, k, hi, hk => by
    obtain ⟨k, rfl⟩ : ∃ i, k = i + 1 := ⟨k - 1, by omega⟩
    have h8 : i < 8 := by omega
    have hr := rowsC_le a i
    have hc := colsN_le (a i)
    have hs : rowsC a (i + 1) = rowsC a i + rowC (a i) := rfl
    have ih := mOps_l ha d (i + 1) k (by omega) (by omega)
    rw [maps_Ops.l1, lt8d h8, cond_true, if_pos (i8 h8), rows8_get' a h8, Option.bind_some, oc_m (ha i), Option.bind_some]
    unfold maps_Ops.j1
    unfold rowC at hs
    by_cases h0 : (colsN (a i)).length = 0
    · rw [h0, show (((0 : Nat) : Int) == 0) = true from rfl, cond_true, nx8 h8, show IntKind.i64.wrap (2 - 1) = 1 by decide, wrapI (by omega) (by omega)]
      rw [if_pos h0] at hs
      rw [show ((rowsC a i : Nat) : Int) + 1 = ((rowsC a (i + 1) : Nat) : Int) by omega]; exact ih
    · rw [show ((((colsN (a i)).length : Nat) : Int) == 0) = false by simpa using h0, cond_false, nx8 h8, wrapI (x := _ - 1) (by omega) (by omega), wrapI (by omega) (by omega)]
      rw [if_neg h0] at hs
      rw [show ((rowsC a i : Nat) : Int) + ((((colsN (a i)).length : Nat) : Int) - 1) = ((rowsC a (i + 1) : Nat) : Int) by omega]; exact ih
theorem mOps_m {a : Nat → Nat} (ha : ∀ i, a i < 256) (n : Nat) (hn : n ≤ 3) (k : Nat) (hk : 10 ≤ k) : maps_Ops.m k (rows8 a) (n : Int) = some ((rowsC a 8 * n : Nat) : Int) := by
  have := rowsC_le a 8
  have hm : rowsC a 8 * n ≤ 64 * 3 := Nat.mul_le_mul this hn
  unfold maps_Ops.m
  rw [if_pos (by rfl), show (0 : Int) = ((rowsC a 0 : Nat) : Int) from rfl, show ((rowsC a 0 : Nat) : Int) = ((0 : Nat) : Int) from rfl]
  rw [show maps_Ops.l1 (rows8 a) k ((0 : Nat) : Int) ((0 : Nat) : Int) = some ((rowsC a 8 : Nat) : Int) from mOps_l ha 8 0 k (by omega) (by omega), Option.bind_some, show ((rowsC a 8 : Nat) : Int) * (n : Int) = ((rowsC a 8 * n : Nat) : Int) by simp, wrapI (by omega) (by omega)]
theorem rOps_in {a : Nat → Nat} (ha : ∀ i, a i < 256) {i : Nat} (hi : i < 8) : ∀ (d j k z : Nat), j + d = 8 → d < k → z + (colsF (a i) j).length ≤ 1000 → visorref34_Ops.l2 (rows8 a) (i : Int) k (z : Int) (j : Int) = some ((z + (colsF (a i) j).length : Nat) : Int)
  | 0, j, k, z, hj, hk, _ => by
    obtain rfl : j = 8 := by omega
    obtain ⟨k, rfl⟩ : ∃ i, k = i + 1 := ⟨k - 1, by omega⟩
    rw [visorref34_Ops.l2]; rfl
  | d + 1, j, k, z, hj, hk, hz => by
    obtain ⟨k, rfl⟩ : ∃ i, k = i + 1 := ⟨k - 1, by omega⟩
    have h8 : j < 8 := by omega
    rw [colsF_step _ h8] at hz ⊢
    rw [visorref34_Ops.l2, lt8d h8, cond_true, if_pos (by rfl), Bit_m k a ha hi h8, Option.bind_some]
    unfold visorref34_Ops.j1
    cases hb : (a i).testBit j
    · rw [hb, if_neg (by decide)] at hz
      rw [cond_false, nx8 h8, if_neg (by decide)]
      exact rOps_in ha hi d (j + 1) k z (by omega) (by omega) hz
    · rw [hb, if_pos rfl, List.length_cons] at hz
      rw [cond_true, nx8 h8, if_pos rfl, wrapI (by omega) (by omega), List.length_cons, show (z : Int) + 1 = ((z + 1 : Nat) : Int) by omega]
      rw [rOps_in ha hi d (j + 1) k (z + 1) (by omega) (by omega) (by omega)]
      congr 2; omega
theorem rOps_l {a : Nat → Nat} (ha : ∀ i, a i < 256) (n : Nat) (hn : n ≤ 3) : ∀ (d i k : Nat), i + d = 8 → 10 + d < k → visorref34_Ops.l1 (rows8 a) (n : Int) k ((rowsC a i * n : Nat) : Int) (i : Int) = some ((rowsC a 8 * n : Nat) : Int)
  | 0, i, k, hi, hk => by
    obtain rfl : i = 8 := by omega
    obtain ⟨k, rfl⟩ : ∃ i, k = i + 1 := ⟨k - 1, by omega⟩
    rw [visorref34_Ops.l1]; rfl
  | d + 1, i, k, hi, hk => by
    obtain ⟨k, rfl⟩ : ∃ i, k = i + 1 := ⟨k - 1, by omega⟩
    have h8 : i < 8 := by omega
    have hr : rowsC a i * n ≤ 64 * 3 := Nat.mul_le_mul (Nat.le_trans (rowsC_le a i) (by omega)) hn
    have hc := colsN_le (a i)
    have hs : rowsC a (i + 1) * n = rowsC a i * n + rowC (a i) * n := Nat.add_mul ..
    have ih := rOps_l ha n hn d (i + 1) k (by omega) (by omega)
    rw [visorref34_Ops.l1, lt8d h8, cond_true, show (0 : Int) = ((0 : Nat) : Int) from rfl, rOps_in ha h8 8 0 k 0 (by omega) (by omega) (by rw [← colsN_F]; omega), Option.bind_some, Nat.zero_add, ← colsN_F]
    unfold visorref34_Ops.j2
    unfold rowC at hs
    by_cases h0 : (colsN (a i)).length = 0
    · rw [h0, show (((0 : Nat) : Int) == ((0 : Nat) : Int)) = true from rfl, cond_true, nx8 h8, wrapI (by omega) (by omega)]
      rw [if_pos h0, Nat.one_mul] at hs
      rw [show ((rowsC a i * n : Nat) : Int) + n = ((rowsC a (i + 1) * n : Nat) : Int) by omega]; exact ih
    · rw [if_neg h0] at hs
      have hp : n * ((colsN (a i)).length - 1) ≤ 3 * 8 := Nat.mul_le_mul hn (by omega)
      have e : (n : Int) * ((((colsN (a i)).length : Nat) : Int) - 1) = ((n * ((colsN (a i)).length - 1) : Nat) : Int) := by
        rw [show (((colsN (a i)).length : Nat) : Int) - 1 = (((colsN (a i)).length - 1 : Nat) : Int) by omega]; simp
      rw [show ((((colsN (a i)).length : Nat) : Int) == ((0 : Nat) : Int)) = false by simpa using h0, cond_false, nx8 h8, wrapI (x := (((colsN (a i)).length : Nat) : Int) - 1) (by omega) (by omega), e, wrapI (x := ((n * ((colsN (a i)).length - 1) : Nat) : Int)) (by omega) (by omega), wrapI (by omega) (by omega)]
      rw [Nat.mul_comm n] at e ⊢
      rw [show ((rowsC a i * n : Nat) : Int) + (((((colsN (a i)).length - 1) * n) : Nat) : Int) = ((rowsC a (i + 1) * n : Nat) : Int) by omega]; exact ih
theorem rOps_m {a : Nat → Nat} (ha : ∀ i, a i < 256) (n : Nat) (hn : n ≤ 3) (k : Nat) (hk : 20 ≤ k) : visorref34_Ops.m k (rows8 a) (n : Int) = some ((rowsC a 8 * n : Nat) : Int) := by
  unfold visorref34_Ops.m
  have := rOps_l ha n hn 8 0 k (by omega) (by omega)
  rw [show ((rowsC a 0 * n : Nat) : Int) = 0 by show ((0 * n : Nat) : Int) = 0; rw [Nat.zero_mul]; rfl] at this
  rw [show (0 : Int) = ((0 : Nat) : Int) from rfl] at this ⊢
  rw [this]; rfl
/-! Planes that are marked. -/
inductive Mrk (l : Int) : List Nat → WM → (Nat → Tri) → WM → (Nat → Tri) → Prop
  | nil {M : WM} {g : Nat → Tri} : Mrk l [] M g M g
  | cons {j : Nat} {js : List Nat} {M M1 M' : WM} {g g' : Nat → Tri} {o0 o1 o2 : Int} : AdC M 3 (g j).1 (g j).2.1 (g j).2.2 l o0 o1 o2 M1 → Mrk l js M1 (upd g j (o0, o1, o2)) M' g' → Mrk l (j :: js) M g M' g'
theorem Mrk.ex (l : Int) : ∀ (js : List Nat) (M : WM) (g : Nat → Tri), ∃ M' g', Mrk l js M g M' g'
  | [], M, g => ⟨M, g, .nil⟩
  | j :: js, M, g => by
    obtain ⟨o0, o1, o2, M1, h⟩ := AdC.ex M 3 (g j).1 (g j).2.1 (g j).2.2 l
    obtain ⟨M', g', h2⟩ := Mrk.ex l js M1 (upd g j (o0, o1, o2))
    exact ⟨M', g', .cons h h2⟩
theorem Mrk.w {l : Int} {js : List Nat} {M M' : WM} {g g' : Nat → Tri} (h : Mrk l js M g M' g') : ∀ {x : Nat → BitVec 64} {q : Nat}, (∀ j ∈ js, j < 8) → js.Nodup → PlF M g x → Fine M false 0 (q + 2 * js.length) →
    Fine M' false 0 q ∧ Up M M' (2 * js.length) ∧ PlF M' g' (fun j => if j ∈ js then x j ^^^ BitVec.ofInt 64 l else x j) := by
  induction h with
  | nil => intro x q _ _ hg f; exact ⟨f, .refl _, fun j hj => by dsimp only; rw [if_neg (by simp)]; exact hg j hj⟩
  | @cons j js M M1 M' g g' o0 o1 o2 h h2 ih =>
    intro x q hj hnd hg f
    rw [List.length_cons] at f ⊢
    obtain ⟨f1, u1, w1⟩ := h.w (q := q + 2 * js.length) (hg j (hj j (List.mem_cons_self ..))) (by rw [show q + 2 * js.length + 2 = q + 2 * (js.length + 1) by omega]; exact f)
    rw [List.nodup_cons] at hnd
    obtain ⟨f2, u2, w2⟩ := ih (x := fun i => if i = j then x i ^^^ BitVec.ofInt 64 l else x i) (fun i hi => hj i (List.mem_cons_of_mem _ hi)) hnd.2 (fun i hi => by
      unfold upd
      dsimp only
      by_cases hij : i = j
      · subst hij; rw [if_pos rfl, if_pos rfl]; exact w1
      · rw [if_neg hij, if_neg hij]; exact (hg i hi).up u1) f1
    refine ⟨f2, (u1.trans u2).cast (by omega), fun i hi => ?_⟩
    have := w2 i hi
    dsimp only at this ⊢
    by_cases hij : i = j
    · subst hij
      rw [if_neg hnd.1, if_pos rfl] at this
      rw [if_pos (List.mem_cons_self ..)]; exact this
    · rw [if_neg hij] at this
      by_cases hm : i ∈ js
      · rw [if_pos hm] at this; rw [if_pos (List.mem_cons_of_mem _ hm)]; exact this
      · rw [if_neg hm] at this; rw [if_neg (by simp [hij, hm])]; exact this
theorem Mrk.p {l : Int} (hl : IsW l) {js : List Nat} {M M' : WM} {g g' : Nat → Tri} (h : Mrk l js M g M' g') : ∀ {k n : Nat}, 95 + js.length ≤ k → n < 256 → colsN n = js → maps_Mark.l1 l k (n : Int) M.m (pl g) = some (M'.m, pl g', 0) := by
  induction h with
  | nil =>
    intro k n hk hn hc
    obtain ⟨k, rfl⟩ : ∃ i, k = i + 1 := ⟨k - 1, by omega⟩
    have h0 : n = 0 := by
      refine Decidable.byContradiction fun h0 => ?_
      obtain ⟨a, l, e, _⟩ := tz_step hn h0 0
      rw [e] at hc; cases hc
    subst h0
    rw [maps_Mark.l1]; rfl
  | @cons j js M M1 M' g g' o0 o1 o2 h h2 ih =>
    intro k n hk hn hc
    rw [List.length_cons] at hk
    obtain ⟨k, rfl⟩ : ∃ i, k = i + 1 := ⟨k - 1, by omega⟩
    have h0 : n ≠ 0 := fun h0 => by subst h0; cases hc
    obtain ⟨a, l', e, ha, ht, hl', hb, hlt⟩ := tz_step hn h0 k
    rw [hc] at e
    cases e
    have e2 := h.p (k := k) (by omega) hl
    have hle := c3l ha g (o0, o1, o2)
    have hs := pl_upd g ha (o0, o1, o2)
    rw [maps_Mark.l1, show ((n : Int) != 0) = true by simp [h0], cond_true, ht, Option.bind_some, if_pos (i8 ha), pl_part g ha, Option.bind_some]
    unfold c3 at hle hs ⊢
    rw [e2, Option.bind_some, if_pos (i8 ha), if_pos (by rfl), if_pos hle, hs, hb]
    exact ih (by omega) hlt hl'
theorem Mrk.r {l : Int} (hl : IsW l) {c : Nat} (hc : c < 256) {M' : WM} {g' : Nat → Tri} : ∀ (d j k : Nat) (g : Nat → Tri) (M : WM), j + d = 8 → 95 + d ≤ k → Mrk l (colsF c j) M g M' g' → visorref34_Mark.l1 (c : Int) l k (absM M.m) (pl g) (j : Int) = some (pl g', absM M'.m) := by
  intro d
  induction d with
  | zero =>
    intro j k g M hj hk h
    obtain rfl : j = 8 := by omega
    obtain ⟨k, rfl⟩ : ∃ i, k = i + 1 := ⟨k - 1, by omega⟩
    rw [colsF_8] at h
    cases h
    rw [visorref34_Mark.l1]; rfl
  | succ d ih =>
    intro j k g M hj hk h
    obtain ⟨k, rfl⟩ : ∃ i, k = i + 1 := ⟨k - 1, by omega⟩
    have hj8 : j < 8 := by omega
    rw [colsF_step _ hj8] at h
    rw [visorref34_Mark.l1, lt8d hj8, cond_true, wrap_u64_8 (by omega), if_pos (by omega), bit_at hc hj8]
    unfold visorref34_Mark.j1
    rw [nx8 hj8]
    cases hb : c.testBit j
    · rw [hb, if_neg (by decide)] at h
      rw [cond_false]
      exact ih (j + 1) k g M (by omega) (by omega) h
    · rw [hb, if_pos rfl] at h
      rw [cond_true]
      cases h with
      | @cons _ _ _ M1 _ _ _ o0 o1 o2 h1 h2 =>
        have e2 := h1.r (k := k) (by omega) hl
        have hle := c3l hj8 g (o0, o1, o2)
        have hs := pl_upd g hj8 (o0, o1, o2)
        rw [if_pos (i8 hj8), pl_part g hj8, Option.bind_some]
        unfold c3 at hle hs ⊢
        rw [e2, Option.bind_some, if_pos (i8 hj8), if_pos (by rfl), if_pos hle, hs]
        exact ih (j + 1) k _ M1 (by omega) (by omega) h2
theorem Mark_b {l : Int} (hl : IsW l) {c : Nat} (hc : c < 256) {g : Nat → Tri} {x : Nat → BitVec 64} (M : WM) (q : Nat) (hg : PlF M g x) (fi : Fine M false 0 (q + 2 * (colsN c).length)) :
    ∃ g' M', (∀ k, 120 ≤ k → maps_Mark.m k M.m (pl g) (c : Int) l = some (pl g', M'.m)) ∧ (∀ k, 120 ≤ k → visorref34_Mark.m k (absM M.m) (pl g) (c : Int) l = some (pl g', absM M'.m)) ∧ Fine M' false 0 q ∧ Up M M' (2 * (colsN c).length) ∧
      PlF M' g' (fun j => if c.testBit j = true then x j ^^^ BitVec.ofInt 64 l else x j) := by
  obtain ⟨M', g', h⟩ := Mrk.ex l (colsN c) M g
  have hle := colsN_le c
  have hlt : ∀ j ∈ colsN c, j < 8 := by rw [colsN_F]; exact colsF_lt c 0
  obtain ⟨f', u, w⟩ := h.w hlt (List.nodup_range.filter _) hg fi
  refine ⟨g', M', fun k hk => ?_, fun k hk => ?_, f', u, fun j hj => ?_⟩
  · unfold maps_Mark.m
    rw [h.p hl (k := k) (by omega) hc rfl, Option.bind_some]
    dsimp only
    rw [if_pos (pl_len _)]
  · unfold visorref34_Mark.m
    rw [show (0 : Int) = ((0 : Nat) : Int) from rfl, Mrk.r hl hc 8 0 k g M (by omega) (by omega) h, Option.bind_some]
    dsimp only
    rw [if_pos (pl_len _)]
  · have := w j hj
    dsimp only at this ⊢
    have e : (j ∈ colsN c) ↔ c.testBit j = true := by
      unfold colsN
      rw [List.mem_filter, List.mem_range]; exact ⟨fun h => h.2, fun h => ⟨hj, h⟩⟩
    by_cases hb : c.testBit j = true
    · rw [if_pos (e.2 hb)] at this; rw [if_pos hb]; exact this
    · rw [if_neg (fun h => hb (e.1 h))] at this; rw [if_neg hb]; exact this
/-! Lane by lane: what a matrix makes of bytes. -/
theorem wrap_u8_of {z : Nat} (h : z < 256) : IntKind.u8.wrap (z : Int) = (z : Int) := by
  have : ∀ z : Fin 256, IntKind.u8.wrap ((z : Nat) : Int) = ((z : Nat) : Int) := by decide +kernel
  exact this ⟨z, h⟩
theorem bxor_u8 {x y : Nat} (hx : x < 256) (hy : y < 256) : bxor .u8 (x : Int) (y : Int) = ((x ^^^ y : Nat) : Int) := by
  have h : x ^^^ y < 2 ^ 8 := Nat.xor_lt_two_pow (by omega) (by omega)
  unfold bxor
  rw [show IntKind.u8.bits = 8 from rfl, BitVec.toNat_xor, show BitVec.ofInt 8 (x : Int) = BitVec.ofNat 8 x from BitVec.ofInt_natCast .., show BitVec.ofInt 8 (y : Int) = BitVec.ofNat 8 y from BitVec.ofInt_natCast .., BitVec.toNat_ofNat, BitVec.toNat_ofNat, Nat.mod_eq_of_lt (by omega), Nat.mod_eq_of_lt (by omega)]
  exact wrap_u8_of (by omega)
theorem bitN_test (e q : Nat) : bitN e q = (e.testBit q).toNat := by
  unfold bitN
  rw [Nat.testBit_eq_decide_div_mod_eq]
  have := Nat.mod_lt (e / 2 ^ q) (show 2 > 0 by omega)
  by_cases h : e / 2 ^ q % 2 = 1
  · rw [h, decide_eq_true rfl]; rfl
  · rw [decide_eq_false h]; show _ = 0; omega
theorem bitN_bv (v : BitVec 64) (i : Nat) : bitN v.toNat i = (v.getLsbD i).toNat := bitN_test _ _
def odd8 (js : List Nat) (b : Nat) : Bool := js.foldl (fun z j => z ^^ b.testBit j) false
theorem xsum_lane (x : Nat → BitVec 64) (i : Nat) : ∀ (js : List Nat) (y : BitVec 64), (xsum x js y).getLsbD i = js.foldl (fun z j => z ^^ (x j).getLsbD i) (y.getLsbD i)
  | [], _ => rfl
  | j :: js, y => by
    have := xsum_lane x i js (y ^^^ x j)
    rw [BitVec.getLsbD_xor] at this
    exact this
def byt (b : List Int) (i : Nat) : Nat := ((b[i]?).getD 0).toNat
theorem bw_lane (b : List Int) (hl : b.length ≤ 64) (i j : Nat) : (bw b j).getLsbD i = (byt b i).testBit j := by
  have ht : b.take 64 = b := List.take_of_length_le hl
  have h : bitN (bw b j).toNat i = bitN (byt b i) j := by
    rw [bw_nat]
    unfold wd byt
    rw [ht]
    by_cases hi : i < b.length
    · exact bit_plane b j i _ hi
    · rw [List.getElem?_eq_none (by omega)]
      have h1 := P33_lt b j b.length
      have h2 : 2 ^ b.length ≤ 2 ^ i := Nat.pow_le_pow_right (by decide) (by omega)
      unfold bitN
      rw [Nat.div_eq_of_lt (by omega)]; simp
  rw [bitN_bv, bitN_test] at h
  cases h1 : (bw b j).getLsbD i <;> cases h2 : (byt b i).testBit j <;> rw [h1, h2] at h <;> first | rfl | cases h
/-- a byte, turned -/
def mat8 (a : Nat → Nat) (e : Nat) : Nat := B33 (fun r => (odd8 (colsN (a r)) e).toNat) 0 8
theorem B33_two {f g : Nat → Nat} {p q : Nat} : ∀ n, (∀ j, j < n → bitN (f j) p = bitN (g j) q) → B33 f p n = B33 g q n
  | 0, _ => rfl
  | n + 1, h => by
    show B33 f p n + bitN (f n) p * 2 ^ n = B33 g q n + bitN (g n) q * 2 ^ n
    rw [B33_two n (fun j hj => h j (by omega)), h n (by omega)]
theorem bit01 (c : Bool) : bitN c.toNat 0 = c.toNat := by cases c <;> rfl
theorem lane_mat (a : Nat → Nat) (b : List Int) (hl : b.length ≤ 64) (i : Nat) : B33 (fun j => (xsum (bw b) (colsN (a j)) 0#64).toNat) i 8 = mat8 a (byt b i) := by
  refine B33_two 8 fun j _ => ?_
  rw [bitN_bv, xsum_lane, bit01]
  unfold odd8
  rw [show (0#64 : BitVec 64).getLsbD i = false by simp]
  congr 1
  generalize false = z
  induction colsN (a j) generalizing z with
  | nil => rfl
  | cons t l ih => rw [List.foldl_cons, List.foldl_cons, bw_lane b hl]; exact ih _
theorem B33_bit (f : Nat → Nat) (p : Nat) : ∀ n j, j < n → bitN (B33 f p n) j = bitN (f j) p
  | n + 1, j, h => by
    have hb := bitN_lt (f n) p
    have hl := B33_lt f p n
    show bitN (B33 f p n + bitN (f n) p * 2 ^ n) j = _
    unfold bitN at hb ⊢
    by_cases hj : j = n
    · subst hj
      rw [Nat.add_mul_div_right _ _ (Nat.two_pow_pos j), Nat.div_eq_of_lt hl, Nat.zero_add]
      exact Nat.mod_eq_of_lt hb
    · have ih := B33_bit f p n j (by omega)
      unfold bitN at ih
      rw [← ih, show n = j + 1 + (n - (j + 1)) by omega, Nat.pow_add, Nat.pow_succ, show ∀ m, f (j + 1 + (n - (j + 1))) / 2 ^ p % 2 * (2 ^ j * 2 * m) = 2 ^ j * (2 * (m * (f (j + 1 + (n - (j + 1))) / 2 ^ p % 2))) by intro m; simp only [Nat.mul_comm, Nat.mul_left_comm, Nat.mul_assoc], Nat.add_mul_div_left _ _ (Nat.two_pow_pos j)]
      omega
theorem lane_mark (f : Nat → BitVec 64) (c : Nat) (hc : c < 256) (L : BitVec 64) (i : Nat) : B33 (fun j => (if c.testBit j = true then f j ^^^ L else f j).toNat) i 8 = (if L.getLsbD i = true then B33 (fun j => (f j).toNat) i 8 ^^^ c else B33 (fun j => (f j).toNat) i 8) := by
  have hz := B33_lt (fun j => (f j).toNat) i 8
  have hx : B33 (fun j => (f j).toNat) i 8 ^^^ c < 2 ^ 8 := Nat.xor_lt_two_pow hz (by omega)
  by_cases hL : L.getLsbD i = true
  · rw [if_pos hL]
    refine (B33_congr (e := B33 (fun j => (f j).toNat) i 8 ^^^ c) 8 fun j hj => ?_).trans (Nat.mod_eq_of_lt hx)
    have hbit := B33_bit (fun j => (f j).toNat) i 8 j hj
    rw [bitN_test, bitN_bv] at hbit
    have hbb : (B33 (fun j => (f j).toNat) i 8).testBit j = (f j).getLsbD i := by
      cases h1 : (B33 (fun j => (f j).toNat) i 8).testBit j <;> cases h2 : (f j).getLsbD i <;> rw [h1, h2] at hbit <;> first | rfl | cases hbit
    by_cases ht : c.testBit j = true
    · rw [if_pos ht, bitN_bv, BitVec.getLsbD_xor, hL, bitN_test, Nat.testBit_xor, hbb, ht]
    · rw [if_neg ht, bitN_bv, bitN_test, Nat.testBit_xor, hbb]
      rw [Bool.not_eq_true] at ht
      rw [ht, Bool.xor_false]
  · rw [if_neg hL]
    refine B33_two 8 fun j _ => ?_
    by_cases ht : c.testBit j = true
    · rw [if_pos ht, bitN_bv, bitN_bv, BitVec.getLsbD_xor]
      rw [Bool.not_eq_true] at hL
      rw [hL, Bool.xor_false]
    · rw [if_neg ht]
/-- the document's -/
theorem mat_l2 {a : Nat → Nat} (ha : ∀ i, a i < 256) {e : Nat} (he : e < 256) {r : Nat} (hr : r < 8) : ∀ (d j k : Nat) (z : Bool), j + d = 8 → d < k → visorref05_Apply.l2 (rows8 a) (e : Int) (r : Int) k z (j : Int) = some ((colsF (a r) j).foldl (fun z j => z ^^ e.testBit j) z)
  | 0, j, k, z, hj, hk => by
    obtain rfl : j = 8 := by omega
    obtain ⟨k, rfl⟩ : ∃ i, k = i + 1 := ⟨k - 1, by omega⟩
    rw [visorref05_Apply.l2]; rfl
  | d + 1, j, k, z, hj, hk => by
    obtain ⟨k, rfl⟩ : ∃ i, k = i + 1 := ⟨k - 1, by omega⟩
    have h8 : j < 8 := by omega
    rw [colsF_step _ h8, visorref05_Apply.l2, lt8d h8, cond_true, if_pos (by rfl), Bit_m k a ha hr h8, Option.bind_some]
    cases hb : (a r).testBit j
    · rw [cond_false, if_neg (by decide), nx8 h8]
      exact mat_l2 ha he hr d (j + 1) k z (by omega) (by omega)
    · rw [cond_true, if_pos rfl, wrap_u64_8 (by omega), if_pos (by omega), bit_at he h8, List.foldl_cons]
      unfold visorref05_Apply.j1
      rw [nx8 h8]
      cases e.testBit j
      · rw [cond_false, Bool.xor_false]; exact mat_l2 ha he hr d (j + 1) k z (by omega) (by omega)
      · rw [cond_true, Bool.xor_true]; exact mat_l2 ha he hr d (j + 1) k (!z) (by omega) (by omega)
theorem mat_l1 {a : Nat → Nat} (ha : ∀ i, a i < 256) {e : Nat} (he : e < 256) : ∀ (d r k : Nat), r + d = 8 → 10 + d < k → visorref05_Apply.l1 (rows8 a) (e : Int) k ((B33 (fun r => (odd8 (colsN (a r)) e).toNat) 0 r : Nat) : Int) (r : Int) = some ((mat8 a e : Nat) : Int)
  | 0, r, k, hr, hk => by
    obtain rfl : r = 8 := by omega
    obtain ⟨k, rfl⟩ : ∃ i, k = i + 1 := ⟨k - 1, by omega⟩
    rw [visorref05_Apply.l1]; rfl
  | d + 1, r, k, hr, hk => by
    obtain ⟨k, rfl⟩ : ∃ i, k = i + 1 := ⟨k - 1, by omega⟩
    have h8 : r < 8 := by omega
    have hlt := B33_lt (fun r => (odd8 (colsN (a r)) e).toNat) 0 (r + 1)
    have h28 : 2 ^ (r + 1) ≤ 2 ^ 8 := Nat.pow_le_pow_right (by decide) (by omega)
    have hs : B33 (fun r => (odd8 (colsN (a r)) e).toNat) 0 (r + 1) = B33 (fun r => (odd8 (colsN (a r)) e).toNat) 0 r + bitN (odd8 (colsN (a r)) e).toNat 0 * 2 ^ r := rfl
    have ih := mat_l1 ha he d (r + 1) k (by omega) (by omega)
    rw [visorref05_Apply.l1, lt8d h8, cond_true, show (0 : Int) = ((0 : Nat) : Int) from rfl, mat_l2 ha he h8 8 0 k false (by omega) (by omega), Option.bind_some, ← colsN_F]
    rw [bit01] at hs
    change B33 _ 0 (r + 1) = B33 _ 0 r + (odd8 (colsN (a r)) e).toNat * 2 ^ r at hs
    change (bif odd8 (colsN (a r)) e then _ else _) = _
    unfold visorref05_Apply.j2
    rw [nx8 h8]
    cases ho : odd8 (colsN (a r)) e
    · rw [cond_false]
      rw [ho, show (false.toNat : Nat) = 0 from rfl, Nat.zero_mul] at hs
      rw [hs.trans (Nat.add_zero _)] at ih; exact ih
    · rw [cond_true, wrap_u64_8 (by omega), if_pos (by omega)]
      rw [ho, show (true.toNat : Nat) = 1 from rfl] at hs
      have e1 := shl1_u8 1 r (by decide) h8
      rw [show ((1 : Nat) : Int) = 1 from rfl] at e1
      rw [e1, ← Int.natCast_add, ← hs, wrap_u8_of (by omega)]; exact ih
theorem mat_m {a : Nat → Nat} (ha : ∀ i, a i < 256) {e : Nat} (he : e < 256) {k : Nat} (hk : 30 ≤ k) : visorref05_Apply.m k (rows8 a) (e : Int) = some ((mat8 a e : Nat) : Int) := by
  unfold visorref05_Apply.m
  have := mat_l1 ha he 8 0 k (by omega) (by omega)
  rw [show ((B33 (fun r => (odd8 (colsN (a r)) e).toNat) 0 0 : Nat) : Int) = 0 from rfl, show ((0 : Nat) : Int) = 0 from rfl] at this
  rw [this]; rfl
theorem mat8_zero (a : Nat → Nat) : mat8 a 0 = 0 := by
  have h : ∀ (l : List Nat), l.foldl (fun z j => z ^^ (0 : Nat).testBit j) false = false := by
    intro l
    induction l with
    | nil => rfl
    | cons t l ih => rw [List.foldl_cons, Nat.zero_testBit]; exact ih
  have : ∀ n, B33 (fun r => (odd8 (colsN (a r)) 0).toNat) 0 n = 0 := by
    intro n
    induction n with
    | zero => rfl
    | succ n ih =>
      show B33 _ 0 n + bitN (odd8 (colsN (a n)) 0).toNat 0 * 2 ^ n = 0
      rw [ih]
      unfold odd8
      rw [h]; simp [bitN]
  exact this 8
theorem mat8_lt (a : Nat → Nat) (e : Nat) : mat8 a e < 256 := B33_lt _ 0 8
/-! MapsTells. -/
theorem PlF.w {M : WM} {f : Nat → Tri} {x : Nat → BitVec 64} (h : PlF M f x) : PlW M f x := fun j hj => ⟨(h j hj).c, (h j hj).s⟩
theorem Pub_l {b : List Int} : ∀ (d j : Nat) (M : WM) (g : Nat → Tri) (q : Nat), j + d = 8 → (∀ i, i < j → Wd3 M (g i) (bw b i)) → Fine M false 0 (q + d * nn M) →
    ∃ f' M', (∀ k, 95 + d ≤ k → slice_Public.l1 (planes b) k M.m (pl g) (j : Int) = some (pl f', M'.m)) ∧ (∀ k, 95 + d ≤ k → visorref33_Const.l1 3 (planes b) k (absM M.m) (pl g) (j : Int) = some (pl f', absM M'.m)) ∧ Fine M' false 0 q ∧ Up M M' (d * nn M) ∧ PlF M' f' (bw b) := by
  intro d
  induction d with
  | zero =>
    intro j M g q hj hg fi
    obtain rfl : j = 8 := by omega
    rw [Nat.zero_mul] at fi ⊢
    refine ⟨g, M, fun k hk => ?_, fun k hk => ?_, fi, .refl _, hg⟩
    · obtain ⟨k, rfl⟩ : ∃ i, k = i + 1 := ⟨k - 1, by omega⟩
      rw [slice_Public.l1]; rfl
    · obtain ⟨k, rfl⟩ : ∃ i, k = i + 1 := ⟨k - 1, by omega⟩
      rw [visorref33_Const.l1]; rfl
  | succ d ih =>
    intro j M g q hj hg fi
    have h8 : j < 8 := by omega
    obtain ⟨o0, o1, o2, M1, h⟩ := PubC.ex M ((wd b j : Nat) : Int)
    have e : (d + 1) * nn M = nn M + d * nn M := by rw [Nat.add_mul, Nat.one_mul, Nat.add_comm]
    rw [e] at fi ⊢
    obtain ⟨f1, u1, w1⟩ := h.w (q := q + d * nn M) (by rw [Nat.add_assoc, Nat.add_comm (d * nn M)]; exact fi)
    obtain ⟨f', M', h1, h2, h3, h4, h5⟩ := ih (j + 1) M1 (upd g j (o0, o1, o2)) q (by omega) (fun i hi => by
      unfold upd
      by_cases hij : i = j
      · subst hij; rw [if_pos rfl]; exact w1
      · rw [if_neg hij]; exact (hg i (by omega)).up u1) (by rw [u1.nnE]; exact f1)
    rw [u1.nnE] at h4
    have hle := c3l h8 g (o0, o1, o2)
    have hs := pl_upd g h8 (o0, o1, o2)
    unfold c3 at hle hs
    refine ⟨f', M', fun k hk => ?_, fun k hk => ?_, h3, u1.trans h4, h5⟩
    · obtain ⟨k, rfl⟩ : ∃ i, k = i + 1 := ⟨k - 1, by omega⟩
      rw [slice_Public.l1, lt8d h8, cond_true, if_pos (i8 h8), wd_get b h8, Option.bind_some, h.p (k := k) (by omega) (wd_w b j), Option.bind_some, if_pos (by rfl), if_pos (i8 h8), if_pos hle, hs, nx8 h8]
      exact h1 k (by omega)
    · obtain ⟨k, rfl⟩ : ∃ i, k = i + 1 := ⟨k - 1, by omega⟩
      rw [visorref33_Const.l1, lt8d h8, cond_true, if_pos (i8 h8), wd_get b h8, Option.bind_some, h.r (k := k) (by omega) (wd_w b j), Option.bind_some, if_pos (i8 h8), if_pos (by rfl), if_pos hle, hs, nx8 h8]
      exact h2 k (by omega)
theorem Public_b (M : WM) (b : List Int) (hb : Bytes b) (q : Nat) (fi : Fine M false 0 (q + 8 * nn M)) : ∃ f M', (∀ k, 120 ≤ k → slice_Public.m k M.m b = some (pl f, M'.m)) ∧ (∀ k, 120 ≤ k → visorref33_Const.m k (absM M.m) 3 b = some (pl f, absM M'.m)) ∧ Fine M' false 0 q ∧ Up M M' (8 * nn M) ∧ PlF M' f (bw b) := by
  obtain ⟨f, M', h1, h2, h3, h4, h5⟩ := Pub_l (b := b) 8 0 M zW q (by omega) (fun i hi => by omega) fi
  refine ⟨f, M', fun k hk => ?_, fun k hk => ?_, h3, h4, h5⟩
  · unfold slice_Public.m
    rw [Cut_m b hb k (by omega), Option.bind_some, if_pos (planes_len b), zW_pl, show (0 : Int) = ((0 : Nat) : Int) from rfl, h1 k (by omega), Option.bind_some]
    dsimp only
    rw [if_pos (pl_len _)]
  · unfold visorref33_Const.m
    rw [rCut_m b hb k (by omega), Option.bind_some, if_pos (planes_len b), zW_pl, show (0 : Int) = ((0 : Nat) : Int) from rfl, h2 k (by omega), Option.bind_some]
    dsimp only
    rw [if_pos (pl_len _)]
theorem awake34_k (j : Nat) : visorlaw34_awake.m (j + 200) = some true := by kernel_rfl
theorem maps_l {a : Nat → Nat} (ha : ∀ i, a i < 256) {c : Nat} (hc : c < 256) {x : Nat} (hx : x < 18446744073709551616) {b : List Int} (hb : Bytes b) {l v : List Int} (hl : ∀ i, i < 64 → l[i]? = some ((mat8 a (byt b i) : Nat) : Int))
    (hv : ∀ i, i < 64 → v[i]? = some (((if x.testBit i = true then mat8 a (byt b i) ^^^ c else mat8 a (byt b i) : Nat)) : Int)) : ∀ (d i k : Nat), i + d = 64 → 40 + d ≤ k → visorlaw34_MapsTells.l1 (rows8 a) (c : Int) (x : Int) b l v k (i : Int) = some (.inr ())
  | 0, i, k, hi, hk => by
    obtain rfl : i = 64 := by omega
    obtain ⟨k, rfl⟩ : ∃ i, k = i + 1 := ⟨k - 1, by omega⟩
    rw [visorlaw34_MapsTells.l1]; rfl
  | d + 1, i, k, hi, hk => by
    obtain ⟨k, rfl⟩ : ∃ i, k = i + 1 := ⟨k - 1, by omega⟩
    have h64 : i < 64 := by omega
    have hm := mat8_lt a (byt b i)
    have ih := maps_l ha hc hx hb hl hv d (i + 1) k (by omega) (by omega)
    have hn : IntKind.i64.wrap ((i : Int) + 1) = ((i + 1 : Nat) : Int) := by rw [wrapI (by omega) (by omega)]; rfl
    have tail : visorlaw34_MapsTells.j8 k (visorlaw34_MapsTells.l1 (rows8 a) (c : Int) (x : Int) b l v k) (c : Int) (x : Int) l v (i : Int) ((mat8 a (byt b i) : Nat) : Int) = some (.inr ()) := by
      unfold visorlaw34_MapsTells.j8
      rw [wrap_u64_8 h64, if_pos (by omega), shr_nat _ _ (by rw [show IntKind.u64.bits = 64 from rfl]; omega), show Int.tmod ((x / 2 ^ i : Nat) : Int) 2 = ((x / 2 ^ i % 2 : Nat) : Int) by rw [Int.tmod_eq_emod_of_nonneg (Int.natCast_nonneg _)]; rfl]
      have fin : ∀ z : Nat, v[i]? = some (z : Int) → visorlaw34_MapsTells.j9 k (visorlaw34_MapsTells.l1 (rows8 a) (c : Int) (x : Int) b l v k) l v (i : Int) ((mat8 a (byt b i) : Nat) : Int) (z : Int) = some (.inr ()) := by
        intro z hz
        unfold visorlaw34_MapsTells.j9
        rw [if_pos (by omega), Int.toNat_natCast, hl i h64, Option.bind_some, bne_self_eq_false, cond_false, if_pos (by omega), hz, Option.bind_some, bne_self_eq_false, cond_false, hn]
        exact ih
      have hvi := hv i h64
      have ht : x.testBit i = decide (x / 2 ^ i % 2 = 1) := Nat.testBit_eq_decide_div_mod_eq
      by_cases h1 : x / 2 ^ i % 2 = 1
      · rw [h1, show (((1 : Nat) : Int) == 1) = true from rfl, cond_true, bxor_u8 hm hc]
        rw [ht, decide_eq_true h1, if_pos rfl] at hvi
        exact fin _ hvi
      · rw [show ((((x / 2 ^ i % 2 : Nat) : Int)) == 1) = false by rw [beq_eq_false_iff_ne]; omega, cond_false]
        rw [ht, decide_eq_false h1, if_neg (by decide)] at hvi
        exact fin _ hvi
    rw [visorlaw34_MapsTells.l1, decide_eq_true (by omega), cond_true]
    by_cases hib : i < b.length
    · obtain ⟨e, he, hg⟩ := hb.get hib
      have hbe : byt b i = e := by unfold byt; rw [hg]; simp
      rw [decide_eq_true (by omega), cond_true, if_pos (by rfl), if_pos (by omega), Int.toNat_natCast, hg, Option.bind_some, mat_m ha he (by omega), Option.bind_some, ← hbe]
      exact tail
    · have hbe : byt b i = 0 := by unfold byt; rw [List.getElem?_eq_none (by omega)]; rfl
      rw [decide_eq_false (by omega), cond_false]
      rw [hbe, mat8_zero] at tail
      exact tail
theorem joinB_get (f : Nat → Nat) {i : Nat} (h : i < 64) : (joinB f 64)[i]? = some ((B33 f i 8 : Nat) : Int) := by unfold joinB; rw [List.getElem?_map, List.getElem?_range h]; rfl
theorem bv_lt (v : BitVec 64) : v.toNat < 18446744073709551616 := v.isLt
theorem maps_j2 {a : Nat → Nat} (ha : ∀ i, a i < 256) {c : Nat} (hc : c < 256) {x : Nat} (hx : x < 18446744073709551616) {b : List Int} (hb : Bytes b) (hbl : b.length ≤ 64) {n : Nat} (hn : n = 2 ∨ n = 3) : visorlaw34_MapsTells.j2 1048700 (rows8 a) (c : Int) (x : Int) (n : Int) b = some true := by
  have hnI : (n : Int) = 2 ∨ (n : Int) = 3 := by omega
  have hr := rowsC_le a 8
  have hcl := colsN_le c
  have S : WM := start (n : Int) 2000 [] hnI (by omega) (fun x h => by cases h) (by simp)
  obtain ⟨S, hS⟩ : ∃ S : WM, S = start (n : Int) 2000 [] hnI (by omega) (fun x h => by cases h) (by simp) := ⟨_, rfl⟩
  have hSm : startM (n : Int) 2000 [] = S.m := by rw [hS]; rfl
  have hSn : S.m.n = (n : Int) := by rw [hS]; rfl
  have hnn : nn S = n := by unfold nn; rw [hSn]; exact Int.toNat_natCast n
  have hrn : rowsC a 8 * n ≤ 64 * 3 := Nat.mul_le_mul hr (by omega)
  have f0 : Fine S false 0 (2 * (colsN c).length + rowsC a 8 * nn S + 8 * nn S) := by
    rw [hnn, hS]
    refine ⟨rfl, ⟨fun _ => rfl, fun _ => rfl⟩, ?_, ?_, ?_⟩
    · show ((0 : Nat) : Int) + _ ≤ 2000
      omega
    · show (0 : Int) ≤ 0; omega
    · show (0 : Int) + 0 ≤ 0; omega
  obtain ⟨fp, M1, p1, r1, f1, u1, w1⟩ := Public_b S b hb _ f0
  rw [← u1.nnE] at f1
  obtain ⟨fu, M2, p2, r2, f2, u2, w2⟩ := Apply_b ha M1 (2 * (colsN c).length) w1 f1
  obtain ⟨fs, M3, p3, r3, f3, u3, w3⟩ := Mark_b (l := (x : Int)) ⟨by omega, by omega⟩ hc M2 0 w2 (by rw [Nat.zero_add]; exact f2)
  have hl1 : M1.m.len = (M1.m.ops.length : Int) := M1.w.len
  have hl2 : M2.m.len = (M2.m.ops.length : Int) := M2.w.len
  have hdiff : IntKind.i64.wrap (M2.m.len - M1.m.len) = ((rowsC a 8 * n : Nat) : Int) := by
    have := u2.l
    rw [u1.nnE, hnn] at this
    rw [hl1, hl2, this, wrapI (by omega) (by omega)]; omega
  unfold visorlaw34_MapsTells.j2
  rw [Begins_m 1048700 hnI (by omega) (by omega) (by simp), Option.bind_some]
  dsimp only
  rw [Bool.not_true, cond_false, hSm, p1 _ (by omega), Option.bind_some, r1 _ (by omega), Option.bind_some, if_pos (pl_len _), if_pos (pl_len _)]
  unfold visorlaw34_MapsTells.j3
  rw [Len_m _ M1.w.ok, Option.bind_some, if_pos (by rfl), if_pos (pl_len _), if_pos (pl_len _), p2 _ (by omega), Option.bind_some, r2 _ (by omega), Option.bind_some, if_pos (pl_len _), if_pos (pl_len _)]
  unfold visorlaw34_MapsTells.j4
  rw [if_pos (pl_len _), if_pos (pl_len _), if_pos (pl_kinds _), if_pos (pl_kinds _), pl_ceq, Bool.not_true, cond_false, if_pos (by rfl), Len_m _ M2.w.ok, Option.bind_some, rOps_m ha n (by omega) _ (by omega), Option.bind_some, hdiff, bne_self_eq_false, cond_false, mOps_m ha n (by omega) _ (by omega), Option.bind_some, Option.bind_some, bne_self_eq_false]
  unfold visorlaw34_MapsTells.j5
  rw [cond_false, if_pos (pl_len _), if_pos (pl_len _), p3 _ (by omega), Option.bind_some, r3 _ (by omega), Option.bind_some, if_pos (pl_len _), if_pos (pl_len _)]
  unfold visorlaw34_MapsTells.j6
  rw [if_pos (pl_len _), if_pos (pl_len _), if_pos (pl_kinds _), if_pos (pl_kinds _), pl_ceq, Bool.not_true, cond_false, Like_w (by omega), Option.bind_some, show (absM M3.m).e = M3.m.bad from rfl, f3.bad]
  unfold visorlaw34_MapsTells.j7
  rw [show ((!true) || ((0 : Int) != 0)) = false from rfl, cond_false, if_pos (pl_len _), Values_w, Option.bind_some, pValue_w (w2.up u3).w f3.bad _ (by omega), Option.bind_some, rJoin_m _ (fun j => bv_lt _) 64 _ (by omega), Option.bind_some, if_pos (pl_len _), Option.bind_some, pValue_w w3.w f3.bad _ (by omega), Option.bind_some, rJoin_m _ (fun j => bv_lt _) 64 _ (by omega), Option.bind_some,
    show (mx 0 (mn 64 64)).toNat = 64 from rfl]
  rw [show (0 : Int) = ((0 : Nat) : Int) from rfl, maps_l ha hc hx hb (fun i hi => by rw [joinB_get _ hi, lane_mat a b hbl]) (fun i hi => by
    rw [joinB_get _ hi, lane_mark (fun j => xsum (bw b) (colsN (a j)) 0#64) c hc, lane_mat a b hbl, show (BitVec.ofInt 64 (x : Int)).getLsbD i = x.testBit i by
      rw [show BitVec.ofInt 64 (x : Int) = BitVec.ofNat 64 x from BitVec.ofInt_natCast .., BitVec.getLsbD_ofNat, decide_eq_true hi, Bool.true_and]]) 64 0 _ (by omega) (by omega), Option.bind_some]
  dsimp only
  rw [show (1048700 : Nat) = 1048500 + 200 from rfl, awake34_k, Option.bind_some]
theorem fits_bytes8 : ∀ {n : Nat} {x : Cells}, Fits (List.replicate n (LK.int .u8)) x → ∃ l : List Nat, l.length = n ∧ (∀ y ∈ l, y < 256) ∧ x = l.map fun (y : Nat) => C.int .u8 (y : Int)
  | 0, [], _ => ⟨[], rfl, fun _ h => (by cases h), rfl⟩
  | n + 1, .int k v :: x, h => by
    obtain ⟨⟨rfl, h1, h2⟩, h3⟩ := h
    obtain ⟨l, hl, hb, rfl⟩ := fits_bytes8 h3
    rw [show IntKind.u8.min = 0 from rfl] at h1
    rw [show IntKind.u8.max = 255 by decide] at h2
    refine ⟨v.toNat :: l, by rw [List.length_cons, hl], fun y hy => ?_, ?_⟩
    · rcases List.mem_cons.1 hy with rfl | hy
      · omega
      · exact hb y hy
    · rw [List.map_cons, Int.toNat_of_nonneg h1]
  | 0, _ :: _, h => h.elim
  | _ + 1, [], h => h.elim
  | _ + 1, .bool _ :: _, h => h.1.elim
  | _ + 1, .str _ :: _, h => h.1.elim
  | _ + 1, .ptr _ :: _, h => h.1.elim
  | _ + 1, .slc _ _ _ :: _, h => h.1.elim
  | _ + 1, .map _ :: _, h => h.1.elim
  | _ + 1, .fn _ _ _ :: _, h => h.1.elim
  | _ + 1, .nofn :: _, h => h.1.elim
theorem fits_m8 {x : Cells} (h : Fits (List.replicate 8 (LK.int .u8)) x) : ∃ a : Nat → Nat, (∀ i, a i < 256) ∧ x = rows8 a := by
  obtain ⟨l, hl, hb, rfl⟩ := fits_bytes8 h
  refine ⟨fun j => l.getD j 0, fun j => ?_, ?_⟩
  · show l.getD j 0 < _
    rw [List.getD_eq_getElem?_getD]
    cases hj : l[j]? with
    | none => simp
    | some y => exact hb y (List.mem_of_getElem? hj)
  · match l, hl with
    | [_, _, _, _, _, _, _, _], _ => rfl
theorem bytes_of {x : List Int} (h : ∀ y ∈ x, IntKind.u8.min ≤ y ∧ y ≤ IntKind.u8.max) : Bytes x := fun y hy => by
  have := h y hy
  rw [show IntKind.u8.min = 0 from rfl, show IntKind.u8.max = 255 by decide] at this
  omega
theorem MapsTells_pure (x0 : Bool) (x1 : Cells) (x2 : List Int) (x3 : Int) (x4 : Int) (b1 : Fits [LK.int .u8, LK.int .u8, LK.int .u8, LK.int .u8, LK.int .u8, LK.int .u8, LK.int .u8, LK.int .u8] x1) (b2 : ∀ x ∈ x2, IntKind.u8.min ≤ x ∧ x ≤ IntKind.u8.max) (n2 : x2.length * 1 ≤ 140737488351232) (b3 : IntKind.u8.min ≤ x3 ∧ x3 ≤ IntKind.u8.max) (b4 : IntKind.u64.min ≤ x4 ∧ x4 ≤ IntKind.u64.max) : ∃ k, visorlaw34_MapsTells.m k x0 x1 x2 x3 x4 = some true := by
  refine ⟨1048700, ?_⟩
  simp only [min_u64, max_u64] at b4
  rw [show IntKind.u8.min = 0 from rfl, show IntKind.u8.max = 255 by decide] at b3
  obtain ⟨a, ha, rfl⟩ := fits_m8 b1
  obtain ⟨c, rfl⟩ : ∃ c : Nat, x3 = (c : Int) := ⟨x3.toNat, by omega⟩
  obtain ⟨y, rfl⟩ : ∃ c : Nat, x4 = (c : Int) := ⟨x4.toNat, by omega⟩
  have hb := bytes_of b2
  have key : ∀ n : Nat, n = 2 ∨ n = 3 → visorlaw34_MapsTells.j1 1048700 (rows8 a) x2 (c : Int) (y : Int) (n : Int) = some true := by
    intro n hn
    unfold visorlaw34_MapsTells.j1
    by_cases hl : x2.length ≤ 64
    · rw [decide_eq_false (by omega), cond_false]
      exact maps_j2 ha (by omega) (by omega) hb hl hn
    · rw [decide_eq_true (by omega), cond_true, if_pos (by omega)]
      have e : cut x2 0 64 = x2.take 64 := by unfold cut; rw [List.drop_zero]
      rw [e]
      exact maps_j2 ha (by omega) (by omega) (fun z hz => hb z (List.mem_of_mem_take hz)) (by rw [List.length_take]; omega) hn
  unfold visorlaw34_MapsTells.m
  cases x0
  · exact key 2 (.inl rfl)
  · exact key 3 (.inr rfl)
end Go.Proofs.Ytflgefjocjpjaaa
