/- The plain law behind GuardShows: its model answers true for all data that fit; no condition beyond their kinds. -/
import Derived.Test.YtflgefjocjpjaaaMGuardShows1
namespace Go.Proofs.Ytflgefjocjpjaaa
open Go Go.Vk
set_option linter.unusedVariables false

/-! What an op makes: both programs' Eval is one function of words. -/
def evalW (kind : Int) (c a b d x : BitVec 64) : BitVec 64 :=
  if kind = 1 then x else if kind = 2 then x ^^^ a ^^^ b else if kind = 3 then c else if kind = 4 then c else if kind = 5 then a ^^^ b else if kind = 6 then ~~~a
  else if kind = 7 then a &&& b else if kind = 8 then a &&& c else if kind = 9 then a <<< (c.toNat % 64) else if kind = 10 then a >>> (c.toNat % 64)
  else if kind = 11 then a.rotateLeft (c.toNat % 64) else if kind = 12 then a ^^^ b ^^^ d else 0#64
theorem rot63 (x : BitVec 64) (n : Nat) (h : n < 64) : x <<< n ||| x >>> (64 - n) = x.rotateLeft n := by
  rw [BitVec.rotateLeft_def, Nat.mod_eq_of_lt h]
theorem octet_Rot_m (k : Nat) (x : BitVec 64) (n : Nat) (h : n < 64) : octet_Rot.m k (u x) (n : Int) = some (u (x.rotateLeft n)) := by
  have hb : band .i64 (n : Int) 63 = (n : Int) := by
    have : ∀ m : Fin 64, band .i64 ((m : Nat) : Int) 63 = ((m : Nat) : Int) := by decide
    exact this ⟨n, h⟩
  unfold octet_Rot.m
  rw [hb, if_pos (by omega), wrap_i64_of (by omega) (by omega), if_pos (by omega), shl_u _ (by omega), shr_u _ (by omega), bor_u]
  congr 2
  rw [← rot63 x n h]
  have e : ((64 : Int) - (n : Int)).toNat = 64 - n := by omega
  rw [e]; rfl
def lowW (n : Nat) : BitVec 64 := BitVec.ofNat 64 (2 ^ n - 1)
theorem ref_Low_l (n : Nat) : ∀ (d k i : Nat), min n 64 = i + d → d < k → visorref01_Low.l1 (n : Int) k (u (lowW i)) (i : Int) = some (u (lowW (min n 64))) := by
  intro d
  induction d with
  | zero =>
    intro k i hi hk
    obtain ⟨k, rfl⟩ : ∃ m, k = m + 1 := ⟨k - 1, by omega⟩
    rw [visorref01_Low.l1]
    have : (decide ((i : Int) < (n : Int)) && decide ((i : Int) < 64)) = false := by
      rw [Bool.and_eq_false_iff]; simp only [decide_eq_false_iff_not]; omega
    rw [this]; simp only [cond_false]
    rw [show min n 64 = i by omega]
  | succ d ih =>
    intro k i hi hk
    obtain ⟨k, rfl⟩ : ∃ m, k = m + 1 := ⟨k - 1, by omega⟩
    rw [visorref01_Low.l1]
    have : (decide ((i : Int) < (n : Int)) && decide ((i : Int) < 64)) = true := by
      rw [Bool.and_eq_true]; simp only [decide_eq_true_eq]; omega
    rw [this, wrap_i64_of (by omega) (by omega)]
    simp only [cond_true]
    have e : IntKind.u64.wrap (IntKind.u64.wrap (u (lowW i) * 2) + 1) = u (lowW (i + 1)) := by
      rw [wrap_u64, wrap_u64]
      simp only [u, lowW, BitVec.toNat_ofNat, Nat.pow_succ]
      have hp : 0 < 2 ^ i := Nat.two_pow_pos i
      omega
    rw [e]
    have := ih k (i + 1) (by omega) (by omega)
    rw [show ((i : Int) + 1) = ((i + 1 : Nat) : Int) by omega, this]
theorem ref_Low_m (k : Nat) (hk : 65 ≤ k) (n : Nat) : visorref01_Low.m k (n : Int) = some (u (lowW (min n 64))) := by
  unfold visorref01_Low.m
  have h := ref_Low_l n (min n 64) k 0 (by omega) (by omega)
  rw [show u (lowW 0) = 0 by decide, show ((0 : Nat) : Int) = 0 from rfl] at h
  rw [h]; rfl
/-- a word, as a number -/
def IsW (x : Int) : Prop := 0 ≤ x ∧ x ≤ 18446744073709551615
theorem IsW.u {x : Int} (h : IsW x) : ∃ b, x = Go.Vk.u b := exists_u h.1 h.2
theorem isW_u (b : BitVec 64) : IsW (Go.Vk.u b) := u_le b
theorem isW_zero : IsW 0 := ⟨by omega, by omega⟩
/-- what an op makes of numbers -/
def evalI (o : Tapi_Op) (a b d x : Int) : Int := u (evalW o.kind (BitVec.ofInt 64 o.c) (BitVec.ofInt 64 a) (BitVec.ofInt 64 b) (BitVec.ofInt 64 d) (BitVec.ofInt 64 x))
theorem evalI_w (o : Tapi_Op) (a b d x : Int) : IsW (evalI o a b d x) := isW_u _
theorem evalI_u (kind dom r s t : Int) (c a b d x : BitVec 64) : evalI ⟨kind, dom, r, s, t, u c⟩ (u a) (u b) (u d) (u x) = u (evalW kind c a b d x) := by
  unfold evalI; simp only [ofInt_u]
theorem op_Eval_w (k : Nat) (kind dom r s t : Int) (c a b d x : BitVec 64) : op_Eval.m k ⟨kind, dom, r, s, t, u c⟩ (u a) (u b) (u d) (u x) = some (u (evalW kind c a b d x)) := by
  have hm : Int.tmod (u c) 64 = ((c.toNat % 64 : Nat) : Int) := rfl
  have hlt : c.toNat % 64 < 64 := Nat.mod_lt _ (by omega)
  unfold op_Eval.m op_Eval.j1 evalW
  simp only [hm, bxor_u, bnot_u, band_u]
  rw [if_pos (show (0 : Int) ≤ ((c.toNat % 64 : Nat) : Int) by omega), wrap_i64_of (by omega) (by omega), octet_Rot_m k a _ hlt, shl_u _ (by omega), shr_u _ (by omega)]
  simp only [Option.bind_some, Int.toNat_natCast, if_pos (show (0 : Int) ≤ ((c.toNat % 64 : Nat) : Int) by omega)]
  by_cases h1 : kind = 1
  · subst h1; rfl
  by_cases h2 : kind = 2
  · subst h2; rfl
  by_cases h3 : kind = 3
  · subst h3; rfl
  by_cases h4 : kind = 4
  · subst h4; rfl
  by_cases h5 : kind = 5
  · subst h5; rfl
  by_cases h6 : kind = 6
  · subst h6; rfl
  by_cases h7 : kind = 7
  · subst h7; rfl
  by_cases h8 : kind = 8
  · subst h8; rfl
  by_cases h9 : kind = 9
  · subst h9; rfl
  by_cases h10 : kind = 10
  · subst h10; rfl
  by_cases h11 : kind = 11
  · subst h11; rfl
  by_cases h12 : kind = 12
  · subst h12; rfl
  simp only [if_neg h1, if_neg h2, if_neg h3, if_neg h4, if_neg h5, if_neg h6, if_neg h7, if_neg h8, if_neg h9, if_neg h10, if_neg h11, if_neg h12, beq_eq_false_iff_ne.2 h1, beq_eq_false_iff_ne.2 h2, beq_eq_false_iff_ne.2 h3, beq_eq_false_iff_ne.2 h4, beq_eq_false_iff_ne.2 h5, beq_eq_false_iff_ne.2 h6, beq_eq_false_iff_ne.2 h7, beq_eq_false_iff_ne.2 h8, beq_eq_false_iff_ne.2 h9, beq_eq_false_iff_ne.2 h10, beq_eq_false_iff_ne.2 h11, beq_eq_false_iff_ne.2 h12, cond_false]
  rfl
theorem op_Eval_m (k : Nat) (o : Tapi_Op) (a b d x : Int) (hc : IsW o.c) (ha : IsW a) (hb : IsW b) (hd : IsW d) (hx : IsW x) : op_Eval.m k o a b d x = some (evalI o a b d x) := by
  obtain ⟨kind, dom, r, s, t, c⟩ := o
  obtain ⟨c, rfl⟩ := hc.u; obtain ⟨a, rfl⟩ := ha.u; obtain ⟨b, rfl⟩ := hb.u; obtain ⟨d, rfl⟩ := hd.u; obtain ⟨x, rfl⟩ := hx.u
  rw [op_Eval_w, evalI_u]
/-! Which ops may be: both programs' Right is one question. -/
def opRegs (kind n : Int) : Int := if kind = 2 then n - 1 else if kind = 5 ∨ kind = 7 then 2 else if kind = 6 ∨ kind = 8 ∨ kind = 9 ∨ kind = 10 ∨ kind = 11 then 1 else if kind = 12 then n else 0
def okReg (r at' j regs : Int) : Prop := (j < regs → 0 ≤ r ∧ r < at') ∧ (regs ≤ j → r = -1)
instance (r at' j regs : Int) : Decidable (okReg r at' j regs) := by unfold okReg; infer_instance
def okConst (o : Tapi_Op) : Bool := if o.kind = 9 ∨ o.kind = 10 ∨ o.kind = 11 then decide (o.c < 64) else if o.kind = 2 then decide (o.c < 1048576) else if o.kind = 3 ∨ o.kind = 4 ∨ o.kind = 8 then true else o.c == 0
def okHead (o : Tapi_Op) (n : Int) : Prop := 1 ≤ o.kind ∧ o.kind ≤ 12 ∧ -1 ≤ o.dom ∧ o.dom < n ∧ (o.kind = 12 → o.dom = -1)
instance (o : Tapi_Op) (n : Int) : Decidable (okHead o n) := by unfold okHead; infer_instance
def okRegs (o : Tapi_Op) (at' n : Int) : Prop := okReg o.a at' 0 (opRegs o.kind n) ∧ okReg o.b at' 1 (opRegs o.kind n) ∧ okReg o.d at' 2 (opRegs o.kind n)
instance (o : Tapi_Op) (at' n : Int) : Decidable (okRegs o at' n) := by unfold okRegs; infer_instance
/-- may an op be, at a place, of so many shares? -/
def Rt (o : Tapi_Op) (at' n : Int) : Bool := decide (okHead o n) && (decide (okRegs o at' n) && okConst o)
theorem beqF {a b : Int} (h : ¬ a = b) : (a == b) = false := beq_eq_false_iff_ne.2 h
theorem op_Regs_m (k : Nat) (kind n : Int) (hn : n = 2 ∨ n = 3) : op_Regs.m k kind n = some (opRegs kind n) := by
  have hw : IntKind.i64.wrap (n - 1) = n - 1 := wrap_i64_of (by omega) (by omega)
  have h0 : ((n != 2) && (n != 3)) = false := by rcases hn with rfl | rfl <;> rfl
  unfold op_Regs.m op_Regs.j1 op_Regs.j2 opRegs
  rw [h0, cond_false, hw]
  by_cases h2 : kind = 2
  · subst h2; rfl
  by_cases h5 : kind = 5
  · subst h5; rfl
  by_cases h7 : kind = 7
  · subst h7; rfl
  by_cases h6 : kind = 6
  · subst h6; rfl
  by_cases h8 : kind = 8
  · subst h8; rfl
  by_cases h9 : kind = 9
  · subst h9; rfl
  by_cases h10 : kind = 10
  · subst h10; rfl
  by_cases h11 : kind = 11
  · subst h11; rfl
  by_cases h12 : kind = 12
  · subst h12; rfl
  simp only [h2, h5, h6, h7, h8, h9, h10, h11, h12, beqF h2, beqF h5, beqF h6, beqF h7, beqF h8, beqF h9, beqF h10, beqF h11, beqF h12, cond_false, or_self, if_false]
theorem op_constant_m (k : Nat) (o : Tapi_Op) : op_constant.m k o = some (okConst o) := by
  unfold op_constant.m op_constant.j1 op_constant.j2 okConst
  by_cases h9 : o.kind = 9
  · rw [h9]; rfl
  by_cases h10 : o.kind = 10
  · rw [h10]; rfl
  by_cases h11 : o.kind = 11
  · rw [h11]; rfl
  by_cases h2 : o.kind = 2
  · rw [h2]; rfl
  by_cases h3 : o.kind = 3
  · rw [h3]; rfl
  by_cases h4 : o.kind = 4
  · rw [h4]; rfl
  by_cases h8 : o.kind = 8
  · rw [h8]; rfl
  simp only [h2, h3, h4, h8, h9, h10, h11, beqF h2, beqF h3, beqF h4, beqF h8, beqF h9, beqF h10, beqF h11, cond_false, or_self, if_false]
theorem op_Right_step (o : Tapi_Op) (at' v : Int) (k j : Nat) (r : Int) (hj : j < 3) (hr : getI .i64 [C.int .i64 o.a, C.int .i64 o.b, C.int .i64 o.d] j = some r) :
    op_Right.l1 o at' v (k + 1) (j : Int) = if okReg r at' j v then op_Right.l1 o at' v k ((j + 1 : Nat) : Int) else some (.inl false) := by
  have hw : IntKind.i64.wrap ((j : Int) + 1) = ((j + 1 : Nat) : Int) := by rw [wrap_i64_of (by omega) (by omega)]; omega
  conv => lhs; unfold op_Right.l1
  rw [decide_eq_true (show (j : Int) < 3 by omega), cond_true, if_pos (by omega), Int.toNat_natCast, hr, Option.bind_some, hw]
  by_cases h1 : (j : Int) < v
  · rw [decide_eq_true h1, cond_true, decide_eq_false (show ¬ (j : Int) ≥ v by omega), cond_false]
    by_cases h2 : r < 0
    · rw [decide_eq_true h2, cond_true, if_neg (by unfold okReg; omega)]
    · rw [decide_eq_false h2, cond_false]
      by_cases h3 : r ≥ at'
      · rw [decide_eq_true h3, cond_true, if_neg (by unfold okReg; omega)]
      · rw [decide_eq_false h3, cond_false, if_pos (by unfold okReg; omega)]
  · rw [decide_eq_false h1, cond_false, decide_eq_true (show (j : Int) ≥ v by omega), cond_true]
    by_cases h2 : r = -1
    · rw [show (r != -1) = false by simp [h2], cond_false, if_pos (by unfold okReg; omega)]
    · rw [show (r != -1) = true by simp [h2], cond_true, if_neg (by unfold okReg; omega)]
theorem op_Right_end (o : Tapi_Op) (at' v : Int) (k : Nat) : op_Right.l1 o at' v (k + 1) ((3 : Nat) : Int) = some (.inr ()) := by unfold op_Right.l1; rfl
theorem op_Right_loop (o : Tapi_Op) (at' n : Int) (k : Nat) : op_Right.l1 o at' (opRegs o.kind n) (k + 4) 0 = some (if okRegs o at' n then .inr () else .inl false) := by
  have h := op_Right_step o at' (opRegs o.kind n) (k + 3) 0 o.a (by omega) rfl
  have h0 : ((0 : Nat) : Int) = 0 := rfl
  rw [h0] at h
  rw [h, op_Right_step o at' _ (k + 2) 1 o.b (by omega) rfl, op_Right_step o at' _ (k + 1) 2 o.d (by omega) rfl, op_Right_end]
  unfold okRegs
  by_cases h1 : okReg o.a at' 0 (opRegs o.kind n)
  · by_cases h2 : okReg o.b at' 1 (opRegs o.kind n)
    · by_cases h3 : okReg o.d at' 2 (opRegs o.kind n)
      · simp [h1, h2, h3]
      · simp [h1, h2, h3]
    · simp [h1, h2]
  · simp [h1]
theorem op_Right_j (k : Nat) (o : Tapi_Op) (at' n : Int) (hn : n = 2 ∨ n = 3) (b : Bool) : op_Right.j1 (k + 4) o at' n b = some (!b && (decide (okRegs o at' n) && okConst o)) := by
  unfold op_Right.j1
  cases b
  · rw [cond_false, op_Regs_m _ _ _ hn, Option.bind_some, op_Right_loop, Option.bind_some, op_constant_m]
    by_cases h : okRegs o at' n
    · rw [if_pos h]; simp [h]
    · rw [if_neg h]; simp [h]
  · rfl
theorem op_Right_m (k : Nat) (o : Tapi_Op) (at' n : Int) (hn : n = 2 ∨ n = 3) : op_Right.m (k + 4) o at' n = some (Rt o at' n) := by
  have h0 : ((n != 2) && (n != 3)) = false := by rcases hn with rfl | rfl <;> rfl
  unfold op_Right.m op_is.m
  rw [h0, cond_false, Option.bind_some]
  simp only [op_Right_j _ _ _ _ hn]
  unfold Rt okHead
  by_cases h1 : 1 ≤ o.kind
  · by_cases h2 : o.kind ≤ 12
    · by_cases h3 : -1 ≤ o.dom
      · by_cases h4 : o.dom < n
        · have e : ((!(decide (o.kind ≥ 1) && decide (o.kind ≤ 12)) || decide (o.dom < -1)) || decide (o.dom ≥ n)) = false := by
            simp only [Bool.or_eq_false_iff, decide_eq_false_iff_not, Bool.not_eq_false', Bool.and_eq_true, decide_eq_true_eq]; omega
          rw [e, cond_false]
          by_cases h5 : o.kind = 12
          · by_cases h6 : o.dom = -1
            · simp [h5, h6]; omega
            · have : o.dom ≥ 0 := by omega
              simp [h5, h6, this]
          · simp [h1, h2, h3, h4, h5, beqF h5]
        · have e : ((!(decide (o.kind ≥ 1) && decide (o.kind ≤ 12)) || decide (o.dom < -1)) || decide (o.dom ≥ n)) = true := by simp; omega
          rw [e, cond_true]; simp [h4]
      · have e : ((!(decide (o.kind ≥ 1) && decide (o.kind ≤ 12)) || decide (o.dom < -1)) || decide (o.dom ≥ n)) = true := by simp; omega
        rw [e, cond_true]; simp [h3]
    · have e : ((!(decide (o.kind ≥ 1) && decide (o.kind ≤ 12)) || decide (o.dom < -1)) || decide (o.dom ≥ n)) = true := by simp; omega
      rw [e, cond_true]; simp [h2]
  · have e : ((!(decide (o.kind ≥ 1) && decide (o.kind ≤ 12)) || decide (o.dom < -1)) || decide (o.dom ≥ n)) = true := by simp; omega
    rw [e, cond_true]; simp [h1]
/-! A machine's Do, as one total function. -/
def atI (v : List Int) (r : Int) : Int := if 0 ≤ r ∧ r < (v.length : Int) then v.getD r.toNat 0 else 0
theorem atI_w {v : List Int} (hv : ∀ x ∈ v, IsW x) (r : Int) : IsW (atI v r) := by
  unfold atI
  split
  · rename_i h
    have hlt : r.toNat < v.length := by omega
    rw [List.getD_eq_getElem?_getD, List.getElem?_eq_getElem hlt]; exact hv _ (List.getElem_mem hlt)
  · exact isW_zero
theorem atI_neg {v : List Int} {r : Int} (h : r < 0) : atI v r = 0 := by unfold atI; rw [if_neg (by omega)]
theorem atI_append {v : List Int} {r : Int} (h : r < (v.length : Int)) (l : List Int) : atI (v ++ l) r = atI v r := by
  unfold atI
  by_cases h0 : 0 ≤ r
  · have hlt : r.toNat < v.length := by omega
    rw [if_pos (show 0 ≤ r ∧ r < ((v ++ l).length : Int) from ⟨h0, by rw [List.length_append]; omega⟩), if_pos (show 0 ≤ r ∧ r < (v.length : Int) from ⟨h0, h⟩), List.getD_eq_getElem?_getD, List.getD_eq_getElem?_getD, List.getElem?_append_left hlt]
  · rw [if_neg (by omega), if_neg (by omega)]
theorem value_m (k : Nat) (m : Twire_Machine) (r : Int) (h : r < 0 ∨ r < (m.values.length : Int)) : wire_Machine_value.m k m r = some (atI m.values r) := by
  unfold wire_Machine_value.m
  by_cases h0 : r < 0
  · rw [decide_eq_true h0, cond_true, atI_neg h0]
  · have hlt : r.toNat < m.values.length := by omega
    rw [decide_eq_false h0, cond_false, if_pos (by omega), List.getElem?_eq_getElem hlt, Option.bind_some]
    unfold atI
    rw [if_pos (by omega), List.getD_eq_getElem?_getD, List.getElem?_eq_getElem hlt]; rfl
/-- registers of an op that may be -/
theorem Rt_regs {o : Tapi_Op} {at' n : Int} (h : Rt o at' n = true) (h0 : 0 ≤ at') : (o.a < 0 ∨ o.a < at') ∧ (o.b < 0 ∨ o.b < at') ∧ (o.d < 0 ∨ o.d < at') := by
  unfold Rt at h
  simp only [Bool.and_eq_true, decide_eq_true_eq] at h
  obtain ⟨h1, h2, h3⟩ := h.2.1
  unfold okReg at h1 h2 h3
  omega
def Twire_Machine.len (m : Twire_Machine) : Int := m.base + (m.ops.length : Int)
/-- is a mask to be drawn, and there is none? -/
def noMask (t : Ttape_Tape) : Prop := t.free < 1 ∨ (t.words.length : Int) - t.used.v < 1
instance (t : Ttape_Tape) : Decidable (noMask t) := by unfold noMask; infer_instance
def failM (m : Twire_Machine) (e : Int) : Int × Twire_Machine := (-1, ⟨m.n, m.most, m.base, m.words, m.draws, m.dry, m.openF, m.fromF, e, m.tape, m.ops, m.values, m.blocks⟩)
def pushM (m : Twire_Machine) (o : Tapi_Op) (x : Int) : Int × Twire_Machine :=
  if m.dry then (m.base, ⟨m.n, m.most, m.base + 1, if o.kind = 2 then m.words + 1 else m.words, if o.kind = 1 then m.draws + 1 else m.draws, m.dry, m.openF, m.fromF, m.bad, m.tape, m.ops, m.values, m.blocks⟩)
  else ((m.ops.length : Int), ⟨m.n, m.most, m.base, if o.kind = 2 then m.words + 1 else m.words, if o.kind = 1 then m.draws + 1 else m.draws, m.dry, m.openF, m.fromF, m.bad, m.tape, m.ops ++ [o], m.values ++ [evalI o (atI m.values o.a) (atI m.values o.b) (atI m.values o.d) x], m.blocks⟩)
def drawnM (m : Twire_Machine) : Twire_Machine := ⟨m.n, m.most, m.base, m.words, m.draws, m.dry, m.openF, m.fromF, m.bad, ⟨m.tape.words, ⟨m.tape.used.v + 1⟩, m.tape.free - 1⟩, m.ops, m.values, m.blocks⟩
def rightM (m : Twire_Machine) (o : Tapi_Op) : Bool := Rt o m.len m.n && (o.kind != 2 || o.c == m.words)
def doM (m : Twire_Machine) (o : Tapi_Op) (x : Int) : Int × Twire_Machine :=
  if m.bad ≠ 0 then (-1, m)
  else if rightM m o = false then failM m 1
  else if m.dry = false ∧ m.most ≤ (m.ops.length : Int) then failM m 3
  else if o.kind = 1 ∧ m.dry = false then
    (if noMask m.tape then failM m 2 else pushM (drawnM m) o (atI m.tape.words m.tape.used.v))
  else pushM m o x
/-- a machine that may be -/
structure MOk (m : Twire_Machine) : Prop where
  n : m.n = 2 ∨ m.n = 3
  most : m.most ≤ 1048576
  base : 0 ≤ m.base ∧ m.base ≤ 4611686018427387904
  words : 0 ≤ m.words ∧ m.words ≤ m.base + (m.ops.length : Int)
  draws : 0 ≤ m.draws ∧ m.draws ≤ m.base + (m.ops.length : Int)
  ops : m.ops.length ≤ 1048576
  vals : m.values.length = m.ops.length
  bad : 0 ≤ m.bad ∧ m.bad ≤ 3
  wvals : ∀ x ∈ m.values, IsW x
  wtape : ∀ x ∈ m.tape.words, IsW x
  used : 0 ≤ m.tape.used.v ∧ m.tape.used.v ≤ (m.tape.words.length : Int)
  free : m.tape.free ≤ (m.tape.words.length : Int)
  tlen : (m.tape.words.length : Int) ≤ 4611686018427387904
  wet : m.dry = false → m.base = 0
  dryV : m.dry = true → m.ops = []
theorem wrapI {x : Int} (h0 : -4611686018427387904 ≤ x) (h1 : x ≤ 4611686018427387904 * 3 / 2) : IntKind.i64.wrap x = x := wrap_i64_of (by omega) (by omega)
theorem Len_m (k : Nat) {m : Twire_Machine} (h : MOk m) : wire_Machine_Len.m k m = some m.len := by
  have := h.base; have := h.ops
  unfold wire_Machine_Len.m Twire_Machine.len
  rw [wrapI (by omega) (by omega)]
theorem right_m (k : Nat) {m : Twire_Machine} (h : MOk m) (o : Tapi_Op) : wire_Machine_right.m (k + 4) m o = some (rightM m o) := by
  have hw : IntKind.u64.wrap m.words = m.words := by have := h.words; have := h.base; have := h.ops; exact wrap_u64_of (by omega) (by omega)
  unfold wire_Machine_right.m wire_Machine_right.j1 rightM
  rw [Len_m _ h, Option.bind_some, op_Right_m _ _ _ _ h.n, Option.bind_some, hw]
  cases Rt o m.len m.n
  · rfl
  · rw [cond_true, Bool.true_and]
    cases hk : o.kind != 2
    · rw [cond_false, Bool.false_or]
    · rfl
theorem fail_m (k : Nat) (m : Twire_Machine) (e : Int) (h : m.bad = 0) : wire_Machine_fail.m k m e = some (failM m e) := by
  unfold wire_Machine_fail.m wire_Machine_fail.j1 failM
  rw [h]; rfl
theorem draw_no (k : Nat) {m : Twire_Machine} (h : MOk m) (hn : noMask m.tape) : tape_Tape_Draw.m k m.tape = some (0, false, m.tape) := by
  have := h.used; have := h.tlen
  unfold tape_Tape_Draw.m tape_Tape_Draw.j1 tape_Tape_Left.m tape_Tape_Used.m
  unfold noMask at hn
  by_cases hf : m.tape.free < 1
  · rw [decide_eq_true hf]; rfl
  · rw [decide_eq_false hf, cond_false, Option.bind_some, Option.bind_some, wrapI (by omega) (by omega), decide_eq_true (by omega)]; rfl
theorem draw_yes (k : Nat) {m : Twire_Machine} (h : MOk m) (hn : ¬ noMask m.tape) : tape_Tape_Draw.m k m.tape = some (atI m.tape.words m.tape.used.v, true, (drawnM m).tape) := by
  have h1 := h.used; have h2 := h.tlen; have h3 := h.free
  unfold noMask at hn
  have hlt : m.tape.used.v.toNat < m.tape.words.length := by omega
  unfold tape_Tape_Draw.m tape_Tape_Draw.j1 tape_Tape_Left.m tape_Tape_Used.m
  rw [decide_eq_false (show ¬ m.tape.free < 1 by omega), cond_false, Option.bind_some, Option.bind_some, wrapI (by omega) (by omega), decide_eq_false (by omega), cond_false, wrapI (x := m.tape.used.v + 1) (by omega) (by omega), show m.tape.used.v + 1 - 1 = m.tape.used.v by omega, wrapI (x := m.tape.used.v) (by omega) (by omega), wrapI (x := m.tape.free - 1) (by omega) (by omega),
    if_pos (by omega), List.getElem?_eq_getElem hlt, Option.bind_some]
  unfold atI drawnM
  rw [if_pos (by omega), List.getD_eq_getElem?_getD, List.getElem?_eq_getElem hlt]; rfl
theorem MOk.draw {m : Twire_Machine} (h : MOk m) (hn : ¬ noMask m.tape) : MOk (drawnM m) := by
  have h1 := h.used; have h2 := h.tlen; have h3 := h.free
  unfold noMask at hn
  exact ⟨h.n, h.most, h.base, h.words, h.draws, h.ops, h.vals, h.bad, h.wvals, h.wtape, ⟨by show 0 ≤ m.tape.used.v + 1; omega, by show m.tape.used.v + 1 ≤ (m.tape.words.length : Int); omega⟩, by show m.tape.free - 1 ≤ (m.tape.words.length : Int); omega, h.tlen, h.wet, h.dryV⟩
theorem push_j3 (k : Nat) {m : Twire_Machine} (h : MOk m) (o : Tapi_Op) (x : Int) (hc : IsW o.c) (hx : IsW x) (hr : Rt o m.len m.n = true) (hb : m.base < 4611686018427387904) (hl : m.dry = false → m.ops.length < 1048576) (w d : Int) :
    wire_Machine_Do.j3 k o x ⟨m.n, m.most, m.base, w, d, m.dry, m.openF, m.fromF, m.bad, m.tape, m.ops, m.values, m.blocks⟩ =
      some (if m.dry then (m.base, ⟨m.n, m.most, m.base + 1, w, d, m.dry, m.openF, m.fromF, m.bad, m.tape, m.ops, m.values, m.blocks⟩) else ((m.ops.length : Int), ⟨m.n, m.most, m.base, w, d, m.dry, m.openF, m.fromF, m.bad, m.tape, m.ops ++ [o], m.values ++ [evalI o (atI m.values o.a) (atI m.values o.b) (atI m.values o.d) x], m.blocks⟩)) := by
  have h1 := h.base; have h2 := h.ops; have h3 := h.vals
  unfold wire_Machine_Do.j3
  cases hd : m.dry
  · have hb0 := h.wet hd
    have hlen : m.len = (m.ops.length : Int) := by unfold Twire_Machine.len; omega
    have hg := Rt_regs hr (by rw [hlen]; omega)
    rw [hlen] at hg
    have hl := hl hd
    have value : ∀ r : Int, r < 0 ∨ r < (m.ops.length : Int) → wire_Machine_value.m k ⟨m.n, m.most, m.base, w, d, false, m.openF, m.fromF, m.bad, m.tape, m.ops, m.values, m.blocks⟩ r = some (atI m.values r) := fun r hr => value_m k ⟨m.n, m.most, m.base, w, d, false, m.openF, m.fromF, m.bad, m.tape, m.ops, m.values, m.blocks⟩ r (by show r < 0 ∨ r < (m.values.length : Int); omega)
    dsimp only
    rw [cond_false, value _ hg.1, Option.bind_some, value _ hg.2.1, Option.bind_some, value _ hg.2.2, Option.bind_some,
      op_Eval_m k o _ _ _ _ hc (atI_w h.wvals _) (atI_w h.wvals _) (atI_w h.wvals _) hx, Option.bind_some, if_pos (by simp only [List.length_cons, List.length_nil]; omega), if_pos (by simp only [List.length_cons, List.length_nil]; omega)]
    rw [List.length_append, List.length_cons, List.length_nil, wrapI (by omega) (by omega), show (((m.ops.length + (0 + 1) : Nat)) : Int) - 1 = (m.ops.length : Int) by omega]
    rfl
  · dsimp only
    rw [cond_true, wrapI (x := m.base + 1) (by omega) (by omega), show m.base + 1 - 1 = m.base by omega, wrapI (by omega) (by omega)]; rfl
theorem push_j2 (k : Nat) {m : Twire_Machine} (h : MOk m) (o : Tapi_Op) (x : Int) (hc : IsW o.c) (hx : IsW x) (hr : Rt o m.len m.n = true) (hb : m.base < 4611686018427387904) (hl : m.dry = false → m.ops.length < 1048576) :
    wire_Machine_Do.j2 k o m x = some (pushM m o x) := by
  have h1 := h.base; have h2 := h.ops; have h3 := h.words; have h4 := h.draws
  have e1 : IntKind.i64.wrap (m.draws + 1) = m.draws + 1 := wrapI (by omega) (by omega)
  have e2 : IntKind.i64.wrap (m.words + 1) = m.words + 1 := wrapI (by omega) (by omega)
  unfold wire_Machine_Do.j2 pushM
  by_cases k1 : o.kind = 1
  · rw [k1]
    simp only [show ((1 : Int) == 1) = true from rfl, cond_true, e1]
    rw [push_j3 k h o x hc hx hr hb hl]; rfl
  · by_cases k2 : o.kind = 2
    · rw [k2]
      simp only [show ((2 : Int) == 1) = false from rfl, show ((2 : Int) == 2) = true from rfl, cond_true, cond_false, e2]
      rw [push_j3 k h o x hc hx hr hb hl]; rfl
    · rw [beqF k1, beqF k2, cond_false, cond_false, if_neg k1, if_neg k2]
      exact push_j3 k h o x hc hx hr hb hl m.words m.draws
theorem Do_m (k : Nat) {m : Twire_Machine} (h : MOk m) (o : Tapi_Op) (x : Int) (hc : IsW o.c) (hx : IsW x) (hb : m.base < 4611686018427387904) : wire_Machine_Do.m (k + 4) m o x = some (doM m o x) := by
  have h2 := h.ops; have h5 := h.most
  unfold wire_Machine_Do.m doM
  by_cases b0 : m.bad = 0
  · rw [show (m.bad != 0) = false by simp [b0], cond_false, if_neg (by omega), right_m k h, Option.bind_some]
    cases hr : rightM m o
    · rw [Bool.not_false, cond_true, fail_m _ _ _ b0, Option.bind_some, if_pos rfl]
    · have hR : Rt o m.len m.n = true := by unfold rightM at hr; rw [Bool.and_eq_true] at hr; exact hr.1
      rw [Bool.not_true, cond_false, if_neg (by simp)]
      unfold wire_Machine_Do.j1
      cases hd : m.dry
      · rw [Bool.not_false, cond_true]
        by_cases hm : m.most ≤ (m.ops.length : Int)
        · rw [decide_eq_true (show ((m.ops.length : Nat) : Int) ≥ m.most from hm), cond_true, fail_m _ _ _ b0, Option.bind_some, if_pos ⟨rfl, hm⟩]
        · rw [decide_eq_false (show ¬ ((m.ops.length : Nat) : Int) ≥ m.most from hm), cond_false, if_neg (fun h => hm h.2)]
          by_cases k1 : o.kind = 1
          · rw [show ((o.kind == 1) && true) = true by simp [k1], cond_true, cond_false, if_pos ⟨k1, rfl⟩]
            by_cases hn : noMask m.tape
            · rw [draw_no _ h hn, Option.bind_some, if_pos hn]
              dsimp only
              rw [Bool.not_false, cond_true, ← hd, fail_m _ _ _ b0, Option.bind_some]
            · rw [draw_yes _ h hn, Option.bind_some, if_neg hn]
              dsimp only
              rw [Bool.not_true, cond_false, ← hd]
              exact push_j2 (k + 4) (h.draw hn) o _ hc (atI_w h.wtape _) hR hb (fun _ => by show m.ops.length < 1048576; omega)
          · rw [show ((o.kind == 1) && true) = false by rw [beqF k1]; rfl, cond_false, if_neg (fun h => k1 h.1)]
            exact push_j2 (k + 4) h o x hc hx hR hb (fun _ => by omega)
      · rw [Bool.not_true, cond_false, cond_false, Bool.and_false, cond_false, if_neg (fun h => by cases h.1), if_neg (fun h => by cases h.2)]
        exact push_j2 (k + 4) h o x hc hx hR hb (fun e => by rw [hd] at e; cases e)
  · rw [show (m.bad != 0) = true by simp [b0], cond_true, if_pos b0]
theorem pushM_wet {m : Twire_Machine} (hd : m.dry = false) (o : Tapi_Op) (x : Int) : pushM m o x = ((m.ops.length : Int), ⟨m.n, m.most, m.base, if o.kind = 2 then m.words + 1 else m.words, if o.kind = 1 then m.draws + 1 else m.draws, m.dry, m.openF, m.fromF, m.bad, m.tape, m.ops ++ [o], m.values ++ [evalI o (atI m.values o.a) (atI m.values o.b) (atI m.values o.d) x], m.blocks⟩) := by
  unfold pushM; rw [if_neg (by rw [hd]; simp)]
theorem pushM_dry {m : Twire_Machine} (hd : m.dry = true) (o : Tapi_Op) (x : Int) : pushM m o x = (m.base, ⟨m.n, m.most, m.base + 1, if o.kind = 2 then m.words + 1 else m.words, if o.kind = 1 then m.draws + 1 else m.draws, m.dry, m.openF, m.fromF, m.bad, m.tape, m.ops, m.values, m.blocks⟩) := by
  unfold pushM; rw [if_pos hd]
theorem up_le (c : Prop) [Decidable c] {a b : Int} (h0 : 0 ≤ a ∧ a ≤ b) : 0 ≤ (if c then a + 1 else a) ∧ (if c then a + 1 else a) ≤ b + 1 := by split <;> omega
theorem MOk.push {m : Twire_Machine} (h : MOk m) (o : Tapi_Op) (x : Int) (hb : m.base < 4611686018427387904) (hl : m.dry = false → m.ops.length < 1048576) : MOk (pushM m o x).2 := by
  have h1 := h.base; have h2 := h.ops; have h5 := h.vals
  cases hd : m.dry
  · have hl := hl hd
    have hb0 := h.wet hd
    rw [pushM_wet hd]
    refine ⟨h.n, h.most, h.base, ?_, ?_, ?_, ?_, h.bad, ?_, h.wtape, h.used, h.free, h.tlen, fun _ => hb0, fun e => (by rw [hd] at e; cases e)⟩
    · have := up_le (o.kind = 2) h.words
      simp only [List.length_append, List.length_cons, List.length_nil]; omega
    · have := up_le (o.kind = 1) h.draws
      simp only [List.length_append, List.length_cons, List.length_nil]; omega
    · simp only [List.length_append, List.length_cons, List.length_nil]; omega
    · simp only [List.length_append, List.length_cons, List.length_nil]; omega
    · intro y hy
      rcases List.mem_append.1 hy with hy | hy
      · exact h.wvals y hy
      · rw [List.mem_singleton.1 hy]; exact evalI_w _ _ _ _ _
  · rw [pushM_dry hd]
    refine ⟨h.n, h.most, ⟨by show 0 ≤ m.base + 1; omega, by show m.base + 1 ≤ 4611686018427387904; omega⟩, ?_, ?_, h.ops, h.vals, h.bad, h.wvals, h.wtape, h.used, h.free, h.tlen, fun e => (by rw [hd] at e; cases e), fun _ => h.dryV hd⟩
    · have := up_le (o.kind = 2) h.words
      dsimp only; omega
    · have := up_le (o.kind = 1) h.draws
      dsimp only; omega
theorem MOk.fail {m : Twire_Machine} (h : MOk m) (e : Int) (he : 0 ≤ e ∧ e ≤ 3) : MOk (failM m e).2 :=
  ⟨h.n, h.most, h.base, h.words, h.draws, h.ops, h.vals, he, h.wvals, h.wtape, h.used, h.free, h.tlen, h.wet, h.dryV⟩
theorem MOk.did {m : Twire_Machine} (h : MOk m) (o : Tapi_Op) (x : Int) (hb : m.base < 4611686018427387904) : MOk (doM m o x).2 := by
  have h5 := h.most
  unfold doM
  repeat' split
  · exact h
  · exact h.fail 1 (by omega)
  · exact h.fail 3 (by omega)
  · exact h.fail 2 (by omega)
  · rename_i h1 h2 hn; exact (h.draw hn).push o _ hb (fun hd => by show m.ops.length < 1048576; have : ¬ m.most ≤ (m.ops.length : Int) := fun e => h1 ⟨hd, e⟩; omega)
  · rename_i h1 h2; exact h.push o x hb (fun hd => by have : ¬ m.most ≤ (m.ops.length : Int) := fun e => h1 ⟨hd, e⟩; omega)
/-! Begin, End, and what stays true of a machine: its words are what its ops make. -/
theorem Do_k {k : Nat} (hk : 4 ≤ k) {m : Twire_Machine} (h : MOk m) (o : Tapi_Op) (x : Int) (hc : IsW o.c) (hx : IsW x) (hb : m.base < 4611686018427387904) : wire_Machine_Do.m k m o x = some (doM m o x) := by
  obtain ⟨j, rfl⟩ : ∃ j, k = j + 4 := ⟨k - 4, by omega⟩
  exact Do_m j h o x hc hx hb
theorem next_m (k : Nat) {m : Twire_Machine} (h : MOk m) : wire_Machine_next.m k m = some m.words := by
  have := h.words; have := h.base; have := h.ops
  unfold wire_Machine_next.m
  rw [wrap_u64_of (by omega) (by omega)]
theorem words_w {m : Twire_Machine} (h : MOk m) : IsW m.words := by
  have := h.words; have := h.base; have := h.ops
  unfold IsW; omega
theorem Key_k {k : Nat} (hk : 4 ≤ k) {m : Twire_Machine} (h : MOk m) (x a b : Int) (hx : IsW x) (hb : m.base < 4611686018427387904) : wire_Machine_Key.m k m x a b = some (doM m ⟨2, 0, a, b, -1, m.words⟩ x) := by
  unfold wire_Machine_Key.m
  rw [next_m _ h, Option.bind_some, Do_k hk h _ _ (words_w h) hx hb, Option.bind_some]
def beginM (m : Twire_Machine) (kd : Int) : Twire_Machine :=
  if m.bad ≠ 0 then m else if m.openF ≠ 0 ∨ kd < 1 ∨ kd > 3 then (failM m 1).2 else ⟨m.n, m.most, m.base, m.words, m.draws, m.dry, kd, m.len, m.bad, m.tape, m.ops, m.values, m.blocks⟩
def endM (m : Twire_Machine) : Twire_Machine :=
  if m.bad ≠ 0 then m else if m.openF = 0 then (failM m 1).2 else ⟨m.n, m.most, m.base, m.words, m.draws, m.dry, 0, m.fromF, m.bad, m.tape, m.ops, m.values, if m.fromF < m.len ∧ m.dry = false then m.blocks ++ [⟨m.openF, m.fromF, m.len⟩] else m.blocks⟩
theorem Begin_m (k : Nat) {m : Twire_Machine} (h : MOk m) (kd : Int) : wire_Machine_Begin.m k m kd = some (beginM m kd) := by
  unfold wire_Machine_Begin.m beginM
  by_cases b0 : m.bad = 0
  · rw [show (m.bad != 0) = false by simp [b0], cond_false, if_neg (by omega)]
    by_cases c : m.openF ≠ 0 ∨ kd < 1 ∨ kd > 3
    · have e : ((m.openF != 0) || decide (kd < 1) || decide (kd > 3)) = true := by
        simp only [Bool.or_eq_true, bne_iff_ne, ne_eq, decide_eq_true_eq]; rcases c with c | c | c <;> simp [c]
      rw [e, cond_true, fail_m _ _ _ b0, Option.bind_some, if_pos c]
    · have e : ((m.openF != 0) || decide (kd < 1) || decide (kd > 3)) = false := by
        simp only [Bool.or_eq_false_iff, bne_eq_false_iff_eq, decide_eq_false_iff_not]; omega
      rw [e, cond_false, Len_m _ h, Option.bind_some, if_neg c]
  · rw [show (m.bad != 0) = true by simp [b0], cond_true, if_pos b0]
theorem End_m (k : Nat) {m : Twire_Machine} (h : MOk m) (hbl : m.blocks.length ≤ 2097152) : wire_Machine_End.m k m = some (endM m) := by
  unfold wire_Machine_End.m endM
  by_cases b0 : m.bad = 0
  · rw [show (m.bad != 0) = false by simp [b0], cond_false, if_neg (show ¬ m.bad ≠ 0 by omega)]
    by_cases c : m.openF = 0
    · rw [show (m.openF == 0) = true by simp [c], cond_true, fail_m _ _ _ b0, Option.bind_some, if_pos c]
    · rw [beqF c, cond_false, Len_m _ h, Option.bind_some, if_neg c]
      unfold wire_Machine_End.j1 wire_Machine_End.j2
      rw [Len_m _ h, Option.bind_some, if_pos (by simp only [List.length_cons, List.length_nil]; omega)]
      dsimp only
      by_cases c2 : m.fromF < m.len
      · rw [decide_eq_true (show m.len > m.fromF from c2), cond_true]
        cases hd : m.dry
        · rw [Bool.not_false, cond_true, if_pos ⟨c2, rfl⟩]
        · rw [Bool.not_true, cond_false, if_neg (fun h => by cases h.2)]
      · rw [decide_eq_false (show ¬ m.len > m.fromF from c2), cond_false, cond_false, if_neg (fun h => c2 h.1)]
  · rw [show (m.bad != 0) = true by simp [b0], cond_true, if_pos b0]
/-! ops that are made, one by one -/
def cnt (kd : Int) (l : List Tapi_Op) : Nat := l.countP fun o => o.kind == kd
def outw (T K : List Int) (ops : List Tapi_Op) (o : Tapi_Op) : Int := if o.kind = 1 then T.getD (cnt 1 ops) 0 else if o.kind = 2 then K.getD o.c.toNat 0 else 0
inductive Made (n : Int) (T K : List Int) : List Tapi_Op → List Int → Prop
  | nil : Made n T K [] []
  | snoc {ops : List Tapi_Op} {vals : List Int} {o : Tapi_Op} {v : Int} : Made n T K ops vals → Rt o (ops.length : Int) n = true → (o.kind = 2 → o.c = (cnt 2 ops : Int)) → IsW o.c →
      v = evalI o (atI vals o.a) (atI vals o.b) (atI vals o.d) (outw T K ops o) → Made n T K (ops ++ [o]) (vals ++ [v])
theorem Made.len {n : Int} {T K : List Int} {ops : List Tapi_Op} {vals : List Int} (h : Made n T K ops vals) : vals.length = ops.length := by
  induction h with
  | nil => rfl
  | snoc _ _ _ _ _ ih => simp [ih]
theorem Made.at {n : Int} {T K : List Int} {ops : List Tapi_Op} {vals : List Int} (h : Made n T K ops vals) : ∀ (i : Nat) (o : Tapi_Op) (v : Int), ops[i]? = some o → vals[i]? = some v →
    Rt o (i : Int) n = true ∧ (o.kind = 2 → o.c = (cnt 2 (ops.take i) : Int)) ∧ IsW o.c ∧ v = evalI o (atI vals o.a) (atI vals o.b) (atI vals o.d) (outw T K (ops.take i) o) := by
  induction h with
  | nil => intro i o v h; simp at h
  | @snoc ops vals o' v' hm h1 h2 h3 h4 ih =>
    intro i o v ho hv
    have hl := hm.len
    by_cases hi : i < ops.length
    · rw [List.getElem?_append_left hi] at ho
      rw [List.getElem?_append_left (by omega)] at hv
      obtain ⟨a1, a2, a3, a4⟩ := ih i o v ho hv
      have hr := Rt_regs a1 (by omega)
      rw [List.take_append_of_le_length (by omega)]
      refine ⟨a1, a2, a3, ?_⟩
      rw [atI_append (by omega), atI_append (by omega), atI_append (by omega)]; exact a4
    · have e : i = ops.length := by
        have := (List.getElem?_eq_some_iff.1 ho).1
        simp at this; omega
      subst e
      rw [List.getElem?_append_right (Nat.le_refl _), Nat.sub_self] at ho
      rw [← hl, List.getElem?_append_right (Nat.le_refl _), Nat.sub_self] at hv
      cases ho; cases hv
      have hr := Rt_regs h1 (by omega)
      rw [List.take_left]
      refine ⟨h1, h2, h3, ?_⟩
      rw [atI_append (by omega), atI_append (by omega), atI_append (by omega)]; exact h4
/-- blocks in order, from 'last' on, within so many ops -/
def BlOk (len : Int) : Int → List Tapi_Span → Prop
  | _, [] => True
  | last, b :: l => 1 ≤ b.kind ∧ b.kind ≤ 3 ∧ last ≤ b.fromF ∧ b.fromF < b.to ∧ b.to ≤ len ∧ BlOk len b.to l
def lastTo : Int → List Tapi_Span → Int
  | last, [] => last
  | _, b :: l => lastTo b.to l
theorem BlOk.mono {len len' : Int} (hl : len ≤ len') : ∀ {l : List Tapi_Span} {last : Int}, BlOk len last l → BlOk len' last l
  | [], _, _ => trivial
  | b :: l, _, ⟨h1, h2, h3, h4, h5, h6⟩ => ⟨h1, h2, h3, h4, by omega, BlOk.mono hl h6⟩
theorem BlOk.snoc {len : Int} {b : Tapi_Span} : ∀ {l : List Tapi_Span} {last : Int}, BlOk len last l → 1 ≤ b.kind → b.kind ≤ 3 → lastTo last l ≤ b.fromF → b.fromF < b.to → b.to ≤ len → BlOk len last (l ++ [b])
  | [], _, _, g1, g2, g3, g4, g5 => ⟨g1, g2, g3, g4, g5, trivial⟩
  | _ :: _, _, ⟨h1, h2, h3, h4, h5, h6⟩, g1, g2, g3, g4, g5 => ⟨h1, h2, h3, h4, h5, BlOk.snoc h6 g1 g2 g3 g4 g5⟩
theorem BlOk.count {len : Int} : ∀ {l : List Tapi_Span} {last : Int}, BlOk len last l → last + (l.length : Int) ≤ lastTo last l ∧ (last ≤ len → lastTo last l ≤ len)
  | [], last, _ => by simp [lastTo]
  | b :: l, last, ⟨h1, h2, h3, h4, h5, h6⟩ => by
    have := BlOk.count h6
    simp only [lastTo, List.length_cons]; omega
/-! The document's machine is the program's, seen otherwise. -/
def absT (t : Ttape_Tape) : Tvisorref02_T := ⟨t.words.drop t.used.v.toNat, t.used.v, t.free⟩
def absM (m : Twire_Machine) : Tvisorref19_M := ⟨m.n, m.most, m.words, m.draws, m.fromF, 0, m.openF, m.bad, m.ops, m.blocks, m.values, absT m.tape, m.dry⟩
/-! A wet machine that may be, with what is done to it as total functions: by the program, and by the document. -/
structure WMok (m : Twire_Machine) : Prop where
  ok : MOk m
  dry : m.dry = false
  bl : BlOk (m.ops.length : Int) 0 m.blocks
  fr : lastTo 0 m.blocks ≤ m.fromF ∨ m.openF = 0
  op : 0 ≤ m.openF ∧ m.openF ≤ 3
theorem WMok.len {m : Twire_Machine} (h : WMok m) : m.len = (m.ops.length : Int) := by
  unfold Twire_Machine.len; rw [h.ok.wet h.dry]; omega
theorem WMok.fail {m : Twire_Machine} (h : WMok m) (e : Int) (he : 0 ≤ e ∧ e ≤ 3) : WMok (failM m e).2 := ⟨h.ok.fail e he, h.dry, h.bl, h.fr, h.op⟩
theorem doM_keeps (m : Twire_Machine) (o : Tapi_Op) (x : Int) : (doM m o x).2.dry = m.dry ∧ (doM m o x).2.blocks = m.blocks ∧ (doM m o x).2.fromF = m.fromF ∧ (doM m o x).2.openF = m.openF ∧ (doM m o x).2.n = m.n := by
  unfold doM failM pushM drawnM
  repeat' split
  all_goals exact ⟨rfl, rfl, rfl, rfl, rfl⟩
theorem doM_grows (m : Twire_Machine) (o : Tapi_Op) (x : Int) : m.ops.length ≤ (doM m o x).2.ops.length := by
  unfold doM failM pushM drawnM
  repeat' split
  all_goals first | exact Nat.le_refl _ | (simp only [List.length_append]; omega)
theorem WMok.did {m : Twire_Machine} (h : WMok m) (o : Tapi_Op) (x : Int) : WMok (doM m o x).2 := by
  obtain ⟨h1, h2, h3, h4, _⟩ := doM_keeps m o x
  have hg := doM_grows m o x
  refine ⟨h.ok.did o x (by rw [h.ok.wet h.dry]; omega), by rw [h1]; exact h.dry, ?_, ?_, ?_⟩
  · rw [h2]; exact h.bl.mono (by omega)
  · rw [h2, h3, h4]; exact h.fr
  · rw [h4]; exact h.op
theorem WMok.begin {m : Twire_Machine} (h : WMok m) (kd : Int) : WMok (beginM m kd) := by
  have hb := h.bl.count
  unfold beginM
  repeat' split
  · exact h
  · exact h.fail 1 (by omega)
  · refine ⟨⟨h.ok.n, h.ok.most, h.ok.base, h.ok.words, h.ok.draws, h.ok.ops, h.ok.vals, h.ok.bad, h.ok.wvals, h.ok.wtape, h.ok.used, h.ok.free, h.ok.tlen, h.ok.wet, h.ok.dryV⟩, h.dry, h.bl, .inl ?_, ?_⟩
    · show lastTo 0 m.blocks ≤ m.len
      rw [h.len]; omega
    · show 0 ≤ kd ∧ kd ≤ 3
      omega
theorem WMok.fin {m : Twire_Machine} (h : WMok m) : WMok (endM m) := by
  unfold endM
  have ho := h.op
  split
  · exact h
  · split
    · exact h.fail 1 (by omega)
    · rename_i h1 h2
      have hok : MOk ⟨m.n, m.most, m.base, m.words, m.draws, m.dry, 0, m.fromF, m.bad, m.tape, m.ops, m.values, if m.fromF < m.len ∧ m.dry = false then m.blocks ++ [⟨m.openF, m.fromF, m.len⟩] else m.blocks⟩ :=
        ⟨h.ok.n, h.ok.most, h.ok.base, h.ok.words, h.ok.draws, h.ok.ops, h.ok.vals, h.ok.bad, h.ok.wvals, h.ok.wtape, h.ok.used, h.ok.free, h.ok.tlen, h.ok.wet, h.ok.dryV⟩
      refine ⟨hok, h.dry, ?_, .inr rfl, ⟨Int.le_refl 0, by show (0 : Int) ≤ 3; omega⟩⟩
      show BlOk (m.ops.length : Int) 0 (if m.fromF < m.len ∧ m.dry = false then m.blocks ++ [⟨m.openF, m.fromF, m.len⟩] else m.blocks)
      split
      · rename_i h3
        refine h.bl.snoc (by show 1 ≤ m.openF; omega) (by show m.openF ≤ 3; omega) (by show lastTo 0 m.blocks ≤ m.fromF; rcases h.fr with e | e <;> omega) h3.1 (by show m.len ≤ _; rw [h.len]; omega)
      · exact h.bl
structure WM where
  m : Twire_Machine
  w : WMok m
def WM.D (M : WM) (o : Tapi_Op) (x : Int) : Int × WM := ((doM M.m o x).1, ⟨(doM M.m o x).2, M.w.did o x⟩)
def WM.B (M : WM) (kd : Int) : WM := ⟨beginM M.m kd, M.w.begin kd⟩
def WM.E (M : WM) : WM := ⟨endM M.m, M.w.fin⟩
theorem WM.blocks (M : WM) : M.m.blocks.length ≤ 1048576 := by
  have := M.w.bl.count; have := M.w.ok.ops; omega
theorem N_w (k : Nat) (M : WM) : wire_Machine_N.m k M.m = some M.m.n := rfl
theorem D_n (M : WM) (o : Tapi_Op) (x : Int) : (M.D o x).2.m.n = M.m.n := (doM_keeps M.m o x).2.2.2.2
theorem B_n (M : WM) (kd : Int) : (M.B kd).m.n = M.m.n := by
  show (beginM M.m kd).n = M.m.n
  unfold beginM failM; repeat' split
  all_goals rfl
theorem E_n (M : WM) : M.E.m.n = M.m.n := by
  show (endM M.m).n = M.m.n
  unfold endM failM; repeat' split
  all_goals rfl
theorem Do_w {k : Nat} (hk : 4 ≤ k) (M : WM) (o : Tapi_Op) (x : Int) (hc : IsW o.c) (hx : IsW x) : wire_Machine_Do.m k M.m o x = some ((M.D o x).1, (M.D o x).2.m) := Do_k hk M.w.ok o x hc hx (by rw [M.w.ok.wet M.w.dry]; omega)
theorem Two_w {k : Nat} (hk : 4 ≤ k) (M : WM) (kd dom a b : Int) : wire_Machine_Two.m k M.m kd dom a b = some ((M.D ⟨kd, dom, a, b, -1, 0⟩ 0).1, (M.D ⟨kd, dom, a, b, -1, 0⟩ 0).2.m) := by
  unfold wire_Machine_Two.m; rw [Do_w hk M _ _ isW_zero isW_zero]; rfl
theorem Rand_w {k : Nat} (hk : 4 ≤ k) (M : WM) (dom : Int) : wire_Machine_Rand.m k M.m dom = some ((M.D ⟨1, dom, -1, -1, -1, 0⟩ 0).1, (M.D ⟨1, dom, -1, -1, -1, 0⟩ 0).2.m) := by
  unfold wire_Machine_Rand.m; rw [Do_w hk M _ _ isW_zero isW_zero]; rfl
theorem Key_w {k : Nat} (hk : 4 ≤ k) (M : WM) (x a b : Int) (hx : IsW x) : wire_Machine_Key.m k M.m x a b = some ((M.D ⟨2, 0, a, b, -1, M.m.words⟩ x).1, (M.D ⟨2, 0, a, b, -1, M.m.words⟩ x).2.m) := Key_k hk M.w.ok x a b hx (by rw [M.w.ok.wet M.w.dry]; omega)
theorem Begin_w (k : Nat) (M : WM) (kd : Int) : wire_Machine_Begin.m k M.m kd = some (M.B kd).m := Begin_m k M.w.ok kd
theorem End_w (k : Nat) (M : WM) : wire_Machine_End.m k M.m = some M.E.m := End_m k M.w.ok (by have := M.blocks; omega)
theorem W2 : IntKind.i64.wrap (1 + 1) = 2 := by decide
theorem W3 : IntKind.i64.wrap (2 + 1) = 3 := by decide
theorem W01 : IntKind.i64.wrap (0 + 1) = 1 := by decide
/-! What a machine's registers hold, and what words stand for. -/
def Val (M : WM) (r : Int) (x : BitVec 64) : Prop := 0 ≤ r ∧ M.m.values[r.toNat]? = some (u x)
structure Ext (M M' : WM) : Prop where
  n : M'.m.n = M.m.n
  bad : M'.m.bad = 0 → M.m.bad = 0
  vals : ∃ l, M'.m.values = M.m.values ++ l
theorem Ext.refl (M : WM) : Ext M M := ⟨rfl, id, [], by simp⟩
theorem Ext.trans {M N P : WM} (h : Ext M N) (g : Ext N P) : Ext M P := by
  obtain ⟨l, hl⟩ := h.vals
  obtain ⟨l', hl'⟩ := g.vals
  exact ⟨g.n.trans h.n, fun e => h.bad (g.bad e), l ++ l', by rw [hl', hl, List.append_assoc]⟩
theorem Val.ext {M M' : WM} {r : Int} {x : BitVec 64} (h : Val M r x) (e : Ext M M') : Val M' r x := by
  obtain ⟨l, hl⟩ := e.vals
  refine ⟨h.1, ?_⟩
  have := (List.getElem?_eq_some_iff.1 h.2).1
  rw [hl, List.getElem?_append_left this]; exact h.2
theorem Val.at {M : WM} {r : Int} {x : BitVec 64} (h : Val M r x) : atI M.m.values r = u x := by
  have := (List.getElem?_eq_some_iff.1 h.2).1
  have h0 := h.1
  unfold atI
  rw [if_pos (by omega), List.getD_eq_getElem?_getD, h.2]; rfl
theorem doM_ext (M : WM) (o : Tapi_Op) (x : Int) : ((M.D o x).2.m.bad = 0 → M.m.bad = 0) ∧ (∃ l, (M.D o x).2.m.values = M.m.values ++ l) := by
  show ((doM M.m o x).2.bad = 0 → M.m.bad = 0) ∧ (∃ l, (doM M.m o x).2.values = M.m.values ++ l)
  have hd := M.w.dry
  unfold doM
  repeat' split
  · exact ⟨id, [], by simp⟩
  · exact ⟨fun h => by simp [failM] at h, [], by simp [failM]⟩
  · exact ⟨fun h => by simp [failM] at h, [], by simp [failM]⟩
  · exact ⟨fun h => by simp [failM] at h, [], by simp [failM]⟩
  · rw [pushM_wet (m := drawnM M.m) hd]; exact ⟨id, _, rfl⟩
  · rw [pushM_wet hd]; exact ⟨id, _, rfl⟩
theorem D_ext (M : WM) (o : Tapi_Op) (x : Int) : Ext M (M.D o x).2 := ⟨D_n M o x, (doM_ext M o x).1, (doM_ext M o x).2⟩
theorem B_ext (M : WM) (kd : Int) : Ext M (M.B kd) := by
  refine ⟨B_n M kd, ?_, [], ?_⟩
  · show (beginM M.m kd).bad = 0 → M.m.bad = 0
    unfold beginM failM; repeat' split
    · exact id
    · intro h; cases h
    · exact id
  · show (beginM M.m kd).values = M.m.values ++ []
    unfold beginM failM; repeat' split
    all_goals simp
theorem E_ext (M : WM) : Ext M M.E := by
  refine ⟨E_n M, ?_, [], ?_⟩
  · show (endM M.m).bad = 0 → M.m.bad = 0
    unfold endM failM; repeat' split
    all_goals first | exact id | (intro h; cases h)
  · show (endM M.m).values = M.m.values ++ []
    unfold endM failM; repeat' split
    all_goals simp
/-- what a Do without an error leaves -/
theorem D_val (M : WM) (o : Tapi_Op) (x : Int) (h : (M.D o x).2.m.bad = 0) : Rt o (M.m.ops.length : Int) M.m.n = true ∧ ∃ z, (o.kind ≠ 1 → z = x) ∧ Val (M.D o x).2 (M.D o x).1 (evalW o.kind (BitVec.ofInt 64 o.c) (BitVec.ofInt 64 (atI M.m.values o.a)) (BitVec.ofInt 64 (atI M.m.values o.b)) (BitVec.ofInt 64 (atI M.m.values o.d)) (BitVec.ofInt 64 z)) := by
  change (doM M.m o x).2.bad = 0 at h
  show Rt o (M.m.ops.length : Int) M.m.n = true ∧ ∃ z, _ ∧ (0 ≤ (doM M.m o x).1 ∧ (doM M.m o x).2.values[(doM M.m o x).1.toNat]? = _)
  have hd := M.w.dry
  have hl := M.w.ok.vals
  have hlen := M.w.len
  have h' := (doM_ext M o x).1 h
  unfold doM at h ⊢
  rw [if_neg (by omega)] at h ⊢
  by_cases hr : rightM M.m o = false
  · rw [if_pos hr] at h; cases h
  · rw [if_neg hr] at h ⊢
    have hR : Rt o (M.m.ops.length : Int) M.m.n = true := by
      rw [Bool.not_eq_false] at hr
      unfold rightM at hr; rw [Bool.and_eq_true, hlen] at hr; exact hr.1
    refine ⟨hR, ?_⟩
    by_cases hm : M.m.dry = false ∧ M.m.most ≤ (M.m.ops.length : Int)
    · rw [if_pos hm] at h; cases h
    · rw [if_neg hm] at h ⊢
      by_cases k1 : o.kind = 1 ∧ M.m.dry = false
      · rw [if_pos k1] at h ⊢
        by_cases hn : noMask M.m.tape
        · rw [if_pos hn] at h; cases h
        · rw [if_neg hn] at h ⊢
          refine ⟨atI M.m.tape.words M.m.tape.used.v, fun e => absurd k1.1 e, ?_⟩
          rw [pushM_wet (m := drawnM M.m) hd]
          refine ⟨by show (0 : Int) ≤ ((M.m.ops.length : Nat) : Int); omega, ?_⟩
          show (M.m.values ++ [_])[(M.m.ops.length : Int).toNat]? = _
          rw [Int.toNat_natCast, ← hl, List.getElem?_append_right (Nat.le_refl _), Nat.sub_self]; rfl
      · rw [if_neg k1] at h ⊢
        refine ⟨x, fun _ => rfl, ?_⟩
        rw [pushM_wet hd]
        refine ⟨by show (0 : Int) ≤ ((M.m.ops.length : Nat) : Int); omega, ?_⟩
        show (M.m.values ++ [_])[(M.m.ops.length : Int).toNat]? = _
        rw [Int.toNat_natCast, ← hl, List.getElem?_append_right (Nat.le_refl _), Nat.sub_self]; rfl
/-- what a word stands for -/
def Stands (M : WM) (a b c : Int) (x : BitVec 64) : Prop :=
  (M.m.n = 2 ∧ c = -1 ∧ ∃ p q, Val M a p ∧ Val M b q ∧ x = p ^^^ q) ∨ (M.m.n = 3 ∧ ∃ p q r, Val M a p ∧ Val M b q ∧ Val M c r ∧ x = p ^^^ q ^^^ r)
theorem Stands.ext {M M' : WM} {a b c : Int} {x : BitVec 64} (h : Stands M a b c x) (e : Ext M M') : Stands M' a b c x := by
  rcases h with ⟨hn, hc, p, q, h1, h2, h3⟩ | ⟨hn, p, q, r, h1, h2, h3, h4⟩
  · exact .inl ⟨e.n.trans hn, hc, p, q, h1.ext e, h2.ext e, h3⟩
  · exact .inr ⟨e.n.trans hn, p, q, r, h1.ext e, h2.ext e, h3.ext e, h4⟩
/-! One step of a chain of calls, by what it leaves. -/
theorem bstep {α β : Type} {o : Option α} {v : α} {f : α → Option β} {r : Option β} (h : o = some v) (h2 : f v = r) : o.bind f = r := by rw [h]; exact h2
theorem bifT {α : Type} {c : Bool} {x y r : α} (h : c = true) (h2 : x = r) : (bif c then x else y) = r := by rw [h]; exact h2
theorem bifF {α : Type} {c : Bool} {x y r : α} (h : c = false) (h2 : y = r) : (bif c then x else y) = r := by rw [h]; exact h2
theorem iteP {α : Type} {c : Prop} {inst : Decidable c} {x y r : α} (h : c) (h2 : x = r) : (if c then x else y) = r := by rw [if_pos h]; exact h2
theorem beqT {a b : Int} (h : a = b) : (a == b) = true := by simp [h]
theorem beqN {a b : Int} (h : a ≠ b) : (a == b) = false := by simp [h]
theorem bneT {a b : Int} (h : a ≠ b) : (a != b) = true := by simp [h]
theorem bneN {a b : Int} (h : a = b) : (a != b) = false := by simp [h]
theorem N_v {k : Nat} {M : WM} {n : Int} (h : M.m.n = n) : wire_Machine_N.m k M.m = some n := by rw [N_w, h]
theorem Begin_v {k : Nat} {M B : WM} {kd : Int} (h : B = M.B kd) : wire_Machine_Begin.m k M.m kd = some B.m := by rw [Begin_w, h]
theorem End_v {k : Nat} {M B : WM} (h : B = M.E) : wire_Machine_End.m k M.m = some B.m := by rw [End_w, h]
theorem Rand_v {k : Nat} {M : WM} {X : Int × WM} {dom : Int} (h : X = M.D ⟨1, dom, -1, -1, -1, 0⟩ 0) (hk : 4 ≤ k) : wire_Machine_Rand.m k M.m dom = some (X.1, X.2.m) := by rw [Rand_w hk, h]
theorem Two_v {k : Nat} {M : WM} {X : Int × WM} {kd dom a b : Int} (h : X = M.D ⟨kd, dom, a, b, -1, 0⟩ 0) (hk : 4 ≤ k) : wire_Machine_Two.m k M.m kd dom a b = some (X.1, X.2.m) := by rw [Two_w hk, h]
theorem One_v {k : Nat} {M : WM} {X : Int × WM} {kd dom a c : Int} (h : X = M.D ⟨kd, dom, a, -1, -1, c⟩ 0) (hk : 4 ≤ k) (hc : IsW c) : wire_Machine_One.m k M.m kd dom a c = some (X.1, X.2.m) := by
  unfold wire_Machine_One.m; rw [Do_w hk M _ _ hc isW_zero, h]; rfl
theorem Const_v {k : Nat} {M : WM} {X : Int × WM} {dom c : Int} (h : X = M.D ⟨3, dom, -1, -1, -1, c⟩ 0) (hk : 4 ≤ k) (hc : IsW c) : wire_Machine_Const.m k M.m dom c = some (X.1, X.2.m) := by
  unfold wire_Machine_Const.m; rw [Do_w hk M _ _ hc isW_zero, h]; rfl
/-! Steps inside a bind; what a register holds, told of a later machine. -/
theorem bassoc {α β γ : Type} {A : Option α} {g : α → Option β} {f : β → Option γ} {r : Option γ} (h : A.bind (fun x => (g x).bind f) = r) : (A.bind g).bind f = r := by cases A <;> exact h
theorem biteP {α β : Type} {c : Prop} {inst : Decidable c} {x y : Option α} {f : α → Option β} {r : Option β} (h : c) (h2 : x.bind f = r) : Option.bind (if c then x else y) f = r := by rw [if_pos h]; exact h2
theorem bbifT {α β : Type} {c : Bool} {x y : Option α} {f : α → Option β} {r : Option β} (h : c = true) (h2 : x.bind f = r) : Option.bind (bif c then x else y) f = r := by rw [h]; exact h2
theorem bbifF {α β : Type} {c : Bool} {x y : Option α} {f : α → Option β} {r : Option β} (h : c = false) (h2 : y.bind f = r) : Option.bind (bif c then x else y) f = r := by rw [h]; exact h2
theorem bsome {α β : Type} {x : α} {f : α → Option β} {r : Option β} (h : f x = r) : (some x).bind f = r := h
theorem ltT {a b n : Int} (h : b = n) (h2 : decide (a < n) = true) : decide (a < b) = true := by rw [h]; exact h2
theorem ltF {a b n : Int} (h : b = n) (h2 : decide (a < n) = false) : decide (a < b) = false := by rw [h]; exact h2
theorem Do_v {k : Nat} {M : WM} {X : Int × WM} {o : Tapi_Op} {x : Int} (h : X = M.D o x) (hk : 4 ≤ k) (hc : IsW o.c) (hx : IsW x) : wire_Machine_Do.m k M.m o x = some (X.1, X.2.m) := by rw [Do_w hk M o x hc hx, h]
theorem Key_v {k : Nat} {M : WM} {X : Int × WM} {a b x : Int} (h : X = M.D ⟨2, 0, a, b, -1, M.m.words⟩ x) (hk : 4 ≤ k) (hx : IsW x) : wire_Machine_Key.m k M.m x a b = some (X.1, X.2.m) := by rw [Key_w hk M x a b hx, h]
theorem D_vext {M : WM} {X : Int × WM} {o : Tapi_Op} {x : Int} (e : X = M.D o x) : Ext M X.2 := by rw [e]; exact D_ext ..
theorem B_vext {M B : WM} {kd : Int} (e : B = M.B kd) : Ext M B := by rw [e]; exact B_ext ..
theorem E_vext {M B : WM} (e : B = M.E) : Ext M B := by rw [e]; exact E_ext ..
theorem opRegs_reg {o : Tapi_Op} {len n : Int} (h : Rt o len n = true) (hl : 0 ≤ len) : o.a < len ∧ o.b < len ∧ o.d < len := by
  obtain ⟨h1, h2, h3⟩ := Rt_regs h hl
  omega
/-- a Do, seen from a later machine without an error -/
theorem D_at {M F : WM} {X : Int × WM} {o : Tapi_Op} {x : Int} (e : X = M.D o x) (g : Ext X.2 F) (hF : F.m.bad = 0) : ∃ z, (o.kind ≠ 1 → z = x) ∧ Val F X.1 (evalW o.kind (BitVec.ofInt 64 o.c) (BitVec.ofInt 64 (atI F.m.values o.a)) (BitVec.ofInt 64 (atI F.m.values o.b)) (BitVec.ofInt 64 (atI F.m.values o.d)) (BitVec.ofInt 64 z)) := by
  have hX := g.bad hF
  subst e
  obtain ⟨hR, z, hz, hv⟩ := D_val M o x hX
  refine ⟨z, hz, ?_⟩
  have hl := M.w.ok.vals
  obtain ⟨h1, h2, h3⟩ := opRegs_reg hR (by omega)
  obtain ⟨l, hle⟩ := ((D_ext M o x).trans g).vals
  rw [hle, atI_append (by omega), atI_append (by omega), atI_append (by omega)]
  exact hv.ext g
theorem F_rand {M F : WM} {X : Int × WM} {dom : Int} (e : X = M.D ⟨1, dom, -1, -1, -1, 0⟩ 0) (g : Ext X.2 F) (hF : F.m.bad = 0) : ∃ z, Val F X.1 z := by
  obtain ⟨z, _, hv⟩ := D_at e g hF
  exact ⟨_, hv⟩
theorem F_two {M F : WM} {X : Int × WM} {kd dom a b : Int} (e : X = M.D ⟨kd, dom, a, b, -1, 0⟩ 0) (g : Ext X.2 F) (hF : F.m.bad = 0) (hk : kd ≠ 1) {x y : BitVec 64} (ha : Val F a x) (hb : Val F b y) : Val F X.1 (evalW kd 0#64 x y 0#64 0#64) := by
  obtain ⟨z, hz, hv⟩ := D_at e g hF
  rw [hz hk] at hv
  dsimp only at hv
  rw [ha.at, hb.at, ofInt_u, ofInt_u, atI_neg (show (-1 : Int) < 0 by omega)] at hv
  exact hv
theorem F_xor {M F : WM} {X : Int × WM} {dom a b : Int} (e : X = M.D ⟨5, dom, a, b, -1, 0⟩ 0) (g : Ext X.2 F) (hF : F.m.bad = 0) {x y : BitVec 64} (ha : Val F a x) (hb : Val F b y) : Val F X.1 (x ^^^ y) := F_two e g hF (by decide) ha hb
theorem F_one {M F : WM} {X : Int × WM} {kd dom a c : Int} (e : X = M.D ⟨kd, dom, a, -1, -1, c⟩ 0) (g : Ext X.2 F) (hF : F.m.bad = 0) (hk : kd ≠ 1) {x : BitVec 64} (ha : Val F a x) : Val F X.1 (evalW kd (BitVec.ofInt 64 c) x 0#64 0#64 0#64) := by
  obtain ⟨z, hz, hv⟩ := D_at e g hF
  rw [hz hk] at hv
  dsimp only at hv
  rw [ha.at, ofInt_u, atI_neg (show (-1 : Int) < 0 by omega)] at hv
  exact hv
theorem F_not {M F : WM} {X : Int × WM} {dom a : Int} (e : X = M.D ⟨6, dom, a, -1, -1, 0⟩ 0) (g : Ext X.2 F) (hF : F.m.bad = 0) {x : BitVec 64} (ha : Val F a x) : Val F X.1 (~~~ x) := F_one e g hF (by decide) ha
theorem F_const {M F : WM} {X : Int × WM} {kd dom c : Int} (e : X = M.D ⟨kd, dom, -1, -1, -1, c⟩ 0) (g : Ext X.2 F) (hF : F.m.bad = 0) (hk : kd = 3 ∨ kd = 4) : Val F X.1 (BitVec.ofInt 64 c) := by
  obtain ⟨z, hz, hv⟩ := D_at e g hF
  rcases hk with rfl | rfl <;> exact hv
theorem F_key {M F : WM} {X : Int × WM} {dom a b c x : Int} (e : X = M.D ⟨2, dom, a, b, -1, c⟩ x) (g : Ext X.2 F) (hF : F.m.bad = 0) {y z : BitVec 64} (ha : Val F a y) (hb : Val F b z) : Val F X.1 (BitVec.ofInt 64 x ^^^ y ^^^ z) := by
  obtain ⟨w, hw, hv⟩ := D_at e g hF
  rw [hw (by decide : (2 : Int) ≠ 1)] at hv
  dsimp only at hv
  rw [ha.at, hb.at, ofInt_u, ofInt_u] at hv
  exact hv
theorem F_key1 {M F : WM} {X : Int × WM} {dom a c x : Int} (e : X = M.D ⟨2, dom, a, -1, -1, c⟩ x) (g : Ext X.2 F) (hF : F.m.bad = 0) {y : BitVec 64} (ha : Val F a y) : Val F X.1 (BitVec.ofInt 64 x ^^^ y ^^^ 0#64) := by
  obtain ⟨w, hw, hv⟩ := D_at e g hF
  rw [hw (by decide : (2 : Int) ≠ 1)] at hv
  dsimp only at hv
  rw [ha.at, atI_neg (show (-1 : Int) < 0 by omega), ofInt_u] at hv
  exact hv
theorem F_open {M F : WM} {X : Int × WM} {dom a b c : Int} (e : X = M.D ⟨12, dom, a, b, c, 0⟩ 0) (g : Ext X.2 F) (hF : F.m.bad = 0) {x y z : BitVec 64} (ha : Val F a x) (hb : Val F b y) (hc : Val F c z) : Val F X.1 (x ^^^ y ^^^ z) := by
  obtain ⟨w, hw, hv⟩ := D_at e g hF
  dsimp only at hv
  rw [ha.at, hb.at, hc.at, ofInt_u, ofInt_u, ofInt_u] at hv
  exact hv
theorem F_open2 {M F : WM} {X : Int × WM} {dom a b : Int} (e : X = M.D ⟨12, dom, a, b, -1, 0⟩ 0) (g : Ext X.2 F) (hF : F.m.bad = 0) {x y : BitVec 64} (ha : Val F a x) (hb : Val F b y) : Val F X.1 (x ^^^ y ^^^ 0#64) := by
  obtain ⟨w, hw, hv⟩ := D_at e g hF
  dsimp only at hv
  rw [ha.at, hb.at, atI_neg (show (-1 : Int) < 0 by omega), ofInt_u, ofInt_u] at hv
  exact hv
/-! Where there is room, and masks, nothing fails: 'd' masks, and 'q' ops, are still to be had. -/
structure Fine (M : WM) (p : Bool) (d q : Nat) : Prop where
  bad : M.m.bad = 0
  op : M.m.openF = 0 ↔ p = false
  room : (M.m.ops.length : Int) + q ≤ M.m.most
  free : (d : Int) ≤ M.m.tape.free
  left : M.m.tape.used.v + (d : Int) ≤ (M.m.tape.words.length : Int)
abbrev Reg (M : WM) (r : Int) : Prop := 0 ≤ r ∧ r < (M.m.ops.length : Int)
theorem Rt_of {o : Tapi_Op} {len n : Int} (h1 : okHead o n) (h2 : okRegs o len n) (h3 : okConst o = true) : Rt o len n = true := by
  unfold Rt; rw [decide_eq_true h1, decide_eq_true h2, h3]; rfl
theorem okh {kd dom a b dd c n : Int} (h : 1 ≤ kd ∧ kd ≤ 12 ∧ kd ≠ 12) (hd : -1 ≤ dom ∧ dom < n) : okHead ⟨kd, dom, a, b, dd, c⟩ n := ⟨h.1, h.2.1, hd.1, hd.2, fun e => absurd e h.2.2⟩
theorem Rt_rnd {dom len n : Int} (hn : n = 2 ∨ n = 3) (hd : -1 ≤ dom ∧ dom < n) : Rt ⟨1, dom, -1, -1, -1, 0⟩ len n = true := by
  have hr : opRegs 1 n = 0 := rfl
  refine Rt_of (okh (by decide) hd) ?_ rfl
  unfold okRegs okReg; dsimp only; rw [hr]; omega
theorem Rt_const {kd dom c len n : Int} (hn : n = 2 ∨ n = 3) (hk : kd = 3 ∨ kd = 4) (hd : -1 ≤ dom ∧ dom < n) : kd ≠ 1 ∧ kd ≠ 2 ∧ Rt ⟨kd, dom, -1, -1, -1, c⟩ len n = true := by
  refine ⟨by omega, by omega, ?_⟩
  rcases hk with rfl | rfl
  · have hr : opRegs 3 n = 0 := rfl
    refine Rt_of (okh (by decide) hd) ?_ rfl
    unfold okRegs okReg; dsimp only; rw [hr]; omega
  · have hr : opRegs 4 n = 0 := rfl
    refine Rt_of (okh (by decide) hd) ?_ rfl
    unfold okRegs okReg; dsimp only; rw [hr]; omega
theorem Rt_two {kd dom a b len n : Int} (hn : n = 2 ∨ n = 3) (hk : kd = 5 ∨ kd = 7) (hd : -1 ≤ dom ∧ dom < n) (ha : 0 ≤ a ∧ a < len) (hb : 0 ≤ b ∧ b < len) : kd ≠ 1 ∧ kd ≠ 2 ∧ Rt ⟨kd, dom, a, b, -1, 0⟩ len n = true := by
  refine ⟨by omega, by omega, ?_⟩
  rcases hk with rfl | rfl
  · have hr : opRegs 5 n = 2 := rfl
    refine Rt_of (okh (by decide) hd) ?_ rfl
    unfold okRegs okReg; dsimp only; rw [hr]; omega
  · have hr : opRegs 7 n = 2 := rfl
    refine Rt_of (okh (by decide) hd) ?_ rfl
    unfold okRegs okReg; dsimp only; rw [hr]; omega
theorem D_fo {M : WM} {X : Int × WM} {o : Tapi_Op} {x : Int} {p : Bool} {d q : Nat} (e : X = M.D o x) (f : Fine M p d (q + 1)) (hR : o.kind ≠ 1 ∧ o.kind ≠ 2 ∧ Rt o (M.m.ops.length : Int) M.m.n = true) :
    Fine X.2 p d q ∧ X.1 = (M.m.ops.length : Int) ∧ X.2.m.ops.length = M.m.ops.length + 1 ∧ X.2.m.draws = M.m.draws ∧ X.2.m.n = M.m.n := by
  have hd := M.w.dry
  have hro := f.room
  have hr : rightM M.m o = true := by
    unfold rightM
    rw [M.w.len, hR.2.2, bneT hR.2.1]; rfl
  have ed : doM M.m o x = pushM M.m o x := by
    unfold doM
    rw [if_neg (by rw [f.bad]; omega), if_neg (by rw [hr]; decide), if_neg (by omega), if_neg (by rw [hd]; exact fun h => hR.1 h.1)]
  rw [pushM_wet hd] at ed
  subst e
  have e1 : (M.D o x).1 = (doM M.m o x).1 := rfl
  have e2 : (M.D o x).2.m = (doM M.m o x).2 := rfl
  rw [e1, e2, ed]
  refine ⟨⟨?_, ?_, ?_, ?_, ?_⟩, rfl, by simp, ?_, rfl⟩
  · rw [e2, ed]; exact f.bad
  · rw [e2, ed]; exact f.op
  · rw [e2, ed]; simp; omega
  · rw [e2, ed]; exact f.free
  · rw [e2, ed]; exact f.left
  · simp [hR.1]
theorem D_fr {M : WM} {X : Int × WM} {dom : Int} {p : Bool} {d q : Nat} (e : X = M.D ⟨1, dom, -1, -1, -1, 0⟩ 0) (f : Fine M p (d + 1) (q + 1)) (hR : Rt ⟨1, dom, -1, -1, -1, 0⟩ (M.m.ops.length : Int) M.m.n = true) :
    Fine X.2 p d q ∧ X.1 = (M.m.ops.length : Int) ∧ X.2.m.ops.length = M.m.ops.length + 1 ∧ X.2.m.draws = M.m.draws + 1 ∧ X.2.m.n = M.m.n := by
  have hd := M.w.dry
  have hro := f.room
  have hfr := f.free
  have hle := f.left
  have hr : rightM M.m ⟨1, dom, -1, -1, -1, 0⟩ = true := by
    unfold rightM
    rw [M.w.len, hR]; rfl
  have ed : doM M.m ⟨1, dom, -1, -1, -1, 0⟩ 0 = pushM (drawnM M.m) ⟨1, dom, -1, -1, -1, 0⟩ (atI M.m.tape.words M.m.tape.used.v) := by
    unfold doM
    rw [if_neg (by rw [f.bad]; omega), if_neg (by rw [hr]; decide), if_neg (by omega), if_pos ⟨rfl, hd⟩, if_neg (by unfold noMask; omega)]
  rw [pushM_wet (m := drawnM M.m) hd] at ed
  subst e
  have e1 : (M.D ⟨1, dom, -1, -1, -1, 0⟩ 0).1 = (doM M.m ⟨1, dom, -1, -1, -1, 0⟩ 0).1 := rfl
  have e2 : (M.D ⟨1, dom, -1, -1, -1, 0⟩ 0).2.m = (doM M.m ⟨1, dom, -1, -1, -1, 0⟩ 0).2 := rfl
  rw [e1, e2, ed]
  refine ⟨⟨?_, ?_, ?_, ?_, ?_⟩, rfl, by simp [drawnM], by simp [drawnM], rfl⟩
  · rw [e2, ed]; exact f.bad
  · rw [e2, ed]; exact f.op
  · rw [e2, ed]; simp [drawnM]; omega
  · rw [e2, ed]; simp [drawnM]; omega
  · rw [e2, ed]; simp [drawnM]; omega
theorem B_fine {M B : WM} {kd : Int} {d q : Nat} (e : B = M.B kd) (f : Fine M false d q) (hk : 1 ≤ kd ∧ kd ≤ 3) : Fine B true d q ∧ B.m.ops.length = M.m.ops.length ∧ B.m.draws = M.m.draws ∧ B.m.n = M.m.n := by
  subst e
  have ho := f.op.2 rfl
  have e2 : (M.B kd).m = ⟨M.m.n, M.m.most, M.m.base, M.m.words, M.m.draws, M.m.dry, kd, M.m.len, M.m.bad, M.m.tape, M.m.ops, M.m.values, M.m.blocks⟩ := by
    show beginM M.m kd = _
    unfold beginM
    rw [if_neg (by rw [f.bad]; omega), if_neg (by omega)]
  refine ⟨⟨?_, ?_, ?_, ?_, ?_⟩, by rw [e2], by rw [e2], by rw [e2]⟩
  · rw [e2]; exact f.bad
  · rw [e2]; exact ⟨fun h => by change kd = 0 at h; omega, fun h => (by cases h)⟩
  · rw [e2]; exact f.room
  · rw [e2]; exact f.free
  · rw [e2]; exact f.left
theorem E_fine {M B : WM} {d q : Nat} (e : B = M.E) (f : Fine M true d q) : Fine B false d q ∧ B.m.ops.length = M.m.ops.length ∧ B.m.draws = M.m.draws ∧ B.m.n = M.m.n := by
  subst e
  have ho : M.m.openF ≠ 0 := fun h => by have := f.op.1 h; cases this
  have e2 : M.E.m = ⟨M.m.n, M.m.most, M.m.base, M.m.words, M.m.draws, M.m.dry, 0, M.m.fromF, M.m.bad, M.m.tape, M.m.ops, M.m.values, if M.m.fromF < M.m.len ∧ M.m.dry = false then M.m.blocks ++ [⟨M.m.openF, M.m.fromF, M.m.len⟩] else M.m.blocks⟩ := by
    show endM M.m = _
    unfold endM
    rw [if_neg (by rw [f.bad]; omega), if_neg ho]
  refine ⟨⟨?_, ?_, ?_, ?_, ?_⟩, by rw [e2], by rw [e2], by rw [e2]⟩
  · rw [e2]; exact f.bad
  · rw [e2]; exact ⟨fun _ => rfl, fun _ => rfl⟩
  · rw [e2]; exact f.room
  · rw [e2]; exact f.free
  · rw [e2]; exact f.left
theorem rg {r : Int} {L j i len : Nat} (hr : r = ((L + j : Nat) : Int)) (hl : len = L + i) (h : j < i) : 0 ≤ r ∧ r < (len : Int) := by omega
theorem rgi {r : Int} {L i len : Nat} (hr : 0 ≤ r ∧ r < (L : Int)) (hl : len = L + i) : 0 ≤ r ∧ r < (len : Int) := by omega
theorem dm {n N dom : Int} (h : n = N) (hd : -1 ≤ dom ∧ dom < N) : -1 ≤ dom ∧ dom < n := h ▸ hd
theorem ln1 {a b L i : Nat} (h : a = b + 1) (h2 : b = L + i) : a = L + (i + 1) := by omega
theorem rr1 {r : Int} {b L i : Nat} (h : r = (b : Int)) (h2 : b = L + i) : r = ((L + i : Nat) : Int) := by omega
theorem wn1 {a b D k : Int} (h : a = b + 1) (h2 : b = D + k) : a = D + (k + 1) := by omega
/-! Words as shares: each call as a row of Do's (printed by wip/gen/gads.py). -/
def PubC (M : WM) (c : Int) (o0 o1 o2 : Int) (M' : WM) : Prop :=
  (∃ X0 : Int × WM, ∃ X1 : Int × WM, M.m.n = 2 ∧ X0 = M.D ⟨3, 0, -1, -1, -1, c⟩ 0 ∧ X1 = X0.2.D ⟨3, 1, -1, -1, -1, 0⟩ 0 ∧ o0 = X0.1 ∧ o1 = X1.1 ∧ o2 = -1 ∧ M' = X1.2) ∨
  (∃ X0 : Int × WM, ∃ X1 : Int × WM, ∃ X2 : Int × WM, M.m.n = 3 ∧ X0 = M.D ⟨3, 0, -1, -1, -1, c⟩ 0 ∧ X1 = X0.2.D ⟨3, 1, -1, -1, -1, 0⟩ 0 ∧ X2 = X1.2.D ⟨3, 2, -1, -1, -1, 0⟩ 0 ∧ o0 = X0.1 ∧ o1 = X1.1 ∧ o2 = X2.1 ∧ M' = X2.2)
theorem PubC.ex (M : WM) (c : Int) : ∃ o0 o1 o2 M', PubC M c o0 o1 o2 M' := by
  rcases M.w.ok.n with h | h
  · exact ⟨_, _, _, _, .inl ⟨_, _, h, rfl, rfl, rfl, rfl, rfl, rfl⟩⟩
  · exact ⟨_, _, _, _, .inr ⟨_, _, _, h, rfl, rfl, rfl, rfl, rfl, rfl, rfl⟩⟩
theorem PubC.ext {M M' : WM} {c : Int} {o0 o1 o2 : Int} (h : PubC M c o0 o1 o2 M') : Ext M M' := by
  rcases h with ⟨X0, X1, hn, eX0, eX1, rfl, rfl, rfl, rfl⟩ | ⟨X0, X1, X2, hn, eX0, eX1, eX2, rfl, rfl, rfl, rfl⟩
  · exact ((D_vext eX0).trans (D_vext eX1))
  · exact (((D_vext eX0).trans (D_vext eX1)).trans (D_vext eX2))
theorem PubC.c {M M' : WM} {c : Int} {o0 o1 o2 : Int} (h : PubC M c o0 o1 o2 M') (hn' : M'.m.n = 2) : o2 = -1 := by
  have hm := h.ext.n
  rcases h with ⟨X0, X1, hn, eX0, eX1, rfl, rfl, rfl, rfl⟩ | ⟨X0, X1, X2, hn, eX0, eX1, eX2, rfl, rfl, rfl, rfl⟩
  · rfl
  · omega
theorem PubC.p {k : Nat} (hk : 90 ≤ k) {M M' : WM} {c : Int} {o0 o1 o2 : Int} (h : PubC M c o0 o1 o2 M') (hw : IsW c) : share_Public.m k M.m c = some ([ci o0, ci o1, ci o2], M'.m) := by
  obtain ⟨k, rfl⟩ : ∃ j, k = j + 20 := ⟨k - 20, by omega⟩
  rcases h with ⟨X0, X1, hn, eX0, eX1, rfl, rfl, rfl, rfl⟩ | ⟨X0, X1, X2, hn, eX0, eX1, eX2, rfl, rfl, rfl, rfl⟩
  · skip
    have hm : M.m.n ≠ 3 := by omega
    have nX0 : X0.2.m.n = 2 := (D_vext eX0).n.trans hn
    have mX0 : X0.2.m.n ≠ 3 := by omega
    have nX1 : X1.2.m.n = 2 := (D_vext eX1).n.trans nX0
    have mX1 : X1.2.m.n ≠ 3 := by omega
    unfold share_Public.m
    unfold share_none.m
    repeat (first
      | with_reducible refine bstep (N_v (by assumption)) ?_
      | with_reducible refine bstep (Const_v (by assumption) (by omega) isW_zero) ?_
      | with_reducible refine bstep (Do_v (by assumption) (by omega) isW_zero isW_zero) ?_
      | with_reducible refine bstep (Const_v (by assumption) (by omega) hw) ?_
      | with_reducible refine bstep (Do_v (by assumption) (by omega) hw isW_zero) ?_
      | with_reducible refine bassoc ?_
      | with_reducible refine bsome ?_
      | ((with_reducible refine biteP ?_ ?_); · first | exact rfl | exact Nat.le_of_ble_eq_true rfl | decide)
      | ((with_reducible refine iteP ?_ ?_); · first | exact rfl | exact Nat.le_of_ble_eq_true rfl | decide)
      | ((with_reducible refine bbifT ?_ ?_); · first | decide | exact beqT (by assumption) | exact ltT (by assumption) (by decide) | exact bneT (by assumption))
      | ((with_reducible refine bbifF ?_ ?_); · first | decide | exact beqN (by assumption) | exact ltF (by assumption) (by decide) | exact bneN (by assumption))
      | ((with_reducible refine bifT ?_ ?_); · first | decide | exact beqT (by assumption) | exact ltT (by assumption) (by decide) | exact bneT (by assumption))
      | ((with_reducible refine bifF ?_ ?_); · first | decide | exact beqN (by assumption) | exact ltF (by assumption) (by decide) | exact bneN (by assumption))
      | rw [share_Public.l1]
      | rw [W01]
      | rw [W2]
      | rw [W3]
      | unfold share_Public.j1
      | ((with_reducible apply bstep); · exact rfl)
      | dsimp only)
    exact rfl
  · skip
    have hm : M.m.n ≠ 2 := by omega
    have nX0 : X0.2.m.n = 3 := (D_vext eX0).n.trans hn
    have mX0 : X0.2.m.n ≠ 2 := by omega
    have nX1 : X1.2.m.n = 3 := (D_vext eX1).n.trans nX0
    have mX1 : X1.2.m.n ≠ 2 := by omega
    have nX2 : X2.2.m.n = 3 := (D_vext eX2).n.trans nX1
    have mX2 : X2.2.m.n ≠ 2 := by omega
    unfold share_Public.m
    unfold share_none.m
    repeat (first
      | with_reducible refine bstep (N_v (by assumption)) ?_
      | with_reducible refine bstep (Const_v (by assumption) (by omega) isW_zero) ?_
      | with_reducible refine bstep (Do_v (by assumption) (by omega) isW_zero isW_zero) ?_
      | with_reducible refine bstep (Const_v (by assumption) (by omega) hw) ?_
      | with_reducible refine bstep (Do_v (by assumption) (by omega) hw isW_zero) ?_
      | with_reducible refine bassoc ?_
      | with_reducible refine bsome ?_
      | ((with_reducible refine biteP ?_ ?_); · first | exact rfl | exact Nat.le_of_ble_eq_true rfl | decide)
      | ((with_reducible refine iteP ?_ ?_); · first | exact rfl | exact Nat.le_of_ble_eq_true rfl | decide)
      | ((with_reducible refine bbifT ?_ ?_); · first | decide | exact beqT (by assumption) | exact ltT (by assumption) (by decide) | exact bneT (by assumption))
      | ((with_reducible refine bbifF ?_ ?_); · first | decide | exact beqN (by assumption) | exact ltF (by assumption) (by decide) | exact bneN (by assumption))
      | ((with_reducible refine bifT ?_ ?_); · first | decide | exact beqT (by assumption) | exact ltT (by assumption) (by decide) | exact bneT (by assumption))
      | ((with_reducible refine bifF ?_ ?_); · first | decide | exact beqN (by assumption) | exact ltF (by assumption) (by decide) | exact bneN (by assumption))
      | rw [share_Public.l1]
      | rw [W01]
      | rw [W2]
      | rw [W3]
      | unfold share_Public.j1
      | ((with_reducible apply bstep); · exact rfl)
      | dsimp only)
    exact rfl
theorem PubC.s {M M' F : WM} {c : Int} {o0 o1 o2 : Int} (h : PubC M c o0 o1 o2 M') (x : Ext M' F) (hF : F.m.bad = 0) : Stands F o0 o1 o2 (BitVec.ofInt 64 c) := by
  rcases h with ⟨X0, X1, hn, eX0, eX1, rfl, rfl, rfl, rfl⟩ | ⟨X0, X1, X2, hn, eX0, eX1, eX2, rfl, rfl, rfl, rfl⟩
  · have x2 := x
    have x1 := (D_vext eX1).trans x2
    have x0 := (D_vext eX0).trans x1
    have nF : F.m.n = 2 := x0.n.trans hn
    have vX0 := F_const eX0 x1 hF (by decide)
    have vX1 := F_const eX1 x2 hF (by decide)
    refine .inl ⟨nF, rfl, _, _, vX0, vX1, ?_⟩
    simp
  · have x3 := x
    have x2 := (D_vext eX2).trans x3
    have x1 := (D_vext eX1).trans x2
    have x0 := (D_vext eX0).trans x1
    have nF : F.m.n = 3 := x0.n.trans hn
    have vX0 := F_const eX0 x1 hF (by decide)
    have vX1 := F_const eX1 x2 hF (by decide)
    have vX2 := F_const eX2 x3 hF (by decide)
    refine .inr ⟨nF, _, _, _, vX0, vX1, vX2, ?_⟩
    simp
def TldC (M : WM) (c : Int) (o0 o1 o2 : Int) (M' : WM) : Prop :=
  (∃ X0 : Int × WM, ∃ X1 : Int × WM, M.m.n = 2 ∧ X0 = M.D ⟨4, 0, -1, -1, -1, c⟩ 0 ∧ X1 = X0.2.D ⟨3, 1, -1, -1, -1, 0⟩ 0 ∧ o0 = X0.1 ∧ o1 = X1.1 ∧ o2 = -1 ∧ M' = X1.2) ∨
  (∃ X0 : Int × WM, ∃ X1 : Int × WM, ∃ X2 : Int × WM, M.m.n = 3 ∧ X0 = M.D ⟨4, 0, -1, -1, -1, c⟩ 0 ∧ X1 = X0.2.D ⟨3, 1, -1, -1, -1, 0⟩ 0 ∧ X2 = X1.2.D ⟨3, 2, -1, -1, -1, 0⟩ 0 ∧ o0 = X0.1 ∧ o1 = X1.1 ∧ o2 = X2.1 ∧ M' = X2.2)
theorem TldC.ex (M : WM) (c : Int) : ∃ o0 o1 o2 M', TldC M c o0 o1 o2 M' := by
  rcases M.w.ok.n with h | h
  · exact ⟨_, _, _, _, .inl ⟨_, _, h, rfl, rfl, rfl, rfl, rfl, rfl⟩⟩
  · exact ⟨_, _, _, _, .inr ⟨_, _, _, h, rfl, rfl, rfl, rfl, rfl, rfl, rfl⟩⟩
theorem TldC.ext {M M' : WM} {c : Int} {o0 o1 o2 : Int} (h : TldC M c o0 o1 o2 M') : Ext M M' := by
  rcases h with ⟨X0, X1, hn, eX0, eX1, rfl, rfl, rfl, rfl⟩ | ⟨X0, X1, X2, hn, eX0, eX1, eX2, rfl, rfl, rfl, rfl⟩
  · exact ((D_vext eX0).trans (D_vext eX1))
  · exact (((D_vext eX0).trans (D_vext eX1)).trans (D_vext eX2))
theorem TldC.c {M M' : WM} {c : Int} {o0 o1 o2 : Int} (h : TldC M c o0 o1 o2 M') (hn' : M'.m.n = 2) : o2 = -1 := by
  have hm := h.ext.n
  rcases h with ⟨X0, X1, hn, eX0, eX1, rfl, rfl, rfl, rfl⟩ | ⟨X0, X1, X2, hn, eX0, eX1, eX2, rfl, rfl, rfl, rfl⟩
  · rfl
  · omega
theorem TldC.s {M M' F : WM} {c : Int} {o0 o1 o2 : Int} (h : TldC M c o0 o1 o2 M') (x : Ext M' F) (hF : F.m.bad = 0) : Stands F o0 o1 o2 (BitVec.ofInt 64 c) := by
  rcases h with ⟨X0, X1, hn, eX0, eX1, rfl, rfl, rfl, rfl⟩ | ⟨X0, X1, X2, hn, eX0, eX1, eX2, rfl, rfl, rfl, rfl⟩
  · have x2 := x
    have x1 := (D_vext eX1).trans x2
    have x0 := (D_vext eX0).trans x1
    have nF : F.m.n = 2 := x0.n.trans hn
    have vX0 := F_const eX0 x1 hF (by decide)
    have vX1 := F_const eX1 x2 hF (by decide)
    refine .inl ⟨nF, rfl, _, _, vX0, vX1, ?_⟩
    simp
  · have x3 := x
    have x2 := (D_vext eX2).trans x3
    have x1 := (D_vext eX1).trans x2
    have x0 := (D_vext eX0).trans x1
    have nF : F.m.n = 3 := x0.n.trans hn
    have vX0 := F_const eX0 x1 hF (by decide)
    have vX1 := F_const eX1 x2 hF (by decide)
    have vX2 := F_const eX2 x3 hF (by decide)
    refine .inr ⟨nF, _, _, _, vX0, vX1, vX2, ?_⟩
    simp
def XrC (M : WM) (a0 : Int) (b0 : Int) (c0 : Int) (a1 : Int) (b1 : Int) (c1 : Int) (o0 o1 o2 : Int) (M' : WM) : Prop :=
  (∃ X0 : Int × WM, ∃ X1 : Int × WM, M.m.n = 2 ∧ X0 = M.D ⟨5, 0, a0, a1, -1, 0⟩ 0 ∧ X1 = X0.2.D ⟨5, 1, b0, b1, -1, 0⟩ 0 ∧ o0 = X0.1 ∧ o1 = X1.1 ∧ o2 = -1 ∧ M' = X1.2) ∨
  (∃ X0 : Int × WM, ∃ X1 : Int × WM, ∃ X2 : Int × WM, M.m.n = 3 ∧ X0 = M.D ⟨5, 0, a0, a1, -1, 0⟩ 0 ∧ X1 = X0.2.D ⟨5, 1, b0, b1, -1, 0⟩ 0 ∧ X2 = X1.2.D ⟨5, 2, c0, c1, -1, 0⟩ 0 ∧ o0 = X0.1 ∧ o1 = X1.1 ∧ o2 = X2.1 ∧ M' = X2.2)
theorem XrC.ex (M : WM) (a0 : Int) (b0 : Int) (c0 : Int) (a1 : Int) (b1 : Int) (c1 : Int) : ∃ o0 o1 o2 M', XrC M a0 b0 c0 a1 b1 c1 o0 o1 o2 M' := by
  rcases M.w.ok.n with h | h
  · exact ⟨_, _, _, _, .inl ⟨_, _, h, rfl, rfl, rfl, rfl, rfl, rfl⟩⟩
  · exact ⟨_, _, _, _, .inr ⟨_, _, _, h, rfl, rfl, rfl, rfl, rfl, rfl, rfl⟩⟩
theorem XrC.ext {M M' : WM} {a0 : Int} {b0 : Int} {c0 : Int} {a1 : Int} {b1 : Int} {c1 : Int} {o0 o1 o2 : Int} (h : XrC M a0 b0 c0 a1 b1 c1 o0 o1 o2 M') : Ext M M' := by
  rcases h with ⟨X0, X1, hn, eX0, eX1, rfl, rfl, rfl, rfl⟩ | ⟨X0, X1, X2, hn, eX0, eX1, eX2, rfl, rfl, rfl, rfl⟩
  · exact ((D_vext eX0).trans (D_vext eX1))
  · exact (((D_vext eX0).trans (D_vext eX1)).trans (D_vext eX2))
theorem XrC.c {M M' : WM} {a0 : Int} {b0 : Int} {c0 : Int} {a1 : Int} {b1 : Int} {c1 : Int} {o0 o1 o2 : Int} (h : XrC M a0 b0 c0 a1 b1 c1 o0 o1 o2 M') (hn' : M'.m.n = 2) : o2 = -1 := by
  have hm := h.ext.n
  rcases h with ⟨X0, X1, hn, eX0, eX1, rfl, rfl, rfl, rfl⟩ | ⟨X0, X1, X2, hn, eX0, eX1, eX2, rfl, rfl, rfl, rfl⟩
  · rfl
  · omega
theorem XrC.s {M M' F : WM} {a0 : Int} {b0 : Int} {c0 : Int} {a1 : Int} {b1 : Int} {c1 : Int} {o0 o1 o2 : Int} (h : XrC M a0 b0 c0 a1 b1 c1 o0 o1 o2 M') (x : Ext M' F) (hF : F.m.bad = 0) {z0 z1 : BitVec 64} (s0 : Stands F a0 b0 c0 z0) (s1 : Stands F a1 b1 c1 z1) : Stands F o0 o1 o2 (z0 ^^^ z1) := by
  rcases h with ⟨X0, X1, hn, eX0, eX1, rfl, rfl, rfl, rfl⟩ | ⟨X0, X1, X2, hn, eX0, eX1, eX2, rfl, rfl, rfl, rfl⟩
  · have x2 := x
    have x1 := (D_vext eX1).trans x2
    have x0 := (D_vext eX0).trans x1
    have nF : F.m.n = 2 := x0.n.trans hn
    obtain ⟨_, hc0, p0, q0, vp0, vq0, rfl⟩ : F.m.n = 2 ∧ _ := by
      rcases s0 with h | h
      · exact h
      · exact absurd h.1 (by omega)
    obtain ⟨_, hc1, p1, q1, vp1, vq1, rfl⟩ : F.m.n = 2 ∧ _ := by
      rcases s1 with h | h
      · exact h
      · exact absurd h.1 (by omega)
    have vX0 := F_xor eX0 x1 hF vp0 vp1
    have vX1 := F_xor eX1 x2 hF vq0 vq1
    refine .inl ⟨nF, rfl, _, _, vX0, vX1, ?_⟩
    apply BitVec.eq_of_getLsbD_eq; intro i hi
    simp only [BitVec.getLsbD_xor]
    generalize BitVec.getLsbD p0 i = yp0
    generalize BitVec.getLsbD q0 i = yq0
    generalize BitVec.getLsbD p1 i = yp1
    generalize BitVec.getLsbD q1 i = yq1
    revert yp0 yq0 yp1 yq1
    decide
  · have x3 := x
    have x2 := (D_vext eX2).trans x3
    have x1 := (D_vext eX1).trans x2
    have x0 := (D_vext eX0).trans x1
    have nF : F.m.n = 3 := x0.n.trans hn
    obtain ⟨_, p0, q0, r0, vp0, vq0, vr0, rfl⟩ : F.m.n = 3 ∧ _ := by
      rcases s0 with h | h
      · exact absurd h.1 (by omega)
      · exact h
    obtain ⟨_, p1, q1, r1, vp1, vq1, vr1, rfl⟩ : F.m.n = 3 ∧ _ := by
      rcases s1 with h | h
      · exact absurd h.1 (by omega)
      · exact h
    have vX0 := F_xor eX0 x1 hF vp0 vp1
    have vX1 := F_xor eX1 x2 hF vq0 vq1
    have vX2 := F_xor eX2 x3 hF vr0 vr1
    refine .inr ⟨nF, _, _, _, vX0, vX1, vX2, ?_⟩
    apply BitVec.eq_of_getLsbD_eq; intro i hi
    simp only [BitVec.getLsbD_xor]
    generalize BitVec.getLsbD p0 i = yp0
    generalize BitVec.getLsbD q0 i = yq0
    generalize BitVec.getLsbD r0 i = yr0
    generalize BitVec.getLsbD p1 i = yp1
    generalize BitVec.getLsbD q1 i = yq1
    generalize BitVec.getLsbD r1 i = yr1
    revert yp0 yq0 yr0 yp1 yq1 yr1
    decide
def NtC (M : WM) (a : Int) (b : Int) (c : Int) (o0 o1 o2 : Int) (M' : WM) : Prop :=
  (∃ X0 : Int × WM, X0 = M.D ⟨6, 0, a, -1, -1, 0⟩ 0 ∧ o0 = X0.1 ∧ o1 = b ∧ o2 = c ∧ M' = X0.2)
theorem NtC.ex (M : WM) (a : Int) (b : Int) (c : Int) : ∃ o0 o1 o2 M', NtC M a b c o0 o1 o2 M' := by
  exact ⟨_, _, _, _, ⟨_, rfl, rfl, rfl, rfl, rfl⟩⟩
theorem NtC.ext {M M' : WM} {a : Int} {b : Int} {c : Int} {o0 o1 o2 : Int} (h : NtC M a b c o0 o1 o2 M') : Ext M M' := by
  rcases h with ⟨X0, eX0, rfl, rfl, rfl, rfl⟩
  · exact D_vext eX0
theorem NtC.s {M M' F : WM} {a : Int} {b : Int} {c : Int} {o0 o1 o2 : Int} (h : NtC M a b c o0 o1 o2 M') (x : Ext M' F) (hF : F.m.bad = 0) {z : BitVec 64} (s0 : Stands F a b c z) : Stands F o0 o1 o2 (~~~ z) := by
  obtain ⟨X0, eX0, rfl, rfl, rfl, rfl⟩ := h
  rcases s0 with ⟨n, hc, p, q, v0, v1, rfl⟩ | ⟨n, p, q, r, v0, v1, v2, rfl⟩
  · refine .inl ⟨n, hc, _, _, F_not eX0 x hF v0, v1, ?_⟩
    apply BitVec.eq_of_getLsbD_eq; intro i hi
    simp only [BitVec.getLsbD_xor, BitVec.getLsbD_not, hi, decide_true, Bool.true_and]
    generalize BitVec.getLsbD p i = yp
    generalize BitVec.getLsbD q i = yq
    revert yp yq
    decide
  · refine .inr ⟨n, _, _, _, F_not eX0 x hF v0, v1, v2, ?_⟩
    apply BitVec.eq_of_getLsbD_eq; intro i hi
    simp only [BitVec.getLsbD_xor, BitVec.getLsbD_not, hi, decide_true, Bool.true_and]
    generalize BitVec.getLsbD p i = yp
    generalize BitVec.getLsbD q i = yq
    generalize BitVec.getLsbD r i = yr
    revert yp yq yr
    decide
def AdC (M : WM) (kd : Int) (a : Int) (b : Int) (c : Int) (w : Int) (o0 o1 o2 : Int) (M' : WM) : Prop :=
  (∃ X0 : Int × WM, ∃ X1 : Int × WM, X0 = M.D ⟨kd, 0, -1, -1, -1, w⟩ 0 ∧ X1 = X0.2.D ⟨5, 0, a, X0.1, -1, 0⟩ 0 ∧ o0 = X1.1 ∧ o1 = b ∧ o2 = c ∧ M' = X1.2)
theorem AdC.ex (M : WM) (kd : Int) (a : Int) (b : Int) (c : Int) (w : Int) : ∃ o0 o1 o2 M', AdC M kd a b c w o0 o1 o2 M' := by
  exact ⟨_, _, _, _, ⟨_, _, rfl, rfl, rfl, rfl, rfl, rfl⟩⟩
theorem AdC.ext {M M' : WM} {kd : Int} {a : Int} {b : Int} {c : Int} {w : Int} {o0 o1 o2 : Int} (h : AdC M kd a b c w o0 o1 o2 M') : Ext M M' := by
  rcases h with ⟨X0, X1, eX0, eX1, rfl, rfl, rfl, rfl⟩
  · exact ((D_vext eX0).trans (D_vext eX1))
theorem AdC.s {M M' F : WM} {kd a b c w : Int} {o0 o1 o2 : Int} (h : AdC M kd a b c w o0 o1 o2 M') (x : Ext M' F) (hF : F.m.bad = 0) (hk : kd = 3 ∨ kd = 4) {z : BitVec 64} (s0 : Stands F a b c z) : Stands F o0 o1 o2 (z ^^^ BitVec.ofInt 64 w) := by
  obtain ⟨X0, X1, eX0, eX1, rfl, rfl, rfl, rfl⟩ := h
  have vc := F_const eX0 ((D_vext eX1).trans x) hF hk
  generalize BitVec.ofInt 64 w = d at *
  rcases s0 with ⟨n, hc, p, q, v0, v1, rfl⟩ | ⟨n, p, q, r, v0, v1, v2, rfl⟩
  · refine .inl ⟨n, hc, _, _, F_xor eX1 x hF v0 vc, v1, ?_⟩
    apply BitVec.eq_of_getLsbD_eq; intro i hi
    simp only [BitVec.getLsbD_xor]
    generalize BitVec.getLsbD p i = yp
    generalize BitVec.getLsbD q i = yq
    generalize BitVec.getLsbD d i = yd
    revert yp yq yd
    decide
  · refine .inr ⟨n, _, _, _, F_xor eX1 x hF v0 vc, v1, v2, ?_⟩
    apply BitVec.eq_of_getLsbD_eq; intro i hi
    simp only [BitVec.getLsbD_xor]
    generalize BitVec.getLsbD p i = yp
    generalize BitVec.getLsbD q i = yq
    generalize BitVec.getLsbD r i = yr
    generalize BitVec.getLsbD d i = yd
    revert yp yq yr yd
    decide
def OnC (M : WM) (kd : Int) (a : Int) (b : Int) (c : Int) (w : Int) (o0 o1 o2 : Int) (M' : WM) : Prop :=
  (∃ X0 : Int × WM, ∃ X1 : Int × WM, M.m.n = 2 ∧ X0 = M.D ⟨kd, 0, a, -1, -1, w⟩ 0 ∧ X1 = X0.2.D ⟨kd, 1, b, -1, -1, w⟩ 0 ∧ o0 = X0.1 ∧ o1 = X1.1 ∧ o2 = -1 ∧ M' = X1.2) ∨
  (∃ X0 : Int × WM, ∃ X1 : Int × WM, ∃ X2 : Int × WM, M.m.n = 3 ∧ X0 = M.D ⟨kd, 0, a, -1, -1, w⟩ 0 ∧ X1 = X0.2.D ⟨kd, 1, b, -1, -1, w⟩ 0 ∧ X2 = X1.2.D ⟨kd, 2, c, -1, -1, w⟩ 0 ∧ o0 = X0.1 ∧ o1 = X1.1 ∧ o2 = X2.1 ∧ M' = X2.2)
theorem OnC.ex (M : WM) (kd : Int) (a : Int) (b : Int) (c : Int) (w : Int) : ∃ o0 o1 o2 M', OnC M kd a b c w o0 o1 o2 M' := by
  rcases M.w.ok.n with h | h
  · exact ⟨_, _, _, _, .inl ⟨_, _, h, rfl, rfl, rfl, rfl, rfl, rfl⟩⟩
  · exact ⟨_, _, _, _, .inr ⟨_, _, _, h, rfl, rfl, rfl, rfl, rfl, rfl, rfl⟩⟩
theorem OnC.ext {M M' : WM} {kd : Int} {a : Int} {b : Int} {c : Int} {w : Int} {o0 o1 o2 : Int} (h : OnC M kd a b c w o0 o1 o2 M') : Ext M M' := by
  rcases h with ⟨X0, X1, hn, eX0, eX1, rfl, rfl, rfl, rfl⟩ | ⟨X0, X1, X2, hn, eX0, eX1, eX2, rfl, rfl, rfl, rfl⟩
  · exact ((D_vext eX0).trans (D_vext eX1))
  · exact (((D_vext eX0).trans (D_vext eX1)).trans (D_vext eX2))
theorem OnC.c {M M' : WM} {kd : Int} {a : Int} {b : Int} {c : Int} {w : Int} {o0 o1 o2 : Int} (h : OnC M kd a b c w o0 o1 o2 M') (hn' : M'.m.n = 2) : o2 = -1 := by
  have hm := h.ext.n
  rcases h with ⟨X0, X1, hn, eX0, eX1, rfl, rfl, rfl, rfl⟩ | ⟨X0, X1, X2, hn, eX0, eX1, eX2, rfl, rfl, rfl, rfl⟩
  · rfl
  · omega
theorem OnC.p {k : Nat} (hk : 90 ≤ k) {M M' : WM} {kd : Int} {a : Int} {b : Int} {c : Int} {w : Int} {o0 o1 o2 : Int} (h : OnC M kd a b c w o0 o1 o2 M') (hw : IsW w) : share_One.m k M.m kd [ci a, ci b, ci c] w = some ([ci o0, ci o1, ci o2], M'.m) := by
  obtain ⟨k, rfl⟩ : ∃ j, k = j + 20 := ⟨k - 20, by omega⟩
  rcases h with ⟨X0, X1, hn, eX0, eX1, rfl, rfl, rfl, rfl⟩ | ⟨X0, X1, X2, hn, eX0, eX1, eX2, rfl, rfl, rfl, rfl⟩
  · skip
    have hm : M.m.n ≠ 3 := by omega
    have nX0 : X0.2.m.n = 2 := (D_vext eX0).n.trans hn
    have mX0 : X0.2.m.n ≠ 3 := by omega
    have nX1 : X1.2.m.n = 2 := (D_vext eX1).n.trans nX0
    have mX1 : X1.2.m.n ≠ 3 := by omega
    unfold share_One.m
    unfold share_none.m
    repeat (first
      | with_reducible refine bstep (N_v (by assumption)) ?_
      | with_reducible refine bstep (One_v (by assumption) (by omega) isW_zero) ?_
      | with_reducible refine bstep (Do_v (by assumption) (by omega) isW_zero isW_zero) ?_
      | with_reducible refine bstep (One_v (by assumption) (by omega) hw) ?_
      | with_reducible refine bstep (Do_v (by assumption) (by omega) hw isW_zero) ?_
      | with_reducible refine bassoc ?_
      | with_reducible refine bsome ?_
      | ((with_reducible refine biteP ?_ ?_); · first | exact rfl | exact Nat.le_of_ble_eq_true rfl | decide)
      | ((with_reducible refine iteP ?_ ?_); · first | exact rfl | exact Nat.le_of_ble_eq_true rfl | decide)
      | ((with_reducible refine bbifT ?_ ?_); · first | decide | exact beqT (by assumption) | exact ltT (by assumption) (by decide) | exact bneT (by assumption))
      | ((with_reducible refine bbifF ?_ ?_); · first | decide | exact beqN (by assumption) | exact ltF (by assumption) (by decide) | exact bneN (by assumption))
      | ((with_reducible refine bifT ?_ ?_); · first | decide | exact beqT (by assumption) | exact ltT (by assumption) (by decide) | exact bneT (by assumption))
      | ((with_reducible refine bifF ?_ ?_); · first | decide | exact beqN (by assumption) | exact ltF (by assumption) (by decide) | exact bneN (by assumption))
      | rw [share_One.l1]
      | rw [W01]
      | rw [W2]
      | rw [W3]
      | ((with_reducible apply bstep); · exact rfl)
      | dsimp only)
    exact rfl
  · skip
    have hm : M.m.n ≠ 2 := by omega
    have nX0 : X0.2.m.n = 3 := (D_vext eX0).n.trans hn
    have mX0 : X0.2.m.n ≠ 2 := by omega
    have nX1 : X1.2.m.n = 3 := (D_vext eX1).n.trans nX0
    have mX1 : X1.2.m.n ≠ 2 := by omega
    have nX2 : X2.2.m.n = 3 := (D_vext eX2).n.trans nX1
    have mX2 : X2.2.m.n ≠ 2 := by omega
    unfold share_One.m
    unfold share_none.m
    repeat (first
      | with_reducible refine bstep (N_v (by assumption)) ?_
      | with_reducible refine bstep (One_v (by assumption) (by omega) isW_zero) ?_
      | with_reducible refine bstep (Do_v (by assumption) (by omega) isW_zero isW_zero) ?_
      | with_reducible refine bstep (One_v (by assumption) (by omega) hw) ?_
      | with_reducible refine bstep (Do_v (by assumption) (by omega) hw isW_zero) ?_
      | with_reducible refine bassoc ?_
      | with_reducible refine bsome ?_
      | ((with_reducible refine biteP ?_ ?_); · first | exact rfl | exact Nat.le_of_ble_eq_true rfl | decide)
      | ((with_reducible refine iteP ?_ ?_); · first | exact rfl | exact Nat.le_of_ble_eq_true rfl | decide)
      | ((with_reducible refine bbifT ?_ ?_); · first | decide | exact beqT (by assumption) | exact ltT (by assumption) (by decide) | exact bneT (by assumption))
      | ((with_reducible refine bbifF ?_ ?_); · first | decide | exact beqN (by assumption) | exact ltF (by assumption) (by decide) | exact bneN (by assumption))
      | ((with_reducible refine bifT ?_ ?_); · first | decide | exact beqT (by assumption) | exact ltT (by assumption) (by decide) | exact bneT (by assumption))
      | ((with_reducible refine bifF ?_ ?_); · first | decide | exact beqN (by assumption) | exact ltF (by assumption) (by decide) | exact bneN (by assumption))
      | rw [share_One.l1]
      | rw [W01]
      | rw [W2]
      | rw [W3]
      | ((with_reducible apply bstep); · exact rfl)
      | dsimp only)
    exact rfl
theorem OnC.s {M M' F : WM} {kd : Int} {a : Int} {b : Int} {c : Int} {w : Int} {o0 o1 o2 : Int} (h : OnC M kd a b c w o0 o1 o2 M') (x : Ext M' F) (hF : F.m.bad = 0) (hkd : kd ≠ 1) {z : BitVec 64} (s0 : Stands F a b c z) {f : BitVec 64 → BitVec 64} (hf : ∀ y, evalW kd (BitVec.ofInt 64 w) y 0#64 0#64 0#64 = f y) (hx : ∀ y y', f (y ^^^ y') = f y ^^^ f y') : Stands F o0 o1 o2 (f z) := by
  rcases h with ⟨X0, X1, hn, eX0, eX1, rfl, rfl, rfl, rfl⟩ | ⟨X0, X1, X2, hn, eX0, eX1, eX2, rfl, rfl, rfl, rfl⟩
  · have x2 := x
    have x1 := (D_vext eX1).trans x2
    have x0 := (D_vext eX0).trans x1
    have nF : F.m.n = 2 := x0.n.trans hn
    obtain ⟨_, hc0, p0, q0, vp0, vq0, rfl⟩ : F.m.n = 2 ∧ _ := by
      rcases s0 with h | h
      · exact h
      · exact absurd h.1 (by omega)
    have vX0 := F_one eX0 x1 hF hkd vp0
    have vX1 := F_one eX1 x2 hF hkd vq0
    refine .inl ⟨nF, rfl, _, _, vX0, vX1, ?_⟩
    simp only [hf, hx]
  · have x3 := x
    have x2 := (D_vext eX2).trans x3
    have x1 := (D_vext eX1).trans x2
    have x0 := (D_vext eX0).trans x1
    have nF : F.m.n = 3 := x0.n.trans hn
    obtain ⟨_, p0, q0, r0, vp0, vq0, vr0, rfl⟩ : F.m.n = 3 ∧ _ := by
      rcases s0 with h | h
      · exact absurd h.1 (by omega)
      · exact h
    have vX0 := F_one eX0 x1 hF hkd vp0
    have vX1 := F_one eX1 x2 hF hkd vq0
    have vX2 := F_one eX2 x3 hF hkd vr0
    refine .inr ⟨nF, _, _, _, vX0, vX1, vX2, ?_⟩
    simp only [hf, hx]
def EnC (M : WM) (w : Int) (o0 o1 o2 : Int) (M' : WM) : Prop :=
  (∃ B : WM, ∃ R1 : Int × WM, ∃ K : Int × WM, ∃ E : WM, M.m.n = 2 ∧ B = M.B 1 ∧ R1 = B.D ⟨1, 1, -1, -1, -1, 0⟩ 0 ∧ K = R1.2.D ⟨2, 0, R1.1, -1, -1, R1.2.m.words⟩ w ∧ E = K.2.E ∧ o0 = K.1 ∧ o1 = R1.1 ∧ o2 = -1 ∧ M' = E) ∨
  (∃ B : WM, ∃ R1 : Int × WM, ∃ R2 : Int × WM, ∃ K : Int × WM, ∃ E : WM, M.m.n = 3 ∧ B = M.B 1 ∧ R1 = B.D ⟨1, 1, -1, -1, -1, 0⟩ 0 ∧ R2 = R1.2.D ⟨1, 2, -1, -1, -1, 0⟩ 0 ∧ K = R2.2.D ⟨2, 0, R1.1, R2.1, -1, R2.2.m.words⟩ w ∧ E = K.2.E ∧ o0 = K.1 ∧ o1 = R1.1 ∧ o2 = R2.1 ∧ M' = E)
theorem EnC.ex (M : WM) (w : Int) : ∃ o0 o1 o2 M', EnC M w o0 o1 o2 M' := by
  rcases M.w.ok.n with h | h
  · exact ⟨_, _, _, _, .inl ⟨_, _, _, _, h, rfl, rfl, rfl, rfl, rfl, rfl, rfl, rfl⟩⟩
  · exact ⟨_, _, _, _, .inr ⟨_, _, _, _, _, h, rfl, rfl, rfl, rfl, rfl, rfl, rfl, rfl, rfl⟩⟩
theorem EnC.ext {M M' : WM} {w : Int} {o0 o1 o2 : Int} (h : EnC M w o0 o1 o2 M') : Ext M M' := by
  rcases h with ⟨B, R1, K, E, hn, eB, eR1, eK, eE, rfl, rfl, rfl, rfl⟩ | ⟨B, R1, R2, K, E, hn, eB, eR1, eR2, eK, eE, rfl, rfl, rfl, rfl⟩
  · exact ((((B_vext eB).trans (D_vext eR1)).trans (D_vext eK)).trans (E_vext eE))
  · exact (((((B_vext eB).trans (D_vext eR1)).trans (D_vext eR2)).trans (D_vext eK)).trans (E_vext eE))
theorem EnC.c {M M' : WM} {w : Int} {o0 o1 o2 : Int} (h : EnC M w o0 o1 o2 M') (hn' : M'.m.n = 2) : o2 = -1 := by
  have hm := h.ext.n
  rcases h with ⟨B, R1, K, E, hn, eB, eR1, eK, eE, rfl, rfl, rfl, rfl⟩ | ⟨B, R1, R2, K, E, hn, eB, eR1, eR2, eK, eE, rfl, rfl, rfl, rfl⟩
  · rfl
  · omega
theorem EnC.p {k : Nat} (hk : 90 ≤ k) {M M' : WM} {w : Int} {o0 o1 o2 : Int} (h : EnC M w o0 o1 o2 M') (hw : IsW w) : share_Encode.m k M.m w = some ([ci o0, ci o1, ci o2], M'.m) := by
  obtain ⟨k, rfl⟩ : ∃ j, k = j + 20 := ⟨k - 20, by omega⟩
  rcases h with ⟨B, R1, K, E, hn, eB, eR1, eK, eE, rfl, rfl, rfl, rfl⟩ | ⟨B, R1, R2, K, E, hn, eB, eR1, eR2, eK, eE, rfl, rfl, rfl, rfl⟩
  · skip
    have hm : M.m.n ≠ 3 := by omega
    have nB : B.m.n = 2 := (B_vext eB).n.trans hn
    have mB : B.m.n ≠ 3 := by omega
    have nR1 : R1.2.m.n = 2 := (D_vext eR1).n.trans nB
    have mR1 : R1.2.m.n ≠ 3 := by omega
    have nK : K.2.m.n = 2 := (D_vext eK).n.trans nR1
    have mK : K.2.m.n ≠ 3 := by omega
    unfold share_Encode.m
    unfold share_none.m
    repeat (first
      | with_reducible refine bstep (N_v (by assumption)) ?_
      | with_reducible refine bstep (Begin_v (by assumption)) ?_
      | with_reducible refine bstep (Rand_v (by assumption) (by omega)) ?_
      | with_reducible refine bstep (Do_v (by assumption) (by omega) isW_zero isW_zero) ?_
      | with_reducible refine bstep (Do_v (by assumption) (by omega) hw isW_zero) ?_
      | with_reducible refine bstep (Key_v (by assumption) (by omega) hw) ?_
      | with_reducible refine bstep (End_v (by assumption)) ?_
      | with_reducible refine bassoc ?_
      | with_reducible refine bsome ?_
      | ((with_reducible refine biteP ?_ ?_); · first | exact rfl | exact Nat.le_of_ble_eq_true rfl | decide)
      | ((with_reducible refine iteP ?_ ?_); · first | exact rfl | exact Nat.le_of_ble_eq_true rfl | decide)
      | ((with_reducible refine bbifT ?_ ?_); · first | decide | exact beqT (by assumption) | exact ltT (by assumption) (by decide) | exact bneT (by assumption))
      | ((with_reducible refine bbifF ?_ ?_); · first | decide | exact beqN (by assumption) | exact ltF (by assumption) (by decide) | exact bneN (by assumption))
      | ((with_reducible refine bifT ?_ ?_); · first | decide | exact beqT (by assumption) | exact ltT (by assumption) (by decide) | exact bneT (by assumption))
      | ((with_reducible refine bifF ?_ ?_); · first | decide | exact beqN (by assumption) | exact ltF (by assumption) (by decide) | exact bneN (by assumption))
      | rw [share_Encode.l1]
      | rw [W01]
      | rw [W2]
      | rw [W3]
      | ((with_reducible apply bstep); · exact rfl)
      | dsimp only)
    exact rfl
  · skip
    have hm : M.m.n ≠ 2 := by omega
    have nB : B.m.n = 3 := (B_vext eB).n.trans hn
    have mB : B.m.n ≠ 2 := by omega
    have nR1 : R1.2.m.n = 3 := (D_vext eR1).n.trans nB
    have mR1 : R1.2.m.n ≠ 2 := by omega
    have nR2 : R2.2.m.n = 3 := (D_vext eR2).n.trans nR1
    have mR2 : R2.2.m.n ≠ 2 := by omega
    have nK : K.2.m.n = 3 := (D_vext eK).n.trans nR2
    have mK : K.2.m.n ≠ 2 := by omega
    unfold share_Encode.m
    unfold share_none.m
    repeat (first
      | with_reducible refine bstep (N_v (by assumption)) ?_
      | with_reducible refine bstep (Begin_v (by assumption)) ?_
      | with_reducible refine bstep (Rand_v (by assumption) (by omega)) ?_
      | with_reducible refine bstep (Do_v (by assumption) (by omega) isW_zero isW_zero) ?_
      | with_reducible refine bstep (Do_v (by assumption) (by omega) hw isW_zero) ?_
      | with_reducible refine bstep (Key_v (by assumption) (by omega) hw) ?_
      | with_reducible refine bstep (End_v (by assumption)) ?_
      | with_reducible refine bassoc ?_
      | with_reducible refine bsome ?_
      | ((with_reducible refine biteP ?_ ?_); · first | exact rfl | exact Nat.le_of_ble_eq_true rfl | decide)
      | ((with_reducible refine iteP ?_ ?_); · first | exact rfl | exact Nat.le_of_ble_eq_true rfl | decide)
      | ((with_reducible refine bbifT ?_ ?_); · first | decide | exact beqT (by assumption) | exact ltT (by assumption) (by decide) | exact bneT (by assumption))
      | ((with_reducible refine bbifF ?_ ?_); · first | decide | exact beqN (by assumption) | exact ltF (by assumption) (by decide) | exact bneN (by assumption))
      | ((with_reducible refine bifT ?_ ?_); · first | decide | exact beqT (by assumption) | exact ltT (by assumption) (by decide) | exact bneT (by assumption))
      | ((with_reducible refine bifF ?_ ?_); · first | decide | exact beqN (by assumption) | exact ltF (by assumption) (by decide) | exact bneN (by assumption))
      | rw [share_Encode.l1]
      | rw [W01]
      | rw [W2]
      | rw [W3]
      | ((with_reducible apply bstep); · exact rfl)
      | dsimp only)
    exact rfl
theorem EnC.s {M M' F : WM} {w : Int} {o0 o1 o2 : Int} (h : EnC M w o0 o1 o2 M') (x : Ext M' F) (hF : F.m.bad = 0) : Stands F o0 o1 o2 (BitVec.ofInt 64 w) := by
  rcases h with ⟨B, R1, K, E, hn, eB, eR1, eK, eE, rfl, rfl, rfl, rfl⟩ | ⟨B, R1, R2, K, E, hn, eB, eR1, eR2, eK, eE, rfl, rfl, rfl, rfl⟩
  · have x4 := x
    have x3 := (E_vext eE).trans x4
    have x2 := (D_vext eK).trans x3
    have x1 := (D_vext eR1).trans x2
    have x0 := (B_vext eB).trans x1
    have nF : F.m.n = 2 := x0.n.trans hn
    obtain ⟨zR1, vR1⟩ := F_rand eR1 x2 hF
    have vK := F_key1 eK x3 hF vR1
    refine .inl ⟨nF, rfl, _, _, vK, vR1, ?_⟩
    generalize BitVec.ofInt 64 w = d at *
    apply BitVec.eq_of_getLsbD_eq; intro i hi
    simp only [BitVec.getLsbD_xor, BitVec.getLsbD_zero]
    generalize BitVec.getLsbD zR1 i = yzR1
    generalize BitVec.getLsbD d i = yd
    revert yzR1 yd
    decide
  · have x5 := x
    have x4 := (E_vext eE).trans x5
    have x3 := (D_vext eK).trans x4
    have x2 := (D_vext eR2).trans x3
    have x1 := (D_vext eR1).trans x2
    have x0 := (B_vext eB).trans x1
    have nF : F.m.n = 3 := x0.n.trans hn
    obtain ⟨zR1, vR1⟩ := F_rand eR1 x2 hF
    obtain ⟨zR2, vR2⟩ := F_rand eR2 x3 hF
    have vK := F_key eK x4 hF vR1 vR2
    refine .inr ⟨nF, _, _, _, vK, vR1, vR2, ?_⟩
    generalize BitVec.ofInt 64 w = d at *
    apply BitVec.eq_of_getLsbD_eq; intro i hi
    simp only [BitVec.getLsbD_xor]
    generalize BitVec.getLsbD zR1 i = yzR1
    generalize BitVec.getLsbD zR2 i = yzR2
    generalize BitVec.getLsbD d i = yd
    revert yzR1 yzR2 yd
    decide
/-! A pair of machines that begins, and that both are alike. -/
def startM (n most : Int) (ms : List Int) : Twire_Machine := ⟨n, most, 0, 0, 0, false, 0, 0, 0, ⟨ms, ⟨0⟩, (ms.length : Int)⟩, [], [], []⟩
theorem start_ok {n most : Int} {ms : List Int} (hn : n = 2 ∨ n = 3) (hm : most ≤ 1048576) (hw : ∀ x ∈ ms, IsW x) (hl : ms.length * 8 ≤ 140737488351232) : WMok (startM n most ms) := by
  refine ⟨⟨hn, hm, ⟨Int.le_refl 0, by show (0 : Int) ≤ 4611686018427387904; omega⟩, ⟨Int.le_refl 0, Int.le_refl 0⟩, ⟨Int.le_refl 0, Int.le_refl 0⟩, Nat.zero_le _, rfl, ⟨Int.le_refl 0, by show (0 : Int) ≤ 3; omega⟩, fun x h => (by cases h), hw, ⟨Int.le_refl 0, by show (0 : Int) ≤ (ms.length : Int); omega⟩, Int.le_refl _, by show (ms.length : Int) ≤ 4611686018427387904; omega, fun _ => rfl, fun h => (by cases h)⟩, rfl, trivial, .inr rfl, ⟨Int.le_refl 0, by show (0 : Int) ≤ 3; omega⟩⟩
theorem Begins_m (k : Nat) {n most : Int} {ms : List Int} (hn : n = 2 ∨ n = 3) (h0 : 0 ≤ most) (hm : most ≤ 1048576) (hl : ms.length * 8 ≤ 140737488351232) :
    visorlaw20_Begins.m k n ms most = some (Sum.inr (startM n most ms, absM (startM n most ms), [], [], true)) := by
  have e1 : tape_New.m k ms = some ⟨ms, ⟨0⟩, 0⟩ := by
    unfold tape_New.m slices_Clone_uint64_uint64.m
    rw [if_pos (by simp only [List.length_nil]; omega)]; rfl
  have e2 : tape_Tape_Reserve.m k ⟨ms, ⟨0⟩, 0⟩ (ms.length : Int) = some (0, ⟨ms, ⟨0⟩, (ms.length : Int)⟩) := by
    unfold tape_Tape_Reserve.m tape_Tape_Left.m tape_Tape_Used.m
    rw [decide_eq_false (by omega), cond_false, Option.bind_some]
    dsimp only
    rw [wrapI (by omega) (by omega), Option.bind_some, decide_eq_false (by omega), cond_false]
  have e3 : ((((n != 2) && (n != 3)) || (decide (most < 0))) || (decide (most > 1048576))) = false := by
    rw [decide_eq_false (by omega), decide_eq_false (by omega)]
    rcases hn with rfl | rfl <;> rfl
  unfold visorlaw20_Begins.m wire_New.m visorref19_New.m
  rw [e1, Option.bind_some, e2, Option.bind_some]
  dsimp only
  rw [e3, cond_false]
  rfl
def start (n most : Int) (ms : List Int) (hn : n = 2 ∨ n = 3) (hm : most ≤ 1048576) (hw : ∀ x ∈ ms, IsW x) (hl : ms.length * 8 ≤ 140737488351232) : WM := ⟨startM n most ms, start_ok hn hm hw hl⟩
theorem Values_w (k : Nat) (M : WM) : wire_Machine_Values.m k M.m = some M.m.values := by
  have := M.w.ok.vals; have := M.w.ok.ops
  unfold wire_Machine_Values.m slices_Clone_uint64_uint64.m
  rw [if_pos (by simp only [List.length_nil]; omega)]; rfl
theorem Trace_w (k : Nat) (M : WM) : wire_Machine_Trace.m k M.m = some ⟨M.m.n, M.m.ops, M.m.blocks⟩ := by
  have := M.w.ok.ops; have := M.blocks
  unfold wire_Machine_Trace.m slices_Clone_api_Op_api_Op.m slices_Clone_api_Span_api_Span.m
  rw [if_pos (by simp only [List.length_nil]; omega), Option.bind_some, if_pos (by simp only [List.length_nil]; omega)]; rfl
theorem u_ofInt {x : Int} (h : IsW x) : u (BitVec.ofInt 64 x) = x := by
  obtain ⟨b, rfl⟩ := exists_u h.1 h.2
  rw [ofInt_u]
theorem Stands.c {M : WM} {a b c : Int} {z : BitVec 64} (h : Stands M a b c z) (hn : M.m.n = 2) : c = -1 := by
  rcases h with ⟨_, h, _⟩ | ⟨h, _⟩
  · exact h
  · omega
/-! What a word is made into, fully and simply fresh. -/
theorem masks1_v {k : Nat} {M : WM} {R : Int × WM} (hk : 10 ≤ k) (h : R = M.D ⟨1, -1, -1, -1, -1, 0⟩ 0) : fresh_masks.m k M.m 1 = some ([ci R.1, ci 0, ci 0], R.2.m) := by
  obtain ⟨k, rfl⟩ : ∃ j, k = j + 4 := ⟨k - 4, by omega⟩
  unfold fresh_masks.m
  rw [fresh_masks.l1, show decide ((0 : Int) < 1) = true from rfl, cond_true, Rand_v h (by omega), Option.bind_some, if_pos (by decide), if_pos (by decide), W01, fresh_masks.l1, show decide ((1 : Int) < 1) = false from rfl, cond_false]
  rfl
theorem masks3_v {k : Nat} {M : WM} {R S T : Int × WM} (hk : 10 ≤ k) (h : R = M.D ⟨1, -1, -1, -1, -1, 0⟩ 0) (h2 : S = R.2.D ⟨1, -1, -1, -1, -1, 0⟩ 0) (h3 : T = S.2.D ⟨1, -1, -1, -1, -1, 0⟩ 0) : fresh_masks.m k M.m 3 = some ([ci R.1, ci S.1, ci T.1], T.2.m) := by
  obtain ⟨k, rfl⟩ : ∃ j, k = j + 4 := ⟨k - 4, by omega⟩
  unfold fresh_masks.m
  rw [fresh_masks.l1, show decide ((0 : Int) < 3) = true from rfl, cond_true, Rand_v h (by omega), Option.bind_some, if_pos (by decide), if_pos (by decide), W01, fresh_masks.l1, show decide ((1 : Int) < 3) = true from rfl, cond_true, Rand_v h2 (by omega), Option.bind_some, if_pos (by decide), if_pos (by show 1 < 3; omega), W2, fresh_masks.l1, show decide ((2 : Int) < 3) = true from rfl, cond_true, Rand_v h3 (by omega), Option.bind_some, if_pos (by decide), if_pos (by show 2 < 3; omega), W3, fresh_masks.l1, show decide ((3 : Int) < 3) = false from rfl, cond_false]
  rfl
/-! Fresh words, each call as a row of Do's (printed by wip/gen/gads.py). -/
def FuC (M : WM) (a : Int) (b : Int) (c : Int) (o0 o1 o2 : Int) (M' : WM) : Prop :=
  (∃ B : WM, ∃ R : Int × WM, ∃ X0 : Int × WM, ∃ X1 : Int × WM, ∃ E : WM, M.m.n = 2 ∧ c = -1 ∧ B = M.B 2 ∧ R = B.D ⟨1, -1, -1, -1, -1, 0⟩ 0 ∧ X0 = R.2.D ⟨5, 0, a, R.1, -1, 0⟩ 0 ∧ X1 = X0.2.D ⟨5, 1, b, R.1, -1, 0⟩ 0 ∧ E = X1.2.E ∧ o0 = X0.1 ∧ o1 = X1.1 ∧ o2 = -1 ∧ M' = E) ∨
  (∃ B : WM, ∃ R : Int × WM, ∃ S : Int × WM, ∃ T : Int × WM, ∃ X0 : Int × WM, ∃ X1 : Int × WM, ∃ X2 : Int × WM, ∃ X3 : Int × WM, ∃ X4 : Int × WM, ∃ X5 : Int × WM, ∃ E : WM, M.m.n = 3 ∧ B = M.B 2 ∧ R = B.D ⟨1, -1, -1, -1, -1, 0⟩ 0 ∧ S = R.2.D ⟨1, -1, -1, -1, -1, 0⟩ 0 ∧ T = S.2.D ⟨1, -1, -1, -1, -1, 0⟩ 0 ∧ X0 = T.2.D ⟨5, 0, a, R.1, -1, 0⟩ 0 ∧ X1 = X0.2.D ⟨5, 0, X0.1, S.1, -1, 0⟩ 0 ∧ X2 = X1.2.D ⟨5, 1, b, R.1, -1, 0⟩ 0 ∧ X3 = X2.2.D ⟨5, 1, X2.1, T.1, -1, 0⟩ 0 ∧ X4 = X3.2.D ⟨5, 2, c, S.1, -1, 0⟩ 0 ∧ X5 = X4.2.D ⟨5, 2, X4.1, T.1, -1, 0⟩ 0 ∧ E = X5.2.E ∧ o0 = X1.1 ∧ o1 = X3.1 ∧ o2 = X5.1 ∧ M' = E)
theorem FuC.ex (M : WM) (a : Int) (b : Int) (c : Int) (hc : M.m.n = 2 → c = -1) : ∃ o0 o1 o2 M', FuC M a b c o0 o1 o2 M' := by
  rcases M.w.ok.n with h | h
  · exact ⟨_, _, _, _, .inl ⟨_, _, _, _, _, h, (hc h), rfl, rfl, rfl, rfl, rfl, rfl, rfl, rfl, rfl⟩⟩
  · exact ⟨_, _, _, _, .inr ⟨_, _, _, _, _, _, _, _, _, _, _, h, rfl, rfl, rfl, rfl, rfl, rfl, rfl, rfl, rfl, rfl, rfl, rfl, rfl, rfl, rfl⟩⟩
theorem FuC.ext {M M' : WM} {a : Int} {b : Int} {c : Int} {o0 o1 o2 : Int} (h : FuC M a b c o0 o1 o2 M') : Ext M M' := by
  rcases h with ⟨B, R, X0, X1, E, hn, hp0, eB, eR, eX0, eX1, eE, rfl, rfl, rfl, rfl⟩ | ⟨B, R, S, T, X0, X1, X2, X3, X4, X5, E, hn, eB, eR, eS, eT, eX0, eX1, eX2, eX3, eX4, eX5, eE, rfl, rfl, rfl, rfl⟩
  · exact (((((B_vext eB).trans (D_vext eR)).trans (D_vext eX0)).trans (D_vext eX1)).trans (E_vext eE))
  · exact (((((((((((B_vext eB).trans (D_vext eR)).trans (D_vext eS)).trans (D_vext eT)).trans (D_vext eX0)).trans (D_vext eX1)).trans (D_vext eX2)).trans (D_vext eX3)).trans (D_vext eX4)).trans (D_vext eX5)).trans (E_vext eE))
theorem FuC.c {M M' : WM} {a : Int} {b : Int} {c : Int} {o0 o1 o2 : Int} (h : FuC M a b c o0 o1 o2 M') (hn' : M'.m.n = 2) : o2 = -1 := by
  have hm := h.ext.n
  rcases h with ⟨B, R, X0, X1, E, hn, hp0, eB, eR, eX0, eX1, eE, rfl, rfl, rfl, rfl⟩ | ⟨B, R, S, T, X0, X1, X2, X3, X4, X5, E, hn, eB, eR, eS, eT, eX0, eX1, eX2, eX3, eX4, eX5, eE, rfl, rfl, rfl, rfl⟩
  · rfl
  · omega
theorem FuC.p {k : Nat} (hk : 90 ≤ k) {M M' : WM} {a : Int} {b : Int} {c : Int} {o0 o1 o2 : Int} (h : FuC M a b c o0 o1 o2 M') : fresh_Full.m k M.m [ci a, ci b, ci c] = some ([ci o0, ci o1, ci o2], M'.m) := by
  rcases h with ⟨B, R, X0, X1, E, hn, rfl, eB, eR, eX0, eX1, eE, rfl, rfl, rfl, rfl⟩ | ⟨B, R, S, T, X0, X1, X2, X3, X4, X5, E, hn, eB, eR, eS, eT, eX0, eX1, eX2, eX3, eX4, eX5, eE, rfl, rfl, rfl, rfl⟩
  · skip
    have hm : M.m.n ≠ 3 := by omega
    have nB : B.m.n = 2 := (B_vext eB).n.trans hn
    have mB : B.m.n ≠ 3 := by omega
    have nR : R.2.m.n = 2 := (D_vext eR).n.trans nB
    have mR : R.2.m.n ≠ 3 := by omega
    have nX0 : X0.2.m.n = 2 := (D_vext eX0).n.trans nR
    have mX0 : X0.2.m.n ≠ 3 := by omega
    have nX1 : X1.2.m.n = 2 := (D_vext eX1).n.trans nX0
    have mX1 : X1.2.m.n ≠ 3 := by omega
    unfold fresh_Full.m
    repeat (first
      | with_reducible refine bstep (N_v (by assumption)) ?_
      | with_reducible refine bstep (Begin_v (by assumption)) ?_
      | with_reducible refine bstep (masks1_v (by omega) (by assumption)) ?_
      | with_reducible refine bstep (Two_v (by assumption) (by omega)) ?_
      | with_reducible refine bstep (Rand_v (by assumption) (by omega)) ?_
      | with_reducible refine bstep (End_v (by assumption)) ?_
      | ((with_reducible refine iteP ?_ ?_); · first | exact rfl | exact Nat.le_of_ble_eq_true rfl | decide)
      | ((with_reducible refine bifT ?_ ?_); · first | decide | exact beqT (by assumption) | exact ltT (by assumption) (by decide) | exact bneT (by assumption))
      | ((with_reducible refine bifF ?_ ?_); · first | decide | exact beqN (by assumption) | exact ltF (by assumption) (by decide) | exact bneN (by assumption))
      | ((with_reducible apply bstep); · exact rfl)
      | dsimp only)
    exact rfl
  · skip
    have hm : M.m.n ≠ 2 := by omega
    have nB : B.m.n = 3 := (B_vext eB).n.trans hn
    have mB : B.m.n ≠ 2 := by omega
    have nR : R.2.m.n = 3 := (D_vext eR).n.trans nB
    have mR : R.2.m.n ≠ 2 := by omega
    have nS : S.2.m.n = 3 := (D_vext eS).n.trans nR
    have mS : S.2.m.n ≠ 2 := by omega
    have nT : T.2.m.n = 3 := (D_vext eT).n.trans nS
    have mT : T.2.m.n ≠ 2 := by omega
    have nX0 : X0.2.m.n = 3 := (D_vext eX0).n.trans nT
    have mX0 : X0.2.m.n ≠ 2 := by omega
    have nX1 : X1.2.m.n = 3 := (D_vext eX1).n.trans nX0
    have mX1 : X1.2.m.n ≠ 2 := by omega
    have nX2 : X2.2.m.n = 3 := (D_vext eX2).n.trans nX1
    have mX2 : X2.2.m.n ≠ 2 := by omega
    have nX3 : X3.2.m.n = 3 := (D_vext eX3).n.trans nX2
    have mX3 : X3.2.m.n ≠ 2 := by omega
    have nX4 : X4.2.m.n = 3 := (D_vext eX4).n.trans nX3
    have mX4 : X4.2.m.n ≠ 2 := by omega
    have nX5 : X5.2.m.n = 3 := (D_vext eX5).n.trans nX4
    have mX5 : X5.2.m.n ≠ 2 := by omega
    unfold fresh_Full.m
    repeat (first
      | with_reducible refine bstep (N_v (by assumption)) ?_
      | with_reducible refine bstep (Begin_v (by assumption)) ?_
      | with_reducible refine bstep (masks3_v (by omega) (by assumption) (by assumption) (by assumption)) ?_
      | with_reducible refine bstep (Two_v (by assumption) (by omega)) ?_
      | with_reducible refine bstep (Rand_v (by assumption) (by omega)) ?_
      | with_reducible refine bstep (End_v (by assumption)) ?_
      | ((with_reducible refine iteP ?_ ?_); · first | exact rfl | exact Nat.le_of_ble_eq_true rfl | decide)
      | ((with_reducible refine bifT ?_ ?_); · first | decide | exact beqT (by assumption) | exact ltT (by assumption) (by decide) | exact bneT (by assumption))
      | ((with_reducible refine bifF ?_ ?_); · first | decide | exact beqN (by assumption) | exact ltF (by assumption) (by decide) | exact bneN (by assumption))
      | ((with_reducible apply bstep); · exact rfl)
      | dsimp only)
    exact rfl
theorem FuC.s {M M' F : WM} {a : Int} {b : Int} {c : Int} {o0 o1 o2 : Int} (h : FuC M a b c o0 o1 o2 M') (x : Ext M' F) (hF : F.m.bad = 0) {z : BitVec 64} (s0 : Stands F a b c z) : Stands F o0 o1 o2 z := by
  rcases h with ⟨B, R, X0, X1, E, hn, hp0, eB, eR, eX0, eX1, eE, rfl, rfl, rfl, rfl⟩ | ⟨B, R, S, T, X0, X1, X2, X3, X4, X5, E, hn, eB, eR, eS, eT, eX0, eX1, eX2, eX3, eX4, eX5, eE, rfl, rfl, rfl, rfl⟩
  · have x5 := x
    have x4 := (E_vext eE).trans x5
    have x3 := (D_vext eX1).trans x4
    have x2 := (D_vext eX0).trans x3
    have x1 := (D_vext eR).trans x2
    have x0 := (B_vext eB).trans x1
    have nF : F.m.n = 2 := x0.n.trans hn
    obtain ⟨_, hc0, p0, q0, vp0, vq0, rfl⟩ : F.m.n = 2 ∧ _ := by
      rcases s0 with h | h
      · exact h
      · exact absurd h.1 (by omega)
    obtain ⟨zR, vR⟩ := F_rand eR x2 hF
    have vX0 := F_xor eX0 x3 hF vp0 vR
    have vX1 := F_xor eX1 x4 hF vq0 vR
    refine .inl ⟨nF, rfl, _, _, vX0, vX1, ?_⟩
    apply BitVec.eq_of_getLsbD_eq; intro i hi
    simp only [BitVec.getLsbD_xor]
    generalize BitVec.getLsbD p0 i = yp0
    generalize BitVec.getLsbD q0 i = yq0
    generalize BitVec.getLsbD zR i = yzR
    revert yp0 yq0 yzR
    decide
  · have x11 := x
    have x10 := (E_vext eE).trans x11
    have x9 := (D_vext eX5).trans x10
    have x8 := (D_vext eX4).trans x9
    have x7 := (D_vext eX3).trans x8
    have x6 := (D_vext eX2).trans x7
    have x5 := (D_vext eX1).trans x6
    have x4 := (D_vext eX0).trans x5
    have x3 := (D_vext eT).trans x4
    have x2 := (D_vext eS).trans x3
    have x1 := (D_vext eR).trans x2
    have x0 := (B_vext eB).trans x1
    have nF : F.m.n = 3 := x0.n.trans hn
    obtain ⟨_, p0, q0, r0, vp0, vq0, vr0, rfl⟩ : F.m.n = 3 ∧ _ := by
      rcases s0 with h | h
      · exact absurd h.1 (by omega)
      · exact h
    obtain ⟨zR, vR⟩ := F_rand eR x2 hF
    obtain ⟨zS, vS⟩ := F_rand eS x3 hF
    obtain ⟨zT, vT⟩ := F_rand eT x4 hF
    have vX0 := F_xor eX0 x5 hF vp0 vR
    have vX1 := F_xor eX1 x6 hF vX0 vS
    have vX2 := F_xor eX2 x7 hF vq0 vR
    have vX3 := F_xor eX3 x8 hF vX2 vT
    have vX4 := F_xor eX4 x9 hF vr0 vS
    have vX5 := F_xor eX5 x10 hF vX4 vT
    refine .inr ⟨nF, _, _, _, vX1, vX3, vX5, ?_⟩
    apply BitVec.eq_of_getLsbD_eq; intro i hi
    simp only [BitVec.getLsbD_xor]
    generalize BitVec.getLsbD p0 i = yp0
    generalize BitVec.getLsbD q0 i = yq0
    generalize BitVec.getLsbD r0 i = yr0
    generalize BitVec.getLsbD zR i = yzR
    generalize BitVec.getLsbD zS i = yzS
    generalize BitVec.getLsbD zT i = yzT
    revert yp0 yq0 yr0 yzR yzS yzT
    decide
def SiC (M : WM) (a : Int) (b : Int) (c : Int) (o0 o1 o2 : Int) (M' : WM) : Prop :=
  (∃ B : WM, ∃ R : Int × WM, ∃ S : Int × WM, ∃ X0 : Int × WM, ∃ X1 : Int × WM, ∃ X2 : Int × WM, ∃ X4 : Int × WM, ∃ E : WM, M.m.n = 3 ∧ B = M.B 2 ∧ R = B.D ⟨1, -1, -1, -1, -1, 0⟩ 0 ∧ S = R.2.D ⟨1, -1, -1, -1, -1, 0⟩ 0 ∧ X0 = S.2.D ⟨5, 0, a, R.1, -1, 0⟩ 0 ∧ X1 = X0.2.D ⟨5, 0, X0.1, S.1, -1, 0⟩ 0 ∧ X2 = X1.2.D ⟨5, 1, b, R.1, -1, 0⟩ 0 ∧ X4 = X2.2.D ⟨5, 2, c, S.1, -1, 0⟩ 0 ∧ E = X4.2.E ∧ o0 = X1.1 ∧ o1 = X2.1 ∧ o2 = X4.1 ∧ M' = E)
theorem SiC.ext {M M' : WM} {a : Int} {b : Int} {c : Int} {o0 o1 o2 : Int} (h : SiC M a b c o0 o1 o2 M') : Ext M M' := by
  rcases h with ⟨B, R, S, X0, X1, X2, X4, E, hn, eB, eR, eS, eX0, eX1, eX2, eX4, eE, rfl, rfl, rfl, rfl⟩
  · exact ((((((((B_vext eB).trans (D_vext eR)).trans (D_vext eS)).trans (D_vext eX0)).trans (D_vext eX1)).trans (D_vext eX2)).trans (D_vext eX4)).trans (E_vext eE))
theorem SiC.ex (M : WM) (a b c : Int) (h : M.m.n = 3) : ∃ o0 o1 o2 M', SiC M a b c o0 o1 o2 M' := ⟨_, _, _, _, _, _, _, _, _, _, _, _, h, rfl, rfl, rfl, rfl, rfl, rfl, rfl, rfl, rfl, rfl, rfl, rfl⟩
theorem SiC.s {M M' F : WM} {a : Int} {b : Int} {c : Int} {o0 o1 o2 : Int} (h : SiC M a b c o0 o1 o2 M') (x : Ext M' F) (hF : F.m.bad = 0) {z : BitVec 64} (s0 : Stands F a b c z) : Stands F o0 o1 o2 z := by
  rcases h with ⟨B, R, S, X0, X1, X2, X4, E, hn, eB, eR, eS, eX0, eX1, eX2, eX4, eE, rfl, rfl, rfl, rfl⟩
  · have x8 := x
    have x7 := (E_vext eE).trans x8
    have x6 := (D_vext eX4).trans x7
    have x5 := (D_vext eX2).trans x6
    have x4 := (D_vext eX1).trans x5
    have x3 := (D_vext eX0).trans x4
    have x2 := (D_vext eS).trans x3
    have x1 := (D_vext eR).trans x2
    have x0 := (B_vext eB).trans x1
    have nF : F.m.n = 3 := x0.n.trans hn
    obtain ⟨_, p0, q0, r0, vp0, vq0, vr0, rfl⟩ : F.m.n = 3 ∧ _ := by
      rcases s0 with h | h
      · exact absurd h.1 (by omega)
      · exact h
    obtain ⟨zR, vR⟩ := F_rand eR x2 hF
    obtain ⟨zS, vS⟩ := F_rand eS x3 hF
    have vX0 := F_xor eX0 x4 hF vp0 vR
    have vX1 := F_xor eX1 x5 hF vX0 vS
    have vX2 := F_xor eX2 x6 hF vq0 vR
    have vX4 := F_xor eX4 x7 hF vr0 vS
    refine .inr ⟨nF, _, _, _, vX1, vX2, vX4, ?_⟩
    apply BitVec.eq_of_getLsbD_eq; intro i hi
    simp only [BitVec.getLsbD_xor]
    generalize BitVec.getLsbD p0 i = yp0
    generalize BitVec.getLsbD q0 i = yq0
    generalize BitVec.getLsbD r0 i = yr0
    generalize BitVec.getLsbD zR i = yzR
    generalize BitVec.getLsbD zS i = yzS
    revert yp0 yq0 yr0 yzR yzS
    decide
/-- whenever it stands for anything at all -/
def Std (M : WM) (a b c : Int) (z : BitVec 64) : Prop := ∀ F, Ext M F → F.m.bad = 0 → Stands F a b c z
theorem Std.ext {M M' : WM} {a b c : Int} {z : BitVec 64} (h : Std M a b c z) (e : Ext M M') : Std M' a b c z := fun F x hF => h F (e.trans x) hF
/-! any of words -/
def WInv (M : WM) (L : List Cells) (Z : List (BitVec 64)) : Prop := L.length = Z.length ∧ ∀ i, i < L.length → ∃ a b c z, L[i]? = some [ci a, ci b, ci c] ∧ Z[i]? = some z ∧ (M.m.n = 2 → c = -1) ∧ Std M a b c z
theorem WInv.ext {M M' : WM} {L : List Cells} {Z : List (BitVec 64)} (h : WInv M L Z) (e : Ext M M') : WInv M' L Z := ⟨h.1, fun i hi => by
  obtain ⟨a, b, c, z, h1, h2, h3, h4⟩ := h.2 i hi
  exact ⟨a, b, c, z, h1, h2, fun hn => h3 (e.n ▸ hn), h4.ext e⟩⟩
theorem WInv.snoc {M : WM} {L : List Cells} {Z : List (BitVec 64)} (h : WInv M L Z) {a b c : Int} {z : BitVec 64} (hc : M.m.n = 2 → c = -1) (s : Std M a b c z) : WInv M (L ++ [[ci a, ci b, ci c]]) (Z ++ [z]) := by
  refine ⟨by simp [h.1], fun i hi => ?_⟩
  simp only [List.length_append, List.length_singleton] at hi
  by_cases h' : i < L.length
  · obtain ⟨a, b, c, z, h1, h2, h3, h4⟩ := h.2 i h'
    exact ⟨a, b, c, z, by rw [List.getElem?_append_left h']; exact h1, by rw [List.getElem?_append_left (h.1 ▸ h')]; exact h2, h3, h4⟩
  · have e : i = L.length := by omega
    refine ⟨a, b, c, z, ?_, ?_, hc, s⟩
    · rw [e, List.getElem?_append_right (Nat.le_refl _), Nat.sub_self]; rfl
    · rw [e, h.1, List.getElem?_append_right (Nat.le_refl _), Nat.sub_self]; rfl
/-! bits, as the programs take them -/
theorem shr_nat {k : IntKind} (e q : Nat) (h : q ≤ k.bits) : shr k (e : Int) (q : Int) = ((e / 2 ^ q : Nat) : Int) := by
  unfold shr
  rw [show min ((q : Int)).toNat k.bits = q by rw [Int.toNat_natCast]; omega]
  have : ((2 : Int) ^ q) = ((2 ^ q : Nat) : Int) := by simp
  rw [this, Int.fdiv_eq_ediv_of_nonneg _ (Int.natCast_nonneg _)]; rfl
/-! Planes: eight words as shares. -/
abbrev Tri := Int × Int × Int
def c3 (w : Tri) : Cells := [ci w.1, ci w.2.1, ci w.2.2]
def pl (f : Nat → Tri) : Cells := c3 (f 0) ++ (c3 (f 1) ++ (c3 (f 2) ++ (c3 (f 3) ++ (c3 (f 4) ++ (c3 (f 5) ++ (c3 (f 6) ++ c3 (f 7)))))))
theorem pl_len (f : Nat → Tri) : (pl f).length = 24 := rfl
theorem lt8 {j : Nat} (h : j < 8) : j = 0 ∨ j = 1 ∨ j = 2 ∨ j = 3 ∨ j = 4 ∨ j = 5 ∨ j = 6 ∨ j = 7 := by omega
theorem pl_congr {f g : Nat → Tri} (h : ∀ j, j < 8 → f j = g j) : pl f = pl g := by
  unfold pl
  rw [h 0 (by omega), h 1 (by omega), h 2 (by omega), h 3 (by omega), h 4 (by omega), h 5 (by omega), h 6 (by omega), h 7 (by omega)]
theorem pl_splice (f : Nat → Tri) (w : Tri) {j : Nat} (h : j < 8) : splice (pl f) (0 + (j : Int).toNat * 3) (c3 w) = pl (fun i => if i = j then w else f i) := by
  rcases lt8 h with rfl | rfl | rfl | rfl | rfl | rfl | rfl | rfl <;> rfl
def zW : Nat → Tri := fun _ => (0, 0, 0)
/-- each plane stands for a word -/
def PlW (M : WM) (f : Nat → Tri) (x : Nat → BitVec 64) : Prop := ∀ j, j < 8 → (M.m.n = 2 → (f j).2.2 = -1) ∧ Std M (f j).1 (f j).2.1 (f j).2.2 (x j)
theorem PlW.ext {M M' : WM} {f : Nat → Tri} {x : Nat → BitVec 64} (h : PlW M f x) (e : Ext M M') : PlW M' f x := fun j hj => ⟨fun hn => (h j hj).1 (e.n ▸ hn), (h j hj).2.ext e⟩
theorem PlW.to {M : WM} {f : Nat → Tri} {x y : Nat → BitVec 64} (h : PlW M f x) (e : ∀ j, j < 8 → x j = y j) : PlW M f y := fun j hj => ⟨(h j hj).1, e j hj ▸ (h j hj).2⟩
def mix (j : Nat) (f z : Nat → Tri) : Nat → Tri := fun i => if i < j then f i else z i
theorem mix_next {j : Nat} (hj : j < 8) (f z : Nat → Tri) (w : Tri) : splice (pl (mix j f z)) (0 + (j : Int).toNat * 3) (c3 w) = pl (mix (j + 1) (fun i => if i = j then w else f i) z) := by
  rw [pl_splice _ _ hj]
  refine pl_congr fun i hi => ?_
  unfold mix
  by_cases h1 : i = j
  · rw [if_pos h1, if_pos (by omega)]; exact (if_pos h1).symm
  · rw [if_neg h1]
    by_cases h2 : i < j
    · rw [if_pos h2, if_pos (by omega)]; exact (if_neg h1).symm
    · rw [if_neg h2, if_neg (by omega)]
theorem mix_end (f z : Nat → Tri) : pl (mix 8 f z) = pl f := pl_congr fun i hi => by unfold mix; rw [if_pos hi]
theorem i8 {j : Nat} (h : j < 8) : (0 : Int) ≤ (j : Int) ∧ (j : Int) < 8 := by omega
theorem l8 {A : Cells} (hA : A.length = 24) {j : Nat} (h : j < 8) (a b c : Int) : 0 + (j : Int).toNat * 3 + ([ci a, ci b, ci c] : Cells).length ≤ A.length := by
  rw [hA]; simp only [List.length_cons, List.length_nil]; omega
theorem nx8 {j : Nat} (h : j < 8) : IntKind.i64.wrap ((j : Int) + 1) = ((j + 1 : Nat) : Int) := by rw [wrapI (by omega) (by omega)]; rfl
theorem lt8d {j : Nat} (h : j < 8) : decide ((j : Int) < 8) = true := decide_eq_true (by omega)
/-! Opening a word: what both machines answer. -/
theorem D_neg {M : WM} {X : Int × WM} {o : Tapi_Op} {x : Int} (e : X = M.D o x) (hb : X.2.m.bad ≠ 0) : X.1 = -1 := by
  subst e; revert hb
  show (doM M.m o x).2.bad ≠ 0 → (doM M.m o x).1 = -1
  have hd := M.w.dry
  unfold doM
  repeat' split
  · intro _; rfl
  · intro _; rfl
  · intro _; rfl
  · intro _; rfl
  · rename_i h _ _ _ _
    rw [pushM_wet (m := drawnM M.m) hd]; exact fun hb => absurd hb h
  · rename_i h _ _ _
    rw [pushM_wet hd]; exact fun hb => absurd hb h
def opened (X : Int × WM) : Int := if X.2.m.bad = 0 then atI X.2.m.values X.1 else 0
theorem D_reg {M : WM} {X : Int × WM} {o : Tapi_Op} {x : Int} (e : X = M.D o x) (hb : X.2.m.bad = 0) : ∃ z, Val X.2 X.1 z := by
  obtain ⟨z, _, hv⟩ := D_at e (.refl _) hb
  exact ⟨_, hv⟩
theorem Open_t {k : Nat} (hk : 4 ≤ k) {M : WM} {X : Int × WM} {a b c : Int} (e : X = M.D ⟨12, -1, a, b, c, 0⟩ 0) : wire_Machine_Open.m k M.m a b c = some (opened X, X.2.m) := by
  unfold wire_Machine_Open.m opened
  rw [Do_v e hk isW_zero isW_zero, Option.bind_some]
  by_cases hb : X.2.m.bad = 0
  · obtain ⟨z, hv⟩ := D_reg e hb
    rw [decide_eq_false (show ¬ X.1 < 0 by have := hv.1; omega), cond_false, show X.2.m.dry = false from X.2.w.dry, cond_false, if_pos hv.1, hv.2, Option.bind_some, if_pos hb, hv.at]
  · rw [if_neg hb, show decide (X.1 < 0) = true by rw [D_neg e hb]; rfl, cond_true]
theorem open_val {M : WM} {X : Int × WM} {a b c : Int} (e : X = M.D ⟨12, -1, a, b, c, 0⟩ 0) (hb : X.2.m.bad = 0) {z : BitVec 64} (s : Stands X.2 a b c z) : opened X = u z := by
  unfold opened
  rw [if_pos hb]
  rcases s with ⟨hn, rfl, p, q, h1, h2, rfl⟩ | ⟨hn, p, q, r, h1, h2, h3, rfl⟩
  · rw [(F_open2 e (.refl _) hb h1 h2).at, BitVec.xor_zero]
  · rw [(F_open e (.refl _) hb h1 h2 h3).at]
/-! Opening bytes: what both programs take of words. -/
theorem octLow_f : ∀ m : Fin 65, octet_Low.m 0 ((m : Nat) : Int) = some (u (lowW m.val)) := by decide +kernel
theorem octLow_m (k : Nat) {n : Nat} (h : n ≤ 64) : octet_Low.m k (n : Int) = some (u (lowW n)) := octLow_f ⟨n, by omega⟩
theorem rLow_m {k : Nat} (hk : 65 ≤ k) {n : Nat} (h : n ≤ 64) : visorref01_Low.m k (n : Int) = some (u (lowW n)) := by
  rw [ref_Low_m k hk n, Nat.min_eq_left h]
def tab (n : Nat) (f : Nat → Int) : List Int := (List.range n).map f
theorem tab_len (n : Nat) (f : Nat → Int) : (tab n f).length = n := by simp [tab]
theorem tab_get {n : Nat} (f : Nat → Int) {i : Nat} (h : i < n) : (tab n f)[i]? = some (f i) := by simp [tab, h]
theorem tab_congr {n : Nat} {f g : Nat → Int} (h : ∀ i, i < n → f i = g i) : tab n f = tab n g := List.map_congr_left fun i hi => h i (List.mem_range.1 hi)
theorem tab_set {n : Nat} (f : Nat → Int) (i : Nat) (y : Int) : (tab n f).set i y = tab n (fun t => if t = i then y else f t) := by
  refine List.ext_getElem (by simp [tab]) fun j h1 h2 => ?_
  simp only [tab, List.getElem_set, List.getElem_map, List.getElem_range]
  by_cases h : i = j
  · rw [if_pos h, if_pos h.symm]
  · rw [if_neg h, if_neg (fun e => h e.symm)]
theorem tab_succ (n : Nat) (f : Nat → Int) : tab (n + 1) f = tab n f ++ [f n] := by simp [tab, List.range_succ]
theorem tab_zero (n : Nat) : (List.replicate n 0 : List Int) = tab n fun _ => 0 := by
  refine List.ext_getElem (by simp [tab]) fun j h1 h2 => by simp [tab]
def byt (X i : Nat) : Int := ((X / 2 ^ (8 * i) % 256 : Nat) : Int)
theorem u8w (z : Nat) : IntKind.u8.wrap (z : Int) = ((z % 256 : Nat) : Int) := by rw [wrap_u8]; omega
theorem store_l {X n : Nat} (hX : X < 18446744073709551616) (hn : n ≤ 8) : ∀ (d i k : Nat), i + d = n → d < k →
    octet_Store.l1 (X : Int) (n : Int) k (tab n fun t => if t < i then byt X t else 0) (i : Int) = some (tab n (byt X)) := by
  have hc : (((List.replicate (mx 0 (mn (n : Int) 8)).toNat 0 : List Int).length : Nat) : Int) = (n : Int) := by
    rw [List.length_replicate]; unfold mx mn; split <;> split <;> omega
  intro d
  induction d with
  | zero =>
    intro i k hi hk
    obtain ⟨k, rfl⟩ : ∃ m, k = m + 1 := ⟨k - 1, by omega⟩
    rw [octet_Store.l1, hc, decide_eq_false (by omega), cond_false]
    exact congrArg some (tab_congr fun t ht => if_pos (by omega))
  | succ d ih =>
    intro i k hi hk
    obtain ⟨k, rfl⟩ : ∃ m, k = m + 1 := ⟨k - 1, by omega⟩
    have hw : IntKind.i64.wrap (8 * (i : Int)) = ((8 * i : Nat) : Int) := by rw [wrapI (by omega) (by omega)]; omega
    rw [octet_Store.l1, hc, decide_eq_true (by omega), cond_true, hw, if_pos (by omega), if_pos (by omega), Int.toNat_natCast, tab_get _ (by omega), Option.bind_some, shr_nat (k := .u64) X (8 * i) (show 8 * i ≤ 64 by omega), u8w, tab_set,
      wrapI (x := (i : Int) + 1) (by omega) (by omega), show ((i : Int) + 1) = ((i + 1 : Nat) : Int) by omega, ← ih (i + 1) k (by omega) (by omega)]
    congr 1
    refine tab_congr fun t ht => ?_
    by_cases h : t = i
    · rw [if_pos h, if_pos (by omega), h]; rfl
    · rw [if_neg h]
      by_cases h2 : t < i
      · rw [if_pos h2, if_pos (by omega)]
      · rw [if_neg h2, if_neg (by omega)]
theorem store_m {k : Nat} (hk : 10 ≤ k) {x : Int} (hx : IsW x) {n : Nat} (h1 : 1 ≤ n) (hn : n ≤ 8) : octet_Store.m k x (n : Int) = some (tab n (byt x.toNat)) := by
  unfold octet_Store.m
  obtain ⟨hx0, hx1⟩ := hx
  have hm : mx 0 (mn (n : Int) 8) = (n : Int) := by unfold mx mn; split <;> split <;> omega
  have hX : x = ((x.toNat : Nat) : Int) := by omega
  have h := store_l (X := x.toNat) (n := n) (by omega) hn n 0 k (by omega) (by omega)
  have h' : octet_Store.l1 x (n : Int) k (tab n fun _ => 0) 0 = some (tab n (byt x.toNat)) := by
    rw [← h, ← hX]
    exact congrArg (fun l => octet_Store.l1 x (n : Int) k l 0) (tab_congr fun t _ => (if_neg (by omega)).symm)
  rw [hm, if_pos ⟨by omega, by omega, by omega⟩, Int.toNat_natCast, tab_zero, h']; rfl
theorem by256 {Y : Nat} (h : Y < 18446744073709551616) : IntKind.u8.wrap (Int.tmod (Y : Int) 256) = ((Y % 256 : Nat) : Int) ∧ IntKind.u64.wrap (Int.tdiv (Y : Int) 256) = ((Y / 256 : Nat) : Int) := by
  rw [Int.tmod_eq_emod_of_nonneg (by omega), Int.tdiv_eq_ediv_of_nonneg (by omega), wrap_u8, wrap_u64]
  omega
theorem rstore_l {X n : Nat} (hX : X < 18446744073709551616) (hn : n ≤ 8) : ∀ (d i k : Nat), i + d = n → d < k →
    visorref01_Store.l1 (n : Int) k ((X / 2 ^ (8 * i) : Nat) : Int) (tab i (byt X)) (i : Int) = some (tab n (byt X)) := by
  intro d
  induction d with
  | zero =>
    intro i k hi hk
    obtain ⟨k, rfl⟩ : ∃ m, k = m + 1 := ⟨k - 1, by omega⟩
    rw [visorref01_Store.l1, decide_eq_false (by omega), Bool.false_and, cond_false, show i = n by omega]
  | succ d ih =>
    intro i k hi hk
    obtain ⟨k, rfl⟩ : ∃ m, k = m + 1 := ⟨k - 1, by omega⟩
    have hlt : X / 2 ^ (8 * i) < 18446744073709551616 := Nat.lt_of_le_of_lt (Nat.div_le_self _ _) hX
    have e1 : IntKind.u8.wrap (Int.tmod ((X / 2 ^ (8 * i) : Nat) : Int) 256) = byt X i := (by256 hlt).1
    have e2 : IntKind.u64.wrap (Int.tdiv ((X / 2 ^ (8 * i) : Nat) : Int) 256) = ((X / 2 ^ (8 * (i + 1)) : Nat) : Int) := by
      rw [(by256 hlt).2, Nat.div_div_eq_div_mul, show 2 ^ (8 * i) * 256 = 2 ^ (8 * (i + 1)) by rw [show 8 * (i + 1) = 8 * i + 8 by omega, Nat.pow_add]]
    rw [visorref01_Store.l1, decide_eq_true (show (i : Int) < (n : Int) by omega), decide_eq_true (show (i : Int) < 8 by omega), Bool.and_true, cond_true, if_pos (by rw [tab_len]; simp only [List.length_cons, List.length_nil]; omega), e1, e2, ← tab_succ,
      wrapI (x := (i : Int) + 1) (by omega) (by omega), show ((i : Int) + 1) = ((i + 1 : Nat) : Int) by omega, ih (i + 1) k (by omega) (by omega)]
theorem rstore_m {k : Nat} (hk : 10 ≤ k) {x : Int} (hx : IsW x) {n : Nat} (hn : n ≤ 8) : visorref01_Store.m k x (n : Int) = some (tab n (byt x.toNat)) := by
  unfold visorref01_Store.m
  obtain ⟨hx0, hx1⟩ := hx
  have h := rstore_l (X := x.toNat) (n := n) (by omega) hn n 0 k (by omega) (by omega)
  rw [Nat.mul_zero, Nat.pow_zero, Nat.div_one, show ((x.toNat : Nat) : Int) = x by omega, show tab 0 (byt x.toNat) = [] from rfl, show ((0 : Nat) : Int) = 0 from rfl] at h
  rw [h]; rfl
/-! Room and masks, for words that are opened. -/
theorem D_f1 {M : WM} {X : Int × WM} {o : Tapi_Op} {x : Int} {p : Bool} {d q : Nat} (e : X = M.D o x) (f : Fine M p d (q + 1)) (hk : o.kind ≠ 1) (hr : rightM M.m o = true) :
    Fine X.2 p d q ∧ X.1 = (M.m.ops.length : Int) ∧ X.2.m.ops.length = M.m.ops.length + 1 ∧ X.2.m.draws = M.m.draws ∧ X.2.m.n = M.m.n := by
  have hd := M.w.dry
  have hro := f.room
  have ed : doM M.m o x = pushM M.m o x := by
    unfold doM
    rw [if_neg (by rw [f.bad]; omega), if_neg (by rw [hr]; decide), if_neg (by omega), if_neg (by rw [hd]; exact fun h => hk h.1)]
  rw [pushM_wet hd] at ed
  subst e
  have e1 : (M.D o x).1 = (doM M.m o x).1 := rfl
  have e2 : (M.D o x).2.m = (doM M.m o x).2 := rfl
  rw [e1, e2, ed]
  refine ⟨⟨?_, ?_, ?_, ?_, ?_⟩, rfl, by simp, ?_, rfl⟩
  · rw [e2, ed]; exact f.bad
  · rw [e2, ed]; exact f.op
  · rw [e2, ed]; simp; omega
  · rw [e2, ed]; exact f.free
  · rw [e2, ed]; exact f.left
  · simp [hk]
theorem okc_key {dom a b dd c : Int} (hc : c < 1048576) : okConst ⟨2, dom, a, b, dd, c⟩ = true := by
  show (if (2 : Int) = 9 ∨ (2 : Int) = 10 ∨ (2 : Int) = 11 then _ else if (2 : Int) = 2 then decide (c < 1048576) else _) = true
  rw [if_neg (by decide), if_pos rfl]; exact decide_eq_true hc
theorem words_small {M : WM} {p : Bool} {d q : Nat} (f : Fine M p d (q + 1)) : M.m.words < 1048576 := by
  have h1 := M.w.ok.words; have h2 := M.w.ok.wet M.w.dry; have h3 := M.w.ok.most; have h4 := f.room
  omega
theorem D_fk2 {M : WM} {X : Int × WM} {a x : Int} {p : Bool} {d q : Nat} (e : X = M.D ⟨2, 0, a, -1, -1, M.m.words⟩ x) (f : Fine M p d (q + 1)) (hn : M.m.n = 2) (ha : 0 ≤ a ∧ a < (M.m.ops.length : Int)) :
    Fine X.2 p d q ∧ X.1 = (M.m.ops.length : Int) ∧ X.2.m.ops.length = M.m.ops.length + 1 ∧ X.2.m.draws = M.m.draws ∧ X.2.m.n = M.m.n := by
  refine D_f1 e f (show (2 : Int) ≠ 1 by decide) ?_
  unfold rightM
  rw [M.w.len, hn]
  have hr : opRegs 2 2 = 1 := rfl
  rw [Rt_of (okh (by decide) (by decide)) (by unfold okRegs okReg; dsimp only; rw [hr]; omega) (okc_key (words_small f)), beq_self_eq_true, Bool.or_true]; rfl
theorem D_fk3 {M : WM} {X : Int × WM} {a b x : Int} {p : Bool} {d q : Nat} (e : X = M.D ⟨2, 0, a, b, -1, M.m.words⟩ x) (f : Fine M p d (q + 1)) (hn : M.m.n = 3) (ha : 0 ≤ a ∧ a < (M.m.ops.length : Int)) (hb : 0 ≤ b ∧ b < (M.m.ops.length : Int)) :
    Fine X.2 p d q ∧ X.1 = (M.m.ops.length : Int) ∧ X.2.m.ops.length = M.m.ops.length + 1 ∧ X.2.m.draws = M.m.draws ∧ X.2.m.n = M.m.n := by
  refine D_f1 e f (show (2 : Int) ≠ 1 by decide) ?_
  unfold rightM
  rw [M.w.len, hn]
  have hr : opRegs 2 3 = 2 := rfl
  rw [Rt_of (okh (by decide) (by decide)) (by unfold okRegs okReg; dsimp only; rw [hr]; omega) (okc_key (words_small f)), beq_self_eq_true, Bool.or_true]; rfl
theorem Rt_mask {dom a c len n : Int} (hn : n = 2 ∨ n = 3) (hd : -1 ≤ dom ∧ dom < n) (ha : 0 ≤ a ∧ a < len) : (8 : Int) ≠ 1 ∧ (8 : Int) ≠ 2 ∧ Rt ⟨8, dom, a, -1, -1, c⟩ len n = true := by
  refine ⟨by omega, by omega, ?_⟩
  have hr : opRegs 8 n = 1 := rfl
  refine Rt_of (okh (by decide) hd) ?_ rfl
  unfold okRegs okReg; dsimp only; rw [hr]; omega
theorem Rt_open2 {a b len : Int} (ha : 0 ≤ a ∧ a < len) (hb : 0 ≤ b ∧ b < len) : Rt ⟨12, -1, a, b, -1, 0⟩ len 2 = true := by
  have hr : opRegs 12 2 = 2 := rfl
  refine Rt_of ⟨show (1 : Int) ≤ 12 by decide, show (12 : Int) ≤ 12 by decide, show (-1 : Int) ≤ -1 by decide, show (-1 : Int) < 2 by decide, fun _ => rfl⟩ ?_ rfl
  unfold okRegs okReg; dsimp only; rw [hr]; omega
theorem Rt_open3 {a b c len : Int} (ha : 0 ≤ a ∧ a < len) (hb : 0 ≤ b ∧ b < len) (hc : 0 ≤ c ∧ c < len) : Rt ⟨12, -1, a, b, c, 0⟩ len 3 = true := by
  have hr : opRegs 12 3 = 3 := rfl
  refine Rt_of ⟨show (1 : Int) ≤ 12 by decide, show (12 : Int) ≤ 12 by decide, show (-1 : Int) ≤ -1 by decide, show (-1 : Int) < 3 by decide, fun _ => rfl⟩ ?_ rfl
  unfold okRegs okReg; dsimp only; rw [hr]; omega
theorem D_fopen {M : WM} {X : Int × WM} {a b c : Int} {p : Bool} {d q : Nat} (e : X = M.D ⟨12, -1, a, b, c, 0⟩ 0) (f : Fine M p d (q + 1)) (hn : M.m.n = 2 ∨ M.m.n = 3) (ha : Reg M a) (hb : Reg M b) (hc2 : M.m.n = 2 → c = -1) (hc3 : M.m.n = 3 → Reg M c) :
    Fine X.2 p d q ∧ X.1 = (M.m.ops.length : Int) ∧ X.2.m.ops.length = M.m.ops.length + 1 ∧ X.2.m.draws = M.m.draws ∧ X.2.m.n = M.m.n := by
  refine D_fo e f ⟨show (12 : Int) ≠ 1 by decide, show (12 : Int) ≠ 2 by decide, ?_⟩
  rcases hn with h | h
  · rw [hc2 h, h]; exact Rt_open2 ha hb
  · rw [h]; exact Rt_open3 ha hb (hc3 h)
/-! Nothing fails where there is room, and masks (printed by wip/gen/fine.py). -/
set_option maxHeartbeats 4000000 in
theorem PubC.f2 {M M' : WM} {c : Int} {o0 o1 o2 : Int} (h : PubC M c o0 o1 o2 M') (hn : M.m.n = 2) {d q : Nat} (f0 : Fine M false (d + 0) (q + 2)) :
    Fine M' false d q ∧ M'.m.draws = M.m.draws + 0 ∧ M'.m.ops.length = M.m.ops.length + 2 ∧ Reg M' o0 ∧ Reg M' o1 := by
  rcases h with ⟨X0, X1, hm, eX0, eX1, rfl, rfl, rfl, rfl⟩ | ⟨X0, X1, X2, hm, eX0, eX1, eX2, rfl, rfl, rfl, rfl⟩
  · have l0 : M.m.ops.length = M.m.ops.length + 0 := rfl
    have w0 : M.m.draws = M.m.draws + 0 := (Int.add_zero _).symm
    have n0 := hn
    obtain ⟨f1, r, l, w, n⟩ := D_fo eX0 (q := q + 1) (d := d + 0) f0 (Rt_const (kd := 3) (.inl n0) (by decide) (dm n0 (by decide)))
    have rX0 := rr1 r l0
    have l1 := ln1 l l0
    have w1 := w.trans w0
    have n1 := n.trans n0
    clear l w n r l0 w0
    obtain ⟨f2, r, l, w, n⟩ := D_fo eX1 (q := q + 0) (d := d + 0) f1 (Rt_const (kd := 3) (.inl n1) (by decide) (dm n1 (by decide)))
    have rX1 := rr1 r l1
    have l2 := ln1 l l1
    have w2 := w.trans w1
    have n2 := n.trans n1
    clear l w n r l1 w1
    exact ⟨f2, w2, l2, (rg rX0 l2 (by decide)), (rg rX1 l2 (by decide))⟩
  · omega
set_option maxHeartbeats 4000000 in
theorem PubC.f3 {M M' : WM} {c : Int} {o0 o1 o2 : Int} (h : PubC M c o0 o1 o2 M') (hn : M.m.n = 3) {d q : Nat} (f0 : Fine M false (d + 0) (q + 3)) :
    Fine M' false d q ∧ M'.m.draws = M.m.draws + 0 ∧ M'.m.ops.length = M.m.ops.length + 3 ∧ Reg M' o0 ∧ Reg M' o1 ∧ Reg M' o2 := by
  rcases h with ⟨X0, X1, hm, eX0, eX1, rfl, rfl, rfl, rfl⟩ | ⟨X0, X1, X2, hm, eX0, eX1, eX2, rfl, rfl, rfl, rfl⟩
  · omega
  · have l0 : M.m.ops.length = M.m.ops.length + 0 := rfl
    have w0 : M.m.draws = M.m.draws + 0 := (Int.add_zero _).symm
    have n0 := hn
    obtain ⟨f1, r, l, w, n⟩ := D_fo eX0 (q := q + 2) (d := d + 0) f0 (Rt_const (kd := 3) (.inr n0) (by decide) (dm n0 (by decide)))
    have rX0 := rr1 r l0
    have l1 := ln1 l l0
    have w1 := w.trans w0
    have n1 := n.trans n0
    clear l w n r l0 w0
    obtain ⟨f2, r, l, w, n⟩ := D_fo eX1 (q := q + 1) (d := d + 0) f1 (Rt_const (kd := 3) (.inr n1) (by decide) (dm n1 (by decide)))
    have rX1 := rr1 r l1
    have l2 := ln1 l l1
    have w2 := w.trans w1
    have n2 := n.trans n1
    clear l w n r l1 w1
    obtain ⟨f3, r, l, w, n⟩ := D_fo eX2 (q := q + 0) (d := d + 0) f2 (Rt_const (kd := 3) (.inr n2) (by decide) (dm n2 (by decide)))
    have rX2 := rr1 r l2
    have l3 := ln1 l l2
    have w3 := w.trans w2
    have n3 := n.trans n2
    clear l w n r l2 w2
    exact ⟨f3, w3, l3, (rg rX0 l3 (by decide)), (rg rX1 l3 (by decide)), (rg rX2 l3 (by decide))⟩
set_option maxHeartbeats 4000000 in
theorem OnC.f2 {M M' : WM} {a : Int} {b : Int} {c : Int} {w : Int} {o0 o1 o2 : Int} (h : OnC M 8 a b c w o0 o1 o2 M') (hn : M.m.n = 2) {d q : Nat} (f0 : Fine M false (d + 0) (q + 2)) (ha : Reg M a) (hb : Reg M b) :
    Fine M' false d q ∧ M'.m.draws = M.m.draws + 0 ∧ M'.m.ops.length = M.m.ops.length + 2 ∧ Reg M' o0 ∧ Reg M' o1 := by
  rcases h with ⟨X0, X1, hm, eX0, eX1, rfl, rfl, rfl, rfl⟩ | ⟨X0, X1, X2, hm, eX0, eX1, eX2, rfl, rfl, rfl, rfl⟩
  · have l0 : M.m.ops.length = M.m.ops.length + 0 := rfl
    have w0 : M.m.draws = M.m.draws + 0 := (Int.add_zero _).symm
    have n0 := hn
    obtain ⟨f1, r, l, w, n⟩ := D_fo eX0 (q := q + 1) (d := d + 0) f0 (Rt_mask (.inl n0) (dm n0 (by decide)) (rgi ha l0))
    have rX0 := rr1 r l0
    have l1 := ln1 l l0
    have w1 := w.trans w0
    have n1 := n.trans n0
    clear l w n r l0 w0
    obtain ⟨f2, r, l, w, n⟩ := D_fo eX1 (q := q + 0) (d := d + 0) f1 (Rt_mask (.inl n1) (dm n1 (by decide)) (rgi hb l1))
    have rX1 := rr1 r l1
    have l2 := ln1 l l1
    have w2 := w.trans w1
    have n2 := n.trans n1
    clear l w n r l1 w1
    exact ⟨f2, w2, l2, (rg rX0 l2 (by decide)), (rg rX1 l2 (by decide))⟩
  · omega
set_option maxHeartbeats 4000000 in
theorem OnC.f3 {M M' : WM} {a : Int} {b : Int} {c : Int} {w : Int} {o0 o1 o2 : Int} (h : OnC M 8 a b c w o0 o1 o2 M') (hn : M.m.n = 3) {d q : Nat} (f0 : Fine M false (d + 0) (q + 3)) (ha : Reg M a) (hb : Reg M b) (hc : Reg M c) :
    Fine M' false d q ∧ M'.m.draws = M.m.draws + 0 ∧ M'.m.ops.length = M.m.ops.length + 3 ∧ Reg M' o0 ∧ Reg M' o1 ∧ Reg M' o2 := by
  rcases h with ⟨X0, X1, hm, eX0, eX1, rfl, rfl, rfl, rfl⟩ | ⟨X0, X1, X2, hm, eX0, eX1, eX2, rfl, rfl, rfl, rfl⟩
  · omega
  · have l0 : M.m.ops.length = M.m.ops.length + 0 := rfl
    have w0 : M.m.draws = M.m.draws + 0 := (Int.add_zero _).symm
    have n0 := hn
    obtain ⟨f1, r, l, w, n⟩ := D_fo eX0 (q := q + 2) (d := d + 0) f0 (Rt_mask (.inr n0) (dm n0 (by decide)) (rgi ha l0))
    have rX0 := rr1 r l0
    have l1 := ln1 l l0
    have w1 := w.trans w0
    have n1 := n.trans n0
    clear l w n r l0 w0
    obtain ⟨f2, r, l, w, n⟩ := D_fo eX1 (q := q + 1) (d := d + 0) f1 (Rt_mask (.inr n1) (dm n1 (by decide)) (rgi hb l1))
    have rX1 := rr1 r l1
    have l2 := ln1 l l1
    have w2 := w.trans w1
    have n2 := n.trans n1
    clear l w n r l1 w1
    obtain ⟨f3, r, l, w, n⟩ := D_fo eX2 (q := q + 0) (d := d + 0) f2 (Rt_mask (.inr n2) (dm n2 (by decide)) (rgi hc l2))
    have rX2 := rr1 r l2
    have l3 := ln1 l l2
    have w3 := w.trans w2
    have n3 := n.trans n2
    clear l w n r l2 w2
    exact ⟨f3, w3, l3, (rg rX0 l3 (by decide)), (rg rX1 l3 (by decide)), (rg rX2 l3 (by decide))⟩
set_option maxHeartbeats 4000000 in
theorem FuC.f2 {M M' : WM} {a : Int} {b : Int} {c : Int} {o0 o1 o2 : Int} (h : FuC M a b c o0 o1 o2 M') (hn : M.m.n = 2) {d q : Nat} (f0 : Fine M false (d + 1) (q + 3)) (ha : Reg M a) (hb : Reg M b) :
    Fine M' false d q ∧ M'.m.draws = M.m.draws + 1 ∧ M'.m.ops.length = M.m.ops.length + 3 ∧ Reg M' o0 ∧ Reg M' o1 := by
  rcases h with ⟨B, R, X0, X1, E, hm, hp0, eB, eR, eX0, eX1, eE, rfl, rfl, rfl, rfl⟩ | ⟨B, R, S, T, X0, X1, X2, X3, X4, X5, E, hm, eB, eR, eS, eT, eX0, eX1, eX2, eX3, eX4, eX5, eE, rfl, rfl, rfl, rfl⟩
  · have l0 : M.m.ops.length = M.m.ops.length + 0 := rfl
    have w0 : M.m.draws = M.m.draws + 0 := (Int.add_zero _).symm
    have n0 := hn
    obtain ⟨f1, l, w, n⟩ := B_fine eB f0 (by decide)
    have l1 := l.trans l0
    have w1 := w.trans w0
    have n1 := n.trans n0
    clear l w n l0 w0
    obtain ⟨f2, r, l, w, n⟩ := D_fr eR (q := q + 2) (d := d + 0) f1 (Rt_rnd (.inl n1) (dm n1 (by decide)))
    have rR := rr1 r l1
    have l2 := ln1 l l1
    have w2 := wn1 w w1
    have n2 := n.trans n1
    clear l w n r l1 w1
    obtain ⟨f3, r, l, w, n⟩ := D_fo eX0 (q := q + 1) (d := d + 0) f2 (Rt_two (kd := 5) (.inl n2) (by decide) (dm n2 (by decide)) (rgi ha l2) (rg rR l2 (by decide)))
    have rX0 := rr1 r l2
    have l3 := ln1 l l2
    have w3 := w.trans w2
    have n3 := n.trans n2
    clear l w n r l2 w2
    obtain ⟨f4, r, l, w, n⟩ := D_fo eX1 (q := q + 0) (d := d + 0) f3 (Rt_two (kd := 5) (.inl n3) (by decide) (dm n3 (by decide)) (rgi hb l3) (rg rR l3 (by decide)))
    have rX1 := rr1 r l3
    have l4 := ln1 l l3
    have w4 := w.trans w3
    have n4 := n.trans n3
    clear l w n r l3 w3
    obtain ⟨f5, l, w, n⟩ := E_fine eE f4
    have l5 := l.trans l4
    have w5 := w.trans w4
    have n5 := n.trans n4
    clear l w n l4 w4
    exact ⟨f5, w5, l5, (rg rX0 l5 (by decide)), (rg rX1 l5 (by decide))⟩
  · omega
set_option maxHeartbeats 4000000 in
theorem FuC.f3 {M M' : WM} {a : Int} {b : Int} {c : Int} {o0 o1 o2 : Int} (h : FuC M a b c o0 o1 o2 M') (hn : M.m.n = 3) {d q : Nat} (f0 : Fine M false (d + 3) (q + 9)) (ha : Reg M a) (hb : Reg M b) (hc : Reg M c) :
    Fine M' false d q ∧ M'.m.draws = M.m.draws + 3 ∧ M'.m.ops.length = M.m.ops.length + 9 ∧ Reg M' o0 ∧ Reg M' o1 ∧ Reg M' o2 := by
  rcases h with ⟨B, R, X0, X1, E, hm, hp0, eB, eR, eX0, eX1, eE, rfl, rfl, rfl, rfl⟩ | ⟨B, R, S, T, X0, X1, X2, X3, X4, X5, E, hm, eB, eR, eS, eT, eX0, eX1, eX2, eX3, eX4, eX5, eE, rfl, rfl, rfl, rfl⟩
  · omega
  · have l0 : M.m.ops.length = M.m.ops.length + 0 := rfl
    have w0 : M.m.draws = M.m.draws + 0 := (Int.add_zero _).symm
    have n0 := hn
    obtain ⟨f1, l, w, n⟩ := B_fine eB f0 (by decide)
    have l1 := l.trans l0
    have w1 := w.trans w0
    have n1 := n.trans n0
    clear l w n l0 w0
    obtain ⟨f2, r, l, w, n⟩ := D_fr eR (q := q + 8) (d := d + 2) f1 (Rt_rnd (.inr n1) (dm n1 (by decide)))
    have rR := rr1 r l1
    have l2 := ln1 l l1
    have w2 := wn1 w w1
    have n2 := n.trans n1
    clear l w n r l1 w1
    obtain ⟨f3, r, l, w, n⟩ := D_fr eS (q := q + 7) (d := d + 1) f2 (Rt_rnd (.inr n2) (dm n2 (by decide)))
    have rS := rr1 r l2
    have l3 := ln1 l l2
    have w3 := wn1 w w2
    have n3 := n.trans n2
    clear l w n r l2 w2
    obtain ⟨f4, r, l, w, n⟩ := D_fr eT (q := q + 6) (d := d + 0) f3 (Rt_rnd (.inr n3) (dm n3 (by decide)))
    have rT := rr1 r l3
    have l4 := ln1 l l3
    have w4 := wn1 w w3
    have n4 := n.trans n3
    clear l w n r l3 w3
    obtain ⟨f5, r, l, w, n⟩ := D_fo eX0 (q := q + 5) (d := d + 0) f4 (Rt_two (kd := 5) (.inr n4) (by decide) (dm n4 (by decide)) (rgi ha l4) (rg rR l4 (by decide)))
    have rX0 := rr1 r l4
    have l5 := ln1 l l4
    have w5 := w.trans w4
    have n5 := n.trans n4
    clear l w n r l4 w4
    obtain ⟨f6, r, l, w, n⟩ := D_fo eX1 (q := q + 4) (d := d + 0) f5 (Rt_two (kd := 5) (.inr n5) (by decide) (dm n5 (by decide)) (rg rX0 l5 (by decide)) (rg rS l5 (by decide)))
    have rX1 := rr1 r l5
    have l6 := ln1 l l5
    have w6 := w.trans w5
    have n6 := n.trans n5
    clear l w n r l5 w5
    obtain ⟨f7, r, l, w, n⟩ := D_fo eX2 (q := q + 3) (d := d + 0) f6 (Rt_two (kd := 5) (.inr n6) (by decide) (dm n6 (by decide)) (rgi hb l6) (rg rR l6 (by decide)))
    have rX2 := rr1 r l6
    have l7 := ln1 l l6
    have w7 := w.trans w6
    have n7 := n.trans n6
    clear l w n r l6 w6
    obtain ⟨f8, r, l, w, n⟩ := D_fo eX3 (q := q + 2) (d := d + 0) f7 (Rt_two (kd := 5) (.inr n7) (by decide) (dm n7 (by decide)) (rg rX2 l7 (by decide)) (rg rT l7 (by decide)))
    have rX3 := rr1 r l7
    have l8 := ln1 l l7
    have w8 := w.trans w7
    have n8 := n.trans n7
    clear l w n r l7 w7
    obtain ⟨f9, r, l, w, n⟩ := D_fo eX4 (q := q + 1) (d := d + 0) f8 (Rt_two (kd := 5) (.inr n8) (by decide) (dm n8 (by decide)) (rgi hc l8) (rg rS l8 (by decide)))
    have rX4 := rr1 r l8
    have l9 := ln1 l l8
    have w9 := w.trans w8
    have n9 := n.trans n8
    clear l w n r l8 w8
    obtain ⟨f10, r, l, w, n⟩ := D_fo eX5 (q := q + 0) (d := d + 0) f9 (Rt_two (kd := 5) (.inr n9) (by decide) (dm n9 (by decide)) (rg rX4 l9 (by decide)) (rg rT l9 (by decide)))
    have rX5 := rr1 r l9
    have l10 := ln1 l l9
    have w10 := w.trans w9
    have n10 := n.trans n9
    clear l w n r l9 w9
    obtain ⟨f11, l, w, n⟩ := E_fine eE f10
    have l11 := l.trans l10
    have w11 := w.trans w10
    have n11 := n.trans n10
    clear l w n l10 w10
    exact ⟨f11, w11, l11, (rg rX1 l11 (by decide)), (rg rX3 l11 (by decide)), (rg rX5 l11 (by decide))⟩
set_option maxHeartbeats 4000000 in
theorem EnC.f2 {M M' : WM} {w : Int} {o0 o1 o2 : Int} (h : EnC M w o0 o1 o2 M') (hn : M.m.n = 2) {d q : Nat} (f0 : Fine M false (d + 1) (q + 2)) :
    Fine M' false d q ∧ M'.m.draws = M.m.draws + 1 ∧ M'.m.ops.length = M.m.ops.length + 2 ∧ Reg M' o0 ∧ Reg M' o1 := by
  rcases h with ⟨B, R1, K, E, hm, eB, eR1, eK, eE, rfl, rfl, rfl, rfl⟩ | ⟨B, R1, R2, K, E, hm, eB, eR1, eR2, eK, eE, rfl, rfl, rfl, rfl⟩
  · have l0 : M.m.ops.length = M.m.ops.length + 0 := rfl
    have w0 : M.m.draws = M.m.draws + 0 := (Int.add_zero _).symm
    have n0 := hn
    obtain ⟨f1, l, w, n⟩ := B_fine eB f0 (by decide)
    have l1 := l.trans l0
    have w1 := w.trans w0
    have n1 := n.trans n0
    clear l w n l0 w0
    obtain ⟨f2, r, l, w, n⟩ := D_fr eR1 (q := q + 1) (d := d + 0) f1 (Rt_rnd (.inl n1) (dm n1 (by decide)))
    have rR1 := rr1 r l1
    have l2 := ln1 l l1
    have w2 := wn1 w w1
    have n2 := n.trans n1
    clear l w n r l1 w1
    obtain ⟨f3, r, l, w, n⟩ := D_fk2 eK (q := q + 0) (d := d + 0) f2 (n2) (rg rR1 l2 (by decide))
    have rK := rr1 r l2
    have l3 := ln1 l l2
    have w3 := w.trans w2
    have n3 := n.trans n2
    clear l w n r l2 w2
    obtain ⟨f4, l, w, n⟩ := E_fine eE f3
    have l4 := l.trans l3
    have w4 := w.trans w3
    have n4 := n.trans n3
    clear l w n l3 w3
    exact ⟨f4, w4, l4, (rg rK l4 (by decide)), (rg rR1 l4 (by decide))⟩
  · omega
set_option maxHeartbeats 4000000 in
theorem EnC.f3 {M M' : WM} {w : Int} {o0 o1 o2 : Int} (h : EnC M w o0 o1 o2 M') (hn : M.m.n = 3) {d q : Nat} (f0 : Fine M false (d + 2) (q + 3)) :
    Fine M' false d q ∧ M'.m.draws = M.m.draws + 2 ∧ M'.m.ops.length = M.m.ops.length + 3 ∧ Reg M' o0 ∧ Reg M' o1 ∧ Reg M' o2 := by
  rcases h with ⟨B, R1, K, E, hm, eB, eR1, eK, eE, rfl, rfl, rfl, rfl⟩ | ⟨B, R1, R2, K, E, hm, eB, eR1, eR2, eK, eE, rfl, rfl, rfl, rfl⟩
  · omega
  · have l0 : M.m.ops.length = M.m.ops.length + 0 := rfl
    have w0 : M.m.draws = M.m.draws + 0 := (Int.add_zero _).symm
    have n0 := hn
    obtain ⟨f1, l, w, n⟩ := B_fine eB f0 (by decide)
    have l1 := l.trans l0
    have w1 := w.trans w0
    have n1 := n.trans n0
    clear l w n l0 w0
    obtain ⟨f2, r, l, w, n⟩ := D_fr eR1 (q := q + 2) (d := d + 1) f1 (Rt_rnd (.inr n1) (dm n1 (by decide)))
    have rR1 := rr1 r l1
    have l2 := ln1 l l1
    have w2 := wn1 w w1
    have n2 := n.trans n1
    clear l w n r l1 w1
    obtain ⟨f3, r, l, w, n⟩ := D_fr eR2 (q := q + 1) (d := d + 0) f2 (Rt_rnd (.inr n2) (dm n2 (by decide)))
    have rR2 := rr1 r l2
    have l3 := ln1 l l2
    have w3 := wn1 w w2
    have n3 := n.trans n2
    clear l w n r l2 w2
    obtain ⟨f4, r, l, w, n⟩ := D_fk3 eK (q := q + 0) (d := d + 0) f3 (n3) (rg rR1 l3 (by decide)) (rg rR2 l3 (by decide))
    have rK := rr1 r l3
    have l4 := ln1 l l3
    have w4 := w.trans w3
    have n4 := n.trans n3
    clear l w n r l3 w3
    obtain ⟨f5, l, w, n⟩ := E_fine eE f4
    have l5 := l.trans l4
    have w5 := w.trans w4
    have n5 := n.trans n4
    clear l w n l4 w4
    exact ⟨f5, w5, l5, (rg rK l5 (by decide)), (rg rR1 l5 (by decide)), (rg rR2 l5 (by decide))⟩
/-! What is opened, and how often. -/
def opensL (ops : List Tapi_Op) (vals : List Int) : List Int := ((ops.zip vals).filter fun p => p.1.kind == 12).map fun p => p.2
theorem opensL_snoc {ops : List Tapi_Op} {vals : List Int} (h : vals.length = ops.length) (o : Tapi_Op) (v : Int) : opensL (ops ++ [o]) (vals ++ [v]) = opensL ops vals ++ (if o.kind = 12 then [v] else []) := by
  unfold opensL
  rw [List.zip_append h.symm, List.filter_append, List.map_append]
  congr 1
  by_cases e : o.kind = 12
  · simp [e]
  · simp [e]
theorem opensL_cons (o : Tapi_Op) (v : Int) (ops : List Tapi_Op) (vals : List Int) : opensL (o :: ops) (v :: vals) = (if o.kind = 12 then [v] else []) ++ opensL ops vals := by
  unfold opensL
  by_cases e : o.kind = 12
  · simp [e]
  · simp [e]
def opens (M : WM) : List Int := opensL M.m.ops M.m.values
theorem D_q {M : WM} {X : Int × WM} {o : Tapi_Op} {x : Int} (e : X = M.D o x) (hk : o.kind ≠ 12) : opens X.2 = opens M := by
  subst e
  show opensL (doM M.m o x).2.ops (doM M.m o x).2.values = opensL M.m.ops M.m.values
  have hd := M.w.dry
  have hl := M.w.ok.vals
  unfold doM
  repeat' split
  · rfl
  · rfl
  · rfl
  · rfl
  · rw [pushM_wet (m := drawnM M.m) hd]
    show opensL (M.m.ops ++ [o]) (M.m.values ++ [_]) = _
    rw [opensL_snoc hl, if_neg hk, List.append_nil]
  · rw [pushM_wet hd]
    show opensL (M.m.ops ++ [o]) (M.m.values ++ [_]) = _
    rw [opensL_snoc hl, if_neg hk, List.append_nil]
theorem D_q12 {M : WM} {X : Int × WM} {o : Tapi_Op} {x : Int} (e : X = M.D o x) (hk : o.kind = 12) (hb : X.2.m.bad = 0) : opens X.2 = opens M ++ [opened X] := by
  unfold opened
  rw [if_pos hb]
  subst e; revert hb
  show (doM M.m o x).2.bad = 0 → opensL (doM M.m o x).2.ops (doM M.m o x).2.values = opensL M.m.ops M.m.values ++ [atI (doM M.m o x).2.values (doM M.m o x).1]
  have hd := M.w.dry
  have hl := M.w.ok.vals
  unfold doM
  repeat' split
  · rename_i h; exact fun hb => absurd hb h
  · exact fun hb => by simp [failM] at hb
  · exact fun hb => by simp [failM] at hb
  · rename_i h _; exact absurd h.1 (by omega)
  · rename_i h _; exact absurd h.1 (by omega)
  · rw [pushM_wet hd]
    intro _
    generalize evalI o (atI M.m.values o.a) (atI M.m.values o.b) (atI M.m.values o.d) x = v
    show opensL (M.m.ops ++ [o]) (M.m.values ++ [_]) = _ ++ [atI (M.m.values ++ [_]) (M.m.ops.length : Int)]
    rw [opensL_snoc hl, if_pos hk]
    congr 2
    unfold atI
    rw [if_pos (by rw [List.length_append, hl]; simp; omega), Int.toNat_natCast, ← hl]
    simp
theorem B_q {M B : WM} {kd : Int} (e : B = M.B kd) : opens B = opens M := by
  subst e
  show opensL (beginM M.m kd).ops (beginM M.m kd).values = _
  unfold beginM; repeat' split
  all_goals rfl
theorem E_q {M B : WM} (e : B = M.E) : opens B = opens M := by
  subst e
  show opensL (endM M.m).ops (endM M.m).values = _
  unfold endM; repeat' split
  all_goals rfl
theorem n12 {a b c d e k : Int} (h : k ≠ 12) : (⟨k, a, b, c, d, e⟩ : Tapi_Op).kind ≠ 12 := h
theorem PubC.q {M M' : WM} {c o0 o1 o2 : Int} (h : PubC M c o0 o1 o2 M') : opens M' = opens M := by
  rcases h with ⟨X0, X1, hn, eX0, eX1, rfl, rfl, rfl, rfl⟩ | ⟨X0, X1, X2, hn, eX0, eX1, eX2, rfl, rfl, rfl, rfl⟩
  · rw [D_q eX1 (n12 (by decide)), D_q eX0 (n12 (by decide))]
  · rw [D_q eX2 (n12 (by decide)), D_q eX1 (n12 (by decide)), D_q eX0 (n12 (by decide))]
theorem OnC.q {M M' : WM} {a b c w o0 o1 o2 : Int} (h : OnC M 8 a b c w o0 o1 o2 M') : opens M' = opens M := by
  rcases h with ⟨X0, X1, hn, eX0, eX1, rfl, rfl, rfl, rfl⟩ | ⟨X0, X1, X2, hn, eX0, eX1, eX2, rfl, rfl, rfl, rfl⟩
  · rw [D_q eX1 (n12 (by decide)), D_q eX0 (n12 (by decide))]
  · rw [D_q eX2 (n12 (by decide)), D_q eX1 (n12 (by decide)), D_q eX0 (n12 (by decide))]
theorem FuC.q {M M' : WM} {a b c o0 o1 o2 : Int} (h : FuC M a b c o0 o1 o2 M') : opens M' = opens M := by
  rcases h with ⟨B, R, X0, X1, E, hn, hp0, eB, eR, eX0, eX1, eE, rfl, rfl, rfl, rfl⟩ | ⟨B, R, S, T, X0, X1, X2, X3, X4, X5, E, hn, eB, eR, eS, eT, eX0, eX1, eX2, eX3, eX4, eX5, eE, rfl, rfl, rfl, rfl⟩
  · rw [E_q eE, D_q eX1 (n12 (by decide)), D_q eX0 (n12 (by decide)), D_q eR (n12 (by decide)), B_q eB]
  · rw [E_q eE, D_q eX5 (n12 (by decide)), D_q eX4 (n12 (by decide)), D_q eX3 (n12 (by decide)), D_q eX2 (n12 (by decide)), D_q eX1 (n12 (by decide)), D_q eX0 (n12 (by decide)), D_q eT (n12 (by decide)), D_q eS (n12 (by decide)), D_q eR (n12 (by decide)), B_q eB]
theorem Fine.weak {M : WM} {p : Bool} {d q d' q' : Nat} (h : Fine M p d q) (hd : d' ≤ d) (hq : q' ≤ q) : Fine M p d' q' := ⟨h.bad, h.op, by have := h.room; omega, by have := h.free; omega, by have := h.left; omega⟩
/-- a word's registers are there -/
def Rw (M : WM) (w : Tri) : Prop := Reg M w.1 ∧ Reg M w.2.1 ∧ (M.m.n = 3 → Reg M w.2.2) ∧ (M.m.n = 2 → w.2.2 = -1)
theorem Rw.on {M M' : WM} {w : Tri} (h : Rw M w) (hn : M'.m.n = M.m.n) (hl : M.m.ops.length ≤ M'.m.ops.length) : Rw M' w := by
  obtain ⟨h1, h2, h3, h4⟩ := h
  exact ⟨⟨h1.1, by have := h1.2; omega⟩, ⟨h2.1, by have := h2.2; omega⟩, fun e => ⟨(h3 (by omega)).1, by have := (h3 (by omega)).2; omega⟩, fun e => h4 (by omega)⟩
theorem masked_q {M : WM} {w : Tri} {z : BitVec 64} (hr : Rw M w) (s : Std M w.1 w.2.1 w.2.2 z) {c : Int} (hc : IsW c) {d q : Nat} (f : Fine M false (d + 3) (q + 13)) :
    ∃ M', (∀ k, 90 ≤ k → guard_masked.m k M.m (c3 w) c = some (u (z &&& BitVec.ofInt 64 c), M'.m)) ∧ Ext M M' ∧ Fine M' false d q ∧ opens M' = opens M ++ [u (z &&& BitVec.ofInt 64 c)] ∧ M.m.ops.length ≤ M'.m.ops.length := by
  obtain ⟨o0, o1, o2, M1, h⟩ := OnC.ex M 8 w.1 w.2.1 w.2.2 c
  have hn := M.w.ok.n
  have f1 : Fine M1 false (d + 3) (q + 10) ∧ M.m.ops.length ≤ M1.m.ops.length ∧ Rw M1 (o0, o1, o2) := by
    rcases hn with h2 | h3
    · obtain ⟨a, _, l, r0, r1⟩ := h.f2 h2 (d := d + 3) (q := q + 10) (f.weak (by omega) (by omega)) hr.1 hr.2.1
      exact ⟨a, by omega, r0, r1, fun e => absurd (h.ext.n.symm.trans e) (by omega), fun e => h.c e⟩
    · obtain ⟨a, _, l, r0, r1, r2⟩ := h.f3 h3 (d := d + 3) (q := q + 10) (f.weak (by omega) (by omega)) hr.1 hr.2.1 (hr.2.2.1 h3)
      exact ⟨a, by omega, r0, r1, fun _ => r2, fun e => h.c e⟩
  obtain ⟨f1, l1, r1⟩ := f1
  obtain ⟨p0, p1, p2, M2, g⟩ := FuC.ex M1 o0 o1 o2 (fun e => h.c e)
  have f2 : Fine M2 false d (q + 1) ∧ M1.m.ops.length ≤ M2.m.ops.length ∧ Rw M2 (p0, p1, p2) := by
    rcases M1.w.ok.n with h2 | h3
    · obtain ⟨a, _, l, r0, r1'⟩ := g.f2 h2 (d := d) (q := q + 1) (f1.weak (by omega) (by omega)) r1.1 r1.2.1
      exact ⟨a, by omega, r0, r1', fun e => absurd (g.ext.n.symm.trans e) (by omega), fun e => g.c e⟩
    · obtain ⟨a, _, l, r0, r1', r2⟩ := g.f3 h3 (d := d) (q := q + 1) (f1.weak (by omega) (by omega)) r1.1 r1.2.1 (r1.2.2.1 h3)
      exact ⟨a, by omega, r0, r1', fun _ => r2, fun e => g.c e⟩
  obtain ⟨f2, l2, r2⟩ := f2
  generalize e : M2.D ⟨12, -1, p0, p1, p2, 0⟩ 0 = X
  replace e := e.symm
  obtain ⟨f3, _, l3, _, _⟩ := D_fopen e f2 M2.w.ok.n r2.1 r2.2.1 (fun h => r2.2.2.2 h) (fun h => r2.2.2.1 h)
  have hb := f3.bad
  have hv : opened X = u (z &&& BitVec.ofInt 64 c) := by
    refine open_val e hb (g.s (D_vext e) hb ?_)
    refine h.s (g.ext.trans (D_vext e)) hb (by decide) (s X.2 (h.ext.trans (g.ext.trans (D_vext e))) hb) (f := fun y => y &&& BitVec.ofInt 64 c) (fun y => rfl) (fun y y' => ?_)
    apply BitVec.eq_of_getLsbD_eq; intro i hi
    simp only [BitVec.getLsbD_and, BitVec.getLsbD_xor]
    cases y.getLsbD i <;> cases y'.getLsbD i <;> cases (BitVec.ofInt 64 c).getLsbD i <;> rfl
  refine ⟨X.2, fun k hk => ?_, h.ext.trans (g.ext.trans (D_vext e)), f3, ?_, by omega⟩
  · unfold guard_masked.m c3
    rw [if_pos (by rfl), h.p hk hc, Option.bind_some]
    dsimp only
    unfold guard_Open.m
    rw [if_pos (by rfl), g.p hk, Option.bind_some, if_pos (by rfl)]
    show ((wire_Machine_Open.m k M2.m p0 p1 p2).bind _).bind _ = _
    rw [Open_t (by omega) e, hv]; rfl
  · rw [D_q12 e rfl hb, g.q, h.q, hv]
/-! GuardShows. -/
theorem awake24_m : visorlaw24_awake.m 1048700 = some true := by kernel_rfl
def g24 (L : Nat → Int) (t : Nat) : Int := byt (L (t / 8)).toNat (t % 8)
def V24 (L : Nat → Int) (kb i : Nat) : Int := u (BitVec.ofInt 64 (L i) &&& lowW (8 * min (kb - 8 * i) 8))
def cnt24 (kb : Nat) : Nat := (kb + 7) / 8
theorem tab_app (a b : Nat) (f : Nat → Int) : tab (a + b) f = tab a f ++ tab b fun t => f (a + t) := by
  induction b with
  | zero => simp [tab]
  | succ b ih => rw [← Nat.add_assoc, tab_succ, ih, tab_succ, List.append_assoc]
theorem lowW_nat {n : Nat} (h : n ≤ 64) : (lowW n).toNat = 2 ^ n - 1 := by
  unfold lowW
  have : 2 ^ n ≤ 2 ^ 64 := Nat.pow_le_pow_right (by decide) h
  rw [BitVec.toNat_ofNat, Nat.mod_eq_of_lt (by omega)]
theorem byt_low {X q t : Nat} (h : t < q) : byt (X % 2 ^ (8 * q)) t = byt X t := by
  unfold byt
  have e : 2 ^ (8 * q) = 2 ^ (8 * t) * 2 ^ (8 * (q - t)) := by rw [← Nat.pow_add]; congr 1; omega
  have e2 : 2 ^ (8 * (q - t)) = 256 * 2 ^ (8 * (q - t - 1)) := by rw [show 8 * (q - t) = 8 + 8 * (q - t - 1) by omega, Nat.pow_add]
  rw [e, Nat.mod_mul_right_div_self, Nat.mod_mod_of_dvd _ ⟨_, e2⟩]
theorem and_low {z : BitVec 64} {n : Nat} (h : n ≤ 64) : (u (z &&& lowW n)).toNat = z.toNat % 2 ^ n := by
  unfold u
  rw [Int.toNat_natCast, BitVec.toNat_and, lowW_nat h, Nat.and_two_pow_sub_one_eq_mod]
theorem ofInt_nat {x : Int} (h : IsW x) : (BitVec.ofInt 64 x).toNat = x.toNat := by
  have := u_ofInt h
  unfold u at this
  omega
def fin24s : Sum (Twire_Machine × List Int × Int) (Twire_Machine × List Int × Int) → List Int × Twire_Machine
  | .inl (m, l, _) => (l, m)
  | .inr (m, l, _) => (l, m)
def PlS (M : WM) (f : Nat → Tri) (L : Nat → Int) : Prop := ∀ j, j < 8 → Rw M (f j) ∧ Std M (f j).1 (f j).2.1 (f j).2.2 (BitVec.ofInt 64 (L j))
theorem PlS.on {M M' : WM} {f : Nat → Tri} {L : Nat → Int} (h : PlS M f L) (e : Ext M M') (hl : M.m.ops.length ≤ M'.m.ops.length) : PlS M' f L := fun j hj => ⟨(h j hj).1.on e.n hl, (h j hj).2.ext e⟩
theorem bytes_q {f : Nat → Tri} {L : Nat → Int} (hL : ∀ j, IsW (L j)) {kb : Nat} (hk64 : kb ≤ 64) : ∀ (d i : Nat), i + d = 8 → ∀ M : WM, PlS M f L → Fine M false (3 * d) (13 * d) → opens M = (List.range (min i (cnt24 kb))).map (V24 L kb) →
    ∃ M', (∀ k, 91 + d ≤ k → ∃ s, guard_Bytes.l1 ((List.range 8).map fun i => c3 (f i)) k ((kb : Int) - 8 * (i : Int)) (i : Int) M.m (tab (min (8 * i) kb) (g24 L)) = some s ∧ fin24s s = (tab kb (g24 L), M'.m)) ∧ Fine M' false 0 0 ∧ opens M' = (List.range (cnt24 kb)).map (V24 L kb) := by
  have hlen : ((((List.range 8).map fun i => c3 (f i)).length : Nat) : Int) = 8 := by simp
  intro d
  induction d with
  | zero =>
    intro i hi M hp hf ho
    obtain rfl : i = 8 := by omega
    refine ⟨M, fun k hk => ?_, hf, by rw [ho, Nat.min_eq_right (by unfold cnt24; omega)]⟩
    obtain ⟨k, rfl⟩ : ∃ m, k = m + 1 := ⟨k - 1, by omega⟩
    refine ⟨.inr (M.m, tab kb (g24 L), (kb : Int) - 8 * ((8 : Nat) : Int)), ?_, rfl⟩
    rw [guard_Bytes.l1, hlen, decide_eq_false (by omega), cond_false, Nat.min_eq_right (by omega)]
  | succ d ih =>
    intro i hi M hp hf ho
    have hi8 : i < 8 := by omega
    have hg : ((List.range 8).map fun i => c3 (f i))[i]? = some (c3 (f i)) := by rw [List.getElem?_map, List.getElem?_range hi8]; rfl
    by_cases h : (kb : Int) - 8 * (i : Int) < 1
    · refine ⟨M, fun k hk => ?_, hf.weak (by omega) (by omega), by rw [ho, Nat.min_eq_right (by unfold cnt24; omega)]⟩
      obtain ⟨k, rfl⟩ : ∃ m, k = m + 1 := ⟨k - 1, by omega⟩
      refine ⟨.inl (M.m, tab kb (g24 L), (kb : Int) - 8 * (i : Int)), ?_, rfl⟩
      rw [guard_Bytes.l1, hlen, decide_eq_true (by omega), cond_true, if_pos (by omega), Int.toNat_natCast, hg, Option.bind_some, if_pos (by rfl), decide_eq_true h, cond_true, Nat.min_eq_right (by omega)]
    · obtain ⟨q, hq⟩ : ∃ q : Nat, q = min (kb - 8 * i) 8 := ⟨_, rfl⟩
      have hq1 : 1 ≤ q ∧ q ≤ 8 := by omega
      have hmn : mn ((kb : Int) - 8 * (i : Int)) 8 = (q : Int) := by unfold mn; split <;> omega
      have hq8 : IntKind.i64.wrap (8 * (q : Int)) = ((8 * q : Nat) : Int) := by rw [wrapI (by omega) (by omega)]; omega
      obtain ⟨M1, g, e1, f1, o1, l1⟩ := masked_q (hp i hi8).1 (hp i hi8).2 (isW_u (lowW (8 * q))) (d := 3 * d) (q := 13 * d) (hf.weak (by omega) (by omega))
      rw [ofInt_u] at g o1
      have hV : V24 L kb i = u (BitVec.ofInt 64 (L i) &&& lowW (8 * q)) := by unfold V24; rw [← hq]
      obtain ⟨M', h1, h2, h3⟩ := ih (i + 1) (by omega) M1 (hp.on e1 l1) f1 (by
        rw [o1, ho, Nat.min_eq_left (by unfold cnt24; omega), Nat.min_eq_left (by unfold cnt24; omega), List.range_succ, List.map_append, ← hV]; rfl)
      refine ⟨M', fun k hk => ?_, h2, h3⟩
      obtain ⟨k, rfl⟩ : ∃ m, k = m + 1 := ⟨k - 1, by omega⟩
      obtain ⟨s, s1, s2⟩ := h1 k (by omega)
      refine ⟨s, ?_, s2⟩
      have hnx : IntKind.i64.wrap ((i : Int) + 1) = ((i + 1 : Nat) : Int) := by rw [wrapI (by omega) (by omega)]; omega
      have hr : IntKind.i64.wrap ((kb : Int) - 8 * (i : Int) - 8) = (kb : Int) - 8 * ((i + 1 : Nat) : Int) := by rw [wrap_i64_of (by omega) (by omega)]; omega
      have hacc : tab (min (8 * i) kb) (g24 L) ++ tab q (byt (u (BitVec.ofInt 64 (L i) &&& lowW (8 * q))).toNat) = tab (min (8 * (i + 1)) kb) (g24 L) := by
        rw [Nat.min_eq_left (by omega), show min (8 * (i + 1)) kb = 8 * i + q by omega, tab_app]
        congr 1
        refine tab_congr fun t ht => ?_
        unfold g24
        rw [and_low (by omega), byt_low ht, ofInt_nat (hL i), show (8 * i + t) / 8 = i by omega, show (8 * i + t) % 8 = t by omega]
      rw [guard_Bytes.l1, hlen, decide_eq_true (by omega), cond_true, if_pos (by omega), Int.toNat_natCast, hg, Option.bind_some, if_pos (by rfl), decide_eq_false h, cond_false, hmn, hq8, octLow_m k (by omega), Option.bind_some, g k (by omega), Option.bind_some]
      dsimp only
      rw [store_m (by omega) (isW_u _) hq1.1 hq1.2, Option.bind_some, if_pos (by rw [tab_len, tab_len]; omega), hr, hnx, hacc, s1]
theorem words_s {x1 : Cells} {L : Nat → Int} (hx : ∀ j : Nat, j < 8 → getI .u64 x1 (0 + (j : Int).toNat * 1) = some (L j)) (hL : ∀ j, IsW (L j)) : ∀ (d j : Nat), j + d = 8 → ∀ (P Q : WM) (f h : Nat → Tri), Fine P false (2 * d) (3 * d) → Fine Q false 24 (104 + 3 * d) →
    (∀ i, i < j → Rw Q (f i) ∧ Std Q (f i).1 (f i).2.1 (f i).2.2 (BitVec.ofInt 64 (L i))) → opens Q = [] →
    ∃ (f' : Nat → Tri) (P' Q' : WM), (∀ k, 91 + d ≤ k → visorlaw24_GuardShows.l1 x1 k P.m Q.m (pl h) (pl (mix j f zW)) (tab (8 * j) (g24 L)) (j : Int) = some (P'.m, Q'.m, pl f', tab 64 (g24 L))) ∧ P'.m.bad = 0 ∧ Fine Q' false 24 104 ∧ PlS Q' f' L ∧ opens Q' = [] := by
  intro d
  induction d with
  | zero =>
    intro j hj P Q f h fp fq hf ho
    obtain rfl : j = 8 := by omega
    refine ⟨f, P, Q, fun k hk => ?_, fp.bad, fq, fun i hi => hf i hi, ho⟩
    obtain ⟨k, rfl⟩ : ∃ i, k = i + 1 := ⟨k - 1, by omega⟩
    rw [mix_end, visorlaw24_GuardShows.l1]; rfl
  | succ d ih =>
    intro j hj P Q f h fp fq hf ho
    have hj8 : j < 8 := by omega
    obtain ⟨a0, a1, a2, P1, hE⟩ := EnC.ex P (L j)
    have fP : Fine P1 false (2 * d) (3 * d) := by
      rcases P.w.ok.n with h2 | h3
      · exact (hE.f2 h2 (d := 2 * d) (q := 3 * d) (fp.weak (by omega) (by omega))).1
      · exact (hE.f3 h3 (d := 2 * d) (q := 3 * d) (fp.weak (by omega) (by omega))).1
    obtain ⟨b0, b1, b2, Q1, hP⟩ := PubC.ex Q (L j)
    have fQ : Fine Q1 false 24 (104 + 3 * d) ∧ Q.m.ops.length ≤ Q1.m.ops.length ∧ Rw Q1 (b0, b1, b2) := by
      rcases Q.w.ok.n with h2 | h3
      · obtain ⟨a, _, l, r0, r1⟩ := hP.f2 h2 (d := 24) (q := 104 + 3 * d) (fq.weak (by omega) (by omega))
        exact ⟨a, by omega, r0, r1, fun e => absurd (hP.ext.n.symm.trans e) (by omega), fun e => hP.c e⟩
      · obtain ⟨a, _, l, r0, r1, r2⟩ := hP.f3 h3 (d := 24) (q := 104 + 3 * d) (fq.weak (by omega) (by omega))
        exact ⟨a, by omega, r0, r1, fun _ => r2, fun e => hP.c e⟩
    obtain ⟨fQ, lQ, rQ⟩ := fQ
    obtain ⟨f', P', Q', h1, h2, h3, h4, h5⟩ := ih (j + 1) (by omega) P1 Q1 (fun i => if i = j then (b0, b1, b2) else f i) (fun i => if i = j then (a0, a1, a2) else h i) fP fQ (fun i hi => by
      by_cases e : i = j
      · subst e; rw [if_pos rfl]; exact ⟨rQ, fun F x hF => hP.s x hF⟩
      · rw [if_neg e]
        have := hf i (by omega)
        exact ⟨this.1.on hP.ext.n lQ, this.2.ext hP.ext⟩) (by rw [hP.q, ho])
    refine ⟨f', P', Q', fun k hk => ?_, h2, h3, h4, h5⟩
    obtain ⟨k, rfl⟩ : ∃ i, k = i + 1 := ⟨k - 1, by omega⟩
    have hacc : tab (8 * j) (g24 L) ++ tab 8 (byt (L j).toNat) = tab (8 * (j + 1)) (g24 L) := by
      rw [show 8 * (j + 1) = 8 * j + 8 by omega, tab_app]
      congr 1
      refine tab_congr fun t ht => ?_
      unfold g24
      rw [show (8 * j + t) / 8 = j by omega, show (8 * j + t) % 8 = t by omega]
    rw [visorlaw24_GuardShows.l1, lt8d hj8, cond_true, if_pos (i8 hj8), hx j hj8, Option.bind_some, hE.p (by omega) (hL j), Option.bind_some, if_pos (i8 hj8), if_pos (by rfl), if_pos (l8 (pl_len _) hj8 ..), if_pos (i8 hj8), Option.bind_some, hP.p (by omega) (hL j), Option.bind_some,
      if_pos (i8 hj8), if_pos (by rfl), if_pos (l8 (pl_len _) hj8 ..), if_pos (i8 hj8), Option.bind_some, show (8 : Int) = ((8 : Nat) : Int) from rfl, rstore_m (by omega) (hL j) (by omega), Option.bind_some, if_pos (by rw [tab_len, tab_len]; omega),
      show ([ci b0, ci b1, ci b2] : Cells) = c3 (b0, b1, b2) from rfl, show ([ci a0, ci a1, ci a2] : Cells) = c3 (a0, a1, a2) from rfl, mix_next hj8, pl_splice _ _ hj8, nx8 hj8, hacc]
    exact h1 k (by omega)
/-! GuardShows: what is seen. -/
theorem V24_low {L : Nat → Int} {kb o : Nat} (h : kb - 8 * o < 8) : band .u64 (V24 L kb o) (u (lowW (8 * (kb - 8 * o)))) = V24 L kb o := by
  unfold V24
  rw [Nat.min_eq_left (by omega), band_u, BitVec.and_assoc, BitVec.and_self]
theorem shows_l {L : Nat → Int} {kb : Nat} (hk64 : kb ≤ 64) {x2 : Int} (hx2 : Int.tmod (IntKind.i64.wrap x2) 65 = (kb : Int)) {T : Tapi_Trace} {vals : List Int} (hlen : vals.length = T.ops.length) (hsm : T.ops.length ≤ 1048576) : ∀ (d i o : Nat), i + d = T.ops.length → o ≤ cnt24 kb →
    opensL (T.ops.drop i) (vals.drop i) = ((List.range (cnt24 kb)).drop o).map (V24 L kb) → ∀ k, 80 + d ≤ k → visorlaw24_GuardShows.l2 x2 T vals k (o : Int) (i : Int) = some (.inr ((cnt24 kb : Nat) : Int)) := by
  intro d
  induction d with
  | zero =>
    intro i o hi ho hs k hk
    obtain ⟨k, rfl⟩ : ∃ m, k = m + 1 := ⟨k - 1, by omega⟩
    rw [List.drop_eq_nil_of_le (by omega), List.drop_eq_nil_of_le (by omega)] at hs
    have : o = cnt24 kb := by
      have e := congrArg List.length hs
      rw [List.length_map, List.length_drop, List.length_range] at e
      change 0 = _ at e
      omega
    rw [visorlaw24_GuardShows.l2, decide_eq_false (show ¬ (i : Int) < ((T.ops.length : Nat) : Int) by omega), Bool.false_and, cond_false, this]
  | succ d ih =>
    intro i o hi ho hs k hk
    obtain ⟨k, rfl⟩ : ∃ m, k = m + 1 := ⟨k - 1, by omega⟩
    have h1 : i < T.ops.length := by omega
    have h2 : i < vals.length := by omega
    have hnx : IntKind.i64.wrap ((i : Int) + 1) = ((i + 1 : Nat) : Int) := by rw [wrapI (by omega) (by omega)]; omega
    have ho8 : cnt24 kb ≤ 8 := by unfold cnt24; omega
    rw [List.drop_eq_getElem_cons h1, List.drop_eq_getElem_cons h2, opensL_cons] at hs
    rw [visorlaw24_GuardShows.l2, decide_eq_true (show (i : Int) < ((T.ops.length : Nat) : Int) by omega), decide_eq_true (show (i : Int) < ((vals.length : Nat) : Int) by omega), Bool.and_true, cond_true, if_pos (by omega), Int.toNat_natCast, List.getElem?_eq_getElem h1, Option.bind_some]
    by_cases hk : T.ops[i].kind = 12
    · rw [if_pos hk] at hs
      have hlt : o < cnt24 kb := by
        rcases Nat.lt_or_ge o (cnt24 kb) with h | h
        · exact h
        · have e1 : (List.range (cnt24 kb)).drop o = [] := List.drop_eq_nil_of_le (by rw [List.length_range]; exact h)
          rw [e1] at hs
          cases hs
      have e2 : (List.range (cnt24 kb)).drop o = o :: (List.range (cnt24 kb)).drop (o + 1) := by
        rw [List.drop_eq_getElem_cons (by rw [List.length_range]; exact hlt), List.getElem_range]
      rw [e2, List.map_cons, List.singleton_append] at hs
      injection hs with hv hs
      have hw8 : IntKind.i64.wrap (8 * (o : Int)) = 8 * (o : Int) := wrapI (by omega) (by omega)
      have hle : 8 * o ≤ kb := by unfold cnt24 at hlt; omega
      have hwk : IntKind.i64.wrap ((kb : Int) - 8 * (o : Int)) = ((kb - 8 * o : Nat) : Int) := by rw [wrapI (by omega) (by omega)]; omega
      have hno : IntKind.i64.wrap ((o : Int) + 1) = ((o + 1 : Nat) : Int) := by rw [wrapI (by omega) (by omega)]; omega
      have hgo := ih (i + 1) (o + 1) (by omega) (by omega) hs k (by omega)
      rw [bneN hk, cond_false, hx2, hw8, hwk]
      by_cases h9 : kb - 8 * o < 8
      · have hwl : IntKind.i64.wrap (8 * ((kb - 8 * o : Nat) : Int)) = ((8 * (kb - 8 * o) : Nat) : Int) := by rw [wrapI (by omega) (by omega)]; omega
        rw [decide_eq_true (by omega), cond_true, if_pos (by omega), List.getElem?_eq_getElem h2, Option.bind_some, if_pos (by omega), Option.bind_some, hwl, rLow_m (by omega) (by omega), Option.bind_some, hv, V24_low h9, bne_self_eq_false, cond_false, hno, hnx, hgo]
      · rw [decide_eq_false (by omega), cond_false]
        unfold visorlaw24_GuardShows.j3
        rw [hno, hnx, hgo]
    · rw [if_neg hk, List.nil_append] at hs
      rw [bneT hk, cond_true]
      unfold visorlaw24_GuardShows.j3
      rw [hnx]
      exact ih (i + 1) o (by omega) ho hs k (by omega)
theorem start_f {n : Int} {ms : List Int} (hn : n = 2 ∨ n = 3) (hw : ∀ x ∈ ms, IsW x) (hl : ms.length * 8 ≤ 140737488351232) (h24 : ms.length = 24) : Fine (start n 600 ms hn (by omega) hw hl) false 24 600 :=
  ⟨rfl, ⟨fun _ => rfl, fun _ => rfl⟩, by show ((0 : Nat) : Int) + 600 ≤ 600; omega, by show ((24 : Nat) : Int) ≤ (ms.length : Int); omega, by show (0 : Int) + ((24 : Nat) : Int) ≤ (ms.length : Int); omega⟩
theorem guards_n {n : Int} (hn : n = 2 ∨ n = 3) {x1 : Cells} {L : Nat → Int} (hx : ∀ j : Nat, j < 8 → getI .u64 x1 (0 + (j : Int).toNat * 1) = some (L j)) (hL : ∀ j, IsW (L j)) {x2 : Int} (h8 : 0 ≤ x2 ∧ x2 ≤ 255) {x3 : Cells} {ms : List Int} (h3 : wds .u64 24 x3 = some ms) (hm : ∀ x ∈ ms, IsW x) (h24 : ms.length = 24) :
    visorlaw24_GuardShows.j1 1048700 x1 x2 x3 n = some true := by
  have n5 : ms.length * 8 ≤ 140737488351232 := by omega
  unfold visorlaw24_GuardShows.j1
  rw [h3, Option.bind_some, Begins_m 1048700 hn (by omega) (by omega) n5, Option.bind_some]
  dsimp only
  rw [Option.bind_some]
  dsimp only
  rw [Bool.not_true, Bool.false_or, cond_false]
  have fs := start_f hn hm n5 h24
  generalize hM : start n 600 ms hn (by omega) hm n5 = M at fs
  have hm' : startM n 600 ms = M.m := by rw [← hM]; rfl
  have ho : opens M = [] := by rw [← hM]; rfl
  rw [hm']
  obtain ⟨f, P, Q, h1, hb, fQ, pQ, oQ⟩ := words_s hx hL 8 0 (by omega) M M zW zW (fs.weak (by omega) (by omega)) (fs.weak (by omega) (by omega)) (fun i hi => by omega) ho
  have e0 : mix 0 zW zW = zW := by funext i; unfold mix; rw [if_neg (by omega)]
  have h1' := h1 1048700 (by omega)
  rw [e0, show ((0 : Nat) : Int) = 0 from rfl, show tab (8 * 0) (g24 L) = [] from rfl] at h1'
  rw [show ([ci 0, ci 0, ci 0, ci 0, ci 0, ci 0, ci 0, ci 0, ci 0, ci 0, ci 0, ci 0, ci 0, ci 0, ci 0, ci 0, ci 0, ci 0, ci 0, ci 0, ci 0, ci 0, ci 0, ci 0] : Cells) = pl zW from rfl, h1', Option.bind_some]
  dsimp only
  have hEr : ∀ (k : Nat) (M : WM), wire_Machine_Err.m k M.m = some M.m.bad := fun _ _ => rfl
  rw [hEr, Option.bind_some, hb, bne_self_eq_false, cond_false, show cks 3 8 (pl f) = some ((List.range 8).map fun i => c3 (f i)) from rfl, Option.bind_some]
  have hq : IntKind.i64.wrap x2 = x2 := wrapI (by omega) (by omega)
  obtain ⟨kb, hkb, hk64⟩ : ∃ kb : Nat, Int.tmod (IntKind.i64.wrap x2) 65 = (kb : Int) ∧ kb ≤ 64 := ⟨(x2 % 65).toNat, by rw [hq, Int.tmod_eq_emod_of_nonneg h8.1]; omega, by omega⟩
  obtain ⟨R, g1, fR, oR⟩ := bytes_q (f := f) hL hk64 8 0 (by omega) Q pQ (fQ.weak (by omega) (by omega)) (by rw [oQ, Nat.zero_min]; rfl)
  obtain ⟨s, s1, s2⟩ := g1 1048700 (by omega)
  rw [show ((0 : Nat) : Int) = 0 from rfl, Int.mul_zero, Int.sub_zero, show tab (min (8 * 0) kb) (g24 L) = [] by rw [Nat.mul_zero, Nat.zero_min]; rfl] at s1
  have hB : guard_Bytes.m 1048700 Q.m ((List.range 8).map fun i => c3 (f i)) (kb : Int) = some (tab kb (g24 L), R.m) := by
    unfold guard_Bytes.m
    rw [s1, Option.bind_some]
    rcases s with ⟨a, b, c⟩ | ⟨a, b, c⟩ <;> (cases s2; rfl)
  rw [hkb, hB, Option.bind_some]
  dsimp only
  rw [Trace_w, Option.bind_some, hEr, Option.bind_some, fR.bad, bne_self_eq_false, cond_false, Int.toNat_natCast, if_pos ⟨by omega, by omega, by rw [tab_len]; omega⟩]
  have ht : (tab 64 (g24 L)).take kb = tab kb (g24 L) := by
    unfold tab; rw [← List.map_take, List.take_range, Nat.min_eq_left hk64]
  have hsame : visorref01_Same.m 1048700 (tab kb (g24 L)) (tab kb (g24 L)) = some true := by
    unfold visorref01_Same.m; rw [beq_self_eq_true]
  rw [ht, hsame, Option.bind_some, Bool.not_true]
  unfold visorlaw24_GuardShows.j2
  rw [cond_false]
  dsimp only
  rw [Values_w, Option.bind_some]
  have hl := shows_l (L := L) hk64 hkb (T := ⟨R.m.n, R.m.ops, R.m.blocks⟩) (vals := R.m.values) R.w.ok.vals R.w.ok.ops R.m.ops.length 0 0 (Nat.zero_add _) (Nat.zero_le _) (by rw [List.drop_zero, List.drop_zero, List.drop_zero]; exact oR) 1048700 (by have := fR.room; have := R.w.ok.ops; omega)
  rw [show ((0 : Nat) : Int) = 0 from rfl] at hl
  rw [hl, Option.bind_some]
  dsimp only
  rw [hkb, show IntKind.i64.wrap (Int.tdiv (IntKind.i64.wrap ((kb : Int) + 7)) 8) = ((cnt24 kb : Nat) : Int) by
    rw [wrapI (x := (kb : Int) + 7) (by omega) (by omega), Int.tdiv_eq_ediv_of_nonneg (by omega), wrapI (by omega) (by omega)]; unfold cnt24; omega, beq_self_eq_true, cond_true, awake24_m]; rfl
theorem fits_u64 : ∀ {n : Nat} {x : Cells}, Fits (List.replicate n (LK.int .u64)) x → ∃ l : List Int, l.length = n ∧ (∀ y ∈ l, IsW y) ∧ x = l.map fun (y : Int) => C.int .u64 y
  | 0, [], _ => ⟨[], rfl, fun _ h => (by cases h), rfl⟩
  | n + 1, .int k v :: x, h => by
    obtain ⟨⟨rfl, h1, h2⟩, h3⟩ := h
    obtain ⟨l, hl, hb, rfl⟩ := fits_u64 h3
    rw [min_u64] at h1
    rw [max_u64] at h2
    refine ⟨v :: l, by rw [List.length_cons, hl], fun y hy => ?_, ?_⟩
    · rcases List.mem_cons.1 hy with rfl | hy
      · exact ⟨h1, h2⟩
      · exact hb y hy
    · rw [List.map_cons]
  | 0, _ :: _, h => h.elim
  | _ + 1, [], h => h.elim
  | _ + 1, .bool _ :: _, h => h.1.elim
  | _ + 1, .str _ :: _, h => h.1.elim
  | _ + 1, .ptr _ :: _, h => h.1.elim
  | _ + 1, .slc _ _ _ :: _, h => h.1.elim
  | _ + 1, .map _ :: _, h => h.1.elim
  | _ + 1, .fn _ _ _ :: _, h => h.1.elim
  | _ + 1, .nofn :: _, h => h.1.elim
theorem wds_map : ∀ (l : List Int), (l.map fun (y : Int) => C.int .u64 y).mapM (wd1 .u64) = some l
  | [] => rfl
  | y :: l => by
    rw [List.map_cons, List.mapM_cons, wds_map l]; rfl
theorem GuardShows_pure (x0 : Bool) (x1 : Cells) (x2 : Int) (x3 : Cells) (b1 : Fits [LK.int .u64, LK.int .u64, LK.int .u64, LK.int .u64, LK.int .u64, LK.int .u64, LK.int .u64, LK.int .u64] x1) (b2 : IntKind.u8.min ≤ x2 ∧ x2 ≤ IntKind.u8.max) (b3 : Fits [LK.int .u64, LK.int .u64, LK.int .u64, LK.int .u64, LK.int .u64, LK.int .u64, LK.int .u64, LK.int .u64, LK.int .u64, LK.int .u64, LK.int .u64, LK.int .u64, LK.int .u64, LK.int .u64, LK.int .u64, LK.int .u64, LK.int .u64, LK.int .u64, LK.int .u64, LK.int .u64, LK.int .u64, LK.int .u64, LK.int .u64, LK.int .u64] x3) : ∃ k, visorlaw24_GuardShows.m k x0 x1 x2 x3 = some true := by
  obtain ⟨l, hl, hb, rfl⟩ := fits_u64 (n := 8) b1
  obtain ⟨ms, hms, hmb, rfl⟩ := fits_u64 (n := 24) b3
  rw [show IntKind.u8.min = 0 from rfl, show IntKind.u8.max = 255 by decide] at b2
  have hL : ∀ j, IsW (l.getD j 0) := fun j => by
    rw [List.getD_eq_getElem?_getD]
    cases hj : l[j]? with
    | none => exact isW_zero
    | some y => exact hb y (List.mem_of_getElem? hj)
  have hx : ∀ j : Nat, j < 8 → getI .u64 (l.map fun (y : Int) => C.int .u64 y) (0 + (j : Int).toNat * 1) = some (l.getD j 0) := fun j hj => by
    rw [Int.toNat_natCast, Nat.mul_one, Nat.zero_add]
    unfold getI
    rw [List.getElem?_map, List.getElem?_eq_getElem (by omega), List.getD_eq_getElem?_getD, List.getElem?_eq_getElem (by omega)]
    simp
  have h3 : wds .u64 24 (ms.map fun (y : Int) => C.int .u64 y) = some ms := by
    unfold wds; rw [if_pos (by rw [List.length_map, hms]), wds_map]
  refine ⟨1048700, ?_⟩
  unfold visorlaw24_GuardShows.m
  cases x0
  · rw [cond_false]; exact guards_n (.inl rfl) hx hL b2 h3 hmb hms
  · rw [cond_true]; exact guards_n (.inr rfl) hx hL b2 h3 hmb hms
end Go.Proofs.Ytflgefjocjpjaaa
