/- The plain law behind BothFolds: its model answers true for all data that fit; no condition beyond their kinds. -/
import Derived.Test.YtflgefjocjpjaaaMBothFolds2
namespace Go.Proofs.Ytflgefjocjpjaaa
open Go Go.Vk
set_option linter.unusedVariables false

/-! What an op makes: both programs' Eval is one function of words. -/
def evalW (kind : Int) (c a b d x : BitVec 64) : BitVec 64 :=
  if kind = 1 then x else if kind = 2 then x ^^^ a ^^^ b else if kind = 3 then c else if kind = 4 then c else if kind = 5 then a ^^^ b else if kind = 6 then ~~~a
  else if kind = 7 then a &&& b else if kind = 8 then a &&& c else if kind = 9 then a <<< (c.toNat % 64) else if kind = 10 then a >>> (c.toNat % 64)
  else if kind = 11 then a.rotateLeft (c.toNat % 64) else if kind = 12 then a ^^^ b ^^^ d else 0#64
theorem rot63 (x : BitVec 64) (n : Nat) (h : n < 64) : x <<< n ||| x >>> (64 - n) = x.rotateLeft n := by
  rw [BitVec.rotateLeft_def, Nat.mod_eq_of_lt h]
theorem octet_Rot_m (k : Nat) (x : BitVec 64) (n : Nat) (h : n < 64) : octet_Rot.m k (u x) (n : Int) = some (u (x.rotateLeft n)) := by
  have hb : band .i64 (n : Int) 63 = (n : Int) := by
    have : ∀ m : Fin 64, band .i64 ((m : Nat) : Int) 63 = ((m : Nat) : Int) := by decide
    exact this ⟨n, h⟩
  unfold octet_Rot.m
  rw [hb, if_pos (by omega), wrap_i64_of (by omega) (by omega), if_pos (by omega), shl_u _ (by omega), shr_u _ (by omega), bor_u]
  congr 2
  rw [← rot63 x n h]
  have e : ((64 : Int) - (n : Int)).toNat = 64 - n := by omega
  rw [e]; rfl
/-- a word, as a number -/
def IsW (x : Int) : Prop := 0 ≤ x ∧ x ≤ 18446744073709551615
theorem IsW.u {x : Int} (h : IsW x) : ∃ b, x = Go.Vk.u b := exists_u h.1 h.2
theorem isW_u (b : BitVec 64) : IsW (Go.Vk.u b) := u_le b
theorem isW_zero : IsW 0 := ⟨by omega, by omega⟩
/-- what an op makes of numbers -/
def evalI (o : Tapi_Op) (a b d x : Int) : Int := u (evalW o.kind (BitVec.ofInt 64 o.c) (BitVec.ofInt 64 a) (BitVec.ofInt 64 b) (BitVec.ofInt 64 d) (BitVec.ofInt 64 x))
theorem evalI_w (o : Tapi_Op) (a b d x : Int) : IsW (evalI o a b d x) := isW_u _
theorem evalI_u (kind dom r s t : Int) (c a b d x : BitVec 64) : evalI ⟨kind, dom, r, s, t, u c⟩ (u a) (u b) (u d) (u x) = u (evalW kind c a b d x) := by
  unfold evalI; simp only [ofInt_u]
theorem op_Eval_w (k : Nat) (kind dom r s t : Int) (c a b d x : BitVec 64) : op_Eval.m k ⟨kind, dom, r, s, t, u c⟩ (u a) (u b) (u d) (u x) = some (u (evalW kind c a b d x)) := by
  have hm : Int.tmod (u c) 64 = ((c.toNat % 64 : Nat) : Int) := rfl
  have hlt : c.toNat % 64 < 64 := Nat.mod_lt _ (by omega)
  unfold op_Eval.m op_Eval.j1 evalW
  simp only [hm, bxor_u, bnot_u, band_u]
  rw [if_pos (show (0 : Int) ≤ ((c.toNat % 64 : Nat) : Int) by omega), wrap_i64_of (by omega) (by omega), octet_Rot_m k a _ hlt, shl_u _ (by omega), shr_u _ (by omega)]
  simp only [Option.bind_some, Int.toNat_natCast, if_pos (show (0 : Int) ≤ ((c.toNat % 64 : Nat) : Int) by omega)]
  by_cases h1 : kind = 1
  · subst h1; rfl
  by_cases h2 : kind = 2
  · subst h2; rfl
  by_cases h3 : kind = 3
  · subst h3; rfl
  by_cases h4 : kind = 4
  · subst h4; rfl
  by_cases h5 : kind = 5
  · subst h5; rfl
  by_cases h6 : kind = 6
  · subst h6; rfl
  by_cases h7 : kind = 7
  · subst h7; rfl
  by_cases h8 : kind = 8
  · subst h8; rfl
  by_cases h9 : kind = 9
  · subst h9; rfl
  by_cases h10 : kind = 10
  · subst h10; rfl
  by_cases h11 : kind = 11
  · subst h11; rfl
  by_cases h12 : kind = 12
  · subst h12; rfl
  simp only [if_neg h1, if_neg h2, if_neg h3, if_neg h4, if_neg h5, if_neg h6, if_neg h7, if_neg h8, if_neg h9, if_neg h10, if_neg h11, if_neg h12, beq_eq_false_iff_ne.2 h1, beq_eq_false_iff_ne.2 h2, beq_eq_false_iff_ne.2 h3, beq_eq_false_iff_ne.2 h4, beq_eq_false_iff_ne.2 h5, beq_eq_false_iff_ne.2 h6, beq_eq_false_iff_ne.2 h7, beq_eq_false_iff_ne.2 h8, beq_eq_false_iff_ne.2 h9, beq_eq_false_iff_ne.2 h10, beq_eq_false_iff_ne.2 h11, beq_eq_false_iff_ne.2 h12, cond_false]
  rfl
theorem op_Eval_m (k : Nat) (o : Tapi_Op) (a b d x : Int) (hc : IsW o.c) (ha : IsW a) (hb : IsW b) (hd : IsW d) (hx : IsW x) : op_Eval.m k o a b d x = some (evalI o a b d x) := by
  obtain ⟨kind, dom, r, s, t, c⟩ := o
  obtain ⟨c, rfl⟩ := hc.u; obtain ⟨a, rfl⟩ := ha.u; obtain ⟨b, rfl⟩ := hb.u; obtain ⟨d, rfl⟩ := hd.u; obtain ⟨x, rfl⟩ := hx.u
  rw [op_Eval_w, evalI_u]
/-! Which ops may be: both programs' Right is one question. -/
def opRegs (kind n : Int) : Int := if kind = 2 then n - 1 else if kind = 5 ∨ kind = 7 then 2 else if kind = 6 ∨ kind = 8 ∨ kind = 9 ∨ kind = 10 ∨ kind = 11 then 1 else if kind = 12 then n else 0
def okReg (r at' j regs : Int) : Prop := (j < regs → 0 ≤ r ∧ r < at') ∧ (regs ≤ j → r = -1)
instance (r at' j regs : Int) : Decidable (okReg r at' j regs) := by unfold okReg; infer_instance
def okConst (o : Tapi_Op) : Bool := if o.kind = 9 ∨ o.kind = 10 ∨ o.kind = 11 then decide (o.c < 64) else if o.kind = 2 then decide (o.c < 1048576) else if o.kind = 3 ∨ o.kind = 4 ∨ o.kind = 8 then true else o.c == 0
def okHead (o : Tapi_Op) (n : Int) : Prop := 1 ≤ o.kind ∧ o.kind ≤ 12 ∧ -1 ≤ o.dom ∧ o.dom < n ∧ (o.kind = 12 → o.dom = -1)
instance (o : Tapi_Op) (n : Int) : Decidable (okHead o n) := by unfold okHead; infer_instance
def okRegs (o : Tapi_Op) (at' n : Int) : Prop := okReg o.a at' 0 (opRegs o.kind n) ∧ okReg o.b at' 1 (opRegs o.kind n) ∧ okReg o.d at' 2 (opRegs o.kind n)
instance (o : Tapi_Op) (at' n : Int) : Decidable (okRegs o at' n) := by unfold okRegs; infer_instance
/-- may an op be, at a place, of so many shares? -/
def Rt (o : Tapi_Op) (at' n : Int) : Bool := decide (okHead o n) && (decide (okRegs o at' n) && okConst o)
theorem beqF {a b : Int} (h : ¬ a = b) : (a == b) = false := beq_eq_false_iff_ne.2 h
theorem op_Regs_m (k : Nat) (kind n : Int) (hn : n = 2 ∨ n = 3) : op_Regs.m k kind n = some (opRegs kind n) := by
  have hw : IntKind.i64.wrap (n - 1) = n - 1 := wrap_i64_of (by omega) (by omega)
  have h0 : ((n != 2) && (n != 3)) = false := by rcases hn with rfl | rfl <;> rfl
  unfold op_Regs.m op_Regs.j1 op_Regs.j2 opRegs
  rw [h0, cond_false, hw]
  by_cases h2 : kind = 2
  · subst h2; rfl
  by_cases h5 : kind = 5
  · subst h5; rfl
  by_cases h7 : kind = 7
  · subst h7; rfl
  by_cases h6 : kind = 6
  · subst h6; rfl
  by_cases h8 : kind = 8
  · subst h8; rfl
  by_cases h9 : kind = 9
  · subst h9; rfl
  by_cases h10 : kind = 10
  · subst h10; rfl
  by_cases h11 : kind = 11
  · subst h11; rfl
  by_cases h12 : kind = 12
  · subst h12; rfl
  simp only [h2, h5, h6, h7, h8, h9, h10, h11, h12, beqF h2, beqF h5, beqF h6, beqF h7, beqF h8, beqF h9, beqF h10, beqF h11, beqF h12, cond_false, or_self, if_false]
theorem op_constant_m (k : Nat) (o : Tapi_Op) : op_constant.m k o = some (okConst o) := by
  unfold op_constant.m op_constant.j1 op_constant.j2 okConst
  by_cases h9 : o.kind = 9
  · rw [h9]; rfl
  by_cases h10 : o.kind = 10
  · rw [h10]; rfl
  by_cases h11 : o.kind = 11
  · rw [h11]; rfl
  by_cases h2 : o.kind = 2
  · rw [h2]; rfl
  by_cases h3 : o.kind = 3
  · rw [h3]; rfl
  by_cases h4 : o.kind = 4
  · rw [h4]; rfl
  by_cases h8 : o.kind = 8
  · rw [h8]; rfl
  simp only [h2, h3, h4, h8, h9, h10, h11, beqF h2, beqF h3, beqF h4, beqF h8, beqF h9, beqF h10, beqF h11, cond_false, or_self, if_false]
theorem op_Right_step (o : Tapi_Op) (at' v : Int) (k j : Nat) (r : Int) (hj : j < 3) (hr : getI .i64 [C.int .i64 o.a, C.int .i64 o.b, C.int .i64 o.d] j = some r) :
    op_Right.l1 o at' v (k + 1) (j : Int) = if okReg r at' j v then op_Right.l1 o at' v k ((j + 1 : Nat) : Int) else some (.inl false) := by
  have hw : IntKind.i64.wrap ((j : Int) + 1) = ((j + 1 : Nat) : Int) := by rw [wrap_i64_of (by omega) (by omega)]; omega
  conv => lhs; unfold op_Right.l1
  rw [decide_eq_true (show (j : Int) < 3 by omega), cond_true, if_pos (by omega), Int.toNat_natCast, hr, Option.bind_some, hw]
  by_cases h1 : (j : Int) < v
  · rw [decide_eq_true h1, cond_true, decide_eq_false (show ¬ (j : Int) ≥ v by omega), cond_false]
    by_cases h2 : r < 0
    · rw [decide_eq_true h2, cond_true, if_neg (by unfold okReg; omega)]
    · rw [decide_eq_false h2, cond_false]
      by_cases h3 : r ≥ at'
      · rw [decide_eq_true h3, cond_true, if_neg (by unfold okReg; omega)]
      · rw [decide_eq_false h3, cond_false, if_pos (by unfold okReg; omega)]
  · rw [decide_eq_false h1, cond_false, decide_eq_true (show (j : Int) ≥ v by omega), cond_true]
    by_cases h2 : r = -1
    · rw [show (r != -1) = false by simp [h2], cond_false, if_pos (by unfold okReg; omega)]
    · rw [show (r != -1) = true by simp [h2], cond_true, if_neg (by unfold okReg; omega)]
theorem op_Right_end (o : Tapi_Op) (at' v : Int) (k : Nat) : op_Right.l1 o at' v (k + 1) ((3 : Nat) : Int) = some (.inr ()) := by unfold op_Right.l1; rfl
theorem op_Right_loop (o : Tapi_Op) (at' n : Int) (k : Nat) : op_Right.l1 o at' (opRegs o.kind n) (k + 4) 0 = some (if okRegs o at' n then .inr () else .inl false) := by
  have h := op_Right_step o at' (opRegs o.kind n) (k + 3) 0 o.a (by omega) rfl
  have h0 : ((0 : Nat) : Int) = 0 := rfl
  rw [h0] at h
  rw [h, op_Right_step o at' _ (k + 2) 1 o.b (by omega) rfl, op_Right_step o at' _ (k + 1) 2 o.d (by omega) rfl, op_Right_end]
  unfold okRegs
  by_cases h1 : okReg o.a at' 0 (opRegs o.kind n)
  · by_cases h2 : okReg o.b at' 1 (opRegs o.kind n)
    · by_cases h3 : okReg o.d at' 2 (opRegs o.kind n)
      · simp [h1, h2, h3]
      · simp [h1, h2, h3]
    · simp [h1, h2]
  · simp [h1]
theorem op_Right_j (k : Nat) (o : Tapi_Op) (at' n : Int) (hn : n = 2 ∨ n = 3) (b : Bool) : op_Right.j1 (k + 4) o at' n b = some (!b && (decide (okRegs o at' n) && okConst o)) := by
  unfold op_Right.j1
  cases b
  · rw [cond_false, op_Regs_m _ _ _ hn, Option.bind_some, op_Right_loop, Option.bind_some, op_constant_m]
    by_cases h : okRegs o at' n
    · rw [if_pos h]; simp [h]
    · rw [if_neg h]; simp [h]
  · rfl
theorem op_Right_m (k : Nat) (o : Tapi_Op) (at' n : Int) (hn : n = 2 ∨ n = 3) : op_Right.m (k + 4) o at' n = some (Rt o at' n) := by
  have h0 : ((n != 2) && (n != 3)) = false := by rcases hn with rfl | rfl <;> rfl
  unfold op_Right.m op_is.m
  rw [h0, cond_false, Option.bind_some]
  simp only [op_Right_j _ _ _ _ hn]
  unfold Rt okHead
  by_cases h1 : 1 ≤ o.kind
  · by_cases h2 : o.kind ≤ 12
    · by_cases h3 : -1 ≤ o.dom
      · by_cases h4 : o.dom < n
        · have e : ((!(decide (o.kind ≥ 1) && decide (o.kind ≤ 12)) || decide (o.dom < -1)) || decide (o.dom ≥ n)) = false := by
            simp only [Bool.or_eq_false_iff, decide_eq_false_iff_not, Bool.not_eq_false', Bool.and_eq_true, decide_eq_true_eq]; omega
          rw [e, cond_false]
          by_cases h5 : o.kind = 12
          · by_cases h6 : o.dom = -1
            · simp [h5, h6]; omega
            · have : o.dom ≥ 0 := by omega
              simp [h5, h6, this]
          · simp [h1, h2, h3, h4, h5, beqF h5]
        · have e : ((!(decide (o.kind ≥ 1) && decide (o.kind ≤ 12)) || decide (o.dom < -1)) || decide (o.dom ≥ n)) = true := by simp; omega
          rw [e, cond_true]; simp [h4]
      · have e : ((!(decide (o.kind ≥ 1) && decide (o.kind ≤ 12)) || decide (o.dom < -1)) || decide (o.dom ≥ n)) = true := by simp; omega
        rw [e, cond_true]; simp [h3]
    · have e : ((!(decide (o.kind ≥ 1) && decide (o.kind ≤ 12)) || decide (o.dom < -1)) || decide (o.dom ≥ n)) = true := by simp; omega
      rw [e, cond_true]; simp [h2]
  · have e : ((!(decide (o.kind ≥ 1) && decide (o.kind ≤ 12)) || decide (o.dom < -1)) || decide (o.dom ≥ n)) = true := by simp; omega
    rw [e, cond_true]; simp [h1]
/-! A machine's Do, as one total function. -/
def atI (v : List Int) (r : Int) : Int := if 0 ≤ r ∧ r < (v.length : Int) then v.getD r.toNat 0 else 0
theorem atI_w {v : List Int} (hv : ∀ x ∈ v, IsW x) (r : Int) : IsW (atI v r) := by
  unfold atI
  split
  · rename_i h
    have hlt : r.toNat < v.length := by omega
    rw [List.getD_eq_getElem?_getD, List.getElem?_eq_getElem hlt]; exact hv _ (List.getElem_mem hlt)
  · exact isW_zero
theorem atI_neg {v : List Int} {r : Int} (h : r < 0) : atI v r = 0 := by unfold atI; rw [if_neg (by omega)]
theorem atI_append {v : List Int} {r : Int} (h : r < (v.length : Int)) (l : List Int) : atI (v ++ l) r = atI v r := by
  unfold atI
  by_cases h0 : 0 ≤ r
  · have hlt : r.toNat < v.length := by omega
    rw [if_pos (show 0 ≤ r ∧ r < ((v ++ l).length : Int) from ⟨h0, by rw [List.length_append]; omega⟩), if_pos (show 0 ≤ r ∧ r < (v.length : Int) from ⟨h0, h⟩), List.getD_eq_getElem?_getD, List.getD_eq_getElem?_getD, List.getElem?_append_left hlt]
  · rw [if_neg (by omega), if_neg (by omega)]
theorem value_m (k : Nat) (m : Twire_Machine) (r : Int) (h : r < 0 ∨ r < (m.values.length : Int)) : wire_Machine_value.m k m r = some (atI m.values r) := by
  unfold wire_Machine_value.m
  by_cases h0 : r < 0
  · rw [decide_eq_true h0, cond_true, atI_neg h0]
  · have hlt : r.toNat < m.values.length := by omega
    rw [decide_eq_false h0, cond_false, if_pos (by omega), List.getElem?_eq_getElem hlt, Option.bind_some]
    unfold atI
    rw [if_pos (by omega), List.getD_eq_getElem?_getD, List.getElem?_eq_getElem hlt]; rfl
/-- registers of an op that may be -/
theorem Rt_regs {o : Tapi_Op} {at' n : Int} (h : Rt o at' n = true) (h0 : 0 ≤ at') : (o.a < 0 ∨ o.a < at') ∧ (o.b < 0 ∨ o.b < at') ∧ (o.d < 0 ∨ o.d < at') := by
  unfold Rt at h
  simp only [Bool.and_eq_true, decide_eq_true_eq] at h
  obtain ⟨h1, h2, h3⟩ := h.2.1
  unfold okReg at h1 h2 h3
  omega
def Twire_Machine.len (m : Twire_Machine) : Int := m.base + (m.ops.length : Int)
/-- is a mask to be drawn, and there is none? -/
def noMask (t : Ttape_Tape) : Prop := t.free < 1 ∨ (t.words.length : Int) - t.used.v < 1
instance (t : Ttape_Tape) : Decidable (noMask t) := by unfold noMask; infer_instance
def failM (m : Twire_Machine) (e : Int) : Int × Twire_Machine := (-1, ⟨m.n, m.most, m.base, m.words, m.draws, m.dry, m.openF, m.fromF, e, m.tape, m.ops, m.values, m.blocks⟩)
def pushM (m : Twire_Machine) (o : Tapi_Op) (x : Int) : Int × Twire_Machine :=
  if m.dry then (m.base, ⟨m.n, m.most, m.base + 1, if o.kind = 2 then m.words + 1 else m.words, if o.kind = 1 then m.draws + 1 else m.draws, m.dry, m.openF, m.fromF, m.bad, m.tape, m.ops, m.values, m.blocks⟩)
  else ((m.ops.length : Int), ⟨m.n, m.most, m.base, if o.kind = 2 then m.words + 1 else m.words, if o.kind = 1 then m.draws + 1 else m.draws, m.dry, m.openF, m.fromF, m.bad, m.tape, m.ops ++ [o], m.values ++ [evalI o (atI m.values o.a) (atI m.values o.b) (atI m.values o.d) x], m.blocks⟩)
def drawnM (m : Twire_Machine) : Twire_Machine := ⟨m.n, m.most, m.base, m.words, m.draws, m.dry, m.openF, m.fromF, m.bad, ⟨m.tape.words, ⟨m.tape.used.v + 1⟩, m.tape.free - 1⟩, m.ops, m.values, m.blocks⟩
def rightM (m : Twire_Machine) (o : Tapi_Op) : Bool := Rt o m.len m.n && (o.kind != 2 || o.c == m.words)
def doM (m : Twire_Machine) (o : Tapi_Op) (x : Int) : Int × Twire_Machine :=
  if m.bad ≠ 0 then (-1, m)
  else if rightM m o = false then failM m 1
  else if m.dry = false ∧ m.most ≤ (m.ops.length : Int) then failM m 3
  else if o.kind = 1 ∧ m.dry = false then
    (if noMask m.tape then failM m 2 else pushM (drawnM m) o (atI m.tape.words m.tape.used.v))
  else pushM m o x
/-- a machine that may be -/
structure MOk (m : Twire_Machine) : Prop where
  n : m.n = 2 ∨ m.n = 3
  most : m.most ≤ 1048576
  base : 0 ≤ m.base ∧ m.base ≤ 4611686018427387904
  words : 0 ≤ m.words ∧ m.words ≤ m.base + (m.ops.length : Int)
  draws : 0 ≤ m.draws ∧ m.draws ≤ m.base + (m.ops.length : Int)
  ops : m.ops.length ≤ 1048576
  vals : m.values.length = m.ops.length
  bad : 0 ≤ m.bad ∧ m.bad ≤ 3
  wvals : ∀ x ∈ m.values, IsW x
  wtape : ∀ x ∈ m.tape.words, IsW x
  used : 0 ≤ m.tape.used.v ∧ m.tape.used.v ≤ (m.tape.words.length : Int)
  free : m.tape.free ≤ (m.tape.words.length : Int)
  tlen : (m.tape.words.length : Int) ≤ 4611686018427387904
  wet : m.dry = false → m.base = 0
  dryV : m.dry = true → m.ops = []
theorem wrapI {x : Int} (h0 : -4611686018427387904 ≤ x) (h1 : x ≤ 4611686018427387904 * 3 / 2) : IntKind.i64.wrap x = x := wrap_i64_of (by omega) (by omega)
theorem Len_m (k : Nat) {m : Twire_Machine} (h : MOk m) : wire_Machine_Len.m k m = some m.len := by
  have := h.base; have := h.ops
  unfold wire_Machine_Len.m Twire_Machine.len
  rw [wrapI (by omega) (by omega)]
theorem right_m (k : Nat) {m : Twire_Machine} (h : MOk m) (o : Tapi_Op) : wire_Machine_right.m (k + 4) m o = some (rightM m o) := by
  have hw : IntKind.u64.wrap m.words = m.words := by have := h.words; have := h.base; have := h.ops; exact wrap_u64_of (by omega) (by omega)
  unfold wire_Machine_right.m wire_Machine_right.j1 rightM
  rw [Len_m _ h, Option.bind_some, op_Right_m _ _ _ _ h.n, Option.bind_some, hw]
  cases Rt o m.len m.n
  · rfl
  · rw [cond_true, Bool.true_and]
    cases hk : o.kind != 2
    · rw [cond_false, Bool.false_or]
    · rfl
theorem fail_m (k : Nat) (m : Twire_Machine) (e : Int) (h : m.bad = 0) : wire_Machine_fail.m k m e = some (failM m e) := by
  unfold wire_Machine_fail.m wire_Machine_fail.j1 failM
  rw [h]; rfl
theorem draw_no (k : Nat) {m : Twire_Machine} (h : MOk m) (hn : noMask m.tape) : tape_Tape_Draw.m k m.tape = some (0, false, m.tape) := by
  have := h.used; have := h.tlen
  unfold tape_Tape_Draw.m tape_Tape_Draw.j1 tape_Tape_Left.m tape_Tape_Used.m
  unfold noMask at hn
  by_cases hf : m.tape.free < 1
  · rw [decide_eq_true hf]; rfl
  · rw [decide_eq_false hf, cond_false, Option.bind_some, Option.bind_some, wrapI (by omega) (by omega), decide_eq_true (by omega)]; rfl
theorem draw_yes (k : Nat) {m : Twire_Machine} (h : MOk m) (hn : ¬ noMask m.tape) : tape_Tape_Draw.m k m.tape = some (atI m.tape.words m.tape.used.v, true, (drawnM m).tape) := by
  have h1 := h.used; have h2 := h.tlen; have h3 := h.free
  unfold noMask at hn
  have hlt : m.tape.used.v.toNat < m.tape.words.length := by omega
  unfold tape_Tape_Draw.m tape_Tape_Draw.j1 tape_Tape_Left.m tape_Tape_Used.m
  rw [decide_eq_false (show ¬ m.tape.free < 1 by omega), cond_false, Option.bind_some, Option.bind_some, wrapI (by omega) (by omega), decide_eq_false (by omega), cond_false, wrapI (x := m.tape.used.v + 1) (by omega) (by omega), show m.tape.used.v + 1 - 1 = m.tape.used.v by omega, wrapI (x := m.tape.used.v) (by omega) (by omega), wrapI (x := m.tape.free - 1) (by omega) (by omega),
    if_pos (by omega), List.getElem?_eq_getElem hlt, Option.bind_some]
  unfold atI drawnM
  rw [if_pos (by omega), List.getD_eq_getElem?_getD, List.getElem?_eq_getElem hlt]; rfl
theorem MOk.draw {m : Twire_Machine} (h : MOk m) (hn : ¬ noMask m.tape) : MOk (drawnM m) := by
  have h1 := h.used; have h2 := h.tlen; have h3 := h.free
  unfold noMask at hn
  exact ⟨h.n, h.most, h.base, h.words, h.draws, h.ops, h.vals, h.bad, h.wvals, h.wtape, ⟨by show 0 ≤ m.tape.used.v + 1; omega, by show m.tape.used.v + 1 ≤ (m.tape.words.length : Int); omega⟩, by show m.tape.free - 1 ≤ (m.tape.words.length : Int); omega, h.tlen, h.wet, h.dryV⟩
theorem push_j3 (k : Nat) {m : Twire_Machine} (h : MOk m) (o : Tapi_Op) (x : Int) (hc : IsW o.c) (hx : IsW x) (hr : Rt o m.len m.n = true) (hb : m.base < 4611686018427387904) (hl : m.dry = false → m.ops.length < 1048576) (w d : Int) :
    wire_Machine_Do.j3 k o x ⟨m.n, m.most, m.base, w, d, m.dry, m.openF, m.fromF, m.bad, m.tape, m.ops, m.values, m.blocks⟩ =
      some (if m.dry then (m.base, ⟨m.n, m.most, m.base + 1, w, d, m.dry, m.openF, m.fromF, m.bad, m.tape, m.ops, m.values, m.blocks⟩) else ((m.ops.length : Int), ⟨m.n, m.most, m.base, w, d, m.dry, m.openF, m.fromF, m.bad, m.tape, m.ops ++ [o], m.values ++ [evalI o (atI m.values o.a) (atI m.values o.b) (atI m.values o.d) x], m.blocks⟩)) := by
  have h1 := h.base; have h2 := h.ops; have h3 := h.vals
  unfold wire_Machine_Do.j3
  cases hd : m.dry
  · have hb0 := h.wet hd
    have hlen : m.len = (m.ops.length : Int) := by unfold Twire_Machine.len; omega
    have hg := Rt_regs hr (by rw [hlen]; omega)
    rw [hlen] at hg
    have hl := hl hd
    have value : ∀ r : Int, r < 0 ∨ r < (m.ops.length : Int) → wire_Machine_value.m k ⟨m.n, m.most, m.base, w, d, false, m.openF, m.fromF, m.bad, m.tape, m.ops, m.values, m.blocks⟩ r = some (atI m.values r) := fun r hr => value_m k ⟨m.n, m.most, m.base, w, d, false, m.openF, m.fromF, m.bad, m.tape, m.ops, m.values, m.blocks⟩ r (by show r < 0 ∨ r < (m.values.length : Int); omega)
    dsimp only
    rw [cond_false, value _ hg.1, Option.bind_some, value _ hg.2.1, Option.bind_some, value _ hg.2.2, Option.bind_some,
      op_Eval_m k o _ _ _ _ hc (atI_w h.wvals _) (atI_w h.wvals _) (atI_w h.wvals _) hx, Option.bind_some, if_pos (by simp only [List.length_cons, List.length_nil]; omega), if_pos (by simp only [List.length_cons, List.length_nil]; omega)]
    rw [List.length_append, List.length_cons, List.length_nil, wrapI (by omega) (by omega), show (((m.ops.length + (0 + 1) : Nat)) : Int) - 1 = (m.ops.length : Int) by omega]
    rfl
  · dsimp only
    rw [cond_true, wrapI (x := m.base + 1) (by omega) (by omega), show m.base + 1 - 1 = m.base by omega, wrapI (by omega) (by omega)]; rfl
theorem push_j2 (k : Nat) {m : Twire_Machine} (h : MOk m) (o : Tapi_Op) (x : Int) (hc : IsW o.c) (hx : IsW x) (hr : Rt o m.len m.n = true) (hb : m.base < 4611686018427387904) (hl : m.dry = false → m.ops.length < 1048576) :
    wire_Machine_Do.j2 k o m x = some (pushM m o x) := by
  have h1 := h.base; have h2 := h.ops; have h3 := h.words; have h4 := h.draws
  have e1 : IntKind.i64.wrap (m.draws + 1) = m.draws + 1 := wrapI (by omega) (by omega)
  have e2 : IntKind.i64.wrap (m.words + 1) = m.words + 1 := wrapI (by omega) (by omega)
  unfold wire_Machine_Do.j2 pushM
  by_cases k1 : o.kind = 1
  · rw [k1]
    simp only [show ((1 : Int) == 1) = true from rfl, cond_true, e1]
    rw [push_j3 k h o x hc hx hr hb hl]; rfl
  · by_cases k2 : o.kind = 2
    · rw [k2]
      simp only [show ((2 : Int) == 1) = false from rfl, show ((2 : Int) == 2) = true from rfl, cond_true, cond_false, e2]
      rw [push_j3 k h o x hc hx hr hb hl]; rfl
    · rw [beqF k1, beqF k2, cond_false, cond_false, if_neg k1, if_neg k2]
      exact push_j3 k h o x hc hx hr hb hl m.words m.draws
theorem Do_m (k : Nat) {m : Twire_Machine} (h : MOk m) (o : Tapi_Op) (x : Int) (hc : IsW o.c) (hx : IsW x) (hb : m.base < 4611686018427387904) : wire_Machine_Do.m (k + 4) m o x = some (doM m o x) := by
  have h2 := h.ops; have h5 := h.most
  unfold wire_Machine_Do.m doM
  by_cases b0 : m.bad = 0
  · rw [show (m.bad != 0) = false by simp [b0], cond_false, if_neg (by omega), right_m k h, Option.bind_some]
    cases hr : rightM m o
    · rw [Bool.not_false, cond_true, fail_m _ _ _ b0, Option.bind_some, if_pos rfl]
    · have hR : Rt o m.len m.n = true := by unfold rightM at hr; rw [Bool.and_eq_true] at hr; exact hr.1
      rw [Bool.not_true, cond_false, if_neg (by simp)]
      unfold wire_Machine_Do.j1
      cases hd : m.dry
      · rw [Bool.not_false, cond_true]
        by_cases hm : m.most ≤ (m.ops.length : Int)
        · rw [decide_eq_true (show ((m.ops.length : Nat) : Int) ≥ m.most from hm), cond_true, fail_m _ _ _ b0, Option.bind_some, if_pos ⟨rfl, hm⟩]
        · rw [decide_eq_false (show ¬ ((m.ops.length : Nat) : Int) ≥ m.most from hm), cond_false, if_neg (fun h => hm h.2)]
          by_cases k1 : o.kind = 1
          · rw [show ((o.kind == 1) && true) = true by simp [k1], cond_true, cond_false, if_pos ⟨k1, rfl⟩]
            by_cases hn : noMask m.tape
            · rw [draw_no _ h hn, Option.bind_some, if_pos hn]
              dsimp only
              rw [Bool.not_false, cond_true, ← hd, fail_m _ _ _ b0, Option.bind_some]
            · rw [draw_yes _ h hn, Option.bind_some, if_neg hn]
              dsimp only
              rw [Bool.not_true, cond_false, ← hd]
              exact push_j2 (k + 4) (h.draw hn) o _ hc (atI_w h.wtape _) hR hb (fun _ => by show m.ops.length < 1048576; omega)
          · rw [show ((o.kind == 1) && true) = false by rw [beqF k1]; rfl, cond_false, if_neg (fun h => k1 h.1)]
            exact push_j2 (k + 4) h o x hc hx hR hb (fun _ => by omega)
      · rw [Bool.not_true, cond_false, cond_false, Bool.and_false, cond_false, if_neg (fun h => by cases h.1), if_neg (fun h => by cases h.2)]
        exact push_j2 (k + 4) h o x hc hx hR hb (fun e => by rw [hd] at e; cases e)
  · rw [show (m.bad != 0) = true by simp [b0], cond_true, if_pos b0]
theorem pushM_wet {m : Twire_Machine} (hd : m.dry = false) (o : Tapi_Op) (x : Int) : pushM m o x = ((m.ops.length : Int), ⟨m.n, m.most, m.base, if o.kind = 2 then m.words + 1 else m.words, if o.kind = 1 then m.draws + 1 else m.draws, m.dry, m.openF, m.fromF, m.bad, m.tape, m.ops ++ [o], m.values ++ [evalI o (atI m.values o.a) (atI m.values o.b) (atI m.values o.d) x], m.blocks⟩) := by
  unfold pushM; rw [if_neg (by rw [hd]; simp)]
theorem pushM_dry {m : Twire_Machine} (hd : m.dry = true) (o : Tapi_Op) (x : Int) : pushM m o x = (m.base, ⟨m.n, m.most, m.base + 1, if o.kind = 2 then m.words + 1 else m.words, if o.kind = 1 then m.draws + 1 else m.draws, m.dry, m.openF, m.fromF, m.bad, m.tape, m.ops, m.values, m.blocks⟩) := by
  unfold pushM; rw [if_pos hd]
theorem up_le (c : Prop) [Decidable c] {a b : Int} (h0 : 0 ≤ a ∧ a ≤ b) : 0 ≤ (if c then a + 1 else a) ∧ (if c then a + 1 else a) ≤ b + 1 := by split <;> omega
theorem MOk.push {m : Twire_Machine} (h : MOk m) (o : Tapi_Op) (x : Int) (hb : m.base < 4611686018427387904) (hl : m.dry = false → m.ops.length < 1048576) : MOk (pushM m o x).2 := by
  have h1 := h.base; have h2 := h.ops; have h5 := h.vals
  cases hd : m.dry
  · have hl := hl hd
    have hb0 := h.wet hd
    rw [pushM_wet hd]
    refine ⟨h.n, h.most, h.base, ?_, ?_, ?_, ?_, h.bad, ?_, h.wtape, h.used, h.free, h.tlen, fun _ => hb0, fun e => (by rw [hd] at e; cases e)⟩
    · have := up_le (o.kind = 2) h.words
      simp only [List.length_append, List.length_cons, List.length_nil]; omega
    · have := up_le (o.kind = 1) h.draws
      simp only [List.length_append, List.length_cons, List.length_nil]; omega
    · simp only [List.length_append, List.length_cons, List.length_nil]; omega
    · simp only [List.length_append, List.length_cons, List.length_nil]; omega
    · intro y hy
      rcases List.mem_append.1 hy with hy | hy
      · exact h.wvals y hy
      · rw [List.mem_singleton.1 hy]; exact evalI_w _ _ _ _ _
  · rw [pushM_dry hd]
    refine ⟨h.n, h.most, ⟨by show 0 ≤ m.base + 1; omega, by show m.base + 1 ≤ 4611686018427387904; omega⟩, ?_, ?_, h.ops, h.vals, h.bad, h.wvals, h.wtape, h.used, h.free, h.tlen, fun e => (by rw [hd] at e; cases e), fun _ => h.dryV hd⟩
    · have := up_le (o.kind = 2) h.words
      dsimp only; omega
    · have := up_le (o.kind = 1) h.draws
      dsimp only; omega
theorem MOk.fail {m : Twire_Machine} (h : MOk m) (e : Int) (he : 0 ≤ e ∧ e ≤ 3) : MOk (failM m e).2 :=
  ⟨h.n, h.most, h.base, h.words, h.draws, h.ops, h.vals, he, h.wvals, h.wtape, h.used, h.free, h.tlen, h.wet, h.dryV⟩
theorem MOk.did {m : Twire_Machine} (h : MOk m) (o : Tapi_Op) (x : Int) (hb : m.base < 4611686018427387904) : MOk (doM m o x).2 := by
  have h5 := h.most
  unfold doM
  repeat' split
  · exact h
  · exact h.fail 1 (by omega)
  · exact h.fail 3 (by omega)
  · exact h.fail 2 (by omega)
  · rename_i h1 h2 hn; exact (h.draw hn).push o _ hb (fun hd => by show m.ops.length < 1048576; have : ¬ m.most ≤ (m.ops.length : Int) := fun e => h1 ⟨hd, e⟩; omega)
  · rename_i h1 h2; exact h.push o x hb (fun hd => by have : ¬ m.most ≤ (m.ops.length : Int) := fun e => h1 ⟨hd, e⟩; omega)
/-! Begin, End, and what stays true of a machine: its words are what its ops make. -/
theorem Do_k {k : Nat} (hk : 4 ≤ k) {m : Twire_Machine} (h : MOk m) (o : Tapi_Op) (x : Int) (hc : IsW o.c) (hx : IsW x) (hb : m.base < 4611686018427387904) : wire_Machine_Do.m k m o x = some (doM m o x) := by
  obtain ⟨j, rfl⟩ : ∃ j, k = j + 4 := ⟨k - 4, by omega⟩
  exact Do_m j h o x hc hx hb
def beginM (m : Twire_Machine) (kd : Int) : Twire_Machine :=
  if m.bad ≠ 0 then m else if m.openF ≠ 0 ∨ kd < 1 ∨ kd > 3 then (failM m 1).2 else ⟨m.n, m.most, m.base, m.words, m.draws, m.dry, kd, m.len, m.bad, m.tape, m.ops, m.values, m.blocks⟩
def endM (m : Twire_Machine) : Twire_Machine :=
  if m.bad ≠ 0 then m else if m.openF = 0 then (failM m 1).2 else ⟨m.n, m.most, m.base, m.words, m.draws, m.dry, 0, m.fromF, m.bad, m.tape, m.ops, m.values, if m.fromF < m.len ∧ m.dry = false then m.blocks ++ [⟨m.openF, m.fromF, m.len⟩] else m.blocks⟩
theorem Begin_m (k : Nat) {m : Twire_Machine} (h : MOk m) (kd : Int) : wire_Machine_Begin.m k m kd = some (beginM m kd) := by
  unfold wire_Machine_Begin.m beginM
  by_cases b0 : m.bad = 0
  · rw [show (m.bad != 0) = false by simp [b0], cond_false, if_neg (by omega)]
    by_cases c : m.openF ≠ 0 ∨ kd < 1 ∨ kd > 3
    · have e : ((m.openF != 0) || decide (kd < 1) || decide (kd > 3)) = true := by
        simp only [Bool.or_eq_true, bne_iff_ne, ne_eq, decide_eq_true_eq]; rcases c with c | c | c <;> simp [c]
      rw [e, cond_true, fail_m _ _ _ b0, Option.bind_some, if_pos c]
    · have e : ((m.openF != 0) || decide (kd < 1) || decide (kd > 3)) = false := by
        simp only [Bool.or_eq_false_iff, bne_eq_false_iff_eq, decide_eq_false_iff_not]; omega
      rw [e, cond_false, Len_m _ h, Option.bind_some, if_neg c]
  · rw [show (m.bad != 0) = true by simp [b0], cond_true, if_pos b0]
theorem End_m (k : Nat) {m : Twire_Machine} (h : MOk m) (hbl : m.blocks.length ≤ 2097152) : wire_Machine_End.m k m = some (endM m) := by
  unfold wire_Machine_End.m endM
  by_cases b0 : m.bad = 0
  · rw [show (m.bad != 0) = false by simp [b0], cond_false, if_neg (show ¬ m.bad ≠ 0 by omega)]
    by_cases c : m.openF = 0
    · rw [show (m.openF == 0) = true by simp [c], cond_true, fail_m _ _ _ b0, Option.bind_some, if_pos c]
    · rw [beqF c, cond_false, Len_m _ h, Option.bind_some, if_neg c]
      unfold wire_Machine_End.j1 wire_Machine_End.j2
      rw [Len_m _ h, Option.bind_some, if_pos (by simp only [List.length_cons, List.length_nil]; omega)]
      dsimp only
      by_cases c2 : m.fromF < m.len
      · rw [decide_eq_true (show m.len > m.fromF from c2), cond_true]
        cases hd : m.dry
        · rw [Bool.not_false, cond_true, if_pos ⟨c2, rfl⟩]
        · rw [Bool.not_true, cond_false, if_neg (fun h => by cases h.2)]
      · rw [decide_eq_false (show ¬ m.len > m.fromF from c2), cond_false, cond_false, if_neg (fun h => c2 h.1)]
  · rw [show (m.bad != 0) = true by simp [b0], cond_true, if_pos b0]
/-! ops that are made, one by one -/
def cnt (kd : Int) (l : List Tapi_Op) : Nat := l.countP fun o => o.kind == kd
def outw (T K : List Int) (ops : List Tapi_Op) (o : Tapi_Op) : Int := if o.kind = 1 then T.getD (cnt 1 ops) 0 else if o.kind = 2 then K.getD o.c.toNat 0 else 0
inductive Made (n : Int) (T K : List Int) : List Tapi_Op → List Int → Prop
  | nil : Made n T K [] []
  | snoc {ops : List Tapi_Op} {vals : List Int} {o : Tapi_Op} {v : Int} : Made n T K ops vals → Rt o (ops.length : Int) n = true → (o.kind = 2 → o.c = (cnt 2 ops : Int)) → IsW o.c →
      v = evalI o (atI vals o.a) (atI vals o.b) (atI vals o.d) (outw T K ops o) → Made n T K (ops ++ [o]) (vals ++ [v])
theorem Made.len {n : Int} {T K : List Int} {ops : List Tapi_Op} {vals : List Int} (h : Made n T K ops vals) : vals.length = ops.length := by
  induction h with
  | nil => rfl
  | snoc _ _ _ _ _ ih => simp [ih]
theorem Made.at {n : Int} {T K : List Int} {ops : List Tapi_Op} {vals : List Int} (h : Made n T K ops vals) : ∀ (i : Nat) (o : Tapi_Op) (v : Int), ops[i]? = some o → vals[i]? = some v →
    Rt o (i : Int) n = true ∧ (o.kind = 2 → o.c = (cnt 2 (ops.take i) : Int)) ∧ IsW o.c ∧ v = evalI o (atI vals o.a) (atI vals o.b) (atI vals o.d) (outw T K (ops.take i) o) := by
  induction h with
  | nil => intro i o v h; simp at h
  | @snoc ops vals o' v' hm h1 h2 h3 h4 ih =>
    intro i o v ho hv
    have hl := hm.len
    by_cases hi : i < ops.length
    · rw [List.getElem?_append_left hi] at ho
      rw [List.getElem?_append_left (by omega)] at hv
      obtain ⟨a1, a2, a3, a4⟩ := ih i o v ho hv
      have hr := Rt_regs a1 (by omega)
      rw [List.take_append_of_le_length (by omega)]
      refine ⟨a1, a2, a3, ?_⟩
      rw [atI_append (by omega), atI_append (by omega), atI_append (by omega)]; exact a4
    · have e : i = ops.length := by
        have := (List.getElem?_eq_some_iff.1 ho).1
        simp at this; omega
      subst e
      rw [List.getElem?_append_right (Nat.le_refl _), Nat.sub_self] at ho
      rw [← hl, List.getElem?_append_right (Nat.le_refl _), Nat.sub_self] at hv
      cases ho; cases hv
      have hr := Rt_regs h1 (by omega)
      rw [List.take_left]
      refine ⟨h1, h2, h3, ?_⟩
      rw [atI_append (by omega), atI_append (by omega), atI_append (by omega)]; exact h4
/-- blocks in order, from 'last' on, within so many ops -/
def BlOk (len : Int) : Int → List Tapi_Span → Prop
  | _, [] => True
  | last, b :: l => 1 ≤ b.kind ∧ b.kind ≤ 3 ∧ last ≤ b.fromF ∧ b.fromF < b.to ∧ b.to ≤ len ∧ BlOk len b.to l
def lastTo : Int → List Tapi_Span → Int
  | last, [] => last
  | _, b :: l => lastTo b.to l
theorem BlOk.mono {len len' : Int} (hl : len ≤ len') : ∀ {l : List Tapi_Span} {last : Int}, BlOk len last l → BlOk len' last l
  | [], _, _ => trivial
  | b :: l, _, ⟨h1, h2, h3, h4, h5, h6⟩ => ⟨h1, h2, h3, h4, by omega, BlOk.mono hl h6⟩
theorem BlOk.snoc {len : Int} {b : Tapi_Span} : ∀ {l : List Tapi_Span} {last : Int}, BlOk len last l → 1 ≤ b.kind → b.kind ≤ 3 → lastTo last l ≤ b.fromF → b.fromF < b.to → b.to ≤ len → BlOk len last (l ++ [b])
  | [], _, _, g1, g2, g3, g4, g5 => ⟨g1, g2, g3, g4, g5, trivial⟩
  | _ :: _, _, ⟨h1, h2, h3, h4, h5, h6⟩, g1, g2, g3, g4, g5 => ⟨h1, h2, h3, h4, h5, BlOk.snoc h6 g1 g2 g3 g4 g5⟩
theorem BlOk.count {len : Int} : ∀ {l : List Tapi_Span} {last : Int}, BlOk len last l → last + (l.length : Int) ≤ lastTo last l ∧ (last ≤ len → lastTo last l ≤ len)
  | [], last, _ => by simp [lastTo]
  | b :: l, last, ⟨h1, h2, h3, h4, h5, h6⟩ => by
    have := BlOk.count h6
    simp only [lastTo, List.length_cons]; omega
/-! The document's machine is the program's, seen otherwise. -/
def absT (t : Ttape_Tape) : Tvisorref02_T := ⟨t.words.drop t.used.v.toNat, t.used.v, t.free⟩
def absM (m : Twire_Machine) : Tvisorref19_M := ⟨m.n, m.most, m.words, m.draws, m.fromF, 0, m.openF, m.bad, m.ops, m.blocks, m.values, absT m.tape, m.dry⟩
/-! A wet machine that may be, with what is done to it as total functions: by the program, and by the document. -/
structure WMok (m : Twire_Machine) : Prop where
  ok : MOk m
  dry : m.dry = false
  bl : BlOk (m.ops.length : Int) 0 m.blocks
  fr : lastTo 0 m.blocks ≤ m.fromF ∨ m.openF = 0
  op : 0 ≤ m.openF ∧ m.openF ≤ 3
theorem WMok.len {m : Twire_Machine} (h : WMok m) : m.len = (m.ops.length : Int) := by
  unfold Twire_Machine.len; rw [h.ok.wet h.dry]; omega
theorem WMok.fail {m : Twire_Machine} (h : WMok m) (e : Int) (he : 0 ≤ e ∧ e ≤ 3) : WMok (failM m e).2 := ⟨h.ok.fail e he, h.dry, h.bl, h.fr, h.op⟩
theorem doM_keeps (m : Twire_Machine) (o : Tapi_Op) (x : Int) : (doM m o x).2.dry = m.dry ∧ (doM m o x).2.blocks = m.blocks ∧ (doM m o x).2.fromF = m.fromF ∧ (doM m o x).2.openF = m.openF ∧ (doM m o x).2.n = m.n := by
  unfold doM failM pushM drawnM
  repeat' split
  all_goals exact ⟨rfl, rfl, rfl, rfl, rfl⟩
theorem doM_grows (m : Twire_Machine) (o : Tapi_Op) (x : Int) : m.ops.length ≤ (doM m o x).2.ops.length := by
  unfold doM failM pushM drawnM
  repeat' split
  all_goals first | exact Nat.le_refl _ | (simp only [List.length_append]; omega)
theorem WMok.did {m : Twire_Machine} (h : WMok m) (o : Tapi_Op) (x : Int) : WMok (doM m o x).2 := by
  obtain ⟨h1, h2, h3, h4, _⟩ := doM_keeps m o x
  have hg := doM_grows m o x
  refine ⟨h.ok.did o x (by rw [h.ok.wet h.dry]; omega), by rw [h1]; exact h.dry, ?_, ?_, ?_⟩
  · rw [h2]; exact h.bl.mono (by omega)
  · rw [h2, h3, h4]; exact h.fr
  · rw [h4]; exact h.op
theorem WMok.begin {m : Twire_Machine} (h : WMok m) (kd : Int) : WMok (beginM m kd) := by
  have hb := h.bl.count
  unfold beginM
  repeat' split
  · exact h
  · exact h.fail 1 (by omega)
  · refine ⟨⟨h.ok.n, h.ok.most, h.ok.base, h.ok.words, h.ok.draws, h.ok.ops, h.ok.vals, h.ok.bad, h.ok.wvals, h.ok.wtape, h.ok.used, h.ok.free, h.ok.tlen, h.ok.wet, h.ok.dryV⟩, h.dry, h.bl, .inl ?_, ?_⟩
    · show lastTo 0 m.blocks ≤ m.len
      rw [h.len]; omega
    · show 0 ≤ kd ∧ kd ≤ 3
      omega
theorem WMok.fin {m : Twire_Machine} (h : WMok m) : WMok (endM m) := by
  unfold endM
  have ho := h.op
  split
  · exact h
  · split
    · exact h.fail 1 (by omega)
    · rename_i h1 h2
      have hok : MOk ⟨m.n, m.most, m.base, m.words, m.draws, m.dry, 0, m.fromF, m.bad, m.tape, m.ops, m.values, if m.fromF < m.len ∧ m.dry = false then m.blocks ++ [⟨m.openF, m.fromF, m.len⟩] else m.blocks⟩ :=
        ⟨h.ok.n, h.ok.most, h.ok.base, h.ok.words, h.ok.draws, h.ok.ops, h.ok.vals, h.ok.bad, h.ok.wvals, h.ok.wtape, h.ok.used, h.ok.free, h.ok.tlen, h.ok.wet, h.ok.dryV⟩
      refine ⟨hok, h.dry, ?_, .inr rfl, ⟨Int.le_refl 0, by show (0 : Int) ≤ 3; omega⟩⟩
      show BlOk (m.ops.length : Int) 0 (if m.fromF < m.len ∧ m.dry = false then m.blocks ++ [⟨m.openF, m.fromF, m.len⟩] else m.blocks)
      split
      · rename_i h3
        refine h.bl.snoc (by show 1 ≤ m.openF; omega) (by show m.openF ≤ 3; omega) (by show lastTo 0 m.blocks ≤ m.fromF; rcases h.fr with e | e <;> omega) h3.1 (by show m.len ≤ _; rw [h.len]; omega)
      · exact h.bl
structure WM where
  m : Twire_Machine
  w : WMok m
def WM.D (M : WM) (o : Tapi_Op) (x : Int) : Int × WM := ((doM M.m o x).1, ⟨(doM M.m o x).2, M.w.did o x⟩)
def WM.B (M : WM) (kd : Int) : WM := ⟨beginM M.m kd, M.w.begin kd⟩
def WM.E (M : WM) : WM := ⟨endM M.m, M.w.fin⟩
theorem WM.blocks (M : WM) : M.m.blocks.length ≤ 1048576 := by
  have := M.w.bl.count; have := M.w.ok.ops; omega
theorem N_w (k : Nat) (M : WM) : wire_Machine_N.m k M.m = some M.m.n := rfl
theorem D_n (M : WM) (o : Tapi_Op) (x : Int) : (M.D o x).2.m.n = M.m.n := (doM_keeps M.m o x).2.2.2.2
theorem B_n (M : WM) (kd : Int) : (M.B kd).m.n = M.m.n := by
  show (beginM M.m kd).n = M.m.n
  unfold beginM failM; repeat' split
  all_goals rfl
theorem E_n (M : WM) : M.E.m.n = M.m.n := by
  show (endM M.m).n = M.m.n
  unfold endM failM; repeat' split
  all_goals rfl
theorem Do_w {k : Nat} (hk : 4 ≤ k) (M : WM) (o : Tapi_Op) (x : Int) (hc : IsW o.c) (hx : IsW x) : wire_Machine_Do.m k M.m o x = some ((M.D o x).1, (M.D o x).2.m) := Do_k hk M.w.ok o x hc hx (by rw [M.w.ok.wet M.w.dry]; omega)
theorem Two_w {k : Nat} (hk : 4 ≤ k) (M : WM) (kd dom a b : Int) : wire_Machine_Two.m k M.m kd dom a b = some ((M.D ⟨kd, dom, a, b, -1, 0⟩ 0).1, (M.D ⟨kd, dom, a, b, -1, 0⟩ 0).2.m) := by
  unfold wire_Machine_Two.m; rw [Do_w hk M _ _ isW_zero isW_zero]; rfl
theorem Rand_w {k : Nat} (hk : 4 ≤ k) (M : WM) (dom : Int) : wire_Machine_Rand.m k M.m dom = some ((M.D ⟨1, dom, -1, -1, -1, 0⟩ 0).1, (M.D ⟨1, dom, -1, -1, -1, 0⟩ 0).2.m) := by
  unfold wire_Machine_Rand.m; rw [Do_w hk M _ _ isW_zero isW_zero]; rfl
theorem Begin_w (k : Nat) (M : WM) (kd : Int) : wire_Machine_Begin.m k M.m kd = some (M.B kd).m := Begin_m k M.w.ok kd
theorem End_w (k : Nat) (M : WM) : wire_Machine_End.m k M.m = some M.E.m := End_m k M.w.ok (by have := M.blocks; omega)
theorem W2 : IntKind.i64.wrap (1 + 1) = 2 := by decide
theorem W3 : IntKind.i64.wrap (2 + 1) = 3 := by decide
theorem W01 : IntKind.i64.wrap (0 + 1) = 1 := by decide
/-! What registers stand for. -/
def vstep (x0 : List Int) (a x : Int) : Int := if 0 ≤ a ∧ a < (x0.length : Int) then bxor .u64 x (x0.getD a.toNat 0) else x
theorem value_step (x0 : List Int) (x1 : Cells) (k j : Nat) (x a : Int) (hj : j < 3) (ha : getI .i64 x1 j = some a) :
    share_Value.l1 x0 x1 (k + 1) x (j : Int) = share_Value.l1 x0 x1 k (vstep x0 a x) ((j + 1 : Nat) : Int) := by
  have hw : IntKind.i64.wrap ((j : Int) + 1) = ((j + 1 : Nat) : Int) := by rw [wrap_i64_of (by omega) (by omega)]; omega
  conv => lhs; unfold share_Value.l1
  rw [show decide ((j : Int) < 3) = true from decide_eq_true (by omega), cond_true, if_pos (by omega), Int.toNat_natCast, ha, Option.bind_some]
  unfold vstep
  by_cases h : 0 ≤ a ∧ a < (x0.length : Int)
  · have hlt : a.toNat < x0.length := by omega
    rw [if_pos h, show (decide (a ≥ 0) && decide (a < ((x0.length : Nat) : Int))) = true by simp; omega, cond_true, if_pos h.1, List.getElem?_eq_getElem hlt, Option.bind_some]
    unfold share_Value.j1
    rw [hw, List.getD_eq_getElem?_getD, List.getElem?_eq_getElem hlt]; rfl
  · have hd : (decide (a ≥ 0) && decide (a < ((x0.length : Nat) : Int))) = false := by rw [← Bool.not_eq_true, Bool.and_eq_true, decide_eq_true_eq, decide_eq_true_eq]; exact h
    rw [if_neg h, hd, cond_false]
    unfold share_Value.j1
    rw [hw]
theorem value_end (x0 : List Int) (x1 : Cells) (k : Nat) (x : Int) : share_Value.l1 x0 x1 (k + 1) x ((3 : Nat) : Int) = some x := by unfold share_Value.l1; rfl
def val3 (x0 : List Int) (a b c : Int) : Int := vstep x0 c (vstep x0 b (vstep x0 a 0))
theorem Value_m (x0 : List Int) (a b c : Int) (k : Nat) : share_Value.m (k + 4) x0 [C.int .i64 a, C.int .i64 b, C.int .i64 c] = some (val3 x0 a b c) := by
  unfold share_Value.m
  rw [if_pos (show [C.int .i64 a, C.int .i64 b, C.int .i64 c].length = 3 from rfl)]
  have h := value_step x0 [C.int .i64 a, C.int .i64 b, C.int .i64 c] (k + 3) 0 0 a (by omega) rfl
  have h0 : ((0 : Nat) : Int) = 0 := rfl
  rw [h0] at h
  rw [h, value_step _ _ (k + 2) 1 _ b (by omega) rfl, value_step _ _ (k + 1) 2 _ c (by omega) rfl, value_end, Option.bind_some]; rfl
/-! What a machine's registers hold, and what words stand for. -/
def Val (M : WM) (r : Int) (x : BitVec 64) : Prop := 0 ≤ r ∧ M.m.values[r.toNat]? = some (u x)
structure Ext (M M' : WM) : Prop where
  n : M'.m.n = M.m.n
  bad : M'.m.bad = 0 → M.m.bad = 0
  vals : ∃ l, M'.m.values = M.m.values ++ l
theorem Ext.refl (M : WM) : Ext M M := ⟨rfl, id, [], by simp⟩
theorem Ext.trans {M N P : WM} (h : Ext M N) (g : Ext N P) : Ext M P := by
  obtain ⟨l, hl⟩ := h.vals
  obtain ⟨l', hl'⟩ := g.vals
  exact ⟨g.n.trans h.n, fun e => h.bad (g.bad e), l ++ l', by rw [hl', hl, List.append_assoc]⟩
theorem Val.ext {M M' : WM} {r : Int} {x : BitVec 64} (h : Val M r x) (e : Ext M M') : Val M' r x := by
  obtain ⟨l, hl⟩ := e.vals
  refine ⟨h.1, ?_⟩
  have := (List.getElem?_eq_some_iff.1 h.2).1
  rw [hl, List.getElem?_append_left this]; exact h.2
theorem Val.at {M : WM} {r : Int} {x : BitVec 64} (h : Val M r x) : atI M.m.values r = u x := by
  have := (List.getElem?_eq_some_iff.1 h.2).1
  have h0 := h.1
  unfold atI
  rw [if_pos (by omega), List.getD_eq_getElem?_getD, h.2]; rfl
theorem Val.lt {M : WM} {r : Int} {x : BitVec 64} (h : Val M r x) : 0 ≤ r ∧ r < (M.m.values.length : Int) := by
  have := (List.getElem?_eq_some_iff.1 h.2).1
  have h0 := h.1
  omega
theorem doM_ext (M : WM) (o : Tapi_Op) (x : Int) : ((M.D o x).2.m.bad = 0 → M.m.bad = 0) ∧ (∃ l, (M.D o x).2.m.values = M.m.values ++ l) := by
  show ((doM M.m o x).2.bad = 0 → M.m.bad = 0) ∧ (∃ l, (doM M.m o x).2.values = M.m.values ++ l)
  have hd := M.w.dry
  unfold doM
  repeat' split
  · exact ⟨id, [], by simp⟩
  · exact ⟨fun h => by simp [failM] at h, [], by simp [failM]⟩
  · exact ⟨fun h => by simp [failM] at h, [], by simp [failM]⟩
  · exact ⟨fun h => by simp [failM] at h, [], by simp [failM]⟩
  · rw [pushM_wet (m := drawnM M.m) hd]; exact ⟨id, _, rfl⟩
  · rw [pushM_wet hd]; exact ⟨id, _, rfl⟩
theorem D_ext (M : WM) (o : Tapi_Op) (x : Int) : Ext M (M.D o x).2 := ⟨D_n M o x, (doM_ext M o x).1, (doM_ext M o x).2⟩
theorem B_ext (M : WM) (kd : Int) : Ext M (M.B kd) := by
  refine ⟨B_n M kd, ?_, [], ?_⟩
  · show (beginM M.m kd).bad = 0 → M.m.bad = 0
    unfold beginM failM; repeat' split
    · exact id
    · intro h; cases h
    · exact id
  · show (beginM M.m kd).values = M.m.values ++ []
    unfold beginM failM; repeat' split
    all_goals simp
theorem E_ext (M : WM) : Ext M M.E := by
  refine ⟨E_n M, ?_, [], ?_⟩
  · show (endM M.m).bad = 0 → M.m.bad = 0
    unfold endM failM; repeat' split
    all_goals first | exact id | (intro h; cases h)
  · show (endM M.m).values = M.m.values ++ []
    unfold endM failM; repeat' split
    all_goals simp
/-- what a Do without an error leaves -/
theorem D_val (M : WM) (o : Tapi_Op) (x : Int) (h : (M.D o x).2.m.bad = 0) : Rt o (M.m.ops.length : Int) M.m.n = true ∧ ∃ z, (o.kind ≠ 1 → z = x) ∧ Val (M.D o x).2 (M.D o x).1 (evalW o.kind (BitVec.ofInt 64 o.c) (BitVec.ofInt 64 (atI M.m.values o.a)) (BitVec.ofInt 64 (atI M.m.values o.b)) (BitVec.ofInt 64 (atI M.m.values o.d)) (BitVec.ofInt 64 z)) := by
  change (doM M.m o x).2.bad = 0 at h
  show Rt o (M.m.ops.length : Int) M.m.n = true ∧ ∃ z, _ ∧ (0 ≤ (doM M.m o x).1 ∧ (doM M.m o x).2.values[(doM M.m o x).1.toNat]? = _)
  have hd := M.w.dry
  have hl := M.w.ok.vals
  have hlen := M.w.len
  have h' := (doM_ext M o x).1 h
  unfold doM at h ⊢
  rw [if_neg (by omega)] at h ⊢
  by_cases hr : rightM M.m o = false
  · rw [if_pos hr] at h; cases h
  · rw [if_neg hr] at h ⊢
    have hR : Rt o (M.m.ops.length : Int) M.m.n = true := by
      rw [Bool.not_eq_false] at hr
      unfold rightM at hr; rw [Bool.and_eq_true, hlen] at hr; exact hr.1
    refine ⟨hR, ?_⟩
    by_cases hm : M.m.dry = false ∧ M.m.most ≤ (M.m.ops.length : Int)
    · rw [if_pos hm] at h; cases h
    · rw [if_neg hm] at h ⊢
      by_cases k1 : o.kind = 1 ∧ M.m.dry = false
      · rw [if_pos k1] at h ⊢
        by_cases hn : noMask M.m.tape
        · rw [if_pos hn] at h; cases h
        · rw [if_neg hn] at h ⊢
          refine ⟨atI M.m.tape.words M.m.tape.used.v, fun e => absurd k1.1 e, ?_⟩
          rw [pushM_wet (m := drawnM M.m) hd]
          refine ⟨by show (0 : Int) ≤ ((M.m.ops.length : Nat) : Int); omega, ?_⟩
          show (M.m.values ++ [_])[(M.m.ops.length : Int).toNat]? = _
          rw [Int.toNat_natCast, ← hl, List.getElem?_append_right (Nat.le_refl _), Nat.sub_self]; rfl
      · rw [if_neg k1] at h ⊢
        refine ⟨x, fun _ => rfl, ?_⟩
        rw [pushM_wet hd]
        refine ⟨by show (0 : Int) ≤ ((M.m.ops.length : Nat) : Int); omega, ?_⟩
        show (M.m.values ++ [_])[(M.m.ops.length : Int).toNat]? = _
        rw [Int.toNat_natCast, ← hl, List.getElem?_append_right (Nat.le_refl _), Nat.sub_self]; rfl
/-- what a word stands for -/
def Stands (M : WM) (a b c : Int) (x : BitVec 64) : Prop :=
  (M.m.n = 2 ∧ c = -1 ∧ ∃ p q, Val M a p ∧ Val M b q ∧ x = p ^^^ q) ∨ (M.m.n = 3 ∧ ∃ p q r, Val M a p ∧ Val M b q ∧ Val M c r ∧ x = p ^^^ q ^^^ r)
theorem Stands.ext {M M' : WM} {a b c : Int} {x : BitVec 64} (h : Stands M a b c x) (e : Ext M M') : Stands M' a b c x := by
  rcases h with ⟨hn, hc, p, q, h1, h2, h3⟩ | ⟨hn, p, q, r, h1, h2, h3, h4⟩
  · exact .inl ⟨e.n.trans hn, hc, p, q, h1.ext e, h2.ext e, h3⟩
  · exact .inr ⟨e.n.trans hn, p, q, r, h1.ext e, h2.ext e, h3.ext e, h4⟩
theorem vstep_val {M : WM} {r : Int} {x y : BitVec 64} (h : Val M r x) : vstep M.m.values r (u y) = u (y ^^^ x) := by
  have := h.lt
  unfold vstep
  rw [if_pos this, List.getD_eq_getElem?_getD, h.2]
  exact bxor_u _ _
theorem Stands.val3 {M : WM} {a b c : Int} {x : BitVec 64} (h : Stands M a b c x) : val3 M.m.values a b c = u x := by
  have z : (0 : Int) = u 0#64 := rfl
  show vstep M.m.values c (vstep M.m.values b (vstep M.m.values a 0)) = u x
  rw [z]
  rcases h with ⟨hn, hc, p, q, h1, h2, h3⟩ | ⟨hn, p, q, r, h1, h2, h3, h4⟩
  · rw [vstep_val h1, vstep_val h2, hc, h3, BitVec.zero_xor]
    unfold vstep; rw [if_neg (by omega)]
  · rw [vstep_val h1, vstep_val h2, vstep_val h3, h4, BitVec.zero_xor]
/-! One step of a chain of calls, by what it leaves. -/
theorem bstep {α β : Type} {o : Option α} {v : α} {f : α → Option β} {r : Option β} (h : o = some v) (h2 : f v = r) : o.bind f = r := by rw [h]; exact h2
theorem bifT {α : Type} {c : Bool} {x y r : α} (h : c = true) (h2 : x = r) : (bif c then x else y) = r := by rw [h]; exact h2
theorem bifF {α : Type} {c : Bool} {x y r : α} (h : c = false) (h2 : y = r) : (bif c then x else y) = r := by rw [h]; exact h2
theorem iteP {α : Type} {c : Prop} {inst : Decidable c} {x y r : α} (h : c) (h2 : x = r) : (if c then x else y) = r := by rw [if_pos h]; exact h2
theorem beqT {a b : Int} (h : a = b) : (a == b) = true := by simp [h]
theorem beqN {a b : Int} (h : a ≠ b) : (a == b) = false := by simp [h]
theorem bneT {a b : Int} (h : a ≠ b) : (a != b) = true := by simp [h]
theorem bneN {a b : Int} (h : a = b) : (a != b) = false := by simp [h]
theorem N_v {k : Nat} {M : WM} {n : Int} (h : M.m.n = n) : wire_Machine_N.m k M.m = some n := by rw [N_w, h]
theorem Begin_v {k : Nat} {M B : WM} {kd : Int} (h : B = M.B kd) : wire_Machine_Begin.m k M.m kd = some B.m := by rw [Begin_w, h]
theorem End_v {k : Nat} {M B : WM} (h : B = M.E) : wire_Machine_End.m k M.m = some B.m := by rw [End_w, h]
theorem Rand_v {k : Nat} {M : WM} {X : Int × WM} {dom : Int} (h : X = M.D ⟨1, dom, -1, -1, -1, 0⟩ 0) (hk : 4 ≤ k) : wire_Machine_Rand.m k M.m dom = some (X.1, X.2.m) := by rw [Rand_w hk, h]
theorem Two_v {k : Nat} {M : WM} {X : Int × WM} {kd dom a b : Int} (h : X = M.D ⟨kd, dom, a, b, -1, 0⟩ 0) (hk : 4 ≤ k) : wire_Machine_Two.m k M.m kd dom a b = some (X.1, X.2.m) := by rw [Two_w hk, h]
theorem One_v {k : Nat} {M : WM} {X : Int × WM} {kd dom a c : Int} (h : X = M.D ⟨kd, dom, a, -1, -1, c⟩ 0) (hk : 4 ≤ k) (hc : IsW c) : wire_Machine_One.m k M.m kd dom a c = some (X.1, X.2.m) := by
  unfold wire_Machine_One.m; rw [Do_w hk M _ _ hc isW_zero, h]; rfl
theorem Const_v {k : Nat} {M : WM} {X : Int × WM} {dom c : Int} (h : X = M.D ⟨3, dom, -1, -1, -1, c⟩ 0) (hk : 4 ≤ k) (hc : IsW c) : wire_Machine_Const.m k M.m dom c = some (X.1, X.2.m) := by
  unfold wire_Machine_Const.m; rw [Do_w hk M _ _ hc isW_zero, h]; rfl
/-! Steps inside a bind; what a register holds, told of a later machine. -/
theorem bassoc {α β γ : Type} {A : Option α} {g : α → Option β} {f : β → Option γ} {r : Option γ} (h : A.bind (fun x => (g x).bind f) = r) : (A.bind g).bind f = r := by cases A <;> exact h
theorem biteP {α β : Type} {c : Prop} {inst : Decidable c} {x y : Option α} {f : α → Option β} {r : Option β} (h : c) (h2 : x.bind f = r) : Option.bind (if c then x else y) f = r := by rw [if_pos h]; exact h2
theorem bbifT {α β : Type} {c : Bool} {x y : Option α} {f : α → Option β} {r : Option β} (h : c = true) (h2 : x.bind f = r) : Option.bind (bif c then x else y) f = r := by rw [h]; exact h2
theorem bbifF {α β : Type} {c : Bool} {x y : Option α} {f : α → Option β} {r : Option β} (h : c = false) (h2 : y.bind f = r) : Option.bind (bif c then x else y) f = r := by rw [h]; exact h2
theorem bsome {α β : Type} {x : α} {f : α → Option β} {r : Option β} (h : f x = r) : (some x).bind f = r := h
theorem ltT {a b n : Int} (h : b = n) (h2 : decide (a < n) = true) : decide (a < b) = true := by rw [h]; exact h2
theorem ltF {a b n : Int} (h : b = n) (h2 : decide (a < n) = false) : decide (a < b) = false := by rw [h]; exact h2
theorem Do_v {k : Nat} {M : WM} {X : Int × WM} {o : Tapi_Op} {x : Int} (h : X = M.D o x) (hk : 4 ≤ k) (hc : IsW o.c) (hx : IsW x) : wire_Machine_Do.m k M.m o x = some (X.1, X.2.m) := by rw [Do_w hk M o x hc hx, h]
theorem D_vext {M : WM} {X : Int × WM} {o : Tapi_Op} {x : Int} (e : X = M.D o x) : Ext M X.2 := by rw [e]; exact D_ext ..
theorem B_vext {M B : WM} {kd : Int} (e : B = M.B kd) : Ext M B := by rw [e]; exact B_ext ..
theorem E_vext {M B : WM} (e : B = M.E) : Ext M B := by rw [e]; exact E_ext ..
theorem opRegs_reg {o : Tapi_Op} {len n : Int} (h : Rt o len n = true) (hl : 0 ≤ len) : o.a < len ∧ o.b < len ∧ o.d < len := by
  obtain ⟨h1, h2, h3⟩ := Rt_regs h hl
  omega
/-- a Do, seen from a later machine without an error -/
theorem D_at {M F : WM} {X : Int × WM} {o : Tapi_Op} {x : Int} (e : X = M.D o x) (g : Ext X.2 F) (hF : F.m.bad = 0) : ∃ z, (o.kind ≠ 1 → z = x) ∧ Val F X.1 (evalW o.kind (BitVec.ofInt 64 o.c) (BitVec.ofInt 64 (atI F.m.values o.a)) (BitVec.ofInt 64 (atI F.m.values o.b)) (BitVec.ofInt 64 (atI F.m.values o.d)) (BitVec.ofInt 64 z)) := by
  have hX := g.bad hF
  subst e
  obtain ⟨hR, z, hz, hv⟩ := D_val M o x hX
  refine ⟨z, hz, ?_⟩
  have hl := M.w.ok.vals
  obtain ⟨h1, h2, h3⟩ := opRegs_reg hR (by omega)
  obtain ⟨l, hle⟩ := ((D_ext M o x).trans g).vals
  rw [hle, atI_append (by omega), atI_append (by omega), atI_append (by omega)]
  exact hv.ext g
theorem F_rand {M F : WM} {X : Int × WM} {dom : Int} (e : X = M.D ⟨1, dom, -1, -1, -1, 0⟩ 0) (g : Ext X.2 F) (hF : F.m.bad = 0) : ∃ z, Val F X.1 z := by
  obtain ⟨z, _, hv⟩ := D_at e g hF
  exact ⟨_, hv⟩
theorem F_two {M F : WM} {X : Int × WM} {kd dom a b : Int} (e : X = M.D ⟨kd, dom, a, b, -1, 0⟩ 0) (g : Ext X.2 F) (hF : F.m.bad = 0) (hk : kd ≠ 1) {x y : BitVec 64} (ha : Val F a x) (hb : Val F b y) : Val F X.1 (evalW kd 0#64 x y 0#64 0#64) := by
  obtain ⟨z, hz, hv⟩ := D_at e g hF
  rw [hz hk] at hv
  dsimp only at hv
  rw [ha.at, hb.at, ofInt_u, ofInt_u, atI_neg (show (-1 : Int) < 0 by omega)] at hv
  exact hv
theorem F_xor {M F : WM} {X : Int × WM} {dom a b : Int} (e : X = M.D ⟨5, dom, a, b, -1, 0⟩ 0) (g : Ext X.2 F) (hF : F.m.bad = 0) {x y : BitVec 64} (ha : Val F a x) (hb : Val F b y) : Val F X.1 (x ^^^ y) := F_two e g hF (by decide) ha hb
theorem F_and {M F : WM} {X : Int × WM} {dom a b : Int} (e : X = M.D ⟨7, dom, a, b, -1, 0⟩ 0) (g : Ext X.2 F) (hF : F.m.bad = 0) {x y : BitVec 64} (ha : Val F a x) (hb : Val F b y) : Val F X.1 (x &&& y) := F_two e g hF (by decide) ha hb
theorem F_one {M F : WM} {X : Int × WM} {kd dom a c : Int} (e : X = M.D ⟨kd, dom, a, -1, -1, c⟩ 0) (g : Ext X.2 F) (hF : F.m.bad = 0) (hk : kd ≠ 1) {x : BitVec 64} (ha : Val F a x) : Val F X.1 (evalW kd (BitVec.ofInt 64 c) x 0#64 0#64 0#64) := by
  obtain ⟨z, hz, hv⟩ := D_at e g hF
  rw [hz hk] at hv
  dsimp only at hv
  rw [ha.at, ofInt_u, atI_neg (show (-1 : Int) < 0 by omega)] at hv
  exact hv
theorem F_not {M F : WM} {X : Int × WM} {dom a : Int} (e : X = M.D ⟨6, dom, a, -1, -1, 0⟩ 0) (g : Ext X.2 F) (hF : F.m.bad = 0) {x : BitVec 64} (ha : Val F a x) : Val F X.1 (~~~ x) := F_one e g hF (by decide) ha
theorem F_const {M F : WM} {X : Int × WM} {kd dom c : Int} (e : X = M.D ⟨kd, dom, -1, -1, -1, c⟩ 0) (g : Ext X.2 F) (hF : F.m.bad = 0) (hk : kd = 3 ∨ kd = 4) : Val F X.1 (BitVec.ofInt 64 c) := by
  obtain ⟨z, hz, hv⟩ := D_at e g hF
  rcases hk with rfl | rfl <;> exact hv
theorem F_key {M F : WM} {X : Int × WM} {dom a b c x : Int} (e : X = M.D ⟨2, dom, a, b, -1, c⟩ x) (g : Ext X.2 F) (hF : F.m.bad = 0) {y z : BitVec 64} (ha : Val F a y) (hb : Val F b z) : Val F X.1 (BitVec.ofInt 64 x ^^^ y ^^^ z) := by
  obtain ⟨w, hw, hv⟩ := D_at e g hF
  rw [hw (by decide : (2 : Int) ≠ 1)] at hv
  dsimp only at hv
  rw [ha.at, hb.at, ofInt_u, ofInt_u] at hv
  exact hv
theorem F_key1 {M F : WM} {X : Int × WM} {dom a c x : Int} (e : X = M.D ⟨2, dom, a, -1, -1, c⟩ x) (g : Ext X.2 F) (hF : F.m.bad = 0) {y : BitVec 64} (ha : Val F a y) : Val F X.1 (BitVec.ofInt 64 x ^^^ y ^^^ 0#64) := by
  obtain ⟨w, hw, hv⟩ := D_at e g hF
  rw [hw (by decide : (2 : Int) ≠ 1)] at hv
  dsimp only at hv
  rw [ha.at, atI_neg (show (-1 : Int) < 0 by omega), ofInt_u] at hv
  exact hv
/-! Words as shares: each call as a row of Do's (printed by wip/gen/gads.py). -/
def PubC (M : WM) (c : Int) (o0 o1 o2 : Int) (M' : WM) : Prop :=
  (∃ X0 : Int × WM, ∃ X1 : Int × WM, M.m.n = 2 ∧ X0 = M.D ⟨3, 0, -1, -1, -1, c⟩ 0 ∧ X1 = X0.2.D ⟨3, 1, -1, -1, -1, 0⟩ 0 ∧ o0 = X0.1 ∧ o1 = X1.1 ∧ o2 = -1 ∧ M' = X1.2) ∨
  (∃ X0 : Int × WM, ∃ X1 : Int × WM, ∃ X2 : Int × WM, M.m.n = 3 ∧ X0 = M.D ⟨3, 0, -1, -1, -1, c⟩ 0 ∧ X1 = X0.2.D ⟨3, 1, -1, -1, -1, 0⟩ 0 ∧ X2 = X1.2.D ⟨3, 2, -1, -1, -1, 0⟩ 0 ∧ o0 = X0.1 ∧ o1 = X1.1 ∧ o2 = X2.1 ∧ M' = X2.2)
theorem PubC.ex (M : WM) (c : Int) : ∃ o0 o1 o2 M', PubC M c o0 o1 o2 M' := by
  rcases M.w.ok.n with h | h
  · exact ⟨_, _, _, _, .inl ⟨_, _, h, rfl, rfl, rfl, rfl, rfl, rfl⟩⟩
  · exact ⟨_, _, _, _, .inr ⟨_, _, _, h, rfl, rfl, rfl, rfl, rfl, rfl, rfl⟩⟩
theorem PubC.ext {M M' : WM} {c : Int} {o0 o1 o2 : Int} (h : PubC M c o0 o1 o2 M') : Ext M M' := by
  rcases h with ⟨X0, X1, hn, eX0, eX1, rfl, rfl, rfl, rfl⟩ | ⟨X0, X1, X2, hn, eX0, eX1, eX2, rfl, rfl, rfl, rfl⟩
  · exact ((D_vext eX0).trans (D_vext eX1))
  · exact (((D_vext eX0).trans (D_vext eX1)).trans (D_vext eX2))
theorem PubC.c {M M' : WM} {c : Int} {o0 o1 o2 : Int} (h : PubC M c o0 o1 o2 M') (hn' : M'.m.n = 2) : o2 = -1 := by
  have hm := h.ext.n
  rcases h with ⟨X0, X1, hn, eX0, eX1, rfl, rfl, rfl, rfl⟩ | ⟨X0, X1, X2, hn, eX0, eX1, eX2, rfl, rfl, rfl, rfl⟩
  · rfl
  · omega
theorem PubC.p {k : Nat} (hk : 90 ≤ k) {M M' : WM} {c : Int} {o0 o1 o2 : Int} (h : PubC M c o0 o1 o2 M') (hw : IsW c) : share_Public.m k M.m c = some ([ci o0, ci o1, ci o2], M'.m) := by
  obtain ⟨k, rfl⟩ : ∃ j, k = j + 20 := ⟨k - 20, by omega⟩
  rcases h with ⟨X0, X1, hn, eX0, eX1, rfl, rfl, rfl, rfl⟩ | ⟨X0, X1, X2, hn, eX0, eX1, eX2, rfl, rfl, rfl, rfl⟩
  · skip
    have hm : M.m.n ≠ 3 := by omega
    have nX0 : X0.2.m.n = 2 := (D_vext eX0).n.trans hn
    have mX0 : X0.2.m.n ≠ 3 := by omega
    have nX1 : X1.2.m.n = 2 := (D_vext eX1).n.trans nX0
    have mX1 : X1.2.m.n ≠ 3 := by omega
    unfold share_Public.m
    unfold share_none.m
    repeat (first
      | with_reducible refine bstep (N_v (by assumption)) ?_
      | with_reducible refine bstep (Const_v (by assumption) (by omega) isW_zero) ?_
      | with_reducible refine bstep (Do_v (by assumption) (by omega) isW_zero isW_zero) ?_
      | with_reducible refine bstep (Const_v (by assumption) (by omega) hw) ?_
      | with_reducible refine bstep (Do_v (by assumption) (by omega) hw isW_zero) ?_
      | with_reducible refine bassoc ?_
      | with_reducible refine bsome ?_
      | ((with_reducible refine biteP ?_ ?_); · first | exact rfl | exact Nat.le_of_ble_eq_true rfl | decide)
      | ((with_reducible refine iteP ?_ ?_); · first | exact rfl | exact Nat.le_of_ble_eq_true rfl | decide)
      | ((with_reducible refine bbifT ?_ ?_); · first | decide | exact beqT (by assumption) | exact ltT (by assumption) (by decide) | exact bneT (by assumption))
      | ((with_reducible refine bbifF ?_ ?_); · first | decide | exact beqN (by assumption) | exact ltF (by assumption) (by decide) | exact bneN (by assumption))
      | ((with_reducible refine bifT ?_ ?_); · first | decide | exact beqT (by assumption) | exact ltT (by assumption) (by decide) | exact bneT (by assumption))
      | ((with_reducible refine bifF ?_ ?_); · first | decide | exact beqN (by assumption) | exact ltF (by assumption) (by decide) | exact bneN (by assumption))
      | rw [share_Public.l1]
      | rw [W01]
      | rw [W2]
      | rw [W3]
      | unfold share_Public.j1
      | ((with_reducible apply bstep); · exact rfl)
      | dsimp only)
    exact rfl
  · skip
    have hm : M.m.n ≠ 2 := by omega
    have nX0 : X0.2.m.n = 3 := (D_vext eX0).n.trans hn
    have mX0 : X0.2.m.n ≠ 2 := by omega
    have nX1 : X1.2.m.n = 3 := (D_vext eX1).n.trans nX0
    have mX1 : X1.2.m.n ≠ 2 := by omega
    have nX2 : X2.2.m.n = 3 := (D_vext eX2).n.trans nX1
    have mX2 : X2.2.m.n ≠ 2 := by omega
    unfold share_Public.m
    unfold share_none.m
    repeat (first
      | with_reducible refine bstep (N_v (by assumption)) ?_
      | with_reducible refine bstep (Const_v (by assumption) (by omega) isW_zero) ?_
      | with_reducible refine bstep (Do_v (by assumption) (by omega) isW_zero isW_zero) ?_
      | with_reducible refine bstep (Const_v (by assumption) (by omega) hw) ?_
      | with_reducible refine bstep (Do_v (by assumption) (by omega) hw isW_zero) ?_
      | with_reducible refine bassoc ?_
      | with_reducible refine bsome ?_
      | ((with_reducible refine biteP ?_ ?_); · first | exact rfl | exact Nat.le_of_ble_eq_true rfl | decide)
      | ((with_reducible refine iteP ?_ ?_); · first | exact rfl | exact Nat.le_of_ble_eq_true rfl | decide)
      | ((with_reducible refine bbifT ?_ ?_); · first | decide | exact beqT (by assumption) | exact ltT (by assumption) (by decide) | exact bneT (by assumption))
      | ((with_reducible refine bbifF ?_ ?_); · first | decide | exact beqN (by assumption) | exact ltF (by assumption) (by decide) | exact bneN (by assumption))
      | ((with_reducible refine bifT ?_ ?_); · first | decide | exact beqT (by assumption) | exact ltT (by assumption) (by decide) | exact bneT (by assumption))
      | ((with_reducible refine bifF ?_ ?_); · first | decide | exact beqN (by assumption) | exact ltF (by assumption) (by decide) | exact bneN (by assumption))
      | rw [share_Public.l1]
      | rw [W01]
      | rw [W2]
      | rw [W3]
      | unfold share_Public.j1
      | ((with_reducible apply bstep); · exact rfl)
      | dsimp only)
    exact rfl
theorem PubC.s {M M' F : WM} {c : Int} {o0 o1 o2 : Int} (h : PubC M c o0 o1 o2 M') (x : Ext M' F) (hF : F.m.bad = 0) : Stands F o0 o1 o2 (BitVec.ofInt 64 c) := by
  rcases h with ⟨X0, X1, hn, eX0, eX1, rfl, rfl, rfl, rfl⟩ | ⟨X0, X1, X2, hn, eX0, eX1, eX2, rfl, rfl, rfl, rfl⟩
  · have x2 := x
    have x1 := (D_vext eX1).trans x2
    have x0 := (D_vext eX0).trans x1
    have nF : F.m.n = 2 := x0.n.trans hn
    have vX0 := F_const eX0 x1 hF (by decide)
    have vX1 := F_const eX1 x2 hF (by decide)
    refine .inl ⟨nF, rfl, _, _, vX0, vX1, ?_⟩
    simp
  · have x3 := x
    have x2 := (D_vext eX2).trans x3
    have x1 := (D_vext eX1).trans x2
    have x0 := (D_vext eX0).trans x1
    have nF : F.m.n = 3 := x0.n.trans hn
    have vX0 := F_const eX0 x1 hF (by decide)
    have vX1 := F_const eX1 x2 hF (by decide)
    have vX2 := F_const eX2 x3 hF (by decide)
    refine .inr ⟨nF, _, _, _, vX0, vX1, vX2, ?_⟩
    simp
def TldC (M : WM) (c : Int) (o0 o1 o2 : Int) (M' : WM) : Prop :=
  (∃ X0 : Int × WM, ∃ X1 : Int × WM, M.m.n = 2 ∧ X0 = M.D ⟨4, 0, -1, -1, -1, c⟩ 0 ∧ X1 = X0.2.D ⟨3, 1, -1, -1, -1, 0⟩ 0 ∧ o0 = X0.1 ∧ o1 = X1.1 ∧ o2 = -1 ∧ M' = X1.2) ∨
  (∃ X0 : Int × WM, ∃ X1 : Int × WM, ∃ X2 : Int × WM, M.m.n = 3 ∧ X0 = M.D ⟨4, 0, -1, -1, -1, c⟩ 0 ∧ X1 = X0.2.D ⟨3, 1, -1, -1, -1, 0⟩ 0 ∧ X2 = X1.2.D ⟨3, 2, -1, -1, -1, 0⟩ 0 ∧ o0 = X0.1 ∧ o1 = X1.1 ∧ o2 = X2.1 ∧ M' = X2.2)
theorem TldC.ex (M : WM) (c : Int) : ∃ o0 o1 o2 M', TldC M c o0 o1 o2 M' := by
  rcases M.w.ok.n with h | h
  · exact ⟨_, _, _, _, .inl ⟨_, _, h, rfl, rfl, rfl, rfl, rfl, rfl⟩⟩
  · exact ⟨_, _, _, _, .inr ⟨_, _, _, h, rfl, rfl, rfl, rfl, rfl, rfl, rfl⟩⟩
theorem TldC.ext {M M' : WM} {c : Int} {o0 o1 o2 : Int} (h : TldC M c o0 o1 o2 M') : Ext M M' := by
  rcases h with ⟨X0, X1, hn, eX0, eX1, rfl, rfl, rfl, rfl⟩ | ⟨X0, X1, X2, hn, eX0, eX1, eX2, rfl, rfl, rfl, rfl⟩
  · exact ((D_vext eX0).trans (D_vext eX1))
  · exact (((D_vext eX0).trans (D_vext eX1)).trans (D_vext eX2))
theorem TldC.c {M M' : WM} {c : Int} {o0 o1 o2 : Int} (h : TldC M c o0 o1 o2 M') (hn' : M'.m.n = 2) : o2 = -1 := by
  have hm := h.ext.n
  rcases h with ⟨X0, X1, hn, eX0, eX1, rfl, rfl, rfl, rfl⟩ | ⟨X0, X1, X2, hn, eX0, eX1, eX2, rfl, rfl, rfl, rfl⟩
  · rfl
  · omega
theorem TldC.s {M M' F : WM} {c : Int} {o0 o1 o2 : Int} (h : TldC M c o0 o1 o2 M') (x : Ext M' F) (hF : F.m.bad = 0) : Stands F o0 o1 o2 (BitVec.ofInt 64 c) := by
  rcases h with ⟨X0, X1, hn, eX0, eX1, rfl, rfl, rfl, rfl⟩ | ⟨X0, X1, X2, hn, eX0, eX1, eX2, rfl, rfl, rfl, rfl⟩
  · have x2 := x
    have x1 := (D_vext eX1).trans x2
    have x0 := (D_vext eX0).trans x1
    have nF : F.m.n = 2 := x0.n.trans hn
    have vX0 := F_const eX0 x1 hF (by decide)
    have vX1 := F_const eX1 x2 hF (by decide)
    refine .inl ⟨nF, rfl, _, _, vX0, vX1, ?_⟩
    simp
  · have x3 := x
    have x2 := (D_vext eX2).trans x3
    have x1 := (D_vext eX1).trans x2
    have x0 := (D_vext eX0).trans x1
    have nF : F.m.n = 3 := x0.n.trans hn
    have vX0 := F_const eX0 x1 hF (by decide)
    have vX1 := F_const eX1 x2 hF (by decide)
    have vX2 := F_const eX2 x3 hF (by decide)
    refine .inr ⟨nF, _, _, _, vX0, vX1, vX2, ?_⟩
    simp
def XrC (M : WM) (a0 : Int) (b0 : Int) (c0 : Int) (a1 : Int) (b1 : Int) (c1 : Int) (o0 o1 o2 : Int) (M' : WM) : Prop :=
  (∃ X0 : Int × WM, ∃ X1 : Int × WM, M.m.n = 2 ∧ X0 = M.D ⟨5, 0, a0, a1, -1, 0⟩ 0 ∧ X1 = X0.2.D ⟨5, 1, b0, b1, -1, 0⟩ 0 ∧ o0 = X0.1 ∧ o1 = X1.1 ∧ o2 = -1 ∧ M' = X1.2) ∨
  (∃ X0 : Int × WM, ∃ X1 : Int × WM, ∃ X2 : Int × WM, M.m.n = 3 ∧ X0 = M.D ⟨5, 0, a0, a1, -1, 0⟩ 0 ∧ X1 = X0.2.D ⟨5, 1, b0, b1, -1, 0⟩ 0 ∧ X2 = X1.2.D ⟨5, 2, c0, c1, -1, 0⟩ 0 ∧ o0 = X0.1 ∧ o1 = X1.1 ∧ o2 = X2.1 ∧ M' = X2.2)
theorem XrC.ex (M : WM) (a0 : Int) (b0 : Int) (c0 : Int) (a1 : Int) (b1 : Int) (c1 : Int) : ∃ o0 o1 o2 M', XrC M a0 b0 c0 a1 b1 c1 o0 o1 o2 M' := by
  rcases M.w.ok.n with h | h
  · exact ⟨_, _, _, _, .inl ⟨_, _, h, rfl, rfl, rfl, rfl, rfl, rfl⟩⟩
  · exact ⟨_, _, _, _, .inr ⟨_, _, _, h, rfl, rfl, rfl, rfl, rfl, rfl, rfl⟩⟩
theorem XrC.ext {M M' : WM} {a0 : Int} {b0 : Int} {c0 : Int} {a1 : Int} {b1 : Int} {c1 : Int} {o0 o1 o2 : Int} (h : XrC M a0 b0 c0 a1 b1 c1 o0 o1 o2 M') : Ext M M' := by
  rcases h with ⟨X0, X1, hn, eX0, eX1, rfl, rfl, rfl, rfl⟩ | ⟨X0, X1, X2, hn, eX0, eX1, eX2, rfl, rfl, rfl, rfl⟩
  · exact ((D_vext eX0).trans (D_vext eX1))
  · exact (((D_vext eX0).trans (D_vext eX1)).trans (D_vext eX2))
theorem XrC.c {M M' : WM} {a0 : Int} {b0 : Int} {c0 : Int} {a1 : Int} {b1 : Int} {c1 : Int} {o0 o1 o2 : Int} (h : XrC M a0 b0 c0 a1 b1 c1 o0 o1 o2 M') (hn' : M'.m.n = 2) : o2 = -1 := by
  have hm := h.ext.n
  rcases h with ⟨X0, X1, hn, eX0, eX1, rfl, rfl, rfl, rfl⟩ | ⟨X0, X1, X2, hn, eX0, eX1, eX2, rfl, rfl, rfl, rfl⟩
  · rfl
  · omega
theorem XrC.s {M M' F : WM} {a0 : Int} {b0 : Int} {c0 : Int} {a1 : Int} {b1 : Int} {c1 : Int} {o0 o1 o2 : Int} (h : XrC M a0 b0 c0 a1 b1 c1 o0 o1 o2 M') (x : Ext M' F) (hF : F.m.bad = 0) {z0 z1 : BitVec 64} (s0 : Stands F a0 b0 c0 z0) (s1 : Stands F a1 b1 c1 z1) : Stands F o0 o1 o2 (z0 ^^^ z1) := by
  rcases h with ⟨X0, X1, hn, eX0, eX1, rfl, rfl, rfl, rfl⟩ | ⟨X0, X1, X2, hn, eX0, eX1, eX2, rfl, rfl, rfl, rfl⟩
  · have x2 := x
    have x1 := (D_vext eX1).trans x2
    have x0 := (D_vext eX0).trans x1
    have nF : F.m.n = 2 := x0.n.trans hn
    obtain ⟨_, hc0, p0, q0, vp0, vq0, rfl⟩ : F.m.n = 2 ∧ _ := by
      rcases s0 with h | h
      · exact h
      · exact absurd h.1 (by omega)
    obtain ⟨_, hc1, p1, q1, vp1, vq1, rfl⟩ : F.m.n = 2 ∧ _ := by
      rcases s1 with h | h
      · exact h
      · exact absurd h.1 (by omega)
    have vX0 := F_xor eX0 x1 hF vp0 vp1
    have vX1 := F_xor eX1 x2 hF vq0 vq1
    refine .inl ⟨nF, rfl, _, _, vX0, vX1, ?_⟩
    apply BitVec.eq_of_getLsbD_eq; intro i hi
    simp only [BitVec.getLsbD_xor]
    generalize BitVec.getLsbD p0 i = yp0
    generalize BitVec.getLsbD q0 i = yq0
    generalize BitVec.getLsbD p1 i = yp1
    generalize BitVec.getLsbD q1 i = yq1
    revert yp0 yq0 yp1 yq1
    decide
  · have x3 := x
    have x2 := (D_vext eX2).trans x3
    have x1 := (D_vext eX1).trans x2
    have x0 := (D_vext eX0).trans x1
    have nF : F.m.n = 3 := x0.n.trans hn
    obtain ⟨_, p0, q0, r0, vp0, vq0, vr0, rfl⟩ : F.m.n = 3 ∧ _ := by
      rcases s0 with h | h
      · exact absurd h.1 (by omega)
      · exact h
    obtain ⟨_, p1, q1, r1, vp1, vq1, vr1, rfl⟩ : F.m.n = 3 ∧ _ := by
      rcases s1 with h | h
      · exact absurd h.1 (by omega)
      · exact h
    have vX0 := F_xor eX0 x1 hF vp0 vp1
    have vX1 := F_xor eX1 x2 hF vq0 vq1
    have vX2 := F_xor eX2 x3 hF vr0 vr1
    refine .inr ⟨nF, _, _, _, vX0, vX1, vX2, ?_⟩
    apply BitVec.eq_of_getLsbD_eq; intro i hi
    simp only [BitVec.getLsbD_xor]
    generalize BitVec.getLsbD p0 i = yp0
    generalize BitVec.getLsbD q0 i = yq0
    generalize BitVec.getLsbD r0 i = yr0
    generalize BitVec.getLsbD p1 i = yp1
    generalize BitVec.getLsbD q1 i = yq1
    generalize BitVec.getLsbD r1 i = yr1
    revert yp0 yq0 yr0 yp1 yq1 yr1
    decide
def NtC (M : WM) (a : Int) (b : Int) (c : Int) (o0 o1 o2 : Int) (M' : WM) : Prop :=
  (∃ X0 : Int × WM, X0 = M.D ⟨6, 0, a, -1, -1, 0⟩ 0 ∧ o0 = X0.1 ∧ o1 = b ∧ o2 = c ∧ M' = X0.2)
theorem NtC.ex (M : WM) (a : Int) (b : Int) (c : Int) : ∃ o0 o1 o2 M', NtC M a b c o0 o1 o2 M' := by
  exact ⟨_, _, _, _, ⟨_, rfl, rfl, rfl, rfl, rfl⟩⟩
theorem NtC.ext {M M' : WM} {a : Int} {b : Int} {c : Int} {o0 o1 o2 : Int} (h : NtC M a b c o0 o1 o2 M') : Ext M M' := by
  rcases h with ⟨X0, eX0, rfl, rfl, rfl, rfl⟩
  · exact D_vext eX0
theorem NtC.p {k : Nat} (hk : 90 ≤ k) {M M' : WM} {a : Int} {b : Int} {c : Int} {o0 o1 o2 : Int} (h : NtC M a b c o0 o1 o2 M') : share_Not.m k M.m [ci a, ci b, ci c] = some ([ci o0, ci o1, ci o2], M'.m) := by
  rcases h with ⟨X0, eX0, rfl, rfl, rfl, rfl⟩
  · skip
    unfold share_Not.m
    repeat (first
      | with_reducible refine bstep (N_v (by assumption)) ?_
      | with_reducible refine bstep (One_v (by assumption) (by omega) isW_zero) ?_
      | ((with_reducible refine iteP ?_ ?_); · first | exact rfl | exact Nat.le_of_ble_eq_true rfl | decide)
      | ((with_reducible refine bifT ?_ ?_); · first | decide | exact beqT (by assumption) | exact ltT (by assumption) (by decide) | exact bneT (by assumption))
      | ((with_reducible refine bifF ?_ ?_); · first | decide | exact beqN (by assumption) | exact ltF (by assumption) (by decide) | exact bneN (by assumption))
      | ((with_reducible apply bstep); · exact rfl)
      | dsimp only)
    exact rfl
theorem NtC.s {M M' F : WM} {a : Int} {b : Int} {c : Int} {o0 o1 o2 : Int} (h : NtC M a b c o0 o1 o2 M') (x : Ext M' F) (hF : F.m.bad = 0) {z : BitVec 64} (s0 : Stands F a b c z) : Stands F o0 o1 o2 (~~~ z) := by
  obtain ⟨X0, eX0, rfl, rfl, rfl, rfl⟩ := h
  rcases s0 with ⟨n, hc, p, q, v0, v1, rfl⟩ | ⟨n, p, q, r, v0, v1, v2, rfl⟩
  · refine .inl ⟨n, hc, _, _, F_not eX0 x hF v0, v1, ?_⟩
    apply BitVec.eq_of_getLsbD_eq; intro i hi
    simp only [BitVec.getLsbD_xor, BitVec.getLsbD_not, hi, decide_true, Bool.true_and]
    generalize BitVec.getLsbD p i = yp
    generalize BitVec.getLsbD q i = yq
    revert yp yq
    decide
  · refine .inr ⟨n, _, _, _, F_not eX0 x hF v0, v1, v2, ?_⟩
    apply BitVec.eq_of_getLsbD_eq; intro i hi
    simp only [BitVec.getLsbD_xor, BitVec.getLsbD_not, hi, decide_true, Bool.true_and]
    generalize BitVec.getLsbD p i = yp
    generalize BitVec.getLsbD q i = yq
    generalize BitVec.getLsbD r i = yr
    revert yp yq yr
    decide
def AdC (M : WM) (kd : Int) (a : Int) (b : Int) (c : Int) (w : Int) (o0 o1 o2 : Int) (M' : WM) : Prop :=
  (∃ X0 : Int × WM, ∃ X1 : Int × WM, X0 = M.D ⟨kd, 0, -1, -1, -1, w⟩ 0 ∧ X1 = X0.2.D ⟨5, 0, a, X0.1, -1, 0⟩ 0 ∧ o0 = X1.1 ∧ o1 = b ∧ o2 = c ∧ M' = X1.2)
theorem AdC.ex (M : WM) (kd : Int) (a : Int) (b : Int) (c : Int) (w : Int) : ∃ o0 o1 o2 M', AdC M kd a b c w o0 o1 o2 M' := by
  exact ⟨_, _, _, _, ⟨_, _, rfl, rfl, rfl, rfl, rfl, rfl⟩⟩
theorem AdC.ext {M M' : WM} {kd : Int} {a : Int} {b : Int} {c : Int} {w : Int} {o0 o1 o2 : Int} (h : AdC M kd a b c w o0 o1 o2 M') : Ext M M' := by
  rcases h with ⟨X0, X1, eX0, eX1, rfl, rfl, rfl, rfl⟩
  · exact ((D_vext eX0).trans (D_vext eX1))
theorem AdC.s {M M' F : WM} {kd a b c w : Int} {o0 o1 o2 : Int} (h : AdC M kd a b c w o0 o1 o2 M') (x : Ext M' F) (hF : F.m.bad = 0) (hk : kd = 3 ∨ kd = 4) {z : BitVec 64} (s0 : Stands F a b c z) : Stands F o0 o1 o2 (z ^^^ BitVec.ofInt 64 w) := by
  obtain ⟨X0, X1, eX0, eX1, rfl, rfl, rfl, rfl⟩ := h
  have vc := F_const eX0 ((D_vext eX1).trans x) hF hk
  generalize BitVec.ofInt 64 w = d at *
  rcases s0 with ⟨n, hc, p, q, v0, v1, rfl⟩ | ⟨n, p, q, r, v0, v1, v2, rfl⟩
  · refine .inl ⟨n, hc, _, _, F_xor eX1 x hF v0 vc, v1, ?_⟩
    apply BitVec.eq_of_getLsbD_eq; intro i hi
    simp only [BitVec.getLsbD_xor]
    generalize BitVec.getLsbD p i = yp
    generalize BitVec.getLsbD q i = yq
    generalize BitVec.getLsbD d i = yd
    revert yp yq yd
    decide
  · refine .inr ⟨n, _, _, _, F_xor eX1 x hF v0 vc, v1, v2, ?_⟩
    apply BitVec.eq_of_getLsbD_eq; intro i hi
    simp only [BitVec.getLsbD_xor]
    generalize BitVec.getLsbD p i = yp
    generalize BitVec.getLsbD q i = yq
    generalize BitVec.getLsbD r i = yr
    generalize BitVec.getLsbD d i = yd
    revert yp yq yr yd
    decide
def OnC (M : WM) (kd : Int) (a : Int) (b : Int) (c : Int) (w : Int) (o0 o1 o2 : Int) (M' : WM) : Prop :=
  (∃ X0 : Int × WM, ∃ X1 : Int × WM, M.m.n = 2 ∧ X0 = M.D ⟨kd, 0, a, -1, -1, w⟩ 0 ∧ X1 = X0.2.D ⟨kd, 1, b, -1, -1, w⟩ 0 ∧ o0 = X0.1 ∧ o1 = X1.1 ∧ o2 = -1 ∧ M' = X1.2) ∨
  (∃ X0 : Int × WM, ∃ X1 : Int × WM, ∃ X2 : Int × WM, M.m.n = 3 ∧ X0 = M.D ⟨kd, 0, a, -1, -1, w⟩ 0 ∧ X1 = X0.2.D ⟨kd, 1, b, -1, -1, w⟩ 0 ∧ X2 = X1.2.D ⟨kd, 2, c, -1, -1, w⟩ 0 ∧ o0 = X0.1 ∧ o1 = X1.1 ∧ o2 = X2.1 ∧ M' = X2.2)
theorem OnC.ex (M : WM) (kd : Int) (a : Int) (b : Int) (c : Int) (w : Int) : ∃ o0 o1 o2 M', OnC M kd a b c w o0 o1 o2 M' := by
  rcases M.w.ok.n with h | h
  · exact ⟨_, _, _, _, .inl ⟨_, _, h, rfl, rfl, rfl, rfl, rfl, rfl⟩⟩
  · exact ⟨_, _, _, _, .inr ⟨_, _, _, h, rfl, rfl, rfl, rfl, rfl, rfl, rfl⟩⟩
theorem OnC.ext {M M' : WM} {kd : Int} {a : Int} {b : Int} {c : Int} {w : Int} {o0 o1 o2 : Int} (h : OnC M kd a b c w o0 o1 o2 M') : Ext M M' := by
  rcases h with ⟨X0, X1, hn, eX0, eX1, rfl, rfl, rfl, rfl⟩ | ⟨X0, X1, X2, hn, eX0, eX1, eX2, rfl, rfl, rfl, rfl⟩
  · exact ((D_vext eX0).trans (D_vext eX1))
  · exact (((D_vext eX0).trans (D_vext eX1)).trans (D_vext eX2))
theorem OnC.c {M M' : WM} {kd : Int} {a : Int} {b : Int} {c : Int} {w : Int} {o0 o1 o2 : Int} (h : OnC M kd a b c w o0 o1 o2 M') (hn' : M'.m.n = 2) : o2 = -1 := by
  have hm := h.ext.n
  rcases h with ⟨X0, X1, hn, eX0, eX1, rfl, rfl, rfl, rfl⟩ | ⟨X0, X1, X2, hn, eX0, eX1, eX2, rfl, rfl, rfl, rfl⟩
  · rfl
  · omega
theorem OnC.p {k : Nat} (hk : 90 ≤ k) {M M' : WM} {kd : Int} {a : Int} {b : Int} {c : Int} {w : Int} {o0 o1 o2 : Int} (h : OnC M kd a b c w o0 o1 o2 M') (hw : IsW w) : share_One.m k M.m kd [ci a, ci b, ci c] w = some ([ci o0, ci o1, ci o2], M'.m) := by
  obtain ⟨k, rfl⟩ : ∃ j, k = j + 20 := ⟨k - 20, by omega⟩
  rcases h with ⟨X0, X1, hn, eX0, eX1, rfl, rfl, rfl, rfl⟩ | ⟨X0, X1, X2, hn, eX0, eX1, eX2, rfl, rfl, rfl, rfl⟩
  · skip
    have hm : M.m.n ≠ 3 := by omega
    have nX0 : X0.2.m.n = 2 := (D_vext eX0).n.trans hn
    have mX0 : X0.2.m.n ≠ 3 := by omega
    have nX1 : X1.2.m.n = 2 := (D_vext eX1).n.trans nX0
    have mX1 : X1.2.m.n ≠ 3 := by omega
    unfold share_One.m
    unfold share_none.m
    repeat (first
      | with_reducible refine bstep (N_v (by assumption)) ?_
      | with_reducible refine bstep (One_v (by assumption) (by omega) isW_zero) ?_
      | with_reducible refine bstep (Do_v (by assumption) (by omega) isW_zero isW_zero) ?_
      | with_reducible refine bstep (One_v (by assumption) (by omega) hw) ?_
      | with_reducible refine bstep (Do_v (by assumption) (by omega) hw isW_zero) ?_
      | with_reducible refine bassoc ?_
      | with_reducible refine bsome ?_
      | ((with_reducible refine biteP ?_ ?_); · first | exact rfl | exact Nat.le_of_ble_eq_true rfl | decide)
      | ((with_reducible refine iteP ?_ ?_); · first | exact rfl | exact Nat.le_of_ble_eq_true rfl | decide)
      | ((with_reducible refine bbifT ?_ ?_); · first | decide | exact beqT (by assumption) | exact ltT (by assumption) (by decide) | exact bneT (by assumption))
      | ((with_reducible refine bbifF ?_ ?_); · first | decide | exact beqN (by assumption) | exact ltF (by assumption) (by decide) | exact bneN (by assumption))
      | ((with_reducible refine bifT ?_ ?_); · first | decide | exact beqT (by assumption) | exact ltT (by assumption) (by decide) | exact bneT (by assumption))
      | ((with_reducible refine bifF ?_ ?_); · first | decide | exact beqN (by assumption) | exact ltF (by assumption) (by decide) | exact bneN (by assumption))
      | rw [share_One.l1]
      | rw [W01]
      | rw [W2]
      | rw [W3]
      | ((with_reducible apply bstep); · exact rfl)
      | dsimp only)
    exact rfl
  · skip
    have hm : M.m.n ≠ 2 := by omega
    have nX0 : X0.2.m.n = 3 := (D_vext eX0).n.trans hn
    have mX0 : X0.2.m.n ≠ 2 := by omega
    have nX1 : X1.2.m.n = 3 := (D_vext eX1).n.trans nX0
    have mX1 : X1.2.m.n ≠ 2 := by omega
    have nX2 : X2.2.m.n = 3 := (D_vext eX2).n.trans nX1
    have mX2 : X2.2.m.n ≠ 2 := by omega
    unfold share_One.m
    unfold share_none.m
    repeat (first
      | with_reducible refine bstep (N_v (by assumption)) ?_
      | with_reducible refine bstep (One_v (by assumption) (by omega) isW_zero) ?_
      | with_reducible refine bstep (Do_v (by assumption) (by omega) isW_zero isW_zero) ?_
      | with_reducible refine bstep (One_v (by assumption) (by omega) hw) ?_
      | with_reducible refine bstep (Do_v (by assumption) (by omega) hw isW_zero) ?_
      | with_reducible refine bassoc ?_
      | with_reducible refine bsome ?_
      | ((with_reducible refine biteP ?_ ?_); · first | exact rfl | exact Nat.le_of_ble_eq_true rfl | decide)
      | ((with_reducible refine iteP ?_ ?_); · first | exact rfl | exact Nat.le_of_ble_eq_true rfl | decide)
      | ((with_reducible refine bbifT ?_ ?_); · first | decide | exact beqT (by assumption) | exact ltT (by assumption) (by decide) | exact bneT (by assumption))
      | ((with_reducible refine bbifF ?_ ?_); · first | decide | exact beqN (by assumption) | exact ltF (by assumption) (by decide) | exact bneN (by assumption))
      | ((with_reducible refine bifT ?_ ?_); · first | decide | exact beqT (by assumption) | exact ltT (by assumption) (by decide) | exact bneT (by assumption))
      | ((with_reducible refine bifF ?_ ?_); · first | decide | exact beqN (by assumption) | exact ltF (by assumption) (by decide) | exact bneN (by assumption))
      | rw [share_One.l1]
      | rw [W01]
      | rw [W2]
      | rw [W3]
      | ((with_reducible apply bstep); · exact rfl)
      | dsimp only)
    exact rfl
theorem OnC.s {M M' F : WM} {kd : Int} {a : Int} {b : Int} {c : Int} {w : Int} {o0 o1 o2 : Int} (h : OnC M kd a b c w o0 o1 o2 M') (x : Ext M' F) (hF : F.m.bad = 0) (hkd : kd ≠ 1) {z : BitVec 64} (s0 : Stands F a b c z) {f : BitVec 64 → BitVec 64} (hf : ∀ y, evalW kd (BitVec.ofInt 64 w) y 0#64 0#64 0#64 = f y) (hx : ∀ y y', f (y ^^^ y') = f y ^^^ f y') : Stands F o0 o1 o2 (f z) := by
  rcases h with ⟨X0, X1, hn, eX0, eX1, rfl, rfl, rfl, rfl⟩ | ⟨X0, X1, X2, hn, eX0, eX1, eX2, rfl, rfl, rfl, rfl⟩
  · have x2 := x
    have x1 := (D_vext eX1).trans x2
    have x0 := (D_vext eX0).trans x1
    have nF : F.m.n = 2 := x0.n.trans hn
    obtain ⟨_, hc0, p0, q0, vp0, vq0, rfl⟩ : F.m.n = 2 ∧ _ := by
      rcases s0 with h | h
      · exact h
      · exact absurd h.1 (by omega)
    have vX0 := F_one eX0 x1 hF hkd vp0
    have vX1 := F_one eX1 x2 hF hkd vq0
    refine .inl ⟨nF, rfl, _, _, vX0, vX1, ?_⟩
    simp only [hf, hx]
  · have x3 := x
    have x2 := (D_vext eX2).trans x3
    have x1 := (D_vext eX1).trans x2
    have x0 := (D_vext eX0).trans x1
    have nF : F.m.n = 3 := x0.n.trans hn
    obtain ⟨_, p0, q0, r0, vp0, vq0, vr0, rfl⟩ : F.m.n = 3 ∧ _ := by
      rcases s0 with h | h
      · exact absurd h.1 (by omega)
      · exact h
    have vX0 := F_one eX0 x1 hF hkd vp0
    have vX1 := F_one eX1 x2 hF hkd vq0
    have vX2 := F_one eX2 x3 hF hkd vr0
    refine .inr ⟨nF, _, _, _, vX0, vX1, vX2, ?_⟩
    simp only [hf, hx]
def EnC (M : WM) (w : Int) (o0 o1 o2 : Int) (M' : WM) : Prop :=
  (∃ B : WM, ∃ R1 : Int × WM, ∃ K : Int × WM, ∃ E : WM, M.m.n = 2 ∧ B = M.B 1 ∧ R1 = B.D ⟨1, 1, -1, -1, -1, 0⟩ 0 ∧ K = R1.2.D ⟨2, 0, R1.1, -1, -1, R1.2.m.words⟩ w ∧ E = K.2.E ∧ o0 = K.1 ∧ o1 = R1.1 ∧ o2 = -1 ∧ M' = E) ∨
  (∃ B : WM, ∃ R1 : Int × WM, ∃ R2 : Int × WM, ∃ K : Int × WM, ∃ E : WM, M.m.n = 3 ∧ B = M.B 1 ∧ R1 = B.D ⟨1, 1, -1, -1, -1, 0⟩ 0 ∧ R2 = R1.2.D ⟨1, 2, -1, -1, -1, 0⟩ 0 ∧ K = R2.2.D ⟨2, 0, R1.1, R2.1, -1, R2.2.m.words⟩ w ∧ E = K.2.E ∧ o0 = K.1 ∧ o1 = R1.1 ∧ o2 = R2.1 ∧ M' = E)
theorem EnC.ex (M : WM) (w : Int) : ∃ o0 o1 o2 M', EnC M w o0 o1 o2 M' := by
  rcases M.w.ok.n with h | h
  · exact ⟨_, _, _, _, .inl ⟨_, _, _, _, h, rfl, rfl, rfl, rfl, rfl, rfl, rfl, rfl⟩⟩
  · exact ⟨_, _, _, _, .inr ⟨_, _, _, _, _, h, rfl, rfl, rfl, rfl, rfl, rfl, rfl, rfl, rfl⟩⟩
theorem EnC.ext {M M' : WM} {w : Int} {o0 o1 o2 : Int} (h : EnC M w o0 o1 o2 M') : Ext M M' := by
  rcases h with ⟨B, R1, K, E, hn, eB, eR1, eK, eE, rfl, rfl, rfl, rfl⟩ | ⟨B, R1, R2, K, E, hn, eB, eR1, eR2, eK, eE, rfl, rfl, rfl, rfl⟩
  · exact ((((B_vext eB).trans (D_vext eR1)).trans (D_vext eK)).trans (E_vext eE))
  · exact (((((B_vext eB).trans (D_vext eR1)).trans (D_vext eR2)).trans (D_vext eK)).trans (E_vext eE))
theorem EnC.c {M M' : WM} {w : Int} {o0 o1 o2 : Int} (h : EnC M w o0 o1 o2 M') (hn' : M'.m.n = 2) : o2 = -1 := by
  have hm := h.ext.n
  rcases h with ⟨B, R1, K, E, hn, eB, eR1, eK, eE, rfl, rfl, rfl, rfl⟩ | ⟨B, R1, R2, K, E, hn, eB, eR1, eR2, eK, eE, rfl, rfl, rfl, rfl⟩
  · rfl
  · omega
theorem EnC.s {M M' F : WM} {w : Int} {o0 o1 o2 : Int} (h : EnC M w o0 o1 o2 M') (x : Ext M' F) (hF : F.m.bad = 0) : Stands F o0 o1 o2 (BitVec.ofInt 64 w) := by
  rcases h with ⟨B, R1, K, E, hn, eB, eR1, eK, eE, rfl, rfl, rfl, rfl⟩ | ⟨B, R1, R2, K, E, hn, eB, eR1, eR2, eK, eE, rfl, rfl, rfl, rfl⟩
  · have x4 := x
    have x3 := (E_vext eE).trans x4
    have x2 := (D_vext eK).trans x3
    have x1 := (D_vext eR1).trans x2
    have x0 := (B_vext eB).trans x1
    have nF : F.m.n = 2 := x0.n.trans hn
    obtain ⟨zR1, vR1⟩ := F_rand eR1 x2 hF
    have vK := F_key1 eK x3 hF vR1
    refine .inl ⟨nF, rfl, _, _, vK, vR1, ?_⟩
    generalize BitVec.ofInt 64 w = d at *
    apply BitVec.eq_of_getLsbD_eq; intro i hi
    simp only [BitVec.getLsbD_xor, BitVec.getLsbD_zero]
    generalize BitVec.getLsbD zR1 i = yzR1
    generalize BitVec.getLsbD d i = yd
    revert yzR1 yd
    decide
  · have x5 := x
    have x4 := (E_vext eE).trans x5
    have x3 := (D_vext eK).trans x4
    have x2 := (D_vext eR2).trans x3
    have x1 := (D_vext eR1).trans x2
    have x0 := (B_vext eB).trans x1
    have nF : F.m.n = 3 := x0.n.trans hn
    obtain ⟨zR1, vR1⟩ := F_rand eR1 x2 hF
    obtain ⟨zR2, vR2⟩ := F_rand eR2 x3 hF
    have vK := F_key eK x4 hF vR1 vR2
    refine .inr ⟨nF, _, _, _, vK, vR1, vR2, ?_⟩
    generalize BitVec.ofInt 64 w = d at *
    apply BitVec.eq_of_getLsbD_eq; intro i hi
    simp only [BitVec.getLsbD_xor]
    generalize BitVec.getLsbD zR1 i = yzR1
    generalize BitVec.getLsbD zR2 i = yzR2
    generalize BitVec.getLsbD d i = yd
    revert yzR1 yzR2 yd
    decide
/-! A pair of machines that begins, and that both are alike. -/
def startM (n most : Int) (ms : List Int) : Twire_Machine := ⟨n, most, 0, 0, 0, false, 0, 0, 0, ⟨ms, ⟨0⟩, (ms.length : Int)⟩, [], [], []⟩
theorem start_ok {n most : Int} {ms : List Int} (hn : n = 2 ∨ n = 3) (hm : most ≤ 1048576) (hw : ∀ x ∈ ms, IsW x) (hl : ms.length * 8 ≤ 140737488351232) : WMok (startM n most ms) := by
  refine ⟨⟨hn, hm, ⟨Int.le_refl 0, by show (0 : Int) ≤ 4611686018427387904; omega⟩, ⟨Int.le_refl 0, Int.le_refl 0⟩, ⟨Int.le_refl 0, Int.le_refl 0⟩, Nat.zero_le _, rfl, ⟨Int.le_refl 0, by show (0 : Int) ≤ 3; omega⟩, fun x h => (by cases h), hw, ⟨Int.le_refl 0, by show (0 : Int) ≤ (ms.length : Int); omega⟩, Int.le_refl _, by show (ms.length : Int) ≤ 4611686018427387904; omega, fun _ => rfl, fun h => (by cases h)⟩, rfl, trivial, .inr rfl, ⟨Int.le_refl 0, by show (0 : Int) ≤ 3; omega⟩⟩
theorem Begins_m (k : Nat) {n most : Int} {ms : List Int} (hn : n = 2 ∨ n = 3) (h0 : 0 ≤ most) (hm : most ≤ 1048576) (hl : ms.length * 8 ≤ 140737488351232) :
    visorlaw20_Begins.m k n ms most = some (Sum.inr (startM n most ms, absM (startM n most ms), [], [], true)) := by
  have e1 : tape_New.m k ms = some ⟨ms, ⟨0⟩, 0⟩ := by
    unfold tape_New.m slices_Clone_uint64_uint64.m
    rw [if_pos (by simp only [List.length_nil]; omega)]; rfl
  have e2 : tape_Tape_Reserve.m k ⟨ms, ⟨0⟩, 0⟩ (ms.length : Int) = some (0, ⟨ms, ⟨0⟩, (ms.length : Int)⟩) := by
    unfold tape_Tape_Reserve.m tape_Tape_Left.m tape_Tape_Used.m
    rw [decide_eq_false (by omega), cond_false, Option.bind_some]
    dsimp only
    rw [wrapI (by omega) (by omega), Option.bind_some, decide_eq_false (by omega), cond_false]
  have e3 : ((((n != 2) && (n != 3)) || (decide (most < 0))) || (decide (most > 1048576))) = false := by
    rw [decide_eq_false (by omega), decide_eq_false (by omega)]
    rcases hn with rfl | rfl <;> rfl
  unfold visorlaw20_Begins.m wire_New.m visorref19_New.m
  rw [e1, Option.bind_some, e2, Option.bind_some]
  dsimp only
  rw [e3, cond_false]
  rfl
def start (n most : Int) (ms : List Int) (hn : n = 2 ∨ n = 3) (hm : most ≤ 1048576) (hw : ∀ x ∈ ms, IsW x) (hl : ms.length * 8 ≤ 140737488351232) : WM := ⟨startM n most ms, start_ok hn hm hw hl⟩
theorem Values_w (k : Nat) (M : WM) : wire_Machine_Values.m k M.m = some M.m.values := by
  have := M.w.ok.vals; have := M.w.ok.ops
  unfold wire_Machine_Values.m slices_Clone_uint64_uint64.m
  rw [if_pos (by simp only [List.length_nil]; omega)]; rfl
theorem Value_w {k : Nat} (hk : 4 ≤ k) {M : WM} {a b c : Int} {x : BitVec 64} (h : Stands M a b c x) : share_Value.m k M.m.values [ci a, ci b, ci c] = some (u x) := by
  obtain ⟨k, rfl⟩ : ∃ j, k = j + 4 := ⟨k - 4, by omega⟩
  rw [← h.val3]; exact Value_m _ _ _ _ _
/-! What a word is made into, fully and simply fresh. -/
theorem masks1_v {k : Nat} {M : WM} {R : Int × WM} (hk : 10 ≤ k) (h : R = M.D ⟨1, -1, -1, -1, -1, 0⟩ 0) : fresh_masks.m k M.m 1 = some ([ci R.1, ci 0, ci 0], R.2.m) := by
  obtain ⟨k, rfl⟩ : ∃ j, k = j + 4 := ⟨k - 4, by omega⟩
  unfold fresh_masks.m
  rw [fresh_masks.l1, show decide ((0 : Int) < 1) = true from rfl, cond_true, Rand_v h (by omega), Option.bind_some, if_pos (by decide), if_pos (by decide), W01, fresh_masks.l1, show decide ((1 : Int) < 1) = false from rfl, cond_false]
  rfl
theorem masks3_v {k : Nat} {M : WM} {R S T : Int × WM} (hk : 10 ≤ k) (h : R = M.D ⟨1, -1, -1, -1, -1, 0⟩ 0) (h2 : S = R.2.D ⟨1, -1, -1, -1, -1, 0⟩ 0) (h3 : T = S.2.D ⟨1, -1, -1, -1, -1, 0⟩ 0) : fresh_masks.m k M.m 3 = some ([ci R.1, ci S.1, ci T.1], T.2.m) := by
  obtain ⟨k, rfl⟩ : ∃ j, k = j + 4 := ⟨k - 4, by omega⟩
  unfold fresh_masks.m
  rw [fresh_masks.l1, show decide ((0 : Int) < 3) = true from rfl, cond_true, Rand_v h (by omega), Option.bind_some, if_pos (by decide), if_pos (by decide), W01, fresh_masks.l1, show decide ((1 : Int) < 3) = true from rfl, cond_true, Rand_v h2 (by omega), Option.bind_some, if_pos (by decide), if_pos (by show 1 < 3; omega), W2, fresh_masks.l1, show decide ((2 : Int) < 3) = true from rfl, cond_true, Rand_v h3 (by omega), Option.bind_some, if_pos (by decide), if_pos (by show 2 < 3; omega), W3, fresh_masks.l1, show decide ((3 : Int) < 3) = false from rfl, cond_false]
  rfl
/-! Fresh words, each call as a row of Do's (printed by wip/gen/gads.py). -/
def FuC (M : WM) (a : Int) (b : Int) (c : Int) (o0 o1 o2 : Int) (M' : WM) : Prop :=
  (∃ B : WM, ∃ R : Int × WM, ∃ X0 : Int × WM, ∃ X1 : Int × WM, ∃ E : WM, M.m.n = 2 ∧ c = -1 ∧ B = M.B 2 ∧ R = B.D ⟨1, -1, -1, -1, -1, 0⟩ 0 ∧ X0 = R.2.D ⟨5, 0, a, R.1, -1, 0⟩ 0 ∧ X1 = X0.2.D ⟨5, 1, b, R.1, -1, 0⟩ 0 ∧ E = X1.2.E ∧ o0 = X0.1 ∧ o1 = X1.1 ∧ o2 = -1 ∧ M' = E) ∨
  (∃ B : WM, ∃ R : Int × WM, ∃ S : Int × WM, ∃ T : Int × WM, ∃ X0 : Int × WM, ∃ X1 : Int × WM, ∃ X2 : Int × WM, ∃ X3 : Int × WM, ∃ X4 : Int × WM, ∃ X5 : Int × WM, ∃ E : WM, M.m.n = 3 ∧ B = M.B 2 ∧ R = B.D ⟨1, -1, -1, -1, -1, 0⟩ 0 ∧ S = R.2.D ⟨1, -1, -1, -1, -1, 0⟩ 0 ∧ T = S.2.D ⟨1, -1, -1, -1, -1, 0⟩ 0 ∧ X0 = T.2.D ⟨5, 0, a, R.1, -1, 0⟩ 0 ∧ X1 = X0.2.D ⟨5, 0, X0.1, S.1, -1, 0⟩ 0 ∧ X2 = X1.2.D ⟨5, 1, b, R.1, -1, 0⟩ 0 ∧ X3 = X2.2.D ⟨5, 1, X2.1, T.1, -1, 0⟩ 0 ∧ X4 = X3.2.D ⟨5, 2, c, S.1, -1, 0⟩ 0 ∧ X5 = X4.2.D ⟨5, 2, X4.1, T.1, -1, 0⟩ 0 ∧ E = X5.2.E ∧ o0 = X1.1 ∧ o1 = X3.1 ∧ o2 = X5.1 ∧ M' = E)
theorem FuC.ex (M : WM) (a : Int) (b : Int) (c : Int) (hc : M.m.n = 2 → c = -1) : ∃ o0 o1 o2 M', FuC M a b c o0 o1 o2 M' := by
  rcases M.w.ok.n with h | h
  · exact ⟨_, _, _, _, .inl ⟨_, _, _, _, _, h, (hc h), rfl, rfl, rfl, rfl, rfl, rfl, rfl, rfl, rfl⟩⟩
  · exact ⟨_, _, _, _, .inr ⟨_, _, _, _, _, _, _, _, _, _, _, h, rfl, rfl, rfl, rfl, rfl, rfl, rfl, rfl, rfl, rfl, rfl, rfl, rfl, rfl, rfl⟩⟩
theorem FuC.ext {M M' : WM} {a : Int} {b : Int} {c : Int} {o0 o1 o2 : Int} (h : FuC M a b c o0 o1 o2 M') : Ext M M' := by
  rcases h with ⟨B, R, X0, X1, E, hn, hp0, eB, eR, eX0, eX1, eE, rfl, rfl, rfl, rfl⟩ | ⟨B, R, S, T, X0, X1, X2, X3, X4, X5, E, hn, eB, eR, eS, eT, eX0, eX1, eX2, eX3, eX4, eX5, eE, rfl, rfl, rfl, rfl⟩
  · exact (((((B_vext eB).trans (D_vext eR)).trans (D_vext eX0)).trans (D_vext eX1)).trans (E_vext eE))
  · exact (((((((((((B_vext eB).trans (D_vext eR)).trans (D_vext eS)).trans (D_vext eT)).trans (D_vext eX0)).trans (D_vext eX1)).trans (D_vext eX2)).trans (D_vext eX3)).trans (D_vext eX4)).trans (D_vext eX5)).trans (E_vext eE))
theorem FuC.c {M M' : WM} {a : Int} {b : Int} {c : Int} {o0 o1 o2 : Int} (h : FuC M a b c o0 o1 o2 M') (hn' : M'.m.n = 2) : o2 = -1 := by
  have hm := h.ext.n
  rcases h with ⟨B, R, X0, X1, E, hn, hp0, eB, eR, eX0, eX1, eE, rfl, rfl, rfl, rfl⟩ | ⟨B, R, S, T, X0, X1, X2, X3, X4, X5, E, hn, eB, eR, eS, eT, eX0, eX1, eX2, eX3, eX4, eX5, eE, rfl, rfl, rfl, rfl⟩
  · rfl
  · omega
theorem FuC.p {k : Nat} (hk : 90 ≤ k) {M M' : WM} {a : Int} {b : Int} {c : Int} {o0 o1 o2 : Int} (h : FuC M a b c o0 o1 o2 M') : fresh_Full.m k M.m [ci a, ci b, ci c] = some ([ci o0, ci o1, ci o2], M'.m) := by
  rcases h with ⟨B, R, X0, X1, E, hn, rfl, eB, eR, eX0, eX1, eE, rfl, rfl, rfl, rfl⟩ | ⟨B, R, S, T, X0, X1, X2, X3, X4, X5, E, hn, eB, eR, eS, eT, eX0, eX1, eX2, eX3, eX4, eX5, eE, rfl, rfl, rfl, rfl⟩
  · skip
    have hm : M.m.n ≠ 3 := by omega
    have nB : B.m.n = 2 := (B_vext eB).n.trans hn
    have mB : B.m.n ≠ 3 := by omega
    have nR : R.2.m.n = 2 := (D_vext eR).n.trans nB
    have mR : R.2.m.n ≠ 3 := by omega
    have nX0 : X0.2.m.n = 2 := (D_vext eX0).n.trans nR
    have mX0 : X0.2.m.n ≠ 3 := by omega
    have nX1 : X1.2.m.n = 2 := (D_vext eX1).n.trans nX0
    have mX1 : X1.2.m.n ≠ 3 := by omega
    unfold fresh_Full.m
    repeat (first
      | with_reducible refine bstep (N_v (by assumption)) ?_
      | with_reducible refine bstep (Begin_v (by assumption)) ?_
      | with_reducible refine bstep (masks1_v (by omega) (by assumption)) ?_
      | with_reducible refine bstep (Two_v (by assumption) (by omega)) ?_
      | with_reducible refine bstep (Rand_v (by assumption) (by omega)) ?_
      | with_reducible refine bstep (End_v (by assumption)) ?_
      | ((with_reducible refine iteP ?_ ?_); · first | exact rfl | exact Nat.le_of_ble_eq_true rfl | decide)
      | ((with_reducible refine bifT ?_ ?_); · first | decide | exact beqT (by assumption) | exact ltT (by assumption) (by decide) | exact bneT (by assumption))
      | ((with_reducible refine bifF ?_ ?_); · first | decide | exact beqN (by assumption) | exact ltF (by assumption) (by decide) | exact bneN (by assumption))
      | ((with_reducible apply bstep); · exact rfl)
      | dsimp only)
    exact rfl
  · skip
    have hm : M.m.n ≠ 2 := by omega
    have nB : B.m.n = 3 := (B_vext eB).n.trans hn
    have mB : B.m.n ≠ 2 := by omega
    have nR : R.2.m.n = 3 := (D_vext eR).n.trans nB
    have mR : R.2.m.n ≠ 2 := by omega
    have nS : S.2.m.n = 3 := (D_vext eS).n.trans nR
    have mS : S.2.m.n ≠ 2 := by omega
    have nT : T.2.m.n = 3 := (D_vext eT).n.trans nS
    have mT : T.2.m.n ≠ 2 := by omega
    have nX0 : X0.2.m.n = 3 := (D_vext eX0).n.trans nT
    have mX0 : X0.2.m.n ≠ 2 := by omega
    have nX1 : X1.2.m.n = 3 := (D_vext eX1).n.trans nX0
    have mX1 : X1.2.m.n ≠ 2 := by omega
    have nX2 : X2.2.m.n = 3 := (D_vext eX2).n.trans nX1
    have mX2 : X2.2.m.n ≠ 2 := by omega
    have nX3 : X3.2.m.n = 3 := (D_vext eX3).n.trans nX2
    have mX3 : X3.2.m.n ≠ 2 := by omega
    have nX4 : X4.2.m.n = 3 := (D_vext eX4).n.trans nX3
    have mX4 : X4.2.m.n ≠ 2 := by omega
    have nX5 : X5.2.m.n = 3 := (D_vext eX5).n.trans nX4
    have mX5 : X5.2.m.n ≠ 2 := by omega
    unfold fresh_Full.m
    repeat (first
      | with_reducible refine bstep (N_v (by assumption)) ?_
      | with_reducible refine bstep (Begin_v (by assumption)) ?_
      | with_reducible refine bstep (masks3_v (by omega) (by assumption) (by assumption) (by assumption)) ?_
      | with_reducible refine bstep (Two_v (by assumption) (by omega)) ?_
      | with_reducible refine bstep (Rand_v (by assumption) (by omega)) ?_
      | with_reducible refine bstep (End_v (by assumption)) ?_
      | ((with_reducible refine iteP ?_ ?_); · first | exact rfl | exact Nat.le_of_ble_eq_true rfl | decide)
      | ((with_reducible refine bifT ?_ ?_); · first | decide | exact beqT (by assumption) | exact ltT (by assumption) (by decide) | exact bneT (by assumption))
      | ((with_reducible refine bifF ?_ ?_); · first | decide | exact beqN (by assumption) | exact ltF (by assumption) (by decide) | exact bneN (by assumption))
      | ((with_reducible apply bstep); · exact rfl)
      | dsimp only)
    exact rfl
theorem FuC.s {M M' F : WM} {a : Int} {b : Int} {c : Int} {o0 o1 o2 : Int} (h : FuC M a b c o0 o1 o2 M') (x : Ext M' F) (hF : F.m.bad = 0) {z : BitVec 64} (s0 : Stands F a b c z) : Stands F o0 o1 o2 z := by
  rcases h with ⟨B, R, X0, X1, E, hn, hp0, eB, eR, eX0, eX1, eE, rfl, rfl, rfl, rfl⟩ | ⟨B, R, S, T, X0, X1, X2, X3, X4, X5, E, hn, eB, eR, eS, eT, eX0, eX1, eX2, eX3, eX4, eX5, eE, rfl, rfl, rfl, rfl⟩
  · have x5 := x
    have x4 := (E_vext eE).trans x5
    have x3 := (D_vext eX1).trans x4
    have x2 := (D_vext eX0).trans x3
    have x1 := (D_vext eR).trans x2
    have x0 := (B_vext eB).trans x1
    have nF : F.m.n = 2 := x0.n.trans hn
    obtain ⟨_, hc0, p0, q0, vp0, vq0, rfl⟩ : F.m.n = 2 ∧ _ := by
      rcases s0 with h | h
      · exact h
      · exact absurd h.1 (by omega)
    obtain ⟨zR, vR⟩ := F_rand eR x2 hF
    have vX0 := F_xor eX0 x3 hF vp0 vR
    have vX1 := F_xor eX1 x4 hF vq0 vR
    refine .inl ⟨nF, rfl, _, _, vX0, vX1, ?_⟩
    apply BitVec.eq_of_getLsbD_eq; intro i hi
    simp only [BitVec.getLsbD_xor]
    generalize BitVec.getLsbD p0 i = yp0
    generalize BitVec.getLsbD q0 i = yq0
    generalize BitVec.getLsbD zR i = yzR
    revert yp0 yq0 yzR
    decide
  · have x11 := x
    have x10 := (E_vext eE).trans x11
    have x9 := (D_vext eX5).trans x10
    have x8 := (D_vext eX4).trans x9
    have x7 := (D_vext eX3).trans x8
    have x6 := (D_vext eX2).trans x7
    have x5 := (D_vext eX1).trans x6
    have x4 := (D_vext eX0).trans x5
    have x3 := (D_vext eT).trans x4
    have x2 := (D_vext eS).trans x3
    have x1 := (D_vext eR).trans x2
    have x0 := (B_vext eB).trans x1
    have nF : F.m.n = 3 := x0.n.trans hn
    obtain ⟨_, p0, q0, r0, vp0, vq0, vr0, rfl⟩ : F.m.n = 3 ∧ _ := by
      rcases s0 with h | h
      · exact absurd h.1 (by omega)
      · exact h
    obtain ⟨zR, vR⟩ := F_rand eR x2 hF
    obtain ⟨zS, vS⟩ := F_rand eS x3 hF
    obtain ⟨zT, vT⟩ := F_rand eT x4 hF
    have vX0 := F_xor eX0 x5 hF vp0 vR
    have vX1 := F_xor eX1 x6 hF vX0 vS
    have vX2 := F_xor eX2 x7 hF vq0 vR
    have vX3 := F_xor eX3 x8 hF vX2 vT
    have vX4 := F_xor eX4 x9 hF vr0 vS
    have vX5 := F_xor eX5 x10 hF vX4 vT
    refine .inr ⟨nF, _, _, _, vX1, vX3, vX5, ?_⟩
    apply BitVec.eq_of_getLsbD_eq; intro i hi
    simp only [BitVec.getLsbD_xor]
    generalize BitVec.getLsbD p0 i = yp0
    generalize BitVec.getLsbD q0 i = yq0
    generalize BitVec.getLsbD r0 i = yr0
    generalize BitVec.getLsbD zR i = yzR
    generalize BitVec.getLsbD zS i = yzS
    generalize BitVec.getLsbD zT i = yzT
    revert yp0 yq0 yr0 yzR yzS yzT
    decide
def SiC (M : WM) (a : Int) (b : Int) (c : Int) (o0 o1 o2 : Int) (M' : WM) : Prop :=
  (∃ B : WM, ∃ R : Int × WM, ∃ S : Int × WM, ∃ X0 : Int × WM, ∃ X1 : Int × WM, ∃ X2 : Int × WM, ∃ X4 : Int × WM, ∃ E : WM, M.m.n = 3 ∧ B = M.B 2 ∧ R = B.D ⟨1, -1, -1, -1, -1, 0⟩ 0 ∧ S = R.2.D ⟨1, -1, -1, -1, -1, 0⟩ 0 ∧ X0 = S.2.D ⟨5, 0, a, R.1, -1, 0⟩ 0 ∧ X1 = X0.2.D ⟨5, 0, X0.1, S.1, -1, 0⟩ 0 ∧ X2 = X1.2.D ⟨5, 1, b, R.1, -1, 0⟩ 0 ∧ X4 = X2.2.D ⟨5, 2, c, S.1, -1, 0⟩ 0 ∧ E = X4.2.E ∧ o0 = X1.1 ∧ o1 = X2.1 ∧ o2 = X4.1 ∧ M' = E)
theorem SiC.ext {M M' : WM} {a : Int} {b : Int} {c : Int} {o0 o1 o2 : Int} (h : SiC M a b c o0 o1 o2 M') : Ext M M' := by
  rcases h with ⟨B, R, S, X0, X1, X2, X4, E, hn, eB, eR, eS, eX0, eX1, eX2, eX4, eE, rfl, rfl, rfl, rfl⟩
  · exact ((((((((B_vext eB).trans (D_vext eR)).trans (D_vext eS)).trans (D_vext eX0)).trans (D_vext eX1)).trans (D_vext eX2)).trans (D_vext eX4)).trans (E_vext eE))
theorem SiC.ex (M : WM) (a b c : Int) (h : M.m.n = 3) : ∃ o0 o1 o2 M', SiC M a b c o0 o1 o2 M' := ⟨_, _, _, _, _, _, _, _, _, _, _, _, h, rfl, rfl, rfl, rfl, rfl, rfl, rfl, rfl, rfl, rfl, rfl, rfl⟩
theorem SiC.s {M M' F : WM} {a : Int} {b : Int} {c : Int} {o0 o1 o2 : Int} (h : SiC M a b c o0 o1 o2 M') (x : Ext M' F) (hF : F.m.bad = 0) {z : BitVec 64} (s0 : Stands F a b c z) : Stands F o0 o1 o2 z := by
  rcases h with ⟨B, R, S, X0, X1, X2, X4, E, hn, eB, eR, eS, eX0, eX1, eX2, eX4, eE, rfl, rfl, rfl, rfl⟩
  · have x8 := x
    have x7 := (E_vext eE).trans x8
    have x6 := (D_vext eX4).trans x7
    have x5 := (D_vext eX2).trans x6
    have x4 := (D_vext eX1).trans x5
    have x3 := (D_vext eX0).trans x4
    have x2 := (D_vext eS).trans x3
    have x1 := (D_vext eR).trans x2
    have x0 := (B_vext eB).trans x1
    have nF : F.m.n = 3 := x0.n.trans hn
    obtain ⟨_, p0, q0, r0, vp0, vq0, vr0, rfl⟩ : F.m.n = 3 ∧ _ := by
      rcases s0 with h | h
      · exact absurd h.1 (by omega)
      · exact h
    obtain ⟨zR, vR⟩ := F_rand eR x2 hF
    obtain ⟨zS, vS⟩ := F_rand eS x3 hF
    have vX0 := F_xor eX0 x4 hF vp0 vR
    have vX1 := F_xor eX1 x5 hF vX0 vS
    have vX2 := F_xor eX2 x6 hF vq0 vR
    have vX4 := F_xor eX4 x7 hF vr0 vS
    refine .inr ⟨nF, _, _, _, vX1, vX2, vX4, ?_⟩
    apply BitVec.eq_of_getLsbD_eq; intro i hi
    simp only [BitVec.getLsbD_xor]
    generalize BitVec.getLsbD p0 i = yp0
    generalize BitVec.getLsbD q0 i = yq0
    generalize BitVec.getLsbD r0 i = yr0
    generalize BitVec.getLsbD zR i = yzR
    generalize BitVec.getLsbD zS i = yzS
    revert yp0 yq0 yr0 yzR yzS
    decide
/-! Two words multiplied, as a row of Do's (printed by wip/gen/gads.py). -/
def IsC (M : WM) (a0 : Int) (b0 : Int) (c0 : Int) (a1 : Int) (b1 : Int) (c1 : Int) (o0 o1 o2 : Int) (M' : WM) : Prop :=
  (∃ B : WM, ∃ R01 : Int × WM, ∃ P00 : Int × WM, ∃ P01 : Int × WM, ∃ P10 : Int × WM, ∃ P11 : Int × WM, ∃ O01 : Int × WM, ∃ A10 : Int × WM, ∃ C10 : Int × WM, ∃ O10 : Int × WM, ∃ E : WM, M.m.n = 2 ∧ B = M.B 3 ∧ R01 = B.D ⟨1, -1, -1, -1, -1, 0⟩ 0 ∧ P00 = R01.2.D ⟨7, 0, a0, a1, -1, 0⟩ 0 ∧ P01 = P00.2.D ⟨7, 0, a0, b1, -1, 0⟩ 0 ∧ P10 = P01.2.D ⟨7, 1, b0, a1, -1, 0⟩ 0 ∧ P11 = P10.2.D ⟨7, 1, b0, b1, -1, 0⟩ 0 ∧ O01 = P11.2.D ⟨5, 0, P00.1, R01.1, -1, 0⟩ 0 ∧ A10 = O01.2.D ⟨5, 1, R01.1, P01.1, -1, 0⟩ 0 ∧ C10 = A10.2.D ⟨5, 1, A10.1, P10.1, -1, 0⟩ 0 ∧ O10 = C10.2.D ⟨5, 1, P11.1, C10.1, -1, 0⟩ 0 ∧ E = O10.2.E ∧ o0 = O01.1 ∧ o1 = O10.1 ∧ o2 = -1 ∧ M' = E) ∨
  (∃ B : WM, ∃ R01 : Int × WM, ∃ R02 : Int × WM, ∃ R12 : Int × WM, ∃ P00 : Int × WM, ∃ P01 : Int × WM, ∃ P02 : Int × WM, ∃ P10 : Int × WM, ∃ P11 : Int × WM, ∃ P12 : Int × WM, ∃ P20 : Int × WM, ∃ P21 : Int × WM, ∃ P22 : Int × WM, ∃ O01 : Int × WM, ∃ O02 : Int × WM, ∃ A10 : Int × WM, ∃ C10 : Int × WM, ∃ O10 : Int × WM, ∃ O12 : Int × WM, ∃ A20 : Int × WM, ∃ C20 : Int × WM, ∃ O20 : Int × WM, ∃ A21 : Int × WM, ∃ C21 : Int × WM, ∃ O21 : Int × WM, ∃ E : WM, M.m.n = 3 ∧ B = M.B 3 ∧ R01 = B.D ⟨1, -1, -1, -1, -1, 0⟩ 0 ∧ R02 = R01.2.D ⟨1, -1, -1, -1, -1, 0⟩ 0 ∧ R12 = R02.2.D ⟨1, -1, -1, -1, -1, 0⟩ 0 ∧ P00 = R12.2.D ⟨7, 0, a0, a1, -1, 0⟩ 0 ∧ P01 = P00.2.D ⟨7, 0, a0, b1, -1, 0⟩ 0 ∧ P02 = P01.2.D ⟨7, 0, a0, c1, -1, 0⟩ 0 ∧ P10 = P02.2.D ⟨7, 1, b0, a1, -1, 0⟩ 0 ∧ P11 = P10.2.D ⟨7, 1, b0, b1, -1, 0⟩ 0 ∧ P12 = P11.2.D ⟨7, 1, b0, c1, -1, 0⟩ 0 ∧ P20 = P12.2.D ⟨7, 2, c0, a1, -1, 0⟩ 0 ∧ P21 = P20.2.D ⟨7, 2, c0, b1, -1, 0⟩ 0 ∧ P22 = P21.2.D ⟨7, 2, c0, c1, -1, 0⟩ 0 ∧ O01 = P22.2.D ⟨5, 0, P00.1, R01.1, -1, 0⟩ 0 ∧ O02 = O01.2.D ⟨5, 0, O01.1, R02.1, -1, 0⟩ 0 ∧ A10 = O02.2.D ⟨5, 1, R01.1, P01.1, -1, 0⟩ 0 ∧ C10 = A10.2.D ⟨5, 1, A10.1, P10.1, -1, 0⟩ 0 ∧ O10 = C10.2.D ⟨5, 1, P11.1, C10.1, -1, 0⟩ 0 ∧ O12 = O10.2.D ⟨5, 1, O10.1, R12.1, -1, 0⟩ 0 ∧ A20 = O12.2.D ⟨5, 2, R02.1, P02.1, -1, 0⟩ 0 ∧ C20 = A20.2.D ⟨5, 2, A20.1, P20.1, -1, 0⟩ 0 ∧ O20 = C20.2.D ⟨5, 2, P22.1, C20.1, -1, 0⟩ 0 ∧ A21 = O20.2.D ⟨5, 2, R12.1, P12.1, -1, 0⟩ 0 ∧ C21 = A21.2.D ⟨5, 2, A21.1, P21.1, -1, 0⟩ 0 ∧ O21 = C21.2.D ⟨5, 2, O20.1, C21.1, -1, 0⟩ 0 ∧ E = O21.2.E ∧ o0 = O02.1 ∧ o1 = O12.1 ∧ o2 = O21.1 ∧ M' = E)
theorem IsC.ex (M : WM) (a0 : Int) (b0 : Int) (c0 : Int) (a1 : Int) (b1 : Int) (c1 : Int) : ∃ o0 o1 o2 M', IsC M a0 b0 c0 a1 b1 c1 o0 o1 o2 M' := by
  rcases M.w.ok.n with h | h
  · exact ⟨_, _, _, _, .inl ⟨_, _, _, _, _, _, _, _, _, _, _, h, rfl, rfl, rfl, rfl, rfl, rfl, rfl, rfl, rfl, rfl, rfl, rfl, rfl, rfl, rfl⟩⟩
  · exact ⟨_, _, _, _, .inr ⟨_, _, _, _, _, _, _, _, _, _, _, _, _, _, _, _, _, _, _, _, _, _, _, _, _, _, h, rfl, rfl, rfl, rfl, rfl, rfl, rfl, rfl, rfl, rfl, rfl, rfl, rfl, rfl, rfl, rfl, rfl, rfl, rfl, rfl, rfl, rfl, rfl, rfl, rfl, rfl, rfl, rfl, rfl, rfl⟩⟩
theorem IsC.ext {M M' : WM} {a0 : Int} {b0 : Int} {c0 : Int} {a1 : Int} {b1 : Int} {c1 : Int} {o0 o1 o2 : Int} (h : IsC M a0 b0 c0 a1 b1 c1 o0 o1 o2 M') : Ext M M' := by
  rcases h with ⟨B, R01, P00, P01, P10, P11, O01, A10, C10, O10, E, hn, eB, eR01, eP00, eP01, eP10, eP11, eO01, eA10, eC10, eO10, eE, rfl, rfl, rfl, rfl⟩ | ⟨B, R01, R02, R12, P00, P01, P02, P10, P11, P12, P20, P21, P22, O01, O02, A10, C10, O10, O12, A20, C20, O20, A21, C21, O21, E, hn, eB, eR01, eR02, eR12, eP00, eP01, eP02, eP10, eP11, eP12, eP20, eP21, eP22, eO01, eO02, eA10, eC10, eO10, eO12, eA20, eC20, eO20, eA21, eC21, eO21, eE, rfl, rfl, rfl, rfl⟩
  · exact (((((((((((B_vext eB).trans (D_vext eR01)).trans (D_vext eP00)).trans (D_vext eP01)).trans (D_vext eP10)).trans (D_vext eP11)).trans (D_vext eO01)).trans (D_vext eA10)).trans (D_vext eC10)).trans (D_vext eO10)).trans (E_vext eE))
  · exact ((((((((((((((((((((((((((B_vext eB).trans (D_vext eR01)).trans (D_vext eR02)).trans (D_vext eR12)).trans (D_vext eP00)).trans (D_vext eP01)).trans (D_vext eP02)).trans (D_vext eP10)).trans (D_vext eP11)).trans (D_vext eP12)).trans (D_vext eP20)).trans (D_vext eP21)).trans (D_vext eP22)).trans (D_vext eO01)).trans (D_vext eO02)).trans (D_vext eA10)).trans (D_vext eC10)).trans (D_vext eO10)).trans (D_vext eO12)).trans (D_vext eA20)).trans (D_vext eC20)).trans (D_vext eO20)).trans (D_vext eA21)).trans (D_vext eC21)).trans (D_vext eO21)).trans (E_vext eE))
theorem IsC.c {M M' : WM} {a0 : Int} {b0 : Int} {c0 : Int} {a1 : Int} {b1 : Int} {c1 : Int} {o0 o1 o2 : Int} (h : IsC M a0 b0 c0 a1 b1 c1 o0 o1 o2 M') (hn' : M'.m.n = 2) : o2 = -1 := by
  have hm := h.ext.n
  rcases h with ⟨B, R01, P00, P01, P10, P11, O01, A10, C10, O10, E, hn, eB, eR01, eP00, eP01, eP10, eP11, eO01, eA10, eC10, eO10, eE, rfl, rfl, rfl, rfl⟩ | ⟨B, R01, R02, R12, P00, P01, P02, P10, P11, P12, P20, P21, P22, O01, O02, A10, C10, O10, O12, A20, C20, O20, A21, C21, O21, E, hn, eB, eR01, eR02, eR12, eP00, eP01, eP02, eP10, eP11, eP12, eP20, eP21, eP22, eO01, eO02, eA10, eC10, eO10, eO12, eA20, eC20, eO20, eA21, eC21, eO21, eE, rfl, rfl, rfl, rfl⟩
  · rfl
  · omega
set_option maxHeartbeats 4000000 in
theorem IsC.p {k : Nat} (hk : 90 ≤ k) {M M' : WM} {a0 : Int} {b0 : Int} {c0 : Int} {a1 : Int} {b1 : Int} {c1 : Int} {o0 o1 o2 : Int} (h : IsC M a0 b0 c0 a1 b1 c1 o0 o1 o2 M') : times_Isw.m k M.m [ci a0, ci b0, ci c0] [ci a1, ci b1, ci c1] = some ([ci o0, ci o1, ci o2], M'.m) := by
  rcases h with ⟨B, R01, P00, P01, P10, P11, O01, A10, C10, O10, E, hn, eB, eR01, eP00, eP01, eP10, eP11, eO01, eA10, eC10, eO10, eE, rfl, rfl, rfl, rfl⟩ | ⟨B, R01, R02, R12, P00, P01, P02, P10, P11, P12, P20, P21, P22, O01, O02, A10, C10, O10, O12, A20, C20, O20, A21, C21, O21, E, hn, eB, eR01, eR02, eR12, eP00, eP01, eP02, eP10, eP11, eP12, eP20, eP21, eP22, eO01, eO02, eA10, eC10, eO10, eO12, eA20, eC20, eO20, eA21, eC21, eO21, eE, rfl, rfl, rfl, rfl⟩
  · skip
    have hm : M.m.n ≠ 3 := by omega
    have nB : B.m.n = 2 := (B_vext eB).n.trans hn
    have mB : B.m.n ≠ 3 := by omega
    have nR01 : R01.2.m.n = 2 := (D_vext eR01).n.trans nB
    have mR01 : R01.2.m.n ≠ 3 := by omega
    have nP00 : P00.2.m.n = 2 := (D_vext eP00).n.trans nR01
    have mP00 : P00.2.m.n ≠ 3 := by omega
    have nP01 : P01.2.m.n = 2 := (D_vext eP01).n.trans nP00
    have mP01 : P01.2.m.n ≠ 3 := by omega
    have nP10 : P10.2.m.n = 2 := (D_vext eP10).n.trans nP01
    have mP10 : P10.2.m.n ≠ 3 := by omega
    have nP11 : P11.2.m.n = 2 := (D_vext eP11).n.trans nP10
    have mP11 : P11.2.m.n ≠ 3 := by omega
    have nO01 : O01.2.m.n = 2 := (D_vext eO01).n.trans nP11
    have mO01 : O01.2.m.n ≠ 3 := by omega
    have nA10 : A10.2.m.n = 2 := (D_vext eA10).n.trans nO01
    have mA10 : A10.2.m.n ≠ 3 := by omega
    have nC10 : C10.2.m.n = 2 := (D_vext eC10).n.trans nA10
    have mC10 : C10.2.m.n ≠ 3 := by omega
    have nO10 : O10.2.m.n = 2 := (D_vext eO10).n.trans nC10
    have mO10 : O10.2.m.n ≠ 3 := by omega
    unfold times_Isw.m
    repeat (first
      | with_reducible refine bstep (N_v (by assumption)) ?_
      | with_reducible refine bstep (Begin_v (by assumption)) ?_
      | with_reducible refine bstep (Two_v (by assumption) (by omega)) ?_
      | with_reducible refine bstep (Rand_v (by assumption) (by omega)) ?_
      | with_reducible refine bstep (End_v (by assumption)) ?_
      | ((with_reducible refine iteP ?_ ?_); · first | exact rfl | exact Nat.le_of_ble_eq_true rfl | decide)
      | ((with_reducible refine bifT ?_ ?_); · first | decide | exact beqT (by assumption) | exact ltT (by assumption) (by decide) | exact bneT (by assumption))
      | ((with_reducible refine bifF ?_ ?_); · first | decide | exact beqN (by assumption) | exact ltF (by assumption) (by decide) | exact bneN (by assumption))
      | ((with_reducible apply bstep); · exact rfl)
      | dsimp only)
    first | done | exact rfl
  · skip
    have hm : M.m.n ≠ 2 := by omega
    have nB : B.m.n = 3 := (B_vext eB).n.trans hn
    have mB : B.m.n ≠ 2 := by omega
    have nR01 : R01.2.m.n = 3 := (D_vext eR01).n.trans nB
    have mR01 : R01.2.m.n ≠ 2 := by omega
    have nR02 : R02.2.m.n = 3 := (D_vext eR02).n.trans nR01
    have mR02 : R02.2.m.n ≠ 2 := by omega
    have nR12 : R12.2.m.n = 3 := (D_vext eR12).n.trans nR02
    have mR12 : R12.2.m.n ≠ 2 := by omega
    have nP00 : P00.2.m.n = 3 := (D_vext eP00).n.trans nR12
    have mP00 : P00.2.m.n ≠ 2 := by omega
    have nP01 : P01.2.m.n = 3 := (D_vext eP01).n.trans nP00
    have mP01 : P01.2.m.n ≠ 2 := by omega
    have nP02 : P02.2.m.n = 3 := (D_vext eP02).n.trans nP01
    have mP02 : P02.2.m.n ≠ 2 := by omega
    have nP10 : P10.2.m.n = 3 := (D_vext eP10).n.trans nP02
    have mP10 : P10.2.m.n ≠ 2 := by omega
    have nP11 : P11.2.m.n = 3 := (D_vext eP11).n.trans nP10
    have mP11 : P11.2.m.n ≠ 2 := by omega
    have nP12 : P12.2.m.n = 3 := (D_vext eP12).n.trans nP11
    have mP12 : P12.2.m.n ≠ 2 := by omega
    have nP20 : P20.2.m.n = 3 := (D_vext eP20).n.trans nP12
    have mP20 : P20.2.m.n ≠ 2 := by omega
    have nP21 : P21.2.m.n = 3 := (D_vext eP21).n.trans nP20
    have mP21 : P21.2.m.n ≠ 2 := by omega
    have nP22 : P22.2.m.n = 3 := (D_vext eP22).n.trans nP21
    have mP22 : P22.2.m.n ≠ 2 := by omega
    have nO01 : O01.2.m.n = 3 := (D_vext eO01).n.trans nP22
    have mO01 : O01.2.m.n ≠ 2 := by omega
    have nO02 : O02.2.m.n = 3 := (D_vext eO02).n.trans nO01
    have mO02 : O02.2.m.n ≠ 2 := by omega
    have nA10 : A10.2.m.n = 3 := (D_vext eA10).n.trans nO02
    have mA10 : A10.2.m.n ≠ 2 := by omega
    have nC10 : C10.2.m.n = 3 := (D_vext eC10).n.trans nA10
    have mC10 : C10.2.m.n ≠ 2 := by omega
    have nO10 : O10.2.m.n = 3 := (D_vext eO10).n.trans nC10
    have mO10 : O10.2.m.n ≠ 2 := by omega
    have nO12 : O12.2.m.n = 3 := (D_vext eO12).n.trans nO10
    have mO12 : O12.2.m.n ≠ 2 := by omega
    have nA20 : A20.2.m.n = 3 := (D_vext eA20).n.trans nO12
    have mA20 : A20.2.m.n ≠ 2 := by omega
    have nC20 : C20.2.m.n = 3 := (D_vext eC20).n.trans nA20
    have mC20 : C20.2.m.n ≠ 2 := by omega
    have nO20 : O20.2.m.n = 3 := (D_vext eO20).n.trans nC20
    have mO20 : O20.2.m.n ≠ 2 := by omega
    have nA21 : A21.2.m.n = 3 := (D_vext eA21).n.trans nO20
    have mA21 : A21.2.m.n ≠ 2 := by omega
    have nC21 : C21.2.m.n = 3 := (D_vext eC21).n.trans nA21
    have mC21 : C21.2.m.n ≠ 2 := by omega
    have nO21 : O21.2.m.n = 3 := (D_vext eO21).n.trans nC21
    have mO21 : O21.2.m.n ≠ 2 := by omega
    unfold times_Isw.m
    repeat (first
      | with_reducible refine bstep (N_v (by assumption)) ?_
      | with_reducible refine bstep (Begin_v (by assumption)) ?_
      | with_reducible refine bstep (Two_v (by assumption) (by omega)) ?_
      | with_reducible refine bstep (Rand_v (by assumption) (by omega)) ?_
      | with_reducible refine bstep (End_v (by assumption)) ?_
      | ((with_reducible refine iteP ?_ ?_); · first | exact rfl | exact Nat.le_of_ble_eq_true rfl | decide)
      | ((with_reducible refine bifT ?_ ?_); · first | decide | exact beqT (by assumption) | exact ltT (by assumption) (by decide) | exact bneT (by assumption))
      | ((with_reducible refine bifF ?_ ?_); · first | decide | exact beqN (by assumption) | exact ltF (by assumption) (by decide) | exact bneN (by assumption))
      | ((with_reducible apply bstep); · exact rfl)
      | dsimp only)
    first | done | exact rfl
theorem IsC.s {M M' F : WM} {a0 : Int} {b0 : Int} {c0 : Int} {a1 : Int} {b1 : Int} {c1 : Int} {o0 o1 o2 : Int} (h : IsC M a0 b0 c0 a1 b1 c1 o0 o1 o2 M') (x : Ext M' F) (hF : F.m.bad = 0) {z0 z1 : BitVec 64} (s0 : Stands F a0 b0 c0 z0) (s1 : Stands F a1 b1 c1 z1) : Stands F o0 o1 o2 (z0 &&& z1) := by
  rcases h with ⟨B, R01, P00, P01, P10, P11, O01, A10, C10, O10, E, hn, eB, eR01, eP00, eP01, eP10, eP11, eO01, eA10, eC10, eO10, eE, rfl, rfl, rfl, rfl⟩ | ⟨B, R01, R02, R12, P00, P01, P02, P10, P11, P12, P20, P21, P22, O01, O02, A10, C10, O10, O12, A20, C20, O20, A21, C21, O21, E, hn, eB, eR01, eR02, eR12, eP00, eP01, eP02, eP10, eP11, eP12, eP20, eP21, eP22, eO01, eO02, eA10, eC10, eO10, eO12, eA20, eC20, eO20, eA21, eC21, eO21, eE, rfl, rfl, rfl, rfl⟩
  · have x11 := x
    have x10 := (E_vext eE).trans x11
    have x9 := (D_vext eO10).trans x10
    have x8 := (D_vext eC10).trans x9
    have x7 := (D_vext eA10).trans x8
    have x6 := (D_vext eO01).trans x7
    have x5 := (D_vext eP11).trans x6
    have x4 := (D_vext eP10).trans x5
    have x3 := (D_vext eP01).trans x4
    have x2 := (D_vext eP00).trans x3
    have x1 := (D_vext eR01).trans x2
    have x0 := (B_vext eB).trans x1
    have nF : F.m.n = 2 := x0.n.trans hn
    obtain ⟨_, hc0, p0, q0, vp0, vq0, rfl⟩ : F.m.n = 2 ∧ _ := by
      rcases s0 with h | h
      · exact h
      · exact absurd h.1 (by omega)
    obtain ⟨_, hc1, p1, q1, vp1, vq1, rfl⟩ : F.m.n = 2 ∧ _ := by
      rcases s1 with h | h
      · exact h
      · exact absurd h.1 (by omega)
    obtain ⟨zR01, vR01⟩ := F_rand eR01 x2 hF
    have vP00 := F_and eP00 x3 hF vp0 vp1
    have vP01 := F_and eP01 x4 hF vp0 vq1
    have vP10 := F_and eP10 x5 hF vq0 vp1
    have vP11 := F_and eP11 x6 hF vq0 vq1
    have vO01 := F_xor eO01 x7 hF vP00 vR01
    have vA10 := F_xor eA10 x8 hF vR01 vP01
    have vC10 := F_xor eC10 x9 hF vA10 vP10
    have vO10 := F_xor eO10 x10 hF vP11 vC10
    refine .inl ⟨nF, rfl, _, _, vO01, vO10, ?_⟩
    apply BitVec.eq_of_getLsbD_eq; intro i hi
    simp only [BitVec.getLsbD_xor, BitVec.getLsbD_and]
    generalize BitVec.getLsbD p0 i = yp0
    generalize BitVec.getLsbD q0 i = yq0
    generalize BitVec.getLsbD p1 i = yp1
    generalize BitVec.getLsbD q1 i = yq1
    generalize BitVec.getLsbD zR01 i = yzR01
    revert yp0 yq0 yp1 yq1 yzR01
    decide
  · have x26 := x
    have x25 := (E_vext eE).trans x26
    have x24 := (D_vext eO21).trans x25
    have x23 := (D_vext eC21).trans x24
    have x22 := (D_vext eA21).trans x23
    have x21 := (D_vext eO20).trans x22
    have x20 := (D_vext eC20).trans x21
    have x19 := (D_vext eA20).trans x20
    have x18 := (D_vext eO12).trans x19
    have x17 := (D_vext eO10).trans x18
    have x16 := (D_vext eC10).trans x17
    have x15 := (D_vext eA10).trans x16
    have x14 := (D_vext eO02).trans x15
    have x13 := (D_vext eO01).trans x14
    have x12 := (D_vext eP22).trans x13
    have x11 := (D_vext eP21).trans x12
    have x10 := (D_vext eP20).trans x11
    have x9 := (D_vext eP12).trans x10
    have x8 := (D_vext eP11).trans x9
    have x7 := (D_vext eP10).trans x8
    have x6 := (D_vext eP02).trans x7
    have x5 := (D_vext eP01).trans x6
    have x4 := (D_vext eP00).trans x5
    have x3 := (D_vext eR12).trans x4
    have x2 := (D_vext eR02).trans x3
    have x1 := (D_vext eR01).trans x2
    have x0 := (B_vext eB).trans x1
    have nF : F.m.n = 3 := x0.n.trans hn
    obtain ⟨_, p0, q0, r0, vp0, vq0, vr0, rfl⟩ : F.m.n = 3 ∧ _ := by
      rcases s0 with h | h
      · exact absurd h.1 (by omega)
      · exact h
    obtain ⟨_, p1, q1, r1, vp1, vq1, vr1, rfl⟩ : F.m.n = 3 ∧ _ := by
      rcases s1 with h | h
      · exact absurd h.1 (by omega)
      · exact h
    obtain ⟨zR01, vR01⟩ := F_rand eR01 x2 hF
    obtain ⟨zR02, vR02⟩ := F_rand eR02 x3 hF
    obtain ⟨zR12, vR12⟩ := F_rand eR12 x4 hF
    have vP00 := F_and eP00 x5 hF vp0 vp1
    have vP01 := F_and eP01 x6 hF vp0 vq1
    have vP02 := F_and eP02 x7 hF vp0 vr1
    have vP10 := F_and eP10 x8 hF vq0 vp1
    have vP11 := F_and eP11 x9 hF vq0 vq1
    have vP12 := F_and eP12 x10 hF vq0 vr1
    have vP20 := F_and eP20 x11 hF vr0 vp1
    have vP21 := F_and eP21 x12 hF vr0 vq1
    have vP22 := F_and eP22 x13 hF vr0 vr1
    have vO01 := F_xor eO01 x14 hF vP00 vR01
    have vO02 := F_xor eO02 x15 hF vO01 vR02
    have vA10 := F_xor eA10 x16 hF vR01 vP01
    have vC10 := F_xor eC10 x17 hF vA10 vP10
    have vO10 := F_xor eO10 x18 hF vP11 vC10
    have vO12 := F_xor eO12 x19 hF vO10 vR12
    have vA20 := F_xor eA20 x20 hF vR02 vP02
    have vC20 := F_xor eC20 x21 hF vA20 vP20
    have vO20 := F_xor eO20 x22 hF vP22 vC20
    have vA21 := F_xor eA21 x23 hF vR12 vP12
    have vC21 := F_xor eC21 x24 hF vA21 vP21
    have vO21 := F_xor eO21 x25 hF vO20 vC21
    refine .inr ⟨nF, _, _, _, vO02, vO12, vO21, ?_⟩
    apply BitVec.eq_of_getLsbD_eq; intro i hi
    simp only [BitVec.getLsbD_xor, BitVec.getLsbD_and]
    generalize BitVec.getLsbD p0 i = yp0
    generalize BitVec.getLsbD q0 i = yq0
    generalize BitVec.getLsbD r0 i = yr0
    generalize BitVec.getLsbD p1 i = yp1
    generalize BitVec.getLsbD q1 i = yq1
    generalize BitVec.getLsbD r1 i = yr1
    generalize BitVec.getLsbD zR01 i = yzR01
    generalize BitVec.getLsbD zR02 i = yzR02
    generalize BitVec.getLsbD zR12 i = yzR12
    revert yp0 yq0 yr0 yp1 yq1 yr1 yzR01 yzR02 yzR12
    decide
theorem By_Is {k : Nat} (hk : 90 ≤ k) {M M' : WM} {a0 b0 c0 a1 b1 c1 o0 o1 o2 : Int} (h : IsC M a0 b0 c0 a1 b1 c1 o0 o1 o2 M') {kd : Int} (hkd : kd ≠ 2) : times_By.m k M.m kd [ci a0, ci b0, ci c0] [ci a1, ci b1, ci c1] = some ([ci o0, ci o1, ci o2], M'.m) := by
  unfold times_By.m
  rw [beqF hkd, cond_false, if_pos (by rfl), if_pos (by rfl), h.p hk, Option.bind_some, if_pos (by rfl)]
def DoC (M : WM) (a0 : Int) (b0 : Int) (c0 : Int) (a1 : Int) (b1 : Int) (c1 : Int) (o0 o1 o2 : Int) (M' : WM) : Prop :=
  (∃ B : WM, ∃ R01 : Int × WM, ∃ P00 : Int × WM, ∃ P01 : Int × WM, ∃ P10 : Int × WM, ∃ P11 : Int × WM, ∃ A01 : Int × WM, ∃ O01 : Int × WM, ∃ A10 : Int × WM, ∃ O10 : Int × WM, ∃ E : WM, M.m.n = 2 ∧ B = M.B 3 ∧ R01 = B.D ⟨1, -1, -1, -1, -1, 0⟩ 0 ∧ P00 = R01.2.D ⟨7, 0, a0, a1, -1, 0⟩ 0 ∧ P01 = P00.2.D ⟨7, 0, a0, b1, -1, 0⟩ 0 ∧ P10 = P01.2.D ⟨7, 1, b0, a1, -1, 0⟩ 0 ∧ P11 = P10.2.D ⟨7, 1, b0, b1, -1, 0⟩ 0 ∧ A01 = P11.2.D ⟨5, 0, P01.1, R01.1, -1, 0⟩ 0 ∧ O01 = A01.2.D ⟨5, 0, P00.1, A01.1, -1, 0⟩ 0 ∧ A10 = O01.2.D ⟨5, 1, P10.1, R01.1, -1, 0⟩ 0 ∧ O10 = A10.2.D ⟨5, 1, P11.1, A10.1, -1, 0⟩ 0 ∧ E = O10.2.E ∧ o0 = O01.1 ∧ o1 = O10.1 ∧ o2 = -1 ∧ M' = E) ∨
  (∃ B : WM, ∃ R01 : Int × WM, ∃ R02 : Int × WM, ∃ R12 : Int × WM, ∃ P00 : Int × WM, ∃ P01 : Int × WM, ∃ P02 : Int × WM, ∃ P10 : Int × WM, ∃ P11 : Int × WM, ∃ P12 : Int × WM, ∃ P20 : Int × WM, ∃ P21 : Int × WM, ∃ P22 : Int × WM, ∃ A01 : Int × WM, ∃ O01 : Int × WM, ∃ A02 : Int × WM, ∃ O02 : Int × WM, ∃ A10 : Int × WM, ∃ O10 : Int × WM, ∃ A12 : Int × WM, ∃ O12 : Int × WM, ∃ A20 : Int × WM, ∃ O20 : Int × WM, ∃ A21 : Int × WM, ∃ O21 : Int × WM, ∃ E : WM, M.m.n = 3 ∧ B = M.B 3 ∧ R01 = B.D ⟨1, -1, -1, -1, -1, 0⟩ 0 ∧ R02 = R01.2.D ⟨1, -1, -1, -1, -1, 0⟩ 0 ∧ R12 = R02.2.D ⟨1, -1, -1, -1, -1, 0⟩ 0 ∧ P00 = R12.2.D ⟨7, 0, a0, a1, -1, 0⟩ 0 ∧ P01 = P00.2.D ⟨7, 0, a0, b1, -1, 0⟩ 0 ∧ P02 = P01.2.D ⟨7, 0, a0, c1, -1, 0⟩ 0 ∧ P10 = P02.2.D ⟨7, 1, b0, a1, -1, 0⟩ 0 ∧ P11 = P10.2.D ⟨7, 1, b0, b1, -1, 0⟩ 0 ∧ P12 = P11.2.D ⟨7, 1, b0, c1, -1, 0⟩ 0 ∧ P20 = P12.2.D ⟨7, 2, c0, a1, -1, 0⟩ 0 ∧ P21 = P20.2.D ⟨7, 2, c0, b1, -1, 0⟩ 0 ∧ P22 = P21.2.D ⟨7, 2, c0, c1, -1, 0⟩ 0 ∧ A01 = P22.2.D ⟨5, 0, P01.1, R01.1, -1, 0⟩ 0 ∧ O01 = A01.2.D ⟨5, 0, P00.1, A01.1, -1, 0⟩ 0 ∧ A02 = O01.2.D ⟨5, 0, P02.1, R02.1, -1, 0⟩ 0 ∧ O02 = A02.2.D ⟨5, 0, O01.1, A02.1, -1, 0⟩ 0 ∧ A10 = O02.2.D ⟨5, 1, P10.1, R01.1, -1, 0⟩ 0 ∧ O10 = A10.2.D ⟨5, 1, P11.1, A10.1, -1, 0⟩ 0 ∧ A12 = O10.2.D ⟨5, 1, P12.1, R12.1, -1, 0⟩ 0 ∧ O12 = A12.2.D ⟨5, 1, O10.1, A12.1, -1, 0⟩ 0 ∧ A20 = O12.2.D ⟨5, 2, P20.1, R02.1, -1, 0⟩ 0 ∧ O20 = A20.2.D ⟨5, 2, P22.1, A20.1, -1, 0⟩ 0 ∧ A21 = O20.2.D ⟨5, 2, P21.1, R12.1, -1, 0⟩ 0 ∧ O21 = A21.2.D ⟨5, 2, O20.1, A21.1, -1, 0⟩ 0 ∧ E = O21.2.E ∧ o0 = O02.1 ∧ o1 = O12.1 ∧ o2 = O21.1 ∧ M' = E)
theorem DoC.ex (M : WM) (a0 : Int) (b0 : Int) (c0 : Int) (a1 : Int) (b1 : Int) (c1 : Int) : ∃ o0 o1 o2 M', DoC M a0 b0 c0 a1 b1 c1 o0 o1 o2 M' := by
  rcases M.w.ok.n with h | h
  · exact ⟨_, _, _, _, .inl ⟨_, _, _, _, _, _, _, _, _, _, _, h, rfl, rfl, rfl, rfl, rfl, rfl, rfl, rfl, rfl, rfl, rfl, rfl, rfl, rfl, rfl⟩⟩
  · exact ⟨_, _, _, _, .inr ⟨_, _, _, _, _, _, _, _, _, _, _, _, _, _, _, _, _, _, _, _, _, _, _, _, _, _, h, rfl, rfl, rfl, rfl, rfl, rfl, rfl, rfl, rfl, rfl, rfl, rfl, rfl, rfl, rfl, rfl, rfl, rfl, rfl, rfl, rfl, rfl, rfl, rfl, rfl, rfl, rfl, rfl, rfl, rfl⟩⟩
theorem DoC.ext {M M' : WM} {a0 : Int} {b0 : Int} {c0 : Int} {a1 : Int} {b1 : Int} {c1 : Int} {o0 o1 o2 : Int} (h : DoC M a0 b0 c0 a1 b1 c1 o0 o1 o2 M') : Ext M M' := by
  rcases h with ⟨B, R01, P00, P01, P10, P11, A01, O01, A10, O10, E, hn, eB, eR01, eP00, eP01, eP10, eP11, eA01, eO01, eA10, eO10, eE, rfl, rfl, rfl, rfl⟩ | ⟨B, R01, R02, R12, P00, P01, P02, P10, P11, P12, P20, P21, P22, A01, O01, A02, O02, A10, O10, A12, O12, A20, O20, A21, O21, E, hn, eB, eR01, eR02, eR12, eP00, eP01, eP02, eP10, eP11, eP12, eP20, eP21, eP22, eA01, eO01, eA02, eO02, eA10, eO10, eA12, eO12, eA20, eO20, eA21, eO21, eE, rfl, rfl, rfl, rfl⟩
  · exact (((((((((((B_vext eB).trans (D_vext eR01)).trans (D_vext eP00)).trans (D_vext eP01)).trans (D_vext eP10)).trans (D_vext eP11)).trans (D_vext eA01)).trans (D_vext eO01)).trans (D_vext eA10)).trans (D_vext eO10)).trans (E_vext eE))
  · exact ((((((((((((((((((((((((((B_vext eB).trans (D_vext eR01)).trans (D_vext eR02)).trans (D_vext eR12)).trans (D_vext eP00)).trans (D_vext eP01)).trans (D_vext eP02)).trans (D_vext eP10)).trans (D_vext eP11)).trans (D_vext eP12)).trans (D_vext eP20)).trans (D_vext eP21)).trans (D_vext eP22)).trans (D_vext eA01)).trans (D_vext eO01)).trans (D_vext eA02)).trans (D_vext eO02)).trans (D_vext eA10)).trans (D_vext eO10)).trans (D_vext eA12)).trans (D_vext eO12)).trans (D_vext eA20)).trans (D_vext eO20)).trans (D_vext eA21)).trans (D_vext eO21)).trans (E_vext eE))
theorem DoC.c {M M' : WM} {a0 : Int} {b0 : Int} {c0 : Int} {a1 : Int} {b1 : Int} {c1 : Int} {o0 o1 o2 : Int} (h : DoC M a0 b0 c0 a1 b1 c1 o0 o1 o2 M') (hn' : M'.m.n = 2) : o2 = -1 := by
  have hm := h.ext.n
  rcases h with ⟨B, R01, P00, P01, P10, P11, A01, O01, A10, O10, E, hn, eB, eR01, eP00, eP01, eP10, eP11, eA01, eO01, eA10, eO10, eE, rfl, rfl, rfl, rfl⟩ | ⟨B, R01, R02, R12, P00, P01, P02, P10, P11, P12, P20, P21, P22, A01, O01, A02, O02, A10, O10, A12, O12, A20, O20, A21, O21, E, hn, eB, eR01, eR02, eR12, eP00, eP01, eP02, eP10, eP11, eP12, eP20, eP21, eP22, eA01, eO01, eA02, eO02, eA10, eO10, eA12, eO12, eA20, eO20, eA21, eO21, eE, rfl, rfl, rfl, rfl⟩
  · rfl
  · omega
set_option maxHeartbeats 4000000 in
theorem DoC.p {k : Nat} (hk : 90 ≤ k) {M M' : WM} {a0 : Int} {b0 : Int} {c0 : Int} {a1 : Int} {b1 : Int} {c1 : Int} {o0 o1 o2 : Int} (h : DoC M a0 b0 c0 a1 b1 c1 o0 o1 o2 M') : times_Dom.m k M.m [ci a0, ci b0, ci c0] [ci a1, ci b1, ci c1] = some ([ci o0, ci o1, ci o2], M'.m) := by
  rcases h with ⟨B, R01, P00, P01, P10, P11, A01, O01, A10, O10, E, hn, eB, eR01, eP00, eP01, eP10, eP11, eA01, eO01, eA10, eO10, eE, rfl, rfl, rfl, rfl⟩ | ⟨B, R01, R02, R12, P00, P01, P02, P10, P11, P12, P20, P21, P22, A01, O01, A02, O02, A10, O10, A12, O12, A20, O20, A21, O21, E, hn, eB, eR01, eR02, eR12, eP00, eP01, eP02, eP10, eP11, eP12, eP20, eP21, eP22, eA01, eO01, eA02, eO02, eA10, eO10, eA12, eO12, eA20, eO20, eA21, eO21, eE, rfl, rfl, rfl, rfl⟩
  · skip
    have hm : M.m.n ≠ 3 := by omega
    have nB : B.m.n = 2 := (B_vext eB).n.trans hn
    have mB : B.m.n ≠ 3 := by omega
    have nR01 : R01.2.m.n = 2 := (D_vext eR01).n.trans nB
    have mR01 : R01.2.m.n ≠ 3 := by omega
    have nP00 : P00.2.m.n = 2 := (D_vext eP00).n.trans nR01
    have mP00 : P00.2.m.n ≠ 3 := by omega
    have nP01 : P01.2.m.n = 2 := (D_vext eP01).n.trans nP00
    have mP01 : P01.2.m.n ≠ 3 := by omega
    have nP10 : P10.2.m.n = 2 := (D_vext eP10).n.trans nP01
    have mP10 : P10.2.m.n ≠ 3 := by omega
    have nP11 : P11.2.m.n = 2 := (D_vext eP11).n.trans nP10
    have mP11 : P11.2.m.n ≠ 3 := by omega
    have nA01 : A01.2.m.n = 2 := (D_vext eA01).n.trans nP11
    have mA01 : A01.2.m.n ≠ 3 := by omega
    have nO01 : O01.2.m.n = 2 := (D_vext eO01).n.trans nA01
    have mO01 : O01.2.m.n ≠ 3 := by omega
    have nA10 : A10.2.m.n = 2 := (D_vext eA10).n.trans nO01
    have mA10 : A10.2.m.n ≠ 3 := by omega
    have nO10 : O10.2.m.n = 2 := (D_vext eO10).n.trans nA10
    have mO10 : O10.2.m.n ≠ 3 := by omega
    unfold times_Dom.m
    repeat (first
      | with_reducible refine bstep (N_v (by assumption)) ?_
      | with_reducible refine bstep (Begin_v (by assumption)) ?_
      | with_reducible refine bstep (Two_v (by assumption) (by omega)) ?_
      | with_reducible refine bstep (Rand_v (by assumption) (by omega)) ?_
      | with_reducible refine bstep (End_v (by assumption)) ?_
      | ((with_reducible refine iteP ?_ ?_); · first | exact rfl | exact Nat.le_of_ble_eq_true rfl | decide)
      | ((with_reducible refine bifT ?_ ?_); · first | decide | exact beqT (by assumption) | exact ltT (by assumption) (by decide) | exact bneT (by assumption))
      | ((with_reducible refine bifF ?_ ?_); · first | decide | exact beqN (by assumption) | exact ltF (by assumption) (by decide) | exact bneN (by assumption))
      | ((with_reducible apply bstep); · exact rfl)
      | dsimp only)
    first | done | exact rfl
  · skip
    have hm : M.m.n ≠ 2 := by omega
    have nB : B.m.n = 3 := (B_vext eB).n.trans hn
    have mB : B.m.n ≠ 2 := by omega
    have nR01 : R01.2.m.n = 3 := (D_vext eR01).n.trans nB
    have mR01 : R01.2.m.n ≠ 2 := by omega
    have nR02 : R02.2.m.n = 3 := (D_vext eR02).n.trans nR01
    have mR02 : R02.2.m.n ≠ 2 := by omega
    have nR12 : R12.2.m.n = 3 := (D_vext eR12).n.trans nR02
    have mR12 : R12.2.m.n ≠ 2 := by omega
    have nP00 : P00.2.m.n = 3 := (D_vext eP00).n.trans nR12
    have mP00 : P00.2.m.n ≠ 2 := by omega
    have nP01 : P01.2.m.n = 3 := (D_vext eP01).n.trans nP00
    have mP01 : P01.2.m.n ≠ 2 := by omega
    have nP02 : P02.2.m.n = 3 := (D_vext eP02).n.trans nP01
    have mP02 : P02.2.m.n ≠ 2 := by omega
    have nP10 : P10.2.m.n = 3 := (D_vext eP10).n.trans nP02
    have mP10 : P10.2.m.n ≠ 2 := by omega
    have nP11 : P11.2.m.n = 3 := (D_vext eP11).n.trans nP10
    have mP11 : P11.2.m.n ≠ 2 := by omega
    have nP12 : P12.2.m.n = 3 := (D_vext eP12).n.trans nP11
    have mP12 : P12.2.m.n ≠ 2 := by omega
    have nP20 : P20.2.m.n = 3 := (D_vext eP20).n.trans nP12
    have mP20 : P20.2.m.n ≠ 2 := by omega
    have nP21 : P21.2.m.n = 3 := (D_vext eP21).n.trans nP20
    have mP21 : P21.2.m.n ≠ 2 := by omega
    have nP22 : P22.2.m.n = 3 := (D_vext eP22).n.trans nP21
    have mP22 : P22.2.m.n ≠ 2 := by omega
    have nA01 : A01.2.m.n = 3 := (D_vext eA01).n.trans nP22
    have mA01 : A01.2.m.n ≠ 2 := by omega
    have nO01 : O01.2.m.n = 3 := (D_vext eO01).n.trans nA01
    have mO01 : O01.2.m.n ≠ 2 := by omega
    have nA02 : A02.2.m.n = 3 := (D_vext eA02).n.trans nO01
    have mA02 : A02.2.m.n ≠ 2 := by omega
    have nO02 : O02.2.m.n = 3 := (D_vext eO02).n.trans nA02
    have mO02 : O02.2.m.n ≠ 2 := by omega
    have nA10 : A10.2.m.n = 3 := (D_vext eA10).n.trans nO02
    have mA10 : A10.2.m.n ≠ 2 := by omega
    have nO10 : O10.2.m.n = 3 := (D_vext eO10).n.trans nA10
    have mO10 : O10.2.m.n ≠ 2 := by omega
    have nA12 : A12.2.m.n = 3 := (D_vext eA12).n.trans nO10
    have mA12 : A12.2.m.n ≠ 2 := by omega
    have nO12 : O12.2.m.n = 3 := (D_vext eO12).n.trans nA12
    have mO12 : O12.2.m.n ≠ 2 := by omega
    have nA20 : A20.2.m.n = 3 := (D_vext eA20).n.trans nO12
    have mA20 : A20.2.m.n ≠ 2 := by omega
    have nO20 : O20.2.m.n = 3 := (D_vext eO20).n.trans nA20
    have mO20 : O20.2.m.n ≠ 2 := by omega
    have nA21 : A21.2.m.n = 3 := (D_vext eA21).n.trans nO20
    have mA21 : A21.2.m.n ≠ 2 := by omega
    have nO21 : O21.2.m.n = 3 := (D_vext eO21).n.trans nA21
    have mO21 : O21.2.m.n ≠ 2 := by omega
    unfold times_Dom.m
    repeat (first
      | with_reducible refine bstep (N_v (by assumption)) ?_
      | with_reducible refine bstep (Begin_v (by assumption)) ?_
      | with_reducible refine bstep (Two_v (by assumption) (by omega)) ?_
      | with_reducible refine bstep (Rand_v (by assumption) (by omega)) ?_
      | with_reducible refine bstep (End_v (by assumption)) ?_
      | ((with_reducible refine iteP ?_ ?_); · first | exact rfl | exact Nat.le_of_ble_eq_true rfl | decide)
      | ((with_reducible refine bifT ?_ ?_); · first | decide | exact beqT (by assumption) | exact ltT (by assumption) (by decide) | exact bneT (by assumption))
      | ((with_reducible refine bifF ?_ ?_); · first | decide | exact beqN (by assumption) | exact ltF (by assumption) (by decide) | exact bneN (by assumption))
      | ((with_reducible apply bstep); · exact rfl)
      | dsimp only)
    first | done | exact rfl
theorem DoC.s {M M' F : WM} {a0 : Int} {b0 : Int} {c0 : Int} {a1 : Int} {b1 : Int} {c1 : Int} {o0 o1 o2 : Int} (h : DoC M a0 b0 c0 a1 b1 c1 o0 o1 o2 M') (x : Ext M' F) (hF : F.m.bad = 0) {z0 z1 : BitVec 64} (s0 : Stands F a0 b0 c0 z0) (s1 : Stands F a1 b1 c1 z1) : Stands F o0 o1 o2 (z0 &&& z1) := by
  rcases h with ⟨B, R01, P00, P01, P10, P11, A01, O01, A10, O10, E, hn, eB, eR01, eP00, eP01, eP10, eP11, eA01, eO01, eA10, eO10, eE, rfl, rfl, rfl, rfl⟩ | ⟨B, R01, R02, R12, P00, P01, P02, P10, P11, P12, P20, P21, P22, A01, O01, A02, O02, A10, O10, A12, O12, A20, O20, A21, O21, E, hn, eB, eR01, eR02, eR12, eP00, eP01, eP02, eP10, eP11, eP12, eP20, eP21, eP22, eA01, eO01, eA02, eO02, eA10, eO10, eA12, eO12, eA20, eO20, eA21, eO21, eE, rfl, rfl, rfl, rfl⟩
  · have x11 := x
    have x10 := (E_vext eE).trans x11
    have x9 := (D_vext eO10).trans x10
    have x8 := (D_vext eA10).trans x9
    have x7 := (D_vext eO01).trans x8
    have x6 := (D_vext eA01).trans x7
    have x5 := (D_vext eP11).trans x6
    have x4 := (D_vext eP10).trans x5
    have x3 := (D_vext eP01).trans x4
    have x2 := (D_vext eP00).trans x3
    have x1 := (D_vext eR01).trans x2
    have x0 := (B_vext eB).trans x1
    have nF : F.m.n = 2 := x0.n.trans hn
    obtain ⟨_, hc0, p0, q0, vp0, vq0, rfl⟩ : F.m.n = 2 ∧ _ := by
      rcases s0 with h | h
      · exact h
      · exact absurd h.1 (by omega)
    obtain ⟨_, hc1, p1, q1, vp1, vq1, rfl⟩ : F.m.n = 2 ∧ _ := by
      rcases s1 with h | h
      · exact h
      · exact absurd h.1 (by omega)
    obtain ⟨zR01, vR01⟩ := F_rand eR01 x2 hF
    have vP00 := F_and eP00 x3 hF vp0 vp1
    have vP01 := F_and eP01 x4 hF vp0 vq1
    have vP10 := F_and eP10 x5 hF vq0 vp1
    have vP11 := F_and eP11 x6 hF vq0 vq1
    have vA01 := F_xor eA01 x7 hF vP01 vR01
    have vO01 := F_xor eO01 x8 hF vP00 vA01
    have vA10 := F_xor eA10 x9 hF vP10 vR01
    have vO10 := F_xor eO10 x10 hF vP11 vA10
    refine .inl ⟨nF, rfl, _, _, vO01, vO10, ?_⟩
    apply BitVec.eq_of_getLsbD_eq; intro i hi
    simp only [BitVec.getLsbD_xor, BitVec.getLsbD_and]
    generalize BitVec.getLsbD p0 i = yp0
    generalize BitVec.getLsbD q0 i = yq0
    generalize BitVec.getLsbD p1 i = yp1
    generalize BitVec.getLsbD q1 i = yq1
    generalize BitVec.getLsbD zR01 i = yzR01
    revert yp0 yq0 yp1 yq1 yzR01
    decide
  · have x26 := x
    have x25 := (E_vext eE).trans x26
    have x24 := (D_vext eO21).trans x25
    have x23 := (D_vext eA21).trans x24
    have x22 := (D_vext eO20).trans x23
    have x21 := (D_vext eA20).trans x22
    have x20 := (D_vext eO12).trans x21
    have x19 := (D_vext eA12).trans x20
    have x18 := (D_vext eO10).trans x19
    have x17 := (D_vext eA10).trans x18
    have x16 := (D_vext eO02).trans x17
    have x15 := (D_vext eA02).trans x16
    have x14 := (D_vext eO01).trans x15
    have x13 := (D_vext eA01).trans x14
    have x12 := (D_vext eP22).trans x13
    have x11 := (D_vext eP21).trans x12
    have x10 := (D_vext eP20).trans x11
    have x9 := (D_vext eP12).trans x10
    have x8 := (D_vext eP11).trans x9
    have x7 := (D_vext eP10).trans x8
    have x6 := (D_vext eP02).trans x7
    have x5 := (D_vext eP01).trans x6
    have x4 := (D_vext eP00).trans x5
    have x3 := (D_vext eR12).trans x4
    have x2 := (D_vext eR02).trans x3
    have x1 := (D_vext eR01).trans x2
    have x0 := (B_vext eB).trans x1
    have nF : F.m.n = 3 := x0.n.trans hn
    obtain ⟨_, p0, q0, r0, vp0, vq0, vr0, rfl⟩ : F.m.n = 3 ∧ _ := by
      rcases s0 with h | h
      · exact absurd h.1 (by omega)
      · exact h
    obtain ⟨_, p1, q1, r1, vp1, vq1, vr1, rfl⟩ : F.m.n = 3 ∧ _ := by
      rcases s1 with h | h
      · exact absurd h.1 (by omega)
      · exact h
    obtain ⟨zR01, vR01⟩ := F_rand eR01 x2 hF
    obtain ⟨zR02, vR02⟩ := F_rand eR02 x3 hF
    obtain ⟨zR12, vR12⟩ := F_rand eR12 x4 hF
    have vP00 := F_and eP00 x5 hF vp0 vp1
    have vP01 := F_and eP01 x6 hF vp0 vq1
    have vP02 := F_and eP02 x7 hF vp0 vr1
    have vP10 := F_and eP10 x8 hF vq0 vp1
    have vP11 := F_and eP11 x9 hF vq0 vq1
    have vP12 := F_and eP12 x10 hF vq0 vr1
    have vP20 := F_and eP20 x11 hF vr0 vp1
    have vP21 := F_and eP21 x12 hF vr0 vq1
    have vP22 := F_and eP22 x13 hF vr0 vr1
    have vA01 := F_xor eA01 x14 hF vP01 vR01
    have vO01 := F_xor eO01 x15 hF vP00 vA01
    have vA02 := F_xor eA02 x16 hF vP02 vR02
    have vO02 := F_xor eO02 x17 hF vO01 vA02
    have vA10 := F_xor eA10 x18 hF vP10 vR01
    have vO10 := F_xor eO10 x19 hF vP11 vA10
    have vA12 := F_xor eA12 x20 hF vP12 vR12
    have vO12 := F_xor eO12 x21 hF vO10 vA12
    have vA20 := F_xor eA20 x22 hF vP20 vR02
    have vO20 := F_xor eO20 x23 hF vP22 vA20
    have vA21 := F_xor eA21 x24 hF vP21 vR12
    have vO21 := F_xor eO21 x25 hF vO20 vA21
    refine .inr ⟨nF, _, _, _, vO02, vO12, vO21, ?_⟩
    apply BitVec.eq_of_getLsbD_eq; intro i hi
    simp only [BitVec.getLsbD_xor, BitVec.getLsbD_and]
    generalize BitVec.getLsbD p0 i = yp0
    generalize BitVec.getLsbD q0 i = yq0
    generalize BitVec.getLsbD r0 i = yr0
    generalize BitVec.getLsbD p1 i = yp1
    generalize BitVec.getLsbD q1 i = yq1
    generalize BitVec.getLsbD r1 i = yr1
    generalize BitVec.getLsbD zR01 i = yzR01
    generalize BitVec.getLsbD zR02 i = yzR02
    generalize BitVec.getLsbD zR12 i = yzR12
    revert yp0 yq0 yr0 yp1 yq1 yr1 yzR01 yzR02 yzR12
    decide
theorem By_Do {k : Nat} (hk : 90 ≤ k) {M M' : WM} {a0 b0 c0 a1 b1 c1 o0 o1 o2 : Int} (h : DoC M a0 b0 c0 a1 b1 c1 o0 o1 o2 M') : times_By.m k M.m 2 [ci a0, ci b0, ci c0] [ci a1, ci b1, ci c1] = some ([ci o0, ci o1, ci o2], M'.m) := by
  unfold times_By.m
  rw [show ((2 : Int) == 2) = true from rfl, cond_true, if_pos (by rfl), if_pos (by rfl), h.p hk, Option.bind_some, if_pos (by rfl)]
/-! Where there is room, and masks, nothing fails: 'd' masks, and 'q' ops, are still to be had. -/
structure Fine (M : WM) (p : Bool) (d q : Nat) : Prop where
  bad : M.m.bad = 0
  op : M.m.openF = 0 ↔ p = false
  room : (M.m.ops.length : Int) + q ≤ M.m.most
  free : (d : Int) ≤ M.m.tape.free
  left : M.m.tape.used.v + (d : Int) ≤ (M.m.tape.words.length : Int)
abbrev Reg (M : WM) (r : Int) : Prop := 0 ≤ r ∧ r < (M.m.ops.length : Int)
theorem Rt_of {o : Tapi_Op} {len n : Int} (h1 : okHead o n) (h2 : okRegs o len n) (h3 : okConst o = true) : Rt o len n = true := by
  unfold Rt; rw [decide_eq_true h1, decide_eq_true h2, h3]; rfl
theorem okh {kd dom a b dd c n : Int} (h : 1 ≤ kd ∧ kd ≤ 12 ∧ kd ≠ 12) (hd : -1 ≤ dom ∧ dom < n) : okHead ⟨kd, dom, a, b, dd, c⟩ n := ⟨h.1, h.2.1, hd.1, hd.2, fun e => absurd e h.2.2⟩
theorem Rt_rnd {dom len n : Int} (hn : n = 2 ∨ n = 3) (hd : -1 ≤ dom ∧ dom < n) : Rt ⟨1, dom, -1, -1, -1, 0⟩ len n = true := by
  have hr : opRegs 1 n = 0 := rfl
  refine Rt_of (okh (by decide) hd) ?_ rfl
  unfold okRegs okReg; dsimp only; rw [hr]; omega
theorem Rt_const {kd dom c len n : Int} (hn : n = 2 ∨ n = 3) (hk : kd = 3 ∨ kd = 4) (hd : -1 ≤ dom ∧ dom < n) : kd ≠ 1 ∧ kd ≠ 2 ∧ Rt ⟨kd, dom, -1, -1, -1, c⟩ len n = true := by
  refine ⟨by omega, by omega, ?_⟩
  rcases hk with rfl | rfl
  · have hr : opRegs 3 n = 0 := rfl
    refine Rt_of (okh (by decide) hd) ?_ rfl
    unfold okRegs okReg; dsimp only; rw [hr]; omega
  · have hr : opRegs 4 n = 0 := rfl
    refine Rt_of (okh (by decide) hd) ?_ rfl
    unfold okRegs okReg; dsimp only; rw [hr]; omega
theorem Rt_two {kd dom a b len n : Int} (hn : n = 2 ∨ n = 3) (hk : kd = 5 ∨ kd = 7) (hd : -1 ≤ dom ∧ dom < n) (ha : 0 ≤ a ∧ a < len) (hb : 0 ≤ b ∧ b < len) : kd ≠ 1 ∧ kd ≠ 2 ∧ Rt ⟨kd, dom, a, b, -1, 0⟩ len n = true := by
  refine ⟨by omega, by omega, ?_⟩
  rcases hk with rfl | rfl
  · have hr : opRegs 5 n = 2 := rfl
    refine Rt_of (okh (by decide) hd) ?_ rfl
    unfold okRegs okReg; dsimp only; rw [hr]; omega
  · have hr : opRegs 7 n = 2 := rfl
    refine Rt_of (okh (by decide) hd) ?_ rfl
    unfold okRegs okReg; dsimp only; rw [hr]; omega
theorem Rt_one {kd dom a c len n : Int} (hn : n = 2 ∨ n = 3) (hk : kd = 6 ∨ kd = 10) (hd : -1 ≤ dom ∧ dom < n) (ha : 0 ≤ a ∧ a < len) (hc : (kd = 6 → c = 0) ∧ (kd = 10 → c < 64)) : kd ≠ 1 ∧ kd ≠ 2 ∧ Rt ⟨kd, dom, a, -1, -1, c⟩ len n = true := by
  refine ⟨by omega, by omega, ?_⟩
  rcases hk with rfl | rfl
  · have hr : opRegs 6 n = 1 := rfl
    have e := hc.1 rfl; subst e
    refine Rt_of (okh (by decide) hd) ?_ rfl
    unfold okRegs okReg; dsimp only; rw [hr]; omega
  · have hr : opRegs 10 n = 1 := rfl
    refine Rt_of (okh (by decide) hd) ?_ (by
      show (if (10 : Int) = 9 ∨ (10 : Int) = 10 ∨ (10 : Int) = 11 then decide (c < 64) else _) = true
      rw [if_pos (by decide)]; exact decide_eq_true (hc.2 rfl))
    unfold okRegs okReg; dsimp only; rw [hr]; omega
theorem D_fo {M : WM} {X : Int × WM} {o : Tapi_Op} {x : Int} {p : Bool} {d q : Nat} (e : X = M.D o x) (f : Fine M p d (q + 1)) (hR : o.kind ≠ 1 ∧ o.kind ≠ 2 ∧ Rt o (M.m.ops.length : Int) M.m.n = true) :
    Fine X.2 p d q ∧ X.1 = (M.m.ops.length : Int) ∧ X.2.m.ops.length = M.m.ops.length + 1 ∧ X.2.m.draws = M.m.draws ∧ X.2.m.n = M.m.n := by
  have hd := M.w.dry
  have hro := f.room
  have hr : rightM M.m o = true := by
    unfold rightM
    rw [M.w.len, hR.2.2, bneT hR.2.1]; rfl
  have ed : doM M.m o x = pushM M.m o x := by
    unfold doM
    rw [if_neg (by rw [f.bad]; omega), if_neg (by rw [hr]; decide), if_neg (by omega), if_neg (by rw [hd]; exact fun h => hR.1 h.1)]
  rw [pushM_wet hd] at ed
  subst e
  have e1 : (M.D o x).1 = (doM M.m o x).1 := rfl
  have e2 : (M.D o x).2.m = (doM M.m o x).2 := rfl
  rw [e1, e2, ed]
  refine ⟨⟨?_, ?_, ?_, ?_, ?_⟩, rfl, by simp, ?_, rfl⟩
  · rw [e2, ed]; exact f.bad
  · rw [e2, ed]; exact f.op
  · rw [e2, ed]; simp; omega
  · rw [e2, ed]; exact f.free
  · rw [e2, ed]; exact f.left
  · simp [hR.1]
theorem D_fr {M : WM} {X : Int × WM} {dom : Int} {p : Bool} {d q : Nat} (e : X = M.D ⟨1, dom, -1, -1, -1, 0⟩ 0) (f : Fine M p (d + 1) (q + 1)) (hR : Rt ⟨1, dom, -1, -1, -1, 0⟩ (M.m.ops.length : Int) M.m.n = true) :
    Fine X.2 p d q ∧ X.1 = (M.m.ops.length : Int) ∧ X.2.m.ops.length = M.m.ops.length + 1 ∧ X.2.m.draws = M.m.draws + 1 ∧ X.2.m.n = M.m.n := by
  have hd := M.w.dry
  have hro := f.room
  have hfr := f.free
  have hle := f.left
  have hr : rightM M.m ⟨1, dom, -1, -1, -1, 0⟩ = true := by
    unfold rightM
    rw [M.w.len, hR]; rfl
  have ed : doM M.m ⟨1, dom, -1, -1, -1, 0⟩ 0 = pushM (drawnM M.m) ⟨1, dom, -1, -1, -1, 0⟩ (atI M.m.tape.words M.m.tape.used.v) := by
    unfold doM
    rw [if_neg (by rw [f.bad]; omega), if_neg (by rw [hr]; decide), if_neg (by omega), if_pos ⟨rfl, hd⟩, if_neg (by unfold noMask; omega)]
  rw [pushM_wet (m := drawnM M.m) hd] at ed
  subst e
  have e1 : (M.D ⟨1, dom, -1, -1, -1, 0⟩ 0).1 = (doM M.m ⟨1, dom, -1, -1, -1, 0⟩ 0).1 := rfl
  have e2 : (M.D ⟨1, dom, -1, -1, -1, 0⟩ 0).2.m = (doM M.m ⟨1, dom, -1, -1, -1, 0⟩ 0).2 := rfl
  rw [e1, e2, ed]
  refine ⟨⟨?_, ?_, ?_, ?_, ?_⟩, rfl, by simp [drawnM], by simp [drawnM], rfl⟩
  · rw [e2, ed]; exact f.bad
  · rw [e2, ed]; exact f.op
  · rw [e2, ed]; simp [drawnM]; omega
  · rw [e2, ed]; simp [drawnM]; omega
  · rw [e2, ed]; simp [drawnM]; omega
theorem B_fine {M B : WM} {kd : Int} {d q : Nat} (e : B = M.B kd) (f : Fine M false d q) (hk : 1 ≤ kd ∧ kd ≤ 3) : Fine B true d q ∧ B.m.ops.length = M.m.ops.length ∧ B.m.draws = M.m.draws ∧ B.m.n = M.m.n := by
  subst e
  have ho := f.op.2 rfl
  have e2 : (M.B kd).m = ⟨M.m.n, M.m.most, M.m.base, M.m.words, M.m.draws, M.m.dry, kd, M.m.len, M.m.bad, M.m.tape, M.m.ops, M.m.values, M.m.blocks⟩ := by
    show beginM M.m kd = _
    unfold beginM
    rw [if_neg (by rw [f.bad]; omega), if_neg (by omega)]
  refine ⟨⟨?_, ?_, ?_, ?_, ?_⟩, by rw [e2], by rw [e2], by rw [e2]⟩
  · rw [e2]; exact f.bad
  · rw [e2]; exact ⟨fun h => by change kd = 0 at h; omega, fun h => (by cases h)⟩
  · rw [e2]; exact f.room
  · rw [e2]; exact f.free
  · rw [e2]; exact f.left
theorem E_fine {M B : WM} {d q : Nat} (e : B = M.E) (f : Fine M true d q) : Fine B false d q ∧ B.m.ops.length = M.m.ops.length ∧ B.m.draws = M.m.draws ∧ B.m.n = M.m.n := by
  subst e
  have ho : M.m.openF ≠ 0 := fun h => by have := f.op.1 h; cases this
  have e2 : M.E.m = ⟨M.m.n, M.m.most, M.m.base, M.m.words, M.m.draws, M.m.dry, 0, M.m.fromF, M.m.bad, M.m.tape, M.m.ops, M.m.values, if M.m.fromF < M.m.len ∧ M.m.dry = false then M.m.blocks ++ [⟨M.m.openF, M.m.fromF, M.m.len⟩] else M.m.blocks⟩ := by
    show endM M.m = _
    unfold endM
    rw [if_neg (by rw [f.bad]; omega), if_neg ho]
  refine ⟨⟨?_, ?_, ?_, ?_, ?_⟩, by rw [e2], by rw [e2], by rw [e2]⟩
  · rw [e2]; exact f.bad
  · rw [e2]; exact ⟨fun _ => rfl, fun _ => rfl⟩
  · rw [e2]; exact f.room
  · rw [e2]; exact f.free
  · rw [e2]; exact f.left
theorem rg {r : Int} {L j i len : Nat} (hr : r = ((L + j : Nat) : Int)) (hl : len = L + i) (h : j < i) : 0 ≤ r ∧ r < (len : Int) := by omega
theorem rgi {r : Int} {L i len : Nat} (hr : 0 ≤ r ∧ r < (L : Int)) (hl : len = L + i) : 0 ≤ r ∧ r < (len : Int) := by omega
theorem dm {n N dom : Int} (h : n = N) (hd : -1 ≤ dom ∧ dom < N) : -1 ≤ dom ∧ dom < n := h ▸ hd
theorem ln1 {a b L i : Nat} (h : a = b + 1) (h2 : b = L + i) : a = L + (i + 1) := by omega
theorem rr1 {r : Int} {b L i : Nat} (h : r = (b : Int)) (h2 : b = L + i) : r = ((L + i : Nat) : Int) := by omega
theorem wn1 {a b D k : Int} (h : a = b + 1) (h2 : b = D + k) : a = D + (k + 1) := by omega
/-! Nothing fails where there is room, and masks (printed by wip/gen/fine.py). -/
set_option maxHeartbeats 4000000 in
theorem PubC.f2 {M M' : WM} {c : Int} {o0 o1 o2 : Int} (h : PubC M c o0 o1 o2 M') (hn : M.m.n = 2) {d q : Nat} (f0 : Fine M false (d + 0) (q + 2)) :
    Fine M' false d q ∧ M'.m.draws = M.m.draws + 0 ∧ M'.m.ops.length = M.m.ops.length + 2 ∧ Reg M' o0 ∧ Reg M' o1 := by
  rcases h with ⟨X0, X1, hm, eX0, eX1, rfl, rfl, rfl, rfl⟩ | ⟨X0, X1, X2, hm, eX0, eX1, eX2, rfl, rfl, rfl, rfl⟩
  · have l0 : M.m.ops.length = M.m.ops.length + 0 := rfl
    have w0 : M.m.draws = M.m.draws + 0 := (Int.add_zero _).symm
    have n0 := hn
    obtain ⟨f1, r, l, w, n⟩ := D_fo eX0 (q := q + 1) (d := d + 0) f0 (Rt_const (kd := 3) (.inl n0) (by decide) (dm n0 (by decide)))
    have rX0 := rr1 r l0
    have l1 := ln1 l l0
    have w1 := w.trans w0
    have n1 := n.trans n0
    clear l w n r l0 w0
    obtain ⟨f2, r, l, w, n⟩ := D_fo eX1 (q := q + 0) (d := d + 0) f1 (Rt_const (kd := 3) (.inl n1) (by decide) (dm n1 (by decide)))
    have rX1 := rr1 r l1
    have l2 := ln1 l l1
    have w2 := w.trans w1
    have n2 := n.trans n1
    clear l w n r l1 w1
    exact ⟨f2, w2, l2, (rg rX0 l2 (by decide)), (rg rX1 l2 (by decide))⟩
  · omega
set_option maxHeartbeats 4000000 in
theorem PubC.f3 {M M' : WM} {c : Int} {o0 o1 o2 : Int} (h : PubC M c o0 o1 o2 M') (hn : M.m.n = 3) {d q : Nat} (f0 : Fine M false (d + 0) (q + 3)) :
    Fine M' false d q ∧ M'.m.draws = M.m.draws + 0 ∧ M'.m.ops.length = M.m.ops.length + 3 ∧ Reg M' o0 ∧ Reg M' o1 ∧ Reg M' o2 := by
  rcases h with ⟨X0, X1, hm, eX0, eX1, rfl, rfl, rfl, rfl⟩ | ⟨X0, X1, X2, hm, eX0, eX1, eX2, rfl, rfl, rfl, rfl⟩
  · omega
  · have l0 : M.m.ops.length = M.m.ops.length + 0 := rfl
    have w0 : M.m.draws = M.m.draws + 0 := (Int.add_zero _).symm
    have n0 := hn
    obtain ⟨f1, r, l, w, n⟩ := D_fo eX0 (q := q + 2) (d := d + 0) f0 (Rt_const (kd := 3) (.inr n0) (by decide) (dm n0 (by decide)))
    have rX0 := rr1 r l0
    have l1 := ln1 l l0
    have w1 := w.trans w0
    have n1 := n.trans n0
    clear l w n r l0 w0
    obtain ⟨f2, r, l, w, n⟩ := D_fo eX1 (q := q + 1) (d := d + 0) f1 (Rt_const (kd := 3) (.inr n1) (by decide) (dm n1 (by decide)))
    have rX1 := rr1 r l1
    have l2 := ln1 l l1
    have w2 := w.trans w1
    have n2 := n.trans n1
    clear l w n r l1 w1
    obtain ⟨f3, r, l, w, n⟩ := D_fo eX2 (q := q + 0) (d := d + 0) f2 (Rt_const (kd := 3) (.inr n2) (by decide) (dm n2 (by decide)))
    have rX2 := rr1 r l2
    have l3 := ln1 l l2
    have w3 := w.trans w2
    have n3 := n.trans n2
    clear l w n r l2 w2
    exact ⟨f3, w3, l3, (rg rX0 l3 (by decide)), (rg rX1 l3 (by decide)), (rg rX2 l3 (by decide))⟩
set_option maxHeartbeats 4000000 in
theorem NtC.f2 {M M' : WM} {a : Int} {b : Int} {c : Int} {o0 o1 o2 : Int} (h : NtC M a b c o0 o1 o2 M') (hn : M.m.n = 2) {d q : Nat} (f0 : Fine M false (d + 0) (q + 1)) (ha : Reg M a) (hb : Reg M b) :
    Fine M' false d q ∧ M'.m.draws = M.m.draws + 0 ∧ M'.m.ops.length = M.m.ops.length + 1 ∧ Reg M' o0 ∧ Reg M' o1 := by
  obtain ⟨X0, eX0, rfl, rfl, rfl, rfl⟩ := h
  have l0 : M.m.ops.length = M.m.ops.length + 0 := rfl
  have w0 : M.m.draws = M.m.draws + 0 := (Int.add_zero _).symm
  have n0 := hn
  obtain ⟨f1, r, l, w, n⟩ := D_fo eX0 (q := q + 0) (d := d + 0) f0 (Rt_one (kd := 6) (c := 0) (.inl n0) (by decide) (dm n0 (by decide)) (rgi ha l0) (by decide))
  have rX0 := rr1 r l0
  have l1 := ln1 l l0
  have w1 := w.trans w0
  have n1 := n.trans n0
  clear l w n r l0 w0
  exact ⟨f1, w1, l1, (rg rX0 l1 (by decide)), (rgi hb l1)⟩
set_option maxHeartbeats 4000000 in
theorem NtC.f3 {M M' : WM} {a : Int} {b : Int} {c : Int} {o0 o1 o2 : Int} (h : NtC M a b c o0 o1 o2 M') (hn : M.m.n = 3) {d q : Nat} (f0 : Fine M false (d + 0) (q + 1)) (ha : Reg M a) (hb : Reg M b) (hc : Reg M c) :
    Fine M' false d q ∧ M'.m.draws = M.m.draws + 0 ∧ M'.m.ops.length = M.m.ops.length + 1 ∧ Reg M' o0 ∧ Reg M' o1 ∧ Reg M' o2 := by
  obtain ⟨X0, eX0, rfl, rfl, rfl, rfl⟩ := h
  have l0 : M.m.ops.length = M.m.ops.length + 0 := rfl
  have w0 : M.m.draws = M.m.draws + 0 := (Int.add_zero _).symm
  have n0 := hn
  obtain ⟨f1, r, l, w, n⟩ := D_fo eX0 (q := q + 0) (d := d + 0) f0 (Rt_one (kd := 6) (c := 0) (.inr n0) (by decide) (dm n0 (by decide)) (rgi ha l0) (by decide))
  have rX0 := rr1 r l0
  have l1 := ln1 l l0
  have w1 := w.trans w0
  have n1 := n.trans n0
  clear l w n r l0 w0
  exact ⟨f1, w1, l1, (rg rX0 l1 (by decide)), (rgi hb l1), (rgi hc l1)⟩
set_option maxHeartbeats 4000000 in
theorem OnC.f2 {M M' : WM} {a : Int} {b : Int} {c : Int} {w : Int} {o0 o1 o2 : Int} (h : OnC M 10 a b c w o0 o1 o2 M') (hn : M.m.n = 2) {d q : Nat} (f0 : Fine M false (d + 0) (q + 2)) (hw : w < 64) (ha : Reg M a) (hb : Reg M b) :
    Fine M' false d q ∧ M'.m.draws = M.m.draws + 0 ∧ M'.m.ops.length = M.m.ops.length + 2 ∧ Reg M' o0 ∧ Reg M' o1 := by
  rcases h with ⟨X0, X1, hm, eX0, eX1, rfl, rfl, rfl, rfl⟩ | ⟨X0, X1, X2, hm, eX0, eX1, eX2, rfl, rfl, rfl, rfl⟩
  · have l0 : M.m.ops.length = M.m.ops.length + 0 := rfl
    have w0 : M.m.draws = M.m.draws + 0 := (Int.add_zero _).symm
    have n0 := hn
    obtain ⟨f1, r, l, w, n⟩ := D_fo eX0 (q := q + 1) (d := d + 0) f0 (Rt_one (kd := 10) (.inl n0) (by decide) (dm n0 (by decide)) (rgi ha l0) ⟨fun h => absurd h (by decide), fun _ => hw⟩)
    have rX0 := rr1 r l0
    have l1 := ln1 l l0
    have w1 := w.trans w0
    have n1 := n.trans n0
    clear l w n r l0 w0
    obtain ⟨f2, r, l, w, n⟩ := D_fo eX1 (q := q + 0) (d := d + 0) f1 (Rt_one (kd := 10) (.inl n1) (by decide) (dm n1 (by decide)) (rgi hb l1) ⟨fun h => absurd h (by decide), fun _ => hw⟩)
    have rX1 := rr1 r l1
    have l2 := ln1 l l1
    have w2 := w.trans w1
    have n2 := n.trans n1
    clear l w n r l1 w1
    exact ⟨f2, w2, l2, (rg rX0 l2 (by decide)), (rg rX1 l2 (by decide))⟩
  · omega
set_option maxHeartbeats 4000000 in
theorem OnC.f3 {M M' : WM} {a : Int} {b : Int} {c : Int} {w : Int} {o0 o1 o2 : Int} (h : OnC M 10 a b c w o0 o1 o2 M') (hn : M.m.n = 3) {d q : Nat} (f0 : Fine M false (d + 0) (q + 3)) (hw : w < 64) (ha : Reg M a) (hb : Reg M b) (hc : Reg M c) :
    Fine M' false d q ∧ M'.m.draws = M.m.draws + 0 ∧ M'.m.ops.length = M.m.ops.length + 3 ∧ Reg M' o0 ∧ Reg M' o1 ∧ Reg M' o2 := by
  rcases h with ⟨X0, X1, hm, eX0, eX1, rfl, rfl, rfl, rfl⟩ | ⟨X0, X1, X2, hm, eX0, eX1, eX2, rfl, rfl, rfl, rfl⟩
  · omega
  · have l0 : M.m.ops.length = M.m.ops.length + 0 := rfl
    have w0 : M.m.draws = M.m.draws + 0 := (Int.add_zero _).symm
    have n0 := hn
    obtain ⟨f1, r, l, w, n⟩ := D_fo eX0 (q := q + 2) (d := d + 0) f0 (Rt_one (kd := 10) (.inr n0) (by decide) (dm n0 (by decide)) (rgi ha l0) ⟨fun h => absurd h (by decide), fun _ => hw⟩)
    have rX0 := rr1 r l0
    have l1 := ln1 l l0
    have w1 := w.trans w0
    have n1 := n.trans n0
    clear l w n r l0 w0
    obtain ⟨f2, r, l, w, n⟩ := D_fo eX1 (q := q + 1) (d := d + 0) f1 (Rt_one (kd := 10) (.inr n1) (by decide) (dm n1 (by decide)) (rgi hb l1) ⟨fun h => absurd h (by decide), fun _ => hw⟩)
    have rX1 := rr1 r l1
    have l2 := ln1 l l1
    have w2 := w.trans w1
    have n2 := n.trans n1
    clear l w n r l1 w1
    obtain ⟨f3, r, l, w, n⟩ := D_fo eX2 (q := q + 0) (d := d + 0) f2 (Rt_one (kd := 10) (.inr n2) (by decide) (dm n2 (by decide)) (rgi hc l2) ⟨fun h => absurd h (by decide), fun _ => hw⟩)
    have rX2 := rr1 r l2
    have l3 := ln1 l l2
    have w3 := w.trans w2
    have n3 := n.trans n2
    clear l w n r l2 w2
    exact ⟨f3, w3, l3, (rg rX0 l3 (by decide)), (rg rX1 l3 (by decide)), (rg rX2 l3 (by decide))⟩
set_option maxHeartbeats 4000000 in
theorem FuC.f2 {M M' : WM} {a : Int} {b : Int} {c : Int} {o0 o1 o2 : Int} (h : FuC M a b c o0 o1 o2 M') (hn : M.m.n = 2) {d q : Nat} (f0 : Fine M false (d + 1) (q + 3)) (ha : Reg M a) (hb : Reg M b) :
    Fine M' false d q ∧ M'.m.draws = M.m.draws + 1 ∧ M'.m.ops.length = M.m.ops.length + 3 ∧ Reg M' o0 ∧ Reg M' o1 := by
  rcases h with ⟨B, R, X0, X1, E, hm, hp0, eB, eR, eX0, eX1, eE, rfl, rfl, rfl, rfl⟩ | ⟨B, R, S, T, X0, X1, X2, X3, X4, X5, E, hm, eB, eR, eS, eT, eX0, eX1, eX2, eX3, eX4, eX5, eE, rfl, rfl, rfl, rfl⟩
  · have l0 : M.m.ops.length = M.m.ops.length + 0 := rfl
    have w0 : M.m.draws = M.m.draws + 0 := (Int.add_zero _).symm
    have n0 := hn
    obtain ⟨f1, l, w, n⟩ := B_fine eB f0 (by decide)
    have l1 := l.trans l0
    have w1 := w.trans w0
    have n1 := n.trans n0
    clear l w n l0 w0
    obtain ⟨f2, r, l, w, n⟩ := D_fr eR (q := q + 2) (d := d + 0) f1 (Rt_rnd (.inl n1) (dm n1 (by decide)))
    have rR := rr1 r l1
    have l2 := ln1 l l1
    have w2 := wn1 w w1
    have n2 := n.trans n1
    clear l w n r l1 w1
    obtain ⟨f3, r, l, w, n⟩ := D_fo eX0 (q := q + 1) (d := d + 0) f2 (Rt_two (kd := 5) (.inl n2) (by decide) (dm n2 (by decide)) (rgi ha l2) (rg rR l2 (by decide)))
    have rX0 := rr1 r l2
    have l3 := ln1 l l2
    have w3 := w.trans w2
    have n3 := n.trans n2
    clear l w n r l2 w2
    obtain ⟨f4, r, l, w, n⟩ := D_fo eX1 (q := q + 0) (d := d + 0) f3 (Rt_two (kd := 5) (.inl n3) (by decide) (dm n3 (by decide)) (rgi hb l3) (rg rR l3 (by decide)))
    have rX1 := rr1 r l3
    have l4 := ln1 l l3
    have w4 := w.trans w3
    have n4 := n.trans n3
    clear l w n r l3 w3
    obtain ⟨f5, l, w, n⟩ := E_fine eE f4
    have l5 := l.trans l4
    have w5 := w.trans w4
    have n5 := n.trans n4
    clear l w n l4 w4
    exact ⟨f5, w5, l5, (rg rX0 l5 (by decide)), (rg rX1 l5 (by decide))⟩
  · omega
set_option maxHeartbeats 4000000 in
theorem FuC.f3 {M M' : WM} {a : Int} {b : Int} {c : Int} {o0 o1 o2 : Int} (h : FuC M a b c o0 o1 o2 M') (hn : M.m.n = 3) {d q : Nat} (f0 : Fine M false (d + 3) (q + 9)) (ha : Reg M a) (hb : Reg M b) (hc : Reg M c) :
    Fine M' false d q ∧ M'.m.draws = M.m.draws + 3 ∧ M'.m.ops.length = M.m.ops.length + 9 ∧ Reg M' o0 ∧ Reg M' o1 ∧ Reg M' o2 := by
  rcases h with ⟨B, R, X0, X1, E, hm, hp0, eB, eR, eX0, eX1, eE, rfl, rfl, rfl, rfl⟩ | ⟨B, R, S, T, X0, X1, X2, X3, X4, X5, E, hm, eB, eR, eS, eT, eX0, eX1, eX2, eX3, eX4, eX5, eE, rfl, rfl, rfl, rfl⟩
  · omega
  · have l0 : M.m.ops.length = M.m.ops.length + 0 := rfl
    have w0 : M.m.draws = M.m.draws + 0 := (Int.add_zero _).symm
    have n0 := hn
    obtain ⟨f1, l, w, n⟩ := B_fine eB f0 (by decide)
    have l1 := l.trans l0
    have w1 := w.trans w0
    have n1 := n.trans n0
    clear l w n l0 w0
    obtain ⟨f2, r, l, w, n⟩ := D_fr eR (q := q + 8) (d := d + 2) f1 (Rt_rnd (.inr n1) (dm n1 (by decide)))
    have rR := rr1 r l1
    have l2 := ln1 l l1
    have w2 := wn1 w w1
    have n2 := n.trans n1
    clear l w n r l1 w1
    obtain ⟨f3, r, l, w, n⟩ := D_fr eS (q := q + 7) (d := d + 1) f2 (Rt_rnd (.inr n2) (dm n2 (by decide)))
    have rS := rr1 r l2
    have l3 := ln1 l l2
    have w3 := wn1 w w2
    have n3 := n.trans n2
    clear l w n r l2 w2
    obtain ⟨f4, r, l, w, n⟩ := D_fr eT (q := q + 6) (d := d + 0) f3 (Rt_rnd (.inr n3) (dm n3 (by decide)))
    have rT := rr1 r l3
    have l4 := ln1 l l3
    have w4 := wn1 w w3
    have n4 := n.trans n3
    clear l w n r l3 w3
    obtain ⟨f5, r, l, w, n⟩ := D_fo eX0 (q := q + 5) (d := d + 0) f4 (Rt_two (kd := 5) (.inr n4) (by decide) (dm n4 (by decide)) (rgi ha l4) (rg rR l4 (by decide)))
    have rX0 := rr1 r l4
    have l5 := ln1 l l4
    have w5 := w.trans w4
    have n5 := n.trans n4
    clear l w n r l4 w4
    obtain ⟨f6, r, l, w, n⟩ := D_fo eX1 (q := q + 4) (d := d + 0) f5 (Rt_two (kd := 5) (.inr n5) (by decide) (dm n5 (by decide)) (rg rX0 l5 (by decide)) (rg rS l5 (by decide)))
    have rX1 := rr1 r l5
    have l6 := ln1 l l5
    have w6 := w.trans w5
    have n6 := n.trans n5
    clear l w n r l5 w5
    obtain ⟨f7, r, l, w, n⟩ := D_fo eX2 (q := q + 3) (d := d + 0) f6 (Rt_two (kd := 5) (.inr n6) (by decide) (dm n6 (by decide)) (rgi hb l6) (rg rR l6 (by decide)))
    have rX2 := rr1 r l6
    have l7 := ln1 l l6
    have w7 := w.trans w6
    have n7 := n.trans n6
    clear l w n r l6 w6
    obtain ⟨f8, r, l, w, n⟩ := D_fo eX3 (q := q + 2) (d := d + 0) f7 (Rt_two (kd := 5) (.inr n7) (by decide) (dm n7 (by decide)) (rg rX2 l7 (by decide)) (rg rT l7 (by decide)))
    have rX3 := rr1 r l7
    have l8 := ln1 l l7
    have w8 := w.trans w7
    have n8 := n.trans n7
    clear l w n r l7 w7
    obtain ⟨f9, r, l, w, n⟩ := D_fo eX4 (q := q + 1) (d := d + 0) f8 (Rt_two (kd := 5) (.inr n8) (by decide) (dm n8 (by decide)) (rgi hc l8) (rg rS l8 (by decide)))
    have rX4 := rr1 r l8
    have l9 := ln1 l l8
    have w9 := w.trans w8
    have n9 := n.trans n8
    clear l w n r l8 w8
    obtain ⟨f10, r, l, w, n⟩ := D_fo eX5 (q := q + 0) (d := d + 0) f9 (Rt_two (kd := 5) (.inr n9) (by decide) (dm n9 (by decide)) (rg rX4 l9 (by decide)) (rg rT l9 (by decide)))
    have rX5 := rr1 r l9
    have l10 := ln1 l l9
    have w10 := w.trans w9
    have n10 := n.trans n9
    clear l w n r l9 w9
    obtain ⟨f11, l, w, n⟩ := E_fine eE f10
    have l11 := l.trans l10
    have w11 := w.trans w10
    have n11 := n.trans n10
    clear l w n l10 w10
    exact ⟨f11, w11, l11, (rg rX1 l11 (by decide)), (rg rX3 l11 (by decide)), (rg rX5 l11 (by decide))⟩
set_option maxHeartbeats 4000000 in
theorem IsC.f2 {M M' : WM} {a0 : Int} {b0 : Int} {c0 : Int} {a1 : Int} {b1 : Int} {c1 : Int} {o0 o1 o2 : Int} (h : IsC M a0 b0 c0 a1 b1 c1 o0 o1 o2 M') (hn : M.m.n = 2) {d q : Nat} (f0 : Fine M false (d + 1) (q + 9)) (ha0 : Reg M a0) (hb0 : Reg M b0) (ha1 : Reg M a1) (hb1 : Reg M b1) :
    Fine M' false d q ∧ M'.m.draws = M.m.draws + 1 ∧ M'.m.ops.length = M.m.ops.length + 9 ∧ Reg M' o0 ∧ Reg M' o1 := by
  rcases h with ⟨B, R01, P00, P01, P10, P11, O01, A10, C10, O10, E, hm, eB, eR01, eP00, eP01, eP10, eP11, eO01, eA10, eC10, eO10, eE, rfl, rfl, rfl, rfl⟩ | ⟨B, R01, R02, R12, P00, P01, P02, P10, P11, P12, P20, P21, P22, O01, O02, A10, C10, O10, O12, A20, C20, O20, A21, C21, O21, E, hm, eB, eR01, eR02, eR12, eP00, eP01, eP02, eP10, eP11, eP12, eP20, eP21, eP22, eO01, eO02, eA10, eC10, eO10, eO12, eA20, eC20, eO20, eA21, eC21, eO21, eE, rfl, rfl, rfl, rfl⟩
  · have l0 : M.m.ops.length = M.m.ops.length + 0 := rfl
    have w0 : M.m.draws = M.m.draws + 0 := (Int.add_zero _).symm
    have n0 := hn
    obtain ⟨f1, l, w, n⟩ := B_fine eB f0 (by decide)
    have l1 := l.trans l0
    have w1 := w.trans w0
    have n1 := n.trans n0
    clear l w n l0 w0
    obtain ⟨f2, r, l, w, n⟩ := D_fr eR01 (q := q + 8) (d := d + 0) f1 (Rt_rnd (.inl n1) (dm n1 (by decide)))
    have rR01 := rr1 r l1
    have l2 := ln1 l l1
    have w2 := wn1 w w1
    have n2 := n.trans n1
    clear l w n r l1 w1
    obtain ⟨f3, r, l, w, n⟩ := D_fo eP00 (q := q + 7) (d := d + 0) f2 (Rt_two (kd := 7) (.inl n2) (by decide) (dm n2 (by decide)) (rgi ha0 l2) (rgi ha1 l2))
    have rP00 := rr1 r l2
    have l3 := ln1 l l2
    have w3 := w.trans w2
    have n3 := n.trans n2
    clear l w n r l2 w2
    obtain ⟨f4, r, l, w, n⟩ := D_fo eP01 (q := q + 6) (d := d + 0) f3 (Rt_two (kd := 7) (.inl n3) (by decide) (dm n3 (by decide)) (rgi ha0 l3) (rgi hb1 l3))
    have rP01 := rr1 r l3
    have l4 := ln1 l l3
    have w4 := w.trans w3
    have n4 := n.trans n3
    clear l w n r l3 w3
    obtain ⟨f5, r, l, w, n⟩ := D_fo eP10 (q := q + 5) (d := d + 0) f4 (Rt_two (kd := 7) (.inl n4) (by decide) (dm n4 (by decide)) (rgi hb0 l4) (rgi ha1 l4))
    have rP10 := rr1 r l4
    have l5 := ln1 l l4
    have w5 := w.trans w4
    have n5 := n.trans n4
    clear l w n r l4 w4
    obtain ⟨f6, r, l, w, n⟩ := D_fo eP11 (q := q + 4) (d := d + 0) f5 (Rt_two (kd := 7) (.inl n5) (by decide) (dm n5 (by decide)) (rgi hb0 l5) (rgi hb1 l5))
    have rP11 := rr1 r l5
    have l6 := ln1 l l5
    have w6 := w.trans w5
    have n6 := n.trans n5
    clear l w n r l5 w5
    obtain ⟨f7, r, l, w, n⟩ := D_fo eO01 (q := q + 3) (d := d + 0) f6 (Rt_two (kd := 5) (.inl n6) (by decide) (dm n6 (by decide)) (rg rP00 l6 (by decide)) (rg rR01 l6 (by decide)))
    have rO01 := rr1 r l6
    have l7 := ln1 l l6
    have w7 := w.trans w6
    have n7 := n.trans n6
    clear l w n r l6 w6
    obtain ⟨f8, r, l, w, n⟩ := D_fo eA10 (q := q + 2) (d := d + 0) f7 (Rt_two (kd := 5) (.inl n7) (by decide) (dm n7 (by decide)) (rg rR01 l7 (by decide)) (rg rP01 l7 (by decide)))
    have rA10 := rr1 r l7
    have l8 := ln1 l l7
    have w8 := w.trans w7
    have n8 := n.trans n7
    clear l w n r l7 w7
    obtain ⟨f9, r, l, w, n⟩ := D_fo eC10 (q := q + 1) (d := d + 0) f8 (Rt_two (kd := 5) (.inl n8) (by decide) (dm n8 (by decide)) (rg rA10 l8 (by decide)) (rg rP10 l8 (by decide)))
    have rC10 := rr1 r l8
    have l9 := ln1 l l8
    have w9 := w.trans w8
    have n9 := n.trans n8
    clear l w n r l8 w8
    obtain ⟨f10, r, l, w, n⟩ := D_fo eO10 (q := q + 0) (d := d + 0) f9 (Rt_two (kd := 5) (.inl n9) (by decide) (dm n9 (by decide)) (rg rP11 l9 (by decide)) (rg rC10 l9 (by decide)))
    have rO10 := rr1 r l9
    have l10 := ln1 l l9
    have w10 := w.trans w9
    have n10 := n.trans n9
    clear l w n r l9 w9
    obtain ⟨f11, l, w, n⟩ := E_fine eE f10
    have l11 := l.trans l10
    have w11 := w.trans w10
    have n11 := n.trans n10
    clear l w n l10 w10
    exact ⟨f11, w11, l11, (rg rO01 l11 (by decide)), (rg rO10 l11 (by decide))⟩
  · omega
set_option maxHeartbeats 4000000 in
theorem IsC.f3 {M M' : WM} {a0 : Int} {b0 : Int} {c0 : Int} {a1 : Int} {b1 : Int} {c1 : Int} {o0 o1 o2 : Int} (h : IsC M a0 b0 c0 a1 b1 c1 o0 o1 o2 M') (hn : M.m.n = 3) {d q : Nat} (f0 : Fine M false (d + 3) (q + 24)) (ha0 : Reg M a0) (hb0 : Reg M b0) (hc0 : Reg M c0) (ha1 : Reg M a1) (hb1 : Reg M b1) (hc1 : Reg M c1) :
    Fine M' false d q ∧ M'.m.draws = M.m.draws + 3 ∧ M'.m.ops.length = M.m.ops.length + 24 ∧ Reg M' o0 ∧ Reg M' o1 ∧ Reg M' o2 := by
  rcases h with ⟨B, R01, P00, P01, P10, P11, O01, A10, C10, O10, E, hm, eB, eR01, eP00, eP01, eP10, eP11, eO01, eA10, eC10, eO10, eE, rfl, rfl, rfl, rfl⟩ | ⟨B, R01, R02, R12, P00, P01, P02, P10, P11, P12, P20, P21, P22, O01, O02, A10, C10, O10, O12, A20, C20, O20, A21, C21, O21, E, hm, eB, eR01, eR02, eR12, eP00, eP01, eP02, eP10, eP11, eP12, eP20, eP21, eP22, eO01, eO02, eA10, eC10, eO10, eO12, eA20, eC20, eO20, eA21, eC21, eO21, eE, rfl, rfl, rfl, rfl⟩
  · omega
  · have l0 : M.m.ops.length = M.m.ops.length + 0 := rfl
    have w0 : M.m.draws = M.m.draws + 0 := (Int.add_zero _).symm
    have n0 := hn
    obtain ⟨f1, l, w, n⟩ := B_fine eB f0 (by decide)
    have l1 := l.trans l0
    have w1 := w.trans w0
    have n1 := n.trans n0
    clear l w n l0 w0
    obtain ⟨f2, r, l, w, n⟩ := D_fr eR01 (q := q + 23) (d := d + 2) f1 (Rt_rnd (.inr n1) (dm n1 (by decide)))
    have rR01 := rr1 r l1
    have l2 := ln1 l l1
    have w2 := wn1 w w1
    have n2 := n.trans n1
    clear l w n r l1 w1
    obtain ⟨f3, r, l, w, n⟩ := D_fr eR02 (q := q + 22) (d := d + 1) f2 (Rt_rnd (.inr n2) (dm n2 (by decide)))
    have rR02 := rr1 r l2
    have l3 := ln1 l l2
    have w3 := wn1 w w2
    have n3 := n.trans n2
    clear l w n r l2 w2
    obtain ⟨f4, r, l, w, n⟩ := D_fr eR12 (q := q + 21) (d := d + 0) f3 (Rt_rnd (.inr n3) (dm n3 (by decide)))
    have rR12 := rr1 r l3
    have l4 := ln1 l l3
    have w4 := wn1 w w3
    have n4 := n.trans n3
    clear l w n r l3 w3
    obtain ⟨f5, r, l, w, n⟩ := D_fo eP00 (q := q + 20) (d := d + 0) f4 (Rt_two (kd := 7) (.inr n4) (by decide) (dm n4 (by decide)) (rgi ha0 l4) (rgi ha1 l4))
    have rP00 := rr1 r l4
    have l5 := ln1 l l4
    have w5 := w.trans w4
    have n5 := n.trans n4
    clear l w n r l4 w4
    obtain ⟨f6, r, l, w, n⟩ := D_fo eP01 (q := q + 19) (d := d + 0) f5 (Rt_two (kd := 7) (.inr n5) (by decide) (dm n5 (by decide)) (rgi ha0 l5) (rgi hb1 l5))
    have rP01 := rr1 r l5
    have l6 := ln1 l l5
    have w6 := w.trans w5
    have n6 := n.trans n5
    clear l w n r l5 w5
    obtain ⟨f7, r, l, w, n⟩ := D_fo eP02 (q := q + 18) (d := d + 0) f6 (Rt_two (kd := 7) (.inr n6) (by decide) (dm n6 (by decide)) (rgi ha0 l6) (rgi hc1 l6))
    have rP02 := rr1 r l6
    have l7 := ln1 l l6
    have w7 := w.trans w6
    have n7 := n.trans n6
    clear l w n r l6 w6
    obtain ⟨f8, r, l, w, n⟩ := D_fo eP10 (q := q + 17) (d := d + 0) f7 (Rt_two (kd := 7) (.inr n7) (by decide) (dm n7 (by decide)) (rgi hb0 l7) (rgi ha1 l7))
    have rP10 := rr1 r l7
    have l8 := ln1 l l7
    have w8 := w.trans w7
    have n8 := n.trans n7
    clear l w n r l7 w7
    obtain ⟨f9, r, l, w, n⟩ := D_fo eP11 (q := q + 16) (d := d + 0) f8 (Rt_two (kd := 7) (.inr n8) (by decide) (dm n8 (by decide)) (rgi hb0 l8) (rgi hb1 l8))
    have rP11 := rr1 r l8
    have l9 := ln1 l l8
    have w9 := w.trans w8
    have n9 := n.trans n8
    clear l w n r l8 w8
    obtain ⟨f10, r, l, w, n⟩ := D_fo eP12 (q := q + 15) (d := d + 0) f9 (Rt_two (kd := 7) (.inr n9) (by decide) (dm n9 (by decide)) (rgi hb0 l9) (rgi hc1 l9))
    have rP12 := rr1 r l9
    have l10 := ln1 l l9
    have w10 := w.trans w9
    have n10 := n.trans n9
    clear l w n r l9 w9
    obtain ⟨f11, r, l, w, n⟩ := D_fo eP20 (q := q + 14) (d := d + 0) f10 (Rt_two (kd := 7) (.inr n10) (by decide) (dm n10 (by decide)) (rgi hc0 l10) (rgi ha1 l10))
    have rP20 := rr1 r l10
    have l11 := ln1 l l10
    have w11 := w.trans w10
    have n11 := n.trans n10
    clear l w n r l10 w10
    obtain ⟨f12, r, l, w, n⟩ := D_fo eP21 (q := q + 13) (d := d + 0) f11 (Rt_two (kd := 7) (.inr n11) (by decide) (dm n11 (by decide)) (rgi hc0 l11) (rgi hb1 l11))
    have rP21 := rr1 r l11
    have l12 := ln1 l l11
    have w12 := w.trans w11
    have n12 := n.trans n11
    clear l w n r l11 w11
    obtain ⟨f13, r, l, w, n⟩ := D_fo eP22 (q := q + 12) (d := d + 0) f12 (Rt_two (kd := 7) (.inr n12) (by decide) (dm n12 (by decide)) (rgi hc0 l12) (rgi hc1 l12))
    have rP22 := rr1 r l12
    have l13 := ln1 l l12
    have w13 := w.trans w12
    have n13 := n.trans n12
    clear l w n r l12 w12
    obtain ⟨f14, r, l, w, n⟩ := D_fo eO01 (q := q + 11) (d := d + 0) f13 (Rt_two (kd := 5) (.inr n13) (by decide) (dm n13 (by decide)) (rg rP00 l13 (by decide)) (rg rR01 l13 (by decide)))
    have rO01 := rr1 r l13
    have l14 := ln1 l l13
    have w14 := w.trans w13
    have n14 := n.trans n13
    clear l w n r l13 w13
    obtain ⟨f15, r, l, w, n⟩ := D_fo eO02 (q := q + 10) (d := d + 0) f14 (Rt_two (kd := 5) (.inr n14) (by decide) (dm n14 (by decide)) (rg rO01 l14 (by decide)) (rg rR02 l14 (by decide)))
    have rO02 := rr1 r l14
    have l15 := ln1 l l14
    have w15 := w.trans w14
    have n15 := n.trans n14
    clear l w n r l14 w14
    obtain ⟨f16, r, l, w, n⟩ := D_fo eA10 (q := q + 9) (d := d + 0) f15 (Rt_two (kd := 5) (.inr n15) (by decide) (dm n15 (by decide)) (rg rR01 l15 (by decide)) (rg rP01 l15 (by decide)))
    have rA10 := rr1 r l15
    have l16 := ln1 l l15
    have w16 := w.trans w15
    have n16 := n.trans n15
    clear l w n r l15 w15
    obtain ⟨f17, r, l, w, n⟩ := D_fo eC10 (q := q + 8) (d := d + 0) f16 (Rt_two (kd := 5) (.inr n16) (by decide) (dm n16 (by decide)) (rg rA10 l16 (by decide)) (rg rP10 l16 (by decide)))
    have rC10 := rr1 r l16
    have l17 := ln1 l l16
    have w17 := w.trans w16
    have n17 := n.trans n16
    clear l w n r l16 w16
    obtain ⟨f18, r, l, w, n⟩ := D_fo eO10 (q := q + 7) (d := d + 0) f17 (Rt_two (kd := 5) (.inr n17) (by decide) (dm n17 (by decide)) (rg rP11 l17 (by decide)) (rg rC10 l17 (by decide)))
    have rO10 := rr1 r l17
    have l18 := ln1 l l17
    have w18 := w.trans w17
    have n18 := n.trans n17
    clear l w n r l17 w17
    obtain ⟨f19, r, l, w, n⟩ := D_fo eO12 (q := q + 6) (d := d + 0) f18 (Rt_two (kd := 5) (.inr n18) (by decide) (dm n18 (by decide)) (rg rO10 l18 (by decide)) (rg rR12 l18 (by decide)))
    have rO12 := rr1 r l18
    have l19 := ln1 l l18
    have w19 := w.trans w18
    have n19 := n.trans n18
    clear l w n r l18 w18
    obtain ⟨f20, r, l, w, n⟩ := D_fo eA20 (q := q + 5) (d := d + 0) f19 (Rt_two (kd := 5) (.inr n19) (by decide) (dm n19 (by decide)) (rg rR02 l19 (by decide)) (rg rP02 l19 (by decide)))
    have rA20 := rr1 r l19
    have l20 := ln1 l l19
    have w20 := w.trans w19
    have n20 := n.trans n19
    clear l w n r l19 w19
    obtain ⟨f21, r, l, w, n⟩ := D_fo eC20 (q := q + 4) (d := d + 0) f20 (Rt_two (kd := 5) (.inr n20) (by decide) (dm n20 (by decide)) (rg rA20 l20 (by decide)) (rg rP20 l20 (by decide)))
    have rC20 := rr1 r l20
    have l21 := ln1 l l20
    have w21 := w.trans w20
    have n21 := n.trans n20
    clear l w n r l20 w20
    obtain ⟨f22, r, l, w, n⟩ := D_fo eO20 (q := q + 3) (d := d + 0) f21 (Rt_two (kd := 5) (.inr n21) (by decide) (dm n21 (by decide)) (rg rP22 l21 (by decide)) (rg rC20 l21 (by decide)))
    have rO20 := rr1 r l21
    have l22 := ln1 l l21
    have w22 := w.trans w21
    have n22 := n.trans n21
    clear l w n r l21 w21
    obtain ⟨f23, r, l, w, n⟩ := D_fo eA21 (q := q + 2) (d := d + 0) f22 (Rt_two (kd := 5) (.inr n22) (by decide) (dm n22 (by decide)) (rg rR12 l22 (by decide)) (rg rP12 l22 (by decide)))
    have rA21 := rr1 r l22
    have l23 := ln1 l l22
    have w23 := w.trans w22
    have n23 := n.trans n22
    clear l w n r l22 w22
    obtain ⟨f24, r, l, w, n⟩ := D_fo eC21 (q := q + 1) (d := d + 0) f23 (Rt_two (kd := 5) (.inr n23) (by decide) (dm n23 (by decide)) (rg rA21 l23 (by decide)) (rg rP21 l23 (by decide)))
    have rC21 := rr1 r l23
    have l24 := ln1 l l23
    have w24 := w.trans w23
    have n24 := n.trans n23
    clear l w n r l23 w23
    obtain ⟨f25, r, l, w, n⟩ := D_fo eO21 (q := q + 0) (d := d + 0) f24 (Rt_two (kd := 5) (.inr n24) (by decide) (dm n24 (by decide)) (rg rO20 l24 (by decide)) (rg rC21 l24 (by decide)))
    have rO21 := rr1 r l24
    have l25 := ln1 l l24
    have w25 := w.trans w24
    have n25 := n.trans n24
    clear l w n r l24 w24
    obtain ⟨f26, l, w, n⟩ := E_fine eE f25
    have l26 := l.trans l25
    have w26 := w.trans w25
    have n26 := n.trans n25
    clear l w n l25 w25
    exact ⟨f26, w26, l26, (rg rO02 l26 (by decide)), (rg rO12 l26 (by decide)), (rg rO21 l26 (by decide))⟩
set_option maxHeartbeats 4000000 in
theorem DoC.f2 {M M' : WM} {a0 : Int} {b0 : Int} {c0 : Int} {a1 : Int} {b1 : Int} {c1 : Int} {o0 o1 o2 : Int} (h : DoC M a0 b0 c0 a1 b1 c1 o0 o1 o2 M') (hn : M.m.n = 2) {d q : Nat} (f0 : Fine M false (d + 1) (q + 9)) (ha0 : Reg M a0) (hb0 : Reg M b0) (ha1 : Reg M a1) (hb1 : Reg M b1) :
    Fine M' false d q ∧ M'.m.draws = M.m.draws + 1 ∧ M'.m.ops.length = M.m.ops.length + 9 ∧ Reg M' o0 ∧ Reg M' o1 := by
  rcases h with ⟨B, R01, P00, P01, P10, P11, A01, O01, A10, O10, E, hm, eB, eR01, eP00, eP01, eP10, eP11, eA01, eO01, eA10, eO10, eE, rfl, rfl, rfl, rfl⟩ | ⟨B, R01, R02, R12, P00, P01, P02, P10, P11, P12, P20, P21, P22, A01, O01, A02, O02, A10, O10, A12, O12, A20, O20, A21, O21, E, hm, eB, eR01, eR02, eR12, eP00, eP01, eP02, eP10, eP11, eP12, eP20, eP21, eP22, eA01, eO01, eA02, eO02, eA10, eO10, eA12, eO12, eA20, eO20, eA21, eO21, eE, rfl, rfl, rfl, rfl⟩
  · have l0 : M.m.ops.length = M.m.ops.length + 0 := rfl
    have w0 : M.m.draws = M.m.draws + 0 := (Int.add_zero _).symm
    have n0 := hn
    obtain ⟨f1, l, w, n⟩ := B_fine eB f0 (by decide)
    have l1 := l.trans l0
    have w1 := w.trans w0
    have n1 := n.trans n0
    clear l w n l0 w0
    obtain ⟨f2, r, l, w, n⟩ := D_fr eR01 (q := q + 8) (d := d + 0) f1 (Rt_rnd (.inl n1) (dm n1 (by decide)))
    have rR01 := rr1 r l1
    have l2 := ln1 l l1
    have w2 := wn1 w w1
    have n2 := n.trans n1
    clear l w n r l1 w1
    obtain ⟨f3, r, l, w, n⟩ := D_fo eP00 (q := q + 7) (d := d + 0) f2 (Rt_two (kd := 7) (.inl n2) (by decide) (dm n2 (by decide)) (rgi ha0 l2) (rgi ha1 l2))
    have rP00 := rr1 r l2
    have l3 := ln1 l l2
    have w3 := w.trans w2
    have n3 := n.trans n2
    clear l w n r l2 w2
    obtain ⟨f4, r, l, w, n⟩ := D_fo eP01 (q := q + 6) (d := d + 0) f3 (Rt_two (kd := 7) (.inl n3) (by decide) (dm n3 (by decide)) (rgi ha0 l3) (rgi hb1 l3))
    have rP01 := rr1 r l3
    have l4 := ln1 l l3
    have w4 := w.trans w3
    have n4 := n.trans n3
    clear l w n r l3 w3
    obtain ⟨f5, r, l, w, n⟩ := D_fo eP10 (q := q + 5) (d := d + 0) f4 (Rt_two (kd := 7) (.inl n4) (by decide) (dm n4 (by decide)) (rgi hb0 l4) (rgi ha1 l4))
    have rP10 := rr1 r l4
    have l5 := ln1 l l4
    have w5 := w.trans w4
    have n5 := n.trans n4
    clear l w n r l4 w4
    obtain ⟨f6, r, l, w, n⟩ := D_fo eP11 (q := q + 4) (d := d + 0) f5 (Rt_two (kd := 7) (.inl n5) (by decide) (dm n5 (by decide)) (rgi hb0 l5) (rgi hb1 l5))
    have rP11 := rr1 r l5
    have l6 := ln1 l l5
    have w6 := w.trans w5
    have n6 := n.trans n5
    clear l w n r l5 w5
    obtain ⟨f7, r, l, w, n⟩ := D_fo eA01 (q := q + 3) (d := d + 0) f6 (Rt_two (kd := 5) (.inl n6) (by decide) (dm n6 (by decide)) (rg rP01 l6 (by decide)) (rg rR01 l6 (by decide)))
    have rA01 := rr1 r l6
    have l7 := ln1 l l6
    have w7 := w.trans w6
    have n7 := n.trans n6
    clear l w n r l6 w6
    obtain ⟨f8, r, l, w, n⟩ := D_fo eO01 (q := q + 2) (d := d + 0) f7 (Rt_two (kd := 5) (.inl n7) (by decide) (dm n7 (by decide)) (rg rP00 l7 (by decide)) (rg rA01 l7 (by decide)))
    have rO01 := rr1 r l7
    have l8 := ln1 l l7
    have w8 := w.trans w7
    have n8 := n.trans n7
    clear l w n r l7 w7
    obtain ⟨f9, r, l, w, n⟩ := D_fo eA10 (q := q + 1) (d := d + 0) f8 (Rt_two (kd := 5) (.inl n8) (by decide) (dm n8 (by decide)) (rg rP10 l8 (by decide)) (rg rR01 l8 (by decide)))
    have rA10 := rr1 r l8
    have l9 := ln1 l l8
    have w9 := w.trans w8
    have n9 := n.trans n8
    clear l w n r l8 w8
    obtain ⟨f10, r, l, w, n⟩ := D_fo eO10 (q := q + 0) (d := d + 0) f9 (Rt_two (kd := 5) (.inl n9) (by decide) (dm n9 (by decide)) (rg rP11 l9 (by decide)) (rg rA10 l9 (by decide)))
    have rO10 := rr1 r l9
    have l10 := ln1 l l9
    have w10 := w.trans w9
    have n10 := n.trans n9
    clear l w n r l9 w9
    obtain ⟨f11, l, w, n⟩ := E_fine eE f10
    have l11 := l.trans l10
    have w11 := w.trans w10
    have n11 := n.trans n10
    clear l w n l10 w10
    exact ⟨f11, w11, l11, (rg rO01 l11 (by decide)), (rg rO10 l11 (by decide))⟩
  · omega
set_option maxHeartbeats 4000000 in
theorem DoC.f3 {M M' : WM} {a0 : Int} {b0 : Int} {c0 : Int} {a1 : Int} {b1 : Int} {c1 : Int} {o0 o1 o2 : Int} (h : DoC M a0 b0 c0 a1 b1 c1 o0 o1 o2 M') (hn : M.m.n = 3) {d q : Nat} (f0 : Fine M false (d + 3) (q + 24)) (ha0 : Reg M a0) (hb0 : Reg M b0) (hc0 : Reg M c0) (ha1 : Reg M a1) (hb1 : Reg M b1) (hc1 : Reg M c1) :
    Fine M' false d q ∧ M'.m.draws = M.m.draws + 3 ∧ M'.m.ops.length = M.m.ops.length + 24 ∧ Reg M' o0 ∧ Reg M' o1 ∧ Reg M' o2 := by
  rcases h with ⟨B, R01, P00, P01, P10, P11, A01, O01, A10, O10, E, hm, eB, eR01, eP00, eP01, eP10, eP11, eA01, eO01, eA10, eO10, eE, rfl, rfl, rfl, rfl⟩ | ⟨B, R01, R02, R12, P00, P01, P02, P10, P11, P12, P20, P21, P22, A01, O01, A02, O02, A10, O10, A12, O12, A20, O20, A21, O21, E, hm, eB, eR01, eR02, eR12, eP00, eP01, eP02, eP10, eP11, eP12, eP20, eP21, eP22, eA01, eO01, eA02, eO02, eA10, eO10, eA12, eO12, eA20, eO20, eA21, eO21, eE, rfl, rfl, rfl, rfl⟩
  · omega
  · have l0 : M.m.ops.length = M.m.ops.length + 0 := rfl
    have w0 : M.m.draws = M.m.draws + 0 := (Int.add_zero _).symm
    have n0 := hn
    obtain ⟨f1, l, w, n⟩ := B_fine eB f0 (by decide)
    have l1 := l.trans l0
    have w1 := w.trans w0
    have n1 := n.trans n0
    clear l w n l0 w0
    obtain ⟨f2, r, l, w, n⟩ := D_fr eR01 (q := q + 23) (d := d + 2) f1 (Rt_rnd (.inr n1) (dm n1 (by decide)))
    have rR01 := rr1 r l1
    have l2 := ln1 l l1
    have w2 := wn1 w w1
    have n2 := n.trans n1
    clear l w n r l1 w1
    obtain ⟨f3, r, l, w, n⟩ := D_fr eR02 (q := q + 22) (d := d + 1) f2 (Rt_rnd (.inr n2) (dm n2 (by decide)))
    have rR02 := rr1 r l2
    have l3 := ln1 l l2
    have w3 := wn1 w w2
    have n3 := n.trans n2
    clear l w n r l2 w2
    obtain ⟨f4, r, l, w, n⟩ := D_fr eR12 (q := q + 21) (d := d + 0) f3 (Rt_rnd (.inr n3) (dm n3 (by decide)))
    have rR12 := rr1 r l3
    have l4 := ln1 l l3
    have w4 := wn1 w w3
    have n4 := n.trans n3
    clear l w n r l3 w3
    obtain ⟨f5, r, l, w, n⟩ := D_fo eP00 (q := q + 20) (d := d + 0) f4 (Rt_two (kd := 7) (.inr n4) (by decide) (dm n4 (by decide)) (rgi ha0 l4) (rgi ha1 l4))
    have rP00 := rr1 r l4
    have l5 := ln1 l l4
    have w5 := w.trans w4
    have n5 := n.trans n4
    clear l w n r l4 w4
    obtain ⟨f6, r, l, w, n⟩ := D_fo eP01 (q := q + 19) (d := d + 0) f5 (Rt_two (kd := 7) (.inr n5) (by decide) (dm n5 (by decide)) (rgi ha0 l5) (rgi hb1 l5))
    have rP01 := rr1 r l5
    have l6 := ln1 l l5
    have w6 := w.trans w5
    have n6 := n.trans n5
    clear l w n r l5 w5
    obtain ⟨f7, r, l, w, n⟩ := D_fo eP02 (q := q + 18) (d := d + 0) f6 (Rt_two (kd := 7) (.inr n6) (by decide) (dm n6 (by decide)) (rgi ha0 l6) (rgi hc1 l6))
    have rP02 := rr1 r l6
    have l7 := ln1 l l6
    have w7 := w.trans w6
    have n7 := n.trans n6
    clear l w n r l6 w6
    obtain ⟨f8, r, l, w, n⟩ := D_fo eP10 (q := q + 17) (d := d + 0) f7 (Rt_two (kd := 7) (.inr n7) (by decide) (dm n7 (by decide)) (rgi hb0 l7) (rgi ha1 l7))
    have rP10 := rr1 r l7
    have l8 := ln1 l l7
    have w8 := w.trans w7
    have n8 := n.trans n7
    clear l w n r l7 w7
    obtain ⟨f9, r, l, w, n⟩ := D_fo eP11 (q := q + 16) (d := d + 0) f8 (Rt_two (kd := 7) (.inr n8) (by decide) (dm n8 (by decide)) (rgi hb0 l8) (rgi hb1 l8))
    have rP11 := rr1 r l8
    have l9 := ln1 l l8
    have w9 := w.trans w8
    have n9 := n.trans n8
    clear l w n r l8 w8
    obtain ⟨f10, r, l, w, n⟩ := D_fo eP12 (q := q + 15) (d := d + 0) f9 (Rt_two (kd := 7) (.inr n9) (by decide) (dm n9 (by decide)) (rgi hb0 l9) (rgi hc1 l9))
    have rP12 := rr1 r l9
    have l10 := ln1 l l9
    have w10 := w.trans w9
    have n10 := n.trans n9
    clear l w n r l9 w9
    obtain ⟨f11, r, l, w, n⟩ := D_fo eP20 (q := q + 14) (d := d + 0) f10 (Rt_two (kd := 7) (.inr n10) (by decide) (dm n10 (by decide)) (rgi hc0 l10) (rgi ha1 l10))
    have rP20 := rr1 r l10
    have l11 := ln1 l l10
    have w11 := w.trans w10
    have n11 := n.trans n10
    clear l w n r l10 w10
    obtain ⟨f12, r, l, w, n⟩ := D_fo eP21 (q := q + 13) (d := d + 0) f11 (Rt_two (kd := 7) (.inr n11) (by decide) (dm n11 (by decide)) (rgi hc0 l11) (rgi hb1 l11))
    have rP21 := rr1 r l11
    have l12 := ln1 l l11
    have w12 := w.trans w11
    have n12 := n.trans n11
    clear l w n r l11 w11
    obtain ⟨f13, r, l, w, n⟩ := D_fo eP22 (q := q + 12) (d := d + 0) f12 (Rt_two (kd := 7) (.inr n12) (by decide) (dm n12 (by decide)) (rgi hc0 l12) (rgi hc1 l12))
    have rP22 := rr1 r l12
    have l13 := ln1 l l12
    have w13 := w.trans w12
    have n13 := n.trans n12
    clear l w n r l12 w12
    obtain ⟨f14, r, l, w, n⟩ := D_fo eA01 (q := q + 11) (d := d + 0) f13 (Rt_two (kd := 5) (.inr n13) (by decide) (dm n13 (by decide)) (rg rP01 l13 (by decide)) (rg rR01 l13 (by decide)))
    have rA01 := rr1 r l13
    have l14 := ln1 l l13
    have w14 := w.trans w13
    have n14 := n.trans n13
    clear l w n r l13 w13
    obtain ⟨f15, r, l, w, n⟩ := D_fo eO01 (q := q + 10) (d := d + 0) f14 (Rt_two (kd := 5) (.inr n14) (by decide) (dm n14 (by decide)) (rg rP00 l14 (by decide)) (rg rA01 l14 (by decide)))
    have rO01 := rr1 r l14
    have l15 := ln1 l l14
    have w15 := w.trans w14
    have n15 := n.trans n14
    clear l w n r l14 w14
    obtain ⟨f16, r, l, w, n⟩ := D_fo eA02 (q := q + 9) (d := d + 0) f15 (Rt_two (kd := 5) (.inr n15) (by decide) (dm n15 (by decide)) (rg rP02 l15 (by decide)) (rg rR02 l15 (by decide)))
    have rA02 := rr1 r l15
    have l16 := ln1 l l15
    have w16 := w.trans w15
    have n16 := n.trans n15
    clear l w n r l15 w15
    obtain ⟨f17, r, l, w, n⟩ := D_fo eO02 (q := q + 8) (d := d + 0) f16 (Rt_two (kd := 5) (.inr n16) (by decide) (dm n16 (by decide)) (rg rO01 l16 (by decide)) (rg rA02 l16 (by decide)))
    have rO02 := rr1 r l16
    have l17 := ln1 l l16
    have w17 := w.trans w16
    have n17 := n.trans n16
    clear l w n r l16 w16
    obtain ⟨f18, r, l, w, n⟩ := D_fo eA10 (q := q + 7) (d := d + 0) f17 (Rt_two (kd := 5) (.inr n17) (by decide) (dm n17 (by decide)) (rg rP10 l17 (by decide)) (rg rR01 l17 (by decide)))
    have rA10 := rr1 r l17
    have l18 := ln1 l l17
    have w18 := w.trans w17
    have n18 := n.trans n17
    clear l w n r l17 w17
    obtain ⟨f19, r, l, w, n⟩ := D_fo eO10 (q := q + 6) (d := d + 0) f18 (Rt_two (kd := 5) (.inr n18) (by decide) (dm n18 (by decide)) (rg rP11 l18 (by decide)) (rg rA10 l18 (by decide)))
    have rO10 := rr1 r l18
    have l19 := ln1 l l18
    have w19 := w.trans w18
    have n19 := n.trans n18
    clear l w n r l18 w18
    obtain ⟨f20, r, l, w, n⟩ := D_fo eA12 (q := q + 5) (d := d + 0) f19 (Rt_two (kd := 5) (.inr n19) (by decide) (dm n19 (by decide)) (rg rP12 l19 (by decide)) (rg rR12 l19 (by decide)))
    have rA12 := rr1 r l19
    have l20 := ln1 l l19
    have w20 := w.trans w19
    have n20 := n.trans n19
    clear l w n r l19 w19
    obtain ⟨f21, r, l, w, n⟩ := D_fo eO12 (q := q + 4) (d := d + 0) f20 (Rt_two (kd := 5) (.inr n20) (by decide) (dm n20 (by decide)) (rg rO10 l20 (by decide)) (rg rA12 l20 (by decide)))
    have rO12 := rr1 r l20
    have l21 := ln1 l l20
    have w21 := w.trans w20
    have n21 := n.trans n20
    clear l w n r l20 w20
    obtain ⟨f22, r, l, w, n⟩ := D_fo eA20 (q := q + 3) (d := d + 0) f21 (Rt_two (kd := 5) (.inr n21) (by decide) (dm n21 (by decide)) (rg rP20 l21 (by decide)) (rg rR02 l21 (by decide)))
    have rA20 := rr1 r l21
    have l22 := ln1 l l21
    have w22 := w.trans w21
    have n22 := n.trans n21
    clear l w n r l21 w21
    obtain ⟨f23, r, l, w, n⟩ := D_fo eO20 (q := q + 2) (d := d + 0) f22 (Rt_two (kd := 5) (.inr n22) (by decide) (dm n22 (by decide)) (rg rP22 l22 (by decide)) (rg rA20 l22 (by decide)))
    have rO20 := rr1 r l22
    have l23 := ln1 l l22
    have w23 := w.trans w22
    have n23 := n.trans n22
    clear l w n r l22 w22
    obtain ⟨f24, r, l, w, n⟩ := D_fo eA21 (q := q + 1) (d := d + 0) f23 (Rt_two (kd := 5) (.inr n23) (by decide) (dm n23 (by decide)) (rg rP21 l23 (by decide)) (rg rR12 l23 (by decide)))
    have rA21 := rr1 r l23
    have l24 := ln1 l l23
    have w24 := w.trans w23
    have n24 := n.trans n23
    clear l w n r l23 w23
    obtain ⟨f25, r, l, w, n⟩ := D_fo eO21 (q := q + 0) (d := d + 0) f24 (Rt_two (kd := 5) (.inr n24) (by decide) (dm n24 (by decide)) (rg rO20 l24 (by decide)) (rg rA21 l24 (by decide)))
    have rO21 := rr1 r l24
    have l25 := ln1 l l24
    have w25 := w.trans w24
    have n25 := n.trans n24
    clear l w n r l24 w24
    obtain ⟨f26, l, w, n⟩ := E_fine eE f25
    have l26 := l.trans l25
    have w26 := w.trans w25
    have n26 := n.trans n25
    clear l w n l25 w25
    exact ⟨f26, w26, l26, (rg rO02 l26 (by decide)), (rg rO12 l26 (by decide)), (rg rO21 l26 (by decide))⟩
theorem fits_words : ∀ {n : Nat} {x : Cells}, Fits (List.replicate n (LK.int .u64)) x → ∃ l : List Nat, l.length = n ∧ (∀ y ∈ l, y < 18446744073709551616) ∧ x = l.map fun (y : Nat) => C.int .u64 (y : Int)
  | 0, [], _ => ⟨[], rfl, fun _ h => (by cases h), rfl⟩
  | n + 1, .int k v :: x, h => by
    obtain ⟨⟨rfl, h1, h2⟩, h3⟩ := h
    obtain ⟨l, hl, hb, rfl⟩ := fits_words h3
    rw [min_u64] at h1; rw [max_u64] at h2
    refine ⟨v.toNat :: l, by rw [List.length_cons, hl], fun y hy => ?_, ?_⟩
    · rcases List.mem_cons.1 hy with rfl | hy
      · omega
      · exact hb y hy
    · rw [List.map_cons, Int.toNat_of_nonneg h1]
  | 0, _ :: _, h => h.elim
  | _ + 1, [], h => h.elim
  | _ + 1, .bool _ :: _, h => h.1.elim
  | _ + 1, .str _ :: _, h => h.1.elim
  | _ + 1, .ptr _ :: _, h => h.1.elim
  | _ + 1, .slc _ _ _ :: _, h => h.1.elim
  | _ + 1, .map _ :: _, h => h.1.elim
  | _ + 1, .fn _ _ _ :: _, h => h.1.elim
  | _ + 1, .nofn :: _, h => h.1.elim
/-! BothFolds: what is folded, and that nothing fails. -/
def RegW (M : WM) (a b c : Int) : Prop := Reg M a ∧ Reg M b ∧ (M.m.n = 3 → Reg M c)
theorem RegW.mono {M M' : WM} {a b c : Int} (h : RegW M a b c) (hl : M.m.ops.length ≤ M'.m.ops.length) (hn : M'.m.n = M.m.n) : RegW M' a b c :=
  ⟨⟨h.1.1, by have := h.1.2; omega⟩, ⟨h.2.1.1, by have := h.2.1.2; omega⟩, fun h3 => by
    have := h.2.2 (hn ▸ h3)
    exact ⟨this.1, by have := this.2; omega⟩⟩
/-- what a call costs: masks and ops, of two shares, and of three -/
structure Cs (M M' : WM) (x y x' y' : Nat) (I O : Prop) : Prop where
  c2 : M.m.n = 2 → ∀ d q, Fine M false (d + x) (q + y) → I → Fine M' false d q ∧ M'.m.draws = M.m.draws + (x : Int) ∧ M'.m.ops.length = M.m.ops.length + y ∧ O
  c3 : M.m.n = 3 → ∀ d q, Fine M false (d + x') (q + y') → I → Fine M' false d q ∧ M'.m.draws = M.m.draws + (x' : Int) ∧ M'.m.ops.length = M.m.ops.length + y' ∧ O
theorem Cs.refl (M : WM) (I O : Prop) (h : I → O) : Cs M M 0 0 0 0 I O := ⟨fun _ d q f i => ⟨f, by omega, rfl, h i⟩, fun _ d q f i => ⟨f, by omega, rfl, h i⟩⟩
theorem Cs.comp {M M1 M2 : WM} {x y x' y' u v u' v' : Nat} {I O I2 O2 : Prop} (h1 : Cs M M1 x y x' y' I O) (h2 : Cs M1 M2 u v u' v' I2 O2) (e : M1.m.n = M.m.n) (hio : O → I → M.m.ops.length ≤ M1.m.ops.length → I2) : Cs M M2 (x + u) (y + v) (x' + u') (y' + v') I O2 :=
  ⟨fun hn d q f i => by
    obtain ⟨f1, d1, l1, o1⟩ := h1.c2 hn (d + u) (q + v) (by rw [show d + u + x = d + (x + u) by omega, show q + v + y = q + (y + v) by omega]; exact f) i
    obtain ⟨f2, d2, l2, o2⟩ := h2.c2 (e.trans hn) d q f1 (hio o1 i (by omega))
    exact ⟨f2, by omega, by omega, o2⟩,
  fun hn d q f i => by
    obtain ⟨f1, d1, l1, o1⟩ := h1.c3 hn (d + u') (q + v') (by rw [show d + u' + x' = d + (x' + u') by omega, show q + v' + y' = q + (y' + v') by omega]; exact f) i
    obtain ⟨f2, d2, l2, o2⟩ := h2.c3 (e.trans hn) d q f1 (hio o1 i (by omega))
    exact ⟨f2, by omega, by omega, o2⟩⟩
/-- a call of the program's -/
structure Gp (P : Nat → Option (Cells × Twire_Machine)) (M : WM) (o0 o1 o2 : Int) (M' : WM) : Prop where
  p : ∀ k, 90 ≤ k → P k = some ([ci o0, ci o1, ci o2], M'.m)
  e : Ext M M'
  c : M'.m.n = 2 → o2 = -1
def Std (M : WM) (a b c : Int) (z : BitVec 64) : Prop := ∀ F, Ext M F → F.m.bad = 0 → Stands F a b c z
theorem Std.ext {M M' : WM} {a b c : Int} {z : BitVec 64} (h : Std M a b c z) (e : Ext M M') : Std M' a b c z := fun F x hF => h F (e.trans x) hF
theorem Std.now {M : WM} {a b c : Int} {z : BitVec 64} (h : Std M a b c z) (hb : M.m.bad = 0) : Stands M a b c z := h M (.refl _) hb
theorem n32 {M M' : WM} (e : Ext M M') (h : M.m.n = 2) {P : Prop} (h3 : M'.m.n = 3) : P := by have := e.n; omega
theorem Pub_p (M : WM) (w : Int) (hw : IsW w) : ∃ o0 o1 o2 M', Gp (fun k => share_Public.m k M.m w) M o0 o1 o2 M' ∧ Cs M M' 0 2 0 3 True (RegW M' o0 o1 o2) ∧ Std M' o0 o1 o2 (BitVec.ofInt 64 w) := by
  obtain ⟨o0, o1, o2, M', h⟩ := PubC.ex M w
  refine ⟨o0, o1, o2, M', ⟨fun k hk => h.p hk hw, h.ext, h.c⟩, ⟨fun hn d q f _ => ?_, fun hn d q f _ => ?_⟩, fun F x hF => h.s x hF⟩
  · obtain ⟨a1, a2, a3, a4, a5⟩ := h.f2 hn f
    exact ⟨a1, a2, a3, a4, a5, n32 h.ext hn⟩
  · obtain ⟨a1, a2, a3, a4, a5, a6⟩ := h.f3 hn f
    exact ⟨a1, a2, a3, a4, a5, fun _ => a6⟩
theorem Nt_p (M : WM) (a b c : Int) (hc : M.m.n = 2 → c = -1) : ∃ o0 o1 o2 M', Gp (fun k => share_Not.m k M.m [ci a, ci b, ci c]) M o0 o1 o2 M' ∧ Cs M M' 0 1 0 1 (RegW M a b c) (RegW M' o0 o1 o2) ∧ ∀ x, Std M a b c x → Std M' o0 o1 o2 (~~~ x) := by
  obtain ⟨o0, o1, o2, M', h⟩ := NtC.ex M a b c
  refine ⟨o0, o1, o2, M', ⟨fun k hk => h.p hk, h.ext, fun hn => ?_⟩, ⟨fun hn d q f i => ?_, fun hn d q f i => ?_⟩, fun _ s F x hF => h.s x hF (s.ext h.ext F x hF)⟩
  · have he := h.ext.n
    obtain ⟨X0, eX0, rfl, rfl, rfl, rfl⟩ := h
    exact hc (he ▸ hn)
  · obtain ⟨a1, a2, a3, a4, a5⟩ := h.f2 hn f i.1 i.2.1
    exact ⟨a1, a2, a3, a4, a5, n32 h.ext hn⟩
  · obtain ⟨a1, a2, a3, a4, a5, a6⟩ := h.f3 hn f i.1 i.2.1 (i.2.2 hn)
    exact ⟨a1, a2, a3, a4, a5, fun _ => a6⟩
theorem By_p (M : WM) (kd a b c a' b' c' : Int) : ∃ o0 o1 o2 M', Gp (fun k => times_By.m k M.m kd [ci a, ci b, ci c] [ci a', ci b', ci c']) M o0 o1 o2 M' ∧ Cs M M' 1 9 3 24 (RegW M a b c ∧ RegW M a' b' c') (RegW M' o0 o1 o2) ∧
    ∀ x y, Std M a b c x → Std M a' b' c' y → Std M' o0 o1 o2 (x &&& y) := by
  by_cases hk : kd = 2
  · subst hk
    obtain ⟨o0, o1, o2, M', h⟩ := DoC.ex M a b c a' b' c'
    refine ⟨o0, o1, o2, M', ⟨fun k hk => By_Do hk h, h.ext, h.c⟩, ⟨fun hn d q f i => ?_, fun hn d q f i => ?_⟩, fun _ _ s t F x hF => h.s x hF (s.ext h.ext F x hF) (t.ext h.ext F x hF)⟩
    · obtain ⟨a1, a2, a3, a4, a5⟩ := h.f2 hn f i.1.1 i.1.2.1 i.2.1 i.2.2.1
      exact ⟨a1, a2, a3, a4, a5, n32 h.ext hn⟩
    · obtain ⟨a1, a2, a3, a4, a5, a6⟩ := h.f3 hn f i.1.1 i.1.2.1 (i.1.2.2 hn) i.2.1 i.2.2.1 (i.2.2.2 hn)
      exact ⟨a1, a2, a3, a4, a5, fun _ => a6⟩
  · obtain ⟨o0, o1, o2, M', h⟩ := IsC.ex M a b c a' b' c'
    refine ⟨o0, o1, o2, M', ⟨fun k h' => By_Is h' h hk, h.ext, h.c⟩, ⟨fun hn d q f i => ?_, fun hn d q f i => ?_⟩, fun _ _ s t F x hF => h.s x hF (s.ext h.ext F x hF) (t.ext h.ext F x hF)⟩
    · obtain ⟨a1, a2, a3, a4, a5⟩ := h.f2 hn f i.1.1 i.1.2.1 i.2.1 i.2.2.1
      exact ⟨a1, a2, a3, a4, a5, n32 h.ext hn⟩
    · obtain ⟨a1, a2, a3, a4, a5, a6⟩ := h.f3 hn f i.1.1 i.1.2.1 (i.1.2.2 hn) i.2.1 i.2.2.1 (i.2.2.2 hn)
      exact ⟨a1, a2, a3, a4, a5, fun _ => a6⟩
theorem Fu_p (M : WM) (a b c : Int) (hc : M.m.n = 2 → c = -1) : ∃ o0 o1 o2 M', Gp (fun k => fresh_Full.m k M.m [ci a, ci b, ci c]) M o0 o1 o2 M' ∧ Cs M M' 1 3 3 9 (RegW M a b c) (RegW M' o0 o1 o2) ∧ ∀ x, Std M a b c x → Std M' o0 o1 o2 x := by
  obtain ⟨o0, o1, o2, M', h⟩ := FuC.ex M a b c hc
  refine ⟨o0, o1, o2, M', ⟨fun k hk => h.p hk, h.ext, h.c⟩, ⟨fun hn d q f i => ?_, fun hn d q f i => ?_⟩, fun _ s F x hF => h.s x hF (s.ext h.ext F x hF)⟩
  · obtain ⟨a1, a2, a3, a4, a5⟩ := h.f2 hn f i.1 i.2.1
    exact ⟨a1, a2, a3, a4, a5, n32 h.ext hn⟩
  · obtain ⟨a1, a2, a3, a4, a5, a6⟩ := h.f3 hn f i.1 i.2.1 (i.2.2 hn)
    exact ⟨a1, a2, a3, a4, a5, fun _ => a6⟩
theorem And_p (M : WM) (kd a b c a' b' c' : Int) (hc : M.m.n = 2 → c' = -1) : ∃ o0 o1 o2 M', Gp (fun k => both_And.m k M.m kd [ci a, ci b, ci c] [ci a', ci b', ci c']) M o0 o1 o2 M' ∧ Cs M M' 2 12 6 33 (RegW M a b c ∧ RegW M a' b' c') (RegW M' o0 o1 o2) ∧
    ∀ x y, Std M a b c x → Std M a' b' c' y → Std M' o0 o1 o2 (x &&& y) := by
  obtain ⟨f0, f1, f2, M1, h1, k1, s1⟩ := Fu_p M a' b' c' hc
  obtain ⟨o0, o1, o2, M', h2, k2, s2⟩ := By_p M1 kd a b c f0 f1 f2
  have k1' : Cs M M1 1 3 3 9 (RegW M a b c ∧ RegW M a' b' c') (RegW M1 f0 f1 f2) := ⟨fun hn d q f i => k1.c2 hn d q f i.2, fun hn d q f i => k1.c3 hn d q f i.2⟩
  refine ⟨o0, o1, o2, M', ⟨fun k hk => ?_, h1.e.trans h2.e, h2.c⟩, k1'.comp k2 h1.e.n (fun o i hl => ⟨i.1.mono hl h1.e.n, o⟩), fun x y s t => s2 x y (s.ext h1.e) (s1 y t)⟩
  have e1 := h1.p k hk; have e2 := h2.p k hk
  unfold both_And.m
  rw [if_pos (by rfl), e1, Option.bind_some, if_pos (by rfl), if_pos (by rfl), e2, Option.bind_some, if_pos (by rfl)]
theorem or_w (x y : BitVec 64) : ~~~ (~~~ x &&& ~~~ y) = x ||| y := by
  apply BitVec.eq_of_getLsbD_eq; intro i hi
  simp only [BitVec.getLsbD_not, BitVec.getLsbD_and, BitVec.getLsbD_or, hi, decide_true, Bool.true_and]
  cases x.getLsbD i <;> cases y.getLsbD i <;> rfl
theorem Or_p (M : WM) (kd a b c a' b' c' : Int) (hc : M.m.n = 2 → c = -1) (hc' : M.m.n = 2 → c' = -1) : ∃ o0 o1 o2 M', Gp (fun k => both_Or.m k M.m kd [ci a, ci b, ci c] [ci a', ci b', ci c']) M o0 o1 o2 M' ∧ Cs M M' 2 15 6 36 (RegW M a b c ∧ RegW M a' b' c') (RegW M' o0 o1 o2) ∧
    ∀ x y, Std M a b c x → Std M a' b' c' y → Std M' o0 o1 o2 (x ||| y) := by
  obtain ⟨f0, f1, f2, M1, h1, k1, s1⟩ := Nt_p M a b c hc
  obtain ⟨g0, g1, g2, M2, h2, k2, s2⟩ := Nt_p M1 a' b' c' (fun h => hc' (h1.e.n ▸ h))
  obtain ⟨q0, q1, q2, M3, h3, k3, s3⟩ := And_p M2 kd f0 f1 f2 g0 g1 g2 h2.c
  obtain ⟨o0, o1, o2, M', h4, k4, s4⟩ := Nt_p M3 q0 q1 q2 h3.c
  have k1' : Cs M M1 0 1 0 1 (RegW M a b c ∧ RegW M a' b' c') (RegW M1 f0 f1 f2 ∧ RegW M1 a' b' c') :=
    ⟨fun hn d q f i => by obtain ⟨x1, x2, x3, x4⟩ := k1.c2 hn d q f i.1; exact ⟨x1, x2, x3, x4, i.2.mono (by omega) h1.e.n⟩, fun hn d q f i => by obtain ⟨x1, x2, x3, x4⟩ := k1.c3 hn d q f i.1; exact ⟨x1, x2, x3, x4, i.2.mono (by omega) h1.e.n⟩⟩
  have k2' : Cs M1 M2 0 1 0 1 (RegW M1 f0 f1 f2 ∧ RegW M1 a' b' c') (RegW M2 f0 f1 f2 ∧ RegW M2 g0 g1 g2) :=
    ⟨fun hn d q f i => by obtain ⟨x1, x2, x3, x4⟩ := k2.c2 hn d q f i.2; exact ⟨x1, x2, x3, i.1.mono (by omega) h2.e.n, x4⟩, fun hn d q f i => by obtain ⟨x1, x2, x3, x4⟩ := k2.c3 hn d q f i.2; exact ⟨x1, x2, x3, i.1.mono (by omega) h2.e.n, x4⟩⟩
  refine ⟨o0, o1, o2, M', ⟨fun k hk => ?_, h1.e.trans (h2.e.trans (h3.e.trans h4.e)), h4.c⟩, ((k1'.comp k2' h1.e.n (fun o _ _ => o)).comp k3 (h2.e.n.trans h1.e.n) (fun o _ _ => o)).comp k4 (h3.e.n.trans (h2.e.n.trans h1.e.n)) (fun o _ _ => o),
    fun x y s t => or_w x y ▸ s4 _ (s3 _ _ ((s1 x s).ext h2.e) (s2 y (t.ext h1.e)))⟩
  have e1 := h1.p k hk; have e2 := h2.p k hk; have e3 := h3.p k hk; have e4 := h4.p k hk
  unfold both_Or.m
  rw [if_pos (by rfl), e1, Option.bind_some, if_pos (by rfl), if_pos (by rfl), e2, Option.bind_some, if_pos (by rfl), e3, Option.bind_some, e4, Option.bind_some, if_pos (by rfl)]
def foldW : Nat → Nat → BitVec 64 → BitVec 64
  | 0, _, z => z
  | j + 1, q, z => if q = 0 then z else foldW j (q / 2) (z ||| z >>> q)
def fs : Nat → Nat → Nat
  | 0, _ => 0
  | j + 1, q => if q = 0 then 0 else fs j (q / 2) + 1
theorem evalShr (w : Int) (q : Nat) (hq : w = (q : Int)) (h : q < 64) (y : BitVec 64) : evalW 10 (BitVec.ofInt 64 w) y 0#64 0#64 0#64 = y >>> q := by
  subst hq
  show y >>> ((BitVec.ofInt 64 (q : Int)).toNat % 64) = _
  have : (BitVec.ofInt 64 (q : Int)).toNat = q := by
    rw [BitVec.toNat_ofInt]; omega
  rw [this, Nat.mod_eq_of_lt h]
theorem wrapU {x : Int} (h0 : 0 ≤ x) (h1 : x ≤ 1000000) : IntKind.u64.wrap x = x := wrap_u64_of h0 (by omega)
theorem On_p (M : WM) (a b c : Int) (q : Nat) (hq : q < 64) : ∃ o0 o1 o2 M', Gp (fun k => share_One.m k M.m 10 [ci a, ci b, ci c] (q : Int)) M o0 o1 o2 M' ∧ Cs M M' 0 2 0 3 (RegW M a b c) (RegW M' o0 o1 o2) ∧ ∀ x, Std M a b c x → Std M' o0 o1 o2 (x >>> q) := by
  obtain ⟨o0, o1, o2, M', h⟩ := OnC.ex M 10 a b c (q : Int)
  refine ⟨o0, o1, o2, M', ⟨fun k hk => h.p hk ⟨by omega, by omega⟩, h.ext, h.c⟩, ⟨fun hn d r f i => ?_, fun hn d r f i => ?_⟩, fun x s F e hF => ?_⟩
  · obtain ⟨a1, a2, a3, a4, a5⟩ := h.f2 hn f (by omega) i.1 i.2.1
    exact ⟨a1, a2, a3, a4, a5, n32 h.ext hn⟩
  · obtain ⟨a1, a2, a3, a4, a5, a6⟩ := h.f3 hn f (by omega) i.1 i.2.1 (i.2.2 hn)
    exact ⟨a1, a2, a3, a4, a5, fun _ => a6⟩
  · exact h.s e hF (by decide) (s.ext h.ext F e hF) (f := fun y => y >>> q) (fun y => evalShr _ q rfl hq y) (fun y y' => BitVec.ushiftRight_xor_distrib ..)
theorem Cs.cast {M M' : WM} {x y x' y' u v u' v' : Nat} {I O : Prop} (h : Cs M M' x y x' y' I O) (h1 : x = u) (h2 : y = v) (h3 : x' = u') (h4 : y' = v') : Cs M M' u v u' v' I O := by subst h1 h2 h3 h4; exact h
theorem fold_p (kd : Int) : ∀ (j q : Nat), q < 2 ^ j → q < 64 → ∀ (M : WM) (a b c : Int), (M.m.n = 2 → c = -1) →
    ∃ o0 o1 o2 M', (∀ k, j + 100 ≤ k → both_Fold.l1 kd k M.m [ci a, ci b, ci c] (q : Int) = some ([ci o0, ci o1, ci o2], M'.m)) ∧ Ext M M' ∧ Cs M M' (2 * fs j q) (17 * fs j q) (6 * fs j q) (39 * fs j q) (RegW M a b c) (RegW M' o0 o1 o2) ∧ ∀ z, Std M a b c z → Std M' o0 o1 o2 (foldW j q z) := by
  intro j
  induction j with
  | zero =>
    intro q hq _ M a b c hc
    obtain rfl : q = 0 := by omega
    refine ⟨a, b, c, M, fun k hk => ?_, .refl _, Cs.refl M _ _ id, fun z s => s⟩
    obtain ⟨k, rfl⟩ : ∃ j, k = j + 1 := ⟨k - 1, by omega⟩
    rw [both_Fold.l1, decide_eq_false (by omega), cond_false]
  | succ j ih =>
    intro q hq h64 M a b c hc
    by_cases h0 : q = 0
    · subst h0
      refine ⟨a, b, c, M, fun k hk => ?_, .refl _, (Cs.refl M _ _ id).cast (by simp [fs]) (by simp [fs]) (by simp [fs]) (by simp [fs]), fun z s => by unfold foldW; rw [if_pos rfl]; exact s⟩
      obtain ⟨k, rfl⟩ : ∃ j, k = j + 1 := ⟨k - 1, by omega⟩
      rw [both_Fold.l1, decide_eq_false (by omega), cond_false]
    have hq2 : q / 2 < 2 ^ j := by rw [Nat.pow_succ] at hq; omega
    obtain ⟨f0, f1, f2, M1, h1, k1, s1⟩ := On_p M a b c q h64
    obtain ⟨g0, g1, g2, M2, h2, k2, s2⟩ := Or_p M1 kd a b c f0 f1 f2 (fun h => hc (h1.e.n ▸ h)) h1.c
    obtain ⟨o0, o1, o2, M', h3, h5, k3, h7⟩ := ih (q / 2) hq2 (by omega) M2 g0 g1 g2 h2.c
    have hfs : fs (j + 1) q = fs j (q / 2) + 1 := by rw [fs, if_neg h0]
    refine ⟨o0, o1, o2, M', fun k hk => ?_, h1.e.trans (h2.e.trans h5), ((k1.comp k2 h1.e.n (fun o i hl => ⟨i.mono hl h1.e.n, o⟩)).comp k3 (h2.e.n.trans h1.e.n) (fun o _ _ => o)).cast (by omega) (by omega) (by omega) (by omega), fun z s => ?_⟩
    · obtain ⟨k, rfl⟩ : ∃ j, k = j + 1 := ⟨k - 1, by omega⟩
      have e1 := h1.p k (by omega); have e2 := h2.p k (by omega)
      rw [both_Fold.l1, decide_eq_true (by omega), cond_true, if_pos (by rfl), wrapU (by omega) (by omega), e1, Option.bind_some, e2, Option.bind_some, if_pos (by rfl), show Int.tdiv (q : Int) 2 = ((q / 2 : Nat) : Int) from rfl, wrapI (by omega) (by omega)]
      exact h3 k (by omega)
    · rw [foldW, if_neg h0]
      exact h7 _ (s2 _ _ (s.ext h1.e) (s1 z s))
/-! what the lowest bit tells -/
theorem foldW_any : ∀ (m j : Nat) (z : BitVec 64), m < j → ((foldW j (2 ^ m) z).getLsbD 0 = true ↔ ∃ i, i < 2 ^ (m + 1) ∧ z.getLsbD i = true)
  | 0, j, z, hj => by
    obtain ⟨j, rfl⟩ : ∃ i, j = i + 1 := ⟨j - 1, by omega⟩
    have e : foldW (j + 1) (2 ^ 0) z = z ||| z >>> 1 := by
      rw [foldW, if_neg (by decide)]
      show foldW j 0 _ = _
      cases j with
      | zero => rfl
      | succ j => rw [foldW, if_pos rfl]
    rw [e, BitVec.getLsbD_or, BitVec.getLsbD_ushiftRight, Bool.or_eq_true]
    constructor
    · rintro (h | h)
      · exact ⟨0, by decide, h⟩
      · exact ⟨1, by decide, h⟩
    · rintro ⟨i, hi, h⟩
      have : i = 0 ∨ i = 1 := by omega
      rcases this with rfl | rfl
      · exact .inl h
      · exact .inr h
  | m + 1, j, z, hj => by
    obtain ⟨j, rfl⟩ : ∃ i, j = i + 1 := ⟨j - 1, by omega⟩
    have h0 : (2 : Nat) ^ (m + 1) ≠ 0 := by have := Nat.two_pow_pos (m + 1); omega
    have hd : (2 : Nat) ^ (m + 1) / 2 = 2 ^ m := by rw [Nat.pow_succ]; omega
    rw [foldW, if_neg h0, hd, foldW_any m j _ (by omega)]
    have h2 : (2 : Nat) ^ (m + 1 + 1) = 2 ^ (m + 1) + 2 ^ (m + 1) := by rw [Nat.pow_succ 2 (m + 1)]; omega
    rw [h2]
    constructor
    · rintro ⟨i, hi, h⟩
      rw [BitVec.getLsbD_or, BitVec.getLsbD_ushiftRight, Bool.or_eq_true] at h
      rcases h with h | h
      · exact ⟨i, by omega, h⟩
      · exact ⟨2 ^ (m + 1) + i, by omega, h⟩
    · rintro ⟨i, hi, h⟩
      by_cases h' : i < 2 ^ (m + 1)
      · exact ⟨i, h', by rw [BitVec.getLsbD_or, h, Bool.true_or]⟩
      · refine ⟨i - 2 ^ (m + 1), by omega, ?_⟩
        rw [BitVec.getLsbD_or, BitVec.getLsbD_ushiftRight, show 2 ^ (m + 1) + (i - 2 ^ (m + 1)) = i by omega, h, Bool.or_true]
theorem low_any (z : BitVec 64) (w : Nat) : z.toNat % 2 ^ w ≠ 0 ↔ ∃ i, i < w ∧ z.getLsbD i = true := by
  constructor
  · intro h
    refine Classical.byContradiction fun hn => h (Nat.eq_of_testBit_eq fun i => ?_)
    rw [Nat.testBit_mod_two_pow, Nat.zero_testBit]
    by_cases hi : i < w
    · rw [decide_eq_true hi, Bool.true_and]
      cases hb : z.toNat.testBit i with
      | false => rfl
      | true => exact (hn ⟨i, hi, hb⟩).elim
    · rw [decide_eq_false hi, Bool.false_and]
  · rintro ⟨i, hi, hb⟩ h
    have := Nat.testBit_mod_two_pow z.toNat w i
    rw [h, Nat.zero_testBit, decide_eq_true hi, Bool.true_and] at this
    have hb' : z.toNat.testBit i = true := hb
    rw [hb'] at this; cases this
theorem odd_w (w : BitVec 64) : (Int.tmod (u w) 2 == 1) = w.getLsbD 0 := by
  have e : Int.tmod (u w) 2 = ((w.toNat % 2 : Nat) : Int) := rfl
  have h : w.getLsbD 0 = decide (w.toNat % 2 = 1) := by
    rw [BitVec.getLsbD, Nat.testBit_zero]
  rw [e, h]
  rcases Nat.mod_two_eq_zero_or_one w.toNat with h' | h' <;> rw [h'] <;> rfl
theorem Fine.less {M : WM} {p : Bool} {d q d' q' : Nat} (h : Fine M p d q) (hd : d' ≤ d) (hq : q' ≤ q) : Fine M p d' q' := ⟨h.bad, h.op, by have := h.room; omega, by have := h.free; omega, by have := h.left; omega⟩
theorem start_fine {n : Int} {ms : List Int} (hn : n = 2 ∨ n = 3) (hw : ∀ x ∈ ms, IsW x) (hl : ms.length * 8 ≤ 140737488351232) (h40 : ms.length = 40) : Fine (start n 2000 ms hn (by omega) hw hl) false 40 2000 :=
  ⟨rfl, ⟨fun _ => rfl, fun _ => rfl⟩, by show ((0 : Nat) : Int) + 2000 ≤ 2000; omega, by show ((40 : Nat) : Int) ≤ (ms.length : Int); omega, by show (0 : Int) + ((40 : Nat) : Int) ≤ (ms.length : Int); omega⟩
theorem awake23_m : visorlaw23_awake.m 1048700 = some true := by kernel_rfl
theorem rDraws23_m (k : Nat) (x : Int) : visorref23_Draws.m k x = some (if x = 2 then 2 else if x = 3 then 6 else 0) := by
  unfold visorref23_Draws.m visorref21_Draws.m visorref22_Draws.m
  by_cases h2 : x = 2
  · subst h2; rfl
  · by_cases h3 : x = 3
    · subst h3; rfl
    · rw [beqF h2, beqF h3, if_neg h2, if_neg h3]; rfl
theorem Err_w (k : Nat) (M : WM) : wire_Machine_Err.m k M.m = some M.m.bad := rfl
theorem Draws_w (k : Nat) (M : WM) : wire_Machine_Draws.m k M.m = some M.m.draws := rfl
theorem folds_l1 (x3 : Int) (t : Nat) (ht : IntKind.i64.wrap (1 + Int.tmod (IntKind.i64.wrap x3) 6) = (t : Int)) (h6 : t ≤ 6) : ∀ (d i k : Nat), i + d = t → d < k → visorlaw23_BothFolds.l1 x3 k ((2 ^ i : Nat) : Int) (i : Int) = some ((2 ^ t : Nat) : Int) := by
  intro d
  induction d with
  | zero =>
    intro i k hi hk
    obtain ⟨k, rfl⟩ : ∃ j, k = j + 1 := ⟨k - 1, by omega⟩
    rw [visorlaw23_BothFolds.l1, ht, decide_eq_false (by omega), cond_false, show i = t by omega]
  | succ d ih =>
    intro i k hi hk
    obtain ⟨k, rfl⟩ : ∃ j, k = j + 1 := ⟨k - 1, by omega⟩
    have hp : 2 ^ i ≤ 2 ^ 6 := Nat.pow_le_pow_right (by decide) (by omega)
    have h1 := ih (i + 1) k (by omega) (by omega)
    rw [Nat.pow_succ] at h1
    generalize 2 ^ i = v at hp h1 ⊢
    rw [visorlaw23_BothFolds.l1, ht, decide_eq_true (by omega), cond_true, wrapI (x := 2 * (v : Int)) (by omega) (by omega), wrapI (by omega) (by omega), show (2 * (v : Int)) = ((v * 2 : Nat) : Int) by omega]
    exact h1
theorem folds_j3 {n : Int} {x3 : Int} {t : Nat} (ht : IntKind.i64.wrap (1 + Int.tmod (IntKind.i64.wrap x3) 6) = (t : Int)) (h6 : t ≤ 6) {M : WM} {z : BitVec 64} {b : Bool} (hb : M.m.bad = 0) (hz : z.getLsbD 0 = b) (hd : M.m.draws = (t : Int) * (if n = 2 then 2 else if n = 3 then 6 else 0)) :
    visorlaw23_BothFolds.j3 1048700 x3 n M.m (u z) b = some true := by
  unfold visorlaw23_BothFolds.j3 visorlaw23_BothFolds.j4
  have hm : IntKind.i64.wrap ((t : Int) * (if n = 2 then 2 else if n = 3 then 6 else 0)) = (t : Int) * (if n = 2 then 2 else if n = 3 then 6 else 0) := by
    split
    · exact wrapI (by omega) (by omega)
    · split
      · exact wrapI (by omega) (by omega)
      · exact wrapI (by omega) (by omega)
  rw [Err_w, Option.bind_some, hb, show ((0 : Int) == 0) = true from rfl, Bool.true_and, odd_w, hz, beq_self_eq_true, cond_true, Draws_w, Option.bind_some, rDraws23_m, Option.bind_some, ht, hm, hd, beq_self_eq_true, cond_true, awake23_m]
  rfl
theorem shl1 (w : Nat) (hw : w < 64) : shl .u64 1 (IntKind.u64.wrap (w : Int)) = ((2 ^ w : Nat) : Int) := by
  have : ∀ v : Fin 64, shl .u64 1 (IntKind.u64.wrap ((v : Nat) : Int)) = ((2 ^ (v : Nat) : Nat) : Int) := by decide
  exact this ⟨w, hw⟩
theorem fs_pow : ∀ t : Fin 7, (t : Nat) ≠ 0 → fs 6 (2 ^ (t : Nat) / 2) = t := by decide
theorem fold_cond : ∀ t : Fin 7, (t : Nat) ≠ 0 → (((decide (((2 ^ (t : Nat) : Nat) : Int) < 2)) || (decide (((2 ^ (t : Nat) : Nat) : Int) > 64))) || ((band .i64 ((2 ^ (t : Nat) : Nat) : Int) (IntKind.i64.wrap (((2 ^ (t : Nat) : Nat) : Int) - 1))) != 0)) = false := by decide
theorem folds_n {n : Int} (hn : n = 2 ∨ n = 3) (kd : Int) (z : BitVec 64) {x3 : Int} (h3 : 0 ≤ x3 ∧ x3 ≤ 255) {x4 : Cells} {ms : List Int} (hms : wds .u64 40 x4 = some ms) (hw : ∀ x ∈ ms, IsW x) : visorlaw23_BothFolds.j1 1048700 kd (u z) x3 x4 n = some true := by
  have hl40 := (wds_some hms).1
  have hl8 : ms.length * 8 ≤ 140737488351232 := by omega
  obtain ⟨t, ht⟩ : ∃ t : Nat, IntKind.i64.wrap (1 + Int.tmod (IntKind.i64.wrap x3) 6) = (t : Int) ∧ 1 ≤ t ∧ t ≤ 6 := by
    refine ⟨(1 + x3 % 6).toNat, ?_, by omega, by omega⟩
    rw [wrapI (x := x3) (by omega) (by omega), Int.tmod_eq_emod_of_nonneg h3.1, wrapI (by omega) (by omega)]; omega
  obtain ⟨ht, t1, t6⟩ := ht
  have hp6 : 2 ^ t ≤ 2 ^ 6 := Nat.pow_le_pow_right (by decide) t6
  have hq : 2 ^ t / 2 = 2 ^ (t - 1) := by
    obtain ⟨s, rfl⟩ : ∃ s, t = s + 1 := ⟨t - 1, by omega⟩
    rw [Nat.pow_succ]; simp
  unfold visorlaw23_BothFolds.j1
  have e1 := folds_l1 x3 t ht t6 t 0 1048700 (by omega) (by omega)
  rw [show ((2 ^ 0 : Nat) : Int) = 1 from rfl, show ((0 : Nat) : Int) = 0 from rfl] at e1
  rw [e1, Option.bind_some, hms, Option.bind_some, Begins_m 1048700 hn (by omega) (by omega) hl8, Option.bind_some]
  dsimp only
  have f0 := start_fine hn hw hl8 hl40
  generalize hM : start n 2000 ms hn (by omega) hw hl8 = M at f0
  have hm : startM n 2000 ms = M.m := by rw [← hM]; rfl
  have hMn : M.m.n = n := by rw [← hm]; rfl
  have hMd : M.m.draws = 0 := by rw [← hm]; rfl
  rw [Bool.not_true, cond_false, hm]
  obtain ⟨p0, p1, p2, M1, h1, k1, s1⟩ := Pub_p M (u z) (isW_u z)
  rw [ofInt_u] at s1
  have hfs : fs 6 (2 ^ t / 2) = t := fs_pow ⟨t, by omega⟩ (by show t ≠ 0; omega)
  have hcond : (((decide (((2 ^ t : Nat) : Int) < 2)) || (decide (((2 ^ t : Nat) : Int) > 64))) || ((band .i64 ((2 ^ t : Nat) : Int) (IntKind.i64.wrap (((2 ^ t : Nat) : Int) - 1))) != 0)) = false := fold_cond ⟨t, by omega⟩ (by show t ≠ 0; omega)
  have hanyt := foldW_any (t - 1) 6 z (by omega)
  rw [← hq, show t - 1 + 1 = t by omega] at hanyt
  clear hq e1
  generalize 2 ^ t = W at hp6 hfs hcond hanyt ⊢
  obtain ⟨o0, o1, o2, M', h2, he, k2, s2⟩ := fold_p kd 6 (W / 2) (by omega) (by omega) M1 p0 p1 p2 h1.c
  rw [hfs] at k2
  have ep := h1.p 1048700 (by omega)
  have ef : both_Fold.m 1048700 M1.m kd [ci p0, ci p1, ci p2] (W : Int) = some ([ci o0, ci o1, ci o2], M'.m) := by
    unfold both_Fold.m
    rw [hcond, cond_false,
      show Int.tdiv (W : Int) 2 = ((W / 2 : Nat) : Int) from rfl, wrapI (by omega) (by omega), h2 1048700 (by omega)]; rfl
  rw [ep, Option.bind_some, ef, Option.bind_some, if_pos (by rfl)]
  have kc := k1.comp k2 h1.e.n (fun o _ _ => o)
  have fin : M'.m.bad = 0 ∧ M'.m.draws = (t : Int) * (if n = 2 then 2 else if n = 3 then 6 else 0) := by
    rcases hn with rfl | rfl
    · obtain ⟨ff, dd, _, _⟩ := kc.c2 hMn 0 0 (f0.less (by omega) (by omega)) trivial
      exact ⟨ff.bad, by rw [dd, hMd]; simp; omega⟩
    · obtain ⟨ff, dd, _, _⟩ := kc.c3 hMn 0 0 (f0.less (by omega) (by omega)) trivial
      exact ⟨ff.bad, by rw [dd, hMd]; simp; omega⟩
  have sv := Value_w (k := 1048700) (by omega) ((s2 z s1).now fin.1)
  have hany := hanyt
  unfold visorlaw23_BothFolds.j2
  rw [if_pos (by rfl), Values_w, Option.bind_some, sv, Option.bind_some]
  by_cases hlt : (W : Int) < 64
  · rw [decide_eq_true hlt, cond_true, if_pos (by rw [wrapU (by omega) (by omega)]; omega), shl1 (W) (by omega), if_pos (by have := Nat.two_pow_pos (W); omega)]
    refine folds_j3 ht t6 fin.1 ?_ fin.2
    rw [tmod_u]
    by_cases hz : z.toNat % 2 ^ W = 0
    · rw [hz]
      have : ¬ ((foldW 6 (W / 2) z).getLsbD 0 = true) := fun h => (low_any z (W)).2 (hany.1 h) hz
      rw [Bool.not_eq_true] at this; rw [this]; rfl
    · rw [hany.2 ((low_any z (W)).1 hz)]
      exact (bneT (by omega)).symm
  · rw [decide_eq_false hlt, cond_false]
    refine folds_j3 ht t6 fin.1 ?_ fin.2
    have h64 : W = 64 := by omega
    rw [h64] at hany
    have hz64 : z.toNat % 2 ^ 64 = z.toNat := Nat.mod_eq_of_lt z.isLt
    by_cases hz : z.toNat = 0
    · have : ¬ ((foldW 6 (W / 2) z).getLsbD 0 = true) := fun h => (low_any z 64).2 (by rw [h64] at h; exact hany.1 h) (by rw [hz64]; exact hz)
      rw [Bool.not_eq_true] at this; rw [this]
      have : u z = 0 := by show ((z.toNat : Nat) : Int) = 0; omega
      rw [this]; rfl
    · have : (foldW 6 (W / 2) z).getLsbD 0 = true := by rw [h64]; exact hany.2 ((low_any z 64).1 (by rw [hz64]; exact hz))
      rw [this]
      exact (bneT (by show ((z.toNat : Nat) : Int) ≠ 0; omega)).symm
theorem fits_wds : ∀ {N : Nat} {x : Cells}, Fits (List.replicate N (LK.int .u64)) x → ∃ l : List Int, wds .u64 N x = some l ∧ ∀ y ∈ l, IsW y := by
  intro N x h
  obtain ⟨l, hl, hw, rfl⟩ := fits_words h
  refine ⟨l.map fun (y : Nat) => (y : Int), ?_, fun y hy => ?_⟩
  · unfold wds
    rw [if_pos (by simp [hl])]
    clear hl hw h
    induction l with
    | nil => rfl
    | cons y l ih => simp only [List.map_cons, List.mapM_cons]; rw [ih]; rfl
  · obtain ⟨v, hv, rfl⟩ := List.mem_map.1 hy
    have := hw v hv
    exact ⟨by omega, by omega⟩
theorem BothFolds_pure (x0 : Bool) (x1 : Int) (x2 : Int) (x3 : Int) (x4 : Cells) (b1 : IntKind.i64.min ≤ x1 ∧ x1 ≤ IntKind.i64.max) (b2 : IntKind.u64.min ≤ x2 ∧ x2 ≤ IntKind.u64.max) (b3 : IntKind.u8.min ≤ x3 ∧ x3 ≤ IntKind.u8.max) (b4 : Fits [LK.int .u64, LK.int .u64, LK.int .u64, LK.int .u64, LK.int .u64, LK.int .u64, LK.int .u64, LK.int .u64, LK.int .u64, LK.int .u64, LK.int .u64, LK.int .u64, LK.int .u64, LK.int .u64, LK.int .u64, LK.int .u64, LK.int .u64, LK.int .u64, LK.int .u64, LK.int .u64, LK.int .u64, LK.int .u64, LK.int .u64, LK.int .u64, LK.int .u64, LK.int .u64, LK.int .u64, LK.int .u64, LK.int .u64, LK.int .u64, LK.int .u64, LK.int .u64, LK.int .u64, LK.int .u64, LK.int .u64, LK.int .u64, LK.int .u64, LK.int .u64, LK.int .u64, LK.int .u64] x4) : ∃ k, visorlaw23_BothFolds.m k x0 x1 x2 x3 x4 = some true := by
  refine ⟨1048700, ?_⟩
  rw [min_u64, max_u64] at b2
  rw [show IntKind.u8.min = 0 from rfl, show IntKind.u8.max = 255 by decide] at b3
  obtain ⟨z, rfl⟩ := exists_u b2.1 b2.2
  obtain ⟨ms, hms, hw⟩ := fits_wds (N := 40) (x := x4) b4
  unfold visorlaw23_BothFolds.m
  cases x0
  · exact folds_n (.inl rfl) x1 z b3 hms hw
  · exact folds_n (.inr rfl) x1 z b3 hms hw
end Go.Proofs.Ytflgefjocjpjaaa
