/- The plain law behind ReplayMachine: its model answers true for all data that fit; no condition beyond their kinds. -/
import Derived.Test.YtkabdodcacfmlaaMReplayMachine4
namespace Go.Proofs.Ytkabdodcacfmlaa
open Go Go.Vk
set_option linter.unusedVariables false

def Tvisorlaw27_Act.ok (x : Tvisorlaw27_Act) : Prop := (IntKind.i64.min ≤ x.kind ∧ x.kind ≤ IntKind.i64.max) ∧ (IntKind.i64.min ≤ x.a ∧ x.a ≤ IntKind.i64.max) ∧ (IntKind.i64.min ≤ x.b ∧ x.b ≤ IntKind.i64.max) ∧ (IntKind.i64.min ≤ x.k ∧ x.k ≤ IntKind.i64.max) ∧ (IntKind.i64.min ≤ x.byF ∧ x.byF ≤ IntKind.i64.max) ∧ (IntKind.u64.min ≤ x.c ∧ x.c ≤ IntKind.u64.max) ∧ True
theorem Tvisorlaw27_Act.of {cs : Cells} (h : Fits [LK.int .i64, LK.int .i64, LK.int .i64, LK.int .i64, LK.int .i64, LK.int .u64] cs) : ∃ x : Tvisorlaw27_Act, cs = x.cells ∧ x.ok := by
  match cs, h with
  | [.int _ n0, .int _ n1, .int _ n2, .int _ n3, .int _ n4, .int _ n5], ⟨⟨rfl, h0⟩, ⟨rfl, h1⟩, ⟨rfl, h2⟩, ⟨rfl, h3⟩, ⟨rfl, h4⟩, ⟨rfl, h5⟩, _⟩ => exact ⟨⟨n0, n1, n2, n3, n4, n5⟩, rfl, ⟨h0, h1, h2, h3, h4, h5, trivial⟩⟩
theorem Tvisorlaw27_Act.ofs : ∀ {l : List Cells}, (∀ x ∈ l, Fits [LK.int .i64, LK.int .i64, LK.int .i64, LK.int .i64, LK.int .i64, LK.int .u64] x) → ∃ l' : List Tvisorlaw27_Act, l = l'.map Tvisorlaw27_Act.cells ∧ ∀ y ∈ l', y.ok
  | [], _ => ⟨[], rfl, fun _ h => (by cases h)⟩
  | x :: l, h => by
    obtain ⟨y, rfl, hy⟩ := Tvisorlaw27_Act.of (h x (List.mem_cons_self ..)); obtain ⟨l', rfl, hl⟩ := Tvisorlaw27_Act.ofs (l := l) fun z hz => h z (List.mem_cons_of_mem _ hz)
    exact ⟨y :: l', rfl, fun z hz => (List.mem_cons.1 hz).elim (fun e => e ▸ hy) (hl z)⟩
/-! What an op makes: both programs' Eval is one function of words. -/
def evalW (kind : Int) (c a b d x : BitVec 64) : BitVec 64 :=
  if kind = 1 then x else if kind = 2 then x ^^^ a ^^^ b else if kind = 3 then c else if kind = 4 then c else if kind = 5 then a ^^^ b else if kind = 6 then ~~~a
  else if kind = 7 then a &&& b else if kind = 8 then a &&& c else if kind = 9 then a <<< (c.toNat % 64) else if kind = 10 then a >>> (c.toNat % 64)
  else if kind = 11 then a.rotateLeft (c.toNat % 64) else if kind = 12 then a ^^^ b ^^^ d else 0#64
theorem rot63 (x : BitVec 64) (n : Nat) (h : n < 64) : x <<< n ||| x >>> (64 - n) = x.rotateLeft n := by
  rw [BitVec.rotateLeft_def, Nat.mod_eq_of_lt h]
theorem octet_Rot_m (k : Nat) (x : BitVec 64) (n : Nat) (h : n < 64) : octet_Rot.m k (u x) (n : Int) = some (u (x.rotateLeft n)) := by
  have hb : band .i64 (n : Int) 63 = (n : Int) := by
    have : ∀ m : Fin 64, band .i64 ((m : Nat) : Int) 63 = ((m : Nat) : Int) := by decide
    exact this ⟨n, h⟩
  unfold octet_Rot.m
  rw [hb, if_pos (by omega), wrap_i64_of (by omega) (by omega), if_pos (by omega), shl_u _ (by omega), shr_u _ (by omega), bor_u]
  congr 2
  rw [← rot63 x n h]
  have e : ((64 : Int) - (n : Int)).toNat = 64 - n := by omega
  rw [e]; rfl
/-- a word, as a number -/
def IsW (x : Int) : Prop := 0 ≤ x ∧ x ≤ 18446744073709551615
theorem IsW.u {x : Int} (h : IsW x) : ∃ b, x = Go.Vk.u b := exists_u h.1 h.2
theorem isW_u (b : BitVec 64) : IsW (Go.Vk.u b) := u_le b
theorem isW_zero : IsW 0 := ⟨by omega, by omega⟩
/-- what an op makes of numbers -/
def evalI (o : Tapi_Op) (a b d x : Int) : Int := u (evalW o.kind (BitVec.ofInt 64 o.c) (BitVec.ofInt 64 a) (BitVec.ofInt 64 b) (BitVec.ofInt 64 d) (BitVec.ofInt 64 x))
theorem evalI_w (o : Tapi_Op) (a b d x : Int) : IsW (evalI o a b d x) := isW_u _
theorem evalI_u (kind dom r s t : Int) (c a b d x : BitVec 64) : evalI ⟨kind, dom, r, s, t, u c⟩ (u a) (u b) (u d) (u x) = u (evalW kind c a b d x) := by
  unfold evalI; simp only [ofInt_u]
/-- but for masks and words of keys, the outside word does not matter -/
theorem evalI_out (o : Tapi_Op) (a b d x y : Int) (h1 : o.kind ≠ 1) (h2 : o.kind ≠ 2) : evalI o a b d x = evalI o a b d y := by
  unfold evalI evalW; simp only [if_neg h1, if_neg h2]
theorem op_Eval_w (k : Nat) (kind dom r s t : Int) (c a b d x : BitVec 64) : op_Eval.m k ⟨kind, dom, r, s, t, u c⟩ (u a) (u b) (u d) (u x) = some (u (evalW kind c a b d x)) := by
  have hm : Int.tmod (u c) 64 = ((c.toNat % 64 : Nat) : Int) := rfl
  have hlt : c.toNat % 64 < 64 := Nat.mod_lt _ (by omega)
  unfold op_Eval.m op_Eval.j1 evalW
  simp only [hm, bxor_u, bnot_u, band_u]
  rw [if_pos (show (0 : Int) ≤ ((c.toNat % 64 : Nat) : Int) by omega), wrap_i64_of (by omega) (by omega), octet_Rot_m k a _ hlt, shl_u _ (by omega), shr_u _ (by omega)]
  simp only [Option.bind_some, Int.toNat_natCast, if_pos (show (0 : Int) ≤ ((c.toNat % 64 : Nat) : Int) by omega)]
  by_cases h1 : kind = 1
  · subst h1; rfl
  by_cases h2 : kind = 2
  · subst h2; rfl
  by_cases h3 : kind = 3
  · subst h3; rfl
  by_cases h4 : kind = 4
  · subst h4; rfl
  by_cases h5 : kind = 5
  · subst h5; rfl
  by_cases h6 : kind = 6
  · subst h6; rfl
  by_cases h7 : kind = 7
  · subst h7; rfl
  by_cases h8 : kind = 8
  · subst h8; rfl
  by_cases h9 : kind = 9
  · subst h9; rfl
  by_cases h10 : kind = 10
  · subst h10; rfl
  by_cases h11 : kind = 11
  · subst h11; rfl
  by_cases h12 : kind = 12
  · subst h12; rfl
  simp only [if_neg h1, if_neg h2, if_neg h3, if_neg h4, if_neg h5, if_neg h6, if_neg h7, if_neg h8, if_neg h9, if_neg h10, if_neg h11, if_neg h12, beq_eq_false_iff_ne.2 h1, beq_eq_false_iff_ne.2 h2, beq_eq_false_iff_ne.2 h3, beq_eq_false_iff_ne.2 h4, beq_eq_false_iff_ne.2 h5, beq_eq_false_iff_ne.2 h6, beq_eq_false_iff_ne.2 h7, beq_eq_false_iff_ne.2 h8, beq_eq_false_iff_ne.2 h9, beq_eq_false_iff_ne.2 h10, beq_eq_false_iff_ne.2 h11, beq_eq_false_iff_ne.2 h12, cond_false]
  rfl
theorem op_Eval_m (k : Nat) (o : Tapi_Op) (a b d x : Int) (hc : IsW o.c) (ha : IsW a) (hb : IsW b) (hd : IsW d) (hx : IsW x) : op_Eval.m k o a b d x = some (evalI o a b d x) := by
  obtain ⟨kind, dom, r, s, t, c⟩ := o
  obtain ⟨c, rfl⟩ := hc.u; obtain ⟨a, rfl⟩ := ha.u; obtain ⟨b, rfl⟩ := hb.u; obtain ⟨d, rfl⟩ := hd.u; obtain ⟨x, rfl⟩ := hx.u
  rw [op_Eval_w, evalI_u]
/-! Which ops may be: both programs' Right is one question. -/
def opRegs (kind n : Int) : Int := if kind = 2 then n - 1 else if kind = 5 ∨ kind = 7 then 2 else if kind = 6 ∨ kind = 8 ∨ kind = 9 ∨ kind = 10 ∨ kind = 11 then 1 else if kind = 12 then n else 0
def okReg (r at' j regs : Int) : Prop := (j < regs → 0 ≤ r ∧ r < at') ∧ (regs ≤ j → r = -1)
instance (r at' j regs : Int) : Decidable (okReg r at' j regs) := by unfold okReg; infer_instance
def okConst (o : Tapi_Op) : Bool := if o.kind = 9 ∨ o.kind = 10 ∨ o.kind = 11 then decide (o.c < 64) else if o.kind = 2 then decide (o.c < 1048576) else if o.kind = 3 ∨ o.kind = 4 ∨ o.kind = 8 then true else o.c == 0
def okHead (o : Tapi_Op) (n : Int) : Prop := 1 ≤ o.kind ∧ o.kind ≤ 12 ∧ -1 ≤ o.dom ∧ o.dom < n ∧ (o.kind = 12 → o.dom = -1)
instance (o : Tapi_Op) (n : Int) : Decidable (okHead o n) := by unfold okHead; infer_instance
def okRegs (o : Tapi_Op) (at' n : Int) : Prop := okReg o.a at' 0 (opRegs o.kind n) ∧ okReg o.b at' 1 (opRegs o.kind n) ∧ okReg o.d at' 2 (opRegs o.kind n)
instance (o : Tapi_Op) (at' n : Int) : Decidable (okRegs o at' n) := by unfold okRegs; infer_instance
/-- may an op be, at a place, of so many shares? -/
def Rt (o : Tapi_Op) (at' n : Int) : Bool := decide (okHead o n) && (decide (okRegs o at' n) && okConst o)
theorem beqF {a b : Int} (h : ¬ a = b) : (a == b) = false := beq_eq_false_iff_ne.2 h
theorem op_Regs_m (k : Nat) (kind n : Int) (hn : n = 2 ∨ n = 3) : op_Regs.m k kind n = some (opRegs kind n) := by
  have hw : IntKind.i64.wrap (n - 1) = n - 1 := wrap_i64_of (by omega) (by omega)
  have h0 : ((n != 2) && (n != 3)) = false := by rcases hn with rfl | rfl <;> rfl
  unfold op_Regs.m op_Regs.j1 op_Regs.j2 opRegs
  rw [h0, cond_false, hw]
  by_cases h2 : kind = 2
  · subst h2; rfl
  by_cases h5 : kind = 5
  · subst h5; rfl
  by_cases h7 : kind = 7
  · subst h7; rfl
  by_cases h6 : kind = 6
  · subst h6; rfl
  by_cases h8 : kind = 8
  · subst h8; rfl
  by_cases h9 : kind = 9
  · subst h9; rfl
  by_cases h10 : kind = 10
  · subst h10; rfl
  by_cases h11 : kind = 11
  · subst h11; rfl
  by_cases h12 : kind = 12
  · subst h12; rfl
  simp only [h2, h5, h6, h7, h8, h9, h10, h11, h12, beqF h2, beqF h5, beqF h6, beqF h7, beqF h8, beqF h9, beqF h10, beqF h11, beqF h12, cond_false, or_self, if_false]
theorem ref_Regs_m (k : Nat) (kind n : Int) (hn : n = 2 ∨ n = 3) : visorref17_Regs.m k kind n = some (opRegs kind n) := op_Regs_m k kind n hn
theorem op_constant_m (k : Nat) (o : Tapi_Op) : op_constant.m k o = some (okConst o) := by
  unfold op_constant.m op_constant.j1 op_constant.j2 okConst
  by_cases h9 : o.kind = 9
  · rw [h9]; rfl
  by_cases h10 : o.kind = 10
  · rw [h10]; rfl
  by_cases h11 : o.kind = 11
  · rw [h11]; rfl
  by_cases h2 : o.kind = 2
  · rw [h2]; rfl
  by_cases h3 : o.kind = 3
  · rw [h3]; rfl
  by_cases h4 : o.kind = 4
  · rw [h4]; rfl
  by_cases h8 : o.kind = 8
  · rw [h8]; rfl
  simp only [h2, h3, h4, h8, h9, h10, h11, beqF h2, beqF h3, beqF h4, beqF h8, beqF h9, beqF h10, beqF h11, cond_false, or_self, if_false]
theorem op_Right_step (o : Tapi_Op) (at' v : Int) (k j : Nat) (r : Int) (hj : j < 3) (hr : getI .i64 [C.int .i64 o.a, C.int .i64 o.b, C.int .i64 o.d] j = some r) :
    op_Right.l1 o at' v (k + 1) (j : Int) = if okReg r at' j v then op_Right.l1 o at' v k ((j + 1 : Nat) : Int) else some (.inl false) := by
  have hw : IntKind.i64.wrap ((j : Int) + 1) = ((j + 1 : Nat) : Int) := by rw [wrap_i64_of (by omega) (by omega)]; omega
  conv => lhs; unfold op_Right.l1
  rw [decide_eq_true (show (j : Int) < 3 by omega), cond_true, if_pos (by omega), Int.toNat_natCast, hr, Option.bind_some, hw]
  by_cases h1 : (j : Int) < v
  · rw [decide_eq_true h1, cond_true, decide_eq_false (show ¬ (j : Int) ≥ v by omega), Bool.false_and, cond_false]
    by_cases h2 : r < 0
    · rw [decide_eq_true h2, Bool.true_or, cond_true, if_neg (by unfold okReg; omega)]
    · rw [decide_eq_false h2, Bool.false_or]
      by_cases h3 : r ≥ at'
      · rw [decide_eq_true h3, cond_true, if_neg (by unfold okReg; omega)]
      · rw [decide_eq_false h3, cond_false, if_pos (by unfold okReg; omega)]
  · rw [decide_eq_false h1, cond_false, decide_eq_true (show (j : Int) ≥ v by omega), Bool.true_and]
    by_cases h2 : r = -1
    · rw [show (r != -1) = false by simp [h2], cond_false, if_pos (by unfold okReg; omega)]
    · rw [show (r != -1) = true by simp [h2], cond_true, if_neg (by unfold okReg; omega)]
theorem op_Right_end (o : Tapi_Op) (at' v : Int) (k : Nat) : op_Right.l1 o at' v (k + 1) ((3 : Nat) : Int) = some (.inr ()) := by unfold op_Right.l1; rfl
theorem ref_Right_step (o : Tapi_Op) (at' n : Int) (hn : n = 2 ∨ n = 3) (k j : Nat) (r : Int) (hj : j < 3) (hr : getI .i64 [C.int .i64 o.a, C.int .i64 o.b, C.int .i64 o.d] j = some r) :
    visorref17_Right.l1 o at' n (k + 1) (j : Int) = if okReg r at' j (opRegs o.kind n) then visorref17_Right.l1 o at' n k ((j + 1 : Nat) : Int) else some (.inl false) := by
  have hw : IntKind.i64.wrap ((j : Int) + 1) = ((j + 1 : Nat) : Int) := by rw [wrap_i64_of (by omega) (by omega)]; omega
  have hj0 : 0 + ((j : Nat) : Int).toNat * 1 = j := by simp
  conv => lhs; unfold visorref17_Right.l1
  rw [decide_eq_true (show (j : Int) < 3 by omega), cond_true, ref_Regs_m _ _ _ hn, Option.bind_some, if_pos (by omega), hj0, hr, Option.bind_some, hw]
  simp only [Option.bind_some]
  generalize opRegs o.kind n = v
  by_cases h1 : (j : Int) < v
  · rw [decide_eq_true h1, cond_true]
    by_cases h2 : r < 0
    · rw [decide_eq_true h2, cond_true, if_neg (by unfold okReg; omega)]
    · rw [decide_eq_false h2, cond_false, if_pos (by omega)]
      by_cases h3 : r ≥ at'
      · rw [decide_eq_true h3, cond_true, if_neg (by unfold okReg; omega)]
      · rw [decide_eq_false h3, cond_false, decide_eq_false (show ¬ (j : Int) ≥ v by omega), cond_false, if_pos (by unfold okReg; omega)]
  · rw [decide_eq_false h1, cond_false, decide_eq_true (show (j : Int) ≥ v by omega), cond_true, if_pos (by omega)]
    by_cases h2 : r = -1
    · rw [show (r != -1) = false by simp [h2], cond_false, if_pos (by unfold okReg; omega)]
    · rw [show (r != -1) = true by simp [h2], cond_true, if_neg (by unfold okReg; omega)]
theorem ref_Right_end (o : Tapi_Op) (at' n : Int) (k : Nat) : visorref17_Right.l1 o at' n (k + 1) ((3 : Nat) : Int) = some (.inr ()) := by unfold visorref17_Right.l1; rfl
theorem op_Right_loop (o : Tapi_Op) (at' n : Int) (k : Nat) : op_Right.l1 o at' (opRegs o.kind n) (k + 4) 0 = some (if okRegs o at' n then .inr () else .inl false) := by
  have h := op_Right_step o at' (opRegs o.kind n) (k + 3) 0 o.a (by omega) rfl
  have h0 : ((0 : Nat) : Int) = 0 := rfl
  rw [h0] at h
  rw [h, op_Right_step o at' _ (k + 2) 1 o.b (by omega) rfl, op_Right_step o at' _ (k + 1) 2 o.d (by omega) rfl, op_Right_end]
  unfold okRegs
  by_cases h1 : okReg o.a at' 0 (opRegs o.kind n)
  · by_cases h2 : okReg o.b at' 1 (opRegs o.kind n)
    · by_cases h3 : okReg o.d at' 2 (opRegs o.kind n)
      · simp [h1, h2, h3]
      · simp [h1, h2, h3]
    · simp [h1, h2]
  · simp [h1]
theorem ref_Right_loop (o : Tapi_Op) (at' n : Int) (hn : n = 2 ∨ n = 3) (k : Nat) : visorref17_Right.l1 o at' n (k + 4) 0 = some (if okRegs o at' n then .inr () else .inl false) := by
  have h := ref_Right_step o at' n hn (k + 3) 0 o.a (by omega) rfl
  have h0 : ((0 : Nat) : Int) = 0 := rfl
  rw [h0] at h
  rw [h, ref_Right_step o at' n hn (k + 2) 1 o.b (by omega) rfl, ref_Right_step o at' n hn (k + 1) 2 o.d (by omega) rfl, ref_Right_end]
  unfold okRegs
  by_cases h1 : okReg o.a at' 0 (opRegs o.kind n)
  · by_cases h2 : okReg o.b at' 1 (opRegs o.kind n)
    · by_cases h3 : okReg o.d at' 2 (opRegs o.kind n)
      · simp [h1, h2, h3]
      · simp [h1, h2, h3]
    · simp [h1, h2]
  · simp [h1]
theorem op_Right_j (k : Nat) (o : Tapi_Op) (at' n : Int) (hn : n = 2 ∨ n = 3) (b : Bool) : op_Right.j1 (k + 4) o at' n b = some (!b && (decide (okRegs o at' n) && okConst o)) := by
  unfold op_Right.j1
  cases b
  · rw [cond_false, op_Regs_m _ _ _ hn, Option.bind_some, op_Right_loop, Option.bind_some, op_constant_m]
    by_cases h : okRegs o at' n
    · rw [if_pos h]; simp [h]
    · rw [if_neg h]; simp [h]
  · rfl
theorem ref_Right_j (k : Nat) (o : Tapi_Op) (at' n : Int) (hn : n = 2 ∨ n = 3) (b : Bool) : visorref17_Right.j1 (k + 4) o at' n b = some (!b && (decide (okRegs o at' n) && okConst o)) := by
  have hc : ∀ k, (bif o.kind == 9 then visorref17_Right.j2 k o (o.kind == 9) else (bif o.kind == 10 then visorref17_Right.j2 k o (o.kind == 10) else visorref17_Right.j2 k o (o.kind == 11))) = some (okConst o) := fun k => op_constant_m k o
  unfold visorref17_Right.j1
  cases b
  · rw [cond_false, ref_Right_loop o at' n hn, Option.bind_some]
    by_cases h : okRegs o at' n
    · rw [if_pos h]; simp only [hc]; simp [h]
    · rw [if_neg h]; simp [h]
  · rfl
theorem op_Right_m (k : Nat) (o : Tapi_Op) (at' n : Int) (hn : n = 2 ∨ n = 3) : op_Right.m (k + 4) o at' n = some (Rt o at' n) := by
  have h0 : ((n != 2) && (n != 3)) = false := by rcases hn with rfl | rfl <;> rfl
  unfold op_Right.m op_is.m
  rw [h0, cond_false, Option.bind_some]
  simp only [op_Right_j _ _ _ _ hn]
  unfold Rt okHead
  by_cases h1 : 1 ≤ o.kind
  · by_cases h2 : o.kind ≤ 12
    · by_cases h3 : -1 ≤ o.dom
      · by_cases h4 : o.dom < n
        · have e : ((!(decide (o.kind ≥ 1) && decide (o.kind ≤ 12)) || decide (o.dom < -1)) || decide (o.dom ≥ n)) = false := by
            simp only [Bool.or_eq_false_iff, decide_eq_false_iff_not, Bool.not_eq_false', Bool.and_eq_true, decide_eq_true_eq]; omega
          rw [e, cond_false]
          by_cases h5 : o.kind = 12
          · by_cases h6 : o.dom = -1
            · simp [h5, h6]; omega
            · have : o.dom ≥ 0 := by omega
              simp [h5, h6, this]
          · simp [h1, h2, h3, h4, h5, beqF h5]
        · have e : ((!(decide (o.kind ≥ 1) && decide (o.kind ≤ 12)) || decide (o.dom < -1)) || decide (o.dom ≥ n)) = true := by simp; omega
          rw [e, cond_true]; simp [h4]
      · have e : ((!(decide (o.kind ≥ 1) && decide (o.kind ≤ 12)) || decide (o.dom < -1)) || decide (o.dom ≥ n)) = true := by simp; omega
        rw [e, cond_true]; simp [h3]
    · have e : ((!(decide (o.kind ≥ 1) && decide (o.kind ≤ 12)) || decide (o.dom < -1)) || decide (o.dom ≥ n)) = true := by simp; omega
      rw [e, cond_true]; simp [h2]
  · have e : ((!(decide (o.kind ≥ 1) && decide (o.kind ≤ 12)) || decide (o.dom < -1)) || decide (o.dom ≥ n)) = true := by simp; omega
    rw [e, cond_true]; simp [h1]
theorem ref_Right_m (k : Nat) (o : Tapi_Op) (at' n : Int) (hn : n = 2 ∨ n = 3) : visorref17_Right.m (k + 4) o at' n = some (Rt o at' n) := by
  have h0 : ((n != 2) && (n != 3)) = false := by rcases hn with rfl | rfl <;> rfl
  unfold visorref17_Right.m
  simp only [ref_Right_j _ _ _ _ hn, h0]
  unfold Rt okHead
  by_cases h1 : 1 ≤ o.kind
  · by_cases h2 : o.kind ≤ 12
    · by_cases h3 : -1 ≤ o.dom
      · by_cases h4 : o.dom < n
        · have e : ((((false || decide (o.kind < 1)) || decide (o.kind > 12)) || decide (o.dom < -1)) || decide (o.dom ≥ n)) = false := by
            simp only [Bool.or_eq_false_iff, decide_eq_false_iff_not, true_and]; omega
          rw [e, cond_false]
          by_cases h5 : o.kind = 12
          · by_cases h6 : o.dom = -1
            · simp [h5, h6]; omega
            · simp [h5, h6]
          · simp [h1, h2, h3, h4, h5, beqF h5]
        · have e : ((((false || decide (o.kind < 1)) || decide (o.kind > 12)) || decide (o.dom < -1)) || decide (o.dom ≥ n)) = true := by simp; omega
          rw [e, cond_true]; simp [h4]
      · have e : ((((false || decide (o.kind < 1)) || decide (o.kind > 12)) || decide (o.dom < -1)) || decide (o.dom ≥ n)) = true := by simp; omega
        rw [e, cond_true]; simp [h3]
    · have e : ((((false || decide (o.kind < 1)) || decide (o.kind > 12)) || decide (o.dom < -1)) || decide (o.dom ≥ n)) = true := by simp; omega
      rw [e, cond_true]; simp [h2]
  · have e : ((((false || decide (o.kind < 1)) || decide (o.kind > 12)) || decide (o.dom < -1)) || decide (o.dom ≥ n)) = true := by simp; omega
    rw [e, cond_true]; simp [h1]
/-! A machine's Do, as one total function. -/
def atI (v : List Int) (r : Int) : Int := if 0 ≤ r ∧ r < (v.length : Int) then v.getD r.toNat 0 else 0
theorem atI_w {v : List Int} (hv : ∀ x ∈ v, IsW x) (r : Int) : IsW (atI v r) := by
  unfold atI
  split
  · rename_i h
    have hlt : r.toNat < v.length := by omega
    rw [List.getD_eq_getElem?_getD, List.getElem?_eq_getElem hlt]; exact hv _ (List.getElem_mem hlt)
  · exact isW_zero
theorem atI_neg {v : List Int} {r : Int} (h : r < 0) : atI v r = 0 := by unfold atI; rw [if_neg (by omega)]
theorem atI_append {v : List Int} {r : Int} (h : r < (v.length : Int)) (l : List Int) : atI (v ++ l) r = atI v r := by
  unfold atI
  by_cases h0 : 0 ≤ r
  · have hlt : r.toNat < v.length := by omega
    rw [if_pos (show 0 ≤ r ∧ r < ((v ++ l).length : Int) from ⟨h0, by rw [List.length_append]; omega⟩), if_pos (show 0 ≤ r ∧ r < (v.length : Int) from ⟨h0, h⟩), List.getD_eq_getElem?_getD, List.getD_eq_getElem?_getD, List.getElem?_append_left hlt]
  · rw [if_neg (by omega), if_neg (by omega)]
theorem value_m (k : Nat) (m : Twire_Machine) (r : Int) (h : r < 0 ∨ r < (m.values.length : Int)) : wire_Machine_value.m k m r = some (atI m.values r) := by
  unfold wire_Machine_value.m
  by_cases h0 : r < 0
  · rw [decide_eq_true h0, cond_true, atI_neg h0]
  · have hlt : r.toNat < m.values.length := by omega
    rw [decide_eq_false h0, cond_false, if_pos (by omega), List.getElem?_eq_getElem hlt, Option.bind_some]
    unfold atI
    rw [if_pos (by omega), List.getD_eq_getElem?_getD, List.getElem?_eq_getElem hlt]; rfl
/-- registers of an op that may be -/
theorem Rt_regs {o : Tapi_Op} {at' n : Int} (h : Rt o at' n = true) (h0 : 0 ≤ at') : (o.a < 0 ∨ o.a < at') ∧ (o.b < 0 ∨ o.b < at') ∧ (o.d < 0 ∨ o.d < at') := by
  unfold Rt at h
  simp only [Bool.and_eq_true, decide_eq_true_eq] at h
  obtain ⟨h1, h2, h3⟩ := h.2.1
  unfold okReg at h1 h2 h3
  omega
def Twire_Machine.len (m : Twire_Machine) : Int := m.base + (m.ops.length : Int)
/-- is a mask to be drawn, and there is none? -/
def noMask (t : Ttape_Tape) : Prop := t.free < 1 ∨ (t.words.length : Int) - t.used.v < 1
instance (t : Ttape_Tape) : Decidable (noMask t) := by unfold noMask; infer_instance
def failM (m : Twire_Machine) (e : Int) : Int × Twire_Machine := (-1, ⟨m.n, m.most, m.base, m.words, m.draws, m.dry, m.openF, m.fromF, e, m.tape, m.ops, m.values, m.blocks⟩)
def pushM (m : Twire_Machine) (o : Tapi_Op) (x : Int) : Int × Twire_Machine :=
  if m.dry then (m.base, ⟨m.n, m.most, m.base + 1, if o.kind = 2 then m.words + 1 else m.words, if o.kind = 1 then m.draws + 1 else m.draws, m.dry, m.openF, m.fromF, m.bad, m.tape, m.ops, m.values, m.blocks⟩)
  else ((m.ops.length : Int), ⟨m.n, m.most, m.base, if o.kind = 2 then m.words + 1 else m.words, if o.kind = 1 then m.draws + 1 else m.draws, m.dry, m.openF, m.fromF, m.bad, m.tape, m.ops ++ [o], m.values ++ [evalI o (atI m.values o.a) (atI m.values o.b) (atI m.values o.d) x], m.blocks⟩)
def drawnM (m : Twire_Machine) : Twire_Machine := ⟨m.n, m.most, m.base, m.words, m.draws, m.dry, m.openF, m.fromF, m.bad, ⟨m.tape.words, ⟨m.tape.used.v + 1⟩, m.tape.free - 1⟩, m.ops, m.values, m.blocks⟩
def rightM (m : Twire_Machine) (o : Tapi_Op) : Bool := Rt o m.len m.n && (o.kind != 2 || o.c == m.words)
def doM (m : Twire_Machine) (o : Tapi_Op) (x : Int) : Int × Twire_Machine :=
  if m.bad ≠ 0 then (-1, m)
  else if rightM m o = false then failM m 1
  else if m.dry = false ∧ m.most ≤ (m.ops.length : Int) then failM m 3
  else if o.kind = 1 ∧ m.dry = false then
    (if noMask m.tape then failM m 2 else pushM (drawnM m) o (atI m.tape.words m.tape.used.v))
  else pushM m o x
/-- a machine that may be -/
structure MOk (m : Twire_Machine) : Prop where
  n : m.n = 2 ∨ m.n = 3
  most : m.most ≤ 1048576
  base : 0 ≤ m.base ∧ m.base ≤ 4611686018427387904
  words : 0 ≤ m.words ∧ m.words ≤ m.base + (m.ops.length : Int)
  draws : 0 ≤ m.draws ∧ m.draws ≤ m.base + (m.ops.length : Int)
  ops : m.ops.length ≤ 1048576
  vals : m.values.length = m.ops.length
  bad : 0 ≤ m.bad ∧ m.bad ≤ 3
  wvals : ∀ x ∈ m.values, IsW x
  wtape : ∀ x ∈ m.tape.words, IsW x
  used : 0 ≤ m.tape.used.v ∧ m.tape.used.v ≤ (m.tape.words.length : Int)
  free : m.tape.free ≤ (m.tape.words.length : Int)
  tlen : (m.tape.words.length : Int) ≤ 4611686018427387904
  wet : m.dry = false → m.base = 0
  dryV : m.dry = true → m.ops = []
theorem wrapI {x : Int} (h0 : -4611686018427387904 ≤ x) (h1 : x ≤ 4611686018427387904 * 3 / 2) : IntKind.i64.wrap x = x := wrap_i64_of (by omega) (by omega)
theorem Len_m (k : Nat) {m : Twire_Machine} (h : MOk m) : wire_Machine_Len.m k m = some m.len := by
  have := h.base; have := h.ops
  unfold wire_Machine_Len.m Twire_Machine.len
  rw [wrapI (by omega) (by omega)]
theorem right_m (k : Nat) {m : Twire_Machine} (h : MOk m) (o : Tapi_Op) : wire_Machine_right.m (k + 4) m o = some (rightM m o) := by
  have hw : IntKind.u64.wrap m.words = m.words := by have := h.words; have := h.base; have := h.ops; exact wrap_u64_of (by omega) (by omega)
  unfold wire_Machine_right.m rightM
  rw [Len_m _ h, Option.bind_some, op_Right_m _ _ _ _ h.n, Option.bind_some, hw]
theorem fail_m (k : Nat) (m : Twire_Machine) (e : Int) (h : m.bad = 0) : wire_Machine_fail.m k m e = some (failM m e) := by
  unfold wire_Machine_fail.m wire_Machine_fail.j1 failM
  rw [h]; rfl
theorem draw_no (k : Nat) {m : Twire_Machine} (h : MOk m) (hn : noMask m.tape) : tape_Tape_Draw.m k m.tape = some (0, false, m.tape) := by
  have := h.used; have := h.tlen
  unfold tape_Tape_Draw.m tape_Tape_Draw.j1 tape_Tape_Left.m tape_Tape_Used.m
  unfold noMask at hn
  by_cases hf : m.tape.free < 1
  · rw [decide_eq_true hf]; rfl
  · rw [decide_eq_false hf, cond_false, Option.bind_some, Option.bind_some, wrapI (by omega) (by omega), decide_eq_true (by omega)]; rfl
theorem draw_yes (k : Nat) {m : Twire_Machine} (h : MOk m) (hn : ¬ noMask m.tape) : tape_Tape_Draw.m k m.tape = some (atI m.tape.words m.tape.used.v, true, (drawnM m).tape) := by
  have h1 := h.used; have h2 := h.tlen; have h3 := h.free
  unfold noMask at hn
  have hlt : m.tape.used.v.toNat < m.tape.words.length := by omega
  unfold tape_Tape_Draw.m tape_Tape_Draw.j1 tape_Tape_Left.m tape_Tape_Used.m
  rw [decide_eq_false (show ¬ m.tape.free < 1 by omega), cond_false, Option.bind_some, Option.bind_some, wrapI (by omega) (by omega), decide_eq_false (by omega), cond_false, wrapI (x := m.tape.used.v + 1) (by omega) (by omega), show m.tape.used.v + 1 - 1 = m.tape.used.v by omega, wrapI (x := m.tape.used.v) (by omega) (by omega), wrapI (x := m.tape.free - 1) (by omega) (by omega),
    if_pos (by omega), List.getElem?_eq_getElem hlt, Option.bind_some]
  unfold atI drawnM
  rw [if_pos (by omega), List.getD_eq_getElem?_getD, List.getElem?_eq_getElem hlt]; rfl
theorem MOk.draw {m : Twire_Machine} (h : MOk m) (hn : ¬ noMask m.tape) : MOk (drawnM m) := by
  have h1 := h.used; have h2 := h.tlen; have h3 := h.free
  unfold noMask at hn
  exact ⟨h.n, h.most, h.base, h.words, h.draws, h.ops, h.vals, h.bad, h.wvals, h.wtape, ⟨by show 0 ≤ m.tape.used.v + 1; omega, by show m.tape.used.v + 1 ≤ (m.tape.words.length : Int); omega⟩, by show m.tape.free - 1 ≤ (m.tape.words.length : Int); omega, h.tlen, h.wet, h.dryV⟩
theorem push_j3 (k : Nat) {m : Twire_Machine} (h : MOk m) (o : Tapi_Op) (x : Int) (hc : IsW o.c) (hx : IsW x) (hr : Rt o m.len m.n = true) (hb : m.base < 4611686018427387904) (hl : m.dry = false → m.ops.length < 1048576) (w d : Int) :
    wire_Machine_Do.j3 k o x ⟨m.n, m.most, m.base, w, d, m.dry, m.openF, m.fromF, m.bad, m.tape, m.ops, m.values, m.blocks⟩ =
      some (if m.dry then (m.base, ⟨m.n, m.most, m.base + 1, w, d, m.dry, m.openF, m.fromF, m.bad, m.tape, m.ops, m.values, m.blocks⟩) else ((m.ops.length : Int), ⟨m.n, m.most, m.base, w, d, m.dry, m.openF, m.fromF, m.bad, m.tape, m.ops ++ [o], m.values ++ [evalI o (atI m.values o.a) (atI m.values o.b) (atI m.values o.d) x], m.blocks⟩)) := by
  have h1 := h.base; have h2 := h.ops; have h3 := h.vals
  unfold wire_Machine_Do.j3
  cases hd : m.dry
  · have hb0 := h.wet hd
    have hlen : m.len = (m.ops.length : Int) := by unfold Twire_Machine.len; omega
    have hg := Rt_regs hr (by rw [hlen]; omega)
    rw [hlen] at hg
    have hl := hl hd
    have value : ∀ r : Int, r < 0 ∨ r < (m.ops.length : Int) → wire_Machine_value.m k ⟨m.n, m.most, m.base, w, d, false, m.openF, m.fromF, m.bad, m.tape, m.ops, m.values, m.blocks⟩ r = some (atI m.values r) := fun r hr => value_m k ⟨m.n, m.most, m.base, w, d, false, m.openF, m.fromF, m.bad, m.tape, m.ops, m.values, m.blocks⟩ r (by show r < 0 ∨ r < (m.values.length : Int); omega)
    dsimp only
    rw [cond_false, value _ hg.1, Option.bind_some, value _ hg.2.1, Option.bind_some, value _ hg.2.2, Option.bind_some,
      op_Eval_m k o _ _ _ _ hc (atI_w h.wvals _) (atI_w h.wvals _) (atI_w h.wvals _) hx, Option.bind_some, if_pos (by simp only [List.length_cons, List.length_nil]; omega), if_pos (by simp only [List.length_cons, List.length_nil]; omega)]
    rw [List.length_append, List.length_cons, List.length_nil, wrapI (by omega) (by omega), show (((m.ops.length + (0 + 1) : Nat)) : Int) - 1 = (m.ops.length : Int) by omega]
    rfl
  · dsimp only
    rw [cond_true, wrapI (x := m.base + 1) (by omega) (by omega), show m.base + 1 - 1 = m.base by omega, wrapI (by omega) (by omega)]; rfl
theorem push_j2 (k : Nat) {m : Twire_Machine} (h : MOk m) (o : Tapi_Op) (x : Int) (hc : IsW o.c) (hx : IsW x) (hr : Rt o m.len m.n = true) (hb : m.base < 4611686018427387904) (hl : m.dry = false → m.ops.length < 1048576) :
    wire_Machine_Do.j2 k o m x = some (pushM m o x) := by
  have h1 := h.base; have h2 := h.ops; have h3 := h.words; have h4 := h.draws
  have e1 : IntKind.i64.wrap (m.draws + 1) = m.draws + 1 := wrapI (by omega) (by omega)
  have e2 : IntKind.i64.wrap (m.words + 1) = m.words + 1 := wrapI (by omega) (by omega)
  unfold wire_Machine_Do.j2 pushM
  by_cases k1 : o.kind = 1
  · rw [k1]
    simp only [show ((1 : Int) == 1) = true from rfl, cond_true, e1]
    rw [push_j3 k h o x hc hx hr hb hl]; rfl
  · by_cases k2 : o.kind = 2
    · rw [k2]
      simp only [show ((2 : Int) == 1) = false from rfl, show ((2 : Int) == 2) = true from rfl, cond_true, cond_false, e2]
      rw [push_j3 k h o x hc hx hr hb hl]; rfl
    · rw [beqF k1, beqF k2, cond_false, cond_false, if_neg k1, if_neg k2]
      exact push_j3 k h o x hc hx hr hb hl m.words m.draws
theorem Do_m (k : Nat) {m : Twire_Machine} (h : MOk m) (o : Tapi_Op) (x : Int) (hc : IsW o.c) (hx : IsW x) (hb : m.base < 4611686018427387904) : wire_Machine_Do.m (k + 4) m o x = some (doM m o x) := by
  have h2 := h.ops; have h5 := h.most
  unfold wire_Machine_Do.m doM
  by_cases b0 : m.bad = 0
  · rw [show (m.bad != 0) = false by simp [b0], cond_false, if_neg (by omega), right_m k h, Option.bind_some]
    cases hr : rightM m o
    · rw [Bool.not_false, cond_true, fail_m _ _ _ b0, Option.bind_some, if_pos rfl]
    · have hR : Rt o m.len m.n = true := by unfold rightM at hr; rw [Bool.and_eq_true] at hr; exact hr.1
      rw [Bool.not_true, cond_false, if_neg (by simp)]
      unfold wire_Machine_Do.j1
      cases hd : m.dry
      · rw [Bool.not_false, cond_true]
        by_cases hm : m.most ≤ (m.ops.length : Int)
        · rw [decide_eq_true (show ((m.ops.length : Nat) : Int) ≥ m.most from hm), cond_true, fail_m _ _ _ b0, Option.bind_some, if_pos ⟨rfl, hm⟩]
        · rw [decide_eq_false (show ¬ ((m.ops.length : Nat) : Int) ≥ m.most from hm), cond_false, if_neg (fun h => hm h.2)]
          by_cases k1 : o.kind = 1
          · rw [show ((o.kind == 1) && true) = true by simp [k1], cond_true, cond_false, if_pos ⟨k1, rfl⟩]
            by_cases hn : noMask m.tape
            · rw [draw_no _ h hn, Option.bind_some, if_pos hn]
              dsimp only
              rw [Bool.not_false, cond_true, ← hd, fail_m _ _ _ b0, Option.bind_some]
            · rw [draw_yes _ h hn, Option.bind_some, if_neg hn]
              dsimp only
              rw [Bool.not_true, cond_false, ← hd]
              exact push_j2 (k + 4) (h.draw hn) o _ hc (atI_w h.wtape _) hR hb (fun _ => by show m.ops.length < 1048576; omega)
          · rw [show ((o.kind == 1) && true) = false by rw [beqF k1]; rfl, cond_false, if_neg (fun h => k1 h.1)]
            exact push_j2 (k + 4) h o x hc hx hR hb (fun _ => by omega)
      · rw [Bool.not_true, cond_false, cond_false, Bool.and_false, cond_false, if_neg (fun h => by cases h.1), if_neg (fun h => by cases h.2)]
        exact push_j2 (k + 4) h o x hc hx hR hb (fun e => by rw [hd] at e; cases e)
  · rw [show (m.bad != 0) = true by simp [b0], cond_true, if_pos b0]
theorem pushM_wet {m : Twire_Machine} (hd : m.dry = false) (o : Tapi_Op) (x : Int) : pushM m o x = ((m.ops.length : Int), ⟨m.n, m.most, m.base, if o.kind = 2 then m.words + 1 else m.words, if o.kind = 1 then m.draws + 1 else m.draws, m.dry, m.openF, m.fromF, m.bad, m.tape, m.ops ++ [o], m.values ++ [evalI o (atI m.values o.a) (atI m.values o.b) (atI m.values o.d) x], m.blocks⟩) := by
  unfold pushM; rw [if_neg (by rw [hd]; simp)]
theorem pushM_dry {m : Twire_Machine} (hd : m.dry = true) (o : Tapi_Op) (x : Int) : pushM m o x = (m.base, ⟨m.n, m.most, m.base + 1, if o.kind = 2 then m.words + 1 else m.words, if o.kind = 1 then m.draws + 1 else m.draws, m.dry, m.openF, m.fromF, m.bad, m.tape, m.ops, m.values, m.blocks⟩) := by
  unfold pushM; rw [if_pos hd]
theorem up_le (c : Prop) [Decidable c] {a b : Int} (h0 : 0 ≤ a ∧ a ≤ b) : 0 ≤ (if c then a + 1 else a) ∧ (if c then a + 1 else a) ≤ b + 1 := by split <;> omega
theorem MOk.push {m : Twire_Machine} (h : MOk m) (o : Tapi_Op) (x : Int) (hb : m.base < 4611686018427387904) (hl : m.dry = false → m.ops.length < 1048576) : MOk (pushM m o x).2 := by
  have h1 := h.base; have h2 := h.ops; have h5 := h.vals
  cases hd : m.dry
  · have hl := hl hd
    have hb0 := h.wet hd
    rw [pushM_wet hd]
    refine ⟨h.n, h.most, h.base, ?_, ?_, ?_, ?_, h.bad, ?_, h.wtape, h.used, h.free, h.tlen, fun _ => hb0, fun e => (by rw [hd] at e; cases e)⟩
    · have := up_le (o.kind = 2) h.words
      simp only [List.length_append, List.length_cons, List.length_nil]; omega
    · have := up_le (o.kind = 1) h.draws
      simp only [List.length_append, List.length_cons, List.length_nil]; omega
    · simp only [List.length_append, List.length_cons, List.length_nil]; omega
    · simp only [List.length_append, List.length_cons, List.length_nil]; omega
    · intro y hy
      rcases List.mem_append.1 hy with hy | hy
      · exact h.wvals y hy
      · rw [List.mem_singleton.1 hy]; exact evalI_w _ _ _ _ _
  · rw [pushM_dry hd]
    refine ⟨h.n, h.most, ⟨by show 0 ≤ m.base + 1; omega, by show m.base + 1 ≤ 4611686018427387904; omega⟩, ?_, ?_, h.ops, h.vals, h.bad, h.wvals, h.wtape, h.used, h.free, h.tlen, fun e => (by rw [hd] at e; cases e), fun _ => h.dryV hd⟩
    · have := up_le (o.kind = 2) h.words
      dsimp only; omega
    · have := up_le (o.kind = 1) h.draws
      dsimp only; omega
theorem MOk.fail {m : Twire_Machine} (h : MOk m) (e : Int) (he : 0 ≤ e ∧ e ≤ 3) : MOk (failM m e).2 :=
  ⟨h.n, h.most, h.base, h.words, h.draws, h.ops, h.vals, he, h.wvals, h.wtape, h.used, h.free, h.tlen, h.wet, h.dryV⟩
theorem MOk.did {m : Twire_Machine} (h : MOk m) (o : Tapi_Op) (x : Int) (hb : m.base < 4611686018427387904) : MOk (doM m o x).2 := by
  have h5 := h.most
  unfold doM
  repeat' split
  · exact h
  · exact h.fail 1 (by omega)
  · exact h.fail 3 (by omega)
  · exact h.fail 2 (by omega)
  · rename_i h1 h2 hn; exact (h.draw hn).push o _ hb (fun hd => by show m.ops.length < 1048576; have : ¬ m.most ≤ (m.ops.length : Int) := fun e => h1 ⟨hd, e⟩; omega)
  · rename_i h1 h2; exact h.push o x hb (fun hd => by have : ¬ m.most ≤ (m.ops.length : Int) := fun e => h1 ⟨hd, e⟩; omega)
/-! Begin, End, and what stays true of a machine: its words are what its ops make. -/
theorem Do_k {k : Nat} (hk : 4 ≤ k) {m : Twire_Machine} (h : MOk m) (o : Tapi_Op) (x : Int) (hc : IsW o.c) (hx : IsW x) (hb : m.base < 4611686018427387904) : wire_Machine_Do.m k m o x = some (doM m o x) := by
  obtain ⟨j, rfl⟩ : ∃ j, k = j + 4 := ⟨k - 4, by omega⟩
  exact Do_m j h o x hc hx hb
theorem next_m (k : Nat) {m : Twire_Machine} (h : MOk m) : wire_Machine_next.m k m = some m.words := by
  have := h.words; have := h.base; have := h.ops
  unfold wire_Machine_next.m
  rw [wrap_u64_of (by omega) (by omega)]
theorem words_w {m : Twire_Machine} (h : MOk m) : IsW m.words := by
  have := h.words; have := h.base; have := h.ops
  unfold IsW; omega
theorem Key_k {k : Nat} (hk : 4 ≤ k) {m : Twire_Machine} (h : MOk m) (x a b : Int) (hx : IsW x) (hb : m.base < 4611686018427387904) : wire_Machine_Key.m k m x a b = some (doM m ⟨2, 0, a, b, -1, m.words⟩ x) := by
  unfold wire_Machine_Key.m
  rw [next_m _ h, Option.bind_some, Do_k hk h _ _ (words_w h) hx hb, Option.bind_some]
def beginM (m : Twire_Machine) (kd : Int) : Twire_Machine :=
  if m.bad ≠ 0 then m else if m.openF ≠ 0 ∨ kd < 1 ∨ kd > 3 then (failM m 1).2 else ⟨m.n, m.most, m.base, m.words, m.draws, m.dry, kd, m.len, m.bad, m.tape, m.ops, m.values, m.blocks⟩
def endM (m : Twire_Machine) : Twire_Machine :=
  if m.bad ≠ 0 then m else if m.openF = 0 then (failM m 1).2 else ⟨m.n, m.most, m.base, m.words, m.draws, m.dry, 0, m.fromF, m.bad, m.tape, m.ops, m.values, if m.fromF < m.len ∧ m.dry = false then m.blocks ++ [⟨m.openF, m.fromF, m.len⟩] else m.blocks⟩
theorem Begin_m (k : Nat) {m : Twire_Machine} (h : MOk m) (kd : Int) : wire_Machine_Begin.m k m kd = some (beginM m kd) := by
  unfold wire_Machine_Begin.m beginM
  by_cases b0 : m.bad = 0
  · rw [show (m.bad != 0) = false by simp [b0], cond_false, if_neg (by omega)]
    by_cases c : m.openF ≠ 0 ∨ kd < 1 ∨ kd > 3
    · have e : ((m.openF != 0) || decide (kd < 1) || decide (kd > 3)) = true := by
        simp only [Bool.or_eq_true, bne_iff_ne, ne_eq, decide_eq_true_eq]; rcases c with c | c | c <;> simp [c]
      rw [e, cond_true, fail_m _ _ _ b0, Option.bind_some, if_pos c]
    · have e : ((m.openF != 0) || decide (kd < 1) || decide (kd > 3)) = false := by
        simp only [Bool.or_eq_false_iff, bne_eq_false_iff_eq, decide_eq_false_iff_not]; omega
      rw [e, cond_false, Len_m _ h, Option.bind_some, if_neg c]
  · rw [show (m.bad != 0) = true by simp [b0], cond_true, if_pos b0]
theorem End_m (k : Nat) {m : Twire_Machine} (h : MOk m) (hbl : m.blocks.length ≤ 2097152) : wire_Machine_End.m k m = some (endM m) := by
  unfold wire_Machine_End.m endM
  by_cases b0 : m.bad = 0
  · rw [show (m.bad != 0) = false by simp [b0], cond_false, if_neg (show ¬ m.bad ≠ 0 by omega)]
    by_cases c : m.openF = 0
    · rw [show (m.openF == 0) = true by simp [c], cond_true, fail_m _ _ _ b0, Option.bind_some, if_pos c]
    · rw [beqF c, cond_false, Len_m _ h, Option.bind_some, if_neg c]
      unfold wire_Machine_End.j1
      by_cases c2 : m.fromF < m.len
      · cases hd : m.dry
        · rw [decide_eq_true (show m.len > m.fromF from c2), Bool.not_false, Bool.true_and, cond_true, Option.bind_some, if_pos (by simp only [List.length_cons, List.length_nil]; omega), if_pos ⟨c2, rfl⟩]
        · rw [Bool.not_true, Bool.and_false, cond_false, if_neg (fun h => by cases h.2)]
      · rw [decide_eq_false (show ¬ m.len > m.fromF from c2), Bool.false_and, cond_false, if_neg (fun h => c2 h.1)]
  · rw [show (m.bad != 0) = true by simp [b0], cond_true, if_pos b0]
/-! ops that are made, one by one -/
def cnt (kd : Int) (l : List Tapi_Op) : Nat := l.countP fun o => o.kind == kd
theorem cnt_snoc (kd : Int) (l : List Tapi_Op) (o : Tapi_Op) : cnt kd (l ++ [o]) = cnt kd l + (if o.kind = kd then 1 else 0) := by
  unfold cnt
  rw [List.countP_append]
  by_cases h : o.kind = kd <;> simp [h]
theorem cnt_le (kd : Int) (l : List Tapi_Op) : cnt kd l ≤ l.length := List.countP_le_length
def outw (T K : List Int) (ops : List Tapi_Op) (o : Tapi_Op) : Int := if o.kind = 1 then T.getD (cnt 1 ops) 0 else if o.kind = 2 then K.getD o.c.toNat 0 else 0
inductive Made (n : Int) (T K : List Int) : List Tapi_Op → List Int → Prop
  | nil : Made n T K [] []
  | snoc {ops : List Tapi_Op} {vals : List Int} {o : Tapi_Op} {v : Int} : Made n T K ops vals → Rt o (ops.length : Int) n = true → (o.kind = 2 → o.c = (cnt 2 ops : Int)) → IsW o.c →
      v = evalI o (atI vals o.a) (atI vals o.b) (atI vals o.d) (outw T K ops o) → Made n T K (ops ++ [o]) (vals ++ [v])
theorem Made.len {n : Int} {T K : List Int} {ops : List Tapi_Op} {vals : List Int} (h : Made n T K ops vals) : vals.length = ops.length := by
  induction h with
  | nil => rfl
  | snoc _ _ _ _ _ ih => simp [ih]
theorem Made.at {n : Int} {T K : List Int} {ops : List Tapi_Op} {vals : List Int} (h : Made n T K ops vals) : ∀ (i : Nat) (o : Tapi_Op) (v : Int), ops[i]? = some o → vals[i]? = some v →
    Rt o (i : Int) n = true ∧ (o.kind = 2 → o.c = (cnt 2 (ops.take i) : Int)) ∧ IsW o.c ∧ v = evalI o (atI vals o.a) (atI vals o.b) (atI vals o.d) (outw T K (ops.take i) o) := by
  induction h with
  | nil => intro i o v h; simp at h
  | @snoc ops vals o' v' hm h1 h2 h3 h4 ih =>
    intro i o v ho hv
    have hl := hm.len
    by_cases hi : i < ops.length
    · rw [List.getElem?_append_left hi] at ho
      rw [List.getElem?_append_left (by omega)] at hv
      obtain ⟨a1, a2, a3, a4⟩ := ih i o v ho hv
      have hr := Rt_regs a1 (by omega)
      rw [List.take_append_of_le_length (by omega)]
      refine ⟨a1, a2, a3, ?_⟩
      rw [atI_append (by omega), atI_append (by omega), atI_append (by omega)]; exact a4
    · have e : i = ops.length := by
        have := (List.getElem?_eq_some_iff.1 ho).1
        simp at this; omega
      subst e
      rw [List.getElem?_append_right (Nat.le_refl _), Nat.sub_self] at ho
      rw [← hl, List.getElem?_append_right (Nat.le_refl _), Nat.sub_self] at hv
      cases ho; cases hv
      have hr := Rt_regs h1 (by omega)
      rw [List.take_left]
      refine ⟨h1, h2, h3, ?_⟩
      rw [atI_append (by omega), atI_append (by omega), atI_append (by omega)]; exact h4
/-- blocks in order, from 'last' on, within so many ops -/
def BlOk (len : Int) : Int → List Tapi_Span → Prop
  | _, [] => True
  | last, b :: l => 1 ≤ b.kind ∧ b.kind ≤ 3 ∧ last ≤ b.fromF ∧ b.fromF < b.to ∧ b.to ≤ len ∧ BlOk len b.to l
def lastTo : Int → List Tapi_Span → Int
  | last, [] => last
  | _, b :: l => lastTo b.to l
theorem BlOk.mono {len len' : Int} (hl : len ≤ len') : ∀ {l : List Tapi_Span} {last : Int}, BlOk len last l → BlOk len' last l
  | [], _, _ => trivial
  | b :: l, _, ⟨h1, h2, h3, h4, h5, h6⟩ => ⟨h1, h2, h3, h4, by omega, BlOk.mono hl h6⟩
theorem BlOk.snoc {len : Int} {b : Tapi_Span} : ∀ {l : List Tapi_Span} {last : Int}, BlOk len last l → 1 ≤ b.kind → b.kind ≤ 3 → lastTo last l ≤ b.fromF → b.fromF < b.to → b.to ≤ len → BlOk len last (l ++ [b])
  | [], _, _, g1, g2, g3, g4, g5 => ⟨g1, g2, g3, g4, g5, trivial⟩
  | _ :: _, _, ⟨h1, h2, h3, h4, h5, h6⟩, g1, g2, g3, g4, g5 => ⟨h1, h2, h3, h4, h5, BlOk.snoc h6 g1 g2 g3 g4 g5⟩
theorem BlOk.count {len : Int} : ∀ {l : List Tapi_Span} {last : Int}, BlOk len last l → last + (l.length : Int) ≤ lastTo last l ∧ (last ≤ len → lastTo last l ≤ len)
  | [], last, _ => by simp [lastTo]
  | b :: l, last, ⟨h1, h2, h3, h4, h5, h6⟩ => by
    have := BlOk.count h6
    simp only [lastTo, List.length_cons]; omega
/-! The document's machine is the program's, seen otherwise. -/
def absT (t : Ttape_Tape) : Tvisorref02_T := ⟨t.words.drop t.used.v.toNat, t.used.v, t.free⟩
def absM (m : Twire_Machine) : Tvisorref19_M := ⟨m.n, m.most, m.words, m.draws, m.fromF, 0, m.openF, m.bad, m.ops, m.blocks, m.values, absT m.tape, m.dry⟩
/-! A wet machine that may be, with what is done to it as total functions: by the program, and by the document. -/
structure WMok (m : Twire_Machine) : Prop where
  ok : MOk m
  dry : m.dry = false
  bl : BlOk (m.ops.length : Int) 0 m.blocks
  fr : lastTo 0 m.blocks ≤ m.fromF ∨ m.openF = 0
  op : 0 ≤ m.openF ∧ m.openF ≤ 3
theorem WMok.len {m : Twire_Machine} (h : WMok m) : m.len = (m.ops.length : Int) := by
  unfold Twire_Machine.len; rw [h.ok.wet h.dry]; omega
theorem WMok.fail {m : Twire_Machine} (h : WMok m) (e : Int) (he : 0 ≤ e ∧ e ≤ 3) : WMok (failM m e).2 := ⟨h.ok.fail e he, h.dry, h.bl, h.fr, h.op⟩
theorem doM_keeps (m : Twire_Machine) (o : Tapi_Op) (x : Int) : (doM m o x).2.dry = m.dry ∧ (doM m o x).2.blocks = m.blocks ∧ (doM m o x).2.fromF = m.fromF ∧ (doM m o x).2.openF = m.openF ∧ (doM m o x).2.n = m.n := by
  unfold doM failM pushM drawnM
  repeat' split
  all_goals exact ⟨rfl, rfl, rfl, rfl, rfl⟩
theorem doM_grows (m : Twire_Machine) (o : Tapi_Op) (x : Int) : m.ops.length ≤ (doM m o x).2.ops.length := by
  unfold doM failM pushM drawnM
  repeat' split
  all_goals first | exact Nat.le_refl _ | (simp only [List.length_append]; omega)
theorem WMok.did {m : Twire_Machine} (h : WMok m) (o : Tapi_Op) (x : Int) : WMok (doM m o x).2 := by
  obtain ⟨h1, h2, h3, h4, _⟩ := doM_keeps m o x
  have hg := doM_grows m o x
  refine ⟨h.ok.did o x (by rw [h.ok.wet h.dry]; omega), by rw [h1]; exact h.dry, ?_, ?_, ?_⟩
  · rw [h2]; exact h.bl.mono (by omega)
  · rw [h2, h3, h4]; exact h.fr
  · rw [h4]; exact h.op
theorem WMok.begin {m : Twire_Machine} (h : WMok m) (kd : Int) : WMok (beginM m kd) := by
  have hb := h.bl.count
  unfold beginM
  repeat' split
  · exact h
  · exact h.fail 1 (by omega)
  · refine ⟨⟨h.ok.n, h.ok.most, h.ok.base, h.ok.words, h.ok.draws, h.ok.ops, h.ok.vals, h.ok.bad, h.ok.wvals, h.ok.wtape, h.ok.used, h.ok.free, h.ok.tlen, h.ok.wet, h.ok.dryV⟩, h.dry, h.bl, .inl ?_, ?_⟩
    · show lastTo 0 m.blocks ≤ m.len
      rw [h.len]; omega
    · show 0 ≤ kd ∧ kd ≤ 3
      omega
theorem WMok.fin {m : Twire_Machine} (h : WMok m) : WMok (endM m) := by
  unfold endM
  have ho := h.op
  split
  · exact h
  · split
    · exact h.fail 1 (by omega)
    · rename_i h1 h2
      have hok : MOk ⟨m.n, m.most, m.base, m.words, m.draws, m.dry, 0, m.fromF, m.bad, m.tape, m.ops, m.values, if m.fromF < m.len ∧ m.dry = false then m.blocks ++ [⟨m.openF, m.fromF, m.len⟩] else m.blocks⟩ :=
        ⟨h.ok.n, h.ok.most, h.ok.base, h.ok.words, h.ok.draws, h.ok.ops, h.ok.vals, h.ok.bad, h.ok.wvals, h.ok.wtape, h.ok.used, h.ok.free, h.ok.tlen, h.ok.wet, h.ok.dryV⟩
      refine ⟨hok, h.dry, ?_, .inr rfl, ⟨Int.le_refl 0, by show (0 : Int) ≤ 3; omega⟩⟩
      show BlOk (m.ops.length : Int) 0 (if m.fromF < m.len ∧ m.dry = false then m.blocks ++ [⟨m.openF, m.fromF, m.len⟩] else m.blocks)
      split
      · rename_i h3
        refine h.bl.snoc (by show 1 ≤ m.openF; omega) (by show m.openF ≤ 3; omega) (by show lastTo 0 m.blocks ≤ m.fromF; rcases h.fr with e | e <;> omega) h3.1 (by show m.len ≤ _; rw [h.len]; omega)
      · exact h.bl
structure WM where
  m : Twire_Machine
  w : WMok m
def WM.D (M : WM) (o : Tapi_Op) (x : Int) : Int × WM := ((doM M.m o x).1, ⟨(doM M.m o x).2, M.w.did o x⟩)
def WM.B (M : WM) (kd : Int) : WM := ⟨beginM M.m kd, M.w.begin kd⟩
def WM.E (M : WM) : WM := ⟨endM M.m, M.w.fin⟩
theorem WM.blocks (M : WM) : M.m.blocks.length ≤ 1048576 := by
  have := M.w.bl.count; have := M.w.ok.ops; omega
theorem N_w (k : Nat) (M : WM) : wire_Machine_N.m k M.m = some M.m.n := rfl
theorem D_n (M : WM) (o : Tapi_Op) (x : Int) : (M.D o x).2.m.n = M.m.n := (doM_keeps M.m o x).2.2.2.2
theorem B_n (M : WM) (kd : Int) : (M.B kd).m.n = M.m.n := by
  show (beginM M.m kd).n = M.m.n
  unfold beginM failM; repeat' split
  all_goals rfl
theorem E_n (M : WM) : M.E.m.n = M.m.n := by
  show (endM M.m).n = M.m.n
  unfold endM failM; repeat' split
  all_goals rfl
theorem Do_w {k : Nat} (hk : 4 ≤ k) (M : WM) (o : Tapi_Op) (x : Int) (hc : IsW o.c) (hx : IsW x) : wire_Machine_Do.m k M.m o x = some ((M.D o x).1, (M.D o x).2.m) := Do_k hk M.w.ok o x hc hx (by rw [M.w.ok.wet M.w.dry]; omega)
theorem Two_w {k : Nat} (hk : 4 ≤ k) (M : WM) (kd dom a b : Int) : wire_Machine_Two.m k M.m kd dom a b = some ((M.D ⟨kd, dom, a, b, -1, 0⟩ 0).1, (M.D ⟨kd, dom, a, b, -1, 0⟩ 0).2.m) := by
  unfold wire_Machine_Two.m; rw [Do_w hk M _ _ isW_zero isW_zero]; rfl
theorem Rand_w {k : Nat} (hk : 4 ≤ k) (M : WM) (dom : Int) : wire_Machine_Rand.m k M.m dom = some ((M.D ⟨1, dom, -1, -1, -1, 0⟩ 0).1, (M.D ⟨1, dom, -1, -1, -1, 0⟩ 0).2.m) := by
  unfold wire_Machine_Rand.m; rw [Do_w hk M _ _ isW_zero isW_zero]; rfl
theorem Key_w {k : Nat} (hk : 4 ≤ k) (M : WM) (x a b : Int) (hx : IsW x) : wire_Machine_Key.m k M.m x a b = some ((M.D ⟨2, 0, a, b, -1, M.m.words⟩ x).1, (M.D ⟨2, 0, a, b, -1, M.m.words⟩ x).2.m) := Key_k hk M.w.ok x a b hx (by rw [M.w.ok.wet M.w.dry]; omega)
theorem Begin_w (k : Nat) (M : WM) (kd : Int) : wire_Machine_Begin.m k M.m kd = some (M.B kd).m := Begin_m k M.w.ok kd
theorem End_w (k : Nat) (M : WM) : wire_Machine_End.m k M.m = some M.E.m := End_m k M.w.ok (by have := M.blocks; omega)
theorem words_W (M : WM) : IsW M.m.words := words_w M.w.ok
theorem W2 : IntKind.i64.wrap (1 + 1) = 2 := by decide
theorem W3 : IntKind.i64.wrap (2 + 1) = 3 := by decide
theorem W01 : IntKind.i64.wrap (0 + 1) = 1 := by decide
/-! What a machine's registers hold, and what words stand for. -/
def Val (M : WM) (r : Int) (x : BitVec 64) : Prop := 0 ≤ r ∧ M.m.values[r.toNat]? = some (u x)
structure Ext (M M' : WM) : Prop where
  n : M'.m.n = M.m.n
  bad : M'.m.bad = 0 → M.m.bad = 0
  vals : ∃ l, M'.m.values = M.m.values ++ l
theorem Ext.refl (M : WM) : Ext M M := ⟨rfl, id, [], by simp⟩
theorem Ext.trans {M N P : WM} (h : Ext M N) (g : Ext N P) : Ext M P := by
  obtain ⟨l, hl⟩ := h.vals
  obtain ⟨l', hl'⟩ := g.vals
  exact ⟨g.n.trans h.n, fun e => h.bad (g.bad e), l ++ l', by rw [hl', hl, List.append_assoc]⟩
theorem Val.ext {M M' : WM} {r : Int} {x : BitVec 64} (h : Val M r x) (e : Ext M M') : Val M' r x := by
  obtain ⟨l, hl⟩ := e.vals
  refine ⟨h.1, ?_⟩
  have := (List.getElem?_eq_some_iff.1 h.2).1
  rw [hl, List.getElem?_append_left this]; exact h.2
theorem Val.at {M : WM} {r : Int} {x : BitVec 64} (h : Val M r x) : atI M.m.values r = u x := by
  have := (List.getElem?_eq_some_iff.1 h.2).1
  have h0 := h.1
  unfold atI
  rw [if_pos (by omega), List.getD_eq_getElem?_getD, h.2]; rfl
theorem doM_ext (M : WM) (o : Tapi_Op) (x : Int) : ((M.D o x).2.m.bad = 0 → M.m.bad = 0) ∧ (∃ l, (M.D o x).2.m.values = M.m.values ++ l) := by
  show ((doM M.m o x).2.bad = 0 → M.m.bad = 0) ∧ (∃ l, (doM M.m o x).2.values = M.m.values ++ l)
  have hd := M.w.dry
  unfold doM
  repeat' split
  · exact ⟨id, [], by simp⟩
  · exact ⟨fun h => by simp [failM] at h, [], by simp [failM]⟩
  · exact ⟨fun h => by simp [failM] at h, [], by simp [failM]⟩
  · exact ⟨fun h => by simp [failM] at h, [], by simp [failM]⟩
  · rw [pushM_wet (m := drawnM M.m) hd]; exact ⟨id, _, rfl⟩
  · rw [pushM_wet hd]; exact ⟨id, _, rfl⟩
theorem D_ext (M : WM) (o : Tapi_Op) (x : Int) : Ext M (M.D o x).2 := ⟨D_n M o x, (doM_ext M o x).1, (doM_ext M o x).2⟩
theorem B_ext (M : WM) (kd : Int) : Ext M (M.B kd) := by
  refine ⟨B_n M kd, ?_, [], ?_⟩
  · show (beginM M.m kd).bad = 0 → M.m.bad = 0
    unfold beginM failM; repeat' split
    · exact id
    · intro h; cases h
    · exact id
  · show (beginM M.m kd).values = M.m.values ++ []
    unfold beginM failM; repeat' split
    all_goals simp
theorem E_ext (M : WM) : Ext M M.E := by
  refine ⟨E_n M, ?_, [], ?_⟩
  · show (endM M.m).bad = 0 → M.m.bad = 0
    unfold endM failM; repeat' split
    all_goals first | exact id | (intro h; cases h)
  · show (endM M.m).values = M.m.values ++ []
    unfold endM failM; repeat' split
    all_goals simp
/-- what a Do without an error leaves -/
theorem D_val (M : WM) (o : Tapi_Op) (x : Int) (h : (M.D o x).2.m.bad = 0) : Rt o (M.m.ops.length : Int) M.m.n = true ∧ ∃ z, (o.kind ≠ 1 → z = x) ∧ Val (M.D o x).2 (M.D o x).1 (evalW o.kind (BitVec.ofInt 64 o.c) (BitVec.ofInt 64 (atI M.m.values o.a)) (BitVec.ofInt 64 (atI M.m.values o.b)) (BitVec.ofInt 64 (atI M.m.values o.d)) (BitVec.ofInt 64 z)) := by
  change (doM M.m o x).2.bad = 0 at h
  show Rt o (M.m.ops.length : Int) M.m.n = true ∧ ∃ z, _ ∧ (0 ≤ (doM M.m o x).1 ∧ (doM M.m o x).2.values[(doM M.m o x).1.toNat]? = _)
  have hd := M.w.dry
  have hl := M.w.ok.vals
  have hlen := M.w.len
  have h' := (doM_ext M o x).1 h
  unfold doM at h ⊢
  rw [if_neg (by omega)] at h ⊢
  by_cases hr : rightM M.m o = false
  · rw [if_pos hr] at h; cases h
  · rw [if_neg hr] at h ⊢
    have hR : Rt o (M.m.ops.length : Int) M.m.n = true := by
      rw [Bool.not_eq_false] at hr
      unfold rightM at hr; rw [Bool.and_eq_true, hlen] at hr; exact hr.1
    refine ⟨hR, ?_⟩
    by_cases hm : M.m.dry = false ∧ M.m.most ≤ (M.m.ops.length : Int)
    · rw [if_pos hm] at h; cases h
    · rw [if_neg hm] at h ⊢
      by_cases k1 : o.kind = 1 ∧ M.m.dry = false
      · rw [if_pos k1] at h ⊢
        by_cases hn : noMask M.m.tape
        · rw [if_pos hn] at h; cases h
        · rw [if_neg hn] at h ⊢
          refine ⟨atI M.m.tape.words M.m.tape.used.v, fun e => absurd k1.1 e, ?_⟩
          rw [pushM_wet (m := drawnM M.m) hd]
          refine ⟨by show (0 : Int) ≤ ((M.m.ops.length : Nat) : Int); omega, ?_⟩
          show (M.m.values ++ [_])[(M.m.ops.length : Int).toNat]? = _
          rw [Int.toNat_natCast, ← hl, List.getElem?_append_right (Nat.le_refl _), Nat.sub_self]; rfl
      · rw [if_neg k1] at h ⊢
        refine ⟨x, fun _ => rfl, ?_⟩
        rw [pushM_wet hd]
        refine ⟨by show (0 : Int) ≤ ((M.m.ops.length : Nat) : Int); omega, ?_⟩
        show (M.m.values ++ [_])[(M.m.ops.length : Int).toNat]? = _
        rw [Int.toNat_natCast, ← hl, List.getElem?_append_right (Nat.le_refl _), Nat.sub_self]; rfl
/-- what a word stands for -/
def Stands (M : WM) (a b c : Int) (x : BitVec 64) : Prop :=
  (M.m.n = 2 ∧ c = -1 ∧ ∃ p q, Val M a p ∧ Val M b q ∧ x = p ^^^ q) ∨ (M.m.n = 3 ∧ ∃ p q r, Val M a p ∧ Val M b q ∧ Val M c r ∧ x = p ^^^ q ^^^ r)
theorem Stands.ext {M M' : WM} {a b c : Int} {x : BitVec 64} (h : Stands M a b c x) (e : Ext M M') : Stands M' a b c x := by
  rcases h with ⟨hn, hc, p, q, h1, h2, h3⟩ | ⟨hn, p, q, r, h1, h2, h3, h4⟩
  · exact .inl ⟨e.n.trans hn, hc, p, q, h1.ext e, h2.ext e, h3⟩
  · exact .inr ⟨e.n.trans hn, p, q, r, h1.ext e, h2.ext e, h3.ext e, h4⟩
/-! One step of a chain of calls, by what it leaves. -/
theorem bstep {α β : Type} {o : Option α} {v : α} {f : α → Option β} {r : Option β} (h : o = some v) (h2 : f v = r) : o.bind f = r := by rw [h]; exact h2
theorem bifT {α : Type} {c : Bool} {x y r : α} (h : c = true) (h2 : x = r) : (bif c then x else y) = r := by rw [h]; exact h2
theorem bifF {α : Type} {c : Bool} {x y r : α} (h : c = false) (h2 : y = r) : (bif c then x else y) = r := by rw [h]; exact h2
theorem iteP {α : Type} {c : Prop} {inst : Decidable c} {x y r : α} (h : c) (h2 : x = r) : (if c then x else y) = r := by rw [if_pos h]; exact h2
theorem beqT {a b : Int} (h : a = b) : (a == b) = true := by simp [h]
theorem beqN {a b : Int} (h : a ≠ b) : (a == b) = false := by simp [h]
theorem bneT {a b : Int} (h : a ≠ b) : (a != b) = true := by simp [h]
theorem bneN {a b : Int} (h : a = b) : (a != b) = false := by simp [h]
theorem N_v {k : Nat} {M : WM} {n : Int} (h : M.m.n = n) : wire_Machine_N.m k M.m = some n := by rw [N_w, h]
theorem Begin_v {k : Nat} {M B : WM} {kd : Int} (h : B = M.B kd) : wire_Machine_Begin.m k M.m kd = some B.m := by rw [Begin_w, h]
theorem End_v {k : Nat} {M B : WM} (h : B = M.E) : wire_Machine_End.m k M.m = some B.m := by rw [End_w, h]
theorem Rand_v {k : Nat} {M : WM} {X : Int × WM} {dom : Int} (h : X = M.D ⟨1, dom, -1, -1, -1, 0⟩ 0) (hk : 4 ≤ k) : wire_Machine_Rand.m k M.m dom = some (X.1, X.2.m) := by rw [Rand_w hk, h]
theorem Two_v {k : Nat} {M : WM} {X : Int × WM} {kd dom a b : Int} (h : X = M.D ⟨kd, dom, a, b, -1, 0⟩ 0) (hk : 4 ≤ k) : wire_Machine_Two.m k M.m kd dom a b = some (X.1, X.2.m) := by rw [Two_w hk, h]
theorem One_v {k : Nat} {M : WM} {X : Int × WM} {kd dom a c : Int} (h : X = M.D ⟨kd, dom, a, -1, -1, c⟩ 0) (hk : 4 ≤ k) (hc : IsW c) : wire_Machine_One.m k M.m kd dom a c = some (X.1, X.2.m) := by
  unfold wire_Machine_One.m; rw [Do_w hk M _ _ hc isW_zero, h]; rfl
theorem Const_v {k : Nat} {M : WM} {X : Int × WM} {dom c : Int} (h : X = M.D ⟨3, dom, -1, -1, -1, c⟩ 0) (hk : 4 ≤ k) (hc : IsW c) : wire_Machine_Const.m k M.m dom c = some (X.1, X.2.m) := by
  unfold wire_Machine_Const.m; rw [Do_w hk M _ _ hc isW_zero, h]; rfl
theorem Told_v {k : Nat} {M : WM} {X : Int × WM} {dom c : Int} (h : X = M.D ⟨4, dom, -1, -1, -1, c⟩ 0) (hk : 4 ≤ k) (hc : IsW c) : wire_Machine_Told.m k M.m dom c = some (X.1, X.2.m) := by
  unfold wire_Machine_Told.m; rw [Do_w hk M _ _ hc isW_zero, h]; rfl
/-! Steps inside a bind; what a register holds, told of a later machine. -/
theorem bassoc {α β γ : Type} {A : Option α} {g : α → Option β} {f : β → Option γ} {r : Option γ} (h : A.bind (fun x => (g x).bind f) = r) : (A.bind g).bind f = r := by cases A <;> exact h
theorem biteP {α β : Type} {c : Prop} {inst : Decidable c} {x y : Option α} {f : α → Option β} {r : Option β} (h : c) (h2 : x.bind f = r) : Option.bind (if c then x else y) f = r := by rw [if_pos h]; exact h2
theorem bbifT {α β : Type} {c : Bool} {x y : Option α} {f : α → Option β} {r : Option β} (h : c = true) (h2 : x.bind f = r) : Option.bind (bif c then x else y) f = r := by rw [h]; exact h2
theorem bbifF {α β : Type} {c : Bool} {x y : Option α} {f : α → Option β} {r : Option β} (h : c = false) (h2 : y.bind f = r) : Option.bind (bif c then x else y) f = r := by rw [h]; exact h2
theorem bsome {α β : Type} {x : α} {f : α → Option β} {r : Option β} (h : f x = r) : (some x).bind f = r := h
theorem ltT {a b n : Int} (h : b = n) (h2 : decide (a < n) = true) : decide (a < b) = true := by rw [h]; exact h2
theorem ltF {a b n : Int} (h : b = n) (h2 : decide (a < n) = false) : decide (a < b) = false := by rw [h]; exact h2
theorem Do_v {k : Nat} {M : WM} {X : Int × WM} {o : Tapi_Op} {x : Int} (h : X = M.D o x) (hk : 4 ≤ k) (hc : IsW o.c) (hx : IsW x) : wire_Machine_Do.m k M.m o x = some (X.1, X.2.m) := by rw [Do_w hk M o x hc hx, h]
theorem Key_v {k : Nat} {M : WM} {X : Int × WM} {a b x : Int} (h : X = M.D ⟨2, 0, a, b, -1, M.m.words⟩ x) (hk : 4 ≤ k) (hx : IsW x) : wire_Machine_Key.m k M.m x a b = some (X.1, X.2.m) := by rw [Key_w hk M x a b hx, h]
theorem D_vext {M : WM} {X : Int × WM} {o : Tapi_Op} {x : Int} (e : X = M.D o x) : Ext M X.2 := by rw [e]; exact D_ext ..
theorem B_vext {M B : WM} {kd : Int} (e : B = M.B kd) : Ext M B := by rw [e]; exact B_ext ..
theorem E_vext {M B : WM} (e : B = M.E) : Ext M B := by rw [e]; exact E_ext ..
theorem opRegs_reg {o : Tapi_Op} {len n : Int} (h : Rt o len n = true) (hl : 0 ≤ len) : o.a < len ∧ o.b < len ∧ o.d < len := by
  obtain ⟨h1, h2, h3⟩ := Rt_regs h hl
  omega
/-- a Do, seen from a later machine without an error -/
theorem D_at {M F : WM} {X : Int × WM} {o : Tapi_Op} {x : Int} (e : X = M.D o x) (g : Ext X.2 F) (hF : F.m.bad = 0) : ∃ z, (o.kind ≠ 1 → z = x) ∧ Val F X.1 (evalW o.kind (BitVec.ofInt 64 o.c) (BitVec.ofInt 64 (atI F.m.values o.a)) (BitVec.ofInt 64 (atI F.m.values o.b)) (BitVec.ofInt 64 (atI F.m.values o.d)) (BitVec.ofInt 64 z)) := by
  have hX := g.bad hF
  subst e
  obtain ⟨hR, z, hz, hv⟩ := D_val M o x hX
  refine ⟨z, hz, ?_⟩
  have hl := M.w.ok.vals
  obtain ⟨h1, h2, h3⟩ := opRegs_reg hR (by omega)
  obtain ⟨l, hle⟩ := ((D_ext M o x).trans g).vals
  rw [hle, atI_append (by omega), atI_append (by omega), atI_append (by omega)]
  exact hv.ext g
theorem F_rand {M F : WM} {X : Int × WM} {dom : Int} (e : X = M.D ⟨1, dom, -1, -1, -1, 0⟩ 0) (g : Ext X.2 F) (hF : F.m.bad = 0) : ∃ z, Val F X.1 z := by
  obtain ⟨z, _, hv⟩ := D_at e g hF
  exact ⟨_, hv⟩
theorem F_two {M F : WM} {X : Int × WM} {kd dom a b : Int} (e : X = M.D ⟨kd, dom, a, b, -1, 0⟩ 0) (g : Ext X.2 F) (hF : F.m.bad = 0) (hk : kd ≠ 1) {x y : BitVec 64} (ha : Val F a x) (hb : Val F b y) : Val F X.1 (evalW kd 0#64 x y 0#64 0#64) := by
  obtain ⟨z, hz, hv⟩ := D_at e g hF
  rw [hz hk] at hv
  dsimp only at hv
  rw [ha.at, hb.at, ofInt_u, ofInt_u, atI_neg (show (-1 : Int) < 0 by omega)] at hv
  exact hv
theorem F_xor {M F : WM} {X : Int × WM} {dom a b : Int} (e : X = M.D ⟨5, dom, a, b, -1, 0⟩ 0) (g : Ext X.2 F) (hF : F.m.bad = 0) {x y : BitVec 64} (ha : Val F a x) (hb : Val F b y) : Val F X.1 (x ^^^ y) := F_two e g hF (by decide) ha hb
theorem F_and {M F : WM} {X : Int × WM} {dom a b : Int} (e : X = M.D ⟨7, dom, a, b, -1, 0⟩ 0) (g : Ext X.2 F) (hF : F.m.bad = 0) {x y : BitVec 64} (ha : Val F a x) (hb : Val F b y) : Val F X.1 (x &&& y) := F_two e g hF (by decide) ha hb
theorem F_one {M F : WM} {X : Int × WM} {kd dom a c : Int} (e : X = M.D ⟨kd, dom, a, -1, -1, c⟩ 0) (g : Ext X.2 F) (hF : F.m.bad = 0) (hk : kd ≠ 1) {x : BitVec 64} (ha : Val F a x) : Val F X.1 (evalW kd (BitVec.ofInt 64 c) x 0#64 0#64 0#64) := by
  obtain ⟨z, hz, hv⟩ := D_at e g hF
  rw [hz hk] at hv
  dsimp only at hv
  rw [ha.at, ofInt_u, atI_neg (show (-1 : Int) < 0 by omega)] at hv
  exact hv
theorem F_not {M F : WM} {X : Int × WM} {dom a : Int} (e : X = M.D ⟨6, dom, a, -1, -1, 0⟩ 0) (g : Ext X.2 F) (hF : F.m.bad = 0) {x : BitVec 64} (ha : Val F a x) : Val F X.1 (~~~ x) := F_one e g hF (by decide) ha
theorem F_const {M F : WM} {X : Int × WM} {kd dom c : Int} (e : X = M.D ⟨kd, dom, -1, -1, -1, c⟩ 0) (g : Ext X.2 F) (hF : F.m.bad = 0) (hk : kd = 3 ∨ kd = 4) : Val F X.1 (BitVec.ofInt 64 c) := by
  obtain ⟨z, hz, hv⟩ := D_at e g hF
  rcases hk with rfl | rfl <;> exact hv
theorem F_key {M F : WM} {X : Int × WM} {dom a b c x : Int} (e : X = M.D ⟨2, dom, a, b, -1, c⟩ x) (g : Ext X.2 F) (hF : F.m.bad = 0) {y z : BitVec 64} (ha : Val F a y) (hb : Val F b z) : Val F X.1 (BitVec.ofInt 64 x ^^^ y ^^^ z) := by
  obtain ⟨w, hw, hv⟩ := D_at e g hF
  rw [hw (by decide : (2 : Int) ≠ 1)] at hv
  dsimp only at hv
  rw [ha.at, hb.at, ofInt_u, ofInt_u] at hv
  exact hv
theorem F_key1 {M F : WM} {X : Int × WM} {dom a c x : Int} (e : X = M.D ⟨2, dom, a, -1, -1, c⟩ x) (g : Ext X.2 F) (hF : F.m.bad = 0) {y : BitVec 64} (ha : Val F a y) : Val F X.1 (BitVec.ofInt 64 x ^^^ y ^^^ 0#64) := by
  obtain ⟨w, hw, hv⟩ := D_at e g hF
  rw [hw (by decide : (2 : Int) ≠ 1)] at hv
  dsimp only at hv
  rw [ha.at, atI_neg (show (-1 : Int) < 0 by omega), ofInt_u] at hv
  exact hv
/-! Words as shares: each call as a row of Do's (printed by wip/gen/gads.py). -/
def PubC (M : WM) (c : Int) (o0 o1 o2 : Int) (M' : WM) : Prop :=
  (∃ X0 : Int × WM, ∃ X1 : Int × WM, M.m.n = 2 ∧ X0 = M.D ⟨3, 0, -1, -1, -1, c⟩ 0 ∧ X1 = X0.2.D ⟨3, 1, -1, -1, -1, 0⟩ 0 ∧ o0 = X0.1 ∧ o1 = X1.1 ∧ o2 = -1 ∧ M' = X1.2) ∨
  (∃ X0 : Int × WM, ∃ X1 : Int × WM, ∃ X2 : Int × WM, M.m.n = 3 ∧ X0 = M.D ⟨3, 0, -1, -1, -1, c⟩ 0 ∧ X1 = X0.2.D ⟨3, 1, -1, -1, -1, 0⟩ 0 ∧ X2 = X1.2.D ⟨3, 2, -1, -1, -1, 0⟩ 0 ∧ o0 = X0.1 ∧ o1 = X1.1 ∧ o2 = X2.1 ∧ M' = X2.2)
theorem PubC.ex (M : WM) (c : Int) : ∃ o0 o1 o2 M', PubC M c o0 o1 o2 M' := by
  rcases M.w.ok.n with h | h
  · exact ⟨_, _, _, _, .inl ⟨_, _, h, rfl, rfl, rfl, rfl, rfl, rfl⟩⟩
  · exact ⟨_, _, _, _, .inr ⟨_, _, _, h, rfl, rfl, rfl, rfl, rfl, rfl, rfl⟩⟩
theorem PubC.ext {M M' : WM} {c : Int} {o0 o1 o2 : Int} (h : PubC M c o0 o1 o2 M') : Ext M M' := by
  rcases h with ⟨X0, X1, hn, eX0, eX1, rfl, rfl, rfl, rfl⟩ | ⟨X0, X1, X2, hn, eX0, eX1, eX2, rfl, rfl, rfl, rfl⟩
  · exact ((D_vext eX0).trans (D_vext eX1))
  · exact (((D_vext eX0).trans (D_vext eX1)).trans (D_vext eX2))
theorem PubC.c {M M' : WM} {c : Int} {o0 o1 o2 : Int} (h : PubC M c o0 o1 o2 M') (hn' : M'.m.n = 2) : o2 = -1 := by
  have hm := h.ext.n
  rcases h with ⟨X0, X1, hn, eX0, eX1, rfl, rfl, rfl, rfl⟩ | ⟨X0, X1, X2, hn, eX0, eX1, eX2, rfl, rfl, rfl, rfl⟩
  · rfl
  · omega
theorem PubC.p {k : Nat} (hk : 90 ≤ k) {M M' : WM} {c : Int} {o0 o1 o2 : Int} (h : PubC M c o0 o1 o2 M') (hw : IsW c) : share_Public.m k M.m c = some ([ci o0, ci o1, ci o2], M'.m) := by
  obtain ⟨k, rfl⟩ : ∃ j, k = j + 20 := ⟨k - 20, by omega⟩
  rcases h with ⟨X0, X1, hn, eX0, eX1, rfl, rfl, rfl, rfl⟩ | ⟨X0, X1, X2, hn, eX0, eX1, eX2, rfl, rfl, rfl, rfl⟩
  · skip
    have hm : M.m.n ≠ 3 := by omega
    have nX0 : X0.2.m.n = 2 := (D_vext eX0).n.trans hn
    have mX0 : X0.2.m.n ≠ 3 := by omega
    have nX1 : X1.2.m.n = 2 := (D_vext eX1).n.trans nX0
    have mX1 : X1.2.m.n ≠ 3 := by omega
    unfold share_Public.m
    unfold share_none.m
    repeat (first
      | with_reducible refine bstep (N_v (by assumption)) ?_
      | with_reducible refine bstep (Const_v (by assumption) (by omega) isW_zero) ?_
      | with_reducible refine bstep (Do_v (by assumption) (by omega) isW_zero isW_zero) ?_
      | with_reducible refine bstep (Const_v (by assumption) (by omega) hw) ?_
      | with_reducible refine bstep (Do_v (by assumption) (by omega) hw isW_zero) ?_
      | with_reducible refine bassoc ?_
      | with_reducible refine bsome ?_
      | ((with_reducible refine biteP ?_ ?_); · first | exact rfl | exact Nat.le_of_ble_eq_true rfl | decide)
      | ((with_reducible refine iteP ?_ ?_); · first | exact rfl | exact Nat.le_of_ble_eq_true rfl | decide)
      | ((with_reducible refine bbifT ?_ ?_); · first | decide | exact beqT (by assumption) | exact ltT (by assumption) (by decide) | exact bneT (by assumption))
      | ((with_reducible refine bbifF ?_ ?_); · first | decide | exact beqN (by assumption) | exact ltF (by assumption) (by decide) | exact bneN (by assumption))
      | ((with_reducible refine bifT ?_ ?_); · first | decide | exact beqT (by assumption) | exact ltT (by assumption) (by decide) | exact bneT (by assumption))
      | ((with_reducible refine bifF ?_ ?_); · first | decide | exact beqN (by assumption) | exact ltF (by assumption) (by decide) | exact bneN (by assumption))
      | rw [share_Public.l1]
      | rw [W01]
      | rw [W2]
      | rw [W3]
      | unfold share_Public.j1
      | ((with_reducible apply bstep); · exact rfl)
      | dsimp only)
    exact rfl
  · skip
    have hm : M.m.n ≠ 2 := by omega
    have nX0 : X0.2.m.n = 3 := (D_vext eX0).n.trans hn
    have mX0 : X0.2.m.n ≠ 2 := by omega
    have nX1 : X1.2.m.n = 3 := (D_vext eX1).n.trans nX0
    have mX1 : X1.2.m.n ≠ 2 := by omega
    have nX2 : X2.2.m.n = 3 := (D_vext eX2).n.trans nX1
    have mX2 : X2.2.m.n ≠ 2 := by omega
    unfold share_Public.m
    unfold share_none.m
    repeat (first
      | with_reducible refine bstep (N_v (by assumption)) ?_
      | with_reducible refine bstep (Const_v (by assumption) (by omega) isW_zero) ?_
      | with_reducible refine bstep (Do_v (by assumption) (by omega) isW_zero isW_zero) ?_
      | with_reducible refine bstep (Const_v (by assumption) (by omega) hw) ?_
      | with_reducible refine bstep (Do_v (by assumption) (by omega) hw isW_zero) ?_
      | with_reducible refine bassoc ?_
      | with_reducible refine bsome ?_
      | ((with_reducible refine biteP ?_ ?_); · first | exact rfl | exact Nat.le_of_ble_eq_true rfl | decide)
      | ((with_reducible refine iteP ?_ ?_); · first | exact rfl | exact Nat.le_of_ble_eq_true rfl | decide)
      | ((with_reducible refine bbifT ?_ ?_); · first | decide | exact beqT (by assumption) | exact ltT (by assumption) (by decide) | exact bneT (by assumption))
      | ((with_reducible refine bbifF ?_ ?_); · first | decide | exact beqN (by assumption) | exact ltF (by assumption) (by decide) | exact bneN (by assumption))
      | ((with_reducible refine bifT ?_ ?_); · first | decide | exact beqT (by assumption) | exact ltT (by assumption) (by decide) | exact bneT (by assumption))
      | ((with_reducible refine bifF ?_ ?_); · first | decide | exact beqN (by assumption) | exact ltF (by assumption) (by decide) | exact bneN (by assumption))
      | rw [share_Public.l1]
      | rw [W01]
      | rw [W2]
      | rw [W3]
      | unfold share_Public.j1
      | ((with_reducible apply bstep); · exact rfl)
      | dsimp only)
    exact rfl
theorem PubC.s {M M' F : WM} {c : Int} {o0 o1 o2 : Int} (h : PubC M c o0 o1 o2 M') (x : Ext M' F) (hF : F.m.bad = 0) : Stands F o0 o1 o2 (BitVec.ofInt 64 c) := by
  rcases h with ⟨X0, X1, hn, eX0, eX1, rfl, rfl, rfl, rfl⟩ | ⟨X0, X1, X2, hn, eX0, eX1, eX2, rfl, rfl, rfl, rfl⟩
  · have x2 := x
    have x1 := (D_vext eX1).trans x2
    have x0 := (D_vext eX0).trans x1
    have nF : F.m.n = 2 := x0.n.trans hn
    have vX0 := F_const eX0 x1 hF (by decide)
    have vX1 := F_const eX1 x2 hF (by decide)
    refine .inl ⟨nF, rfl, _, _, vX0, vX1, ?_⟩
    simp
  · have x3 := x
    have x2 := (D_vext eX2).trans x3
    have x1 := (D_vext eX1).trans x2
    have x0 := (D_vext eX0).trans x1
    have nF : F.m.n = 3 := x0.n.trans hn
    have vX0 := F_const eX0 x1 hF (by decide)
    have vX1 := F_const eX1 x2 hF (by decide)
    have vX2 := F_const eX2 x3 hF (by decide)
    refine .inr ⟨nF, _, _, _, vX0, vX1, vX2, ?_⟩
    simp
def TldC (M : WM) (c : Int) (o0 o1 o2 : Int) (M' : WM) : Prop :=
  (∃ X0 : Int × WM, ∃ X1 : Int × WM, M.m.n = 2 ∧ X0 = M.D ⟨4, 0, -1, -1, -1, c⟩ 0 ∧ X1 = X0.2.D ⟨3, 1, -1, -1, -1, 0⟩ 0 ∧ o0 = X0.1 ∧ o1 = X1.1 ∧ o2 = -1 ∧ M' = X1.2) ∨
  (∃ X0 : Int × WM, ∃ X1 : Int × WM, ∃ X2 : Int × WM, M.m.n = 3 ∧ X0 = M.D ⟨4, 0, -1, -1, -1, c⟩ 0 ∧ X1 = X0.2.D ⟨3, 1, -1, -1, -1, 0⟩ 0 ∧ X2 = X1.2.D ⟨3, 2, -1, -1, -1, 0⟩ 0 ∧ o0 = X0.1 ∧ o1 = X1.1 ∧ o2 = X2.1 ∧ M' = X2.2)
theorem TldC.ex (M : WM) (c : Int) : ∃ o0 o1 o2 M', TldC M c o0 o1 o2 M' := by
  rcases M.w.ok.n with h | h
  · exact ⟨_, _, _, _, .inl ⟨_, _, h, rfl, rfl, rfl, rfl, rfl, rfl⟩⟩
  · exact ⟨_, _, _, _, .inr ⟨_, _, _, h, rfl, rfl, rfl, rfl, rfl, rfl, rfl⟩⟩
theorem TldC.ext {M M' : WM} {c : Int} {o0 o1 o2 : Int} (h : TldC M c o0 o1 o2 M') : Ext M M' := by
  rcases h with ⟨X0, X1, hn, eX0, eX1, rfl, rfl, rfl, rfl⟩ | ⟨X0, X1, X2, hn, eX0, eX1, eX2, rfl, rfl, rfl, rfl⟩
  · exact ((D_vext eX0).trans (D_vext eX1))
  · exact (((D_vext eX0).trans (D_vext eX1)).trans (D_vext eX2))
theorem TldC.c {M M' : WM} {c : Int} {o0 o1 o2 : Int} (h : TldC M c o0 o1 o2 M') (hn' : M'.m.n = 2) : o2 = -1 := by
  have hm := h.ext.n
  rcases h with ⟨X0, X1, hn, eX0, eX1, rfl, rfl, rfl, rfl⟩ | ⟨X0, X1, X2, hn, eX0, eX1, eX2, rfl, rfl, rfl, rfl⟩
  · rfl
  · omega
theorem TldC.p {k : Nat} (hk : 90 ≤ k) {M M' : WM} {c : Int} {o0 o1 o2 : Int} (h : TldC M c o0 o1 o2 M') (hw : IsW c) : share_Told.m k M.m c = some ([ci o0, ci o1, ci o2], M'.m) := by
  obtain ⟨k, rfl⟩ : ∃ j, k = j + 20 := ⟨k - 20, by omega⟩
  rcases h with ⟨X0, X1, hn, eX0, eX1, rfl, rfl, rfl, rfl⟩ | ⟨X0, X1, X2, hn, eX0, eX1, eX2, rfl, rfl, rfl, rfl⟩
  · skip
    have hm : M.m.n ≠ 3 := by omega
    have nX0 : X0.2.m.n = 2 := (D_vext eX0).n.trans hn
    have mX0 : X0.2.m.n ≠ 3 := by omega
    have nX1 : X1.2.m.n = 2 := (D_vext eX1).n.trans nX0
    have mX1 : X1.2.m.n ≠ 3 := by omega
    unfold share_Told.m
    unfold share_none.m
    repeat (first
      | with_reducible refine bstep (N_v (by assumption)) ?_
      | with_reducible refine bstep (Const_v (by assumption) (by omega) isW_zero) ?_
      | with_reducible refine bstep (Told_v (by assumption) (by omega) isW_zero) ?_
      | with_reducible refine bstep (Do_v (by assumption) (by omega) isW_zero isW_zero) ?_
      | with_reducible refine bstep (Const_v (by assumption) (by omega) hw) ?_
      | with_reducible refine bstep (Told_v (by assumption) (by omega) hw) ?_
      | with_reducible refine bstep (Do_v (by assumption) (by omega) hw isW_zero) ?_
      | with_reducible refine bassoc ?_
      | with_reducible refine bsome ?_
      | ((with_reducible refine biteP ?_ ?_); · first | exact rfl | exact Nat.le_of_ble_eq_true rfl | decide)
      | ((with_reducible refine iteP ?_ ?_); · first | exact rfl | exact Nat.le_of_ble_eq_true rfl | decide)
      | ((with_reducible refine bbifT ?_ ?_); · first | decide | exact beqT (by assumption) | exact ltT (by assumption) (by decide) | exact bneT (by assumption))
      | ((with_reducible refine bbifF ?_ ?_); · first | decide | exact beqN (by assumption) | exact ltF (by assumption) (by decide) | exact bneN (by assumption))
      | ((with_reducible refine bifT ?_ ?_); · first | decide | exact beqT (by assumption) | exact ltT (by assumption) (by decide) | exact bneT (by assumption))
      | ((with_reducible refine bifF ?_ ?_); · first | decide | exact beqN (by assumption) | exact ltF (by assumption) (by decide) | exact bneN (by assumption))
      | rw [share_Told.l1]
      | rw [W01]
      | rw [W2]
      | rw [W3]
      | unfold share_Told.j1
      | ((with_reducible apply bstep); · exact rfl)
      | dsimp only)
    exact rfl
  · skip
    have hm : M.m.n ≠ 2 := by omega
    have nX0 : X0.2.m.n = 3 := (D_vext eX0).n.trans hn
    have mX0 : X0.2.m.n ≠ 2 := by omega
    have nX1 : X1.2.m.n = 3 := (D_vext eX1).n.trans nX0
    have mX1 : X1.2.m.n ≠ 2 := by omega
    have nX2 : X2.2.m.n = 3 := (D_vext eX2).n.trans nX1
    have mX2 : X2.2.m.n ≠ 2 := by omega
    unfold share_Told.m
    unfold share_none.m
    repeat (first
      | with_reducible refine bstep (N_v (by assumption)) ?_
      | with_reducible refine bstep (Const_v (by assumption) (by omega) isW_zero) ?_
      | with_reducible refine bstep (Told_v (by assumption) (by omega) isW_zero) ?_
      | with_reducible refine bstep (Do_v (by assumption) (by omega) isW_zero isW_zero) ?_
      | with_reducible refine bstep (Const_v (by assumption) (by omega) hw) ?_
      | with_reducible refine bstep (Told_v (by assumption) (by omega) hw) ?_
      | with_reducible refine bstep (Do_v (by assumption) (by omega) hw isW_zero) ?_
      | with_reducible refine bassoc ?_
      | with_reducible refine bsome ?_
      | ((with_reducible refine biteP ?_ ?_); · first | exact rfl | exact Nat.le_of_ble_eq_true rfl | decide)
      | ((with_reducible refine iteP ?_ ?_); · first | exact rfl | exact Nat.le_of_ble_eq_true rfl | decide)
      | ((with_reducible refine bbifT ?_ ?_); · first | decide | exact beqT (by assumption) | exact ltT (by assumption) (by decide) | exact bneT (by assumption))
      | ((with_reducible refine bbifF ?_ ?_); · first | decide | exact beqN (by assumption) | exact ltF (by assumption) (by decide) | exact bneN (by assumption))
      | ((with_reducible refine bifT ?_ ?_); · first | decide | exact beqT (by assumption) | exact ltT (by assumption) (by decide) | exact bneT (by assumption))
      | ((with_reducible refine bifF ?_ ?_); · first | decide | exact beqN (by assumption) | exact ltF (by assumption) (by decide) | exact bneN (by assumption))
      | rw [share_Told.l1]
      | rw [W01]
      | rw [W2]
      | rw [W3]
      | unfold share_Told.j1
      | ((with_reducible apply bstep); · exact rfl)
      | dsimp only)
    exact rfl
theorem TldC.s {M M' F : WM} {c : Int} {o0 o1 o2 : Int} (h : TldC M c o0 o1 o2 M') (x : Ext M' F) (hF : F.m.bad = 0) : Stands F o0 o1 o2 (BitVec.ofInt 64 c) := by
  rcases h with ⟨X0, X1, hn, eX0, eX1, rfl, rfl, rfl, rfl⟩ | ⟨X0, X1, X2, hn, eX0, eX1, eX2, rfl, rfl, rfl, rfl⟩
  · have x2 := x
    have x1 := (D_vext eX1).trans x2
    have x0 := (D_vext eX0).trans x1
    have nF : F.m.n = 2 := x0.n.trans hn
    have vX0 := F_const eX0 x1 hF (by decide)
    have vX1 := F_const eX1 x2 hF (by decide)
    refine .inl ⟨nF, rfl, _, _, vX0, vX1, ?_⟩
    simp
  · have x3 := x
    have x2 := (D_vext eX2).trans x3
    have x1 := (D_vext eX1).trans x2
    have x0 := (D_vext eX0).trans x1
    have nF : F.m.n = 3 := x0.n.trans hn
    have vX0 := F_const eX0 x1 hF (by decide)
    have vX1 := F_const eX1 x2 hF (by decide)
    have vX2 := F_const eX2 x3 hF (by decide)
    refine .inr ⟨nF, _, _, _, vX0, vX1, vX2, ?_⟩
    simp
def XrC (M : WM) (a0 : Int) (b0 : Int) (c0 : Int) (a1 : Int) (b1 : Int) (c1 : Int) (o0 o1 o2 : Int) (M' : WM) : Prop :=
  (∃ X0 : Int × WM, ∃ X1 : Int × WM, M.m.n = 2 ∧ X0 = M.D ⟨5, 0, a0, a1, -1, 0⟩ 0 ∧ X1 = X0.2.D ⟨5, 1, b0, b1, -1, 0⟩ 0 ∧ o0 = X0.1 ∧ o1 = X1.1 ∧ o2 = -1 ∧ M' = X1.2) ∨
  (∃ X0 : Int × WM, ∃ X1 : Int × WM, ∃ X2 : Int × WM, M.m.n = 3 ∧ X0 = M.D ⟨5, 0, a0, a1, -1, 0⟩ 0 ∧ X1 = X0.2.D ⟨5, 1, b0, b1, -1, 0⟩ 0 ∧ X2 = X1.2.D ⟨5, 2, c0, c1, -1, 0⟩ 0 ∧ o0 = X0.1 ∧ o1 = X1.1 ∧ o2 = X2.1 ∧ M' = X2.2)
theorem XrC.ex (M : WM) (a0 : Int) (b0 : Int) (c0 : Int) (a1 : Int) (b1 : Int) (c1 : Int) : ∃ o0 o1 o2 M', XrC M a0 b0 c0 a1 b1 c1 o0 o1 o2 M' := by
  rcases M.w.ok.n with h | h
  · exact ⟨_, _, _, _, .inl ⟨_, _, h, rfl, rfl, rfl, rfl, rfl, rfl⟩⟩
  · exact ⟨_, _, _, _, .inr ⟨_, _, _, h, rfl, rfl, rfl, rfl, rfl, rfl, rfl⟩⟩
theorem XrC.ext {M M' : WM} {a0 : Int} {b0 : Int} {c0 : Int} {a1 : Int} {b1 : Int} {c1 : Int} {o0 o1 o2 : Int} (h : XrC M a0 b0 c0 a1 b1 c1 o0 o1 o2 M') : Ext M M' := by
  rcases h with ⟨X0, X1, hn, eX0, eX1, rfl, rfl, rfl, rfl⟩ | ⟨X0, X1, X2, hn, eX0, eX1, eX2, rfl, rfl, rfl, rfl⟩
  · exact ((D_vext eX0).trans (D_vext eX1))
  · exact (((D_vext eX0).trans (D_vext eX1)).trans (D_vext eX2))
theorem XrC.c {M M' : WM} {a0 : Int} {b0 : Int} {c0 : Int} {a1 : Int} {b1 : Int} {c1 : Int} {o0 o1 o2 : Int} (h : XrC M a0 b0 c0 a1 b1 c1 o0 o1 o2 M') (hn' : M'.m.n = 2) : o2 = -1 := by
  have hm := h.ext.n
  rcases h with ⟨X0, X1, hn, eX0, eX1, rfl, rfl, rfl, rfl⟩ | ⟨X0, X1, X2, hn, eX0, eX1, eX2, rfl, rfl, rfl, rfl⟩
  · rfl
  · omega
theorem XrC.p {k : Nat} (hk : 90 ≤ k) {M M' : WM} {a0 : Int} {b0 : Int} {c0 : Int} {a1 : Int} {b1 : Int} {c1 : Int} {o0 o1 o2 : Int} (h : XrC M a0 b0 c0 a1 b1 c1 o0 o1 o2 M') : share_Xor.m k M.m [ci a0, ci b0, ci c0] [ci a1, ci b1, ci c1] = some ([ci o0, ci o1, ci o2], M'.m) := by
  obtain ⟨k, rfl⟩ : ∃ j, k = j + 20 := ⟨k - 20, by omega⟩
  rcases h with ⟨X0, X1, hn, eX0, eX1, rfl, rfl, rfl, rfl⟩ | ⟨X0, X1, X2, hn, eX0, eX1, eX2, rfl, rfl, rfl, rfl⟩
  · skip
    have hm : M.m.n ≠ 3 := by omega
    have nX0 : X0.2.m.n = 2 := (D_vext eX0).n.trans hn
    have mX0 : X0.2.m.n ≠ 3 := by omega
    have nX1 : X1.2.m.n = 2 := (D_vext eX1).n.trans nX0
    have mX1 : X1.2.m.n ≠ 3 := by omega
    unfold share_Xor.m
    unfold share_none.m
    repeat (first
      | with_reducible refine bstep (N_v (by assumption)) ?_
      | with_reducible refine bstep (Two_v (by assumption) (by omega)) ?_
      | with_reducible refine bstep (Do_v (by assumption) (by omega) isW_zero isW_zero) ?_
      | with_reducible refine bassoc ?_
      | with_reducible refine bsome ?_
      | ((with_reducible refine biteP ?_ ?_); · first | exact rfl | exact Nat.le_of_ble_eq_true rfl | decide)
      | ((with_reducible refine iteP ?_ ?_); · first | exact rfl | exact Nat.le_of_ble_eq_true rfl | decide)
      | ((with_reducible refine bbifT ?_ ?_); · first | decide | exact beqT (by assumption) | exact ltT (by assumption) (by decide) | exact bneT (by assumption))
      | ((with_reducible refine bbifF ?_ ?_); · first | decide | exact beqN (by assumption) | exact ltF (by assumption) (by decide) | exact bneN (by assumption))
      | ((with_reducible refine bifT ?_ ?_); · first | decide | exact beqT (by assumption) | exact ltT (by assumption) (by decide) | exact bneT (by assumption))
      | ((with_reducible refine bifF ?_ ?_); · first | decide | exact beqN (by assumption) | exact ltF (by assumption) (by decide) | exact bneN (by assumption))
      | rw [share_Xor.l1]
      | rw [W01]
      | rw [W2]
      | rw [W3]
      | ((with_reducible apply bstep); · exact rfl)
      | dsimp only)
    exact rfl
  · skip
    have hm : M.m.n ≠ 2 := by omega
    have nX0 : X0.2.m.n = 3 := (D_vext eX0).n.trans hn
    have mX0 : X0.2.m.n ≠ 2 := by omega
    have nX1 : X1.2.m.n = 3 := (D_vext eX1).n.trans nX0
    have mX1 : X1.2.m.n ≠ 2 := by omega
    have nX2 : X2.2.m.n = 3 := (D_vext eX2).n.trans nX1
    have mX2 : X2.2.m.n ≠ 2 := by omega
    unfold share_Xor.m
    unfold share_none.m
    repeat (first
      | with_reducible refine bstep (N_v (by assumption)) ?_
      | with_reducible refine bstep (Two_v (by assumption) (by omega)) ?_
      | with_reducible refine bstep (Do_v (by assumption) (by omega) isW_zero isW_zero) ?_
      | with_reducible refine bassoc ?_
      | with_reducible refine bsome ?_
      | ((with_reducible refine biteP ?_ ?_); · first | exact rfl | exact Nat.le_of_ble_eq_true rfl | decide)
      | ((with_reducible refine iteP ?_ ?_); · first | exact rfl | exact Nat.le_of_ble_eq_true rfl | decide)
      | ((with_reducible refine bbifT ?_ ?_); · first | decide | exact beqT (by assumption) | exact ltT (by assumption) (by decide) | exact bneT (by assumption))
      | ((with_reducible refine bbifF ?_ ?_); · first | decide | exact beqN (by assumption) | exact ltF (by assumption) (by decide) | exact bneN (by assumption))
      | ((with_reducible refine bifT ?_ ?_); · first | decide | exact beqT (by assumption) | exact ltT (by assumption) (by decide) | exact bneT (by assumption))
      | ((with_reducible refine bifF ?_ ?_); · first | decide | exact beqN (by assumption) | exact ltF (by assumption) (by decide) | exact bneN (by assumption))
      | rw [share_Xor.l1]
      | rw [W01]
      | rw [W2]
      | rw [W3]
      | ((with_reducible apply bstep); · exact rfl)
      | dsimp only)
    exact rfl
theorem XrC.s {M M' F : WM} {a0 : Int} {b0 : Int} {c0 : Int} {a1 : Int} {b1 : Int} {c1 : Int} {o0 o1 o2 : Int} (h : XrC M a0 b0 c0 a1 b1 c1 o0 o1 o2 M') (x : Ext M' F) (hF : F.m.bad = 0) {z0 z1 : BitVec 64} (s0 : Stands F a0 b0 c0 z0) (s1 : Stands F a1 b1 c1 z1) : Stands F o0 o1 o2 (z0 ^^^ z1) := by
  rcases h with ⟨X0, X1, hn, eX0, eX1, rfl, rfl, rfl, rfl⟩ | ⟨X0, X1, X2, hn, eX0, eX1, eX2, rfl, rfl, rfl, rfl⟩
  · have x2 := x
    have x1 := (D_vext eX1).trans x2
    have x0 := (D_vext eX0).trans x1
    have nF : F.m.n = 2 := x0.n.trans hn
    obtain ⟨_, hc0, p0, q0, vp0, vq0, rfl⟩ : F.m.n = 2 ∧ _ := by
      rcases s0 with h | h
      · exact h
      · exact absurd h.1 (by omega)
    obtain ⟨_, hc1, p1, q1, vp1, vq1, rfl⟩ : F.m.n = 2 ∧ _ := by
      rcases s1 with h | h
      · exact h
      · exact absurd h.1 (by omega)
    have vX0 := F_xor eX0 x1 hF vp0 vp1
    have vX1 := F_xor eX1 x2 hF vq0 vq1
    refine .inl ⟨nF, rfl, _, _, vX0, vX1, ?_⟩
    apply BitVec.eq_of_getLsbD_eq; intro i hi
    simp only [BitVec.getLsbD_xor]
    generalize BitVec.getLsbD p0 i = yp0
    generalize BitVec.getLsbD q0 i = yq0
    generalize BitVec.getLsbD p1 i = yp1
    generalize BitVec.getLsbD q1 i = yq1
    revert yp0 yq0 yp1 yq1
    decide
  · have x3 := x
    have x2 := (D_vext eX2).trans x3
    have x1 := (D_vext eX1).trans x2
    have x0 := (D_vext eX0).trans x1
    have nF : F.m.n = 3 := x0.n.trans hn
    obtain ⟨_, p0, q0, r0, vp0, vq0, vr0, rfl⟩ : F.m.n = 3 ∧ _ := by
      rcases s0 with h | h
      · exact absurd h.1 (by omega)
      · exact h
    obtain ⟨_, p1, q1, r1, vp1, vq1, vr1, rfl⟩ : F.m.n = 3 ∧ _ := by
      rcases s1 with h | h
      · exact absurd h.1 (by omega)
      · exact h
    have vX0 := F_xor eX0 x1 hF vp0 vp1
    have vX1 := F_xor eX1 x2 hF vq0 vq1
    have vX2 := F_xor eX2 x3 hF vr0 vr1
    refine .inr ⟨nF, _, _, _, vX0, vX1, vX2, ?_⟩
    apply BitVec.eq_of_getLsbD_eq; intro i hi
    simp only [BitVec.getLsbD_xor]
    generalize BitVec.getLsbD p0 i = yp0
    generalize BitVec.getLsbD q0 i = yq0
    generalize BitVec.getLsbD r0 i = yr0
    generalize BitVec.getLsbD p1 i = yp1
    generalize BitVec.getLsbD q1 i = yq1
    generalize BitVec.getLsbD r1 i = yr1
    revert yp0 yq0 yr0 yp1 yq1 yr1
    decide
def NtC (M : WM) (a : Int) (b : Int) (c : Int) (o0 o1 o2 : Int) (M' : WM) : Prop :=
  (∃ X0 : Int × WM, X0 = M.D ⟨6, 0, a, -1, -1, 0⟩ 0 ∧ o0 = X0.1 ∧ o1 = b ∧ o2 = c ∧ M' = X0.2)
theorem NtC.ex (M : WM) (a : Int) (b : Int) (c : Int) : ∃ o0 o1 o2 M', NtC M a b c o0 o1 o2 M' := by
  exact ⟨_, _, _, _, ⟨_, rfl, rfl, rfl, rfl, rfl⟩⟩
theorem NtC.ext {M M' : WM} {a : Int} {b : Int} {c : Int} {o0 o1 o2 : Int} (h : NtC M a b c o0 o1 o2 M') : Ext M M' := by
  rcases h with ⟨X0, eX0, rfl, rfl, rfl, rfl⟩
  · exact D_vext eX0
theorem NtC.p {k : Nat} (hk : 90 ≤ k) {M M' : WM} {a : Int} {b : Int} {c : Int} {o0 o1 o2 : Int} (h : NtC M a b c o0 o1 o2 M') : share_Not.m k M.m [ci a, ci b, ci c] = some ([ci o0, ci o1, ci o2], M'.m) := by
  rcases h with ⟨X0, eX0, rfl, rfl, rfl, rfl⟩
  · skip
    unfold share_Not.m
    repeat (first
      | with_reducible refine bstep (N_v (by assumption)) ?_
      | with_reducible refine bstep (One_v (by assumption) (by omega) isW_zero) ?_
      | ((with_reducible refine iteP ?_ ?_); · first | exact rfl | exact Nat.le_of_ble_eq_true rfl | decide)
      | ((with_reducible refine bifT ?_ ?_); · first | decide | exact beqT (by assumption) | exact ltT (by assumption) (by decide) | exact bneT (by assumption))
      | ((with_reducible refine bifF ?_ ?_); · first | decide | exact beqN (by assumption) | exact ltF (by assumption) (by decide) | exact bneN (by assumption))
      | ((with_reducible apply bstep); · exact rfl)
      | dsimp only)
    exact rfl
theorem NtC.s {M M' F : WM} {a : Int} {b : Int} {c : Int} {o0 o1 o2 : Int} (h : NtC M a b c o0 o1 o2 M') (x : Ext M' F) (hF : F.m.bad = 0) {z : BitVec 64} (s0 : Stands F a b c z) : Stands F o0 o1 o2 (~~~ z) := by
  obtain ⟨X0, eX0, rfl, rfl, rfl, rfl⟩ := h
  rcases s0 with ⟨n, hc, p, q, v0, v1, rfl⟩ | ⟨n, p, q, r, v0, v1, v2, rfl⟩
  · refine .inl ⟨n, hc, _, _, F_not eX0 x hF v0, v1, ?_⟩
    apply BitVec.eq_of_getLsbD_eq; intro i hi
    simp only [BitVec.getLsbD_xor, BitVec.getLsbD_not, hi, decide_true, Bool.true_and]
    generalize BitVec.getLsbD p i = yp
    generalize BitVec.getLsbD q i = yq
    revert yp yq
    decide
  · refine .inr ⟨n, _, _, _, F_not eX0 x hF v0, v1, v2, ?_⟩
    apply BitVec.eq_of_getLsbD_eq; intro i hi
    simp only [BitVec.getLsbD_xor, BitVec.getLsbD_not, hi, decide_true, Bool.true_and]
    generalize BitVec.getLsbD p i = yp
    generalize BitVec.getLsbD q i = yq
    generalize BitVec.getLsbD r i = yr
    revert yp yq yr
    decide
def AdC (M : WM) (kd : Int) (a : Int) (b : Int) (c : Int) (w : Int) (o0 o1 o2 : Int) (M' : WM) : Prop :=
  (∃ X0 : Int × WM, ∃ X1 : Int × WM, X0 = M.D ⟨kd, 0, -1, -1, -1, w⟩ 0 ∧ X1 = X0.2.D ⟨5, 0, a, X0.1, -1, 0⟩ 0 ∧ o0 = X1.1 ∧ o1 = b ∧ o2 = c ∧ M' = X1.2)
theorem AdC.ex (M : WM) (kd : Int) (a : Int) (b : Int) (c : Int) (w : Int) : ∃ o0 o1 o2 M', AdC M kd a b c w o0 o1 o2 M' := by
  exact ⟨_, _, _, _, ⟨_, _, rfl, rfl, rfl, rfl, rfl, rfl⟩⟩
theorem AdC.ext {M M' : WM} {kd : Int} {a : Int} {b : Int} {c : Int} {w : Int} {o0 o1 o2 : Int} (h : AdC M kd a b c w o0 o1 o2 M') : Ext M M' := by
  rcases h with ⟨X0, X1, eX0, eX1, rfl, rfl, rfl, rfl⟩
  · exact ((D_vext eX0).trans (D_vext eX1))
theorem AdC.p {k : Nat} (hk : 90 ≤ k) {M M' : WM} {a : Int} {b : Int} {c : Int} {w : Int} {o0 o1 o2 : Int} (h : AdC M 3 a b c w o0 o1 o2 M') (hw : IsW w) : share_Add.m k M.m [ci a, ci b, ci c] w = some ([ci o0, ci o1, ci o2], M'.m) := by
  rcases h with ⟨X0, X1, eX0, eX1, rfl, rfl, rfl, rfl⟩
  · skip
    unfold share_Add.m
    repeat (first
      | with_reducible refine bstep (N_v (by assumption)) ?_
      | with_reducible refine bstep (Two_v (by assumption) (by omega)) ?_
      | with_reducible refine bstep (Const_v (by assumption) (by omega) isW_zero) ?_
      | with_reducible refine bstep (Const_v (by assumption) (by omega) hw) ?_
      | ((with_reducible refine iteP ?_ ?_); · first | exact rfl | exact Nat.le_of_ble_eq_true rfl | decide)
      | ((with_reducible refine bifT ?_ ?_); · first | decide | exact beqT (by assumption) | exact ltT (by assumption) (by decide) | exact bneT (by assumption))
      | ((with_reducible refine bifF ?_ ?_); · first | decide | exact beqN (by assumption) | exact ltF (by assumption) (by decide) | exact bneN (by assumption))
      | ((with_reducible apply bstep); · exact rfl)
      | dsimp only)
    exact rfl
theorem AdC.p4 {k : Nat} (hk : 90 ≤ k) {M M' : WM} {a : Int} {b : Int} {c : Int} {w : Int} {o0 o1 o2 : Int} (h : AdC M 4 a b c w o0 o1 o2 M') (hw : IsW w) : share_AddTold.m k M.m [ci a, ci b, ci c] w = some ([ci o0, ci o1, ci o2], M'.m) := by
  rcases h with ⟨X0, X1, eX0, eX1, rfl, rfl, rfl, rfl⟩
  · skip
    unfold share_AddTold.m
    repeat (first
      | with_reducible refine bstep (N_v (by assumption)) ?_
      | with_reducible refine bstep (Two_v (by assumption) (by omega)) ?_
      | with_reducible refine bstep (Told_v (by assumption) (by omega) isW_zero) ?_
      | with_reducible refine bstep (Told_v (by assumption) (by omega) hw) ?_
      | ((with_reducible refine iteP ?_ ?_); · first | exact rfl | exact Nat.le_of_ble_eq_true rfl | decide)
      | ((with_reducible refine bifT ?_ ?_); · first | decide | exact beqT (by assumption) | exact ltT (by assumption) (by decide) | exact bneT (by assumption))
      | ((with_reducible refine bifF ?_ ?_); · first | decide | exact beqN (by assumption) | exact ltF (by assumption) (by decide) | exact bneN (by assumption))
      | ((with_reducible apply bstep); · exact rfl)
      | dsimp only)
    exact rfl
theorem AdC.s {M M' F : WM} {kd a b c w : Int} {o0 o1 o2 : Int} (h : AdC M kd a b c w o0 o1 o2 M') (x : Ext M' F) (hF : F.m.bad = 0) (hk : kd = 3 ∨ kd = 4) {z : BitVec 64} (s0 : Stands F a b c z) : Stands F o0 o1 o2 (z ^^^ BitVec.ofInt 64 w) := by
  obtain ⟨X0, X1, eX0, eX1, rfl, rfl, rfl, rfl⟩ := h
  have vc := F_const eX0 ((D_vext eX1).trans x) hF hk
  generalize BitVec.ofInt 64 w = d at *
  rcases s0 with ⟨n, hc, p, q, v0, v1, rfl⟩ | ⟨n, p, q, r, v0, v1, v2, rfl⟩
  · refine .inl ⟨n, hc, _, _, F_xor eX1 x hF v0 vc, v1, ?_⟩
    apply BitVec.eq_of_getLsbD_eq; intro i hi
    simp only [BitVec.getLsbD_xor]
    generalize BitVec.getLsbD p i = yp
    generalize BitVec.getLsbD q i = yq
    generalize BitVec.getLsbD d i = yd
    revert yp yq yd
    decide
  · refine .inr ⟨n, _, _, _, F_xor eX1 x hF v0 vc, v1, v2, ?_⟩
    apply BitVec.eq_of_getLsbD_eq; intro i hi
    simp only [BitVec.getLsbD_xor]
    generalize BitVec.getLsbD p i = yp
    generalize BitVec.getLsbD q i = yq
    generalize BitVec.getLsbD r i = yr
    generalize BitVec.getLsbD d i = yd
    revert yp yq yr yd
    decide
def OnC (M : WM) (kd : Int) (a : Int) (b : Int) (c : Int) (w : Int) (o0 o1 o2 : Int) (M' : WM) : Prop :=
  (∃ X0 : Int × WM, ∃ X1 : Int × WM, M.m.n = 2 ∧ X0 = M.D ⟨kd, 0, a, -1, -1, w⟩ 0 ∧ X1 = X0.2.D ⟨kd, 1, b, -1, -1, w⟩ 0 ∧ o0 = X0.1 ∧ o1 = X1.1 ∧ o2 = -1 ∧ M' = X1.2) ∨
  (∃ X0 : Int × WM, ∃ X1 : Int × WM, ∃ X2 : Int × WM, M.m.n = 3 ∧ X0 = M.D ⟨kd, 0, a, -1, -1, w⟩ 0 ∧ X1 = X0.2.D ⟨kd, 1, b, -1, -1, w⟩ 0 ∧ X2 = X1.2.D ⟨kd, 2, c, -1, -1, w⟩ 0 ∧ o0 = X0.1 ∧ o1 = X1.1 ∧ o2 = X2.1 ∧ M' = X2.2)
theorem OnC.ex (M : WM) (kd : Int) (a : Int) (b : Int) (c : Int) (w : Int) : ∃ o0 o1 o2 M', OnC M kd a b c w o0 o1 o2 M' := by
  rcases M.w.ok.n with h | h
  · exact ⟨_, _, _, _, .inl ⟨_, _, h, rfl, rfl, rfl, rfl, rfl, rfl⟩⟩
  · exact ⟨_, _, _, _, .inr ⟨_, _, _, h, rfl, rfl, rfl, rfl, rfl, rfl, rfl⟩⟩
theorem OnC.ext {M M' : WM} {kd : Int} {a : Int} {b : Int} {c : Int} {w : Int} {o0 o1 o2 : Int} (h : OnC M kd a b c w o0 o1 o2 M') : Ext M M' := by
  rcases h with ⟨X0, X1, hn, eX0, eX1, rfl, rfl, rfl, rfl⟩ | ⟨X0, X1, X2, hn, eX0, eX1, eX2, rfl, rfl, rfl, rfl⟩
  · exact ((D_vext eX0).trans (D_vext eX1))
  · exact (((D_vext eX0).trans (D_vext eX1)).trans (D_vext eX2))
theorem OnC.c {M M' : WM} {kd : Int} {a : Int} {b : Int} {c : Int} {w : Int} {o0 o1 o2 : Int} (h : OnC M kd a b c w o0 o1 o2 M') (hn' : M'.m.n = 2) : o2 = -1 := by
  have hm := h.ext.n
  rcases h with ⟨X0, X1, hn, eX0, eX1, rfl, rfl, rfl, rfl⟩ | ⟨X0, X1, X2, hn, eX0, eX1, eX2, rfl, rfl, rfl, rfl⟩
  · rfl
  · omega
theorem OnC.p {k : Nat} (hk : 90 ≤ k) {M M' : WM} {kd : Int} {a : Int} {b : Int} {c : Int} {w : Int} {o0 o1 o2 : Int} (h : OnC M kd a b c w o0 o1 o2 M') (hw : IsW w) : share_One.m k M.m kd [ci a, ci b, ci c] w = some ([ci o0, ci o1, ci o2], M'.m) := by
  obtain ⟨k, rfl⟩ : ∃ j, k = j + 20 := ⟨k - 20, by omega⟩
  rcases h with ⟨X0, X1, hn, eX0, eX1, rfl, rfl, rfl, rfl⟩ | ⟨X0, X1, X2, hn, eX0, eX1, eX2, rfl, rfl, rfl, rfl⟩
  · skip
    have hm : M.m.n ≠ 3 := by omega
    have nX0 : X0.2.m.n = 2 := (D_vext eX0).n.trans hn
    have mX0 : X0.2.m.n ≠ 3 := by omega
    have nX1 : X1.2.m.n = 2 := (D_vext eX1).n.trans nX0
    have mX1 : X1.2.m.n ≠ 3 := by omega
    unfold share_One.m
    unfold share_none.m
    repeat (first
      | with_reducible refine bstep (N_v (by assumption)) ?_
      | with_reducible refine bstep (One_v (by assumption) (by omega) isW_zero) ?_
      | with_reducible refine bstep (Do_v (by assumption) (by omega) isW_zero isW_zero) ?_
      | with_reducible refine bstep (One_v (by assumption) (by omega) hw) ?_
      | with_reducible refine bstep (Do_v (by assumption) (by omega) hw isW_zero) ?_
      | with_reducible refine bassoc ?_
      | with_reducible refine bsome ?_
      | ((with_reducible refine biteP ?_ ?_); · first | exact rfl | exact Nat.le_of_ble_eq_true rfl | decide)
      | ((with_reducible refine iteP ?_ ?_); · first | exact rfl | exact Nat.le_of_ble_eq_true rfl | decide)
      | ((with_reducible refine bbifT ?_ ?_); · first | decide | exact beqT (by assumption) | exact ltT (by assumption) (by decide) | exact bneT (by assumption))
      | ((with_reducible refine bbifF ?_ ?_); · first | decide | exact beqN (by assumption) | exact ltF (by assumption) (by decide) | exact bneN (by assumption))
      | ((with_reducible refine bifT ?_ ?_); · first | decide | exact beqT (by assumption) | exact ltT (by assumption) (by decide) | exact bneT (by assumption))
      | ((with_reducible refine bifF ?_ ?_); · first | decide | exact beqN (by assumption) | exact ltF (by assumption) (by decide) | exact bneN (by assumption))
      | rw [share_One.l1]
      | rw [W01]
      | rw [W2]
      | rw [W3]
      | ((with_reducible apply bstep); · exact rfl)
      | dsimp only)
    exact rfl
  · skip
    have hm : M.m.n ≠ 2 := by omega
    have nX0 : X0.2.m.n = 3 := (D_vext eX0).n.trans hn
    have mX0 : X0.2.m.n ≠ 2 := by omega
    have nX1 : X1.2.m.n = 3 := (D_vext eX1).n.trans nX0
    have mX1 : X1.2.m.n ≠ 2 := by omega
    have nX2 : X2.2.m.n = 3 := (D_vext eX2).n.trans nX1
    have mX2 : X2.2.m.n ≠ 2 := by omega
    unfold share_One.m
    unfold share_none.m
    repeat (first
      | with_reducible refine bstep (N_v (by assumption)) ?_
      | with_reducible refine bstep (One_v (by assumption) (by omega) isW_zero) ?_
      | with_reducible refine bstep (Do_v (by assumption) (by omega) isW_zero isW_zero) ?_
      | with_reducible refine bstep (One_v (by assumption) (by omega) hw) ?_
      | with_reducible refine bstep (Do_v (by assumption) (by omega) hw isW_zero) ?_
      | with_reducible refine bassoc ?_
      | with_reducible refine bsome ?_
      | ((with_reducible refine biteP ?_ ?_); · first | exact rfl | exact Nat.le_of_ble_eq_true rfl | decide)
      | ((with_reducible refine iteP ?_ ?_); · first | exact rfl | exact Nat.le_of_ble_eq_true rfl | decide)
      | ((with_reducible refine bbifT ?_ ?_); · first | decide | exact beqT (by assumption) | exact ltT (by assumption) (by decide) | exact bneT (by assumption))
      | ((with_reducible refine bbifF ?_ ?_); · first | decide | exact beqN (by assumption) | exact ltF (by assumption) (by decide) | exact bneN (by assumption))
      | ((with_reducible refine bifT ?_ ?_); · first | decide | exact beqT (by assumption) | exact ltT (by assumption) (by decide) | exact bneT (by assumption))
      | ((with_reducible refine bifF ?_ ?_); · first | decide | exact beqN (by assumption) | exact ltF (by assumption) (by decide) | exact bneN (by assumption))
      | rw [share_One.l1]
      | rw [W01]
      | rw [W2]
      | rw [W3]
      | ((with_reducible apply bstep); · exact rfl)
      | dsimp only)
    exact rfl
theorem OnC.s {M M' F : WM} {kd : Int} {a : Int} {b : Int} {c : Int} {w : Int} {o0 o1 o2 : Int} (h : OnC M kd a b c w o0 o1 o2 M') (x : Ext M' F) (hF : F.m.bad = 0) (hkd : kd ≠ 1) {z : BitVec 64} (s0 : Stands F a b c z) {f : BitVec 64 → BitVec 64} (hf : ∀ y, evalW kd (BitVec.ofInt 64 w) y 0#64 0#64 0#64 = f y) (hx : ∀ y y', f (y ^^^ y') = f y ^^^ f y') : Stands F o0 o1 o2 (f z) := by
  rcases h with ⟨X0, X1, hn, eX0, eX1, rfl, rfl, rfl, rfl⟩ | ⟨X0, X1, X2, hn, eX0, eX1, eX2, rfl, rfl, rfl, rfl⟩
  · have x2 := x
    have x1 := (D_vext eX1).trans x2
    have x0 := (D_vext eX0).trans x1
    have nF : F.m.n = 2 := x0.n.trans hn
    obtain ⟨_, hc0, p0, q0, vp0, vq0, rfl⟩ : F.m.n = 2 ∧ _ := by
      rcases s0 with h | h
      · exact h
      · exact absurd h.1 (by omega)
    have vX0 := F_one eX0 x1 hF hkd vp0
    have vX1 := F_one eX1 x2 hF hkd vq0
    refine .inl ⟨nF, rfl, _, _, vX0, vX1, ?_⟩
    simp only [hf, hx]
  · have x3 := x
    have x2 := (D_vext eX2).trans x3
    have x1 := (D_vext eX1).trans x2
    have x0 := (D_vext eX0).trans x1
    have nF : F.m.n = 3 := x0.n.trans hn
    obtain ⟨_, p0, q0, r0, vp0, vq0, vr0, rfl⟩ : F.m.n = 3 ∧ _ := by
      rcases s0 with h | h
      · exact absurd h.1 (by omega)
      · exact h
    have vX0 := F_one eX0 x1 hF hkd vp0
    have vX1 := F_one eX1 x2 hF hkd vq0
    have vX2 := F_one eX2 x3 hF hkd vr0
    refine .inr ⟨nF, _, _, _, vX0, vX1, vX2, ?_⟩
    simp only [hf, hx]
def EnC (M : WM) (w : Int) (o0 o1 o2 : Int) (M' : WM) : Prop :=
  (∃ B : WM, ∃ R1 : Int × WM, ∃ K : Int × WM, ∃ E : WM, M.m.n = 2 ∧ B = M.B 1 ∧ R1 = B.D ⟨1, 1, -1, -1, -1, 0⟩ 0 ∧ K = R1.2.D ⟨2, 0, R1.1, -1, -1, R1.2.m.words⟩ w ∧ E = K.2.E ∧ o0 = K.1 ∧ o1 = R1.1 ∧ o2 = -1 ∧ M' = E) ∨
  (∃ B : WM, ∃ R1 : Int × WM, ∃ R2 : Int × WM, ∃ K : Int × WM, ∃ E : WM, M.m.n = 3 ∧ B = M.B 1 ∧ R1 = B.D ⟨1, 1, -1, -1, -1, 0⟩ 0 ∧ R2 = R1.2.D ⟨1, 2, -1, -1, -1, 0⟩ 0 ∧ K = R2.2.D ⟨2, 0, R1.1, R2.1, -1, R2.2.m.words⟩ w ∧ E = K.2.E ∧ o0 = K.1 ∧ o1 = R1.1 ∧ o2 = R2.1 ∧ M' = E)
theorem EnC.ex (M : WM) (w : Int) : ∃ o0 o1 o2 M', EnC M w o0 o1 o2 M' := by
  rcases M.w.ok.n with h | h
  · exact ⟨_, _, _, _, .inl ⟨_, _, _, _, h, rfl, rfl, rfl, rfl, rfl, rfl, rfl, rfl⟩⟩
  · exact ⟨_, _, _, _, .inr ⟨_, _, _, _, _, h, rfl, rfl, rfl, rfl, rfl, rfl, rfl, rfl, rfl⟩⟩
theorem EnC.ext {M M' : WM} {w : Int} {o0 o1 o2 : Int} (h : EnC M w o0 o1 o2 M') : Ext M M' := by
  rcases h with ⟨B, R1, K, E, hn, eB, eR1, eK, eE, rfl, rfl, rfl, rfl⟩ | ⟨B, R1, R2, K, E, hn, eB, eR1, eR2, eK, eE, rfl, rfl, rfl, rfl⟩
  · exact ((((B_vext eB).trans (D_vext eR1)).trans (D_vext eK)).trans (E_vext eE))
  · exact (((((B_vext eB).trans (D_vext eR1)).trans (D_vext eR2)).trans (D_vext eK)).trans (E_vext eE))
theorem EnC.c {M M' : WM} {w : Int} {o0 o1 o2 : Int} (h : EnC M w o0 o1 o2 M') (hn' : M'.m.n = 2) : o2 = -1 := by
  have hm := h.ext.n
  rcases h with ⟨B, R1, K, E, hn, eB, eR1, eK, eE, rfl, rfl, rfl, rfl⟩ | ⟨B, R1, R2, K, E, hn, eB, eR1, eR2, eK, eE, rfl, rfl, rfl, rfl⟩
  · rfl
  · omega
theorem EnC.p {k : Nat} (hk : 90 ≤ k) {M M' : WM} {w : Int} {o0 o1 o2 : Int} (h : EnC M w o0 o1 o2 M') (hw : IsW w) : share_Encode.m k M.m w = some ([ci o0, ci o1, ci o2], M'.m) := by
  obtain ⟨k, rfl⟩ : ∃ j, k = j + 20 := ⟨k - 20, by omega⟩
  rcases h with ⟨B, R1, K, E, hn, eB, eR1, eK, eE, rfl, rfl, rfl, rfl⟩ | ⟨B, R1, R2, K, E, hn, eB, eR1, eR2, eK, eE, rfl, rfl, rfl, rfl⟩
  · skip
    have hm : M.m.n ≠ 3 := by omega
    have nB : B.m.n = 2 := (B_vext eB).n.trans hn
    have mB : B.m.n ≠ 3 := by omega
    have nR1 : R1.2.m.n = 2 := (D_vext eR1).n.trans nB
    have mR1 : R1.2.m.n ≠ 3 := by omega
    have nK : K.2.m.n = 2 := (D_vext eK).n.trans nR1
    have mK : K.2.m.n ≠ 3 := by omega
    unfold share_Encode.m
    unfold share_none.m
    repeat (first
      | with_reducible refine bstep (N_v (by assumption)) ?_
      | with_reducible refine bstep (Begin_v (by assumption)) ?_
      | with_reducible refine bstep (Rand_v (by assumption) (by omega)) ?_
      | with_reducible refine bstep (Do_v (by assumption) (by omega) isW_zero isW_zero) ?_
      | with_reducible refine bstep (Do_v (by assumption) (by omega) hw isW_zero) ?_
      | with_reducible refine bstep (Key_v (by assumption) (by omega) hw) ?_
      | with_reducible refine bstep (End_v (by assumption)) ?_
      | with_reducible refine bassoc ?_
      | with_reducible refine bsome ?_
      | ((with_reducible refine biteP ?_ ?_); · first | exact rfl | exact Nat.le_of_ble_eq_true rfl | decide)
      | ((with_reducible refine iteP ?_ ?_); · first | exact rfl | exact Nat.le_of_ble_eq_true rfl | decide)
      | ((with_reducible refine bbifT ?_ ?_); · first | decide | exact beqT (by assumption) | exact ltT (by assumption) (by decide) | exact bneT (by assumption))
      | ((with_reducible refine bbifF ?_ ?_); · first | decide | exact beqN (by assumption) | exact ltF (by assumption) (by decide) | exact bneN (by assumption))
      | ((with_reducible refine bifT ?_ ?_); · first | decide | exact beqT (by assumption) | exact ltT (by assumption) (by decide) | exact bneT (by assumption))
      | ((with_reducible refine bifF ?_ ?_); · first | decide | exact beqN (by assumption) | exact ltF (by assumption) (by decide) | exact bneN (by assumption))
      | rw [share_Encode.l1]
      | rw [W01]
      | rw [W2]
      | rw [W3]
      | ((with_reducible apply bstep); · exact rfl)
      | dsimp only)
    exact rfl
  · skip
    have hm : M.m.n ≠ 2 := by omega
    have nB : B.m.n = 3 := (B_vext eB).n.trans hn
    have mB : B.m.n ≠ 2 := by omega
    have nR1 : R1.2.m.n = 3 := (D_vext eR1).n.trans nB
    have mR1 : R1.2.m.n ≠ 2 := by omega
    have nR2 : R2.2.m.n = 3 := (D_vext eR2).n.trans nR1
    have mR2 : R2.2.m.n ≠ 2 := by omega
    have nK : K.2.m.n = 3 := (D_vext eK).n.trans nR2
    have mK : K.2.m.n ≠ 2 := by omega
    unfold share_Encode.m
    unfold share_none.m
    repeat (first
      | with_reducible refine bstep (N_v (by assumption)) ?_
      | with_reducible refine bstep (Begin_v (by assumption)) ?_
      | with_reducible refine bstep (Rand_v (by assumption) (by omega)) ?_
      | with_reducible refine bstep (Do_v (by assumption) (by omega) isW_zero isW_zero) ?_
      | with_reducible refine bstep (Do_v (by assumption) (by omega) hw isW_zero) ?_
      | with_reducible refine bstep (Key_v (by assumption) (by omega) hw) ?_
      | with_reducible refine bstep (End_v (by assumption)) ?_
      | with_reducible refine bassoc ?_
      | with_reducible refine bsome ?_
      | ((with_reducible refine biteP ?_ ?_); · first | exact rfl | exact Nat.le_of_ble_eq_true rfl | decide)
      | ((with_reducible refine iteP ?_ ?_); · first | exact rfl | exact Nat.le_of_ble_eq_true rfl | decide)
      | ((with_reducible refine bbifT ?_ ?_); · first | decide | exact beqT (by assumption) | exact ltT (by assumption) (by decide) | exact bneT (by assumption))
      | ((with_reducible refine bbifF ?_ ?_); · first | decide | exact beqN (by assumption) | exact ltF (by assumption) (by decide) | exact bneN (by assumption))
      | ((with_reducible refine bifT ?_ ?_); · first | decide | exact beqT (by assumption) | exact ltT (by assumption) (by decide) | exact bneT (by assumption))
      | ((with_reducible refine bifF ?_ ?_); · first | decide | exact beqN (by assumption) | exact ltF (by assumption) (by decide) | exact bneN (by assumption))
      | rw [share_Encode.l1]
      | rw [W01]
      | rw [W2]
      | rw [W3]
      | ((with_reducible apply bstep); · exact rfl)
      | dsimp only)
    exact rfl
theorem EnC.s {M M' F : WM} {w : Int} {o0 o1 o2 : Int} (h : EnC M w o0 o1 o2 M') (x : Ext M' F) (hF : F.m.bad = 0) : Stands F o0 o1 o2 (BitVec.ofInt 64 w) := by
  rcases h with ⟨B, R1, K, E, hn, eB, eR1, eK, eE, rfl, rfl, rfl, rfl⟩ | ⟨B, R1, R2, K, E, hn, eB, eR1, eR2, eK, eE, rfl, rfl, rfl, rfl⟩
  · have x4 := x
    have x3 := (E_vext eE).trans x4
    have x2 := (D_vext eK).trans x3
    have x1 := (D_vext eR1).trans x2
    have x0 := (B_vext eB).trans x1
    have nF : F.m.n = 2 := x0.n.trans hn
    obtain ⟨zR1, vR1⟩ := F_rand eR1 x2 hF
    have vK := F_key1 eK x3 hF vR1
    refine .inl ⟨nF, rfl, _, _, vK, vR1, ?_⟩
    generalize BitVec.ofInt 64 w = d at *
    apply BitVec.eq_of_getLsbD_eq; intro i hi
    simp only [BitVec.getLsbD_xor, BitVec.getLsbD_zero]
    generalize BitVec.getLsbD zR1 i = yzR1
    generalize BitVec.getLsbD d i = yd
    revert yzR1 yd
    decide
  · have x5 := x
    have x4 := (E_vext eE).trans x5
    have x3 := (D_vext eK).trans x4
    have x2 := (D_vext eR2).trans x3
    have x1 := (D_vext eR1).trans x2
    have x0 := (B_vext eB).trans x1
    have nF : F.m.n = 3 := x0.n.trans hn
    obtain ⟨zR1, vR1⟩ := F_rand eR1 x2 hF
    obtain ⟨zR2, vR2⟩ := F_rand eR2 x3 hF
    have vK := F_key eK x4 hF vR1 vR2
    refine .inr ⟨nF, _, _, _, vK, vR1, vR2, ?_⟩
    generalize BitVec.ofInt 64 w = d at *
    apply BitVec.eq_of_getLsbD_eq; intro i hi
    simp only [BitVec.getLsbD_xor]
    generalize BitVec.getLsbD zR1 i = yzR1
    generalize BitVec.getLsbD zR2 i = yzR2
    generalize BitVec.getLsbD d i = yd
    revert yzR1 yzR2 yd
    decide
/-! A pair of machines that begins, and that both are alike. -/
def startM (n most : Int) (ms : List Int) : Twire_Machine := ⟨n, most, 0, 0, 0, false, 0, 0, 0, ⟨ms, ⟨0⟩, (ms.length : Int)⟩, [], [], []⟩
theorem start_ok {n most : Int} {ms : List Int} (hn : n = 2 ∨ n = 3) (hm : most ≤ 1048576) (hw : ∀ x ∈ ms, IsW x) (hl : ms.length * 8 ≤ 140737488351232) : WMok (startM n most ms) := by
  refine ⟨⟨hn, hm, ⟨Int.le_refl 0, by show (0 : Int) ≤ 4611686018427387904; omega⟩, ⟨Int.le_refl 0, Int.le_refl 0⟩, ⟨Int.le_refl 0, Int.le_refl 0⟩, Nat.zero_le _, rfl, ⟨Int.le_refl 0, by show (0 : Int) ≤ 3; omega⟩, fun x h => (by cases h), hw, ⟨Int.le_refl 0, by show (0 : Int) ≤ (ms.length : Int); omega⟩, Int.le_refl _, by show (ms.length : Int) ≤ 4611686018427387904; omega, fun _ => rfl, fun h => (by cases h)⟩, rfl, trivial, .inr rfl, ⟨Int.le_refl 0, by show (0 : Int) ≤ 3; omega⟩⟩
theorem Begins_m (k : Nat) {n most : Int} {ms : List Int} (hn : n = 2 ∨ n = 3) (h0 : 0 ≤ most) (hm : most ≤ 1048576) (hl : ms.length * 8 ≤ 140737488351232) :
    visorlaw20_Begins.m k n ms most = some (Sum.inr (startM n most ms, absM (startM n most ms), [], [], true)) := by
  have e1 : tape_New.m k ms = some ⟨ms, ⟨0⟩, 0⟩ := by
    unfold tape_New.m slices_Clone_uint64_uint64.m
    rw [if_pos (by simp only [List.length_nil]; omega)]; rfl
  have e2 : tape_Tape_Reserve.m k ⟨ms, ⟨0⟩, 0⟩ (ms.length : Int) = some (0, ⟨ms, ⟨0⟩, (ms.length : Int)⟩) := by
    unfold tape_Tape_Reserve.m tape_Tape_Left.m tape_Tape_Used.m
    rw [decide_eq_false (by omega), cond_false, Option.bind_some]
    dsimp only
    rw [wrapI (by omega) (by omega), Option.bind_some, decide_eq_false (by omega), cond_false]
  have e3 : ((((n != 2) && (n != 3)) || (decide (most < 0))) || (decide (most > 1048576))) = false := by
    rw [decide_eq_false (by omega), decide_eq_false (by omega)]
    rcases hn with rfl | rfl <;> rfl
  unfold visorlaw20_Begins.m wire_New.m visorref19_New.m
  rw [e1, Option.bind_some, e2, Option.bind_some]
  dsimp only
  rw [e3, cond_false]
  rfl
def start (n most : Int) (ms : List Int) (hn : n = 2 ∨ n = 3) (hm : most ≤ 1048576) (hw : ∀ x ∈ ms, IsW x) (hl : ms.length * 8 ≤ 140737488351232) : WM := ⟨startM n most ms, start_ok hn hm hw hl⟩
theorem Values_w (k : Nat) (M : WM) : wire_Machine_Values.m k M.m = some M.m.values := by
  have := M.w.ok.vals; have := M.w.ok.ops
  unfold wire_Machine_Values.m slices_Clone_uint64_uint64.m
  rw [if_pos (by simp only [List.length_nil]; omega)]; rfl
theorem Trace_w (k : Nat) (M : WM) : wire_Machine_Trace.m k M.m = some ⟨M.m.n, M.m.ops, M.m.blocks⟩ := by
  have := M.w.ok.ops; have := M.blocks
  unfold wire_Machine_Trace.m slices_Clone_api_Op_api_Op.m slices_Clone_api_Span_api_Span.m
  rw [if_pos (by simp only [List.length_nil]; omega), Option.bind_some, if_pos (by simp only [List.length_nil]; omega)]; rfl
/-! What a word is made into, fully and simply fresh. -/
theorem masks1_v {k : Nat} {M : WM} {R : Int × WM} (hk : 10 ≤ k) (h : R = M.D ⟨1, -1, -1, -1, -1, 0⟩ 0) : fresh_masks.m k M.m 1 = some ([ci R.1, ci 0, ci 0], R.2.m) := by
  obtain ⟨k, rfl⟩ : ∃ j, k = j + 4 := ⟨k - 4, by omega⟩
  unfold fresh_masks.m
  rw [fresh_masks.l1, show decide ((0 : Int) < 1) = true from rfl, cond_true, Rand_v h (by omega), Option.bind_some, if_pos (by decide), if_pos (by decide), W01, fresh_masks.l1, show decide ((1 : Int) < 1) = false from rfl, cond_false]
  rfl
theorem masks3_v {k : Nat} {M : WM} {R S T : Int × WM} (hk : 10 ≤ k) (h : R = M.D ⟨1, -1, -1, -1, -1, 0⟩ 0) (h2 : S = R.2.D ⟨1, -1, -1, -1, -1, 0⟩ 0) (h3 : T = S.2.D ⟨1, -1, -1, -1, -1, 0⟩ 0) : fresh_masks.m k M.m 3 = some ([ci R.1, ci S.1, ci T.1], T.2.m) := by
  obtain ⟨k, rfl⟩ : ∃ j, k = j + 4 := ⟨k - 4, by omega⟩
  unfold fresh_masks.m
  rw [fresh_masks.l1, show decide ((0 : Int) < 3) = true from rfl, cond_true, Rand_v h (by omega), Option.bind_some, if_pos (by decide), if_pos (by decide), W01, fresh_masks.l1, show decide ((1 : Int) < 3) = true from rfl, cond_true, Rand_v h2 (by omega), Option.bind_some, if_pos (by decide), if_pos (by show 1 < 3; omega), W2, fresh_masks.l1, show decide ((2 : Int) < 3) = true from rfl, cond_true, Rand_v h3 (by omega), Option.bind_some, if_pos (by decide), if_pos (by show 2 < 3; omega), W3, fresh_masks.l1, show decide ((3 : Int) < 3) = false from rfl, cond_false]
  rfl
/-! Fresh words, each call as a row of Do's (printed by wip/gen/gads.py). -/
def FuC (M : WM) (a : Int) (b : Int) (c : Int) (o0 o1 o2 : Int) (M' : WM) : Prop :=
  (∃ B : WM, ∃ R : Int × WM, ∃ X0 : Int × WM, ∃ X1 : Int × WM, ∃ E : WM, M.m.n = 2 ∧ c = -1 ∧ B = M.B 2 ∧ R = B.D ⟨1, -1, -1, -1, -1, 0⟩ 0 ∧ X0 = R.2.D ⟨5, 0, a, R.1, -1, 0⟩ 0 ∧ X1 = X0.2.D ⟨5, 1, b, R.1, -1, 0⟩ 0 ∧ E = X1.2.E ∧ o0 = X0.1 ∧ o1 = X1.1 ∧ o2 = -1 ∧ M' = E) ∨
  (∃ B : WM, ∃ R : Int × WM, ∃ S : Int × WM, ∃ T : Int × WM, ∃ X0 : Int × WM, ∃ X1 : Int × WM, ∃ X2 : Int × WM, ∃ X3 : Int × WM, ∃ X4 : Int × WM, ∃ X5 : Int × WM, ∃ E : WM, M.m.n = 3 ∧ B = M.B 2 ∧ R = B.D ⟨1, -1, -1, -1, -1, 0⟩ 0 ∧ S = R.2.D ⟨1, -1, -1, -1, -1, 0⟩ 0 ∧ T = S.2.D ⟨1, -1, -1, -1, -1, 0⟩ 0 ∧ X0 = T.2.D ⟨5, 0, a, R.1, -1, 0⟩ 0 ∧ X1 = X0.2.D ⟨5, 0, X0.1, S.1, -1, 0⟩ 0 ∧ X2 = X1.2.D ⟨5, 1, b, R.1, -1, 0⟩ 0 ∧ X3 = X2.2.D ⟨5, 1, X2.1, T.1, -1, 0⟩ 0 ∧ X4 = X3.2.D ⟨5, 2, c, S.1, -1, 0⟩ 0 ∧ X5 = X4.2.D ⟨5, 2, X4.1, T.1, -1, 0⟩ 0 ∧ E = X5.2.E ∧ o0 = X1.1 ∧ o1 = X3.1 ∧ o2 = X5.1 ∧ M' = E)
theorem FuC.ex (M : WM) (a : Int) (b : Int) (c : Int) (hc : M.m.n = 2 → c = -1) : ∃ o0 o1 o2 M', FuC M a b c o0 o1 o2 M' := by
  rcases M.w.ok.n with h | h
  · exact ⟨_, _, _, _, .inl ⟨_, _, _, _, _, h, (hc h), rfl, rfl, rfl, rfl, rfl, rfl, rfl, rfl, rfl⟩⟩
  · exact ⟨_, _, _, _, .inr ⟨_, _, _, _, _, _, _, _, _, _, _, h, rfl, rfl, rfl, rfl, rfl, rfl, rfl, rfl, rfl, rfl, rfl, rfl, rfl, rfl, rfl⟩⟩
theorem FuC.ext {M M' : WM} {a : Int} {b : Int} {c : Int} {o0 o1 o2 : Int} (h : FuC M a b c o0 o1 o2 M') : Ext M M' := by
  rcases h with ⟨B, R, X0, X1, E, hn, hp0, eB, eR, eX0, eX1, eE, rfl, rfl, rfl, rfl⟩ | ⟨B, R, S, T, X0, X1, X2, X3, X4, X5, E, hn, eB, eR, eS, eT, eX0, eX1, eX2, eX3, eX4, eX5, eE, rfl, rfl, rfl, rfl⟩
  · exact (((((B_vext eB).trans (D_vext eR)).trans (D_vext eX0)).trans (D_vext eX1)).trans (E_vext eE))
  · exact (((((((((((B_vext eB).trans (D_vext eR)).trans (D_vext eS)).trans (D_vext eT)).trans (D_vext eX0)).trans (D_vext eX1)).trans (D_vext eX2)).trans (D_vext eX3)).trans (D_vext eX4)).trans (D_vext eX5)).trans (E_vext eE))
theorem FuC.c {M M' : WM} {a : Int} {b : Int} {c : Int} {o0 o1 o2 : Int} (h : FuC M a b c o0 o1 o2 M') (hn' : M'.m.n = 2) : o2 = -1 := by
  have hm := h.ext.n
  rcases h with ⟨B, R, X0, X1, E, hn, hp0, eB, eR, eX0, eX1, eE, rfl, rfl, rfl, rfl⟩ | ⟨B, R, S, T, X0, X1, X2, X3, X4, X5, E, hn, eB, eR, eS, eT, eX0, eX1, eX2, eX3, eX4, eX5, eE, rfl, rfl, rfl, rfl⟩
  · rfl
  · omega
theorem FuC.p {k : Nat} (hk : 90 ≤ k) {M M' : WM} {a : Int} {b : Int} {c : Int} {o0 o1 o2 : Int} (h : FuC M a b c o0 o1 o2 M') : fresh_Full.m k M.m [ci a, ci b, ci c] = some ([ci o0, ci o1, ci o2], M'.m) := by
  rcases h with ⟨B, R, X0, X1, E, hn, rfl, eB, eR, eX0, eX1, eE, rfl, rfl, rfl, rfl⟩ | ⟨B, R, S, T, X0, X1, X2, X3, X4, X5, E, hn, eB, eR, eS, eT, eX0, eX1, eX2, eX3, eX4, eX5, eE, rfl, rfl, rfl, rfl⟩
  · skip
    have hm : M.m.n ≠ 3 := by omega
    have nB : B.m.n = 2 := (B_vext eB).n.trans hn
    have mB : B.m.n ≠ 3 := by omega
    have nR : R.2.m.n = 2 := (D_vext eR).n.trans nB
    have mR : R.2.m.n ≠ 3 := by omega
    have nX0 : X0.2.m.n = 2 := (D_vext eX0).n.trans nR
    have mX0 : X0.2.m.n ≠ 3 := by omega
    have nX1 : X1.2.m.n = 2 := (D_vext eX1).n.trans nX0
    have mX1 : X1.2.m.n ≠ 3 := by omega
    unfold fresh_Full.m
    repeat (first
      | with_reducible refine bstep (N_v (by assumption)) ?_
      | with_reducible refine bstep (Begin_v (by assumption)) ?_
      | with_reducible refine bstep (masks1_v (by omega) (by assumption)) ?_
      | with_reducible refine bstep (Two_v (by assumption) (by omega)) ?_
      | with_reducible refine bstep (Rand_v (by assumption) (by omega)) ?_
      | with_reducible refine bstep (End_v (by assumption)) ?_
      | ((with_reducible refine iteP ?_ ?_); · first | exact rfl | exact Nat.le_of_ble_eq_true rfl | decide)
      | ((with_reducible refine bifT ?_ ?_); · first | decide | exact beqT (by assumption) | exact ltT (by assumption) (by decide) | exact bneT (by assumption))
      | ((with_reducible refine bifF ?_ ?_); · first | decide | exact beqN (by assumption) | exact ltF (by assumption) (by decide) | exact bneN (by assumption))
      | ((with_reducible apply bstep); · exact rfl)
      | dsimp only)
    exact rfl
  · skip
    have hm : M.m.n ≠ 2 := by omega
    have nB : B.m.n = 3 := (B_vext eB).n.trans hn
    have mB : B.m.n ≠ 2 := by omega
    have nR : R.2.m.n = 3 := (D_vext eR).n.trans nB
    have mR : R.2.m.n ≠ 2 := by omega
    have nS : S.2.m.n = 3 := (D_vext eS).n.trans nR
    have mS : S.2.m.n ≠ 2 := by omega
    have nT : T.2.m.n = 3 := (D_vext eT).n.trans nS
    have mT : T.2.m.n ≠ 2 := by omega
    have nX0 : X0.2.m.n = 3 := (D_vext eX0).n.trans nT
    have mX0 : X0.2.m.n ≠ 2 := by omega
    have nX1 : X1.2.m.n = 3 := (D_vext eX1).n.trans nX0
    have mX1 : X1.2.m.n ≠ 2 := by omega
    have nX2 : X2.2.m.n = 3 := (D_vext eX2).n.trans nX1
    have mX2 : X2.2.m.n ≠ 2 := by omega
    have nX3 : X3.2.m.n = 3 := (D_vext eX3).n.trans nX2
    have mX3 : X3.2.m.n ≠ 2 := by omega
    have nX4 : X4.2.m.n = 3 := (D_vext eX4).n.trans nX3
    have mX4 : X4.2.m.n ≠ 2 := by omega
    have nX5 : X5.2.m.n = 3 := (D_vext eX5).n.trans nX4
    have mX5 : X5.2.m.n ≠ 2 := by omega
    unfold fresh_Full.m
    repeat (first
      | with_reducible refine bstep (N_v (by assumption)) ?_
      | with_reducible refine bstep (Begin_v (by assumption)) ?_
      | with_reducible refine bstep (masks3_v (by omega) (by assumption) (by assumption) (by assumption)) ?_
      | with_reducible refine bstep (Two_v (by assumption) (by omega)) ?_
      | with_reducible refine bstep (Rand_v (by assumption) (by omega)) ?_
      | with_reducible refine bstep (End_v (by assumption)) ?_
      | ((with_reducible refine iteP ?_ ?_); · first | exact rfl | exact Nat.le_of_ble_eq_true rfl | decide)
      | ((with_reducible refine bifT ?_ ?_); · first | decide | exact beqT (by assumption) | exact ltT (by assumption) (by decide) | exact bneT (by assumption))
      | ((with_reducible refine bifF ?_ ?_); · first | decide | exact beqN (by assumption) | exact ltF (by assumption) (by decide) | exact bneN (by assumption))
      | ((with_reducible apply bstep); · exact rfl)
      | dsimp only)
    exact rfl
theorem FuC.s {M M' F : WM} {a : Int} {b : Int} {c : Int} {o0 o1 o2 : Int} (h : FuC M a b c o0 o1 o2 M') (x : Ext M' F) (hF : F.m.bad = 0) {z : BitVec 64} (s0 : Stands F a b c z) : Stands F o0 o1 o2 z := by
  rcases h with ⟨B, R, X0, X1, E, hn, hp0, eB, eR, eX0, eX1, eE, rfl, rfl, rfl, rfl⟩ | ⟨B, R, S, T, X0, X1, X2, X3, X4, X5, E, hn, eB, eR, eS, eT, eX0, eX1, eX2, eX3, eX4, eX5, eE, rfl, rfl, rfl, rfl⟩
  · have x5 := x
    have x4 := (E_vext eE).trans x5
    have x3 := (D_vext eX1).trans x4
    have x2 := (D_vext eX0).trans x3
    have x1 := (D_vext eR).trans x2
    have x0 := (B_vext eB).trans x1
    have nF : F.m.n = 2 := x0.n.trans hn
    obtain ⟨_, hc0, p0, q0, vp0, vq0, rfl⟩ : F.m.n = 2 ∧ _ := by
      rcases s0 with h | h
      · exact h
      · exact absurd h.1 (by omega)
    obtain ⟨zR, vR⟩ := F_rand eR x2 hF
    have vX0 := F_xor eX0 x3 hF vp0 vR
    have vX1 := F_xor eX1 x4 hF vq0 vR
    refine .inl ⟨nF, rfl, _, _, vX0, vX1, ?_⟩
    apply BitVec.eq_of_getLsbD_eq; intro i hi
    simp only [BitVec.getLsbD_xor]
    generalize BitVec.getLsbD p0 i = yp0
    generalize BitVec.getLsbD q0 i = yq0
    generalize BitVec.getLsbD zR i = yzR
    revert yp0 yq0 yzR
    decide
  · have x11 := x
    have x10 := (E_vext eE).trans x11
    have x9 := (D_vext eX5).trans x10
    have x8 := (D_vext eX4).trans x9
    have x7 := (D_vext eX3).trans x8
    have x6 := (D_vext eX2).trans x7
    have x5 := (D_vext eX1).trans x6
    have x4 := (D_vext eX0).trans x5
    have x3 := (D_vext eT).trans x4
    have x2 := (D_vext eS).trans x3
    have x1 := (D_vext eR).trans x2
    have x0 := (B_vext eB).trans x1
    have nF : F.m.n = 3 := x0.n.trans hn
    obtain ⟨_, p0, q0, r0, vp0, vq0, vr0, rfl⟩ : F.m.n = 3 ∧ _ := by
      rcases s0 with h | h
      · exact absurd h.1 (by omega)
      · exact h
    obtain ⟨zR, vR⟩ := F_rand eR x2 hF
    obtain ⟨zS, vS⟩ := F_rand eS x3 hF
    obtain ⟨zT, vT⟩ := F_rand eT x4 hF
    have vX0 := F_xor eX0 x5 hF vp0 vR
    have vX1 := F_xor eX1 x6 hF vX0 vS
    have vX2 := F_xor eX2 x7 hF vq0 vR
    have vX3 := F_xor eX3 x8 hF vX2 vT
    have vX4 := F_xor eX4 x9 hF vr0 vS
    have vX5 := F_xor eX5 x10 hF vX4 vT
    refine .inr ⟨nF, _, _, _, vX1, vX3, vX5, ?_⟩
    apply BitVec.eq_of_getLsbD_eq; intro i hi
    simp only [BitVec.getLsbD_xor]
    generalize BitVec.getLsbD p0 i = yp0
    generalize BitVec.getLsbD q0 i = yq0
    generalize BitVec.getLsbD r0 i = yr0
    generalize BitVec.getLsbD zR i = yzR
    generalize BitVec.getLsbD zS i = yzS
    generalize BitVec.getLsbD zT i = yzT
    revert yp0 yq0 yr0 yzR yzS yzT
    decide
def SiC (M : WM) (a : Int) (b : Int) (c : Int) (o0 o1 o2 : Int) (M' : WM) : Prop :=
  (∃ B : WM, ∃ R : Int × WM, ∃ S : Int × WM, ∃ X0 : Int × WM, ∃ X1 : Int × WM, ∃ X2 : Int × WM, ∃ X4 : Int × WM, ∃ E : WM, M.m.n = 3 ∧ B = M.B 2 ∧ R = B.D ⟨1, -1, -1, -1, -1, 0⟩ 0 ∧ S = R.2.D ⟨1, -1, -1, -1, -1, 0⟩ 0 ∧ X0 = S.2.D ⟨5, 0, a, R.1, -1, 0⟩ 0 ∧ X1 = X0.2.D ⟨5, 0, X0.1, S.1, -1, 0⟩ 0 ∧ X2 = X1.2.D ⟨5, 1, b, R.1, -1, 0⟩ 0 ∧ X4 = X2.2.D ⟨5, 2, c, S.1, -1, 0⟩ 0 ∧ E = X4.2.E ∧ o0 = X1.1 ∧ o1 = X2.1 ∧ o2 = X4.1 ∧ M' = E)
theorem SiC.ext {M M' : WM} {a : Int} {b : Int} {c : Int} {o0 o1 o2 : Int} (h : SiC M a b c o0 o1 o2 M') : Ext M M' := by
  rcases h with ⟨B, R, S, X0, X1, X2, X4, E, hn, eB, eR, eS, eX0, eX1, eX2, eX4, eE, rfl, rfl, rfl, rfl⟩
  · exact ((((((((B_vext eB).trans (D_vext eR)).trans (D_vext eS)).trans (D_vext eX0)).trans (D_vext eX1)).trans (D_vext eX2)).trans (D_vext eX4)).trans (E_vext eE))
theorem SiC.ex (M : WM) (a b c : Int) (h : M.m.n = 3) : ∃ o0 o1 o2 M', SiC M a b c o0 o1 o2 M' := ⟨_, _, _, _, _, _, _, _, _, _, _, _, h, rfl, rfl, rfl, rfl, rfl, rfl, rfl, rfl, rfl, rfl, rfl, rfl⟩
theorem SiC.s {M M' F : WM} {a : Int} {b : Int} {c : Int} {o0 o1 o2 : Int} (h : SiC M a b c o0 o1 o2 M') (x : Ext M' F) (hF : F.m.bad = 0) {z : BitVec 64} (s0 : Stands F a b c z) : Stands F o0 o1 o2 z := by
  rcases h with ⟨B, R, S, X0, X1, X2, X4, E, hn, eB, eR, eS, eX0, eX1, eX2, eX4, eE, rfl, rfl, rfl, rfl⟩
  · have x8 := x
    have x7 := (E_vext eE).trans x8
    have x6 := (D_vext eX4).trans x7
    have x5 := (D_vext eX2).trans x6
    have x4 := (D_vext eX1).trans x5
    have x3 := (D_vext eX0).trans x4
    have x2 := (D_vext eS).trans x3
    have x1 := (D_vext eR).trans x2
    have x0 := (B_vext eB).trans x1
    have nF : F.m.n = 3 := x0.n.trans hn
    obtain ⟨_, p0, q0, r0, vp0, vq0, vr0, rfl⟩ : F.m.n = 3 ∧ _ := by
      rcases s0 with h | h
      · exact absurd h.1 (by omega)
      · exact h
    obtain ⟨zR, vR⟩ := F_rand eR x2 hF
    obtain ⟨zS, vS⟩ := F_rand eS x3 hF
    have vX0 := F_xor eX0 x4 hF vp0 vR
    have vX1 := F_xor eX1 x5 hF vX0 vS
    have vX2 := F_xor eX2 x6 hF vq0 vR
    have vX4 := F_xor eX4 x7 hF vr0 vS
    refine .inr ⟨nF, _, _, _, vX1, vX2, vX4, ?_⟩
    apply BitVec.eq_of_getLsbD_eq; intro i hi
    simp only [BitVec.getLsbD_xor]
    generalize BitVec.getLsbD p0 i = yp0
    generalize BitVec.getLsbD q0 i = yq0
    generalize BitVec.getLsbD r0 i = yr0
    generalize BitVec.getLsbD zR i = yzR
    generalize BitVec.getLsbD zS i = yzS
    revert yp0 yq0 yr0 yzR yzS
    decide
/-! Two words multiplied, as a row of Do's (printed by wip/gen/gads.py). -/
def IsC (M : WM) (a0 : Int) (b0 : Int) (c0 : Int) (a1 : Int) (b1 : Int) (c1 : Int) (o0 o1 o2 : Int) (M' : WM) : Prop :=
  (∃ B : WM, ∃ R01 : Int × WM, ∃ P00 : Int × WM, ∃ P01 : Int × WM, ∃ P10 : Int × WM, ∃ P11 : Int × WM, ∃ O01 : Int × WM, ∃ A10 : Int × WM, ∃ C10 : Int × WM, ∃ O10 : Int × WM, ∃ E : WM, M.m.n = 2 ∧ B = M.B 3 ∧ R01 = B.D ⟨1, -1, -1, -1, -1, 0⟩ 0 ∧ P00 = R01.2.D ⟨7, 0, a0, a1, -1, 0⟩ 0 ∧ P01 = P00.2.D ⟨7, 0, a0, b1, -1, 0⟩ 0 ∧ P10 = P01.2.D ⟨7, 1, b0, a1, -1, 0⟩ 0 ∧ P11 = P10.2.D ⟨7, 1, b0, b1, -1, 0⟩ 0 ∧ O01 = P11.2.D ⟨5, 0, P00.1, R01.1, -1, 0⟩ 0 ∧ A10 = O01.2.D ⟨5, 1, R01.1, P01.1, -1, 0⟩ 0 ∧ C10 = A10.2.D ⟨5, 1, A10.1, P10.1, -1, 0⟩ 0 ∧ O10 = C10.2.D ⟨5, 1, P11.1, C10.1, -1, 0⟩ 0 ∧ E = O10.2.E ∧ o0 = O01.1 ∧ o1 = O10.1 ∧ o2 = -1 ∧ M' = E) ∨
  (∃ B : WM, ∃ R01 : Int × WM, ∃ R02 : Int × WM, ∃ R12 : Int × WM, ∃ P00 : Int × WM, ∃ P01 : Int × WM, ∃ P02 : Int × WM, ∃ P10 : Int × WM, ∃ P11 : Int × WM, ∃ P12 : Int × WM, ∃ P20 : Int × WM, ∃ P21 : Int × WM, ∃ P22 : Int × WM, ∃ O01 : Int × WM, ∃ O02 : Int × WM, ∃ A10 : Int × WM, ∃ C10 : Int × WM, ∃ O10 : Int × WM, ∃ O12 : Int × WM, ∃ A20 : Int × WM, ∃ C20 : Int × WM, ∃ O20 : Int × WM, ∃ A21 : Int × WM, ∃ C21 : Int × WM, ∃ O21 : Int × WM, ∃ E : WM, M.m.n = 3 ∧ B = M.B 3 ∧ R01 = B.D ⟨1, -1, -1, -1, -1, 0⟩ 0 ∧ R02 = R01.2.D ⟨1, -1, -1, -1, -1, 0⟩ 0 ∧ R12 = R02.2.D ⟨1, -1, -1, -1, -1, 0⟩ 0 ∧ P00 = R12.2.D ⟨7, 0, a0, a1, -1, 0⟩ 0 ∧ P01 = P00.2.D ⟨7, 0, a0, b1, -1, 0⟩ 0 ∧ P02 = P01.2.D ⟨7, 0, a0, c1, -1, 0⟩ 0 ∧ P10 = P02.2.D ⟨7, 1, b0, a1, -1, 0⟩ 0 ∧ P11 = P10.2.D ⟨7, 1, b0, b1, -1, 0⟩ 0 ∧ P12 = P11.2.D ⟨7, 1, b0, c1, -1, 0⟩ 0 ∧ P20 = P12.2.D ⟨7, 2, c0, a1, -1, 0⟩ 0 ∧ P21 = P20.2.D ⟨7, 2, c0, b1, -1, 0⟩ 0 ∧ P22 = P21.2.D ⟨7, 2, c0, c1, -1, 0⟩ 0 ∧ O01 = P22.2.D ⟨5, 0, P00.1, R01.1, -1, 0⟩ 0 ∧ O02 = O01.2.D ⟨5, 0, O01.1, R02.1, -1, 0⟩ 0 ∧ A10 = O02.2.D ⟨5, 1, R01.1, P01.1, -1, 0⟩ 0 ∧ C10 = A10.2.D ⟨5, 1, A10.1, P10.1, -1, 0⟩ 0 ∧ O10 = C10.2.D ⟨5, 1, P11.1, C10.1, -1, 0⟩ 0 ∧ O12 = O10.2.D ⟨5, 1, O10.1, R12.1, -1, 0⟩ 0 ∧ A20 = O12.2.D ⟨5, 2, R02.1, P02.1, -1, 0⟩ 0 ∧ C20 = A20.2.D ⟨5, 2, A20.1, P20.1, -1, 0⟩ 0 ∧ O20 = C20.2.D ⟨5, 2, P22.1, C20.1, -1, 0⟩ 0 ∧ A21 = O20.2.D ⟨5, 2, R12.1, P12.1, -1, 0⟩ 0 ∧ C21 = A21.2.D ⟨5, 2, A21.1, P21.1, -1, 0⟩ 0 ∧ O21 = C21.2.D ⟨5, 2, O20.1, C21.1, -1, 0⟩ 0 ∧ E = O21.2.E ∧ o0 = O02.1 ∧ o1 = O12.1 ∧ o2 = O21.1 ∧ M' = E)
theorem IsC.ex (M : WM) (a0 : Int) (b0 : Int) (c0 : Int) (a1 : Int) (b1 : Int) (c1 : Int) : ∃ o0 o1 o2 M', IsC M a0 b0 c0 a1 b1 c1 o0 o1 o2 M' := by
  rcases M.w.ok.n with h | h
  · exact ⟨_, _, _, _, .inl ⟨_, _, _, _, _, _, _, _, _, _, _, h, rfl, rfl, rfl, rfl, rfl, rfl, rfl, rfl, rfl, rfl, rfl, rfl, rfl, rfl, rfl⟩⟩
  · exact ⟨_, _, _, _, .inr ⟨_, _, _, _, _, _, _, _, _, _, _, _, _, _, _, _, _, _, _, _, _, _, _, _, _, _, h, rfl, rfl, rfl, rfl, rfl, rfl, rfl, rfl, rfl, rfl, rfl, rfl, rfl, rfl, rfl, rfl, rfl, rfl, rfl, rfl, rfl, rfl, rfl, rfl, rfl, rfl, rfl, rfl, rfl, rfl⟩⟩
theorem IsC.ext {M M' : WM} {a0 : Int} {b0 : Int} {c0 : Int} {a1 : Int} {b1 : Int} {c1 : Int} {o0 o1 o2 : Int} (h : IsC M a0 b0 c0 a1 b1 c1 o0 o1 o2 M') : Ext M M' := by
  rcases h with ⟨B, R01, P00, P01, P10, P11, O01, A10, C10, O10, E, hn, eB, eR01, eP00, eP01, eP10, eP11, eO01, eA10, eC10, eO10, eE, rfl, rfl, rfl, rfl⟩ | ⟨B, R01, R02, R12, P00, P01, P02, P10, P11, P12, P20, P21, P22, O01, O02, A10, C10, O10, O12, A20, C20, O20, A21, C21, O21, E, hn, eB, eR01, eR02, eR12, eP00, eP01, eP02, eP10, eP11, eP12, eP20, eP21, eP22, eO01, eO02, eA10, eC10, eO10, eO12, eA20, eC20, eO20, eA21, eC21, eO21, eE, rfl, rfl, rfl, rfl⟩
  · exact (((((((((((B_vext eB).trans (D_vext eR01)).trans (D_vext eP00)).trans (D_vext eP01)).trans (D_vext eP10)).trans (D_vext eP11)).trans (D_vext eO01)).trans (D_vext eA10)).trans (D_vext eC10)).trans (D_vext eO10)).trans (E_vext eE))
  · exact ((((((((((((((((((((((((((B_vext eB).trans (D_vext eR01)).trans (D_vext eR02)).trans (D_vext eR12)).trans (D_vext eP00)).trans (D_vext eP01)).trans (D_vext eP02)).trans (D_vext eP10)).trans (D_vext eP11)).trans (D_vext eP12)).trans (D_vext eP20)).trans (D_vext eP21)).trans (D_vext eP22)).trans (D_vext eO01)).trans (D_vext eO02)).trans (D_vext eA10)).trans (D_vext eC10)).trans (D_vext eO10)).trans (D_vext eO12)).trans (D_vext eA20)).trans (D_vext eC20)).trans (D_vext eO20)).trans (D_vext eA21)).trans (D_vext eC21)).trans (D_vext eO21)).trans (E_vext eE))
theorem IsC.c {M M' : WM} {a0 : Int} {b0 : Int} {c0 : Int} {a1 : Int} {b1 : Int} {c1 : Int} {o0 o1 o2 : Int} (h : IsC M a0 b0 c0 a1 b1 c1 o0 o1 o2 M') (hn' : M'.m.n = 2) : o2 = -1 := by
  have hm := h.ext.n
  rcases h with ⟨B, R01, P00, P01, P10, P11, O01, A10, C10, O10, E, hn, eB, eR01, eP00, eP01, eP10, eP11, eO01, eA10, eC10, eO10, eE, rfl, rfl, rfl, rfl⟩ | ⟨B, R01, R02, R12, P00, P01, P02, P10, P11, P12, P20, P21, P22, O01, O02, A10, C10, O10, O12, A20, C20, O20, A21, C21, O21, E, hn, eB, eR01, eR02, eR12, eP00, eP01, eP02, eP10, eP11, eP12, eP20, eP21, eP22, eO01, eO02, eA10, eC10, eO10, eO12, eA20, eC20, eO20, eA21, eC21, eO21, eE, rfl, rfl, rfl, rfl⟩
  · rfl
  · omega
set_option maxHeartbeats 4000000 in
theorem IsC.p {k : Nat} (hk : 90 ≤ k) {M M' : WM} {a0 : Int} {b0 : Int} {c0 : Int} {a1 : Int} {b1 : Int} {c1 : Int} {o0 o1 o2 : Int} (h : IsC M a0 b0 c0 a1 b1 c1 o0 o1 o2 M') : times_Isw.m k M.m [ci a0, ci b0, ci c0] [ci a1, ci b1, ci c1] = some ([ci o0, ci o1, ci o2], M'.m) := by
  rcases h with ⟨B, R01, P00, P01, P10, P11, O01, A10, C10, O10, E, hn, eB, eR01, eP00, eP01, eP10, eP11, eO01, eA10, eC10, eO10, eE, rfl, rfl, rfl, rfl⟩ | ⟨B, R01, R02, R12, P00, P01, P02, P10, P11, P12, P20, P21, P22, O01, O02, A10, C10, O10, O12, A20, C20, O20, A21, C21, O21, E, hn, eB, eR01, eR02, eR12, eP00, eP01, eP02, eP10, eP11, eP12, eP20, eP21, eP22, eO01, eO02, eA10, eC10, eO10, eO12, eA20, eC20, eO20, eA21, eC21, eO21, eE, rfl, rfl, rfl, rfl⟩
  · skip
    have hm : M.m.n ≠ 3 := by omega
    have nB : B.m.n = 2 := (B_vext eB).n.trans hn
    have mB : B.m.n ≠ 3 := by omega
    have nR01 : R01.2.m.n = 2 := (D_vext eR01).n.trans nB
    have mR01 : R01.2.m.n ≠ 3 := by omega
    have nP00 : P00.2.m.n = 2 := (D_vext eP00).n.trans nR01
    have mP00 : P00.2.m.n ≠ 3 := by omega
    have nP01 : P01.2.m.n = 2 := (D_vext eP01).n.trans nP00
    have mP01 : P01.2.m.n ≠ 3 := by omega
    have nP10 : P10.2.m.n = 2 := (D_vext eP10).n.trans nP01
    have mP10 : P10.2.m.n ≠ 3 := by omega
    have nP11 : P11.2.m.n = 2 := (D_vext eP11).n.trans nP10
    have mP11 : P11.2.m.n ≠ 3 := by omega
    have nO01 : O01.2.m.n = 2 := (D_vext eO01).n.trans nP11
    have mO01 : O01.2.m.n ≠ 3 := by omega
    have nA10 : A10.2.m.n = 2 := (D_vext eA10).n.trans nO01
    have mA10 : A10.2.m.n ≠ 3 := by omega
    have nC10 : C10.2.m.n = 2 := (D_vext eC10).n.trans nA10
    have mC10 : C10.2.m.n ≠ 3 := by omega
    have nO10 : O10.2.m.n = 2 := (D_vext eO10).n.trans nC10
    have mO10 : O10.2.m.n ≠ 3 := by omega
    unfold times_Isw.m
    repeat (first
      | with_reducible refine bstep (N_v (by assumption)) ?_
      | with_reducible refine bstep (Begin_v (by assumption)) ?_
      | with_reducible refine bstep (Two_v (by assumption) (by omega)) ?_
      | with_reducible refine bstep (Rand_v (by assumption) (by omega)) ?_
      | with_reducible refine bstep (End_v (by assumption)) ?_
      | ((with_reducible refine iteP ?_ ?_); · first | exact rfl | exact Nat.le_of_ble_eq_true rfl | decide)
      | ((with_reducible refine bifT ?_ ?_); · first | decide | exact beqT (by assumption) | exact ltT (by assumption) (by decide) | exact bneT (by assumption))
      | ((with_reducible refine bifF ?_ ?_); · first | decide | exact beqN (by assumption) | exact ltF (by assumption) (by decide) | exact bneN (by assumption))
      | ((with_reducible apply bstep); · exact rfl)
      | dsimp only)
    first | done | exact rfl
  · skip
    have hm : M.m.n ≠ 2 := by omega
    have nB : B.m.n = 3 := (B_vext eB).n.trans hn
    have mB : B.m.n ≠ 2 := by omega
    have nR01 : R01.2.m.n = 3 := (D_vext eR01).n.trans nB
    have mR01 : R01.2.m.n ≠ 2 := by omega
    have nR02 : R02.2.m.n = 3 := (D_vext eR02).n.trans nR01
    have mR02 : R02.2.m.n ≠ 2 := by omega
    have nR12 : R12.2.m.n = 3 := (D_vext eR12).n.trans nR02
    have mR12 : R12.2.m.n ≠ 2 := by omega
    have nP00 : P00.2.m.n = 3 := (D_vext eP00).n.trans nR12
    have mP00 : P00.2.m.n ≠ 2 := by omega
    have nP01 : P01.2.m.n = 3 := (D_vext eP01).n.trans nP00
    have mP01 : P01.2.m.n ≠ 2 := by omega
    have nP02 : P02.2.m.n = 3 := (D_vext eP02).n.trans nP01
    have mP02 : P02.2.m.n ≠ 2 := by omega
    have nP10 : P10.2.m.n = 3 := (D_vext eP10).n.trans nP02
    have mP10 : P10.2.m.n ≠ 2 := by omega
    have nP11 : P11.2.m.n = 3 := (D_vext eP11).n.trans nP10
    have mP11 : P11.2.m.n ≠ 2 := by omega
    have nP12 : P12.2.m.n = 3 := (D_vext eP12).n.trans nP11
    have mP12 : P12.2.m.n ≠ 2 := by omega
    have nP20 : P20.2.m.n = 3 := (D_vext eP20).n.trans nP12
    have mP20 : P20.2.m.n ≠ 2 := by omega
    have nP21 : P21.2.m.n = 3 := (D_vext eP21).n.trans nP20
    have mP21 : P21.2.m.n ≠ 2 := by omega
    have nP22 : P22.2.m.n = 3 := (D_vext eP22).n.trans nP21
    have mP22 : P22.2.m.n ≠ 2 := by omega
    have nO01 : O01.2.m.n = 3 := (D_vext eO01).n.trans nP22
    have mO01 : O01.2.m.n ≠ 2 := by omega
    have nO02 : O02.2.m.n = 3 := (D_vext eO02).n.trans nO01
    have mO02 : O02.2.m.n ≠ 2 := by omega
    have nA10 : A10.2.m.n = 3 := (D_vext eA10).n.trans nO02
    have mA10 : A10.2.m.n ≠ 2 := by omega
    have nC10 : C10.2.m.n = 3 := (D_vext eC10).n.trans nA10
    have mC10 : C10.2.m.n ≠ 2 := by omega
    have nO10 : O10.2.m.n = 3 := (D_vext eO10).n.trans nC10
    have mO10 : O10.2.m.n ≠ 2 := by omega
    have nO12 : O12.2.m.n = 3 := (D_vext eO12).n.trans nO10
    have mO12 : O12.2.m.n ≠ 2 := by omega
    have nA20 : A20.2.m.n = 3 := (D_vext eA20).n.trans nO12
    have mA20 : A20.2.m.n ≠ 2 := by omega
    have nC20 : C20.2.m.n = 3 := (D_vext eC20).n.trans nA20
    have mC20 : C20.2.m.n ≠ 2 := by omega
    have nO20 : O20.2.m.n = 3 := (D_vext eO20).n.trans nC20
    have mO20 : O20.2.m.n ≠ 2 := by omega
    have nA21 : A21.2.m.n = 3 := (D_vext eA21).n.trans nO20
    have mA21 : A21.2.m.n ≠ 2 := by omega
    have nC21 : C21.2.m.n = 3 := (D_vext eC21).n.trans nA21
    have mC21 : C21.2.m.n ≠ 2 := by omega
    have nO21 : O21.2.m.n = 3 := (D_vext eO21).n.trans nC21
    have mO21 : O21.2.m.n ≠ 2 := by omega
    unfold times_Isw.m
    repeat (first
      | with_reducible refine bstep (N_v (by assumption)) ?_
      | with_reducible refine bstep (Begin_v (by assumption)) ?_
      | with_reducible refine bstep (Two_v (by assumption) (by omega)) ?_
      | with_reducible refine bstep (Rand_v (by assumption) (by omega)) ?_
      | with_reducible refine bstep (End_v (by assumption)) ?_
      | ((with_reducible refine iteP ?_ ?_); · first | exact rfl | exact Nat.le_of_ble_eq_true rfl | decide)
      | ((with_reducible refine bifT ?_ ?_); · first | decide | exact beqT (by assumption) | exact ltT (by assumption) (by decide) | exact bneT (by assumption))
      | ((with_reducible refine bifF ?_ ?_); · first | decide | exact beqN (by assumption) | exact ltF (by assumption) (by decide) | exact bneN (by assumption))
      | ((with_reducible apply bstep); · exact rfl)
      | dsimp only)
    first | done | exact rfl
theorem IsC.s {M M' F : WM} {a0 : Int} {b0 : Int} {c0 : Int} {a1 : Int} {b1 : Int} {c1 : Int} {o0 o1 o2 : Int} (h : IsC M a0 b0 c0 a1 b1 c1 o0 o1 o2 M') (x : Ext M' F) (hF : F.m.bad = 0) {z0 z1 : BitVec 64} (s0 : Stands F a0 b0 c0 z0) (s1 : Stands F a1 b1 c1 z1) : Stands F o0 o1 o2 (z0 &&& z1) := by
  rcases h with ⟨B, R01, P00, P01, P10, P11, O01, A10, C10, O10, E, hn, eB, eR01, eP00, eP01, eP10, eP11, eO01, eA10, eC10, eO10, eE, rfl, rfl, rfl, rfl⟩ | ⟨B, R01, R02, R12, P00, P01, P02, P10, P11, P12, P20, P21, P22, O01, O02, A10, C10, O10, O12, A20, C20, O20, A21, C21, O21, E, hn, eB, eR01, eR02, eR12, eP00, eP01, eP02, eP10, eP11, eP12, eP20, eP21, eP22, eO01, eO02, eA10, eC10, eO10, eO12, eA20, eC20, eO20, eA21, eC21, eO21, eE, rfl, rfl, rfl, rfl⟩
  · have x11 := x
    have x10 := (E_vext eE).trans x11
    have x9 := (D_vext eO10).trans x10
    have x8 := (D_vext eC10).trans x9
    have x7 := (D_vext eA10).trans x8
    have x6 := (D_vext eO01).trans x7
    have x5 := (D_vext eP11).trans x6
    have x4 := (D_vext eP10).trans x5
    have x3 := (D_vext eP01).trans x4
    have x2 := (D_vext eP00).trans x3
    have x1 := (D_vext eR01).trans x2
    have x0 := (B_vext eB).trans x1
    have nF : F.m.n = 2 := x0.n.trans hn
    obtain ⟨_, hc0, p0, q0, vp0, vq0, rfl⟩ : F.m.n = 2 ∧ _ := by
      rcases s0 with h | h
      · exact h
      · exact absurd h.1 (by omega)
    obtain ⟨_, hc1, p1, q1, vp1, vq1, rfl⟩ : F.m.n = 2 ∧ _ := by
      rcases s1 with h | h
      · exact h
      · exact absurd h.1 (by omega)
    obtain ⟨zR01, vR01⟩ := F_rand eR01 x2 hF
    have vP00 := F_and eP00 x3 hF vp0 vp1
    have vP01 := F_and eP01 x4 hF vp0 vq1
    have vP10 := F_and eP10 x5 hF vq0 vp1
    have vP11 := F_and eP11 x6 hF vq0 vq1
    have vO01 := F_xor eO01 x7 hF vP00 vR01
    have vA10 := F_xor eA10 x8 hF vR01 vP01
    have vC10 := F_xor eC10 x9 hF vA10 vP10
    have vO10 := F_xor eO10 x10 hF vP11 vC10
    refine .inl ⟨nF, rfl, _, _, vO01, vO10, ?_⟩
    apply BitVec.eq_of_getLsbD_eq; intro i hi
    simp only [BitVec.getLsbD_xor, BitVec.getLsbD_and]
    generalize BitVec.getLsbD p0 i = yp0
    generalize BitVec.getLsbD q0 i = yq0
    generalize BitVec.getLsbD p1 i = yp1
    generalize BitVec.getLsbD q1 i = yq1
    generalize BitVec.getLsbD zR01 i = yzR01
    revert yp0 yq0 yp1 yq1 yzR01
    decide
  · have x26 := x
    have x25 := (E_vext eE).trans x26
    have x24 := (D_vext eO21).trans x25
    have x23 := (D_vext eC21).trans x24
    have x22 := (D_vext eA21).trans x23
    have x21 := (D_vext eO20).trans x22
    have x20 := (D_vext eC20).trans x21
    have x19 := (D_vext eA20).trans x20
    have x18 := (D_vext eO12).trans x19
    have x17 := (D_vext eO10).trans x18
    have x16 := (D_vext eC10).trans x17
    have x15 := (D_vext eA10).trans x16
    have x14 := (D_vext eO02).trans x15
    have x13 := (D_vext eO01).trans x14
    have x12 := (D_vext eP22).trans x13
    have x11 := (D_vext eP21).trans x12
    have x10 := (D_vext eP20).trans x11
    have x9 := (D_vext eP12).trans x10
    have x8 := (D_vext eP11).trans x9
    have x7 := (D_vext eP10).trans x8
    have x6 := (D_vext eP02).trans x7
    have x5 := (D_vext eP01).trans x6
    have x4 := (D_vext eP00).trans x5
    have x3 := (D_vext eR12).trans x4
    have x2 := (D_vext eR02).trans x3
    have x1 := (D_vext eR01).trans x2
    have x0 := (B_vext eB).trans x1
    have nF : F.m.n = 3 := x0.n.trans hn
    obtain ⟨_, p0, q0, r0, vp0, vq0, vr0, rfl⟩ : F.m.n = 3 ∧ _ := by
      rcases s0 with h | h
      · exact absurd h.1 (by omega)
      · exact h
    obtain ⟨_, p1, q1, r1, vp1, vq1, vr1, rfl⟩ : F.m.n = 3 ∧ _ := by
      rcases s1 with h | h
      · exact absurd h.1 (by omega)
      · exact h
    obtain ⟨zR01, vR01⟩ := F_rand eR01 x2 hF
    obtain ⟨zR02, vR02⟩ := F_rand eR02 x3 hF
    obtain ⟨zR12, vR12⟩ := F_rand eR12 x4 hF
    have vP00 := F_and eP00 x5 hF vp0 vp1
    have vP01 := F_and eP01 x6 hF vp0 vq1
    have vP02 := F_and eP02 x7 hF vp0 vr1
    have vP10 := F_and eP10 x8 hF vq0 vp1
    have vP11 := F_and eP11 x9 hF vq0 vq1
    have vP12 := F_and eP12 x10 hF vq0 vr1
    have vP20 := F_and eP20 x11 hF vr0 vp1
    have vP21 := F_and eP21 x12 hF vr0 vq1
    have vP22 := F_and eP22 x13 hF vr0 vr1
    have vO01 := F_xor eO01 x14 hF vP00 vR01
    have vO02 := F_xor eO02 x15 hF vO01 vR02
    have vA10 := F_xor eA10 x16 hF vR01 vP01
    have vC10 := F_xor eC10 x17 hF vA10 vP10
    have vO10 := F_xor eO10 x18 hF vP11 vC10
    have vO12 := F_xor eO12 x19 hF vO10 vR12
    have vA20 := F_xor eA20 x20 hF vR02 vP02
    have vC20 := F_xor eC20 x21 hF vA20 vP20
    have vO20 := F_xor eO20 x22 hF vP22 vC20
    have vA21 := F_xor eA21 x23 hF vR12 vP12
    have vC21 := F_xor eC21 x24 hF vA21 vP21
    have vO21 := F_xor eO21 x25 hF vO20 vC21
    refine .inr ⟨nF, _, _, _, vO02, vO12, vO21, ?_⟩
    apply BitVec.eq_of_getLsbD_eq; intro i hi
    simp only [BitVec.getLsbD_xor, BitVec.getLsbD_and]
    generalize BitVec.getLsbD p0 i = yp0
    generalize BitVec.getLsbD q0 i = yq0
    generalize BitVec.getLsbD r0 i = yr0
    generalize BitVec.getLsbD p1 i = yp1
    generalize BitVec.getLsbD q1 i = yq1
    generalize BitVec.getLsbD r1 i = yr1
    generalize BitVec.getLsbD zR01 i = yzR01
    generalize BitVec.getLsbD zR02 i = yzR02
    generalize BitVec.getLsbD zR12 i = yzR12
    revert yp0 yq0 yr0 yp1 yq1 yr1 yzR01 yzR02 yzR12
    decide
theorem By_Is {k : Nat} (hk : 90 ≤ k) {M M' : WM} {a0 b0 c0 a1 b1 c1 o0 o1 o2 : Int} (h : IsC M a0 b0 c0 a1 b1 c1 o0 o1 o2 M') {kd : Int} (hkd : kd ≠ 2) : times_By.m k M.m kd [ci a0, ci b0, ci c0] [ci a1, ci b1, ci c1] = some ([ci o0, ci o1, ci o2], M'.m) := by
  unfold times_By.m
  rw [beqF hkd, cond_false, if_pos (by rfl), if_pos (by rfl), h.p hk, Option.bind_some, if_pos (by rfl)]
def DoC (M : WM) (a0 : Int) (b0 : Int) (c0 : Int) (a1 : Int) (b1 : Int) (c1 : Int) (o0 o1 o2 : Int) (M' : WM) : Prop :=
  (∃ B : WM, ∃ R01 : Int × WM, ∃ P00 : Int × WM, ∃ P01 : Int × WM, ∃ P10 : Int × WM, ∃ P11 : Int × WM, ∃ A01 : Int × WM, ∃ O01 : Int × WM, ∃ A10 : Int × WM, ∃ O10 : Int × WM, ∃ E : WM, M.m.n = 2 ∧ B = M.B 3 ∧ R01 = B.D ⟨1, -1, -1, -1, -1, 0⟩ 0 ∧ P00 = R01.2.D ⟨7, 0, a0, a1, -1, 0⟩ 0 ∧ P01 = P00.2.D ⟨7, 0, a0, b1, -1, 0⟩ 0 ∧ P10 = P01.2.D ⟨7, 1, b0, a1, -1, 0⟩ 0 ∧ P11 = P10.2.D ⟨7, 1, b0, b1, -1, 0⟩ 0 ∧ A01 = P11.2.D ⟨5, 0, P01.1, R01.1, -1, 0⟩ 0 ∧ O01 = A01.2.D ⟨5, 0, P00.1, A01.1, -1, 0⟩ 0 ∧ A10 = O01.2.D ⟨5, 1, P10.1, R01.1, -1, 0⟩ 0 ∧ O10 = A10.2.D ⟨5, 1, P11.1, A10.1, -1, 0⟩ 0 ∧ E = O10.2.E ∧ o0 = O01.1 ∧ o1 = O10.1 ∧ o2 = -1 ∧ M' = E) ∨
  (∃ B : WM, ∃ R01 : Int × WM, ∃ R02 : Int × WM, ∃ R12 : Int × WM, ∃ P00 : Int × WM, ∃ P01 : Int × WM, ∃ P02 : Int × WM, ∃ P10 : Int × WM, ∃ P11 : Int × WM, ∃ P12 : Int × WM, ∃ P20 : Int × WM, ∃ P21 : Int × WM, ∃ P22 : Int × WM, ∃ A01 : Int × WM, ∃ O01 : Int × WM, ∃ A02 : Int × WM, ∃ O02 : Int × WM, ∃ A10 : Int × WM, ∃ O10 : Int × WM, ∃ A12 : Int × WM, ∃ O12 : Int × WM, ∃ A20 : Int × WM, ∃ O20 : Int × WM, ∃ A21 : Int × WM, ∃ O21 : Int × WM, ∃ E : WM, M.m.n = 3 ∧ B = M.B 3 ∧ R01 = B.D ⟨1, -1, -1, -1, -1, 0⟩ 0 ∧ R02 = R01.2.D ⟨1, -1, -1, -1, -1, 0⟩ 0 ∧ R12 = R02.2.D ⟨1, -1, -1, -1, -1, 0⟩ 0 ∧ P00 = R12.2.D ⟨7, 0, a0, a1, -1, 0⟩ 0 ∧ P01 = P00.2.D ⟨7, 0, a0, b1, -1, 0⟩ 0 ∧ P02 = P01.2.D ⟨7, 0, a0, c1, -1, 0⟩ 0 ∧ P10 = P02.2.D ⟨7, 1, b0, a1, -1, 0⟩ 0 ∧ P11 = P10.2.D ⟨7, 1, b0, b1, -1, 0⟩ 0 ∧ P12 = P11.2.D ⟨7, 1, b0, c1, -1, 0⟩ 0 ∧ P20 = P12.2.D ⟨7, 2, c0, a1, -1, 0⟩ 0 ∧ P21 = P20.2.D ⟨7, 2, c0, b1, -1, 0⟩ 0 ∧ P22 = P21.2.D ⟨7, 2, c0, c1, -1, 0⟩ 0 ∧ A01 = P22.2.D ⟨5, 0, P01.1, R01.1, -1, 0⟩ 0 ∧ O01 = A01.2.D ⟨5, 0, P00.1, A01.1, -1, 0⟩ 0 ∧ A02 = O01.2.D ⟨5, 0, P02.1, R02.1, -1, 0⟩ 0 ∧ O02 = A02.2.D ⟨5, 0, O01.1, A02.1, -1, 0⟩ 0 ∧ A10 = O02.2.D ⟨5, 1, P10.1, R01.1, -1, 0⟩ 0 ∧ O10 = A10.2.D ⟨5, 1, P11.1, A10.1, -1, 0⟩ 0 ∧ A12 = O10.2.D ⟨5, 1, P12.1, R12.1, -1, 0⟩ 0 ∧ O12 = A12.2.D ⟨5, 1, O10.1, A12.1, -1, 0⟩ 0 ∧ A20 = O12.2.D ⟨5, 2, P20.1, R02.1, -1, 0⟩ 0 ∧ O20 = A20.2.D ⟨5, 2, P22.1, A20.1, -1, 0⟩ 0 ∧ A21 = O20.2.D ⟨5, 2, P21.1, R12.1, -1, 0⟩ 0 ∧ O21 = A21.2.D ⟨5, 2, O20.1, A21.1, -1, 0⟩ 0 ∧ E = O21.2.E ∧ o0 = O02.1 ∧ o1 = O12.1 ∧ o2 = O21.1 ∧ M' = E)
theorem DoC.ex (M : WM) (a0 : Int) (b0 : Int) (c0 : Int) (a1 : Int) (b1 : Int) (c1 : Int) : ∃ o0 o1 o2 M', DoC M a0 b0 c0 a1 b1 c1 o0 o1 o2 M' := by
  rcases M.w.ok.n with h | h
  · exact ⟨_, _, _, _, .inl ⟨_, _, _, _, _, _, _, _, _, _, _, h, rfl, rfl, rfl, rfl, rfl, rfl, rfl, rfl, rfl, rfl, rfl, rfl, rfl, rfl, rfl⟩⟩
  · exact ⟨_, _, _, _, .inr ⟨_, _, _, _, _, _, _, _, _, _, _, _, _, _, _, _, _, _, _, _, _, _, _, _, _, _, h, rfl, rfl, rfl, rfl, rfl, rfl, rfl, rfl, rfl, rfl, rfl, rfl, rfl, rfl, rfl, rfl, rfl, rfl, rfl, rfl, rfl, rfl, rfl, rfl, rfl, rfl, rfl, rfl, rfl, rfl⟩⟩
theorem DoC.ext {M M' : WM} {a0 : Int} {b0 : Int} {c0 : Int} {a1 : Int} {b1 : Int} {c1 : Int} {o0 o1 o2 : Int} (h : DoC M a0 b0 c0 a1 b1 c1 o0 o1 o2 M') : Ext M M' := by
  rcases h with ⟨B, R01, P00, P01, P10, P11, A01, O01, A10, O10, E, hn, eB, eR01, eP00, eP01, eP10, eP11, eA01, eO01, eA10, eO10, eE, rfl, rfl, rfl, rfl⟩ | ⟨B, R01, R02, R12, P00, P01, P02, P10, P11, P12, P20, P21, P22, A01, O01, A02, O02, A10, O10, A12, O12, A20, O20, A21, O21, E, hn, eB, eR01, eR02, eR12, eP00, eP01, eP02, eP10, eP11, eP12, eP20, eP21, eP22, eA01, eO01, eA02, eO02, eA10, eO10, eA12, eO12, eA20, eO20, eA21, eO21, eE, rfl, rfl, rfl, rfl⟩
  · exact (((((((((((B_vext eB).trans (D_vext eR01)).trans (D_vext eP00)).trans (D_vext eP01)).trans (D_vext eP10)).trans (D_vext eP11)).trans (D_vext eA01)).trans (D_vext eO01)).trans (D_vext eA10)).trans (D_vext eO10)).trans (E_vext eE))
  · exact ((((((((((((((((((((((((((B_vext eB).trans (D_vext eR01)).trans (D_vext eR02)).trans (D_vext eR12)).trans (D_vext eP00)).trans (D_vext eP01)).trans (D_vext eP02)).trans (D_vext eP10)).trans (D_vext eP11)).trans (D_vext eP12)).trans (D_vext eP20)).trans (D_vext eP21)).trans (D_vext eP22)).trans (D_vext eA01)).trans (D_vext eO01)).trans (D_vext eA02)).trans (D_vext eO02)).trans (D_vext eA10)).trans (D_vext eO10)).trans (D_vext eA12)).trans (D_vext eO12)).trans (D_vext eA20)).trans (D_vext eO20)).trans (D_vext eA21)).trans (D_vext eO21)).trans (E_vext eE))
theorem DoC.c {M M' : WM} {a0 : Int} {b0 : Int} {c0 : Int} {a1 : Int} {b1 : Int} {c1 : Int} {o0 o1 o2 : Int} (h : DoC M a0 b0 c0 a1 b1 c1 o0 o1 o2 M') (hn' : M'.m.n = 2) : o2 = -1 := by
  have hm := h.ext.n
  rcases h with ⟨B, R01, P00, P01, P10, P11, A01, O01, A10, O10, E, hn, eB, eR01, eP00, eP01, eP10, eP11, eA01, eO01, eA10, eO10, eE, rfl, rfl, rfl, rfl⟩ | ⟨B, R01, R02, R12, P00, P01, P02, P10, P11, P12, P20, P21, P22, A01, O01, A02, O02, A10, O10, A12, O12, A20, O20, A21, O21, E, hn, eB, eR01, eR02, eR12, eP00, eP01, eP02, eP10, eP11, eP12, eP20, eP21, eP22, eA01, eO01, eA02, eO02, eA10, eO10, eA12, eO12, eA20, eO20, eA21, eO21, eE, rfl, rfl, rfl, rfl⟩
  · rfl
  · omega
set_option maxHeartbeats 4000000 in
theorem DoC.p {k : Nat} (hk : 90 ≤ k) {M M' : WM} {a0 : Int} {b0 : Int} {c0 : Int} {a1 : Int} {b1 : Int} {c1 : Int} {o0 o1 o2 : Int} (h : DoC M a0 b0 c0 a1 b1 c1 o0 o1 o2 M') : times_Dom.m k M.m [ci a0, ci b0, ci c0] [ci a1, ci b1, ci c1] = some ([ci o0, ci o1, ci o2], M'.m) := by
  rcases h with ⟨B, R01, P00, P01, P10, P11, A01, O01, A10, O10, E, hn, eB, eR01, eP00, eP01, eP10, eP11, eA01, eO01, eA10, eO10, eE, rfl, rfl, rfl, rfl⟩ | ⟨B, R01, R02, R12, P00, P01, P02, P10, P11, P12, P20, P21, P22, A01, O01, A02, O02, A10, O10, A12, O12, A20, O20, A21, O21, E, hn, eB, eR01, eR02, eR12, eP00, eP01, eP02, eP10, eP11, eP12, eP20, eP21, eP22, eA01, eO01, eA02, eO02, eA10, eO10, eA12, eO12, eA20, eO20, eA21, eO21, eE, rfl, rfl, rfl, rfl⟩
  · skip
    have hm : M.m.n ≠ 3 := by omega
    have nB : B.m.n = 2 := (B_vext eB).n.trans hn
    have mB : B.m.n ≠ 3 := by omega
    have nR01 : R01.2.m.n = 2 := (D_vext eR01).n.trans nB
    have mR01 : R01.2.m.n ≠ 3 := by omega
    have nP00 : P00.2.m.n = 2 := (D_vext eP00).n.trans nR01
    have mP00 : P00.2.m.n ≠ 3 := by omega
    have nP01 : P01.2.m.n = 2 := (D_vext eP01).n.trans nP00
    have mP01 : P01.2.m.n ≠ 3 := by omega
    have nP10 : P10.2.m.n = 2 := (D_vext eP10).n.trans nP01
    have mP10 : P10.2.m.n ≠ 3 := by omega
    have nP11 : P11.2.m.n = 2 := (D_vext eP11).n.trans nP10
    have mP11 : P11.2.m.n ≠ 3 := by omega
    have nA01 : A01.2.m.n = 2 := (D_vext eA01).n.trans nP11
    have mA01 : A01.2.m.n ≠ 3 := by omega
    have nO01 : O01.2.m.n = 2 := (D_vext eO01).n.trans nA01
    have mO01 : O01.2.m.n ≠ 3 := by omega
    have nA10 : A10.2.m.n = 2 := (D_vext eA10).n.trans nO01
    have mA10 : A10.2.m.n ≠ 3 := by omega
    have nO10 : O10.2.m.n = 2 := (D_vext eO10).n.trans nA10
    have mO10 : O10.2.m.n ≠ 3 := by omega
    unfold times_Dom.m
    repeat (first
      | with_reducible refine bstep (N_v (by assumption)) ?_
      | with_reducible refine bstep (Begin_v (by assumption)) ?_
      | with_reducible refine bstep (Two_v (by assumption) (by omega)) ?_
      | with_reducible refine bstep (Rand_v (by assumption) (by omega)) ?_
      | with_reducible refine bstep (End_v (by assumption)) ?_
      | ((with_reducible refine iteP ?_ ?_); · first | exact rfl | exact Nat.le_of_ble_eq_true rfl | decide)
      | ((with_reducible refine bifT ?_ ?_); · first | decide | exact beqT (by assumption) | exact ltT (by assumption) (by decide) | exact bneT (by assumption))
      | ((with_reducible refine bifF ?_ ?_); · first | decide | exact beqN (by assumption) | exact ltF (by assumption) (by decide) | exact bneN (by assumption))
      | ((with_reducible apply bstep); · exact rfl)
      | dsimp only)
    first | done | exact rfl
  · skip
    have hm : M.m.n ≠ 2 := by omega
    have nB : B.m.n = 3 := (B_vext eB).n.trans hn
    have mB : B.m.n ≠ 2 := by omega
    have nR01 : R01.2.m.n = 3 := (D_vext eR01).n.trans nB
    have mR01 : R01.2.m.n ≠ 2 := by omega
    have nR02 : R02.2.m.n = 3 := (D_vext eR02).n.trans nR01
    have mR02 : R02.2.m.n ≠ 2 := by omega
    have nR12 : R12.2.m.n = 3 := (D_vext eR12).n.trans nR02
    have mR12 : R12.2.m.n ≠ 2 := by omega
    have nP00 : P00.2.m.n = 3 := (D_vext eP00).n.trans nR12
    have mP00 : P00.2.m.n ≠ 2 := by omega
    have nP01 : P01.2.m.n = 3 := (D_vext eP01).n.trans nP00
    have mP01 : P01.2.m.n ≠ 2 := by omega
    have nP02 : P02.2.m.n = 3 := (D_vext eP02).n.trans nP01
    have mP02 : P02.2.m.n ≠ 2 := by omega
    have nP10 : P10.2.m.n = 3 := (D_vext eP10).n.trans nP02
    have mP10 : P10.2.m.n ≠ 2 := by omega
    have nP11 : P11.2.m.n = 3 := (D_vext eP11).n.trans nP10
    have mP11 : P11.2.m.n ≠ 2 := by omega
    have nP12 : P12.2.m.n = 3 := (D_vext eP12).n.trans nP11
    have mP12 : P12.2.m.n ≠ 2 := by omega
    have nP20 : P20.2.m.n = 3 := (D_vext eP20).n.trans nP12
    have mP20 : P20.2.m.n ≠ 2 := by omega
    have nP21 : P21.2.m.n = 3 := (D_vext eP21).n.trans nP20
    have mP21 : P21.2.m.n ≠ 2 := by omega
    have nP22 : P22.2.m.n = 3 := (D_vext eP22).n.trans nP21
    have mP22 : P22.2.m.n ≠ 2 := by omega
    have nA01 : A01.2.m.n = 3 := (D_vext eA01).n.trans nP22
    have mA01 : A01.2.m.n ≠ 2 := by omega
    have nO01 : O01.2.m.n = 3 := (D_vext eO01).n.trans nA01
    have mO01 : O01.2.m.n ≠ 2 := by omega
    have nA02 : A02.2.m.n = 3 := (D_vext eA02).n.trans nO01
    have mA02 : A02.2.m.n ≠ 2 := by omega
    have nO02 : O02.2.m.n = 3 := (D_vext eO02).n.trans nA02
    have mO02 : O02.2.m.n ≠ 2 := by omega
    have nA10 : A10.2.m.n = 3 := (D_vext eA10).n.trans nO02
    have mA10 : A10.2.m.n ≠ 2 := by omega
    have nO10 : O10.2.m.n = 3 := (D_vext eO10).n.trans nA10
    have mO10 : O10.2.m.n ≠ 2 := by omega
    have nA12 : A12.2.m.n = 3 := (D_vext eA12).n.trans nO10
    have mA12 : A12.2.m.n ≠ 2 := by omega
    have nO12 : O12.2.m.n = 3 := (D_vext eO12).n.trans nA12
    have mO12 : O12.2.m.n ≠ 2 := by omega
    have nA20 : A20.2.m.n = 3 := (D_vext eA20).n.trans nO12
    have mA20 : A20.2.m.n ≠ 2 := by omega
    have nO20 : O20.2.m.n = 3 := (D_vext eO20).n.trans nA20
    have mO20 : O20.2.m.n ≠ 2 := by omega
    have nA21 : A21.2.m.n = 3 := (D_vext eA21).n.trans nO20
    have mA21 : A21.2.m.n ≠ 2 := by omega
    have nO21 : O21.2.m.n = 3 := (D_vext eO21).n.trans nA21
    have mO21 : O21.2.m.n ≠ 2 := by omega
    unfold times_Dom.m
    repeat (first
      | with_reducible refine bstep (N_v (by assumption)) ?_
      | with_reducible refine bstep (Begin_v (by assumption)) ?_
      | with_reducible refine bstep (Two_v (by assumption) (by omega)) ?_
      | with_reducible refine bstep (Rand_v (by assumption) (by omega)) ?_
      | with_reducible refine bstep (End_v (by assumption)) ?_
      | ((with_reducible refine iteP ?_ ?_); · first | exact rfl | exact Nat.le_of_ble_eq_true rfl | decide)
      | ((with_reducible refine bifT ?_ ?_); · first | decide | exact beqT (by assumption) | exact ltT (by assumption) (by decide) | exact bneT (by assumption))
      | ((with_reducible refine bifF ?_ ?_); · first | decide | exact beqN (by assumption) | exact ltF (by assumption) (by decide) | exact bneN (by assumption))
      | ((with_reducible apply bstep); · exact rfl)
      | dsimp only)
    first | done | exact rfl
theorem DoC.s {M M' F : WM} {a0 : Int} {b0 : Int} {c0 : Int} {a1 : Int} {b1 : Int} {c1 : Int} {o0 o1 o2 : Int} (h : DoC M a0 b0 c0 a1 b1 c1 o0 o1 o2 M') (x : Ext M' F) (hF : F.m.bad = 0) {z0 z1 : BitVec 64} (s0 : Stands F a0 b0 c0 z0) (s1 : Stands F a1 b1 c1 z1) : Stands F o0 o1 o2 (z0 &&& z1) := by
  rcases h with ⟨B, R01, P00, P01, P10, P11, A01, O01, A10, O10, E, hn, eB, eR01, eP00, eP01, eP10, eP11, eA01, eO01, eA10, eO10, eE, rfl, rfl, rfl, rfl⟩ | ⟨B, R01, R02, R12, P00, P01, P02, P10, P11, P12, P20, P21, P22, A01, O01, A02, O02, A10, O10, A12, O12, A20, O20, A21, O21, E, hn, eB, eR01, eR02, eR12, eP00, eP01, eP02, eP10, eP11, eP12, eP20, eP21, eP22, eA01, eO01, eA02, eO02, eA10, eO10, eA12, eO12, eA20, eO20, eA21, eO21, eE, rfl, rfl, rfl, rfl⟩
  · have x11 := x
    have x10 := (E_vext eE).trans x11
    have x9 := (D_vext eO10).trans x10
    have x8 := (D_vext eA10).trans x9
    have x7 := (D_vext eO01).trans x8
    have x6 := (D_vext eA01).trans x7
    have x5 := (D_vext eP11).trans x6
    have x4 := (D_vext eP10).trans x5
    have x3 := (D_vext eP01).trans x4
    have x2 := (D_vext eP00).trans x3
    have x1 := (D_vext eR01).trans x2
    have x0 := (B_vext eB).trans x1
    have nF : F.m.n = 2 := x0.n.trans hn
    obtain ⟨_, hc0, p0, q0, vp0, vq0, rfl⟩ : F.m.n = 2 ∧ _ := by
      rcases s0 with h | h
      · exact h
      · exact absurd h.1 (by omega)
    obtain ⟨_, hc1, p1, q1, vp1, vq1, rfl⟩ : F.m.n = 2 ∧ _ := by
      rcases s1 with h | h
      · exact h
      · exact absurd h.1 (by omega)
    obtain ⟨zR01, vR01⟩ := F_rand eR01 x2 hF
    have vP00 := F_and eP00 x3 hF vp0 vp1
    have vP01 := F_and eP01 x4 hF vp0 vq1
    have vP10 := F_and eP10 x5 hF vq0 vp1
    have vP11 := F_and eP11 x6 hF vq0 vq1
    have vA01 := F_xor eA01 x7 hF vP01 vR01
    have vO01 := F_xor eO01 x8 hF vP00 vA01
    have vA10 := F_xor eA10 x9 hF vP10 vR01
    have vO10 := F_xor eO10 x10 hF vP11 vA10
    refine .inl ⟨nF, rfl, _, _, vO01, vO10, ?_⟩
    apply BitVec.eq_of_getLsbD_eq; intro i hi
    simp only [BitVec.getLsbD_xor, BitVec.getLsbD_and]
    generalize BitVec.getLsbD p0 i = yp0
    generalize BitVec.getLsbD q0 i = yq0
    generalize BitVec.getLsbD p1 i = yp1
    generalize BitVec.getLsbD q1 i = yq1
    generalize BitVec.getLsbD zR01 i = yzR01
    revert yp0 yq0 yp1 yq1 yzR01
    decide
  · have x26 := x
    have x25 := (E_vext eE).trans x26
    have x24 := (D_vext eO21).trans x25
    have x23 := (D_vext eA21).trans x24
    have x22 := (D_vext eO20).trans x23
    have x21 := (D_vext eA20).trans x22
    have x20 := (D_vext eO12).trans x21
    have x19 := (D_vext eA12).trans x20
    have x18 := (D_vext eO10).trans x19
    have x17 := (D_vext eA10).trans x18
    have x16 := (D_vext eO02).trans x17
    have x15 := (D_vext eA02).trans x16
    have x14 := (D_vext eO01).trans x15
    have x13 := (D_vext eA01).trans x14
    have x12 := (D_vext eP22).trans x13
    have x11 := (D_vext eP21).trans x12
    have x10 := (D_vext eP20).trans x11
    have x9 := (D_vext eP12).trans x10
    have x8 := (D_vext eP11).trans x9
    have x7 := (D_vext eP10).trans x8
    have x6 := (D_vext eP02).trans x7
    have x5 := (D_vext eP01).trans x6
    have x4 := (D_vext eP00).trans x5
    have x3 := (D_vext eR12).trans x4
    have x2 := (D_vext eR02).trans x3
    have x1 := (D_vext eR01).trans x2
    have x0 := (B_vext eB).trans x1
    have nF : F.m.n = 3 := x0.n.trans hn
    obtain ⟨_, p0, q0, r0, vp0, vq0, vr0, rfl⟩ : F.m.n = 3 ∧ _ := by
      rcases s0 with h | h
      · exact absurd h.1 (by omega)
      · exact h
    obtain ⟨_, p1, q1, r1, vp1, vq1, vr1, rfl⟩ : F.m.n = 3 ∧ _ := by
      rcases s1 with h | h
      · exact absurd h.1 (by omega)
      · exact h
    obtain ⟨zR01, vR01⟩ := F_rand eR01 x2 hF
    obtain ⟨zR02, vR02⟩ := F_rand eR02 x3 hF
    obtain ⟨zR12, vR12⟩ := F_rand eR12 x4 hF
    have vP00 := F_and eP00 x5 hF vp0 vp1
    have vP01 := F_and eP01 x6 hF vp0 vq1
    have vP02 := F_and eP02 x7 hF vp0 vr1
    have vP10 := F_and eP10 x8 hF vq0 vp1
    have vP11 := F_and eP11 x9 hF vq0 vq1
    have vP12 := F_and eP12 x10 hF vq0 vr1
    have vP20 := F_and eP20 x11 hF vr0 vp1
    have vP21 := F_and eP21 x12 hF vr0 vq1
    have vP22 := F_and eP22 x13 hF vr0 vr1
    have vA01 := F_xor eA01 x14 hF vP01 vR01
    have vO01 := F_xor eO01 x15 hF vP00 vA01
    have vA02 := F_xor eA02 x16 hF vP02 vR02
    have vO02 := F_xor eO02 x17 hF vO01 vA02
    have vA10 := F_xor eA10 x18 hF vP10 vR01
    have vO10 := F_xor eO10 x19 hF vP11 vA10
    have vA12 := F_xor eA12 x20 hF vP12 vR12
    have vO12 := F_xor eO12 x21 hF vO10 vA12
    have vA20 := F_xor eA20 x22 hF vP20 vR02
    have vO20 := F_xor eO20 x23 hF vP22 vA20
    have vA21 := F_xor eA21 x24 hF vP21 vR12
    have vO21 := F_xor eO21 x25 hF vO20 vA21
    refine .inr ⟨nF, _, _, _, vO02, vO12, vO21, ?_⟩
    apply BitVec.eq_of_getLsbD_eq; intro i hi
    simp only [BitVec.getLsbD_xor, BitVec.getLsbD_and]
    generalize BitVec.getLsbD p0 i = yp0
    generalize BitVec.getLsbD q0 i = yq0
    generalize BitVec.getLsbD r0 i = yr0
    generalize BitVec.getLsbD p1 i = yp1
    generalize BitVec.getLsbD q1 i = yq1
    generalize BitVec.getLsbD r1 i = yr1
    generalize BitVec.getLsbD zR01 i = yzR01
    generalize BitVec.getLsbD zR02 i = yzR02
    generalize BitVec.getLsbD zR12 i = yzR12
    revert yp0 yq0 yr0 yp1 yq1 yr1 yzR01 yzR02 yzR12
    decide
theorem By_Do {k : Nat} (hk : 90 ≤ k) {M M' : WM} {a0 b0 c0 a1 b1 c1 o0 o1 o2 : Int} (h : DoC M a0 b0 c0 a1 b1 c1 o0 o1 o2 M') : times_By.m k M.m 2 [ci a0, ci b0, ci c0] [ci a1, ci b1, ci c1] = some ([ci o0, ci o1, ci o2], M'.m) := by
  unfold times_By.m
  rw [show ((2 : Int) == 2) = true from rfl, cond_true, if_pos (by rfl), if_pos (by rfl), h.p hk, Option.bind_some, if_pos (by rfl)]
/-! Opening a word: what both machines answer. -/
theorem D_neg {M : WM} {X : Int × WM} {o : Tapi_Op} {x : Int} (e : X = M.D o x) (hb : X.2.m.bad ≠ 0) : X.1 = -1 := by
  subst e; revert hb
  show (doM M.m o x).2.bad ≠ 0 → (doM M.m o x).1 = -1
  have hd := M.w.dry
  unfold doM
  repeat' split
  · intro _; rfl
  · intro _; rfl
  · intro _; rfl
  · intro _; rfl
  · rename_i h _ _ _ _
    rw [pushM_wet (m := drawnM M.m) hd]; exact fun hb => absurd hb h
  · rename_i h _ _ _
    rw [pushM_wet hd]; exact fun hb => absurd hb h
def opened (X : Int × WM) : Int := if X.2.m.bad = 0 then atI X.2.m.values X.1 else 0
theorem D_reg {M : WM} {X : Int × WM} {o : Tapi_Op} {x : Int} (e : X = M.D o x) (hb : X.2.m.bad = 0) : ∃ z, Val X.2 X.1 z := by
  obtain ⟨z, _, hv⟩ := D_at e (.refl _) hb
  exact ⟨_, hv⟩
theorem Open_t {k : Nat} (hk : 4 ≤ k) {M : WM} {X : Int × WM} {a b c : Int} (e : X = M.D ⟨12, -1, a, b, c, 0⟩ 0) : wire_Machine_Open.m k M.m a b c = some (opened X, X.2.m) := by
  unfold wire_Machine_Open.m opened
  rw [Do_v e hk isW_zero isW_zero, Option.bind_some]
  by_cases hb : X.2.m.bad = 0
  · obtain ⟨z, hv⟩ := D_reg e hb
    rw [decide_eq_false (show ¬ X.1 < 0 by have := hv.1; omega), cond_false, show X.2.m.dry = false from X.2.w.dry, cond_false, if_pos hv.1, hv.2, Option.bind_some, if_pos hb, hv.at]
  · rw [if_neg hb, show decide (X.1 < 0) = true by rw [D_neg e hb]; rfl, cond_true]
/-! Traces: both looks at a trace are one question; how many ops of each kind there are; runs. -/
def ordB (len : Int) : Int → List Tapi_Span → Bool
  | _, [] => true
  | last, b :: l => !((((decide (b.kind < 1) || decide (b.kind > 3)) || decide (b.fromF < last)) || decide (b.to ≤ b.fromF)) || decide (b.to > len)) && ordB len b.to l
theorem ordB_cons (len last : Int) (b : Tapi_Span) (l : List Tapi_Span) : ordB len last (b :: l) = (!((((decide (b.kind < 1) || decide (b.kind > 3)) || decide (b.fromF < last)) || decide (b.to ≤ b.fromF)) || decide (b.to > len)) && ordB len b.to l) := rfl
def opsB (n : Int) : Nat → Nat → List Tapi_Op → Bool
  | _, _, [] => true
  | i, w, o :: l => Rt o (i : Int) n && ((o.kind != 2 || o.c == (w : Int)) && opsB n (i + 1) (if o.kind = 2 then w + 1 else w) l)
def trB (t : Tapi_Trace) : Bool := (((t.n == 2) || (t.n == 3)) && decide (t.ops.length ≤ 1048576)) && (ordB (t.ops.length : Int) 0 t.blocks && opsB t.n 0 0 t.ops)
theorem wrapS {x : Int} (h0 : -9223372036854775808 ≤ x) (h1 : x ≤ 9223372036854775807) : IntKind.i64.wrap x = x := wrap_i64_of (by omega) (by omega)
theorem wrapN {i : Nat} (h : i < 4611686018427387904) : IntKind.i64.wrap ((i : Int) + 1) = ((i + 1 : Nat) : Int) := by rw [wrapS (by omega) (by omega)]; omega
theorem drop_cons {α : Type} {l : List α} {i : Nat} (h : i < l.length) : l.drop i = l[i] :: l.drop (i + 1) := List.drop_eq_getElem_cons h
theorem ordered_l {t : Tapi_Trace} (hb : t.blocks.length < 4611686018427387904) : ∀ (d i k : Nat) (last : Int), i + d = t.blocks.length → d < k → trace_ordered.l1 t k last (i : Int) = some (if ordB (t.ops.length : Int) last (t.blocks.drop i) = true then .inr () else .inl false)
  | 0, i, k, last, hi, hk => by
    obtain ⟨k, rfl⟩ : ∃ j, k = j + 1 := ⟨k - 1, by omega⟩
    unfold trace_ordered.l1
    rw [decide_eq_false (by omega), cond_false, List.drop_of_length_le (by omega)]; rfl
  | d + 1, i, k, last, hi, hk => by
    obtain ⟨k, rfl⟩ : ∃ j, k = j + 1 := ⟨k - 1, by omega⟩
    have hlt : i < t.blocks.length := by omega
    have ih := ordered_l hb d (i + 1) k t.blocks[i].to (by omega) (by omega)
    unfold trace_ordered.l1
    rw [decide_eq_true (by omega), cond_true, if_pos (by omega), Int.toNat_natCast, List.getElem?_eq_getElem hlt, Option.bind_some, wrapN (by omega), ih, drop_cons hlt, ordB_cons]
    show (bif ((((decide (t.blocks[i].kind < 1) || decide (t.blocks[i].kind > 3)) || decide (t.blocks[i].fromF < last)) || decide (t.blocks[i].to ≤ t.blocks[i].fromF)) || decide (t.blocks[i].to > ((t.ops.length : Nat) : Int))) then _ else _) = _
    cases ((((decide (t.blocks[i].kind < 1) || decide (t.blocks[i].kind > 3)) || decide (t.blocks[i].fromF < last)) || decide (t.blocks[i].to ≤ t.blocks[i].fromF)) || decide (t.blocks[i].to > ((t.ops.length : Nat) : Int)))
    · rfl
    · rfl
theorem rOrd_l {t : Tapi_Trace} (hb : t.blocks.length < 4611686018427387904) : ∀ (d i k : Nat) (last : Int), i + d = t.blocks.length → d < k → visorref18_Right.l2 t k last (i : Int) = some (if ordB (t.ops.length : Int) last (t.blocks.drop i) = true then .inr () else .inl false)
  | 0, i, k, last, hi, hk => by
    obtain ⟨k, rfl⟩ : ∃ j, k = j + 1 := ⟨k - 1, by omega⟩
    unfold visorref18_Right.l2
    rw [decide_eq_false (by omega), cond_false, List.drop_of_length_le (by omega)]; rfl
  | d + 1, i, k, last, hi, hk => by
    obtain ⟨k, rfl⟩ : ∃ j, k = j + 1 := ⟨k - 1, by omega⟩
    have hlt : i < t.blocks.length := by omega
    have ih := rOrd_l hb d (i + 1) k t.blocks[i].to (by omega) (by omega)
    unfold visorref18_Right.l2
    rw [decide_eq_true (by omega), cond_true, if_pos (by omega), Int.toNat_natCast, List.getElem?_eq_getElem hlt, Option.bind_some, wrapN (by omega), ih, drop_cons hlt, ordB_cons]
    cases ((((decide (t.blocks[i].kind < 1) || decide (t.blocks[i].kind > 3)) || decide (t.blocks[i].fromF < last)) || decide (t.blocks[i].to ≤ t.blocks[i].fromF)) || decide (t.blocks[i].to > ((t.ops.length : Nat) : Int)))
    · rfl
    · rfl
theorem wrapU {w : Nat} (h : w < 4611686018427387904) : IntKind.u64.wrap ((w : Int) + 1) = ((w + 1 : Nat) : Int) := by rw [wrap_u64_of (by omega) (by omega)]; omega
theorem check_l {t : Tapi_Trace} (hn : t.n = 2 ∨ t.n = 3) (hlen : t.ops.length ≤ 1048576) : ∀ (d i k w : Nat), i + d = t.ops.length → d + 5 ≤ k → w ≤ i → trace_Check.l1 t k (w : Int) (i : Int) = some (if opsB t.n i w (t.ops.drop i) = true then .inr () else .inl 4)
  | 0, i, k, w, hi, hk, _ => by
    obtain ⟨k, rfl⟩ : ∃ j, k = j + 1 := ⟨k - 1, by omega⟩
    unfold trace_Check.l1
    rw [decide_eq_false (by omega), cond_false, List.drop_of_length_le (by omega)]; rfl
  | d + 1, i, k, w, hi, hk, hw => by
    obtain ⟨k, rfl⟩ : ∃ j, k = j + 4 + 1 := ⟨k - 5, by omega⟩
    have hlt : i < t.ops.length := by omega
    have ih0 := check_l hn hlen d (i + 1) (k + 4) w (by omega) (by omega) (by omega)
    have ih1 := check_l hn hlen d (i + 1) (k + 4) (w + 1) (by omega) (by omega) (by omega)
    unfold trace_Check.l1
    rw [decide_eq_true (by omega), cond_true, if_pos (by omega), Int.toNat_natCast, List.getElem?_eq_getElem hlt, Option.bind_some, op_Right_m _ _ _ _ hn, Option.bind_some, drop_cons hlt]
    unfold opsB trace_Check.j2
    generalize t.ops[i] = o
    cases Rt o (i : Int) t.n
    · rfl
    · rw [Bool.not_true, cond_false, Bool.true_and, wrapN (by omega)]
      by_cases k2 : o.kind = 2
      · rw [show (o.kind != 2) = false by simp [k2], cond_false, Bool.false_or, if_pos k2]
        by_cases hc : o.c = (w : Int)
        · rw [show (o.c != (w : Int)) = false by simp [hc], cond_false, show (o.c == (w : Int)) = true by simp [hc], Bool.true_and, wrapU (by omega), ih1]
        · rw [show (o.c != (w : Int)) = true by simp [hc], cond_true, beqF hc, Bool.false_and]; rfl
      · rw [show (o.kind != 2) = true by simp [k2], cond_true, Bool.true_or, if_neg k2, Bool.true_and, ih0]
theorem rRight_l {t : Tapi_Trace} (hn : t.n = 2 ∨ t.n = 3) (hlen : t.ops.length ≤ 1048576) : ∀ (d i k w : Nat), i + d = t.ops.length → d + 5 ≤ k → w ≤ i → visorref18_Right.l1 t k (w : Int) (i : Int) = some (if opsB t.n i w (t.ops.drop i) = true then .inr () else .inl false)
  | 0, i, k, w, hi, hk, _ => by
    obtain ⟨k, rfl⟩ : ∃ j, k = j + 1 := ⟨k - 1, by omega⟩
    unfold visorref18_Right.l1
    rw [decide_eq_false (by omega), cond_false, List.drop_of_length_le (by omega)]; rfl
  | d + 1, i, k, w, hi, hk, hw => by
    obtain ⟨k, rfl⟩ : ∃ j, k = j + 4 + 1 := ⟨k - 5, by omega⟩
    have hlt : i < t.ops.length := by omega
    have ih0 := rRight_l hn hlen d (i + 1) (k + 4) w (by omega) (by omega) (by omega)
    have ih1 := rRight_l hn hlen d (i + 1) (k + 4) (w + 1) (by omega) (by omega) (by omega)
    unfold visorref18_Right.l1
    rw [decide_eq_true (by omega), cond_true, if_pos (by omega), Int.toNat_natCast, List.getElem?_eq_getElem hlt, Option.bind_some, ref_Right_m _ _ _ _ hn, Option.bind_some, drop_cons hlt]
    unfold opsB visorref18_Right.j1
    generalize t.ops[i] = o
    cases Rt o (i : Int) t.n
    · rfl
    · rw [Bool.not_true, cond_false, Bool.true_and, if_pos (by omega), Option.bind_some, wrapN (by omega)]
      by_cases k2 : o.kind = 2
      · rw [show (o.kind == 2) = true by simp [k2], cond_true, if_pos (by omega), Option.bind_some, show (o.kind != 2) = false by simp [k2], Bool.false_or, if_pos k2]
        by_cases hc : o.c = (w : Int)
        · rw [show (o.c != (w : Int)) = false by simp [hc], cond_false, show (o.c == (w : Int)) = true by simp [hc], Bool.true_and, wrapU (by omega), ih1]
        · rw [show (o.c != (w : Int)) = true by simp [hc], cond_true, beqF hc, Bool.false_and]; rfl
      · rw [beqF k2, cond_false, show (o.kind != 2) = true by simp [k2], Bool.true_or, if_neg k2, Bool.true_and, ih0]
theorem nOk (n : Int) : ((n != 2) && (n != 3)) = !((n == 2) || (n == 3)) := by simp [bne]
theorem Check_m {t : Tapi_Trace} (hb : t.blocks.length < 4611686018427387904) {k : Nat} (hk : t.ops.length + t.blocks.length + 5 ≤ k) : trace_Check.m k t = some (if trB t = true then 0 else 4) := by
  unfold trace_Check.m trace_Check.j1 trB
  rw [nOk]
  by_cases hn : t.n = 2 ∨ t.n = 3
  · have e : ((t.n == 2) || (t.n == 3)) = true := by rcases hn with e | e <;> simp [e]
    rw [e, Bool.not_true, Bool.false_or, Bool.true_and]
    by_cases hl : t.ops.length ≤ 1048576
    · rw [decide_eq_false (by omega), cond_false, decide_eq_true hl, Bool.true_and]
      have e1 := ordered_l hb t.blocks.length 0 k 0 (by omega) (by omega)
      have e2 := check_l hn hl t.ops.length 0 k 0 (by omega) (by omega) (by omega)
      rw [List.drop_zero] at e1 e2
      unfold trace_ordered.m
      rw [show (0 : Int) = ((0 : Nat) : Int) from rfl] at *
      rw [e1, Option.bind_some, e2]
      cases ordB ((t.ops.length : Nat) : Int) ((0 : Nat) : Int) t.blocks
      · rfl
      · cases opsB t.n 0 0 t.ops <;> rfl
    · rw [decide_eq_true (by omega), cond_true, decide_eq_false hl]; rfl
  · have e : ((t.n == 2) || (t.n == 3)) = false := by
      rw [Bool.or_eq_false_iff, beq_eq_false_iff_ne, beq_eq_false_iff_ne]; omega
    rw [e]; rfl
theorem rRight_m {t : Tapi_Trace} (hb : t.blocks.length < 4611686018427387904) {k : Nat} (hk : t.ops.length + t.blocks.length + 5 ≤ k) : visorref18_Right.m k t = some (trB t) := by
  unfold visorref18_Right.m trB
  rw [nOk]
  by_cases hn : t.n = 2 ∨ t.n = 3
  · have e : ((t.n == 2) || (t.n == 3)) = true := by rcases hn with e | e <;> simp [e]
    rw [e, Bool.not_true, Bool.false_or, Bool.true_and]
    by_cases hl : t.ops.length ≤ 1048576
    · rw [decide_eq_false (by omega), cond_false, decide_eq_true hl, Bool.true_and]
      have e1 := rOrd_l hb t.blocks.length 0 k 0 (by omega) (by omega)
      have e2 := rRight_l hn hl t.ops.length 0 k 0 (by omega) (by omega) (by omega)
      rw [List.drop_zero] at e1 e2
      rw [show (0 : Int) = ((0 : Nat) : Int) from rfl] at *
      rw [e2]
      cases opsB t.n 0 0 t.ops
      · simp
      · rw [if_pos rfl, Option.bind_some]
        dsimp only
        rw [e1]
        cases ordB ((t.ops.length : Nat) : Int) ((0 : Nat) : Int) t.blocks <;> rfl
    · rw [decide_eq_true (by omega), cond_true, decide_eq_false hl]; rfl
  · have e : ((t.n == 2) || (t.n == 3)) = false := by
      rw [Bool.or_eq_false_iff, beq_eq_false_iff_ne, beq_eq_false_iff_ne]; omega
    rw [e]; rfl
/-! tallies -/
def ix13 (kd : Int) : Nat := if kd < 1 ∨ 12 < kd then 0 else kd.toNat
def cs13 (f : Nat → Nat) : Cells := (List.range 13).map fun i => ci ((f i : Nat) : Int)
def bump (f : Nat → Nat) (j : Nat) : Nat → Nat := fun i => if i = j then f i + 1 else f i
theorem cs13_len (f : Nat → Nat) : (cs13 f).length = 13 := by simp [cs13]
theorem cs13_at (f : Nat → Nat) {j : Nat} (h : j < 13) : (cs13 f)[j]? = some (ci ((f j : Nat) : Int)) := by simp [cs13, h]
theorem cs13_get (f : Nat → Nat) {j : Nat} (h : j < 13) : getI .i64 (cs13 f) j = some ((f j : Nat) : Int) := by unfold getI; rw [cs13_at f h]; rfl
theorem cs13_set (f : Nat → Nat) {j : Nat} (h : j < 13) : (cs13 f).set j (ci ((f j + 1 : Nat) : Int)) = cs13 (bump f j) := by
  apply List.ext_getElem?
  intro i
  rw [List.getElem?_set, cs13_len]
  by_cases hi : i < 13
  · rw [cs13_at _ hi, cs13_at _ hi]
    unfold bump
    by_cases e : j = i
    · subst e; rw [if_pos rfl, if_pos h, if_pos rfl]
    · rw [if_neg e, if_neg (fun e' => e e'.symm)]
  · rw [if_neg (by omega), List.getElem?_eq_none (by rw [cs13_len]; omega), List.getElem?_eq_none (by rw [cs13_len]; omega)]
def talF : List Tapi_Op → (Nat → Nat) → Nat → Nat
  | [], f => f
  | o :: l, f => talF l (bump f (ix13 o.kind))
theorem talF_cnt (j : Nat) (hj : 0 < j ∧ j < 13) : ∀ (l : List Tapi_Op) (f : Nat → Nat), talF l f j = f j + cnt (j : Int) l
  | [], _ => rfl
  | o :: l, f => by
    unfold talF
    rw [talF_cnt j hj l]
    unfold bump cnt ix13
    rw [List.countP_cons]
    by_cases e : o.kind = (j : Int)
    · rw [if_neg (show ¬ (o.kind < 1 ∨ 12 < o.kind) by omega), if_pos (by omega), if_pos (by simp [e])]; omega
    · rw [if_neg (show ¬ j = _ by split <;> omega), if_neg (by simp [e])]; omega
theorem tally_l {t : Tapi_Trace} (hl : t.ops.length < 4611686018427387904) : ∀ (d i k : Nat) (f : Nat → Nat), (∀ j, f j ≤ i) → i + d = t.ops.length → d < k → trace_Tally.l1 t k (cs13 f) (i : Int) = some (cs13 (talF (t.ops.drop i) f))
  | 0, i, k, f, _, hi, hk => by
    obtain ⟨k, rfl⟩ : ∃ j, k = j + 1 := ⟨k - 1, by omega⟩
    unfold trace_Tally.l1
    rw [decide_eq_false (by omega), cond_false, List.drop_of_length_le (by omega)]; rfl
  | d + 1, i, k, f, hf, hi, hk => by
    obtain ⟨k, rfl⟩ : ∃ j, k = j + 1 := ⟨k - 1, by omega⟩
    have hlt : i < t.ops.length := by omega
    have hb : ∀ j q, bump f q j ≤ i + 1 := fun j q => by have := hf j; unfold bump; split <;> omega
    unfold trace_Tally.l1
    rw [decide_eq_true (by omega), cond_true, if_pos (by omega), Int.toNat_natCast, List.getElem?_eq_getElem hlt, Option.bind_some, drop_cons hlt]
    generalize t.ops[i] = o
    unfold trace_Tally.j1 talF ix13
    by_cases h : o.kind < 1 ∨ 12 < o.kind
    · rw [show (decide (o.kind < 1) || decide (o.kind > 12)) = true by rw [Bool.or_eq_true, decide_eq_true_eq, decide_eq_true_eq]; omega, cond_true, cs13_get f (by omega), Option.bind_some, if_pos (by rw [cs13_len]; omega), wrapN (by have := hf 0; omega), cs13_set f (by omega), wrapN (by omega), if_pos h]
      exact tally_l hl d (i + 1) k _ (fun j => hb j 0) (by omega) (by omega)
    · obtain ⟨j, hj⟩ : ∃ j : Nat, o.kind = (j : Int) := ⟨o.kind.toNat, by omega⟩
      have hj13 : 1 ≤ j ∧ j < 13 := by omega
      rw [if_neg h, hj]
      rw [show (decide ((j : Int) < 1) || decide ((j : Int) > 12)) = false by rw [Bool.or_eq_false_iff, decide_eq_false_iff_not, decide_eq_false_iff_not]; omega, cond_false, if_pos (by omega), show (0 + (j : Int).toNat * 1) = j by omega, cs13_get f (by omega), Option.bind_some, if_pos (by omega), if_pos (by rw [cs13_len]; omega), wrapN (by have := hf j; omega), cs13_set f (by omega), wrapN (by omega), Int.toNat_natCast]
      exact tally_l hl d (i + 1) k _ (fun q => hb q j) (by omega) (by omega)
theorem rTally_l {t : Tapi_Trace} (hl : t.ops.length < 4611686018427387904) : ∀ (d i k : Nat) (f : Nat → Nat), (∀ j, f j ≤ i) → i + d = t.ops.length → d < k → visorref18_Tally.l1 t k (cs13 f) (i : Int) = some (cs13 (talF (t.ops.drop i) f))
  | 0, i, k, f, _, hi, hk => by
    obtain ⟨k, rfl⟩ : ∃ j, k = j + 1 := ⟨k - 1, by omega⟩
    unfold visorref18_Tally.l1
    rw [decide_eq_false (by omega), cond_false, List.drop_of_length_le (by omega)]; rfl
  | d + 1, i, k, f, hf, hi, hk => by
    obtain ⟨k, rfl⟩ : ∃ j, k = j + 1 := ⟨k - 1, by omega⟩
    have hlt : i < t.ops.length := by omega
    have hb : ∀ j q, bump f q j ≤ i + 1 := fun j q => by have := hf j; unfold bump; split <;> omega
    have one : ∀ j : Nat, j < 13 → visorref18_Tally.j1 k (visorref18_Tally.l1 t k) (cs13 f) (i : Int) (j : Int) = some (cs13 (talF (t.ops.drop (i + 1)) (bump f j))) := by
      intro j hj
      unfold visorref18_Tally.j1
      rw [if_pos (by omega), show (0 + (j : Int).toNat * 1) = j by omega, cs13_get f hj, Option.bind_some, if_pos (by omega), if_pos (by rw [cs13_len]; omega), wrapN (by have := hf j; omega), cs13_set f hj, wrapN (by omega)]
      exact rTally_l hl d (i + 1) k _ (fun q => hb q j) (by omega) (by omega)
    unfold visorref18_Tally.l1
    rw [decide_eq_true (by omega), cond_true, if_pos (by omega), Int.toNat_natCast, List.getElem?_eq_getElem hlt, Option.bind_some, drop_cons hlt]
    generalize t.ops[i] = o
    unfold talF ix13
    by_cases h : o.kind < 1 ∨ 12 < o.kind
    · rw [show (decide (o.kind < 1) || decide (o.kind > 12)) = true by rw [Bool.or_eq_true, decide_eq_true_eq, decide_eq_true_eq]; omega, cond_true, if_pos h]
      exact one 0 (by omega)
    · obtain ⟨j, hj⟩ : ∃ j : Nat, o.kind = (j : Int) := ⟨o.kind.toNat, by omega⟩
      have hj13 : 1 ≤ j ∧ j < 13 := by omega
      rw [if_neg h, hj]
      rw [show (decide ((j : Int) < 1) || decide ((j : Int) > 12)) = false by rw [Bool.or_eq_false_iff, decide_eq_false_iff_not, decide_eq_false_iff_not]; omega, cond_false, Int.toNat_natCast]
      exact one j (by omega)
def tal (t : Tapi_Trace) : Nat → Nat := talF t.ops fun _ => 0
theorem tal_at (t : Tapi_Trace) (j : Nat) (hj : 0 < j ∧ j < 13) : tal t j = cnt (j : Int) t.ops := by unfold tal; rw [talF_cnt j hj]; omega
theorem cs13_0 : ([ci 0, ci 0, ci 0, ci 0, ci 0, ci 0, ci 0, ci 0, ci 0, ci 0, ci 0, ci 0, ci 0] : Cells) = cs13 fun _ => 0 := rfl
theorem Tally_m {t : Tapi_Trace} (hl : t.ops.length < 4611686018427387904) {k : Nat} (hk : t.ops.length < k) : trace_Tally.m k t = some (cs13 (tal t)) := by
  unfold trace_Tally.m tal
  have e := tally_l hl t.ops.length 0 k (fun _ => 0) (fun _ => Nat.le_refl _) (by omega) hk
  rw [List.drop_zero] at e
  rw [cs13_0, show (0 : Int) = ((0 : Nat) : Int) from rfl, e, Option.bind_some, if_pos (cs13_len _)]
theorem rTally_m {t : Tapi_Trace} (hl : t.ops.length < 4611686018427387904) {k : Nat} (hk : t.ops.length < k) : visorref18_Tally.m k t = some (cs13 (tal t)) := by
  unfold visorref18_Tally.m tal
  have e := rTally_l hl t.ops.length 0 k (fun _ => 0) (fun _ => Nat.le_refl _) (by omega) hk
  rw [List.drop_zero] at e
  rw [cs13_0, show (0 : Int) = ((0 : Nat) : Int) from rfl, e, Option.bind_some, if_pos (cs13_len _)]
theorem Words_m {t : Tapi_Trace} (hl : t.ops.length < 4611686018427387904) {k : Nat} (hk : t.ops.length < k) : trace_Words.m k t = some ((cnt 2 t.ops : Nat) : Int) := by
  unfold trace_Words.m
  rw [Tally_m hl hk, Option.bind_some, if_pos (by omega), cs13_get _ (by omega), Option.bind_some, tal_at t 2 (by omega)]; rfl
theorem Draws_m {t : Tapi_Trace} (hl : t.ops.length < 4611686018427387904) {k : Nat} (hk : t.ops.length < k) : trace_Draws.m k t = some ((cnt 1 t.ops : Nat) : Int) := by
  unfold trace_Draws.m
  rw [Tally_m hl hk, Option.bind_some, if_pos (by omega), cs13_get _ (by omega), Option.bind_some, tal_at t 1 (by omega)]; rfl
/-! runs -/
def outX (K M : List Int) (bl : Bool) (m : Nat) (e : Tapi_Op) : Int := if e.kind = 1 then M.getD m 0 else if e.kind = 2 ∧ bl = false then K.getD e.c.toNat 0 else 0
def newX (K M O : List Int) (bl : Bool) (m o : Nat) (v : List Int) (e : Tapi_Op) : Int := if e.kind = 12 ∧ bl = true then O.getD o 0 else evalI e (atI v e.a) (atI v e.b) (atI v e.d) (outX K M bl m e)
def stM (e : Tapi_Op) (m : Nat) : Nat := if e.kind = 1 then m + 1 else m
def stO (bl : Bool) (e : Tapi_Op) (o : Nat) : Nat := if e.kind = 12 ∧ bl = true then o + 1 else o
def runF (K M O : List Int) (bl : Bool) : Nat → Nat → List Int → List Tapi_Op → List Int
  | _, _, v, [] => v
  | m, o, v, e :: l => runF K M O bl (stM e m) (stO bl e o) (v ++ [newX K M O bl m o v e]) l
theorem runF_len (K M O : List Int) (bl : Bool) : ∀ (l : List Tapi_Op) (m o : Nat) (v : List Int), (runF K M O bl m o v l).length = v.length + l.length
  | [], _, _, _ => rfl
  | e :: l, m, o, v => by unfold runF; rw [runF_len K M O bl l, List.length_append, List.length_cons, List.length_cons, List.length_nil]; omega
def runOk (n : Int) (K M O : List Int) (bl : Bool) : Nat → Nat → Nat → List Tapi_Op → Prop
  | _, _, _, [] => True
  | i, m, o, e :: l => Rt e (i : Int) n = true ∧ IsW e.c ∧ (e.kind = 1 → m < M.length) ∧ (e.kind = 2 → bl = false → e.c.toNat < K.length) ∧ (e.kind = 12 → bl = true → o < O.length) ∧ runOk n K M O bl (i + 1) (stM e m) (stO bl e o) l
theorem cnt_cons (kd : Int) (o : Tapi_Op) (l : List Tapi_Op) : cnt kd (o :: l) = cnt kd l + (if o.kind = kd then 1 else 0) := by
  unfold cnt
  rw [List.countP_cons]
  by_cases h : o.kind = kd <;> simp [h]
theorem runOk_of {n : Int} {K M O : List Int} {bl : Bool} : ∀ (l : List Tapi_Op) (i w m o : Nat), opsB n i w l = true → (∀ e ∈ l, IsW e.c) → m + cnt 1 l ≤ M.length → (bl = false → w + cnt 2 l ≤ K.length) → (bl = true → o + cnt 12 l ≤ O.length) → runOk n K M O bl i m o l
  | [], _, _, _, _, _, _, _, _, _ => trivial
  | e :: l, i, w, m, o, h, hc, hm, hk, ho => by
    unfold opsB at h
    rw [Bool.and_eq_true, Bool.and_eq_true] at h
    obtain ⟨h1, h2, h3⟩ := h
    rw [cnt_cons] at hm hk ho
    refine ⟨h1, hc e (List.mem_cons_self ..), fun k1 => ?_, fun k2 hb => ?_, fun k3 hb => ?_, runOk_of l (i + 1) _ _ _ h3 (fun x hx => hc x (List.mem_cons_of_mem _ hx)) ?_ ?_ ?_⟩
    · rw [if_pos k1] at hm; omega
    · have := hk hb
      rw [if_pos k2] at this
      rw [Bool.or_eq_true, bne_iff_ne, beq_iff_eq] at h2
      have : e.c = (w : Int) := h2.resolve_left (fun h => h k2)
      rw [this, Int.toNat_natCast]; omega
    · have := ho hb
      rw [if_pos k3] at this; omega
    · unfold stM
      by_cases k1 : e.kind = 1
      · rw [if_pos k1] at hm ⊢; omega
      · rw [if_neg k1] at hm ⊢; omega
    · intro hb
      have := hk hb
      by_cases k2 : e.kind = 2
      · rw [if_pos k2] at this ⊢; omega
      · rw [if_neg k2] at this ⊢; omega
    · intro hb
      have := ho hb
      unfold stO
      by_cases k3 : e.kind = 12
      · rw [if_pos k3] at this; rw [if_pos ⟨k3, hb⟩]; omega
      · rw [if_neg k3] at this; rw [if_neg (fun h => k3 h.1)]; omega
theorem at_step {β : Type} {v : List Int} {r : Int} (h : r < 0 ∨ r < (v.length : Int)) (F : Int → Option β) : (bif decide (r < 0) then F 0 else (if 0 ≤ r then (v[r.toNat]?).bind F else none)) = F (atI v r) := by
  by_cases h0 : r < 0
  · rw [decide_eq_true h0, cond_true, atI_neg h0]
  · have hlt : r.toNat < v.length := by omega
    rw [decide_eq_false h0, cond_false, if_pos (by omega), List.getElem?_eq_getElem hlt, Option.bind_some]
    unfold atI
    rw [if_pos (by omega), List.getD_eq_getElem?_getD, List.getElem?_eq_getElem hlt]; rfl
theorem getD_w {l : List Int} (h : ∀ x ∈ l, IsW x) (i : Nat) : IsW (l.getD i 0) := by
  rw [List.getD_eq_getElem?_getD]
  by_cases hi : i < l.length
  · rw [List.getElem?_eq_getElem hi]; exact h _ (List.getElem_mem hi)
  · rw [List.getElem?_eq_none (by omega)]; exact isW_zero
theorem outX_w {K M : List Int} (hK : ∀ x ∈ K, IsW x) (hM : ∀ x ∈ M, IsW x) (bl : Bool) (m : Nat) (e : Tapi_Op) : IsW (outX K M bl m e) := by
  unfold outX
  repeat' split
  · exact getD_w hM _
  · exact getD_w hK _
  · exact isW_zero
theorem newX_w {K M O : List Int} (hO : ∀ x ∈ O, IsW x) (bl : Bool) (m o : Nat) (v : List Int) (e : Tapi_Op) : IsW (newX K M O bl m o v e) := by
  unfold newX
  split
  · exact getD_w hO _
  · exact evalI_w _ _ _ _ _
theorem snoc_w {v : List Int} {x : Int} (hv : ∀ x ∈ v, IsW x) (hx : IsW x) : ∀ y ∈ v ++ [x], IsW y := fun y hy => by
  rcases List.mem_append.1 hy with h | h
  · exact hv y h
  · rw [List.mem_singleton.1 h]; exact hx
theorem drop_at0 {l : List Int} {m : Nat} (h : m < l.length) : (l.drop m)[0]? = some (l.getD m 0) := by
  rw [List.getElem?_drop, List.getD_eq_getElem?_getD, Nat.add_zero, List.getElem?_eq_getElem h]; rfl
theorem cut1 (l : List Int) (m : Nat) : cut (l.drop m) 1 (l.drop m).length = l.drop (m + 1) := by
  unfold cut
  rw [List.take_length, List.drop_drop]
theorem get_getD {l : List Int} {m : Nat} (h : m < l.length) : l[m]? = some (l.getD m 0) := by
  rw [List.getD_eq_getElem?_getD, List.getElem?_eq_getElem h]; rfl
/-! The program's runs, and the document's. -/
theorem all_l {n : Int} {K M O : List Int} {bl : Bool} {t : Tapi_Trace} (hK : ∀ x ∈ K, IsW x) (hM : ∀ x ∈ M, IsW x) (hO : ∀ x ∈ O, IsW x) (hl : t.ops.length ≤ 1048576) (M0 O0 : List Int) : ∀ (d i k m o : Nat) (v : List Int), i + d = t.ops.length → d < k → v.length = i → (∀ x ∈ v, IsW x) → runOk n K M O bl i m o (t.ops.drop i) →
    ∃ P Q, replay_all.l1 t ⟨K, M0, O0, bl⟩ k (M.drop m) (O.drop o) v (i : Int) v = some (runF K M O bl m o v (t.ops.drop i), P, Q)
  | 0, i, k, m, o, v, hi, hk, hv, _, _ => by
    obtain ⟨k, rfl⟩ : ∃ j, k = j + 1 := ⟨k - 1, by omega⟩
    unfold replay_all.l1
    rw [decide_eq_false (by omega), cond_false, List.drop_of_length_le (l := t.ops) (by omega)]
    exact ⟨_, _, rfl⟩
  | d + 1, i, k, m, o, v, hi, hk, hv, hvw, hr => by
    obtain ⟨k, rfl⟩ : ∃ j, k = j + 1 := ⟨k - 1, by omega⟩
    have hlt : i < t.ops.length := by omega
    rw [drop_cons hlt] at hr
    obtain ⟨r1, r2, r3, r4, r5, r6⟩ := hr
    have ih := all_l hK hM hO hl M0 O0 d (i + 1) k (stM t.ops[i] m) (stO bl t.ops[i] o) (v ++ [newX K M O bl m o v t.ops[i]]) (by omega) (by omega) (by simp [hv]) (snoc_w hvw (newX_w hO ..)) r6
    obtain ⟨P, Q, ih⟩ := ih
    refine ⟨P, Q, ?_⟩
    have hg := Rt_regs r1 (by omega)
    rw [drop_cons hlt]
    unfold replay_all.l1
    rw [decide_eq_true (by omega), cond_true, if_pos (by omega), Int.toNat_natCast, List.getElem?_eq_getElem hlt, Option.bind_some]
    unfold runF
    rw [← ih]
    generalize t.ops[i] = e at *
    have hb : (v.length + 1) * 8 ≤ 140737488355328 := by omega
    have j3 : ∀ (p q : List Int) (x : Int), replay_all.j3 k (replay_all.l1 t ⟨K, M0, O0, bl⟩ k) v (i : Int) v p q x = replay_all.l1 t ⟨K, M0, O0, bl⟩ k p q (v ++ [x]) ((i + 1 : Nat) : Int) (v ++ [x]) := by
      intro p q x
      unfold replay_all.j3
      rw [if_pos (by simpa using hb), if_pos (by simpa using hb), wrapN (by omega)]
    have hx := outX_w hK hM bl m e
    have j2 : ∀ p : List Int, replay_all.j2 k (replay_all.l1 t ⟨K, M0, O0, bl⟩ k) ⟨K, M0, O0, bl⟩ (O.drop o) v (i : Int) v e (atI v e.a) (atI v e.b) (atI v e.d) (outX K M bl m e) p = replay_all.l1 t ⟨K, M0, O0, bl⟩ k p (O.drop (stO bl e o)) (v ++ [newX K M O bl m o v e]) ((i + 1 : Nat) : Int) (v ++ [newX K M O bl m o v e]) := by
      intro p
      unfold replay_all.j2
      rw [op_Eval_m k e _ _ _ _ r2 (atI_w hvw _) (atI_w hvw _) (atI_w hvw _) hx, Option.bind_some]
      by_cases c : e.kind = 12 ∧ bl = true
      · have ho := r5 c.1 c.2
        rw [show ((e.kind == 12) && bl) = true by rw [c.2, Bool.and_true, beq_iff_eq]; exact c.1, cond_true, if_pos (by omega), drop_at0 ho, Option.bind_some, if_pos (by rw [List.length_drop]; omega), cut1, j3]
        unfold stO newX
        rw [if_pos c, if_pos c]
      · rw [show ((e.kind == 12) && bl) = false by
          rw [Bool.and_eq_false_iff, beq_eq_false_iff_ne]
          by_cases h : e.kind = 12
          · exact .inr (by cases bl <;> simp_all)
          · exact .inl h, cond_false, j3]
        unfold stO newX
        rw [if_neg c, if_neg c]
    rw [at_step (by omega) (fun x => replay_all.j1 k (replay_all.l1 t ⟨K, M0, O0, bl⟩ k) ⟨K, M0, O0, bl⟩ (M.drop m) (O.drop o) v (i : Int) v e x)]
    unfold replay_all.j1
    rw [at_step (by omega) (fun x => replay_all.j1_2 k (replay_all.l1 t ⟨K, M0, O0, bl⟩ k) ⟨K, M0, O0, bl⟩ (M.drop m) (O.drop o) v (i : Int) v e (atI v e.a) x)]
    unfold replay_all.j1_2
    rw [at_step (by omega) (fun x => replay_all.j1_3 k (replay_all.l1 t ⟨K, M0, O0, bl⟩ k) ⟨K, M0, O0, bl⟩ (M.drop m) (O.drop o) v (i : Int) v e (atI v e.a) (atI v e.b) x)]
    unfold replay_all.j1_3
    by_cases k1 : e.kind = 1
    · have hm := r3 k1
      rw [show (e.kind == 1) = true by simp [k1], cond_true, if_pos (by omega), drop_at0 hm, Option.bind_some, if_pos (by rw [List.length_drop]; omega), cut1]
      have e1 : M.getD m 0 = outX K M bl m e := by unfold outX; rw [if_pos k1]
      rw [e1, j2]
      unfold stM
      rw [if_pos k1]
    · rw [beqF k1, cond_false]
      have hs : stM e m = m := if_neg k1
      rw [hs]
      by_cases c : e.kind = 2 ∧ bl = false
      · have hk := r4 c.1 c.2
        rw [show ((e.kind == 2) && !bl) = true by rw [c.2]; simp [c.1], cond_true, if_pos r2.1, get_getD hk, Option.bind_some]
        have e1 : K.getD e.c.toNat 0 = outX K M bl m e := by unfold outX; rw [if_neg k1, if_pos c]
        rw [e1, j2]
      · rw [show ((e.kind == 2) && !bl) = false by
          rw [Bool.and_eq_false_iff, beq_eq_false_iff_ne]
          by_cases h : e.kind = 2
          · exact .inr (by cases bl <;> simp_all)
          · exact .inl h, cond_false]
        have e1 : 0 = outX K M bl m e := by unfold outX; rw [if_neg k1, if_neg c]
        rw [e1, j2]
theorem all_m {n : Int} {K M O : List Int} {bl : Bool} {t : Tapi_Trace} (hK : ∀ x ∈ K, IsW x) (hM : ∀ x ∈ M, IsW x) (hO : ∀ x ∈ O, IsW x) (hl : t.ops.length ≤ 1048576) (hr : runOk n K M O bl 0 0 0 t.ops) {k : Nat} (hk : t.ops.length < k) : replay_all.m k t ⟨K, M, O, bl⟩ = some (runF K M O bl 0 0 [] t.ops) := by
  unfold replay_all.m
  obtain ⟨P, Q, e⟩ := all_l (n := n) hK hM hO hl M O t.ops.length 0 k 0 0 [] (by omega) hk rfl (fun _ h => by cases h) (by rw [List.drop_zero]; exact hr)
  rw [List.drop_zero, List.drop_zero, List.drop_zero] at e
  rw [if_pos (by omega), if_pos (by omega)]
  show (replay_all.l1 t ⟨K, M, O, bl⟩ k M O [] ((0 : Nat) : Int) []).bind _ = _
  rw [e]; rfl
theorem Word_m (k : Nat) (v : List Int) (r : Int) : visorref29_Word.m k v r = some (atI v r) := by
  unfold visorref29_Word.m
  by_cases h0 : r < 0
  · rw [decide_eq_true h0, Bool.true_or, cond_true, atI_neg h0]
  · by_cases h1 : r < (v.length : Int)
    · have hlt : r.toNat < v.length := by omega
      rw [decide_eq_false h0, Bool.false_or, decide_eq_false (by omega), cond_false, if_pos (by omega), List.getElem?_eq_getElem hlt, Option.bind_some]
      unfold atI
      rw [if_pos (by omega), List.getD_eq_getElem?_getD, List.getElem?_eq_getElem hlt]; rfl
    · rw [decide_eq_false h0, Bool.false_or, decide_eq_true (by omega), cond_true]
      unfold atI
      rw [if_neg (by omega)]
theorem same29_l (a : List Int) (hl : a.length < 4611686018427387904) : ∀ (d i k : Nat), i + d = a.length → d < k → visorref29_Same.l1 a a k (i : Int) = some (.inr ())
  | 0, i, k, hi, hk => by
    obtain ⟨k, rfl⟩ : ∃ j, k = j + 1 := ⟨k - 1, by omega⟩
    unfold visorref29_Same.l1
    rw [decide_eq_false (by omega), cond_false]
  | d + 1, i, k, hi, hk => by
    obtain ⟨k, rfl⟩ : ∃ j, k = j + 1 := ⟨k - 1, by omega⟩
    have hlt : i < a.length := by omega
    unfold visorref29_Same.l1
    rw [decide_eq_true (by omega), cond_true, if_pos (by omega), Int.toNat_natCast, List.getElem?_eq_getElem hlt, Option.bind_some, if_pos (by omega), Option.bind_some, bne_self_eq_false, cond_false, wrapN (by omega)]
    exact same29_l a hl d (i + 1) k (by omega) (by omega)
theorem same29 (a : List Int) (hl : a.length < 4611686018427387904) {k : Nat} (hk : a.length < k) : visorref29_Same.m k a a = some true := by
  unfold visorref29_Same.m
  have e := same29_l a hl a.length 0 k (by omega) hk
  rw [show (0 : Int) = ((0 : Nat) : Int) from rfl, bne_self_eq_false, cond_false, e]; rfl
theorem BlOk_cons (len last : Int) (b : Tapi_Span) (l : List Tapi_Span) : BlOk len last (b :: l) = (1 ≤ b.kind ∧ b.kind ≤ 3 ∧ last ≤ b.fromF ∧ b.fromF < b.to ∧ b.to ≤ len ∧ BlOk len b.to l) := rfl
theorem opsB_cons (n : Int) (i w : Nat) (o : Tapi_Op) (l : List Tapi_Op) : opsB n i w (o :: l) = (Rt o (i : Int) n && ((o.kind != 2 || o.c == (w : Int)) && opsB n (i + 1) (if o.kind = 2 then w + 1 else w) l)) := rfl
theorem ordB_iff (len : Int) : ∀ (l : List Tapi_Span) (last : Int), ordB len last l = true ↔ BlOk len last l
  | [], last => by simp [ordB, BlOk]
  | b :: l, last => by
    rw [ordB_cons, Bool.and_eq_true, ordB_iff len l, BlOk_cons]
    simp only [Bool.not_eq_true', Bool.or_eq_false_iff, decide_eq_false_iff_not]
    constructor
    · rintro ⟨h, h6⟩; exact ⟨by omega, by omega, by omega, by omega, by omega, h6⟩
    · rintro ⟨h1, h2, h3, h4, h5, h6⟩; exact ⟨by omega, h6⟩
theorem opsB_app (n : Int) : ∀ (l l' : List Tapi_Op) (i w : Nat), opsB n i w (l ++ l') = (opsB n i w l && opsB n (i + l.length) (w + cnt 2 l) l')
  | [], _, i, w => rfl
  | e :: l, l', i, w => by
    rw [List.cons_append, opsB_cons, opsB_cons, opsB_app n l l', cnt_cons, List.length_cons, Bool.and_assoc, Bool.and_assoc, show i + 1 + l.length = i + (l.length + 1) by omega]
    by_cases h : e.kind = 2
    · rw [if_pos h, if_pos h, show w + 1 + cnt 2 l = w + (cnt 2 l + 1) by omega]
    · rw [if_neg h, if_neg h]; rfl
/-! runs of what is joined -/
theorem runF_cons (K M O : List Int) (bl : Bool) (m o : Nat) (v : List Int) (e : Tapi_Op) (l : List Tapi_Op) : runF K M O bl m o v (e :: l) = runF K M O bl (stM e m) (stO bl e o) (v ++ [newX K M O bl m o v e]) l := rfl
theorem runF_app (K M O : List Int) (bl : Bool) : ∀ (l l' : List Tapi_Op) (m o : Nat) (v : List Int), bl = false → runF K M O bl m o v (l ++ l') = runF K M O bl (m + cnt 1 l) o (runF K M O bl m o v l) l'
  | [], _, _, _, _, _ => rfl
  | e :: l, l', m, o, v, hb => by
    rw [List.cons_append, runF_cons, runF_cons, runF_app K M O bl l l' _ _ _ hb, cnt_cons]
    have e2 : stO bl e o = o := by unfold stO; rw [if_neg (by rw [hb]; simp)]
    rw [e2]
    unfold stM
    by_cases h : e.kind = 1
    · rw [if_pos h, if_pos h, show m + 1 + cnt 1 l = m + (cnt 1 l + 1) by omega]
    · rw [if_neg h, if_neg h]; rfl
theorem getD_take {l : List Int} {i n : Nat} (h : i < n) : (l.take n).getD i 0 = l.getD i 0 := by
  rw [List.getD_eq_getElem?_getD, List.getD_eq_getElem?_getD, List.getElem?_take, if_pos h]
/-! What is opened, and taps. -/
def opF : Nat → List Tapi_Op → List Int
  | _, [] => []
  | i, o :: l => if o.kind = 12 then (i : Int) :: opF (i + 1) l else opF (i + 1) l
theorem opF_len : ∀ (l : List Tapi_Op) (i : Nat), (opF i l).length = cnt 12 l
  | [], _ => rfl
  | o :: l, i => by
    unfold opF
    rw [cnt_cons]
    by_cases h : o.kind = 12
    · rw [if_pos h, if_pos h, List.length_cons, opF_len l]
    · rw [if_neg h, if_neg h, opF_len l]; omega
theorem opens_l {t : Tapi_Trace} (hl : t.ops.length * 8 ≤ 140737488355328) : ∀ (d i k : Nat) (acc : List Int), i + d = t.ops.length → d < k → acc.length ≤ i → trace_Opens.l1 t k acc (i : Int) = some (acc ++ opF i (t.ops.drop i))
  | 0, i, k, acc, hi, hk, _ => by
    obtain ⟨k, rfl⟩ : ∃ j, k = j + 1 := ⟨k - 1, by omega⟩
    unfold trace_Opens.l1
    rw [decide_eq_false (by omega), cond_false, List.drop_of_length_le (by omega)]
    show _ = some (acc ++ [])
    rw [List.append_nil]
  | d + 1, i, k, acc, hi, hk, ha => by
    obtain ⟨k, rfl⟩ : ∃ j, k = j + 1 := ⟨k - 1, by omega⟩
    have hlt : i < t.ops.length := by omega
    unfold trace_Opens.l1
    rw [decide_eq_true (by omega), cond_true, if_pos (by omega), Int.toNat_natCast, List.getElem?_eq_getElem hlt, Option.bind_some, drop_cons hlt]
    unfold trace_Opens.j1 opF
    by_cases h : t.ops[i].kind = 12
    · rw [show (t.ops[i].kind == 12) = true by simp [h], cond_true, if_pos h, if_pos (by simp only [List.length_cons, List.length_nil]; omega), wrapN (by omega), opens_l hl d (i + 1) k _ (by omega) (by omega) (by simp; omega), List.append_assoc]; rfl
    · rw [beqF h, cond_false, if_neg h, wrapN (by omega)]
      exact opens_l hl d (i + 1) k _ (by omega) (by omega) (by omega)
theorem Opens_m {t : Tapi_Trace} (hl : t.ops.length * 8 ≤ 140737488355328) {k : Nat} (hk : t.ops.length < k) : trace_Opens.m k t = some (opF 0 t.ops) := by
  unfold trace_Opens.m
  have e := opens_l hl t.ops.length 0 k [] (by omega) hk (Nat.le_refl _)
  rw [List.drop_zero] at e
  show (trace_Opens.l1 t k [] ((0 : Nat) : Int)).bind _ = _
  rw [e]; rfl
theorem taps_l (v a : List Int) (hl : a.length * 8 ≤ 140737488355328) : ∀ (d i k : Nat) (acc : List Int), i + d = a.length → d < k → acc.length ≤ i → replay_Taps.l1 v a k acc (i : Int) = some (acc ++ (a.drop i).map (atI v))
  | 0, i, k, acc, hi, hk, _ => by
    obtain ⟨k, rfl⟩ : ∃ j, k = j + 1 := ⟨k - 1, by omega⟩
    unfold replay_Taps.l1
    rw [decide_eq_false (by omega), cond_false, List.drop_of_length_le (by omega), List.map_nil, List.append_nil]
  | d + 1, i, k, acc, hi, hk, ha => by
    obtain ⟨k, rfl⟩ : ∃ j, k = j + 1 := ⟨k - 1, by omega⟩
    have hlt : i < a.length := by omega
    have j1 : ∀ x : Int, replay_Taps.j1 k (replay_Taps.l1 v a k) acc (i : Int) x = some ((acc ++ [x]) ++ (a.drop (i + 1)).map (atI v)) := by
      intro x
      unfold replay_Taps.j1
      rw [if_pos (by simp only [List.length_cons, List.length_nil]; omega), wrapN (by omega)]
      exact taps_l v a hl d (i + 1) k _ (by omega) (by omega) (by simp; omega)
    unfold replay_Taps.l1
    rw [decide_eq_true (by omega), cond_true, if_pos (by omega), Int.toNat_natCast, List.getElem?_eq_getElem hlt, Option.bind_some, drop_cons hlt, List.map_cons]
    generalize a[i] = r
    have fin : (acc ++ [atI v r]) ++ (a.drop (i + 1)).map (atI v) = acc ++ atI v r :: (a.drop (i + 1)).map (atI v) := by simp
    by_cases h : 0 ≤ r ∧ r < (v.length : Int)
    · have hlt2 : r.toNat < v.length := by omega
      have e : atI v r = v[r.toNat] := by
        unfold atI
        rw [if_pos h, List.getD_eq_getElem?_getD, List.getElem?_eq_getElem hlt2]; rfl
      rw [show (decide (r ≥ 0) && decide (r < ((v.length : Nat) : Int))) = true by rw [Bool.and_eq_true, decide_eq_true_eq, decide_eq_true_eq]; exact h, cond_true, if_pos h.1, List.getElem?_eq_getElem hlt2, Option.bind_some, j1, ← e, fin]
    · have e : atI v r = 0 := by unfold atI; rw [if_neg h]
      rw [show (decide (r ≥ 0) && decide (r < ((v.length : Nat) : Int))) = false by rw [Bool.and_eq_false_iff, decide_eq_false_iff_not, decide_eq_false_iff_not]; omega, cond_false, j1, ← e, fin]
theorem Taps_m (v a : List Int) (hl : a.length * 8 ≤ 140737488355328) {k : Nat} (hk : a.length < k) : replay_Taps.m k v a = some (a.map (atI v)) := by
  unfold replay_Taps.m
  have e := taps_l v a hl a.length 0 k [] (by omega) hk (Nat.le_refl _)
  rw [List.drop_zero] at e
  show (replay_Taps.l1 v a k [] ((0 : Nat) : Int)).bind _ = _
  rw [e]; rfl
theorem Opened_m {t : Tapi_Trace} (hl : t.ops.length * 8 ≤ 140737488355328) (v : List Int) {k : Nat} (hk : t.ops.length < k) : replay_Opened.m k t v = some ((opF 0 t.ops).map (atI v)) := by
  have hc := cnt_le 12 t.ops
  unfold replay_Opened.m
  rw [Opens_m hl hk, Option.bind_some, Taps_m v _ (by rw [opF_len]; omega) (by rw [opF_len]; omega), Option.bind_some]
/-! Run, Blind and Check as functions. -/
theorem opsOk (t : Tapi_Trace) : trB t = true → (t.n = 2 ∨ t.n = 3) ∧ t.ops.length ≤ 1048576 ∧ opsB t.n 0 0 t.ops = true := by
  intro h
  unfold trB at h
  simp only [Bool.and_eq_true, Bool.or_eq_true, beq_iff_eq, decide_eq_true_eq] at h
  exact ⟨h.1.1, h.1.2, h.2.2⟩
def eL (K M : List Int) (t : Tapi_Trace) : Int := if trB t = true then (if K.length = cnt 2 t.ops ∧ M.length = cnt 1 t.ops then 0 else 5) else 4
theorem eL_0 {K M : List Int} {t : Tapi_Trace} (h : trB t = true) (h1 : K.length = cnt 2 t.ops) (h2 : M.length = cnt 1 t.ops) : eL K M t = 0 := by unfold eL; rw [if_pos h, if_pos ⟨h1, h2⟩]
theorem eL_5 {K M : List Int} {t : Tapi_Trace} (h : trB t = true) (h1 : ¬ (K.length = cnt 2 t.ops ∧ M.length = cnt 1 t.ops)) : eL K M t = 5 := by unfold eL; rw [if_pos h, if_neg h1]
theorem eL_4 {K M : List Int} {t : Tapi_Trace} (h : ¬ trB t = true) : eL K M t = 4 := by unfold eL; rw [if_neg h]
def eB (O M : List Int) (t : Tapi_Trace) : Int := if trB t = true then (if O.length = cnt 12 t.ops ∧ M.length = cnt 1 t.ops then 0 else 5) else 4
theorem eB_0 {K M : List Int} {t : Tapi_Trace} (h : trB t = true) (h1 : K.length = cnt 12 t.ops) (h2 : M.length = cnt 1 t.ops) : eB K M t = 0 := by unfold eB; rw [if_pos h, if_pos ⟨h1, h2⟩]
theorem eB_5 {K M : List Int} {t : Tapi_Trace} (h : trB t = true) (h1 : ¬ (K.length = cnt 12 t.ops ∧ M.length = cnt 1 t.ops)) : eB K M t = 5 := by unfold eB; rw [if_pos h, if_neg h1]
theorem eB_4 {K M : List Int} {t : Tapi_Trace} (h : ¬ trB t = true) : eB K M t = 4 := by unfold eB; rw [if_neg h]
theorem Run_m {t : Tapi_Trace} {K M : List Int} (hb : t.blocks.length < 4611686018427387904) (hl : t.ops.length * 8 ≤ 140737488355328) (hc : ∀ e ∈ t.ops, IsW e.c) (hK : ∀ x ∈ K, IsW x) (hM : ∀ x ∈ M, IsW x) {k : Nat} (hk : t.ops.length + t.blocks.length + 70 ≤ k) : replay_Run.m k t K M = some (if eL K M t = 0 then runF K M [] false 0 0 [] t.ops else [], eL K M t) := by
  unfold replay_Run.m
  rw [Check_m hb (by omega), Option.bind_some]
  by_cases h : trB t = true
  · obtain ⟨hn, hlen, ho⟩ := opsOk t h
    rw [if_pos h, show ((0 : Int) != 0) = false from rfl, cond_false, Words_m (by omega) (by omega), Option.bind_some]
    unfold replay_Run.j1
    by_cases h1 : K.length = cnt 2 t.ops
    · rw [show (((K.length : Nat) : Int) != ((cnt 2 t.ops : Nat) : Int)) = false by rw [bne_eq_false_iff_eq]; omega, cond_false, Draws_m (by omega) (by omega), Option.bind_some]
      by_cases h2 : M.length = cnt 1 t.ops
      · rw [show (((M.length : Nat) : Int) != ((cnt 1 t.ops : Nat) : Int)) = false by rw [bne_eq_false_iff_eq]; omega, cond_false, eL_0 h h1 h2, if_pos rfl,
          all_m (n := t.n) hK hM (fun _ h => by cases h) hlen (runOk_of _ 0 0 0 0 ho hc (by omega) (fun _ => by omega) (fun h => by cases h)) (by omega), Option.bind_some]
      · rw [show (((M.length : Nat) : Int) != ((cnt 1 t.ops : Nat) : Int)) = true by rw [bne_iff_ne]; omega, cond_true, eL_5 h (fun h => h2 h.2), if_neg (by omega)]
    · rw [show (((K.length : Nat) : Int) != ((cnt 2 t.ops : Nat) : Int)) = true by rw [bne_iff_ne]; omega, cond_true, cond_true, eL_5 h (fun h => h1 h.1), if_neg (by omega)]
  · rw [if_neg h, eL_4 h, show ((4 : Int) != 0) = true from rfl, cond_true, if_neg (by omega)]
theorem Blind_m {t : Tapi_Trace} {K M O : List Int} (hb : t.blocks.length < 4611686018427387904) (hl : t.ops.length * 8 ≤ 140737488355328) (hc : ∀ e ∈ t.ops, IsW e.c) (hK : ∀ x ∈ K, IsW x) (hM : ∀ x ∈ M, IsW x) (hO : ∀ x ∈ O, IsW x) {k : Nat} (hk : t.ops.length + t.blocks.length + 70 ≤ k) : replay_Blind.m k t O M = some (if eB O M t = 0 then runF [] M O true 0 0 [] t.ops else [], eB O M t) := by
  unfold replay_Blind.m
  rw [Check_m hb (by omega), Option.bind_some]
  by_cases h : trB t = true
  · obtain ⟨hn, hlen, ho⟩ := opsOk t h
    rw [if_pos h, show ((0 : Int) != 0) = false from rfl, cond_false, Opens_m hl (by omega), Option.bind_some, opF_len]
    unfold replay_Blind.j1
    by_cases h1 : O.length = cnt 12 t.ops
    · rw [show (((O.length : Nat) : Int) != ((cnt 12 t.ops : Nat) : Int)) = false by rw [bne_eq_false_iff_eq]; omega, cond_false, Draws_m (by omega) (by omega), Option.bind_some]
      by_cases h2 : M.length = cnt 1 t.ops
      · rw [show (((M.length : Nat) : Int) != ((cnt 1 t.ops : Nat) : Int)) = false by rw [bne_eq_false_iff_eq]; omega, cond_false, eB_0 h h1 h2, if_pos rfl,
          all_m (n := t.n) (fun _ h => by cases h) hM hO hlen (runOk_of _ 0 0 0 0 ho hc (by omega) (fun h => by cases h) (fun _ => by omega)) (by omega), Option.bind_some]
      · rw [show (((M.length : Nat) : Int) != ((cnt 1 t.ops : Nat) : Int)) = true by rw [bne_iff_ne]; omega, cond_true, eB_5 h (fun h => h2 h.2), if_neg (by omega)]
    · rw [show (((O.length : Nat) : Int) != ((cnt 12 t.ops : Nat) : Int)) = true by rw [bne_iff_ne]; omega, cond_true, cond_true, eB_5 h (fun h => h1 h.1), if_neg (by omega)]
  · rw [if_neg h, eB_4 h, show ((4 : Int) != 0) = true from rfl, cond_true, if_neg (by omega)]
/-! What a machine did: its words are what its ops make, of its tape, and of some words of keys. -/
inductive Stp : WM → WM → Prop
  | refl (M : WM) : Stp M M
  | d {M N : WM} (o : Tapi_Op) (x : Int) (hc : IsW o.c) (hx : IsW x) : Stp M N → Stp M (N.D o x).2
  | b {M N : WM} (kd : Int) : Stp M N → Stp M (N.B kd)
  | e {M N : WM} : Stp M N → Stp M N.E
theorem Stp.trans {M N P : WM} (h : Stp M N) (g : Stp N P) : Stp M P := by
  induction g with
  | refl => exact h
  | d o x hc hx _ ih => exact .d o x hc hx ih
  | b kd _ ih => exact .b kd ih
  | e _ ih => exact .e ih
inductive Mk (n : Int) (T : List Int) : List Tapi_Op → List Int → Prop
  | nil : Mk n T [] []
  | snoc {ops : List Tapi_Op} {vals : List Int} {o : Tapi_Op} {x : Int} : Mk n T ops vals → Rt o (ops.length : Int) n = true → (o.kind = 2 → o.c = (cnt 2 ops : Int)) → IsW o.c → IsW x → (o.kind = 1 → x = T.getD (cnt 1 ops) 0) →
      Mk n T (ops ++ [o]) (vals ++ [evalI o (atI vals o.a) (atI vals o.b) (atI vals o.d) x])
theorem Mk.len {n : Int} {T : List Int} {ops : List Tapi_Op} {vals : List Int} (h : Mk n T ops vals) : vals.length = ops.length := by
  induction h with
  | nil => rfl
  | snoc _ _ _ _ _ _ ih => simp [ih]
/-- a machine that is wet, and what it did -/
structure Mi (n : Int) (T : List Int) (M : WM) : Prop where
  hn : M.m.n = n
  made : Mk n T M.m.ops M.m.values
  words : M.m.words = (cnt 2 M.m.ops : Int)
  used : M.m.tape.used.v = (cnt 1 M.m.ops : Int)
  tape : M.m.tape.words = T
theorem Mi.push {n : Int} {T : List Int} {M : WM} (h : Mi n T M) (o : Tapi_Op) (x : Int) (hc : IsW o.c) (hx : IsW x) : Mi n T (M.D o x).2 := by
  have hn := M.w.ok.n
  have hl := M.w.len
  show Mi n T ⟨(doM M.m o x).2, M.w.did o x⟩
  have hd := M.w.dry
  have keep : ∀ m' : Twire_Machine, ∀ w', m'.n = M.m.n → m'.ops = M.m.ops → m'.values = M.m.values → m'.words = M.m.words → m'.tape = M.m.tape → Mi n T ⟨m', w'⟩ := by
    intro m' w' h1 h2 h3 h4 h5
    exact ⟨h1.trans h.hn, by show Mk n T m'.ops m'.values; rw [h2, h3]; exact h.made, by show m'.words = (cnt 2 m'.ops : Int); rw [h2, h4]; exact h.words, by show m'.tape.used.v = (cnt 1 m'.ops : Int); rw [h2, h5]; exact h.used, by show m'.tape.words = T; rw [h5]; exact h.tape⟩
  generalize M.w.did o x = w'
  revert w'
  unfold doM
  split
  · intro w'; exact keep _ _ rfl rfl rfl rfl rfl
  · split
    · intro w'; exact keep _ _ rfl rfl rfl rfl rfl
    · rename_i hr
      have hR : Rt o (M.m.ops.length : Int) n = true ∧ (o.kind = 2 → o.c = (cnt 2 M.m.ops : Int)) := by
        rw [Bool.not_eq_false] at hr
        unfold rightM at hr
        rw [Bool.and_eq_true, Bool.or_eq_true, bne_iff_ne, beq_iff_eq, hl, h.hn] at hr
        exact ⟨hr.1, fun k2 => by rw [← h.words]; exact hr.2.resolve_left (fun h => h k2)⟩
      split
      · intro w'; exact keep _ _ rfl rfl rfl rfl rfl
      · split
        · rename_i hk
          split
          · intro w'; exact keep _ _ rfl rfl rfl rfl rfl
          · rename_i hm
            intro w'
            have hu := M.w.ok.used
            unfold noMask at hm
            have hx2 : atI M.m.tape.words M.m.tape.used.v = T.getD (cnt 1 M.m.ops) 0 := by
              unfold atI
              rw [if_pos (by omega), h.used, h.tape, Int.toNat_natCast]
            have hw := atI_w M.w.ok.wtape M.m.tape.used.v
            revert w'
            rw [pushM_wet (m := drawnM M.m) hd]
            intro w'
            refine ⟨h.hn, ?_, ?_, ?_, h.tape⟩
            · exact .snoc h.made hR.1 hR.2 hc hw (fun _ => hx2)
            · show (if o.kind = 2 then M.m.words + 1 else M.m.words) = (cnt 2 (M.m.ops ++ [o]) : Int)
              rw [cnt_snoc, h.words]; split <;> omega
            · show M.m.tape.used.v + 1 = (cnt 1 (M.m.ops ++ [o]) : Int)
              rw [cnt_snoc, h.used, if_pos hk.1]; omega
        · rename_i hk
          have hk1 : ¬ o.kind = 1 := fun e => hk ⟨e, hd⟩
          rw [pushM_wet (m := M.m) hd]
          intro w'
          refine ⟨h.hn, ?_, ?_, ?_, h.tape⟩
          · exact .snoc h.made hR.1 hR.2 hc hx (fun e => absurd e hk1)
          · show (if o.kind = 2 then M.m.words + 1 else M.m.words) = (cnt 2 (M.m.ops ++ [o]) : Int)
            rw [cnt_snoc, h.words]; split <;> omega
          · show M.m.tape.used.v = (cnt 1 (M.m.ops ++ [o]) : Int)
            rw [cnt_snoc, h.used, if_neg hk1]; omega
theorem Mi.bb {n : Int} {T : List Int} {M : WM} (h : Mi n T M) (kd : Int) : Mi n T (M.B kd) := by
  show Mi n T ⟨beginM M.m kd, M.w.begin kd⟩
  generalize M.w.begin kd = w'
  revert w'
  unfold beginM failM
  repeat' split
  all_goals (intro w'; exact ⟨h.hn, h.made, h.words, h.used, h.tape⟩)
theorem Mi.ee {n : Int} {T : List Int} {M : WM} (h : Mi n T M) : Mi n T M.E := by
  show Mi n T ⟨endM M.m, M.w.fin⟩
  generalize M.w.fin = w'
  revert w'
  unfold endM failM
  repeat' split
  all_goals (intro w'; exact ⟨h.hn, h.made, h.words, h.used, h.tape⟩)
theorem Mi.stp {n : Int} {T : List Int} {M N : WM} (h : Mi n T M) (s : Stp M N) : Mi n T N := by
  induction s with
  | refl => exact h
  | d o x hc hx _ ih => exact ih.push o x hc hx
  | b kd _ ih => exact ih.bb kd
  | e _ ih => exact ih.ee
/-! each gadget is such steps -/
theorem PubC.t {M M' : WM} {c o0 o1 o2 : Int} (h : PubC M c o0 o1 o2 M') (hc : IsW c) : Stp M M' := by
  rcases h with ⟨X0, X1, _, rfl, rfl, _, _, _, rfl⟩ | ⟨X0, X1, X2, _, rfl, rfl, rfl, _, _, _, rfl⟩
  · exact .d _ _ isW_zero isW_zero (.d _ _ hc isW_zero (.refl _))
  · exact .d _ _ isW_zero isW_zero (.d _ _ isW_zero isW_zero (.d _ _ hc isW_zero (.refl _)))
theorem TldC.t {M M' : WM} {c o0 o1 o2 : Int} (h : TldC M c o0 o1 o2 M') (hc : IsW c) : Stp M M' := by
  rcases h with ⟨X0, X1, _, rfl, rfl, _, _, _, rfl⟩ | ⟨X0, X1, X2, _, rfl, rfl, rfl, _, _, _, rfl⟩
  · exact .d _ _ isW_zero isW_zero (.d _ _ hc isW_zero (.refl _))
  · exact .d _ _ isW_zero isW_zero (.d _ _ isW_zero isW_zero (.d _ _ hc isW_zero (.refl _)))
theorem XrC.t {M M' : WM} {a0 b0 c0 a1 b1 c1 o0 o1 o2 : Int} (h : XrC M a0 b0 c0 a1 b1 c1 o0 o1 o2 M') : Stp M M' := by
  rcases h with ⟨X0, X1, _, rfl, rfl, _, _, _, rfl⟩ | ⟨X0, X1, X2, _, rfl, rfl, rfl, _, _, _, rfl⟩
  · exact .d _ _ isW_zero isW_zero (.d _ _ isW_zero isW_zero (.refl _))
  · exact .d _ _ isW_zero isW_zero (.d _ _ isW_zero isW_zero (.d _ _ isW_zero isW_zero (.refl _)))
theorem NtC.t {M M' : WM} {a b c o0 o1 o2 : Int} (h : NtC M a b c o0 o1 o2 M') : Stp M M' := by
  obtain ⟨X0, rfl, _, _, _, rfl⟩ := h
  exact .d _ _ isW_zero isW_zero (.refl _)
theorem AdC.t {M M' : WM} {kd a b c w o0 o1 o2 : Int} (h : AdC M kd a b c w o0 o1 o2 M') (hw : IsW w) : Stp M M' := by
  obtain ⟨X0, X1, rfl, rfl, _, _, _, rfl⟩ := h
  exact .d _ _ isW_zero isW_zero (.d _ _ hw isW_zero (.refl _))
theorem OnC.t {M M' : WM} {kd a b c w o0 o1 o2 : Int} (h : OnC M kd a b c w o0 o1 o2 M') (hw : IsW w) : Stp M M' := by
  rcases h with ⟨X0, X1, _, rfl, rfl, _, _, _, rfl⟩ | ⟨X0, X1, X2, _, rfl, rfl, rfl, _, _, _, rfl⟩
  · exact .d _ _ hw isW_zero (.d _ _ hw isW_zero (.refl _))
  · exact .d _ _ hw isW_zero (.d _ _ hw isW_zero (.d _ _ hw isW_zero (.refl _)))
theorem EnC.t {M M' : WM} {w o0 o1 o2 : Int} (h : EnC M w o0 o1 o2 M') (hw : IsW w) : Stp M M' := by
  rcases h with ⟨B, R1, K, E, _, rfl, rfl, rfl, rfl, _, _, _, rfl⟩ | ⟨B, R1, R2, K, E, _, rfl, rfl, rfl, rfl, rfl, _, _, _, rfl⟩
  · exact .e (.d _ _ (words_W _) hw (.d _ _ isW_zero isW_zero (.b _ (.refl _))))
  · exact .e (.d _ _ (words_W _) hw (.d _ _ isW_zero isW_zero (.d _ _ isW_zero isW_zero (.b _ (.refl _)))))
theorem FuC.t {M M' : WM} {a b c o0 o1 o2 : Int} (h : FuC M a b c o0 o1 o2 M') : Stp M M' := by
  rcases h with ⟨B, R, X0, X1, E, _, _, rfl, rfl, rfl, rfl, rfl, _, _, _, rfl⟩ | ⟨B, R, S, T, X0, X1, X2, X3, X4, X5, E, _, rfl, rfl, rfl, rfl, rfl, rfl, rfl, rfl, rfl, rfl, rfl, _, _, _, rfl⟩
  · refine .e ?_; repeat refine .d _ _ isW_zero isW_zero ?_
    exact .b _ (.refl _)
  · refine .e ?_; repeat refine .d _ _ isW_zero isW_zero ?_
    exact .b _ (.refl _)
theorem IsC.t {M M' : WM} {a0 b0 c0 a1 b1 c1 o0 o1 o2 : Int} (h : IsC M a0 b0 c0 a1 b1 c1 o0 o1 o2 M') : Stp M M' := by
  rcases h with ⟨B, R01, P00, P01, P10, P11, O01, A10, C10, O10, E, _, rfl, rfl, rfl, rfl, rfl, rfl, rfl, rfl, rfl, rfl, rfl, _, _, _, rfl⟩ | h
  · refine .e ?_; repeat refine .d _ _ isW_zero isW_zero ?_
    exact .b _ (.refl _)
  · obtain ⟨B, X1, X2, X3, X4, X5, X6, X7, X8, X9, X10, X11, X12, X13, X14, X15, X16, X17, X18, X19, X20, X21, X22, X23, X24, E, _, rfl, rfl, rfl, rfl, rfl, rfl, rfl, rfl, rfl, rfl, rfl, rfl, rfl, rfl, rfl, rfl, rfl, rfl, rfl, rfl, rfl, rfl, rfl, rfl, rfl, rfl, _, _, _, rfl⟩ := h
    refine .e ?_; repeat refine .d _ _ isW_zero isW_zero ?_
    exact .b _ (.refl _)
theorem DoC.t {M M' : WM} {a0 b0 c0 a1 b1 c1 o0 o1 o2 : Int} (h : DoC M a0 b0 c0 a1 b1 c1 o0 o1 o2 M') : Stp M M' := by
  rcases h with ⟨B, R01, P00, P01, P10, P11, O01, A10, C10, O10, E, _, rfl, rfl, rfl, rfl, rfl, rfl, rfl, rfl, rfl, rfl, rfl, _, _, _, rfl⟩ | h
  · refine .e ?_; repeat refine .d _ _ isW_zero isW_zero ?_
    exact .b _ (.refl _)
  · obtain ⟨B, X1, X2, X3, X4, X5, X6, X7, X8, X9, X10, X11, X12, X13, X14, X15, X16, X17, X18, X19, X20, X21, X22, X23, X24, E, _, rfl, rfl, rfl, rfl, rfl, rfl, rfl, rfl, rfl, rfl, rfl, rfl, rfl, rfl, rfl, rfl, rfl, rfl, rfl, rfl, rfl, rfl, rfl, rfl, rfl, rfl, _, _, _, rfl⟩ := h
    refine .e ?_; repeat refine .d _ _ isW_zero isW_zero ?_
    exact .b _ (.refl _)
/-! Acts are steps of a machine. -/
theorem Stp.n {M N : WM} (h : Stp M N) : N.m.n = M.m.n := by
  induction h with
  | refl => rfl
  | d o x _ _ _ ih => rw [D_n]; exact ih
  | b kd _ ih => rw [B_n]; exact ih
  | e _ ih => rw [E_n]; exact ih
structure Gt (P : Nat → Option (Cells × Twire_Machine)) (M : WM) (o0 o1 o2 : Int) (M' : WM) : Prop where
  p : ∀ k, 90 ≤ k → P k = some ([ci o0, ci o1, ci o2], M'.m)
  s : Stp M M'
  c : M.m.n = 2 → o2 = -1
theorem Pub_t (M : WM) {w : Int} (hw : IsW w) : ∃ o0 o1 o2 M', Gt (fun k => share_Public.m k M.m w) M o0 o1 o2 M' := by
  obtain ⟨o0, o1, o2, M', h⟩ := PubC.ex M w
  exact ⟨o0, o1, o2, M', fun k hk => h.p hk hw, h.t hw, fun hn => h.c ((h.t hw).n.trans hn)⟩
theorem Tld_t (M : WM) {w : Int} (hw : IsW w) : ∃ o0 o1 o2 M', Gt (fun k => share_Told.m k M.m w) M o0 o1 o2 M' := by
  obtain ⟨o0, o1, o2, M', h⟩ := TldC.ex M w
  exact ⟨o0, o1, o2, M', fun k hk => h.p hk hw, h.t hw, fun hn => h.c ((h.t hw).n.trans hn)⟩
theorem En_t (M : WM) {w : Int} (hw : IsW w) : ∃ o0 o1 o2 M', Gt (fun k => share_Encode.m k M.m w) M o0 o1 o2 M' := by
  obtain ⟨o0, o1, o2, M', h⟩ := EnC.ex M w
  exact ⟨o0, o1, o2, M', fun k hk => h.p hk hw, h.t hw, fun hn => h.c ((h.t hw).n.trans hn)⟩
theorem Xr_t (M : WM) (a b c a' b' c' : Int) : ∃ o0 o1 o2 M', Gt (fun k => share_Xor.m k M.m [ci a, ci b, ci c] [ci a', ci b', ci c']) M o0 o1 o2 M' := by
  obtain ⟨o0, o1, o2, M', h⟩ := XrC.ex M a b c a' b' c'
  exact ⟨o0, o1, o2, M', fun k hk => h.p hk, h.t, fun hn => h.c (h.t.n.trans hn)⟩
theorem Nt_t (M : WM) (a b c : Int) (hc : M.m.n = 2 → c = -1) : ∃ o0 o1 o2 M', Gt (fun k => share_Not.m k M.m [ci a, ci b, ci c]) M o0 o1 o2 M' := by
  obtain ⟨o0, o1, o2, M', h⟩ := NtC.ex M a b c
  refine ⟨o0, o1, o2, M', fun k hk => h.p hk, h.t, fun hn => ?_⟩
  obtain ⟨X0, eX0, rfl, rfl, rfl, rfl⟩ := h
  exact hc hn
theorem Ad_t (M : WM) (a b c : Int) {w : Int} (hw : IsW w) (hc : M.m.n = 2 → c = -1) : ∃ o0 o1 o2 M', Gt (fun k => share_Add.m k M.m [ci a, ci b, ci c] w) M o0 o1 o2 M' := by
  obtain ⟨o0, o1, o2, M', h⟩ := AdC.ex M 3 a b c w
  refine ⟨o0, o1, o2, M', fun k hk => h.p hk hw, h.t hw, fun hn => ?_⟩
  obtain ⟨X0, X1, eX0, eX1, rfl, rfl, rfl, rfl⟩ := h
  exact hc hn
theorem At_t (M : WM) (a b c : Int) {w : Int} (hw : IsW w) (hc : M.m.n = 2 → c = -1) : ∃ o0 o1 o2 M', Gt (fun k => share_AddTold.m k M.m [ci a, ci b, ci c] w) M o0 o1 o2 M' := by
  obtain ⟨o0, o1, o2, M', h⟩ := AdC.ex M 4 a b c w
  refine ⟨o0, o1, o2, M', fun k hk => h.p4 hk hw, h.t hw, fun hn => ?_⟩
  obtain ⟨X0, X1, eX0, eX1, rfl, rfl, rfl, rfl⟩ := h
  exact hc hn
theorem On_t (M : WM) (kd a b c : Int) {w : Int} (hw : IsW w) : ∃ o0 o1 o2 M', Gt (fun k => share_One.m k M.m kd [ci a, ci b, ci c] w) M o0 o1 o2 M' := by
  obtain ⟨o0, o1, o2, M', h⟩ := OnC.ex M kd a b c w
  exact ⟨o0, o1, o2, M', fun k hk => h.p hk hw, h.t hw, fun hn => h.c ((h.t hw).n.trans hn)⟩
theorem Fu_t (M : WM) (a b c : Int) (hc : M.m.n = 2 → c = -1) : ∃ o0 o1 o2 M', Gt (fun k => fresh_Full.m k M.m [ci a, ci b, ci c]) M o0 o1 o2 M' := by
  obtain ⟨o0, o1, o2, M', h⟩ := FuC.ex M a b c hc
  exact ⟨o0, o1, o2, M', fun k hk => h.p hk, h.t, fun hn => h.c (h.t.n.trans hn)⟩
theorem By_t (M : WM) (kd a b c a' b' c' : Int) : ∃ o0 o1 o2 M', Gt (fun k => times_By.m k M.m kd [ci a, ci b, ci c] [ci a', ci b', ci c']) M o0 o1 o2 M' := by
  by_cases hk : kd = 2
  · subst hk
    obtain ⟨o0, o1, o2, M', h⟩ := DoC.ex M a b c a' b' c'
    exact ⟨o0, o1, o2, M', fun k hk => By_Do hk h, h.t, fun hn => h.c (h.t.n.trans hn)⟩
  · obtain ⟨o0, o1, o2, M', h⟩ := IsC.ex M a b c a' b' c'
    exact ⟨o0, o1, o2, M', fun k h' => By_Is h' h hk, h.t, fun hn => h.c (h.t.n.trans hn)⟩
theorem And_t (M : WM) (kd a b c a' b' c' : Int) (hc : M.m.n = 2 → c' = -1) : ∃ o0 o1 o2 M', Gt (fun k => both_And.m k M.m kd [ci a, ci b, ci c] [ci a', ci b', ci c']) M o0 o1 o2 M' := by
  obtain ⟨f0, f1, f2, M1, h1⟩ := Fu_t M a' b' c' hc
  obtain ⟨o0, o1, o2, M', h2⟩ := By_t M1 kd a b c f0 f1 f2
  refine ⟨o0, o1, o2, M', fun k hk => ?_, h1.s.trans h2.s, fun hn => h2.c (h1.s.n.trans hn)⟩
  have e1 := h1.p k hk; have e2 := h2.p k hk
  show both_And.m k M.m kd [ci a, ci b, ci c] [ci a', ci b', ci c'] = _
  unfold both_And.m
  rw [if_pos (by rfl), e1, Option.bind_some, if_pos (by rfl), if_pos (by rfl), e2, Option.bind_some, if_pos (by rfl)]
theorem Less_t (M : WM) (kd a b c a' b' c' : Int) (hc : M.m.n = 2 → c = -1) (hc' : M.m.n = 2 → c' = -1) : ∃ o0 o1 o2 M', Gt (fun k => both_Less.m k M.m kd [ci a, ci b, ci c] [ci a', ci b', ci c']) M o0 o1 o2 M' := by
  obtain ⟨f0, f1, f2, M1, h1⟩ := Nt_t M a b c hc
  obtain ⟨o0, o1, o2, M', h2⟩ := And_t M1 kd f0 f1 f2 a' b' c' (fun h => hc' (h1.s.n ▸ h))
  refine ⟨o0, o1, o2, M', fun k hk => ?_, h1.s.trans h2.s, fun hn => h2.c (h1.s.n.trans hn)⟩
  have e1 := h1.p k hk; have e2 := h2.p k hk
  show both_Less.m k M.m kd [ci a, ci b, ci c] [ci a', ci b', ci c'] = _
  unfold both_Less.m
  rw [if_pos (by rfl), if_pos (by rfl), e1, Option.bind_some, e2, Option.bind_some, if_pos (by rfl)]
theorem Or_t (M : WM) (kd a b c a' b' c' : Int) (hc : M.m.n = 2 → c = -1) (hc' : M.m.n = 2 → c' = -1) : ∃ o0 o1 o2 M', Gt (fun k => both_Or.m k M.m kd [ci a, ci b, ci c] [ci a', ci b', ci c']) M o0 o1 o2 M' := by
  obtain ⟨f0, f1, f2, M1, h1⟩ := Nt_t M a b c hc
  obtain ⟨g0, g1, g2, M2, h2⟩ := Nt_t M1 a' b' c' (fun h => hc' (h1.s.n ▸ h))
  obtain ⟨q0, q1, q2, M3, h3⟩ := And_t M2 kd f0 f1 f2 g0 g1 g2 (fun h => h2.c (h2.s.n ▸ h))
  obtain ⟨o0, o1, o2, M', h4⟩ := Nt_t M3 q0 q1 q2 (fun h => h3.c (h3.s.n ▸ h))
  have s3 := (h1.s.trans h2.s).trans h3.s
  refine ⟨o0, o1, o2, M', fun k hk => ?_, s3.trans h4.s, fun hn => h4.c (s3.n.trans hn)⟩
  have e1 := h1.p k hk; have e2 := h2.p k hk; have e3 := h3.p k hk; have e4 := h4.p k hk
  show both_Or.m k M.m kd [ci a, ci b, ci c] [ci a', ci b', ci c'] = _
  unfold both_Or.m
  rw [if_pos (by rfl), e1, Option.bind_some, if_pos (by rfl), if_pos (by rfl), e2, Option.bind_some, if_pos (by rfl), e3, Option.bind_some, e4, Option.bind_some, if_pos (by rfl)]
theorem Open_s (M : WM) (a b c : Int) (hc : M.m.n = 2 → c = -1) : ∃ v M', (∀ k, 90 ≤ k → guard_Open.m k M.m [ci a, ci b, ci c] = some (v, M'.m)) ∧ Stp M M' := by
  obtain ⟨o0, o1, o2, M1, h⟩ := Fu_t M a b c hc
  generalize e : M1.D ⟨12, -1, o0, o1, o2, 0⟩ 0 = X
  replace e := e.symm
  refine ⟨opened X, X.2, fun k hk => ?_, h.s.trans (e ▸ .d _ _ isW_zero isW_zero (.refl _))⟩
  have e1 := h.p k hk
  unfold guard_Open.m
  rw [if_pos (by rfl), e1, Option.bind_some, if_pos (by rfl)]
  show (wire_Machine_Open.m k M1.m o0 o1 o2).bind _ = _
  rw [Open_t (by omega) e]; rfl
theorem Yes_s (M : WM) (a b c : Int) : ∃ (v : Bool) (M' : WM), (∀ k, 90 ≤ k → guard_Yes.m k M.m [ci a, ci b, ci c] = some (v, M'.m)) ∧ Stp M M' := by
  obtain ⟨o0, o1, o2, M1, h⟩ := On_t M 8 a b c (w := 1) ⟨by omega, by omega⟩
  obtain ⟨v, M2, g, gs⟩ := Open_s M1 o0 o1 o2 (fun hn => h.c (h.s.n ▸ hn))
  refine ⟨band .u64 v 1 == 1, M2, fun k hk => ?_, h.s.trans gs⟩
  have e1 := h.p k hk
  unfold guard_Yes.m guard_masked.m
  rw [if_pos (by rfl), if_pos (by rfl), e1, Option.bind_some]
  show ((guard_Open.m k M1.m [ci o0, ci o1, ci o2]).bind _).bind _ = _
  rw [g k hk]; rfl
/-- what an act leaves -/
def Did (k : Nat) (rec : Twire_Machine → List Cells → Int → Option (Twire_Machine × List Cells)) (M : WM) (q : List Cells) (i : Int) (r : Option (Twire_Machine × List Cells)) : Prop :=
  ∃ o0 o1 o2, ∃ M' : WM, r = rec M'.m (q ++ [[ci o0, ci o1, ci o2]]) (IntKind.i64.wrap (i + 1)) ∧ Stp M M' ∧ (M.m.n = 2 → o2 = -1)
theorem j4_m (k : Nat) (rec : Twire_Machine → List Cells → Int → Option (Twire_Machine × List Cells)) (q : List Cells) (hq : q.length ≤ 100) (i : Int) (m : Twire_Machine) (a b c : Int) :
    visorlaw27_Makes.j4 k rec q i m [ci a, ci b, ci c] = rec m (q ++ [[ci a, ci b, ci c]]) (IntKind.i64.wrap (i + 1)) := by
  unfold visorlaw27_Makes.j4
  rw [if_pos (by rfl), if_pos (by simp only [List.length_cons, List.length_nil]; omega)]
theorem did_g {k : Nat} (hk : 90 ≤ k) {rec : Twire_Machine → List Cells → Int → Option (Twire_Machine × List Cells)} {M : WM} {q : List Cells} (hq : q.length ≤ 100) (i : Int) {P : Nat → Option (Cells × Twire_Machine)}
    (h : ∃ o0 o1 o2 M', Gt P M o0 o1 o2 M') : Did k rec M q i ((P k).bind fun v => (if v.1.length = 3 then visorlaw27_Makes.j4 k rec q i v.2 v.1 else none)) := by
  obtain ⟨o0, o1, o2, M', g⟩ := h
  refine ⟨o0, o1, o2, M', ?_, g.s, g.c⟩
  rw [g.p k hk, Option.bind_some, if_pos (by rfl), j4_m _ _ _ hq]
theorem tmod64_w {c : Int} (h : IsW c) : IsW (Int.tmod c 64) := by
  have h0 := h.1
  rw [Int.tmod_eq_emod_of_nonneg h0]
  exact ⟨by omega, by omega⟩
theorem j3_m {k : Nat} (hk : 90 ≤ k) (rec : Twire_Machine → List Cells → Int → Option (Twire_Machine × List Cells)) (M : WM) {q : List Cells} (hq : q.length ≤ 100) (i : Int) (p : Tvisorlaw27_Act) (hp : IsW p.c) (a b c a' b' c' : Int)
    (hc : p.kind = 0 ∨ ((M.m.n = 2 → c = -1) ∧ (M.m.n = 2 → c' = -1))) :
    Did k rec M q i (visorlaw27_Makes.j3 k rec M.m q i p [ci a, ci b, ci c] [ci a', ci b', ci c']) := by
  unfold visorlaw27_Makes.j3
  rw [if_pos (by rfl)]
  by_cases k0 : p.kind = 0
  · rw [k0, show ((0 : Int) == 0) = true from rfl, cond_true]
    exact did_g hk hq i (En_t M hp)
  obtain ⟨h1, h2⟩ := hc.resolve_left k0
  rw [beqN k0, cond_false]
  have one : ∀ {α : Type} {t : Int} {x y : Option α} {Q : Option α → Prop}, (p.kind = t → Q x) → (p.kind ≠ t → Q y) → Q (bif p.kind == t then x else y) := fun {α t x y Q} f g => by
    by_cases e : p.kind = t
    · rw [beqT e, cond_true]; exact f e
    · rw [beqN e, cond_false]; exact g e
  refine one (fun _ => did_g hk hq i (Pub_t M hp)) fun _ => ?_
  refine one (fun _ => did_g hk hq i (Tld_t M hp)) fun _ => ?_
  refine one (fun _ => ?_) fun _ => ?_
  · rw [if_pos (by rfl)]; exact did_g hk hq i (Xr_t M ..)
  refine one (fun _ => did_g hk hq i (Nt_t M _ _ _ h1)) fun _ => ?_
  refine one (fun _ => did_g hk hq i (On_t M _ _ _ _ (tmod64_w hp))) fun _ => ?_
  refine one (fun _ => did_g hk hq i (Ad_t M _ _ _ hp h1)) fun _ => ?_
  refine one (fun _ => did_g hk hq i (At_t M _ _ _ hp h1)) fun _ => ?_
  refine one (fun _ => ?_) fun _ => ?_
  · rw [if_pos (by rfl)]; exact did_g hk hq i (And_t M _ _ _ _ _ _ _ h2)
  refine one (fun _ => ?_) fun _ => ?_
  · rw [if_pos (by rfl)]; exact did_g hk hq i (Or_t M _ _ _ _ _ _ _ h1 h2)
  refine one (fun _ => ?_) fun _ => ?_
  · rw [if_pos (by rfl)]; exact did_g hk hq i (Less_t M _ _ _ _ _ _ _ h1 h2)
  refine one (fun _ => ?_) fun _ => ?_
  · obtain ⟨v, M', g, gs⟩ := Open_s M a b c h1
    refine ⟨a, b, c, M', ?_, gs, h1⟩
    rw [g k hk, Option.bind_some, j4_m _ _ _ hq]
  refine one (fun _ => did_g hk hq i (Fu_t M _ _ _ h1)) fun _ => ?_
  obtain ⟨v, M', g, gs⟩ := Yes_s M a b c
  refine ⟨a, b, c, M', ?_, gs, h1⟩
  rw [g k hk, Option.bind_some, j4_m _ _ _ hq]
/-- words of shares -/
def Ws (M : WM) (L : List Cells) : Prop := ∀ w ∈ L, ∃ a b c, w = [ci a, ci b, ci c] ∧ (M.m.n = 2 → c = -1)
theorem word_m (k : Nat) (P : Tvisorlaw20_Pair) (x : Int) (hl : P.l.length ≤ 100) (h0 : P.l ≠ []) (hw : ∀ w ∈ P.l, w.length = 3) : ∃ w ∈ P.l, visorlaw27_word.m k P x = some w := by
  have hne : 0 < P.l.length := List.length_pos_iff.2 h0
  unfold visorlaw27_word.m
  rw [beqN (by omega), cond_false, wrap_u64_of (x := ((P.l.length : Nat) : Int)) (by omega) (by omega), if_pos (by omega)]
  have hx : 0 ≤ IntKind.u64.wrap x := by rw [wrap_u64]; omega
  obtain ⟨y, hy⟩ : ∃ y : Nat, Int.tmod (IntKind.u64.wrap x) ((P.l.length : Nat) : Int) = (y : Int) := ⟨_, (Int.toNat_of_nonneg (Int.tmod_nonneg _ hx)).symm⟩
  have hlt : y < P.l.length := by
    have := Int.tmod_lt_of_pos (IntKind.u64.wrap x) (b := ((P.l.length : Nat) : Int)) (by omega)
    omega
  rw [hy, wrapI (by omega) (by omega), if_pos (by omega), Int.toNat_natCast, List.getElem?_eq_getElem hlt, Option.bind_some, if_pos (hw _ (List.getElem_mem hlt))]
  exact ⟨_, List.getElem_mem hlt, rfl⟩
theorem makes_l {x1 : List Tvisorlaw27_Act} (hx : ∀ x ∈ x1, IsW x.c) (v : Twire_Machine × Tvisorref19_M × List Cells × List Int × Bool) : ∀ (d i k : Nat), i + d = 40 → d + 91 ≤ k → ∀ (M : WM) (L : List Cells), L.length = i → Ws M L →
    ∃ (M' : WM) (L' : List Cells), visorlaw27_Makes.l1 x1 v k M.m L (i : Int) = some (M'.m, L') ∧ Stp M M'
  | 0, i, k, hi, hk, M, L, hL, hW => by
    obtain ⟨k, rfl⟩ : ∃ j, k = j + 1 := ⟨k - 1, by omega⟩
    refine ⟨M, L, ?_, .refl _⟩
    unfold visorlaw27_Makes.l1
    rw [decide_eq_false (show ¬ ((i : Int) < 40) by omega), Bool.and_false, cond_false]
  | d + 1, i, k, hi, hk, M, L, hL, hW => by
    obtain ⟨k, rfl⟩ : ∃ j, k = j + 1 := ⟨k - 1, by omega⟩
    unfold visorlaw27_Makes.l1
    by_cases hlt : i < x1.length
    · rw [decide_eq_true (show ((i : Int) < ((x1.length : Nat) : Int)) by omega), decide_eq_true (show ((i : Int) < 40) by omega), Bool.and_true, cond_true, if_pos (by omega), Int.toNat_natCast, List.getElem?_eq_getElem hlt, Option.bind_some]
      have hc := hx _ (List.getElem_mem hlt)
      generalize x1[i] = p at hc
      have fin : ∀ r, Did k (visorlaw27_Makes.l1 x1 v k) M L (i : Int) r → ∃ (M' : WM) (L' : List Cells), r = some (M'.m, L') ∧ Stp M M' := fun r ⟨o0, o1, o2, M1, e, s, c⟩ => by
        obtain ⟨M2, L2, e2, s2⟩ := makes_l hx v d (i + 1) k (by omega) (by omega) M1 (L ++ [[ci o0, ci o1, ci o2]]) (by simp [hL]) (fun w hw => by
          rcases List.mem_append.1 hw with h | h
          · obtain ⟨a, b, c, e, f⟩ := hW w h
            exact ⟨a, b, c, e, fun hn => f (s.n ▸ hn)⟩
          · exact ⟨o0, o1, o2, List.mem_singleton.1 h, fun hn => c (s.n ▸ hn)⟩)
        refine ⟨M2, L2, ?_, s.trans s2⟩
        rw [e, wrapN (by omega)]; exact e2
      by_cases h0 : L = []
      · subst h0
        rw [show ((((([] : List Cells).length : Nat) : Int) == 0) = true) from rfl, cond_true]
        refine fin _ ?_
        unfold visorlaw27_Makes.j2 visorlaw27_word.m
        dsimp only
        rw [show ((((([] : List Cells).length : Nat) : Int) == 0) = true) from rfl, cond_true, Option.bind_some, cond_true, Option.bind_some, if_pos (by rfl), if_pos (by rfl)]
        exact j3_m (k := k) (by omega) (visorlaw27_Makes.l1 x1 v k) M (q := []) (Nat.zero_le _) _ ⟨0, p.a, p.b, p.k, p.byF, p.c⟩ hc 0 0 0 0 0 0 (.inl rfl)
      · rw [beqN (by have := List.length_pos_iff.2 h0; omega), cond_false]
        refine fin _ ?_
        have h3 : ∀ w ∈ L, w.length = 3 := fun w hw => by obtain ⟨a, b, c, e, _⟩ := hW w hw; rw [e]; rfl
        obtain ⟨w1, m1, e1⟩ := word_m k ⟨M.m, v.2.1, L, v.2.2.2.1⟩ p.a (by show L.length ≤ 100; omega) h0 h3
        obtain ⟨w2, m2, e2⟩ := word_m k ⟨M.m, v.2.1, L, v.2.2.2.1⟩ p.b (by show L.length ≤ 100; omega) h0 h3
        obtain ⟨a, b, c, rfl, f⟩ := hW w1 m1
        obtain ⟨a', b', c', rfl, f'⟩ := hW w2 m2
        unfold visorlaw27_Makes.j2
        rw [e1, Option.bind_some, e2, Option.bind_some, if_pos (by rfl), if_pos (by rfl)]
        exact j3_m (by omega) _ M (by omega) _ _ hc _ _ _ _ _ _ (.inr ⟨f, f'⟩)
    · refine ⟨M, L, ?_, .refl _⟩
      rw [decide_eq_false (show ¬ ((i : Int) < ((x1.length : Nat) : Int)) by omega), Bool.false_and, cond_false]
theorem cut_0 {α : Type} (l : List α) (n : Nat) : cut l 0 n = l.take n := by unfold cut; rw [List.drop_zero]
theorem awake29j {k : Nat} (hk : 80 ≤ k) : visorlaw29_awake.m k = some true := by
  have e1 : replay_Run.m k ⟨2, [], []⟩ [] [] = some ([], 0) := by
    rw [Run_m (by simp) (by simp) (fun _ h => by cases h) (fun _ h => by cases h) (fun _ h => by cases h) (by simp; omega)]; rfl
  have e2 : replay_Run.m k ⟨2, [⟨3, 0, -1, -1, -1, 9⟩], []⟩ [] [] = some ([9], 0) := by
    rw [Run_m (by simp) (by simp) (fun x h => by rw [List.mem_singleton.1 h]; exact ⟨by decide, by decide⟩) (fun _ h => by cases h) (fun _ h => by cases h) (by simp; omega)]
    rw [show eL [] [] ⟨2, [⟨3, 0, -1, -1, -1, 9⟩], []⟩ = 0 by decide, if_pos rfl]
    congr 2
  unfold visorlaw29_awake.m
  rw [e1, Option.bind_some, e2]; rfl
/-! What a machine did, done again. -/
theorem Mk.rt {n : Int} {T : List Int} {ops : List Tapi_Op} {vals : List Int} (h : Mk n T ops vals) : opsB n 0 0 ops = true := by
  induction h with
  | nil => rfl
  | @snoc ops vals o x h1 h2 h3 _ _ _ ih =>
    rw [opsB_app, ih, Bool.true_and, opsB_cons, Nat.zero_add, Nat.zero_add, h2, Bool.true_and, Bool.and_eq_true]
    refine ⟨?_, rfl⟩
    rw [Bool.or_eq_true, bne_iff_ne, beq_iff_eq]
    by_cases k2 : o.kind = 2
    · exact .inr (h3 k2)
    · exact .inl k2
theorem Mk.cw {n : Int} {T : List Int} {ops : List Tapi_Op} {vals : List Int} (h : Mk n T ops vals) : ∀ e ∈ ops, IsW e.c := by
  induction h with
  | nil => intro e he; cases he
  | snoc _ _ _ hc _ _ ih =>
    intro e he
    rcases List.mem_append.1 he with h | h
    · exact ih e h
    · rw [List.mem_singleton.1 h]; exact hc
def keyV (V : List Int) (i : Nat) (e : Tapi_Op) : Int := bxor .u64 (bxor .u64 (V.getD i 0) (atI V e.a)) (atI V e.b)
theorem xor_back {x a b : Int} (hx : IsW x) (ha : IsW a) (hb : IsW b) (e : Tapi_Op) (h : e.kind = 2) (d : Int) : bxor .u64 (bxor .u64 (evalI e a b d x) a) b = x := by
  obtain ⟨x, rfl⟩ := hx.u; obtain ⟨a, rfl⟩ := ha.u; obtain ⟨b, rfl⟩ := hb.u
  unfold evalI evalW
  rw [h, if_neg (by decide), if_pos rfl, bxor_u, bxor_u]
  simp only [BitVec.ofInt_natCast, u, BitVec.ofNat_toNat]
  congr 2
  apply BitVec.eq_of_getLsbD_eq; intro i hi
  simp only [BitVec.getLsbD_xor, BitVec.getLsbD_setWidth, hi, decide_true, Bool.true_and]
  cases x.getLsbD i <;> cases a.getLsbD i <;> cases b.getLsbD i <;> rfl
theorem Mk.vw {n : Int} {T : List Int} {ops : List Tapi_Op} {vals : List Int} (h : Mk n T ops vals) : ∀ x ∈ vals, IsW x := by
  induction h with
  | nil => intro e he; cases he
  | snoc _ _ _ _ _ _ ih => exact snoc_w ih (evalI_w _ _ _ _ _)
theorem Mk.run {n : Int} {T : List Int} {K M : List Int} {ops : List Tapi_Op} {vals : List Int} (h : Mk n T ops vals) : ∀ (W : List Int), (∀ j, j < cnt 1 ops → M.getD j 0 = T.getD j 0) → (∀ (i : Nat) (e : Tapi_Op), ops[i]? = some e → e.kind = 2 → K.getD (cnt 2 (ops.take i)) 0 = keyV (vals ++ W) i e) → runF K M [] false 0 0 [] ops = vals := by
  induction h with
  | nil => intro W _ _; rfl
  | @snoc ops vals o x h1 h2 h3 h4 h5 h6 ih =>
    intro W hM hK
    have hl := h1.len
    have hg := Rt_regs h2 (by omega)
    rw [runF_app _ _ _ _ _ _ _ _ _ rfl, ih ([evalI o (atI vals o.a) (atI vals o.b) (atI vals o.d) x] ++ W) (fun j hj => hM j (by rw [cnt_snoc]; omega)) (fun i e he hk => ?_), runF_cons]
    · show vals ++ [newX K M [] false (0 + cnt 1 ops) 0 vals o] = _
      congr 2
      unfold newX
      rw [if_neg (by simp), Nat.zero_add]
      unfold outX
      by_cases k1 : o.kind = 1
      · rw [if_pos k1, hM _ (by rw [cnt_snoc, if_pos k1]; omega), h6 k1]
      · rw [if_neg k1]
        by_cases k2 : o.kind = 2
        · rw [if_pos ⟨k2, rfl⟩, h3 k2, Int.toNat_natCast]
          have e1 := hK ops.length o (by rw [List.getElem?_append_right (Nat.le_refl _), Nat.sub_self]; rfl) k2
          rw [List.take_left] at e1
          rw [e1]
          unfold keyV
          rw [List.append_assoc, atI_append (by omega), atI_append (by omega), List.getD_eq_getElem?_getD, List.getElem?_append_right (by omega), hl, Nat.sub_self]
          show evalI o _ _ _ (bxor .u64 (bxor .u64 (evalI o _ _ _ x) _) _) = _
          rw [xor_back h5 (atI_w h1.vw _) (atI_w h1.vw _) o k2]
        · exact evalI_out o _ _ _ _ _ k1 k2
    · have hi : i < ops.length := by
        rcases Nat.lt_or_ge i ops.length with h | h
        · exact h
        · rw [List.getElem?_eq_none h] at he; cases he
      have e1 := hK i e (by rw [List.getElem?_append_left hi]; exact he) hk
      rw [List.take_append_of_le_length (by omega), List.append_assoc] at e1
      exact e1
/-- the words of keys that were given -/
def kyF (V : List Int) : Nat → List Tapi_Op → List Int
  | _, [] => []
  | i, e :: l => if e.kind = 2 then keyV V i e :: kyF V (i + 1) l else kyF V (i + 1) l
theorem kyF_cons (V : List Int) (i : Nat) (e : Tapi_Op) (l : List Tapi_Op) : kyF V i (e :: l) = if e.kind = 2 then keyV V i e :: kyF V (i + 1) l else kyF V (i + 1) l := rfl
theorem kyF_len (V : List Int) : ∀ (l : List Tapi_Op) (i : Nat), (kyF V i l).length = cnt 2 l
  | [], _ => rfl
  | e :: l, i => by
    rw [kyF_cons, cnt_cons]
    by_cases h : e.kind = 2
    · rw [if_pos h, if_pos h, List.length_cons, kyF_len V l]
    · rw [if_neg h, if_neg h, kyF_len V l]; omega
theorem bxor_w {a b : Int} (ha : IsW a) (hb : IsW b) : IsW (bxor .u64 a b) := by
  obtain ⟨a, rfl⟩ := ha.u; obtain ⟨b, rfl⟩ := hb.u
  rw [bxor_u]; exact isW_u _
theorem kyF_w {V : List Int} (hV : ∀ x ∈ V, IsW x) : ∀ (l : List Tapi_Op) (i : Nat), ∀ x ∈ kyF V i l, IsW x
  | [], _, x, h => by cases h
  | e :: l, i, x, h => by
    rw [kyF_cons] at h
    by_cases k2 : e.kind = 2
    · rw [if_pos k2] at h
      rcases List.mem_cons.1 h with rfl | h
      · exact bxor_w (bxor_w (getD_w hV _) (atI_w hV _)) (atI_w hV _)
      · exact kyF_w hV l _ x h
    · rw [if_neg k2] at h; exact kyF_w hV l _ x h
theorem kyF_at (V : List Int) : ∀ (l : List Tapi_Op) (s i : Nat) (e : Tapi_Op), l[i]? = some e → e.kind = 2 → (kyF V s l).getD (cnt 2 (l.take i)) 0 = keyV V (s + i) e
  | [], _, _, _, h, _ => by cases h
  | a :: l, s, 0, e, h, hk => by
    rw [List.getElem?_cons_zero] at h
    obtain rfl := Option.some.inj h
    rw [kyF_cons, if_pos hk]; rfl
  | a :: l, s, i + 1, e, h, hk => by
    rw [List.getElem?_cons_succ] at h
    have ih := kyF_at V l (s + 1) i e h hk
    rw [kyF_cons, List.take_succ_cons, cnt_cons, show s + (i + 1) = s + 1 + i by omega, ← ih]
    by_cases k2 : a.kind = 2
    · rw [if_pos k2, if_pos k2, List.getD_cons_succ]
    · rw [if_neg k2, if_neg k2]; rfl
theorem keys_l {t : Tapi_Trace} {V : List Int} (hV : V.length = t.ops.length) (hl : t.ops.length ≤ 1048576) : ∀ (d i k : Nat) (acc : List Int), i + d = t.ops.length → d < k → acc.length ≤ i → visorlaw29_ReplayMachine.l1 t V k acc (i : Int) = some (acc ++ kyF V i (t.ops.drop i))
  | 0, i, k, acc, hi, hk, ha => by
    obtain ⟨k, rfl⟩ : ∃ j, k = j + 1 := ⟨k - 1, by omega⟩
    unfold visorlaw29_ReplayMachine.l1
    rw [decide_eq_false (by omega), cond_false, List.drop_eq_nil_of_le (by omega)]
    show _ = some (acc ++ [])
    rw [List.append_nil]
  | d + 1, i, k, acc, hi, hk, ha => by
    obtain ⟨k, rfl⟩ : ∃ j, k = j + 1 := ⟨k - 1, by omega⟩
    have hlt : i < t.ops.length := by omega
    have hp : (0 : Int) ≤ (i : Int) := by omega
    unfold visorlaw29_ReplayMachine.l1
    rw [decide_eq_true (by omega), cond_true, if_pos hp, Int.toNat_natCast, List.getElem?_eq_getElem hlt, Option.bind_some, drop_cons hlt, kyF_cons]
    generalize t.ops[i] = e
    by_cases k2 : e.kind = 2
    · rw [beqT k2, cond_true, if_pos hp, Option.bind_some, if_pos hp, get_getD (by omega), Option.bind_some, Word_m, Option.bind_some, Word_m, Option.bind_some, if_pos (by simp only [List.length_cons, List.length_nil]; omega), if_pos k2]
      unfold visorlaw29_ReplayMachine.j6
      rw [wrapN (by omega), keys_l hV hl d (i + 1) k _ (by omega) (by omega) (by rw [List.length_append, List.length_cons, List.length_nil]; omega), List.append_assoc]
      rfl
    · rw [beqN k2, cond_false, if_neg k2]
      unfold visorlaw29_ReplayMachine.j6
      rw [wrapN (by omega), keys_l hV hl d (i + 1) k _ (by omega) (by omega) (by omega)]
theorem runF_pre (K M O : List Int) (bl : Bool) : ∀ (l : List Tapi_Op) (m o : Nat) (v : List Int), ∃ t, runF K M O bl m o v l = v ++ t
  | [], _, _, v => ⟨[], (List.append_nil v).symm⟩
  | e :: l, m, o, v => by
    obtain ⟨t, h⟩ := runF_pre K M O bl l (stM e m) (stO bl e o) (v ++ [newX K M O bl m o v e])
    exact ⟨_, by rw [runF_cons, h, List.append_assoc]⟩
theorem opF_cons (i : Nat) (e : Tapi_Op) (l : List Tapi_Op) : opF i (e :: l) = if e.kind = 12 then (i : Int) :: opF (i + 1) l else opF (i + 1) l := rfl
theorem blind_run {Z M W O : List Int} (hz : ∀ j, Z.getD j 0 = 0) : ∀ (l : List Tapi_Op) (m o : Nat) (v : List Int), (∀ j, O.getD (o + j) 0 = ((opF v.length l).map (atI W)).getD j 0) → runF Z M [] false m 0 v l = W → runF [] M O true m o v l = W
  | [], _, _, _, _, hW => hW
  | e :: l, m, o, v, hO, hW => by
    have e2 : stO false e 0 = 0 := by unfold stO; rw [if_neg (by simp)]
    rw [runF_cons, e2] at hW
    have hy : newX [] M O true m o v e = newX Z M [] false m 0 v e := by
      by_cases k12 : e.kind = 12
      · have h0 := hO 0
        rw [Nat.add_zero, opF_cons, if_pos k12, List.map_cons, List.getD_cons_zero] at h0
        obtain ⟨t, ht⟩ := runF_pre Z M [] false l (stM e m) 0 (v ++ [newX Z M [] false m 0 v e])
        generalize newX Z M [] false m 0 v e = y at ht hW
        unfold newX
        rw [if_pos ⟨k12, rfl⟩, h0, ← hW, ht]
        unfold atI
        rw [if_pos (by simp only [List.length_append, List.length_cons, List.length_nil]; omega), Int.toNat_natCast, List.getD_eq_getElem?_getD, List.append_assoc, List.getElem?_append_right (Nat.le_refl _), Nat.sub_self]
        rfl
      · unfold newX
        rw [if_neg (fun h => k12 h.1), if_neg (fun h => k12 h.1)]
        congr 1
        unfold outX
        by_cases k1 : e.kind = 1
        · rw [if_pos k1, if_pos k1]
        · rw [if_neg k1, if_neg k1, if_neg (by simp), hz]; split <;> rfl
    rw [runF_cons, hy]
    refine blind_run hz l _ _ _ (fun j => ?_) hW
    rw [List.length_append, List.length_cons, List.length_nil, Nat.zero_add]
    unfold stO
    by_cases k12 : e.kind = 12
    · have h1 := hO (j + 1)
      rw [opF_cons, if_pos k12, List.map_cons, List.getD_cons_succ] at h1
      rw [if_pos ⟨k12, rfl⟩, show o + 1 + j = o + (j + 1) by omega]; exact h1
    · have h1 := hO j
      rw [opF_cons, if_neg k12] at h1
      rw [if_neg (fun h => k12 h.1)]; exact h1
theorem zeros_at (n j : Nat) : (List.replicate n (0 : Int)).getD j 0 = 0 := by
  rw [List.getD_eq_getElem?_getD, List.getElem?_replicate]
  split <;> rfl
theorem runF_w {K M O : List Int} {bl : Bool} (hO : ∀ x ∈ O, IsW x) : ∀ (l : List Tapi_Op) (m o : Nat) (v : List Int), (∀ x ∈ v, IsW x) → ∀ x ∈ runF K M O bl m o v l, IsW x
  | [], _, _, _, hv => hv
  | e :: l, m, o, v, hv => by
    rw [runF_cons]
    exact runF_w hO l _ _ _ (snoc_w hv (newX_w hO _ _ _ _ _))
theorem machine_j3 {k : Nat} (hk : 4000000 ≤ k) (M : WM) {T : List Int} (hT : T.length ≤ 500) (hw : ∀ x ∈ T, IsW x) {n : Int} (hM : Mi n T M) : visorlaw29_ReplayMachine.j3 k T ⟨M.m.n, M.m.ops, M.m.blocks⟩ M.m.values = some true := by
  have hops := M.w.ok.ops; have hbl := M.blocks; have hval := M.w.ok.vals
  have hus := M.w.ok.used
  have hmk := hM.made
  generalize ht : (⟨M.m.n, M.m.ops, M.m.blocks⟩ : Tapi_Trace) = t
  have t1 : t.ops = M.m.ops := by rw [← ht]
  have t2 : t.blocks = M.m.blocks := by rw [← ht]
  have t3 : t.n = M.m.n := by rw [← ht]
  have htr : trB t = true := by
    unfold trB
    rw [t1, t2, t3, hM.hn, hmk.rt, (ordB_iff _ _ _).2 M.w.bl, decide_eq_true hops, Bool.and_true, Bool.and_true, Bool.and_true, Bool.or_eq_true, beq_iff_eq, beq_iff_eq]
    exact hM.hn ▸ M.w.ok.n
  have hn1 : cnt 1 t.ops ≤ T.length := by
    have h1 := hM.used; rw [hM.tape] at hus; rw [t1]; omega
  have hl : t.ops.length ≤ 1048576 := by rw [t1]; exact hops
  have hb : t.blocks.length ≤ 1048576 := by rw [t2]; exact hbl
  have hc : ∀ e ∈ t.ops, IsW e.c := by rw [t1]; exact hmk.cw
  rw [← t1] at hmk hval
  generalize M.m.values = V at hmk hval
  have hVw := hmk.vw
  have c1 : tal t 1 = cnt 1 t.ops := tal_at t 1 (by omega)
  have c2 : tal t 2 = cnt 2 t.ops := tal_at t 2 (by omega)
  have n2 := cnt_le 2 t.ops
  have hTl : (T.take (cnt 1 t.ops)).length = cnt 1 t.ops := by rw [List.length_take]; omega
  have hTw : ∀ x ∈ T.take (cnt 1 t.ops), IsW x := fun x hx => hw x (List.mem_of_mem_take hx)
  have hZw : ∀ x ∈ List.replicate (cnt 2 t.ops) (0 : Int), IsW x := fun x hx => by rw [(List.mem_replicate.1 hx).2]; exact isW_zero
  have r1 := Run_m (t := t) (K := kyF V 0 t.ops) (M := T.take (cnt 1 t.ops)) (by omega) (by omega) hc (kyF_w hVw _ _) hTw (k := k) (by omega)
  rw [if_pos (eL_0 htr (kyF_len _ _ _) hTl), eL_0 htr (kyF_len _ _ _) hTl, hmk.run [] (fun j hj => getD_take hj) (fun i e he h2 => by rw [List.append_nil, kyF_at V t.ops 0 i e he h2, Nat.zero_add])] at r1
  have r2 := Run_m (t := t) (K := List.replicate (cnt 2 t.ops) 0) (M := T.take (cnt 1 t.ops)) (by omega) (by omega) hc hZw hTw (k := k) (by omega)
  rw [if_pos (eL_0 htr List.length_replicate hTl), eL_0 htr List.length_replicate hTl] at r2
  obtain ⟨W, hW⟩ : ∃ W, W = runF (List.replicate (cnt 2 t.ops) 0) (T.take (cnt 1 t.ops)) [] false 0 0 [] t.ops := ⟨_, rfl⟩
  rw [← hW] at r2
  have hWl : W.length = t.ops.length := by rw [hW, runF_len]; simp
  have hWw : ∀ x ∈ W, IsW x := by
    rw [hW]; exact runF_w (O := []) (fun _ h => by cases h) _ _ _ _ (fun _ h => by cases h)
  have hOw : ∀ x ∈ (opF 0 t.ops).map (atI W), IsW x := fun x hx => by
    obtain ⟨r, _, rfl⟩ := List.mem_map.1 hx
    exact atI_w hWw r
  have hOl : ((opF 0 t.ops).map (atI W)).length = cnt 12 t.ops := by rw [List.length_map, opF_len]
  have r3 := Blind_m (t := t) (K := []) (M := T.take (cnt 1 t.ops)) (O := (opF 0 t.ops).map (atI W)) (by omega) (by omega) hc (fun _ h => by cases h) hTw hOw (k := k) (by omega)
  rw [if_pos (eB_0 htr hOl hTl), eB_0 htr hOl hTl, blind_run (zeros_at _) t.ops 0 0 [] (fun j => by rw [Nat.zero_add]; rfl) hW.symm] at r3
  unfold visorlaw29_ReplayMachine.j3
  rw [rTally_m (by omega) (by omega), Option.bind_some, if_pos (cs13_len _), rRight_m (by omega) (by omega), Option.bind_some, htr, Bool.not_true, cond_false, cs13_get _ (j := 1) (by omega), Option.bind_some, c1,
    decide_eq_false (by omega), show (((V.length : Nat) : Int) != ((t.ops.length : Nat) : Int)) = false by rw [bne_eq_false_iff_eq]; omega]
  unfold visorlaw29_ReplayMachine.j4
  rw [Bool.or_false, cond_false, cs13_get _ (j := 2) (by omega), Option.bind_some, c2, if_pos (by omega), Int.toNat_natCast]
  unfold visorlaw29_ReplayMachine.j5
  have kl := keys_l hval hl t.ops.length 0 k [] (by omega) (by omega) (by simp)
  rw [show ((0 : Nat) : Int) = 0 from rfl, List.drop_zero, List.nil_append] at kl
  rw [kl, Option.bind_some, cs13_get _ (j := 1) (by omega), Option.bind_some, c1, Int.toNat_natCast, if_pos (by omega), cut_0, r1, Option.bind_some, Option.bind_some, Int.toNat_natCast, if_pos (by omega), cut_0, r2, Option.bind_some,
    Option.bind_some, Int.toNat_natCast, if_pos (by omega), cut_0, Opened_m (by omega) _ (by omega), Option.bind_some, r3, Option.bind_some]
  dsimp only
  rw [show ((((0 : Int) == 0) && ((0 : Int) == 0)) && ((0 : Int) == 0)) = true from rfl, cond_true, same29 _ (by omega) (by omega), Option.bind_some, cond_true, same29 _ (by omega) (by omega), Option.bind_some, cond_true, awake29j (by omega), Option.bind_some]
  rfl
theorem makes_n {n : Int} (hn : n = 2 ∨ n = 3) {x1 : List Tvisorlaw27_Act} (hx : ∀ x ∈ x1, IsW x.c) {T : List Int} (hT : T.length ≤ 500) (hw : ∀ x ∈ T, IsW x) {k : Nat} (hk : 200 ≤ k) :
    ∃ (M : WM) (L : List Cells), Mi n T M ∧ visorlaw27_Makes.j1 k x1 T n = some (Sum.inr (Sum.inr (M.m, absM (startM n 4000 T), L, [], M.m.bad == 0))) := by
  obtain ⟨M, L, e, s⟩ := makes_l hx (startM n 4000 T, absM (startM n 4000 T), [], [], true) 40 0 k (by omega) (by omega) (start n 4000 T hn (by omega) hw (by omega)) [] rfl (fun _ h => by cases h)
  refine ⟨M, L, Mi.stp ⟨rfl, .nil, rfl, rfl, rfl⟩ s, ?_⟩
  unfold visorlaw27_Makes.j1
  rw [Begins_m k hn (by omega) (by omega) (by omega), Option.bind_some]
  dsimp only
  rw [Bool.not_true, cond_false]
  have e' : visorlaw27_Makes.l1 x1 (startM n 4000 T, absM (startM n 4000 T), [], [], true) k (startM n 4000 T) [] 0 = some (M.m, L) := e
  rw [e', Option.bind_some]
  rfl
theorem machine_j1 (b : Bool) {x1 : List Tvisorlaw27_Act} (hx : ∀ x ∈ x1, IsW x.c) {T : List Int} (hT : T.length ≤ 500) (hw : ∀ x ∈ T, IsW x) {k : Nat} (hk : 4000000 ≤ k) : visorlaw29_ReplayMachine.j1 k b x1 T = some true := by
  have h : ∃ n, (n = 2 ∨ n = 3) ∧ visorlaw27_Makes.m k b x1 T = visorlaw27_Makes.j1 k x1 T n := by
    cases b
    · exact ⟨2, .inl rfl, rfl⟩
    · exact ⟨3, .inr rfl, rfl⟩
  obtain ⟨n, hn, e⟩ := h
  obtain ⟨M, L, hM, e1⟩ := makes_n hn hx hT hw (k := k) (by omega)
  unfold visorlaw29_ReplayMachine.j1
  rw [e, e1, Option.bind_some]
  dsimp only
  unfold visorlaw29_ReplayMachine.j2
  cases hb : M.m.bad == 0
  · rw [Bool.not_false, cond_true, awake29j (by omega)]; rfl
  · rw [Bool.not_true, cond_false, Trace_w, Option.bind_some, Values_w, Option.bind_some]
    exact machine_j3 hk M hT hw hM
theorem ReplayMachine_pure (x0 : Bool) (x1 : List Tvisorlaw27_Act) (x2 : List Int) (b1 : ∀ x ∈ x1, x.ok) (n1 : x1.length * 48 ≤ 140737488351232) (b2 : ∀ x ∈ x2, IntKind.u64.min ≤ x ∧ x ≤ IntKind.u64.max) (n2 : x2.length * 8 ≤ 140737488351232) : ∃ k, visorlaw29_ReplayMachine.m k x0 x1 x2 = some true := by
  have hx : ∀ x ∈ x1, IsW x.c := fun x h => (b1 x h).2.2.2.2.2.1
  have hw : ∀ x ∈ x2, IsW x := b2
  refine ⟨4000000, ?_⟩
  generalize hk : 4000000 = k
  unfold visorlaw29_ReplayMachine.m
  by_cases h : x2.length ≤ 500
  · rw [decide_eq_false (by omega), cond_false]
    exact machine_j1 x0 hx h hw (by omega)
  · rw [decide_eq_true (by omega), cond_true, if_pos (by omega), cut_0]
    exact machine_j1 x0 hx (by rw [List.length_take]; omega) (fun x h => hw x (List.mem_of_mem_take h)) (by omega)
end Go.Proofs.Ytkabdodcacfmlaa
