/- The plain law behind TimesEven: its model answers true for all data that fit; no condition beyond their kinds. -/
import Derived.Test.YtflgefjocjpjaaaMTimesEven3
namespace Go.Proofs.Ytflgefjocjpjaaa
open Go Go.Vk
set_option linter.unusedVariables false

def Tvisorlaw22_Asked.ok (x : Tvisorlaw22_Asked) : Prop := (IntKind.i64.min ≤ x.kind ∧ x.kind ≤ IntKind.i64.max) ∧ (IntKind.u64.min ≤ x.a0 ∧ x.a0 ≤ IntKind.u64.max) ∧ (IntKind.u64.min ≤ x.a1 ∧ x.a1 ≤ IntKind.u64.max) ∧ (IntKind.u64.min ≤ x.a2 ∧ x.a2 ≤ IntKind.u64.max) ∧ (IntKind.u64.min ≤ x.b0 ∧ x.b0 ≤ IntKind.u64.max) ∧ (IntKind.u64.min ≤ x.b1 ∧ x.b1 ≤ IntKind.u64.max) ∧ (IntKind.u64.min ≤ x.b2 ∧ x.b2 ≤ IntKind.u64.max) ∧ (∀ y ∈ x.masks, IntKind.u64.min ≤ y ∧ y ≤ IntKind.u64.max) ∧ x.masks.length ≤ maxLen ∧ True

/-! TimesEven: what is told, written out; only lowest bits count. -/
def cells4 (f : Nat → Int) : Cells := [ci (f 0), ci (f 1), ci (f 2), ci (f 3)]
def bump (f : Nat → Int) (r : Nat) (i : Nat) : Int := if i = r then f i + 1 else f i
theorem cells4_get (f : Nat → Int) (r : Nat) (h : r < 4) : getI .i64 (cells4 f) r = some (f r) := by
  rcases (show r = 0 ∨ r = 1 ∨ r = 2 ∨ r = 3 by omega) with rfl | rfl | rfl | rfl <;> rfl
theorem cells4_set (f : Nat → Int) (r : Nat) (h : r < 4) : (cells4 f).set r (ci (f r + 1)) = cells4 (bump f r) := by
  rcases (show r = 0 ∨ r = 1 ∨ r = 2 ∨ r = 3 by omega) with rfl | rfl | rfl | rfl <;> rfl
theorem wide {f : Nat → Int} {c : Int} (h : ∀ i, -c ≤ f i ∧ f i ≤ c) (hc : c ≤ 1000) : ∀ i, -1000 ≤ f i ∧ f i ≤ 1000 := fun i => by have := h i; omega
def rr (q e : Int) : Int := IntKind.i64.wrap (IntKind.i64.wrap (q * 2) + IntKind.i64.wrap (Int.tmod e 2))
def bt (w : BitVec 64) : Nat := w.toNat % 2
theorem rr_u (q : Nat) (hq : q < 100) (w : BitVec 64) : rr (q : Int) (u w) = ((2 * q + bt w : Nat) : Int) := by
  have e : Int.tmod (u w) 2 = ((bt w : Nat) : Int) := rfl
  have hb : bt w < 2 := Nat.mod_lt _ (by omega)
  unfold rr
  rw [e, wrap_i64_of (x := (q : Int) * 2) (by omega) (by omega), wrap_i64_of (x := ((bt w : Nat) : Int)) (by omega) (by omega), wrap_i64_of (by omega) (by omega)]
  omega
theorem rr2 (x y : BitVec 64) : rr (rr 0 (u x)) (u y) = ((2 * bt x + bt y : Nat) : Int) := by
  have h := rr_u 0 (by omega) x
  rw [show ((0 : Nat) : Int) = 0 from rfl] at h
  rw [h, rr_u _ (by have := Nat.mod_lt x.toNat (show 0 < 2 by omega); unfold bt; omega)]
  omega
theorem rr1 (x : BitVec 64) : rr 0 (u x) = ((bt x : Nat) : Int) := by
  have h := rr_u 0 (by omega) x
  rw [show ((0 : Nat) : Int) = 0 from rfl] at h
  rw [h]; omega
theorem bt_bit (w : BitVec 64) : bt w = (w.getLsbD 0).toNat := by
  unfold bt BitVec.getLsbD
  rw [Nat.testBit_zero]
  rcases Nat.mod_two_eq_zero_or_one w.toNat with h | h <;> rw [h] <;> rfl
theorem awake22_m (k : Nat) : visorlaw22_awake.m (k + 40) = some true := by kernel_rfl
def start2 (r0 : Int) : Twire_Machine := ⟨2, 60, 0, 0, 0, false, 0, 0, 0, ⟨[r0], ⟨0⟩, 1⟩, [], [], []⟩
def laid2A (a0 a1 r0 : Int) : Twire_Machine := ⟨2, 60, 0, 0, 0, false, 0, 0, 0, ⟨[r0], ⟨0⟩, 1⟩, [⟨3, 0, -1, -1, -1, a0⟩, ⟨3, 1, -1, -1, -1, a1⟩], [a0, a1], []⟩
def laid2B (a0 a1 b0 b1 r0 : Int) : Twire_Machine := ⟨2, 60, 0, 0, 0, false, 0, 0, 0, ⟨[r0], ⟨0⟩, 1⟩, [⟨3, 0, -1, -1, -1, a0⟩, ⟨3, 1, -1, -1, -1, a1⟩, ⟨3, 0, -1, -1, -1, b0⟩, ⟨3, 1, -1, -1, -1, b1⟩], [a0, a1, b0, b1], []⟩
theorem begins22_2 (r0 : Int) (k : Nat) : visorlaw20_Begins.m (k + 40) 2 [r0] 60 = some (Sum.inr (start2 r0, ⟨2, 60, 0, 0, 0, 0, 0, 0, [], [], [], ⟨[r0], 0, 1⟩, false⟩, [], [], true)) := by kernel_rfl
theorem laid22_2A (a0 a1 r0 a2 : Int) (k : Nat) : visorlaw22_laid.m (k + 40) (start2 r0) 2 [cw a0, cw a1, cw a2] = some ([ci 0, ci 1, ci (-1)], laid2A a0 a1 r0) := by kernel_rfl
theorem laid22_2B (a0 a1 b0 b1 r0 b2 : Int) (k : Nat) : visorlaw22_laid.m (k + 40) (laid2A a0 a1 r0) 2 [cw b0, cw b1, cw b2] = some ([ci 2, ci 3, ci (-1)], laid2B a0 a1 b0 b1 r0) := by kernel_rfl
def valsDom2 (a0 a1 b0 b1 r0 : Int) : List Int := [a0, a1, b0, b1, r0, band .u64 a0 b0, band .u64 a0 b1, band .u64 a1 b0, band .u64 a1 b1, bxor .u64 (band .u64 a0 b1) r0, bxor .u64 (band .u64 a0 b0) (bxor .u64 (band .u64 a0 b1) r0), bxor .u64 (band .u64 a1 b0) r0, bxor .u64 (band .u64 a1 b1) (bxor .u64 (band .u64 a1 b0) r0)]
def endDom2 (a0 a1 b0 b1 r0 : Int) : Twire_Machine := ⟨2, 60, 0, 0, 1, false, 0, 4, 0, ⟨[r0], ⟨1⟩, 0⟩, [⟨3, 0, -1, -1, -1, a0⟩, ⟨3, 1, -1, -1, -1, a1⟩, ⟨3, 0, -1, -1, -1, b0⟩, ⟨3, 1, -1, -1, -1, b1⟩, ⟨1, -1, -1, -1, -1, 0⟩, ⟨7, 0, 0, 2, -1, 0⟩, ⟨7, 0, 0, 3, -1, 0⟩, ⟨7, 1, 1, 2, -1, 0⟩, ⟨7, 1, 1, 3, -1, 0⟩, ⟨5, 0, 6, 4, -1, 0⟩, ⟨5, 0, 5, 9, -1, 0⟩, ⟨5, 1, 7, 4, -1, 0⟩, ⟨5, 1, 8, 11, -1, 0⟩], valsDom2 a0 a1 b0 b1 r0, [⟨3, 4, 13⟩]⟩
theorem runDom2 (a0 a1 b0 b1 r0 : Int) (k : Nat) : times_Dom.m (k + 40) (laid2B a0 a1 b0 b1 r0) [ci 0, ci 1, ci (-1)] [ci 2, ci 3, ci (-1)] = some ([ci 10, ci 12, ci (-1)], endDom2 a0 a1 b0 b1 r0) := by kernel_rfl
theorem valuesDom2 (a0 a1 b0 b1 r0 : Int) (k : Nat) : wire_Machine_Values.m (k + 40) (endDom2 a0 a1 b0 b1 r0) = some (valsDom2 a0 a1 b0 b1 r0) := by kernel_rfl
theorem rowDom2_0 (a0 a1 b0 b1 r0 : Int) (k : Nat) : visorlaw22_TimesEven.l3 0 2 [ci 10, ci 12, ci (-1)] (valsDom2 a0 a1 b0 b1 r0) (k + 40) 0 0 = some (.inr (rr 0 (bxor .u64 (band .u64 a1 b1) (bxor .u64 (band .u64 a1 b0) r0)))) := by kernel_rfl
theorem rowDom2_1 (a0 a1 b0 b1 r0 : Int) (k : Nat) : visorlaw22_TimesEven.l3 1 2 [ci 10, ci 12, ci (-1)] (valsDom2 a0 a1 b0 b1 r0) (k + 40) 0 0 = some (.inr (rr 0 (bxor .u64 (band .u64 a0 b0) (bxor .u64 (band .u64 a0 b1) r0)))) := by kernel_rfl
def valsIsw2 (a0 a1 b0 b1 r0 : Int) : List Int := [a0, a1, b0, b1, r0, band .u64 a0 b0, band .u64 a0 b1, band .u64 a1 b0, band .u64 a1 b1, bxor .u64 (band .u64 a0 b0) r0, bxor .u64 r0 (band .u64 a0 b1), bxor .u64 (bxor .u64 r0 (band .u64 a0 b1)) (band .u64 a1 b0), bxor .u64 (band .u64 a1 b1) (bxor .u64 (bxor .u64 r0 (band .u64 a0 b1)) (band .u64 a1 b0))]
def endIsw2 (a0 a1 b0 b1 r0 : Int) : Twire_Machine := ⟨2, 60, 0, 0, 1, false, 0, 4, 0, ⟨[r0], ⟨1⟩, 0⟩, [⟨3, 0, -1, -1, -1, a0⟩, ⟨3, 1, -1, -1, -1, a1⟩, ⟨3, 0, -1, -1, -1, b0⟩, ⟨3, 1, -1, -1, -1, b1⟩, ⟨1, -1, -1, -1, -1, 0⟩, ⟨7, 0, 0, 2, -1, 0⟩, ⟨7, 0, 0, 3, -1, 0⟩, ⟨7, 1, 1, 2, -1, 0⟩, ⟨7, 1, 1, 3, -1, 0⟩, ⟨5, 0, 5, 4, -1, 0⟩, ⟨5, 1, 4, 6, -1, 0⟩, ⟨5, 1, 10, 7, -1, 0⟩, ⟨5, 1, 8, 11, -1, 0⟩], valsIsw2 a0 a1 b0 b1 r0, [⟨3, 4, 13⟩]⟩
theorem runIsw2 (a0 a1 b0 b1 r0 : Int) (k : Nat) : times_Isw.m (k + 40) (laid2B a0 a1 b0 b1 r0) [ci 0, ci 1, ci (-1)] [ci 2, ci 3, ci (-1)] = some ([ci 9, ci 12, ci (-1)], endIsw2 a0 a1 b0 b1 r0) := by kernel_rfl
theorem valuesIsw2 (a0 a1 b0 b1 r0 : Int) (k : Nat) : wire_Machine_Values.m (k + 40) (endIsw2 a0 a1 b0 b1 r0) = some (valsIsw2 a0 a1 b0 b1 r0) := by kernel_rfl
theorem rowIsw2_0 (a0 a1 b0 b1 r0 : Int) (k : Nat) : visorlaw22_TimesEven.l3 0 2 [ci 9, ci 12, ci (-1)] (valsIsw2 a0 a1 b0 b1 r0) (k + 40) 0 0 = some (.inr (rr 0 (bxor .u64 (band .u64 a1 b1) (bxor .u64 (bxor .u64 r0 (band .u64 a0 b1)) (band .u64 a1 b0))))) := by kernel_rfl
theorem rowIsw2_1 (a0 a1 b0 b1 r0 : Int) (k : Nat) : visorlaw22_TimesEven.l3 1 2 [ci 9, ci 12, ci (-1)] (valsIsw2 a0 a1 b0 b1 r0) (k + 40) 0 0 = some (.inr (rr 0 (bxor .u64 (band .u64 a0 b0) r0))) := by kernel_rfl
def start3 (r0 r1 r2 : Int) : Twire_Machine := ⟨3, 60, 0, 0, 0, false, 0, 0, 0, ⟨[r0, r1, r2], ⟨0⟩, 3⟩, [], [], []⟩
def laid3A (a0 a1 a2 r0 r1 r2 : Int) : Twire_Machine := ⟨3, 60, 0, 0, 0, false, 0, 0, 0, ⟨[r0, r1, r2], ⟨0⟩, 3⟩, [⟨3, 0, -1, -1, -1, a0⟩, ⟨3, 1, -1, -1, -1, a1⟩, ⟨3, 2, -1, -1, -1, a2⟩], [a0, a1, a2], []⟩
def laid3B (a0 a1 a2 b0 b1 b2 r0 r1 r2 : Int) : Twire_Machine := ⟨3, 60, 0, 0, 0, false, 0, 0, 0, ⟨[r0, r1, r2], ⟨0⟩, 3⟩, [⟨3, 0, -1, -1, -1, a0⟩, ⟨3, 1, -1, -1, -1, a1⟩, ⟨3, 2, -1, -1, -1, a2⟩, ⟨3, 0, -1, -1, -1, b0⟩, ⟨3, 1, -1, -1, -1, b1⟩, ⟨3, 2, -1, -1, -1, b2⟩], [a0, a1, a2, b0, b1, b2], []⟩
theorem begins22_3 (r0 r1 r2 : Int) (k : Nat) : visorlaw20_Begins.m (k + 40) 3 [r0, r1, r2] 60 = some (Sum.inr (start3 r0 r1 r2, ⟨3, 60, 0, 0, 0, 0, 0, 0, [], [], [], ⟨[r0, r1, r2], 0, 3⟩, false⟩, [], [], true)) := by kernel_rfl
theorem laid22_3A (a0 a1 a2 r0 r1 r2 : Int) (k : Nat) : visorlaw22_laid.m (k + 40) (start3 r0 r1 r2) 3 [cw a0, cw a1, cw a2] = some ([ci 0, ci 1, ci 2], laid3A a0 a1 a2 r0 r1 r2) := by kernel_rfl
theorem laid22_3B (a0 a1 a2 b0 b1 b2 r0 r1 r2 : Int) (k : Nat) : visorlaw22_laid.m (k + 40) (laid3A a0 a1 a2 r0 r1 r2) 3 [cw b0, cw b1, cw b2] = some ([ci 3, ci 4, ci 5], laid3B a0 a1 a2 b0 b1 b2 r0 r1 r2) := by kernel_rfl
def valsDom3 (a0 a1 a2 b0 b1 b2 r0 r1 r2 : Int) : List Int := [a0, a1, a2, b0, b1, b2, r0, r1, r2, band .u64 a0 b0, band .u64 a0 b1, band .u64 a0 b2, band .u64 a1 b0, band .u64 a1 b1, band .u64 a1 b2, band .u64 a2 b0, band .u64 a2 b1, band .u64 a2 b2, bxor .u64 (band .u64 a0 b1) r0, bxor .u64 (band .u64 a0 b0) (bxor .u64 (band .u64 a0 b1) r0), bxor .u64 (band .u64 a0 b2) r1, bxor .u64 (bxor .u64 (band .u64 a0 b0) (bxor .u64 (band .u64 a0 b1) r0)) (bxor .u64 (band .u64 a0 b2) r1), bxor .u64 (band .u64 a1 b0) r0, bxor .u64 (band .u64 a1 b1) (bxor .u64 (band .u64 a1 b0) r0), bxor .u64 (band .u64 a1 b2) r2, bxor .u64 (bxor .u64 (band .u64 a1 b1) (bxor .u64 (band .u64 a1 b0) r0)) (bxor .u64 (band .u64 a1 b2) r2), bxor .u64 (band .u64 a2 b0) r1, bxor .u64 (band .u64 a2 b2) (bxor .u64 (band .u64 a2 b0) r1), bxor .u64 (band .u64 a2 b1) r2, bxor .u64 (bxor .u64 (band .u64 a2 b2) (bxor .u64 (band .u64 a2 b0) r1)) (bxor .u64 (band .u64 a2 b1) r2)]
def endDom3 (a0 a1 a2 b0 b1 b2 r0 r1 r2 : Int) : Twire_Machine := ⟨3, 60, 0, 0, 3, false, 0, 6, 0, ⟨[r0, r1, r2], ⟨3⟩, 0⟩, [⟨3, 0, -1, -1, -1, a0⟩, ⟨3, 1, -1, -1, -1, a1⟩, ⟨3, 2, -1, -1, -1, a2⟩, ⟨3, 0, -1, -1, -1, b0⟩, ⟨3, 1, -1, -1, -1, b1⟩, ⟨3, 2, -1, -1, -1, b2⟩, ⟨1, -1, -1, -1, -1, 0⟩, ⟨1, -1, -1, -1, -1, 0⟩, ⟨1, -1, -1, -1, -1, 0⟩, ⟨7, 0, 0, 3, -1, 0⟩, ⟨7, 0, 0, 4, -1, 0⟩, ⟨7, 0, 0, 5, -1, 0⟩, ⟨7, 1, 1, 3, -1, 0⟩, ⟨7, 1, 1, 4, -1, 0⟩, ⟨7, 1, 1, 5, -1, 0⟩, ⟨7, 2, 2, 3, -1, 0⟩, ⟨7, 2, 2, 4, -1, 0⟩, ⟨7, 2, 2, 5, -1, 0⟩, ⟨5, 0, 10, 6, -1, 0⟩, ⟨5, 0, 9, 18, -1, 0⟩, ⟨5, 0, 11, 7, -1, 0⟩, ⟨5, 0, 19, 20, -1, 0⟩, ⟨5, 1, 12, 6, -1, 0⟩, ⟨5, 1, 13, 22, -1, 0⟩, ⟨5, 1, 14, 8, -1, 0⟩, ⟨5, 1, 23, 24, -1, 0⟩, ⟨5, 2, 15, 7, -1, 0⟩, ⟨5, 2, 17, 26, -1, 0⟩, ⟨5, 2, 16, 8, -1, 0⟩, ⟨5, 2, 27, 28, -1, 0⟩], valsDom3 a0 a1 a2 b0 b1 b2 r0 r1 r2, [⟨3, 6, 30⟩]⟩
theorem runDom3 (a0 a1 a2 b0 b1 b2 r0 r1 r2 : Int) (k : Nat) : times_Dom.m (k + 40) (laid3B a0 a1 a2 b0 b1 b2 r0 r1 r2) [ci 0, ci 1, ci 2] [ci 3, ci 4, ci 5] = some ([ci 21, ci 25, ci 29], endDom3 a0 a1 a2 b0 b1 b2 r0 r1 r2) := by kernel_rfl
theorem valuesDom3 (a0 a1 a2 b0 b1 b2 r0 r1 r2 : Int) (k : Nat) : wire_Machine_Values.m (k + 40) (endDom3 a0 a1 a2 b0 b1 b2 r0 r1 r2) = some (valsDom3 a0 a1 a2 b0 b1 b2 r0 r1 r2) := by kernel_rfl
theorem rowDom3_0 (a0 a1 a2 b0 b1 b2 r0 r1 r2 : Int) (k : Nat) : visorlaw22_TimesEven.l3 0 3 [ci 21, ci 25, ci 29] (valsDom3 a0 a1 a2 b0 b1 b2 r0 r1 r2) (k + 40) 0 0 = some (.inr (rr (rr 0 (bxor .u64 (bxor .u64 (band .u64 a1 b1) (bxor .u64 (band .u64 a1 b0) r0)) (bxor .u64 (band .u64 a1 b2) r2))) (bxor .u64 (bxor .u64 (band .u64 a2 b2) (bxor .u64 (band .u64 a2 b0) r1)) (bxor .u64 (band .u64 a2 b1) r2)))) := by kernel_rfl
theorem rowDom3_1 (a0 a1 a2 b0 b1 b2 r0 r1 r2 : Int) (k : Nat) : visorlaw22_TimesEven.l3 1 3 [ci 21, ci 25, ci 29] (valsDom3 a0 a1 a2 b0 b1 b2 r0 r1 r2) (k + 40) 0 0 = some (.inr (rr (rr 0 (bxor .u64 (bxor .u64 (band .u64 a0 b0) (bxor .u64 (band .u64 a0 b1) r0)) (bxor .u64 (band .u64 a0 b2) r1))) (bxor .u64 (bxor .u64 (band .u64 a2 b2) (bxor .u64 (band .u64 a2 b0) r1)) (bxor .u64 (band .u64 a2 b1) r2)))) := by kernel_rfl
theorem rowDom3_2 (a0 a1 a2 b0 b1 b2 r0 r1 r2 : Int) (k : Nat) : visorlaw22_TimesEven.l3 2 3 [ci 21, ci 25, ci 29] (valsDom3 a0 a1 a2 b0 b1 b2 r0 r1 r2) (k + 40) 0 0 = some (.inr (rr (rr 0 (bxor .u64 (bxor .u64 (band .u64 a0 b0) (bxor .u64 (band .u64 a0 b1) r0)) (bxor .u64 (band .u64 a0 b2) r1))) (bxor .u64 (bxor .u64 (band .u64 a1 b1) (bxor .u64 (band .u64 a1 b0) r0)) (bxor .u64 (band .u64 a1 b2) r2)))) := by kernel_rfl
def valsIsw3 (a0 a1 a2 b0 b1 b2 r0 r1 r2 : Int) : List Int := [a0, a1, a2, b0, b1, b2, r0, r1, r2, band .u64 a0 b0, band .u64 a0 b1, band .u64 a0 b2, band .u64 a1 b0, band .u64 a1 b1, band .u64 a1 b2, band .u64 a2 b0, band .u64 a2 b1, band .u64 a2 b2, bxor .u64 (band .u64 a0 b0) r0, bxor .u64 (bxor .u64 (band .u64 a0 b0) r0) r1, bxor .u64 r0 (band .u64 a0 b1), bxor .u64 (bxor .u64 r0 (band .u64 a0 b1)) (band .u64 a1 b0), bxor .u64 (band .u64 a1 b1) (bxor .u64 (bxor .u64 r0 (band .u64 a0 b1)) (band .u64 a1 b0)), bxor .u64 (bxor .u64 (band .u64 a1 b1) (bxor .u64 (bxor .u64 r0 (band .u64 a0 b1)) (band .u64 a1 b0))) r2, bxor .u64 r1 (band .u64 a0 b2), bxor .u64 (bxor .u64 r1 (band .u64 a0 b2)) (band .u64 a2 b0), bxor .u64 (band .u64 a2 b2) (bxor .u64 (bxor .u64 r1 (band .u64 a0 b2)) (band .u64 a2 b0)), bxor .u64 r2 (band .u64 a1 b2), bxor .u64 (bxor .u64 r2 (band .u64 a1 b2)) (band .u64 a2 b1), bxor .u64 (bxor .u64 (band .u64 a2 b2) (bxor .u64 (bxor .u64 r1 (band .u64 a0 b2)) (band .u64 a2 b0))) (bxor .u64 (bxor .u64 r2 (band .u64 a1 b2)) (band .u64 a2 b1))]
def endIsw3 (a0 a1 a2 b0 b1 b2 r0 r1 r2 : Int) : Twire_Machine := ⟨3, 60, 0, 0, 3, false, 0, 6, 0, ⟨[r0, r1, r2], ⟨3⟩, 0⟩, [⟨3, 0, -1, -1, -1, a0⟩, ⟨3, 1, -1, -1, -1, a1⟩, ⟨3, 2, -1, -1, -1, a2⟩, ⟨3, 0, -1, -1, -1, b0⟩, ⟨3, 1, -1, -1, -1, b1⟩, ⟨3, 2, -1, -1, -1, b2⟩, ⟨1, -1, -1, -1, -1, 0⟩, ⟨1, -1, -1, -1, -1, 0⟩, ⟨1, -1, -1, -1, -1, 0⟩, ⟨7, 0, 0, 3, -1, 0⟩, ⟨7, 0, 0, 4, -1, 0⟩, ⟨7, 0, 0, 5, -1, 0⟩, ⟨7, 1, 1, 3, -1, 0⟩, ⟨7, 1, 1, 4, -1, 0⟩, ⟨7, 1, 1, 5, -1, 0⟩, ⟨7, 2, 2, 3, -1, 0⟩, ⟨7, 2, 2, 4, -1, 0⟩, ⟨7, 2, 2, 5, -1, 0⟩, ⟨5, 0, 9, 6, -1, 0⟩, ⟨5, 0, 18, 7, -1, 0⟩, ⟨5, 1, 6, 10, -1, 0⟩, ⟨5, 1, 20, 12, -1, 0⟩, ⟨5, 1, 13, 21, -1, 0⟩, ⟨5, 1, 22, 8, -1, 0⟩, ⟨5, 2, 7, 11, -1, 0⟩, ⟨5, 2, 24, 15, -1, 0⟩, ⟨5, 2, 17, 25, -1, 0⟩, ⟨5, 2, 8, 14, -1, 0⟩, ⟨5, 2, 27, 16, -1, 0⟩, ⟨5, 2, 26, 28, -1, 0⟩], valsIsw3 a0 a1 a2 b0 b1 b2 r0 r1 r2, [⟨3, 6, 30⟩]⟩
theorem runIsw3 (a0 a1 a2 b0 b1 b2 r0 r1 r2 : Int) (k : Nat) : times_Isw.m (k + 40) (laid3B a0 a1 a2 b0 b1 b2 r0 r1 r2) [ci 0, ci 1, ci 2] [ci 3, ci 4, ci 5] = some ([ci 19, ci 23, ci 29], endIsw3 a0 a1 a2 b0 b1 b2 r0 r1 r2) := by kernel_rfl
theorem valuesIsw3 (a0 a1 a2 b0 b1 b2 r0 r1 r2 : Int) (k : Nat) : wire_Machine_Values.m (k + 40) (endIsw3 a0 a1 a2 b0 b1 b2 r0 r1 r2) = some (valsIsw3 a0 a1 a2 b0 b1 b2 r0 r1 r2) := by kernel_rfl
theorem rowIsw3_0 (a0 a1 a2 b0 b1 b2 r0 r1 r2 : Int) (k : Nat) : visorlaw22_TimesEven.l3 0 3 [ci 19, ci 23, ci 29] (valsIsw3 a0 a1 a2 b0 b1 b2 r0 r1 r2) (k + 40) 0 0 = some (.inr (rr (rr 0 (bxor .u64 (bxor .u64 (band .u64 a1 b1) (bxor .u64 (bxor .u64 r0 (band .u64 a0 b1)) (band .u64 a1 b0))) r2)) (bxor .u64 (bxor .u64 (band .u64 a2 b2) (bxor .u64 (bxor .u64 r1 (band .u64 a0 b2)) (band .u64 a2 b0))) (bxor .u64 (bxor .u64 r2 (band .u64 a1 b2)) (band .u64 a2 b1))))) := by kernel_rfl
theorem rowIsw3_1 (a0 a1 a2 b0 b1 b2 r0 r1 r2 : Int) (k : Nat) : visorlaw22_TimesEven.l3 1 3 [ci 19, ci 23, ci 29] (valsIsw3 a0 a1 a2 b0 b1 b2 r0 r1 r2) (k + 40) 0 0 = some (.inr (rr (rr 0 (bxor .u64 (bxor .u64 (band .u64 a0 b0) r0) r1)) (bxor .u64 (bxor .u64 (band .u64 a2 b2) (bxor .u64 (bxor .u64 r1 (band .u64 a0 b2)) (band .u64 a2 b0))) (bxor .u64 (bxor .u64 r2 (band .u64 a1 b2)) (band .u64 a2 b1))))) := by kernel_rfl
theorem rowIsw3_2 (a0 a1 a2 b0 b1 b2 r0 r1 r2 : Int) (k : Nat) : visorlaw22_TimesEven.l3 2 3 [ci 19, ci 23, ci 29] (valsIsw3 a0 a1 a2 b0 b1 b2 r0 r1 r2) (k + 40) 0 0 = some (.inr (rr (rr 0 (bxor .u64 (bxor .u64 (band .u64 a0 b0) r0) r1)) (bxor .u64 (bxor .u64 (band .u64 a1 b1) (bxor .u64 (bxor .u64 r0 (band .u64 a0 b1)) (band .u64 a1 b0))) r2))) := by kernel_rfl
theorem bits22_2_0 (k : Nat) : visorlaw22_TimesEven.l2 2 0 (k + 40) [] 0 = some [u 0#64] := by kernel_rfl
theorem bits22_2_1 (k : Nat) : visorlaw22_TimesEven.l2 2 1 (k + 40) [] 0 = some [u 1#64] := by kernel_rfl
def rowBDom2_0 (A0 A1 B0 B1 R0 : Bool) : Nat := ((xor (A1 && B1) (xor (A1 && B0) R0))).toNat
theorem rowUDom2_0 (A0 A1 B0 B1 R0 : BitVec 64) : (rr 0 (bxor .u64 (band .u64 (u A1) (u B1)) (bxor .u64 (band .u64 (u A1) (u B0)) (u R0)))) = ((rowBDom2_0 (A0.getLsbD 0) (A1.getLsbD 0) (B0.getLsbD 0) (B1.getLsbD 0) (R0.getLsbD 0) : Nat) : Int) := by
  simp only [bxor_u, band_u, rr1, bt_bit, BitVec.getLsbD_xor, BitVec.getLsbD_and]; rfl
theorem ltDom2_0 : ∀ A0 A1 B0 B1 R0 : Bool, rowBDom2_0 A0 A1 B0 B1 R0 < 2 := by decide
theorem countDom2_0 : ∀ A0 A1 B0 B1 : Bool, ∀ i : Fin 4, [rowBDom2_0 A0 A1 B0 B1 false, rowBDom2_0 A0 A1 B0 B1 true].foldl bump (fun _ => 0) i = if i.val < 2 then 1 else 0 := by decide +kernel
def rowBDom2_1 (A0 A1 B0 B1 R0 : Bool) : Nat := ((xor (A0 && B0) (xor (A0 && B1) R0))).toNat
theorem rowUDom2_1 (A0 A1 B0 B1 R0 : BitVec 64) : (rr 0 (bxor .u64 (band .u64 (u A0) (u B0)) (bxor .u64 (band .u64 (u A0) (u B1)) (u R0)))) = ((rowBDom2_1 (A0.getLsbD 0) (A1.getLsbD 0) (B0.getLsbD 0) (B1.getLsbD 0) (R0.getLsbD 0) : Nat) : Int) := by
  simp only [bxor_u, band_u, rr1, bt_bit, BitVec.getLsbD_xor, BitVec.getLsbD_and]; rfl
theorem ltDom2_1 : ∀ A0 A1 B0 B1 R0 : Bool, rowBDom2_1 A0 A1 B0 B1 R0 < 2 := by decide
theorem countDom2_1 : ∀ A0 A1 B0 B1 : Bool, ∀ i : Fin 4, [rowBDom2_1 A0 A1 B0 B1 false, rowBDom2_1 A0 A1 B0 B1 true].foldl bump (fun _ => 0) i = if i.val < 2 then 1 else 0 := by decide +kernel
def rowBIsw2_0 (A0 A1 B0 B1 R0 : Bool) : Nat := ((xor (A1 && B1) (xor (xor R0 (A0 && B1)) (A1 && B0)))).toNat
theorem rowUIsw2_0 (A0 A1 B0 B1 R0 : BitVec 64) : (rr 0 (bxor .u64 (band .u64 (u A1) (u B1)) (bxor .u64 (bxor .u64 (u R0) (band .u64 (u A0) (u B1))) (band .u64 (u A1) (u B0))))) = ((rowBIsw2_0 (A0.getLsbD 0) (A1.getLsbD 0) (B0.getLsbD 0) (B1.getLsbD 0) (R0.getLsbD 0) : Nat) : Int) := by
  simp only [bxor_u, band_u, rr1, bt_bit, BitVec.getLsbD_xor, BitVec.getLsbD_and]; rfl
theorem ltIsw2_0 : ∀ A0 A1 B0 B1 R0 : Bool, rowBIsw2_0 A0 A1 B0 B1 R0 < 2 := by decide
theorem countIsw2_0 : ∀ A0 A1 B0 B1 : Bool, ∀ i : Fin 4, [rowBIsw2_0 A0 A1 B0 B1 false, rowBIsw2_0 A0 A1 B0 B1 true].foldl bump (fun _ => 0) i = if i.val < 2 then 1 else 0 := by decide +kernel
def rowBIsw2_1 (A0 A1 B0 B1 R0 : Bool) : Nat := ((xor (A0 && B0) R0)).toNat
theorem rowUIsw2_1 (A0 A1 B0 B1 R0 : BitVec 64) : (rr 0 (bxor .u64 (band .u64 (u A0) (u B0)) (u R0))) = ((rowBIsw2_1 (A0.getLsbD 0) (A1.getLsbD 0) (B0.getLsbD 0) (B1.getLsbD 0) (R0.getLsbD 0) : Nat) : Int) := by
  simp only [bxor_u, band_u, rr1, bt_bit, BitVec.getLsbD_xor, BitVec.getLsbD_and]; rfl
theorem ltIsw2_1 : ∀ A0 A1 B0 B1 R0 : Bool, rowBIsw2_1 A0 A1 B0 B1 R0 < 2 := by decide
theorem countIsw2_1 : ∀ A0 A1 B0 B1 : Bool, ∀ i : Fin 4, [rowBIsw2_1 A0 A1 B0 B1 false, rowBIsw2_1 A0 A1 B0 B1 true].foldl bump (fun _ => 0) i = if i.val < 2 then 1 else 0 := by decide +kernel
theorem iter22_2 (x : Tvisorlaw22_Asked) (out : Int) (k q : Nat) (f : Nat → Int) (hq : q < 2) (R : List Int) (hl2 : visorlaw22_TimesEven.l2 2 (q : Int) (k + 40) [] 0 = some R) (m0 m1 m2 endm : Twire_Machine) (X : Tvisorref19_M) (wa wb regs : Cells) (vals : List Int) (row : Nat)
    (hb : visorlaw20_Begins.m (k + 40) 2 R 60 = some (Sum.inr (m0, X, [], [], true))) (ha1 : visorlaw22_laid.m (k + 40) m0 2 [cw x.a0, cw x.a1, cw x.a2] = some (wa, m1)) (hb1 : visorlaw22_laid.m (k + 40) m1 2 [cw x.b0, cw x.b1, cw x.b2] = some (wb, m2)) (hwa : wa.length = 3) (hwb : wb.length = 3) (hregs : regs.length = 3)
    (hrun : (bif x.kind == 2 then times_Dom.m (k + 40) m2 wa wb else times_Isw.m (k + 40) m2 wa wb) = some (regs, endm)) (hval : wire_Machine_Values.m (k + 40) endm = some vals) (herr : endm.bad = 0)
    (hrow : visorlaw22_TimesEven.l3 out 2 regs vals (k + 40) 0 0 = some (.inr (row : Int))) (hr4 : row < 4) (hf : -1000 ≤ f row ∧ f row ≤ 1000) :
    visorlaw22_TimesEven.l1 x out 2 (k + 41) (cells4 f) (q : Int) = visorlaw22_TimesEven.l1 x out 2 (k + 40) (cells4 (bump f row)) ((q + 1 : Nat) : Int) := by
  have hw : IntKind.i64.wrap ((q : Int) + 1) = ((q + 1 : Nat) : Int) := by rw [wrap_i64_of (by omega) (by omega)]; omega
  have hs : shl .i64 1 (IntKind.u64.wrap (IntKind.i64.wrap (Int.tdiv (IntKind.i64.wrap (2 * (IntKind.i64.wrap (2 - 1)))) 2))) = 2 := by decide
  conv => lhs; unfold visorlaw22_TimesEven.l1
  rw [decide_eq_true (show (q : Int) < 8 by omega), cond_true, if_pos (by decide), hs, decide_eq_true (show (q : Int) < 2 by omega), cond_true, hl2, Option.bind_some, hb, Option.bind_some]
  dsimp only
  rw [Bool.not_true, cond_false, ha1, Option.bind_some, hb1, Option.bind_some, if_pos hwa, if_pos hwb]
  have last : visorlaw22_TimesEven.j2 (k + 40) (visorlaw22_TimesEven.l1 x out 2 (k + 40)) out 2 (cells4 f) (q : Int) endm regs = visorlaw22_TimesEven.l1 x out 2 (k + 40) (cells4 (bump f row)) ((q + 1 : Nat) : Int) := by
    unfold visorlaw22_TimesEven.j2 wire_Machine_Err.m
    rw [hval, Option.bind_some, Option.bind_some, herr, show ((0 : Int) != 0) = false from rfl, cond_false, hrow, Option.bind_some]
    dsimp only
    have h0 : 0 + ((row : Nat) : Int).toNat * 1 = row := by simp
    rw [if_pos (by omega), h0, cells4_get f row hr4, Option.bind_some, if_pos (by omega), if_pos (by show row < 4; exact hr4), wrap_i64_of (by omega) (by omega), cells4_set f row hr4, hw]
  unfold visorlaw22_TimesEven.j1
  cases hk : x.kind == 2
  · rw [hk, cond_false] at hrun
    rw [cond_false, if_pos hwa, if_pos hwb, hrun, Option.bind_some, if_pos hregs]
    exact last
  · rw [hk, cond_true] at hrun
    rw [cond_true, if_pos hwa, if_pos hwb, hrun, Option.bind_some, if_pos hregs]
    exact last
set_option maxRecDepth 100000 in
theorem roundDom2_0 (A0 A1 B0 B1 : BitVec 64) (x : Tvisorlaw22_Asked) (hx : x.a0 = u A0 ∧ x.a1 = u A1 ∧ x.b0 = u B0 ∧ x.b1 = u B1) (hk : (x.kind == 2) = true) (k q : Nat) (f : Nat → Int) (hq : q < 2) (R0 : BitVec 64) (hl2 : visorlaw22_TimesEven.l2 2 (q : Int) (k + 40) [] 0 = some [u R0]) (hf : ∀ i, -1000 ≤ f i ∧ f i ≤ 1000) :
    visorlaw22_TimesEven.l1 x 0 2 (k + 41) (cells4 f) (q : Int) = visorlaw22_TimesEven.l1 x 0 2 (k + 40) (cells4 (bump f (rowBDom2_0 (A0.getLsbD 0) (A1.getLsbD 0) (B0.getLsbD 0) (B1.getLsbD 0) (R0.getLsbD 0)))) ((q + 1 : Nat) : Int) := by
  obtain ⟨h0, h1, h2, h3⟩ := hx
  exact iter22_2 x 0 k q f hq _ hl2 (start2 (u R0)) (laid2A (u A0) (u A1) (u R0)) (laid2B (u A0) (u A1) (u B0) (u B1) (u R0)) (endDom2 (u A0) (u A1) (u B0) (u B1) (u R0)) _ [ci 0, ci 1, ci (-1)] [ci 2, ci 3, ci (-1)] [ci 10, ci 12, ci (-1)] (valsDom2 (u A0) (u A1) (u B0) (u B1) (u R0)) _ (begins22_2 (u R0) k) (by rw [h0, h1]; exact laid22_2A (u A0) (u A1) (u R0) x.a2 k) (by rw [h2, h3]; exact laid22_2B (u A0) (u A1) (u B0) (u B1) (u R0) x.b2 k) rfl rfl rfl (by rw [hk, cond_true]; exact runDom2 (u A0) (u A1) (u B0) (u B1) (u R0) k) (valuesDom2 (u A0) (u A1) (u B0) (u B1) (u R0) k) rfl
    (by rw [← rowUDom2_0]; exact rowDom2_0 (u A0) (u A1) (u B0) (u B1) (u R0) k) (Nat.lt_of_lt_of_le (ltDom2_0 ..) (by omega)) (hf _)
set_option maxRecDepth 100000 in
theorem allDom2_0 (A0 A1 B0 B1 : BitVec 64) (x : Tvisorlaw22_Asked) (hx : x.a0 = u A0 ∧ x.a1 = u A1 ∧ x.b0 = u B0 ∧ x.b1 = u B1) (hk : (x.kind == 2) = true) (k : Nat) : visorlaw22_TimesEven.l1 x 0 2 (k + 60) (cells4 fun _ => 0) 0 = some (.inr [ci 1, ci 1, ci 0, ci 0]) := by
  have hb : ∀ (f : Nat → Int) (r : Nat) (c : Int), (∀ i, -c ≤ f i ∧ f i ≤ c) → ∀ i, -(c + 1) ≤ bump f r i ∧ bump f r i ≤ c + 1 := by
    intro f r c h i; have := h i; unfold bump; split <;> omega
  have g0 : ∀ i : Nat, -(0 : Int) ≤ (fun _ => (0 : Int)) i ∧ (fun _ => (0 : Int)) i ≤ 0 := fun _ => ⟨by show -(0 : Int) ≤ 0; omega, by show (0 : Int) ≤ 0; omega⟩
  have g1 := hb _ (rowBDom2_0 (A0.getLsbD 0) (A1.getLsbD 0) (B0.getLsbD 0) (B1.getLsbD 0) (BitVec.getLsbD 0#64 0)) _ g0
  have e0 := roundDom2_0 A0 A1 B0 B1 x hx hk (k + 19) 0 _ (by omega) 0#64 (bits22_2_0 (k + 19)) (wide g0 (by omega))
  have g2 := hb _ (rowBDom2_0 (A0.getLsbD 0) (A1.getLsbD 0) (B0.getLsbD 0) (B1.getLsbD 0) (BitVec.getLsbD 1#64 0)) _ g1
  have e1 := roundDom2_0 A0 A1 B0 B1 x hx hk (k + 18) 1 _ (by omega) 1#64 (bits22_2_1 (k + 18)) (wide g1 (by omega))
  have z : ((0 : Nat) : Int) = 0 := rfl
  rw [z] at e0
  have fin : ∀ C : Cells, visorlaw22_TimesEven.l1 x 0 2 (k + 58) C ((2 : Nat) : Int) = some (.inr C) := by
    intro C
    unfold visorlaw22_TimesEven.l1
    rfl
  rw [show k + 60 = k + 19 + 41 by omega, e0, show k + 19 + 40 = k + 18 + 41 by omega, e1, fin]
  have hc := countDom2_0 (A0.getLsbD 0) (A1.getLsbD 0) (B0.getLsbD 0) (B1.getLsbD 0)
  simp only [List.foldl_cons, List.foldl_nil] at hc
  have hcell : ∀ f : Nat → Int, f 0 = 1 → f 1 = 1 → f 2 = 0 → f 3 = 0 → cells4 f = [ci 1, ci 1, ci 0, ci 0] := by
    intro f h0 h1 h2 h3; unfold cells4; rw [h0, h1, h2, h3]
  refine congrArg (fun z => some (Sum.inr z)) (hcell _ ?_ ?_ ?_ ?_)
  · exact hc 0
  · exact hc 1
  · exact hc 2
  · exact hc 3
set_option maxRecDepth 100000 in
theorem roundDom2_1 (A0 A1 B0 B1 : BitVec 64) (x : Tvisorlaw22_Asked) (hx : x.a0 = u A0 ∧ x.a1 = u A1 ∧ x.b0 = u B0 ∧ x.b1 = u B1) (hk : (x.kind == 2) = true) (k q : Nat) (f : Nat → Int) (hq : q < 2) (R0 : BitVec 64) (hl2 : visorlaw22_TimesEven.l2 2 (q : Int) (k + 40) [] 0 = some [u R0]) (hf : ∀ i, -1000 ≤ f i ∧ f i ≤ 1000) :
    visorlaw22_TimesEven.l1 x 1 2 (k + 41) (cells4 f) (q : Int) = visorlaw22_TimesEven.l1 x 1 2 (k + 40) (cells4 (bump f (rowBDom2_1 (A0.getLsbD 0) (A1.getLsbD 0) (B0.getLsbD 0) (B1.getLsbD 0) (R0.getLsbD 0)))) ((q + 1 : Nat) : Int) := by
  obtain ⟨h0, h1, h2, h3⟩ := hx
  exact iter22_2 x 1 k q f hq _ hl2 (start2 (u R0)) (laid2A (u A0) (u A1) (u R0)) (laid2B (u A0) (u A1) (u B0) (u B1) (u R0)) (endDom2 (u A0) (u A1) (u B0) (u B1) (u R0)) _ [ci 0, ci 1, ci (-1)] [ci 2, ci 3, ci (-1)] [ci 10, ci 12, ci (-1)] (valsDom2 (u A0) (u A1) (u B0) (u B1) (u R0)) _ (begins22_2 (u R0) k) (by rw [h0, h1]; exact laid22_2A (u A0) (u A1) (u R0) x.a2 k) (by rw [h2, h3]; exact laid22_2B (u A0) (u A1) (u B0) (u B1) (u R0) x.b2 k) rfl rfl rfl (by rw [hk, cond_true]; exact runDom2 (u A0) (u A1) (u B0) (u B1) (u R0) k) (valuesDom2 (u A0) (u A1) (u B0) (u B1) (u R0) k) rfl
    (by rw [← rowUDom2_1]; exact rowDom2_1 (u A0) (u A1) (u B0) (u B1) (u R0) k) (Nat.lt_of_lt_of_le (ltDom2_1 ..) (by omega)) (hf _)
set_option maxRecDepth 100000 in
theorem allDom2_1 (A0 A1 B0 B1 : BitVec 64) (x : Tvisorlaw22_Asked) (hx : x.a0 = u A0 ∧ x.a1 = u A1 ∧ x.b0 = u B0 ∧ x.b1 = u B1) (hk : (x.kind == 2) = true) (k : Nat) : visorlaw22_TimesEven.l1 x 1 2 (k + 60) (cells4 fun _ => 0) 0 = some (.inr [ci 1, ci 1, ci 0, ci 0]) := by
  have hb : ∀ (f : Nat → Int) (r : Nat) (c : Int), (∀ i, -c ≤ f i ∧ f i ≤ c) → ∀ i, -(c + 1) ≤ bump f r i ∧ bump f r i ≤ c + 1 := by
    intro f r c h i; have := h i; unfold bump; split <;> omega
  have g0 : ∀ i : Nat, -(0 : Int) ≤ (fun _ => (0 : Int)) i ∧ (fun _ => (0 : Int)) i ≤ 0 := fun _ => ⟨by show -(0 : Int) ≤ 0; omega, by show (0 : Int) ≤ 0; omega⟩
  have g1 := hb _ (rowBDom2_1 (A0.getLsbD 0) (A1.getLsbD 0) (B0.getLsbD 0) (B1.getLsbD 0) (BitVec.getLsbD 0#64 0)) _ g0
  have e0 := roundDom2_1 A0 A1 B0 B1 x hx hk (k + 19) 0 _ (by omega) 0#64 (bits22_2_0 (k + 19)) (wide g0 (by omega))
  have g2 := hb _ (rowBDom2_1 (A0.getLsbD 0) (A1.getLsbD 0) (B0.getLsbD 0) (B1.getLsbD 0) (BitVec.getLsbD 1#64 0)) _ g1
  have e1 := roundDom2_1 A0 A1 B0 B1 x hx hk (k + 18) 1 _ (by omega) 1#64 (bits22_2_1 (k + 18)) (wide g1 (by omega))
  have z : ((0 : Nat) : Int) = 0 := rfl
  rw [z] at e0
  have fin : ∀ C : Cells, visorlaw22_TimesEven.l1 x 1 2 (k + 58) C ((2 : Nat) : Int) = some (.inr C) := by
    intro C
    unfold visorlaw22_TimesEven.l1
    rfl
  rw [show k + 60 = k + 19 + 41 by omega, e0, show k + 19 + 40 = k + 18 + 41 by omega, e1, fin]
  have hc := countDom2_1 (A0.getLsbD 0) (A1.getLsbD 0) (B0.getLsbD 0) (B1.getLsbD 0)
  simp only [List.foldl_cons, List.foldl_nil] at hc
  have hcell : ∀ f : Nat → Int, f 0 = 1 → f 1 = 1 → f 2 = 0 → f 3 = 0 → cells4 f = [ci 1, ci 1, ci 0, ci 0] := by
    intro f h0 h1 h2 h3; unfold cells4; rw [h0, h1, h2, h3]
  refine congrArg (fun z => some (Sum.inr z)) (hcell _ ?_ ?_ ?_ ?_)
  · exact hc 0
  · exact hc 1
  · exact hc 2
  · exact hc 3
set_option maxRecDepth 100000 in
theorem roundIsw2_0 (A0 A1 B0 B1 : BitVec 64) (x : Tvisorlaw22_Asked) (hx : x.a0 = u A0 ∧ x.a1 = u A1 ∧ x.b0 = u B0 ∧ x.b1 = u B1) (hk : (x.kind == 2) = false) (k q : Nat) (f : Nat → Int) (hq : q < 2) (R0 : BitVec 64) (hl2 : visorlaw22_TimesEven.l2 2 (q : Int) (k + 40) [] 0 = some [u R0]) (hf : ∀ i, -1000 ≤ f i ∧ f i ≤ 1000) :
    visorlaw22_TimesEven.l1 x 0 2 (k + 41) (cells4 f) (q : Int) = visorlaw22_TimesEven.l1 x 0 2 (k + 40) (cells4 (bump f (rowBIsw2_0 (A0.getLsbD 0) (A1.getLsbD 0) (B0.getLsbD 0) (B1.getLsbD 0) (R0.getLsbD 0)))) ((q + 1 : Nat) : Int) := by
  obtain ⟨h0, h1, h2, h3⟩ := hx
  exact iter22_2 x 0 k q f hq _ hl2 (start2 (u R0)) (laid2A (u A0) (u A1) (u R0)) (laid2B (u A0) (u A1) (u B0) (u B1) (u R0)) (endIsw2 (u A0) (u A1) (u B0) (u B1) (u R0)) _ [ci 0, ci 1, ci (-1)] [ci 2, ci 3, ci (-1)] [ci 9, ci 12, ci (-1)] (valsIsw2 (u A0) (u A1) (u B0) (u B1) (u R0)) _ (begins22_2 (u R0) k) (by rw [h0, h1]; exact laid22_2A (u A0) (u A1) (u R0) x.a2 k) (by rw [h2, h3]; exact laid22_2B (u A0) (u A1) (u B0) (u B1) (u R0) x.b2 k) rfl rfl rfl (by rw [hk, cond_false]; exact runIsw2 (u A0) (u A1) (u B0) (u B1) (u R0) k) (valuesIsw2 (u A0) (u A1) (u B0) (u B1) (u R0) k) rfl
    (by rw [← rowUIsw2_0]; exact rowIsw2_0 (u A0) (u A1) (u B0) (u B1) (u R0) k) (Nat.lt_of_lt_of_le (ltIsw2_0 ..) (by omega)) (hf _)
set_option maxRecDepth 100000 in
theorem allIsw2_0 (A0 A1 B0 B1 : BitVec 64) (x : Tvisorlaw22_Asked) (hx : x.a0 = u A0 ∧ x.a1 = u A1 ∧ x.b0 = u B0 ∧ x.b1 = u B1) (hk : (x.kind == 2) = false) (k : Nat) : visorlaw22_TimesEven.l1 x 0 2 (k + 60) (cells4 fun _ => 0) 0 = some (.inr [ci 1, ci 1, ci 0, ci 0]) := by
  have hb : ∀ (f : Nat → Int) (r : Nat) (c : Int), (∀ i, -c ≤ f i ∧ f i ≤ c) → ∀ i, -(c + 1) ≤ bump f r i ∧ bump f r i ≤ c + 1 := by
    intro f r c h i; have := h i; unfold bump; split <;> omega
  have g0 : ∀ i : Nat, -(0 : Int) ≤ (fun _ => (0 : Int)) i ∧ (fun _ => (0 : Int)) i ≤ 0 := fun _ => ⟨by show -(0 : Int) ≤ 0; omega, by show (0 : Int) ≤ 0; omega⟩
  have g1 := hb _ (rowBIsw2_0 (A0.getLsbD 0) (A1.getLsbD 0) (B0.getLsbD 0) (B1.getLsbD 0) (BitVec.getLsbD 0#64 0)) _ g0
  have e0 := roundIsw2_0 A0 A1 B0 B1 x hx hk (k + 19) 0 _ (by omega) 0#64 (bits22_2_0 (k + 19)) (wide g0 (by omega))
  have g2 := hb _ (rowBIsw2_0 (A0.getLsbD 0) (A1.getLsbD 0) (B0.getLsbD 0) (B1.getLsbD 0) (BitVec.getLsbD 1#64 0)) _ g1
  have e1 := roundIsw2_0 A0 A1 B0 B1 x hx hk (k + 18) 1 _ (by omega) 1#64 (bits22_2_1 (k + 18)) (wide g1 (by omega))
  have z : ((0 : Nat) : Int) = 0 := rfl
  rw [z] at e0
  have fin : ∀ C : Cells, visorlaw22_TimesEven.l1 x 0 2 (k + 58) C ((2 : Nat) : Int) = some (.inr C) := by
    intro C
    unfold visorlaw22_TimesEven.l1
    rfl
  rw [show k + 60 = k + 19 + 41 by omega, e0, show k + 19 + 40 = k + 18 + 41 by omega, e1, fin]
  have hc := countIsw2_0 (A0.getLsbD 0) (A1.getLsbD 0) (B0.getLsbD 0) (B1.getLsbD 0)
  simp only [List.foldl_cons, List.foldl_nil] at hc
  have hcell : ∀ f : Nat → Int, f 0 = 1 → f 1 = 1 → f 2 = 0 → f 3 = 0 → cells4 f = [ci 1, ci 1, ci 0, ci 0] := by
    intro f h0 h1 h2 h3; unfold cells4; rw [h0, h1, h2, h3]
  refine congrArg (fun z => some (Sum.inr z)) (hcell _ ?_ ?_ ?_ ?_)
  · exact hc 0
  · exact hc 1
  · exact hc 2
  · exact hc 3
set_option maxRecDepth 100000 in
theorem roundIsw2_1 (A0 A1 B0 B1 : BitVec 64) (x : Tvisorlaw22_Asked) (hx : x.a0 = u A0 ∧ x.a1 = u A1 ∧ x.b0 = u B0 ∧ x.b1 = u B1) (hk : (x.kind == 2) = false) (k q : Nat) (f : Nat → Int) (hq : q < 2) (R0 : BitVec 64) (hl2 : visorlaw22_TimesEven.l2 2 (q : Int) (k + 40) [] 0 = some [u R0]) (hf : ∀ i, -1000 ≤ f i ∧ f i ≤ 1000) :
    visorlaw22_TimesEven.l1 x 1 2 (k + 41) (cells4 f) (q : Int) = visorlaw22_TimesEven.l1 x 1 2 (k + 40) (cells4 (bump f (rowBIsw2_1 (A0.getLsbD 0) (A1.getLsbD 0) (B0.getLsbD 0) (B1.getLsbD 0) (R0.getLsbD 0)))) ((q + 1 : Nat) : Int) := by
  obtain ⟨h0, h1, h2, h3⟩ := hx
  exact iter22_2 x 1 k q f hq _ hl2 (start2 (u R0)) (laid2A (u A0) (u A1) (u R0)) (laid2B (u A0) (u A1) (u B0) (u B1) (u R0)) (endIsw2 (u A0) (u A1) (u B0) (u B1) (u R0)) _ [ci 0, ci 1, ci (-1)] [ci 2, ci 3, ci (-1)] [ci 9, ci 12, ci (-1)] (valsIsw2 (u A0) (u A1) (u B0) (u B1) (u R0)) _ (begins22_2 (u R0) k) (by rw [h0, h1]; exact laid22_2A (u A0) (u A1) (u R0) x.a2 k) (by rw [h2, h3]; exact laid22_2B (u A0) (u A1) (u B0) (u B1) (u R0) x.b2 k) rfl rfl rfl (by rw [hk, cond_false]; exact runIsw2 (u A0) (u A1) (u B0) (u B1) (u R0) k) (valuesIsw2 (u A0) (u A1) (u B0) (u B1) (u R0) k) rfl
    (by rw [← rowUIsw2_1]; exact rowIsw2_1 (u A0) (u A1) (u B0) (u B1) (u R0) k) (Nat.lt_of_lt_of_le (ltIsw2_1 ..) (by omega)) (hf _)
set_option maxRecDepth 100000 in
theorem allIsw2_1 (A0 A1 B0 B1 : BitVec 64) (x : Tvisorlaw22_Asked) (hx : x.a0 = u A0 ∧ x.a1 = u A1 ∧ x.b0 = u B0 ∧ x.b1 = u B1) (hk : (x.kind == 2) = false) (k : Nat) : visorlaw22_TimesEven.l1 x 1 2 (k + 60) (cells4 fun _ => 0) 0 = some (.inr [ci 1, ci 1, ci 0, ci 0]) := by
  have hb : ∀ (f : Nat → Int) (r : Nat) (c : Int), (∀ i, -c ≤ f i ∧ f i ≤ c) → ∀ i, -(c + 1) ≤ bump f r i ∧ bump f r i ≤ c + 1 := by
    intro f r c h i; have := h i; unfold bump; split <;> omega
  have g0 : ∀ i : Nat, -(0 : Int) ≤ (fun _ => (0 : Int)) i ∧ (fun _ => (0 : Int)) i ≤ 0 := fun _ => ⟨by show -(0 : Int) ≤ 0; omega, by show (0 : Int) ≤ 0; omega⟩
  have g1 := hb _ (rowBIsw2_1 (A0.getLsbD 0) (A1.getLsbD 0) (B0.getLsbD 0) (B1.getLsbD 0) (BitVec.getLsbD 0#64 0)) _ g0
  have e0 := roundIsw2_1 A0 A1 B0 B1 x hx hk (k + 19) 0 _ (by omega) 0#64 (bits22_2_0 (k + 19)) (wide g0 (by omega))
  have g2 := hb _ (rowBIsw2_1 (A0.getLsbD 0) (A1.getLsbD 0) (B0.getLsbD 0) (B1.getLsbD 0) (BitVec.getLsbD 1#64 0)) _ g1
  have e1 := roundIsw2_1 A0 A1 B0 B1 x hx hk (k + 18) 1 _ (by omega) 1#64 (bits22_2_1 (k + 18)) (wide g1 (by omega))
  have z : ((0 : Nat) : Int) = 0 := rfl
  rw [z] at e0
  have fin : ∀ C : Cells, visorlaw22_TimesEven.l1 x 1 2 (k + 58) C ((2 : Nat) : Int) = some (.inr C) := by
    intro C
    unfold visorlaw22_TimesEven.l1
    rfl
  rw [show k + 60 = k + 19 + 41 by omega, e0, show k + 19 + 40 = k + 18 + 41 by omega, e1, fin]
  have hc := countIsw2_1 (A0.getLsbD 0) (A1.getLsbD 0) (B0.getLsbD 0) (B1.getLsbD 0)
  simp only [List.foldl_cons, List.foldl_nil] at hc
  have hcell : ∀ f : Nat → Int, f 0 = 1 → f 1 = 1 → f 2 = 0 → f 3 = 0 → cells4 f = [ci 1, ci 1, ci 0, ci 0] := by
    intro f h0 h1 h2 h3; unfold cells4; rw [h0, h1, h2, h3]
  refine congrArg (fun z => some (Sum.inr z)) (hcell _ ?_ ?_ ?_ ?_)
  · exact hc 0
  · exact hc 1
  · exact hc 2
  · exact hc 3
theorem bits22_3_0 (k : Nat) : visorlaw22_TimesEven.l2 3 0 (k + 40) [] 0 = some [u 0#64, u 0#64, u 0#64] := by kernel_rfl
theorem bits22_3_1 (k : Nat) : visorlaw22_TimesEven.l2 3 1 (k + 40) [] 0 = some [u 1#64, u 0#64, u 0#64] := by kernel_rfl
theorem bits22_3_2 (k : Nat) : visorlaw22_TimesEven.l2 3 2 (k + 40) [] 0 = some [u 0#64, u 1#64, u 0#64] := by kernel_rfl
theorem bits22_3_3 (k : Nat) : visorlaw22_TimesEven.l2 3 3 (k + 40) [] 0 = some [u 1#64, u 1#64, u 0#64] := by kernel_rfl
theorem bits22_3_4 (k : Nat) : visorlaw22_TimesEven.l2 3 4 (k + 40) [] 0 = some [u 0#64, u 0#64, u 1#64] := by kernel_rfl
theorem bits22_3_5 (k : Nat) : visorlaw22_TimesEven.l2 3 5 (k + 40) [] 0 = some [u 1#64, u 0#64, u 1#64] := by kernel_rfl
theorem bits22_3_6 (k : Nat) : visorlaw22_TimesEven.l2 3 6 (k + 40) [] 0 = some [u 0#64, u 1#64, u 1#64] := by kernel_rfl
theorem bits22_3_7 (k : Nat) : visorlaw22_TimesEven.l2 3 7 (k + 40) [] 0 = some [u 1#64, u 1#64, u 1#64] := by kernel_rfl
def rowBDom3_0 (A0 A1 A2 B0 B1 B2 R0 R1 R2 : Bool) : Nat := 2 * ((xor (xor (A1 && B1) (xor (A1 && B0) R0)) (xor (A1 && B2) R2))).toNat + ((xor (xor (A2 && B2) (xor (A2 && B0) R1)) (xor (A2 && B1) R2))).toNat
theorem rowUDom3_0 (A0 A1 A2 B0 B1 B2 R0 R1 R2 : BitVec 64) : (rr (rr 0 (bxor .u64 (bxor .u64 (band .u64 (u A1) (u B1)) (bxor .u64 (band .u64 (u A1) (u B0)) (u R0))) (bxor .u64 (band .u64 (u A1) (u B2)) (u R2)))) (bxor .u64 (bxor .u64 (band .u64 (u A2) (u B2)) (bxor .u64 (band .u64 (u A2) (u B0)) (u R1))) (bxor .u64 (band .u64 (u A2) (u B1)) (u R2)))) = ((rowBDom3_0 (A0.getLsbD 0) (A1.getLsbD 0) (A2.getLsbD 0) (B0.getLsbD 0) (B1.getLsbD 0) (B2.getLsbD 0) (R0.getLsbD 0) (R1.getLsbD 0) (R2.getLsbD 0) : Nat) : Int) := by
  simp only [bxor_u, band_u, rr2, bt_bit, BitVec.getLsbD_xor, BitVec.getLsbD_and]; rfl
theorem ltDom3_0 : ∀ A0 A1 A2 B0 B1 B2 R0 R1 R2 : Bool, rowBDom3_0 A0 A1 A2 B0 B1 B2 R0 R1 R2 < 4 := by decide
theorem countDom3_0 : ∀ A0 A1 A2 B0 B1 B2 : Bool, ∀ i : Fin 4, [rowBDom3_0 A0 A1 A2 B0 B1 B2 false false false, rowBDom3_0 A0 A1 A2 B0 B1 B2 true false false, rowBDom3_0 A0 A1 A2 B0 B1 B2 false true false, rowBDom3_0 A0 A1 A2 B0 B1 B2 true true false, rowBDom3_0 A0 A1 A2 B0 B1 B2 false false true, rowBDom3_0 A0 A1 A2 B0 B1 B2 true false true, rowBDom3_0 A0 A1 A2 B0 B1 B2 false true true, rowBDom3_0 A0 A1 A2 B0 B1 B2 true true true].foldl bump (fun _ => 0) i = 2 := by decide +kernel
def rowBDom3_1 (A0 A1 A2 B0 B1 B2 R0 R1 R2 : Bool) : Nat := 2 * ((xor (xor (A0 && B0) (xor (A0 && B1) R0)) (xor (A0 && B2) R1))).toNat + ((xor (xor (A2 && B2) (xor (A2 && B0) R1)) (xor (A2 && B1) R2))).toNat
theorem rowUDom3_1 (A0 A1 A2 B0 B1 B2 R0 R1 R2 : BitVec 64) : (rr (rr 0 (bxor .u64 (bxor .u64 (band .u64 (u A0) (u B0)) (bxor .u64 (band .u64 (u A0) (u B1)) (u R0))) (bxor .u64 (band .u64 (u A0) (u B2)) (u R1)))) (bxor .u64 (bxor .u64 (band .u64 (u A2) (u B2)) (bxor .u64 (band .u64 (u A2) (u B0)) (u R1))) (bxor .u64 (band .u64 (u A2) (u B1)) (u R2)))) = ((rowBDom3_1 (A0.getLsbD 0) (A1.getLsbD 0) (A2.getLsbD 0) (B0.getLsbD 0) (B1.getLsbD 0) (B2.getLsbD 0) (R0.getLsbD 0) (R1.getLsbD 0) (R2.getLsbD 0) : Nat) : Int) := by
  simp only [bxor_u, band_u, rr2, bt_bit, BitVec.getLsbD_xor, BitVec.getLsbD_and]; rfl
theorem ltDom3_1 : ∀ A0 A1 A2 B0 B1 B2 R0 R1 R2 : Bool, rowBDom3_1 A0 A1 A2 B0 B1 B2 R0 R1 R2 < 4 := by decide
theorem countDom3_1 : ∀ A0 A1 A2 B0 B1 B2 : Bool, ∀ i : Fin 4, [rowBDom3_1 A0 A1 A2 B0 B1 B2 false false false, rowBDom3_1 A0 A1 A2 B0 B1 B2 true false false, rowBDom3_1 A0 A1 A2 B0 B1 B2 false true false, rowBDom3_1 A0 A1 A2 B0 B1 B2 true true false, rowBDom3_1 A0 A1 A2 B0 B1 B2 false false true, rowBDom3_1 A0 A1 A2 B0 B1 B2 true false true, rowBDom3_1 A0 A1 A2 B0 B1 B2 false true true, rowBDom3_1 A0 A1 A2 B0 B1 B2 true true true].foldl bump (fun _ => 0) i = 2 := by decide +kernel
def rowBDom3_2 (A0 A1 A2 B0 B1 B2 R0 R1 R2 : Bool) : Nat := 2 * ((xor (xor (A0 && B0) (xor (A0 && B1) R0)) (xor (A0 && B2) R1))).toNat + ((xor (xor (A1 && B1) (xor (A1 && B0) R0)) (xor (A1 && B2) R2))).toNat
theorem rowUDom3_2 (A0 A1 A2 B0 B1 B2 R0 R1 R2 : BitVec 64) : (rr (rr 0 (bxor .u64 (bxor .u64 (band .u64 (u A0) (u B0)) (bxor .u64 (band .u64 (u A0) (u B1)) (u R0))) (bxor .u64 (band .u64 (u A0) (u B2)) (u R1)))) (bxor .u64 (bxor .u64 (band .u64 (u A1) (u B1)) (bxor .u64 (band .u64 (u A1) (u B0)) (u R0))) (bxor .u64 (band .u64 (u A1) (u B2)) (u R2)))) = ((rowBDom3_2 (A0.getLsbD 0) (A1.getLsbD 0) (A2.getLsbD 0) (B0.getLsbD 0) (B1.getLsbD 0) (B2.getLsbD 0) (R0.getLsbD 0) (R1.getLsbD 0) (R2.getLsbD 0) : Nat) : Int) := by
  simp only [bxor_u, band_u, rr2, bt_bit, BitVec.getLsbD_xor, BitVec.getLsbD_and]; rfl
theorem ltDom3_2 : ∀ A0 A1 A2 B0 B1 B2 R0 R1 R2 : Bool, rowBDom3_2 A0 A1 A2 B0 B1 B2 R0 R1 R2 < 4 := by decide
theorem countDom3_2 : ∀ A0 A1 A2 B0 B1 B2 : Bool, ∀ i : Fin 4, [rowBDom3_2 A0 A1 A2 B0 B1 B2 false false false, rowBDom3_2 A0 A1 A2 B0 B1 B2 true false false, rowBDom3_2 A0 A1 A2 B0 B1 B2 false true false, rowBDom3_2 A0 A1 A2 B0 B1 B2 true true false, rowBDom3_2 A0 A1 A2 B0 B1 B2 false false true, rowBDom3_2 A0 A1 A2 B0 B1 B2 true false true, rowBDom3_2 A0 A1 A2 B0 B1 B2 false true true, rowBDom3_2 A0 A1 A2 B0 B1 B2 true true true].foldl bump (fun _ => 0) i = 2 := by decide +kernel
def rowBIsw3_0 (A0 A1 A2 B0 B1 B2 R0 R1 R2 : Bool) : Nat := 2 * ((xor (xor (A1 && B1) (xor (xor R0 (A0 && B1)) (A1 && B0))) R2)).toNat + ((xor (xor (A2 && B2) (xor (xor R1 (A0 && B2)) (A2 && B0))) (xor (xor R2 (A1 && B2)) (A2 && B1)))).toNat
theorem rowUIsw3_0 (A0 A1 A2 B0 B1 B2 R0 R1 R2 : BitVec 64) : (rr (rr 0 (bxor .u64 (bxor .u64 (band .u64 (u A1) (u B1)) (bxor .u64 (bxor .u64 (u R0) (band .u64 (u A0) (u B1))) (band .u64 (u A1) (u B0)))) (u R2))) (bxor .u64 (bxor .u64 (band .u64 (u A2) (u B2)) (bxor .u64 (bxor .u64 (u R1) (band .u64 (u A0) (u B2))) (band .u64 (u A2) (u B0)))) (bxor .u64 (bxor .u64 (u R2) (band .u64 (u A1) (u B2))) (band .u64 (u A2) (u B1))))) = ((rowBIsw3_0 (A0.getLsbD 0) (A1.getLsbD 0) (A2.getLsbD 0) (B0.getLsbD 0) (B1.getLsbD 0) (B2.getLsbD 0) (R0.getLsbD 0) (R1.getLsbD 0) (R2.getLsbD 0) : Nat) : Int) := by
  simp only [bxor_u, band_u, rr2, bt_bit, BitVec.getLsbD_xor, BitVec.getLsbD_and]; rfl
theorem ltIsw3_0 : ∀ A0 A1 A2 B0 B1 B2 R0 R1 R2 : Bool, rowBIsw3_0 A0 A1 A2 B0 B1 B2 R0 R1 R2 < 4 := by decide
theorem countIsw3_0 : ∀ A0 A1 A2 B0 B1 B2 : Bool, ∀ i : Fin 4, [rowBIsw3_0 A0 A1 A2 B0 B1 B2 false false false, rowBIsw3_0 A0 A1 A2 B0 B1 B2 true false false, rowBIsw3_0 A0 A1 A2 B0 B1 B2 false true false, rowBIsw3_0 A0 A1 A2 B0 B1 B2 true true false, rowBIsw3_0 A0 A1 A2 B0 B1 B2 false false true, rowBIsw3_0 A0 A1 A2 B0 B1 B2 true false true, rowBIsw3_0 A0 A1 A2 B0 B1 B2 false true true, rowBIsw3_0 A0 A1 A2 B0 B1 B2 true true true].foldl bump (fun _ => 0) i = 2 := by decide +kernel
def rowBIsw3_1 (A0 A1 A2 B0 B1 B2 R0 R1 R2 : Bool) : Nat := 2 * ((xor (xor (A0 && B0) R0) R1)).toNat + ((xor (xor (A2 && B2) (xor (xor R1 (A0 && B2)) (A2 && B0))) (xor (xor R2 (A1 && B2)) (A2 && B1)))).toNat
theorem rowUIsw3_1 (A0 A1 A2 B0 B1 B2 R0 R1 R2 : BitVec 64) : (rr (rr 0 (bxor .u64 (bxor .u64 (band .u64 (u A0) (u B0)) (u R0)) (u R1))) (bxor .u64 (bxor .u64 (band .u64 (u A2) (u B2)) (bxor .u64 (bxor .u64 (u R1) (band .u64 (u A0) (u B2))) (band .u64 (u A2) (u B0)))) (bxor .u64 (bxor .u64 (u R2) (band .u64 (u A1) (u B2))) (band .u64 (u A2) (u B1))))) = ((rowBIsw3_1 (A0.getLsbD 0) (A1.getLsbD 0) (A2.getLsbD 0) (B0.getLsbD 0) (B1.getLsbD 0) (B2.getLsbD 0) (R0.getLsbD 0) (R1.getLsbD 0) (R2.getLsbD 0) : Nat) : Int) := by
  simp only [bxor_u, band_u, rr2, bt_bit, BitVec.getLsbD_xor, BitVec.getLsbD_and]; rfl
theorem ltIsw3_1 : ∀ A0 A1 A2 B0 B1 B2 R0 R1 R2 : Bool, rowBIsw3_1 A0 A1 A2 B0 B1 B2 R0 R1 R2 < 4 := by decide
theorem countIsw3_1 : ∀ A0 A1 A2 B0 B1 B2 : Bool, ∀ i : Fin 4, [rowBIsw3_1 A0 A1 A2 B0 B1 B2 false false false, rowBIsw3_1 A0 A1 A2 B0 B1 B2 true false false, rowBIsw3_1 A0 A1 A2 B0 B1 B2 false true false, rowBIsw3_1 A0 A1 A2 B0 B1 B2 true true false, rowBIsw3_1 A0 A1 A2 B0 B1 B2 false false true, rowBIsw3_1 A0 A1 A2 B0 B1 B2 true false true, rowBIsw3_1 A0 A1 A2 B0 B1 B2 false true true, rowBIsw3_1 A0 A1 A2 B0 B1 B2 true true true].foldl bump (fun _ => 0) i = 2 := by decide +kernel
def rowBIsw3_2 (A0 A1 A2 B0 B1 B2 R0 R1 R2 : Bool) : Nat := 2 * ((xor (xor (A0 && B0) R0) R1)).toNat + ((xor (xor (A1 && B1) (xor (xor R0 (A0 && B1)) (A1 && B0))) R2)).toNat
theorem rowUIsw3_2 (A0 A1 A2 B0 B1 B2 R0 R1 R2 : BitVec 64) : (rr (rr 0 (bxor .u64 (bxor .u64 (band .u64 (u A0) (u B0)) (u R0)) (u R1))) (bxor .u64 (bxor .u64 (band .u64 (u A1) (u B1)) (bxor .u64 (bxor .u64 (u R0) (band .u64 (u A0) (u B1))) (band .u64 (u A1) (u B0)))) (u R2))) = ((rowBIsw3_2 (A0.getLsbD 0) (A1.getLsbD 0) (A2.getLsbD 0) (B0.getLsbD 0) (B1.getLsbD 0) (B2.getLsbD 0) (R0.getLsbD 0) (R1.getLsbD 0) (R2.getLsbD 0) : Nat) : Int) := by
  simp only [bxor_u, band_u, rr2, bt_bit, BitVec.getLsbD_xor, BitVec.getLsbD_and]; rfl
theorem ltIsw3_2 : ∀ A0 A1 A2 B0 B1 B2 R0 R1 R2 : Bool, rowBIsw3_2 A0 A1 A2 B0 B1 B2 R0 R1 R2 < 4 := by decide
theorem countIsw3_2 : ∀ A0 A1 A2 B0 B1 B2 : Bool, ∀ i : Fin 4, [rowBIsw3_2 A0 A1 A2 B0 B1 B2 false false false, rowBIsw3_2 A0 A1 A2 B0 B1 B2 true false false, rowBIsw3_2 A0 A1 A2 B0 B1 B2 false true false, rowBIsw3_2 A0 A1 A2 B0 B1 B2 true true false, rowBIsw3_2 A0 A1 A2 B0 B1 B2 false false true, rowBIsw3_2 A0 A1 A2 B0 B1 B2 true false true, rowBIsw3_2 A0 A1 A2 B0 B1 B2 false true true, rowBIsw3_2 A0 A1 A2 B0 B1 B2 true true true].foldl bump (fun _ => 0) i = 2 := by decide +kernel
theorem iter22_3 (x : Tvisorlaw22_Asked) (out : Int) (k q : Nat) (f : Nat → Int) (hq : q < 8) (R : List Int) (hl2 : visorlaw22_TimesEven.l2 3 (q : Int) (k + 40) [] 0 = some R) (m0 m1 m2 endm : Twire_Machine) (X : Tvisorref19_M) (wa wb regs : Cells) (vals : List Int) (row : Nat)
    (hb : visorlaw20_Begins.m (k + 40) 3 R 60 = some (Sum.inr (m0, X, [], [], true))) (ha1 : visorlaw22_laid.m (k + 40) m0 3 [cw x.a0, cw x.a1, cw x.a2] = some (wa, m1)) (hb1 : visorlaw22_laid.m (k + 40) m1 3 [cw x.b0, cw x.b1, cw x.b2] = some (wb, m2)) (hwa : wa.length = 3) (hwb : wb.length = 3) (hregs : regs.length = 3)
    (hrun : (bif x.kind == 2 then times_Dom.m (k + 40) m2 wa wb else times_Isw.m (k + 40) m2 wa wb) = some (regs, endm)) (hval : wire_Machine_Values.m (k + 40) endm = some vals) (herr : endm.bad = 0)
    (hrow : visorlaw22_TimesEven.l3 out 3 regs vals (k + 40) 0 0 = some (.inr (row : Int))) (hr4 : row < 4) (hf : -1000 ≤ f row ∧ f row ≤ 1000) :
    visorlaw22_TimesEven.l1 x out 3 (k + 41) (cells4 f) (q : Int) = visorlaw22_TimesEven.l1 x out 3 (k + 40) (cells4 (bump f row)) ((q + 1 : Nat) : Int) := by
  have hw : IntKind.i64.wrap ((q : Int) + 1) = ((q + 1 : Nat) : Int) := by rw [wrap_i64_of (by omega) (by omega)]; omega
  have hs : shl .i64 1 (IntKind.u64.wrap (IntKind.i64.wrap (Int.tdiv (IntKind.i64.wrap (3 * (IntKind.i64.wrap (3 - 1)))) 2))) = 8 := by decide
  conv => lhs; unfold visorlaw22_TimesEven.l1
  rw [decide_eq_true (show (q : Int) < 8 by omega), cond_true, if_pos (by decide), hs, decide_eq_true (show (q : Int) < 8 by omega), cond_true, hl2, Option.bind_some, hb, Option.bind_some]
  dsimp only
  rw [Bool.not_true, cond_false, ha1, Option.bind_some, hb1, Option.bind_some, if_pos hwa, if_pos hwb]
  have last : visorlaw22_TimesEven.j2 (k + 40) (visorlaw22_TimesEven.l1 x out 3 (k + 40)) out 3 (cells4 f) (q : Int) endm regs = visorlaw22_TimesEven.l1 x out 3 (k + 40) (cells4 (bump f row)) ((q + 1 : Nat) : Int) := by
    unfold visorlaw22_TimesEven.j2 wire_Machine_Err.m
    rw [hval, Option.bind_some, Option.bind_some, herr, show ((0 : Int) != 0) = false from rfl, cond_false, hrow, Option.bind_some]
    dsimp only
    have h0 : 0 + ((row : Nat) : Int).toNat * 1 = row := by simp
    rw [if_pos (by omega), h0, cells4_get f row hr4, Option.bind_some, if_pos (by omega), if_pos (by show row < 4; exact hr4), wrap_i64_of (by omega) (by omega), cells4_set f row hr4, hw]
  unfold visorlaw22_TimesEven.j1
  cases hk : x.kind == 2
  · rw [hk, cond_false] at hrun
    rw [cond_false, if_pos hwa, if_pos hwb, hrun, Option.bind_some, if_pos hregs]
    exact last
  · rw [hk, cond_true] at hrun
    rw [cond_true, if_pos hwa, if_pos hwb, hrun, Option.bind_some, if_pos hregs]
    exact last
set_option maxRecDepth 100000 in
theorem roundDom3_0 (A0 A1 A2 B0 B1 B2 : BitVec 64) (x : Tvisorlaw22_Asked) (hx : x.a0 = u A0 ∧ x.a1 = u A1 ∧ x.a2 = u A2 ∧ x.b0 = u B0 ∧ x.b1 = u B1 ∧ x.b2 = u B2) (hk : (x.kind == 2) = true) (k q : Nat) (f : Nat → Int) (hq : q < 8) (R0 R1 R2 : BitVec 64) (hl2 : visorlaw22_TimesEven.l2 3 (q : Int) (k + 40) [] 0 = some [u R0, u R1, u R2]) (hf : ∀ i, -1000 ≤ f i ∧ f i ≤ 1000) :
    visorlaw22_TimesEven.l1 x 0 3 (k + 41) (cells4 f) (q : Int) = visorlaw22_TimesEven.l1 x 0 3 (k + 40) (cells4 (bump f (rowBDom3_0 (A0.getLsbD 0) (A1.getLsbD 0) (A2.getLsbD 0) (B0.getLsbD 0) (B1.getLsbD 0) (B2.getLsbD 0) (R0.getLsbD 0) (R1.getLsbD 0) (R2.getLsbD 0)))) ((q + 1 : Nat) : Int) := by
  obtain ⟨h0, h1, h2, h3, h4, h5⟩ := hx
  exact iter22_3 x 0 k q f hq _ hl2 (start3 (u R0) (u R1) (u R2)) (laid3A (u A0) (u A1) (u A2) (u R0) (u R1) (u R2)) (laid3B (u A0) (u A1) (u A2) (u B0) (u B1) (u B2) (u R0) (u R1) (u R2)) (endDom3 (u A0) (u A1) (u A2) (u B0) (u B1) (u B2) (u R0) (u R1) (u R2)) _ [ci 0, ci 1, ci 2] [ci 3, ci 4, ci 5] [ci 21, ci 25, ci 29] (valsDom3 (u A0) (u A1) (u A2) (u B0) (u B1) (u B2) (u R0) (u R1) (u R2)) _ (begins22_3 (u R0) (u R1) (u R2) k) (by rw [h0, h1, h2]; exact laid22_3A (u A0) (u A1) (u A2) (u R0) (u R1) (u R2)  k) (by rw [h3, h4, h5]; exact laid22_3B (u A0) (u A1) (u A2) (u B0) (u B1) (u B2) (u R0) (u R1) (u R2)  k) rfl rfl rfl (by rw [hk, cond_true]; exact runDom3 (u A0) (u A1) (u A2) (u B0) (u B1) (u B2) (u R0) (u R1) (u R2) k) (valuesDom3 (u A0) (u A1) (u A2) (u B0) (u B1) (u B2) (u R0) (u R1) (u R2) k) rfl
    (by rw [← rowUDom3_0]; exact rowDom3_0 (u A0) (u A1) (u A2) (u B0) (u B1) (u B2) (u R0) (u R1) (u R2) k) (ltDom3_0 .. ) (hf _)
set_option maxRecDepth 100000 in
theorem allDom3_0 (A0 A1 A2 B0 B1 B2 : BitVec 64) (x : Tvisorlaw22_Asked) (hx : x.a0 = u A0 ∧ x.a1 = u A1 ∧ x.a2 = u A2 ∧ x.b0 = u B0 ∧ x.b1 = u B1 ∧ x.b2 = u B2) (hk : (x.kind == 2) = true) (k : Nat) : visorlaw22_TimesEven.l1 x 0 3 (k + 60) (cells4 fun _ => 0) 0 = some (.inr [ci 2, ci 2, ci 2, ci 2]) := by
  have hb : ∀ (f : Nat → Int) (r : Nat) (c : Int), (∀ i, -c ≤ f i ∧ f i ≤ c) → ∀ i, -(c + 1) ≤ bump f r i ∧ bump f r i ≤ c + 1 := by
    intro f r c h i; have := h i; unfold bump; split <;> omega
  have g0 : ∀ i : Nat, -(0 : Int) ≤ (fun _ => (0 : Int)) i ∧ (fun _ => (0 : Int)) i ≤ 0 := fun _ => ⟨by show -(0 : Int) ≤ 0; omega, by show (0 : Int) ≤ 0; omega⟩
  have g1 := hb _ (rowBDom3_0 (A0.getLsbD 0) (A1.getLsbD 0) (A2.getLsbD 0) (B0.getLsbD 0) (B1.getLsbD 0) (B2.getLsbD 0) (BitVec.getLsbD 0#64 0) (BitVec.getLsbD 0#64 0) (BitVec.getLsbD 0#64 0)) _ g0
  have e0 := roundDom3_0 A0 A1 A2 B0 B1 B2 x hx hk (k + 19) 0 _ (by omega) 0#64 0#64 0#64 (bits22_3_0 (k + 19)) (wide g0 (by omega))
  have g2 := hb _ (rowBDom3_0 (A0.getLsbD 0) (A1.getLsbD 0) (A2.getLsbD 0) (B0.getLsbD 0) (B1.getLsbD 0) (B2.getLsbD 0) (BitVec.getLsbD 1#64 0) (BitVec.getLsbD 0#64 0) (BitVec.getLsbD 0#64 0)) _ g1
  have e1 := roundDom3_0 A0 A1 A2 B0 B1 B2 x hx hk (k + 18) 1 _ (by omega) 1#64 0#64 0#64 (bits22_3_1 (k + 18)) (wide g1 (by omega))
  have g3 := hb _ (rowBDom3_0 (A0.getLsbD 0) (A1.getLsbD 0) (A2.getLsbD 0) (B0.getLsbD 0) (B1.getLsbD 0) (B2.getLsbD 0) (BitVec.getLsbD 0#64 0) (BitVec.getLsbD 1#64 0) (BitVec.getLsbD 0#64 0)) _ g2
  have e2 := roundDom3_0 A0 A1 A2 B0 B1 B2 x hx hk (k + 17) 2 _ (by omega) 0#64 1#64 0#64 (bits22_3_2 (k + 17)) (wide g2 (by omega))
  have g4 := hb _ (rowBDom3_0 (A0.getLsbD 0) (A1.getLsbD 0) (A2.getLsbD 0) (B0.getLsbD 0) (B1.getLsbD 0) (B2.getLsbD 0) (BitVec.getLsbD 1#64 0) (BitVec.getLsbD 1#64 0) (BitVec.getLsbD 0#64 0)) _ g3
  have e3 := roundDom3_0 A0 A1 A2 B0 B1 B2 x hx hk (k + 16) 3 _ (by omega) 1#64 1#64 0#64 (bits22_3_3 (k + 16)) (wide g3 (by omega))
  have g5 := hb _ (rowBDom3_0 (A0.getLsbD 0) (A1.getLsbD 0) (A2.getLsbD 0) (B0.getLsbD 0) (B1.getLsbD 0) (B2.getLsbD 0) (BitVec.getLsbD 0#64 0) (BitVec.getLsbD 0#64 0) (BitVec.getLsbD 1#64 0)) _ g4
  have e4 := roundDom3_0 A0 A1 A2 B0 B1 B2 x hx hk (k + 15) 4 _ (by omega) 0#64 0#64 1#64 (bits22_3_4 (k + 15)) (wide g4 (by omega))
  have g6 := hb _ (rowBDom3_0 (A0.getLsbD 0) (A1.getLsbD 0) (A2.getLsbD 0) (B0.getLsbD 0) (B1.getLsbD 0) (B2.getLsbD 0) (BitVec.getLsbD 1#64 0) (BitVec.getLsbD 0#64 0) (BitVec.getLsbD 1#64 0)) _ g5
  have e5 := roundDom3_0 A0 A1 A2 B0 B1 B2 x hx hk (k + 14) 5 _ (by omega) 1#64 0#64 1#64 (bits22_3_5 (k + 14)) (wide g5 (by omega))
  have g7 := hb _ (rowBDom3_0 (A0.getLsbD 0) (A1.getLsbD 0) (A2.getLsbD 0) (B0.getLsbD 0) (B1.getLsbD 0) (B2.getLsbD 0) (BitVec.getLsbD 0#64 0) (BitVec.getLsbD 1#64 0) (BitVec.getLsbD 1#64 0)) _ g6
  have e6 := roundDom3_0 A0 A1 A2 B0 B1 B2 x hx hk (k + 13) 6 _ (by omega) 0#64 1#64 1#64 (bits22_3_6 (k + 13)) (wide g6 (by omega))
  have g8 := hb _ (rowBDom3_0 (A0.getLsbD 0) (A1.getLsbD 0) (A2.getLsbD 0) (B0.getLsbD 0) (B1.getLsbD 0) (B2.getLsbD 0) (BitVec.getLsbD 1#64 0) (BitVec.getLsbD 1#64 0) (BitVec.getLsbD 1#64 0)) _ g7
  have e7 := roundDom3_0 A0 A1 A2 B0 B1 B2 x hx hk (k + 12) 7 _ (by omega) 1#64 1#64 1#64 (bits22_3_7 (k + 12)) (wide g7 (by omega))
  have z : ((0 : Nat) : Int) = 0 := rfl
  rw [z] at e0
  have fin : ∀ C : Cells, visorlaw22_TimesEven.l1 x 0 3 (k + 52) C ((8 : Nat) : Int) = some (.inr C) := by
    intro C
    unfold visorlaw22_TimesEven.l1
    rfl
  rw [show k + 60 = k + 19 + 41 by omega, e0, show k + 19 + 40 = k + 18 + 41 by omega, e1, show k + 18 + 40 = k + 17 + 41 by omega, e2, show k + 17 + 40 = k + 16 + 41 by omega, e3, show k + 16 + 40 = k + 15 + 41 by omega, e4, show k + 15 + 40 = k + 14 + 41 by omega, e5, show k + 14 + 40 = k + 13 + 41 by omega, e6, show k + 13 + 40 = k + 12 + 41 by omega, e7, fin]
  have hc := countDom3_0 (A0.getLsbD 0) (A1.getLsbD 0) (A2.getLsbD 0) (B0.getLsbD 0) (B1.getLsbD 0) (B2.getLsbD 0)
  simp only [List.foldl_cons, List.foldl_nil] at hc
  have hcell : ∀ f : Nat → Int, f 0 = 2 → f 1 = 2 → f 2 = 2 → f 3 = 2 → cells4 f = [ci 2, ci 2, ci 2, ci 2] := by
    intro f h0 h1 h2 h3; unfold cells4; rw [h0, h1, h2, h3]
  refine congrArg (fun z => some (Sum.inr z)) (hcell _ ?_ ?_ ?_ ?_)
  · exact hc 0
  · exact hc 1
  · exact hc 2
  · exact hc 3
set_option maxRecDepth 100000 in
theorem roundDom3_1 (A0 A1 A2 B0 B1 B2 : BitVec 64) (x : Tvisorlaw22_Asked) (hx : x.a0 = u A0 ∧ x.a1 = u A1 ∧ x.a2 = u A2 ∧ x.b0 = u B0 ∧ x.b1 = u B1 ∧ x.b2 = u B2) (hk : (x.kind == 2) = true) (k q : Nat) (f : Nat → Int) (hq : q < 8) (R0 R1 R2 : BitVec 64) (hl2 : visorlaw22_TimesEven.l2 3 (q : Int) (k + 40) [] 0 = some [u R0, u R1, u R2]) (hf : ∀ i, -1000 ≤ f i ∧ f i ≤ 1000) :
    visorlaw22_TimesEven.l1 x 1 3 (k + 41) (cells4 f) (q : Int) = visorlaw22_TimesEven.l1 x 1 3 (k + 40) (cells4 (bump f (rowBDom3_1 (A0.getLsbD 0) (A1.getLsbD 0) (A2.getLsbD 0) (B0.getLsbD 0) (B1.getLsbD 0) (B2.getLsbD 0) (R0.getLsbD 0) (R1.getLsbD 0) (R2.getLsbD 0)))) ((q + 1 : Nat) : Int) := by
  obtain ⟨h0, h1, h2, h3, h4, h5⟩ := hx
  exact iter22_3 x 1 k q f hq _ hl2 (start3 (u R0) (u R1) (u R2)) (laid3A (u A0) (u A1) (u A2) (u R0) (u R1) (u R2)) (laid3B (u A0) (u A1) (u A2) (u B0) (u B1) (u B2) (u R0) (u R1) (u R2)) (endDom3 (u A0) (u A1) (u A2) (u B0) (u B1) (u B2) (u R0) (u R1) (u R2)) _ [ci 0, ci 1, ci 2] [ci 3, ci 4, ci 5] [ci 21, ci 25, ci 29] (valsDom3 (u A0) (u A1) (u A2) (u B0) (u B1) (u B2) (u R0) (u R1) (u R2)) _ (begins22_3 (u R0) (u R1) (u R2) k) (by rw [h0, h1, h2]; exact laid22_3A (u A0) (u A1) (u A2) (u R0) (u R1) (u R2)  k) (by rw [h3, h4, h5]; exact laid22_3B (u A0) (u A1) (u A2) (u B0) (u B1) (u B2) (u R0) (u R1) (u R2)  k) rfl rfl rfl (by rw [hk, cond_true]; exact runDom3 (u A0) (u A1) (u A2) (u B0) (u B1) (u B2) (u R0) (u R1) (u R2) k) (valuesDom3 (u A0) (u A1) (u A2) (u B0) (u B1) (u B2) (u R0) (u R1) (u R2) k) rfl
    (by rw [← rowUDom3_1]; exact rowDom3_1 (u A0) (u A1) (u A2) (u B0) (u B1) (u B2) (u R0) (u R1) (u R2) k) (ltDom3_1 .. ) (hf _)
set_option maxRecDepth 100000 in
theorem allDom3_1 (A0 A1 A2 B0 B1 B2 : BitVec 64) (x : Tvisorlaw22_Asked) (hx : x.a0 = u A0 ∧ x.a1 = u A1 ∧ x.a2 = u A2 ∧ x.b0 = u B0 ∧ x.b1 = u B1 ∧ x.b2 = u B2) (hk : (x.kind == 2) = true) (k : Nat) : visorlaw22_TimesEven.l1 x 1 3 (k + 60) (cells4 fun _ => 0) 0 = some (.inr [ci 2, ci 2, ci 2, ci 2]) := by
  have hb : ∀ (f : Nat → Int) (r : Nat) (c : Int), (∀ i, -c ≤ f i ∧ f i ≤ c) → ∀ i, -(c + 1) ≤ bump f r i ∧ bump f r i ≤ c + 1 := by
    intro f r c h i; have := h i; unfold bump; split <;> omega
  have g0 : ∀ i : Nat, -(0 : Int) ≤ (fun _ => (0 : Int)) i ∧ (fun _ => (0 : Int)) i ≤ 0 := fun _ => ⟨by show -(0 : Int) ≤ 0; omega, by show (0 : Int) ≤ 0; omega⟩
  have g1 := hb _ (rowBDom3_1 (A0.getLsbD 0) (A1.getLsbD 0) (A2.getLsbD 0) (B0.getLsbD 0) (B1.getLsbD 0) (B2.getLsbD 0) (BitVec.getLsbD 0#64 0) (BitVec.getLsbD 0#64 0) (BitVec.getLsbD 0#64 0)) _ g0
  have e0 := roundDom3_1 A0 A1 A2 B0 B1 B2 x hx hk (k + 19) 0 _ (by omega) 0#64 0#64 0#64 (bits22_3_0 (k + 19)) (wide g0 (by omega))
  have g2 := hb _ (rowBDom3_1 (A0.getLsbD 0) (A1.getLsbD 0) (A2.getLsbD 0) (B0.getLsbD 0) (B1.getLsbD 0) (B2.getLsbD 0) (BitVec.getLsbD 1#64 0) (BitVec.getLsbD 0#64 0) (BitVec.getLsbD 0#64 0)) _ g1
  have e1 := roundDom3_1 A0 A1 A2 B0 B1 B2 x hx hk (k + 18) 1 _ (by omega) 1#64 0#64 0#64 (bits22_3_1 (k + 18)) (wide g1 (by omega))
  have g3 := hb _ (rowBDom3_1 (A0.getLsbD 0) (A1.getLsbD 0) (A2.getLsbD 0) (B0.getLsbD 0) (B1.getLsbD 0) (B2.getLsbD 0) (BitVec.getLsbD 0#64 0) (BitVec.getLsbD 1#64 0) (BitVec.getLsbD 0#64 0)) _ g2
  have e2 := roundDom3_1 A0 A1 A2 B0 B1 B2 x hx hk (k + 17) 2 _ (by omega) 0#64 1#64 0#64 (bits22_3_2 (k + 17)) (wide g2 (by omega))
  have g4 := hb _ (rowBDom3_1 (A0.getLsbD 0) (A1.getLsbD 0) (A2.getLsbD 0) (B0.getLsbD 0) (B1.getLsbD 0) (B2.getLsbD 0) (BitVec.getLsbD 1#64 0) (BitVec.getLsbD 1#64 0) (BitVec.getLsbD 0#64 0)) _ g3
  have e3 := roundDom3_1 A0 A1 A2 B0 B1 B2 x hx hk (k + 16) 3 _ (by omega) 1#64 1#64 0#64 (bits22_3_3 (k + 16)) (wide g3 (by omega))
  have g5 := hb _ (rowBDom3_1 (A0.getLsbD 0) (A1.getLsbD 0) (A2.getLsbD 0) (B0.getLsbD 0) (B1.getLsbD 0) (B2.getLsbD 0) (BitVec.getLsbD 0#64 0) (BitVec.getLsbD 0#64 0) (BitVec.getLsbD 1#64 0)) _ g4
  have e4 := roundDom3_1 A0 A1 A2 B0 B1 B2 x hx hk (k + 15) 4 _ (by omega) 0#64 0#64 1#64 (bits22_3_4 (k + 15)) (wide g4 (by omega))
  have g6 := hb _ (rowBDom3_1 (A0.getLsbD 0) (A1.getLsbD 0) (A2.getLsbD 0) (B0.getLsbD 0) (B1.getLsbD 0) (B2.getLsbD 0) (BitVec.getLsbD 1#64 0) (BitVec.getLsbD 0#64 0) (BitVec.getLsbD 1#64 0)) _ g5
  have e5 := roundDom3_1 A0 A1 A2 B0 B1 B2 x hx hk (k + 14) 5 _ (by omega) 1#64 0#64 1#64 (bits22_3_5 (k + 14)) (wide g5 (by omega))
  have g7 := hb _ (rowBDom3_1 (A0.getLsbD 0) (A1.getLsbD 0) (A2.getLsbD 0) (B0.getLsbD 0) (B1.getLsbD 0) (B2.getLsbD 0) (BitVec.getLsbD 0#64 0) (BitVec.getLsbD 1#64 0) (BitVec.getLsbD 1#64 0)) _ g6
  have e6 := roundDom3_1 A0 A1 A2 B0 B1 B2 x hx hk (k + 13) 6 _ (by omega) 0#64 1#64 1#64 (bits22_3_6 (k + 13)) (wide g6 (by omega))
  have g8 := hb _ (rowBDom3_1 (A0.getLsbD 0) (A1.getLsbD 0) (A2.getLsbD 0) (B0.getLsbD 0) (B1.getLsbD 0) (B2.getLsbD 0) (BitVec.getLsbD 1#64 0) (BitVec.getLsbD 1#64 0) (BitVec.getLsbD 1#64 0)) _ g7
  have e7 := roundDom3_1 A0 A1 A2 B0 B1 B2 x hx hk (k + 12) 7 _ (by omega) 1#64 1#64 1#64 (bits22_3_7 (k + 12)) (wide g7 (by omega))
  have z : ((0 : Nat) : Int) = 0 := rfl
  rw [z] at e0
  have fin : ∀ C : Cells, visorlaw22_TimesEven.l1 x 1 3 (k + 52) C ((8 : Nat) : Int) = some (.inr C) := by
    intro C
    unfold visorlaw22_TimesEven.l1
    rfl
  rw [show k + 60 = k + 19 + 41 by omega, e0, show k + 19 + 40 = k + 18 + 41 by omega, e1, show k + 18 + 40 = k + 17 + 41 by omega, e2, show k + 17 + 40 = k + 16 + 41 by omega, e3, show k + 16 + 40 = k + 15 + 41 by omega, e4, show k + 15 + 40 = k + 14 + 41 by omega, e5, show k + 14 + 40 = k + 13 + 41 by omega, e6, show k + 13 + 40 = k + 12 + 41 by omega, e7, fin]
  have hc := countDom3_1 (A0.getLsbD 0) (A1.getLsbD 0) (A2.getLsbD 0) (B0.getLsbD 0) (B1.getLsbD 0) (B2.getLsbD 0)
  simp only [List.foldl_cons, List.foldl_nil] at hc
  have hcell : ∀ f : Nat → Int, f 0 = 2 → f 1 = 2 → f 2 = 2 → f 3 = 2 → cells4 f = [ci 2, ci 2, ci 2, ci 2] := by
    intro f h0 h1 h2 h3; unfold cells4; rw [h0, h1, h2, h3]
  refine congrArg (fun z => some (Sum.inr z)) (hcell _ ?_ ?_ ?_ ?_)
  · exact hc 0
  · exact hc 1
  · exact hc 2
  · exact hc 3
set_option maxRecDepth 100000 in
theorem roundDom3_2 (A0 A1 A2 B0 B1 B2 : BitVec 64) (x : Tvisorlaw22_Asked) (hx : x.a0 = u A0 ∧ x.a1 = u A1 ∧ x.a2 = u A2 ∧ x.b0 = u B0 ∧ x.b1 = u B1 ∧ x.b2 = u B2) (hk : (x.kind == 2) = true) (k q : Nat) (f : Nat → Int) (hq : q < 8) (R0 R1 R2 : BitVec 64) (hl2 : visorlaw22_TimesEven.l2 3 (q : Int) (k + 40) [] 0 = some [u R0, u R1, u R2]) (hf : ∀ i, -1000 ≤ f i ∧ f i ≤ 1000) :
    visorlaw22_TimesEven.l1 x 2 3 (k + 41) (cells4 f) (q : Int) = visorlaw22_TimesEven.l1 x 2 3 (k + 40) (cells4 (bump f (rowBDom3_2 (A0.getLsbD 0) (A1.getLsbD 0) (A2.getLsbD 0) (B0.getLsbD 0) (B1.getLsbD 0) (B2.getLsbD 0) (R0.getLsbD 0) (R1.getLsbD 0) (R2.getLsbD 0)))) ((q + 1 : Nat) : Int) := by
  obtain ⟨h0, h1, h2, h3, h4, h5⟩ := hx
  exact iter22_3 x 2 k q f hq _ hl2 (start3 (u R0) (u R1) (u R2)) (laid3A (u A0) (u A1) (u A2) (u R0) (u R1) (u R2)) (laid3B (u A0) (u A1) (u A2) (u B0) (u B1) (u B2) (u R0) (u R1) (u R2)) (endDom3 (u A0) (u A1) (u A2) (u B0) (u B1) (u B2) (u R0) (u R1) (u R2)) _ [ci 0, ci 1, ci 2] [ci 3, ci 4, ci 5] [ci 21, ci 25, ci 29] (valsDom3 (u A0) (u A1) (u A2) (u B0) (u B1) (u B2) (u R0) (u R1) (u R2)) _ (begins22_3 (u R0) (u R1) (u R2) k) (by rw [h0, h1, h2]; exact laid22_3A (u A0) (u A1) (u A2) (u R0) (u R1) (u R2)  k) (by rw [h3, h4, h5]; exact laid22_3B (u A0) (u A1) (u A2) (u B0) (u B1) (u B2) (u R0) (u R1) (u R2)  k) rfl rfl rfl (by rw [hk, cond_true]; exact runDom3 (u A0) (u A1) (u A2) (u B0) (u B1) (u B2) (u R0) (u R1) (u R2) k) (valuesDom3 (u A0) (u A1) (u A2) (u B0) (u B1) (u B2) (u R0) (u R1) (u R2) k) rfl
    (by rw [← rowUDom3_2]; exact rowDom3_2 (u A0) (u A1) (u A2) (u B0) (u B1) (u B2) (u R0) (u R1) (u R2) k) (ltDom3_2 .. ) (hf _)
set_option maxRecDepth 100000 in
theorem allDom3_2 (A0 A1 A2 B0 B1 B2 : BitVec 64) (x : Tvisorlaw22_Asked) (hx : x.a0 = u A0 ∧ x.a1 = u A1 ∧ x.a2 = u A2 ∧ x.b0 = u B0 ∧ x.b1 = u B1 ∧ x.b2 = u B2) (hk : (x.kind == 2) = true) (k : Nat) : visorlaw22_TimesEven.l1 x 2 3 (k + 60) (cells4 fun _ => 0) 0 = some (.inr [ci 2, ci 2, ci 2, ci 2]) := by
  have hb : ∀ (f : Nat → Int) (r : Nat) (c : Int), (∀ i, -c ≤ f i ∧ f i ≤ c) → ∀ i, -(c + 1) ≤ bump f r i ∧ bump f r i ≤ c + 1 := by
    intro f r c h i; have := h i; unfold bump; split <;> omega
  have g0 : ∀ i : Nat, -(0 : Int) ≤ (fun _ => (0 : Int)) i ∧ (fun _ => (0 : Int)) i ≤ 0 := fun _ => ⟨by show -(0 : Int) ≤ 0; omega, by show (0 : Int) ≤ 0; omega⟩
  have g1 := hb _ (rowBDom3_2 (A0.getLsbD 0) (A1.getLsbD 0) (A2.getLsbD 0) (B0.getLsbD 0) (B1.getLsbD 0) (B2.getLsbD 0) (BitVec.getLsbD 0#64 0) (BitVec.getLsbD 0#64 0) (BitVec.getLsbD 0#64 0)) _ g0
  have e0 := roundDom3_2 A0 A1 A2 B0 B1 B2 x hx hk (k + 19) 0 _ (by omega) 0#64 0#64 0#64 (bits22_3_0 (k + 19)) (wide g0 (by omega))
  have g2 := hb _ (rowBDom3_2 (A0.getLsbD 0) (A1.getLsbD 0) (A2.getLsbD 0) (B0.getLsbD 0) (B1.getLsbD 0) (B2.getLsbD 0) (BitVec.getLsbD 1#64 0) (BitVec.getLsbD 0#64 0) (BitVec.getLsbD 0#64 0)) _ g1
  have e1 := roundDom3_2 A0 A1 A2 B0 B1 B2 x hx hk (k + 18) 1 _ (by omega) 1#64 0#64 0#64 (bits22_3_1 (k + 18)) (wide g1 (by omega))
  have g3 := hb _ (rowBDom3_2 (A0.getLsbD 0) (A1.getLsbD 0) (A2.getLsbD 0) (B0.getLsbD 0) (B1.getLsbD 0) (B2.getLsbD 0) (BitVec.getLsbD 0#64 0) (BitVec.getLsbD 1#64 0) (BitVec.getLsbD 0#64 0)) _ g2
  have e2 := roundDom3_2 A0 A1 A2 B0 B1 B2 x hx hk (k + 17) 2 _ (by omega) 0#64 1#64 0#64 (bits22_3_2 (k + 17)) (wide g2 (by omega))
  have g4 := hb _ (rowBDom3_2 (A0.getLsbD 0) (A1.getLsbD 0) (A2.getLsbD 0) (B0.getLsbD 0) (B1.getLsbD 0) (B2.getLsbD 0) (BitVec.getLsbD 1#64 0) (BitVec.getLsbD 1#64 0) (BitVec.getLsbD 0#64 0)) _ g3
  have e3 := roundDom3_2 A0 A1 A2 B0 B1 B2 x hx hk (k + 16) 3 _ (by omega) 1#64 1#64 0#64 (bits22_3_3 (k + 16)) (wide g3 (by omega))
  have g5 := hb _ (rowBDom3_2 (A0.getLsbD 0) (A1.getLsbD 0) (A2.getLsbD 0) (B0.getLsbD 0) (B1.getLsbD 0) (B2.getLsbD 0) (BitVec.getLsbD 0#64 0) (BitVec.getLsbD 0#64 0) (BitVec.getLsbD 1#64 0)) _ g4
  have e4 := roundDom3_2 A0 A1 A2 B0 B1 B2 x hx hk (k + 15) 4 _ (by omega) 0#64 0#64 1#64 (bits22_3_4 (k + 15)) (wide g4 (by omega))
  have g6 := hb _ (rowBDom3_2 (A0.getLsbD 0) (A1.getLsbD 0) (A2.getLsbD 0) (B0.getLsbD 0) (B1.getLsbD 0) (B2.getLsbD 0) (BitVec.getLsbD 1#64 0) (BitVec.getLsbD 0#64 0) (BitVec.getLsbD 1#64 0)) _ g5
  have e5 := roundDom3_2 A0 A1 A2 B0 B1 B2 x hx hk (k + 14) 5 _ (by omega) 1#64 0#64 1#64 (bits22_3_5 (k + 14)) (wide g5 (by omega))
  have g7 := hb _ (rowBDom3_2 (A0.getLsbD 0) (A1.getLsbD 0) (A2.getLsbD 0) (B0.getLsbD 0) (B1.getLsbD 0) (B2.getLsbD 0) (BitVec.getLsbD 0#64 0) (BitVec.getLsbD 1#64 0) (BitVec.getLsbD 1#64 0)) _ g6
  have e6 := roundDom3_2 A0 A1 A2 B0 B1 B2 x hx hk (k + 13) 6 _ (by omega) 0#64 1#64 1#64 (bits22_3_6 (k + 13)) (wide g6 (by omega))
  have g8 := hb _ (rowBDom3_2 (A0.getLsbD 0) (A1.getLsbD 0) (A2.getLsbD 0) (B0.getLsbD 0) (B1.getLsbD 0) (B2.getLsbD 0) (BitVec.getLsbD 1#64 0) (BitVec.getLsbD 1#64 0) (BitVec.getLsbD 1#64 0)) _ g7
  have e7 := roundDom3_2 A0 A1 A2 B0 B1 B2 x hx hk (k + 12) 7 _ (by omega) 1#64 1#64 1#64 (bits22_3_7 (k + 12)) (wide g7 (by omega))
  have z : ((0 : Nat) : Int) = 0 := rfl
  rw [z] at e0
  have fin : ∀ C : Cells, visorlaw22_TimesEven.l1 x 2 3 (k + 52) C ((8 : Nat) : Int) = some (.inr C) := by
    intro C
    unfold visorlaw22_TimesEven.l1
    rfl
  rw [show k + 60 = k + 19 + 41 by omega, e0, show k + 19 + 40 = k + 18 + 41 by omega, e1, show k + 18 + 40 = k + 17 + 41 by omega, e2, show k + 17 + 40 = k + 16 + 41 by omega, e3, show k + 16 + 40 = k + 15 + 41 by omega, e4, show k + 15 + 40 = k + 14 + 41 by omega, e5, show k + 14 + 40 = k + 13 + 41 by omega, e6, show k + 13 + 40 = k + 12 + 41 by omega, e7, fin]
  have hc := countDom3_2 (A0.getLsbD 0) (A1.getLsbD 0) (A2.getLsbD 0) (B0.getLsbD 0) (B1.getLsbD 0) (B2.getLsbD 0)
  simp only [List.foldl_cons, List.foldl_nil] at hc
  have hcell : ∀ f : Nat → Int, f 0 = 2 → f 1 = 2 → f 2 = 2 → f 3 = 2 → cells4 f = [ci 2, ci 2, ci 2, ci 2] := by
    intro f h0 h1 h2 h3; unfold cells4; rw [h0, h1, h2, h3]
  refine congrArg (fun z => some (Sum.inr z)) (hcell _ ?_ ?_ ?_ ?_)
  · exact hc 0
  · exact hc 1
  · exact hc 2
  · exact hc 3
set_option maxRecDepth 100000 in
theorem roundIsw3_0 (A0 A1 A2 B0 B1 B2 : BitVec 64) (x : Tvisorlaw22_Asked) (hx : x.a0 = u A0 ∧ x.a1 = u A1 ∧ x.a2 = u A2 ∧ x.b0 = u B0 ∧ x.b1 = u B1 ∧ x.b2 = u B2) (hk : (x.kind == 2) = false) (k q : Nat) (f : Nat → Int) (hq : q < 8) (R0 R1 R2 : BitVec 64) (hl2 : visorlaw22_TimesEven.l2 3 (q : Int) (k + 40) [] 0 = some [u R0, u R1, u R2]) (hf : ∀ i, -1000 ≤ f i ∧ f i ≤ 1000) :
    visorlaw22_TimesEven.l1 x 0 3 (k + 41) (cells4 f) (q : Int) = visorlaw22_TimesEven.l1 x 0 3 (k + 40) (cells4 (bump f (rowBIsw3_0 (A0.getLsbD 0) (A1.getLsbD 0) (A2.getLsbD 0) (B0.getLsbD 0) (B1.getLsbD 0) (B2.getLsbD 0) (R0.getLsbD 0) (R1.getLsbD 0) (R2.getLsbD 0)))) ((q + 1 : Nat) : Int) := by
  obtain ⟨h0, h1, h2, h3, h4, h5⟩ := hx
  exact iter22_3 x 0 k q f hq _ hl2 (start3 (u R0) (u R1) (u R2)) (laid3A (u A0) (u A1) (u A2) (u R0) (u R1) (u R2)) (laid3B (u A0) (u A1) (u A2) (u B0) (u B1) (u B2) (u R0) (u R1) (u R2)) (endIsw3 (u A0) (u A1) (u A2) (u B0) (u B1) (u B2) (u R0) (u R1) (u R2)) _ [ci 0, ci 1, ci 2] [ci 3, ci 4, ci 5] [ci 19, ci 23, ci 29] (valsIsw3 (u A0) (u A1) (u A2) (u B0) (u B1) (u B2) (u R0) (u R1) (u R2)) _ (begins22_3 (u R0) (u R1) (u R2) k) (by rw [h0, h1, h2]; exact laid22_3A (u A0) (u A1) (u A2) (u R0) (u R1) (u R2)  k) (by rw [h3, h4, h5]; exact laid22_3B (u A0) (u A1) (u A2) (u B0) (u B1) (u B2) (u R0) (u R1) (u R2)  k) rfl rfl rfl (by rw [hk, cond_false]; exact runIsw3 (u A0) (u A1) (u A2) (u B0) (u B1) (u B2) (u R0) (u R1) (u R2) k) (valuesIsw3 (u A0) (u A1) (u A2) (u B0) (u B1) (u B2) (u R0) (u R1) (u R2) k) rfl
    (by rw [← rowUIsw3_0]; exact rowIsw3_0 (u A0) (u A1) (u A2) (u B0) (u B1) (u B2) (u R0) (u R1) (u R2) k) (ltIsw3_0 .. ) (hf _)
set_option maxRecDepth 100000 in
theorem allIsw3_0 (A0 A1 A2 B0 B1 B2 : BitVec 64) (x : Tvisorlaw22_Asked) (hx : x.a0 = u A0 ∧ x.a1 = u A1 ∧ x.a2 = u A2 ∧ x.b0 = u B0 ∧ x.b1 = u B1 ∧ x.b2 = u B2) (hk : (x.kind == 2) = false) (k : Nat) : visorlaw22_TimesEven.l1 x 0 3 (k + 60) (cells4 fun _ => 0) 0 = some (.inr [ci 2, ci 2, ci 2, ci 2]) := by
  have hb : ∀ (f : Nat → Int) (r : Nat) (c : Int), (∀ i, -c ≤ f i ∧ f i ≤ c) → ∀ i, -(c + 1) ≤ bump f r i ∧ bump f r i ≤ c + 1 := by
    intro f r c h i; have := h i; unfold bump; split <;> omega
  have g0 : ∀ i : Nat, -(0 : Int) ≤ (fun _ => (0 : Int)) i ∧ (fun _ => (0 : Int)) i ≤ 0 := fun _ => ⟨by show -(0 : Int) ≤ 0; omega, by show (0 : Int) ≤ 0; omega⟩
  have g1 := hb _ (rowBIsw3_0 (A0.getLsbD 0) (A1.getLsbD 0) (A2.getLsbD 0) (B0.getLsbD 0) (B1.getLsbD 0) (B2.getLsbD 0) (BitVec.getLsbD 0#64 0) (BitVec.getLsbD 0#64 0) (BitVec.getLsbD 0#64 0)) _ g0
  have e0 := roundIsw3_0 A0 A1 A2 B0 B1 B2 x hx hk (k + 19) 0 _ (by omega) 0#64 0#64 0#64 (bits22_3_0 (k + 19)) (wide g0 (by omega))
  have g2 := hb _ (rowBIsw3_0 (A0.getLsbD 0) (A1.getLsbD 0) (A2.getLsbD 0) (B0.getLsbD 0) (B1.getLsbD 0) (B2.getLsbD 0) (BitVec.getLsbD 1#64 0) (BitVec.getLsbD 0#64 0) (BitVec.getLsbD 0#64 0)) _ g1
  have e1 := roundIsw3_0 A0 A1 A2 B0 B1 B2 x hx hk (k + 18) 1 _ (by omega) 1#64 0#64 0#64 (bits22_3_1 (k + 18)) (wide g1 (by omega))
  have g3 := hb _ (rowBIsw3_0 (A0.getLsbD 0) (A1.getLsbD 0) (A2.getLsbD 0) (B0.getLsbD 0) (B1.getLsbD 0) (B2.getLsbD 0) (BitVec.getLsbD 0#64 0) (BitVec.getLsbD 1#64 0) (BitVec.getLsbD 0#64 0)) _ g2
  have e2 := roundIsw3_0 A0 A1 A2 B0 B1 B2 x hx hk (k + 17) 2 _ (by omega) 0#64 1#64 0#64 (bits22_3_2 (k + 17)) (wide g2 (by omega))
  have g4 := hb _ (rowBIsw3_0 (A0.getLsbD 0) (A1.getLsbD 0) (A2.getLsbD 0) (B0.getLsbD 0) (B1.getLsbD 0) (B2.getLsbD 0) (BitVec.getLsbD 1#64 0) (BitVec.getLsbD 1#64 0) (BitVec.getLsbD 0#64 0)) _ g3
  have e3 := roundIsw3_0 A0 A1 A2 B0 B1 B2 x hx hk (k + 16) 3 _ (by omega) 1#64 1#64 0#64 (bits22_3_3 (k + 16)) (wide g3 (by omega))
  have g5 := hb _ (rowBIsw3_0 (A0.getLsbD 0) (A1.getLsbD 0) (A2.getLsbD 0) (B0.getLsbD 0) (B1.getLsbD 0) (B2.getLsbD 0) (BitVec.getLsbD 0#64 0) (BitVec.getLsbD 0#64 0) (BitVec.getLsbD 1#64 0)) _ g4
  have e4 := roundIsw3_0 A0 A1 A2 B0 B1 B2 x hx hk (k + 15) 4 _ (by omega) 0#64 0#64 1#64 (bits22_3_4 (k + 15)) (wide g4 (by omega))
  have g6 := hb _ (rowBIsw3_0 (A0.getLsbD 0) (A1.getLsbD 0) (A2.getLsbD 0) (B0.getLsbD 0) (B1.getLsbD 0) (B2.getLsbD 0) (BitVec.getLsbD 1#64 0) (BitVec.getLsbD 0#64 0) (BitVec.getLsbD 1#64 0)) _ g5
  have e5 := roundIsw3_0 A0 A1 A2 B0 B1 B2 x hx hk (k + 14) 5 _ (by omega) 1#64 0#64 1#64 (bits22_3_5 (k + 14)) (wide g5 (by omega))
  have g7 := hb _ (rowBIsw3_0 (A0.getLsbD 0) (A1.getLsbD 0) (A2.getLsbD 0) (B0.getLsbD 0) (B1.getLsbD 0) (B2.getLsbD 0) (BitVec.getLsbD 0#64 0) (BitVec.getLsbD 1#64 0) (BitVec.getLsbD 1#64 0)) _ g6
  have e6 := roundIsw3_0 A0 A1 A2 B0 B1 B2 x hx hk (k + 13) 6 _ (by omega) 0#64 1#64 1#64 (bits22_3_6 (k + 13)) (wide g6 (by omega))
  have g8 := hb _ (rowBIsw3_0 (A0.getLsbD 0) (A1.getLsbD 0) (A2.getLsbD 0) (B0.getLsbD 0) (B1.getLsbD 0) (B2.getLsbD 0) (BitVec.getLsbD 1#64 0) (BitVec.getLsbD 1#64 0) (BitVec.getLsbD 1#64 0)) _ g7
  have e7 := roundIsw3_0 A0 A1 A2 B0 B1 B2 x hx hk (k + 12) 7 _ (by omega) 1#64 1#64 1#64 (bits22_3_7 (k + 12)) (wide g7 (by omega))
  have z : ((0 : Nat) : Int) = 0 := rfl
  rw [z] at e0
  have fin : ∀ C : Cells, visorlaw22_TimesEven.l1 x 0 3 (k + 52) C ((8 : Nat) : Int) = some (.inr C) := by
    intro C
    unfold visorlaw22_TimesEven.l1
    rfl
  rw [show k + 60 = k + 19 + 41 by omega, e0, show k + 19 + 40 = k + 18 + 41 by omega, e1, show k + 18 + 40 = k + 17 + 41 by omega, e2, show k + 17 + 40 = k + 16 + 41 by omega, e3, show k + 16 + 40 = k + 15 + 41 by omega, e4, show k + 15 + 40 = k + 14 + 41 by omega, e5, show k + 14 + 40 = k + 13 + 41 by omega, e6, show k + 13 + 40 = k + 12 + 41 by omega, e7, fin]
  have hc := countIsw3_0 (A0.getLsbD 0) (A1.getLsbD 0) (A2.getLsbD 0) (B0.getLsbD 0) (B1.getLsbD 0) (B2.getLsbD 0)
  simp only [List.foldl_cons, List.foldl_nil] at hc
  have hcell : ∀ f : Nat → Int, f 0 = 2 → f 1 = 2 → f 2 = 2 → f 3 = 2 → cells4 f = [ci 2, ci 2, ci 2, ci 2] := by
    intro f h0 h1 h2 h3; unfold cells4; rw [h0, h1, h2, h3]
  refine congrArg (fun z => some (Sum.inr z)) (hcell _ ?_ ?_ ?_ ?_)
  · exact hc 0
  · exact hc 1
  · exact hc 2
  · exact hc 3
set_option maxRecDepth 100000 in
theorem roundIsw3_1 (A0 A1 A2 B0 B1 B2 : BitVec 64) (x : Tvisorlaw22_Asked) (hx : x.a0 = u A0 ∧ x.a1 = u A1 ∧ x.a2 = u A2 ∧ x.b0 = u B0 ∧ x.b1 = u B1 ∧ x.b2 = u B2) (hk : (x.kind == 2) = false) (k q : Nat) (f : Nat → Int) (hq : q < 8) (R0 R1 R2 : BitVec 64) (hl2 : visorlaw22_TimesEven.l2 3 (q : Int) (k + 40) [] 0 = some [u R0, u R1, u R2]) (hf : ∀ i, -1000 ≤ f i ∧ f i ≤ 1000) :
    visorlaw22_TimesEven.l1 x 1 3 (k + 41) (cells4 f) (q : Int) = visorlaw22_TimesEven.l1 x 1 3 (k + 40) (cells4 (bump f (rowBIsw3_1 (A0.getLsbD 0) (A1.getLsbD 0) (A2.getLsbD 0) (B0.getLsbD 0) (B1.getLsbD 0) (B2.getLsbD 0) (R0.getLsbD 0) (R1.getLsbD 0) (R2.getLsbD 0)))) ((q + 1 : Nat) : Int) := by
  obtain ⟨h0, h1, h2, h3, h4, h5⟩ := hx
  exact iter22_3 x 1 k q f hq _ hl2 (start3 (u R0) (u R1) (u R2)) (laid3A (u A0) (u A1) (u A2) (u R0) (u R1) (u R2)) (laid3B (u A0) (u A1) (u A2) (u B0) (u B1) (u B2) (u R0) (u R1) (u R2)) (endIsw3 (u A0) (u A1) (u A2) (u B0) (u B1) (u B2) (u R0) (u R1) (u R2)) _ [ci 0, ci 1, ci 2] [ci 3, ci 4, ci 5] [ci 19, ci 23, ci 29] (valsIsw3 (u A0) (u A1) (u A2) (u B0) (u B1) (u B2) (u R0) (u R1) (u R2)) _ (begins22_3 (u R0) (u R1) (u R2) k) (by rw [h0, h1, h2]; exact laid22_3A (u A0) (u A1) (u A2) (u R0) (u R1) (u R2)  k) (by rw [h3, h4, h5]; exact laid22_3B (u A0) (u A1) (u A2) (u B0) (u B1) (u B2) (u R0) (u R1) (u R2)  k) rfl rfl rfl (by rw [hk, cond_false]; exact runIsw3 (u A0) (u A1) (u A2) (u B0) (u B1) (u B2) (u R0) (u R1) (u R2) k) (valuesIsw3 (u A0) (u A1) (u A2) (u B0) (u B1) (u B2) (u R0) (u R1) (u R2) k) rfl
    (by rw [← rowUIsw3_1]; exact rowIsw3_1 (u A0) (u A1) (u A2) (u B0) (u B1) (u B2) (u R0) (u R1) (u R2) k) (ltIsw3_1 .. ) (hf _)
set_option maxRecDepth 100000 in
theorem allIsw3_1 (A0 A1 A2 B0 B1 B2 : BitVec 64) (x : Tvisorlaw22_Asked) (hx : x.a0 = u A0 ∧ x.a1 = u A1 ∧ x.a2 = u A2 ∧ x.b0 = u B0 ∧ x.b1 = u B1 ∧ x.b2 = u B2) (hk : (x.kind == 2) = false) (k : Nat) : visorlaw22_TimesEven.l1 x 1 3 (k + 60) (cells4 fun _ => 0) 0 = some (.inr [ci 2, ci 2, ci 2, ci 2]) := by
  have hb : ∀ (f : Nat → Int) (r : Nat) (c : Int), (∀ i, -c ≤ f i ∧ f i ≤ c) → ∀ i, -(c + 1) ≤ bump f r i ∧ bump f r i ≤ c + 1 := by
    intro f r c h i; have := h i; unfold bump; split <;> omega
  have g0 : ∀ i : Nat, -(0 : Int) ≤ (fun _ => (0 : Int)) i ∧ (fun _ => (0 : Int)) i ≤ 0 := fun _ => ⟨by show -(0 : Int) ≤ 0; omega, by show (0 : Int) ≤ 0; omega⟩
  have g1 := hb _ (rowBIsw3_1 (A0.getLsbD 0) (A1.getLsbD 0) (A2.getLsbD 0) (B0.getLsbD 0) (B1.getLsbD 0) (B2.getLsbD 0) (BitVec.getLsbD 0#64 0) (BitVec.getLsbD 0#64 0) (BitVec.getLsbD 0#64 0)) _ g0
  have e0 := roundIsw3_1 A0 A1 A2 B0 B1 B2 x hx hk (k + 19) 0 _ (by omega) 0#64 0#64 0#64 (bits22_3_0 (k + 19)) (wide g0 (by omega))
  have g2 := hb _ (rowBIsw3_1 (A0.getLsbD 0) (A1.getLsbD 0) (A2.getLsbD 0) (B0.getLsbD 0) (B1.getLsbD 0) (B2.getLsbD 0) (BitVec.getLsbD 1#64 0) (BitVec.getLsbD 0#64 0) (BitVec.getLsbD 0#64 0)) _ g1
  have e1 := roundIsw3_1 A0 A1 A2 B0 B1 B2 x hx hk (k + 18) 1 _ (by omega) 1#64 0#64 0#64 (bits22_3_1 (k + 18)) (wide g1 (by omega))
  have g3 := hb _ (rowBIsw3_1 (A0.getLsbD 0) (A1.getLsbD 0) (A2.getLsbD 0) (B0.getLsbD 0) (B1.getLsbD 0) (B2.getLsbD 0) (BitVec.getLsbD 0#64 0) (BitVec.getLsbD 1#64 0) (BitVec.getLsbD 0#64 0)) _ g2
  have e2 := roundIsw3_1 A0 A1 A2 B0 B1 B2 x hx hk (k + 17) 2 _ (by omega) 0#64 1#64 0#64 (bits22_3_2 (k + 17)) (wide g2 (by omega))
  have g4 := hb _ (rowBIsw3_1 (A0.getLsbD 0) (A1.getLsbD 0) (A2.getLsbD 0) (B0.getLsbD 0) (B1.getLsbD 0) (B2.getLsbD 0) (BitVec.getLsbD 1#64 0) (BitVec.getLsbD 1#64 0) (BitVec.getLsbD 0#64 0)) _ g3
  have e3 := roundIsw3_1 A0 A1 A2 B0 B1 B2 x hx hk (k + 16) 3 _ (by omega) 1#64 1#64 0#64 (bits22_3_3 (k + 16)) (wide g3 (by omega))
  have g5 := hb _ (rowBIsw3_1 (A0.getLsbD 0) (A1.getLsbD 0) (A2.getLsbD 0) (B0.getLsbD 0) (B1.getLsbD 0) (B2.getLsbD 0) (BitVec.getLsbD 0#64 0) (BitVec.getLsbD 0#64 0) (BitVec.getLsbD 1#64 0)) _ g4
  have e4 := roundIsw3_1 A0 A1 A2 B0 B1 B2 x hx hk (k + 15) 4 _ (by omega) 0#64 0#64 1#64 (bits22_3_4 (k + 15)) (wide g4 (by omega))
  have g6 := hb _ (rowBIsw3_1 (A0.getLsbD 0) (A1.getLsbD 0) (A2.getLsbD 0) (B0.getLsbD 0) (B1.getLsbD 0) (B2.getLsbD 0) (BitVec.getLsbD 1#64 0) (BitVec.getLsbD 0#64 0) (BitVec.getLsbD 1#64 0)) _ g5
  have e5 := roundIsw3_1 A0 A1 A2 B0 B1 B2 x hx hk (k + 14) 5 _ (by omega) 1#64 0#64 1#64 (bits22_3_5 (k + 14)) (wide g5 (by omega))
  have g7 := hb _ (rowBIsw3_1 (A0.getLsbD 0) (A1.getLsbD 0) (A2.getLsbD 0) (B0.getLsbD 0) (B1.getLsbD 0) (B2.getLsbD 0) (BitVec.getLsbD 0#64 0) (BitVec.getLsbD 1#64 0) (BitVec.getLsbD 1#64 0)) _ g6
  have e6 := roundIsw3_1 A0 A1 A2 B0 B1 B2 x hx hk (k + 13) 6 _ (by omega) 0#64 1#64 1#64 (bits22_3_6 (k + 13)) (wide g6 (by omega))
  have g8 := hb _ (rowBIsw3_1 (A0.getLsbD 0) (A1.getLsbD 0) (A2.getLsbD 0) (B0.getLsbD 0) (B1.getLsbD 0) (B2.getLsbD 0) (BitVec.getLsbD 1#64 0) (BitVec.getLsbD 1#64 0) (BitVec.getLsbD 1#64 0)) _ g7
  have e7 := roundIsw3_1 A0 A1 A2 B0 B1 B2 x hx hk (k + 12) 7 _ (by omega) 1#64 1#64 1#64 (bits22_3_7 (k + 12)) (wide g7 (by omega))
  have z : ((0 : Nat) : Int) = 0 := rfl
  rw [z] at e0
  have fin : ∀ C : Cells, visorlaw22_TimesEven.l1 x 1 3 (k + 52) C ((8 : Nat) : Int) = some (.inr C) := by
    intro C
    unfold visorlaw22_TimesEven.l1
    rfl
  rw [show k + 60 = k + 19 + 41 by omega, e0, show k + 19 + 40 = k + 18 + 41 by omega, e1, show k + 18 + 40 = k + 17 + 41 by omega, e2, show k + 17 + 40 = k + 16 + 41 by omega, e3, show k + 16 + 40 = k + 15 + 41 by omega, e4, show k + 15 + 40 = k + 14 + 41 by omega, e5, show k + 14 + 40 = k + 13 + 41 by omega, e6, show k + 13 + 40 = k + 12 + 41 by omega, e7, fin]
  have hc := countIsw3_1 (A0.getLsbD 0) (A1.getLsbD 0) (A2.getLsbD 0) (B0.getLsbD 0) (B1.getLsbD 0) (B2.getLsbD 0)
  simp only [List.foldl_cons, List.foldl_nil] at hc
  have hcell : ∀ f : Nat → Int, f 0 = 2 → f 1 = 2 → f 2 = 2 → f 3 = 2 → cells4 f = [ci 2, ci 2, ci 2, ci 2] := by
    intro f h0 h1 h2 h3; unfold cells4; rw [h0, h1, h2, h3]
  refine congrArg (fun z => some (Sum.inr z)) (hcell _ ?_ ?_ ?_ ?_)
  · exact hc 0
  · exact hc 1
  · exact hc 2
  · exact hc 3
set_option maxRecDepth 100000 in
theorem roundIsw3_2 (A0 A1 A2 B0 B1 B2 : BitVec 64) (x : Tvisorlaw22_Asked) (hx : x.a0 = u A0 ∧ x.a1 = u A1 ∧ x.a2 = u A2 ∧ x.b0 = u B0 ∧ x.b1 = u B1 ∧ x.b2 = u B2) (hk : (x.kind == 2) = false) (k q : Nat) (f : Nat → Int) (hq : q < 8) (R0 R1 R2 : BitVec 64) (hl2 : visorlaw22_TimesEven.l2 3 (q : Int) (k + 40) [] 0 = some [u R0, u R1, u R2]) (hf : ∀ i, -1000 ≤ f i ∧ f i ≤ 1000) :
    visorlaw22_TimesEven.l1 x 2 3 (k + 41) (cells4 f) (q : Int) = visorlaw22_TimesEven.l1 x 2 3 (k + 40) (cells4 (bump f (rowBIsw3_2 (A0.getLsbD 0) (A1.getLsbD 0) (A2.getLsbD 0) (B0.getLsbD 0) (B1.getLsbD 0) (B2.getLsbD 0) (R0.getLsbD 0) (R1.getLsbD 0) (R2.getLsbD 0)))) ((q + 1 : Nat) : Int) := by
  obtain ⟨h0, h1, h2, h3, h4, h5⟩ := hx
  exact iter22_3 x 2 k q f hq _ hl2 (start3 (u R0) (u R1) (u R2)) (laid3A (u A0) (u A1) (u A2) (u R0) (u R1) (u R2)) (laid3B (u A0) (u A1) (u A2) (u B0) (u B1) (u B2) (u R0) (u R1) (u R2)) (endIsw3 (u A0) (u A1) (u A2) (u B0) (u B1) (u B2) (u R0) (u R1) (u R2)) _ [ci 0, ci 1, ci 2] [ci 3, ci 4, ci 5] [ci 19, ci 23, ci 29] (valsIsw3 (u A0) (u A1) (u A2) (u B0) (u B1) (u B2) (u R0) (u R1) (u R2)) _ (begins22_3 (u R0) (u R1) (u R2) k) (by rw [h0, h1, h2]; exact laid22_3A (u A0) (u A1) (u A2) (u R0) (u R1) (u R2)  k) (by rw [h3, h4, h5]; exact laid22_3B (u A0) (u A1) (u A2) (u B0) (u B1) (u B2) (u R0) (u R1) (u R2)  k) rfl rfl rfl (by rw [hk, cond_false]; exact runIsw3 (u A0) (u A1) (u A2) (u B0) (u B1) (u B2) (u R0) (u R1) (u R2) k) (valuesIsw3 (u A0) (u A1) (u A2) (u B0) (u B1) (u B2) (u R0) (u R1) (u R2) k) rfl
    (by rw [← rowUIsw3_2]; exact rowIsw3_2 (u A0) (u A1) (u A2) (u B0) (u B1) (u B2) (u R0) (u R1) (u R2) k) (ltIsw3_2 .. ) (hf _)
set_option maxRecDepth 100000 in
theorem allIsw3_2 (A0 A1 A2 B0 B1 B2 : BitVec 64) (x : Tvisorlaw22_Asked) (hx : x.a0 = u A0 ∧ x.a1 = u A1 ∧ x.a2 = u A2 ∧ x.b0 = u B0 ∧ x.b1 = u B1 ∧ x.b2 = u B2) (hk : (x.kind == 2) = false) (k : Nat) : visorlaw22_TimesEven.l1 x 2 3 (k + 60) (cells4 fun _ => 0) 0 = some (.inr [ci 2, ci 2, ci 2, ci 2]) := by
  have hb : ∀ (f : Nat → Int) (r : Nat) (c : Int), (∀ i, -c ≤ f i ∧ f i ≤ c) → ∀ i, -(c + 1) ≤ bump f r i ∧ bump f r i ≤ c + 1 := by
    intro f r c h i; have := h i; unfold bump; split <;> omega
  have g0 : ∀ i : Nat, -(0 : Int) ≤ (fun _ => (0 : Int)) i ∧ (fun _ => (0 : Int)) i ≤ 0 := fun _ => ⟨by show -(0 : Int) ≤ 0; omega, by show (0 : Int) ≤ 0; omega⟩
  have g1 := hb _ (rowBIsw3_2 (A0.getLsbD 0) (A1.getLsbD 0) (A2.getLsbD 0) (B0.getLsbD 0) (B1.getLsbD 0) (B2.getLsbD 0) (BitVec.getLsbD 0#64 0) (BitVec.getLsbD 0#64 0) (BitVec.getLsbD 0#64 0)) _ g0
  have e0 := roundIsw3_2 A0 A1 A2 B0 B1 B2 x hx hk (k + 19) 0 _ (by omega) 0#64 0#64 0#64 (bits22_3_0 (k + 19)) (wide g0 (by omega))
  have g2 := hb _ (rowBIsw3_2 (A0.getLsbD 0) (A1.getLsbD 0) (A2.getLsbD 0) (B0.getLsbD 0) (B1.getLsbD 0) (B2.getLsbD 0) (BitVec.getLsbD 1#64 0) (BitVec.getLsbD 0#64 0) (BitVec.getLsbD 0#64 0)) _ g1
  have e1 := roundIsw3_2 A0 A1 A2 B0 B1 B2 x hx hk (k + 18) 1 _ (by omega) 1#64 0#64 0#64 (bits22_3_1 (k + 18)) (wide g1 (by omega))
  have g3 := hb _ (rowBIsw3_2 (A0.getLsbD 0) (A1.getLsbD 0) (A2.getLsbD 0) (B0.getLsbD 0) (B1.getLsbD 0) (B2.getLsbD 0) (BitVec.getLsbD 0#64 0) (BitVec.getLsbD 1#64 0) (BitVec.getLsbD 0#64 0)) _ g2
  have e2 := roundIsw3_2 A0 A1 A2 B0 B1 B2 x hx hk (k + 17) 2 _ (by omega) 0#64 1#64 0#64 (bits22_3_2 (k + 17)) (wide g2 (by omega))
  have g4 := hb _ (rowBIsw3_2 (A0.getLsbD 0) (A1.getLsbD 0) (A2.getLsbD 0) (B0.getLsbD 0) (B1.getLsbD 0) (B2.getLsbD 0) (BitVec.getLsbD 1#64 0) (BitVec.getLsbD 1#64 0) (BitVec.getLsbD 0#64 0)) _ g3
  have e3 := roundIsw3_2 A0 A1 A2 B0 B1 B2 x hx hk (k + 16) 3 _ (by omega) 1#64 1#64 0#64 (bits22_3_3 (k + 16)) (wide g3 (by omega))
  have g5 := hb _ (rowBIsw3_2 (A0.getLsbD 0) (A1.getLsbD 0) (A2.getLsbD 0) (B0.getLsbD 0) (B1.getLsbD 0) (B2.getLsbD 0) (BitVec.getLsbD 0#64 0) (BitVec.getLsbD 0#64 0) (BitVec.getLsbD 1#64 0)) _ g4
  have e4 := roundIsw3_2 A0 A1 A2 B0 B1 B2 x hx hk (k + 15) 4 _ (by omega) 0#64 0#64 1#64 (bits22_3_4 (k + 15)) (wide g4 (by omega))
  have g6 := hb _ (rowBIsw3_2 (A0.getLsbD 0) (A1.getLsbD 0) (A2.getLsbD 0) (B0.getLsbD 0) (B1.getLsbD 0) (B2.getLsbD 0) (BitVec.getLsbD 1#64 0) (BitVec.getLsbD 0#64 0) (BitVec.getLsbD 1#64 0)) _ g5
  have e5 := roundIsw3_2 A0 A1 A2 B0 B1 B2 x hx hk (k + 14) 5 _ (by omega) 1#64 0#64 1#64 (bits22_3_5 (k + 14)) (wide g5 (by omega))
  have g7 := hb _ (rowBIsw3_2 (A0.getLsbD 0) (A1.getLsbD 0) (A2.getLsbD 0) (B0.getLsbD 0) (B1.getLsbD 0) (B2.getLsbD 0) (BitVec.getLsbD 0#64 0) (BitVec.getLsbD 1#64 0) (BitVec.getLsbD 1#64 0)) _ g6
  have e6 := roundIsw3_2 A0 A1 A2 B0 B1 B2 x hx hk (k + 13) 6 _ (by omega) 0#64 1#64 1#64 (bits22_3_6 (k + 13)) (wide g6 (by omega))
  have g8 := hb _ (rowBIsw3_2 (A0.getLsbD 0) (A1.getLsbD 0) (A2.getLsbD 0) (B0.getLsbD 0) (B1.getLsbD 0) (B2.getLsbD 0) (BitVec.getLsbD 1#64 0) (BitVec.getLsbD 1#64 0) (BitVec.getLsbD 1#64 0)) _ g7
  have e7 := roundIsw3_2 A0 A1 A2 B0 B1 B2 x hx hk (k + 12) 7 _ (by omega) 1#64 1#64 1#64 (bits22_3_7 (k + 12)) (wide g7 (by omega))
  have z : ((0 : Nat) : Int) = 0 := rfl
  rw [z] at e0
  have fin : ∀ C : Cells, visorlaw22_TimesEven.l1 x 2 3 (k + 52) C ((8 : Nat) : Int) = some (.inr C) := by
    intro C
    unfold visorlaw22_TimesEven.l1
    rfl
  rw [show k + 60 = k + 19 + 41 by omega, e0, show k + 19 + 40 = k + 18 + 41 by omega, e1, show k + 18 + 40 = k + 17 + 41 by omega, e2, show k + 17 + 40 = k + 16 + 41 by omega, e3, show k + 16 + 40 = k + 15 + 41 by omega, e4, show k + 15 + 40 = k + 14 + 41 by omega, e5, show k + 14 + 40 = k + 13 + 41 by omega, e6, show k + 13 + 40 = k + 12 + 41 by omega, e7, fin]
  have hc := countIsw3_2 (A0.getLsbD 0) (A1.getLsbD 0) (A2.getLsbD 0) (B0.getLsbD 0) (B1.getLsbD 0) (B2.getLsbD 0)
  simp only [List.foldl_cons, List.foldl_nil] at hc
  have hcell : ∀ f : Nat → Int, f 0 = 2 → f 1 = 2 → f 2 = 2 → f 3 = 2 → cells4 f = [ci 2, ci 2, ci 2, ci 2] := by
    intro f h0 h1 h2 h3; unfold cells4; rw [h0, h1, h2, h3]
  refine congrArg (fun z => some (Sum.inr z)) (hcell _ ?_ ?_ ?_ ?_)
  · exact hc 0
  · exact hc 1
  · exact hc 2
  · exact hc 3

theorem even22_l3_same (x1 n : Int) (hn : n = 2 ∨ n = 3) (h0 : 0 ≤ x1) (h1 : x1 ≤ 255) (c : Cells) (v : List Int) : ∀ (k : Nat) (r q : Int), visorlaw22_TimesEven.l3 x1 n c v k r q = visorlaw22_TimesEven.l3 (x1 % n) n c v k r q
  | 0, r, q => by unfold visorlaw22_TimesEven.l3; rfl
  | k + 1, r, q => by
    have e : Int.tmod (IntKind.i64.wrap x1) n = Int.tmod (IntKind.i64.wrap (x1 % n)) n := by
      rcases hn with rfl | rfl
      · rw [wrap_i64_of (by omega) (by omega), wrap_i64_of (by omega) (by omega), tmod_of h0, tmod_of (by omega)]; omega
      · rw [wrap_i64_of (by omega) (by omega), wrap_i64_of (by omega) (by omega), tmod_of h0, tmod_of (by omega)]; omega
    have ih := fun r q => even22_l3_same x1 n hn h0 h1 c v k r q
    unfold visorlaw22_TimesEven.l3
    rw [e]
    simp only [ih]
theorem even22_l1_same (x : Tvisorlaw22_Asked) (x1 n : Int) (hn : n = 2 ∨ n = 3) (h0 : 0 ≤ x1) (h1 : x1 ≤ 255) : ∀ (k : Nat) (c : Cells) (q : Int), visorlaw22_TimesEven.l1 x x1 n k c q = visorlaw22_TimesEven.l1 x (x1 % n) n k c q
  | 0, c, q => by unfold visorlaw22_TimesEven.l1; rfl
  | k + 1, c, q => by
    have ih := even22_l1_same x x1 n hn h0 h1 k
    have e := fun c v => even22_l3_same x1 n hn h0 h1 c v k
    unfold visorlaw22_TimesEven.l1 visorlaw22_TimesEven.j1 visorlaw22_TimesEven.j2
    simp only [e, ih]
theorem even22_l4_2 (k : Nat) : visorlaw22_TimesEven.l4 2 [ci 1, ci 1, ci 0, ci 0] (k + 20) 0 = some (.inr ()) := by kernel_rfl
theorem even22_l4_3 (k : Nat) : visorlaw22_TimesEven.l4 3 [ci 2, ci 2, ci 2, ci 2] (k + 20) 0 = some (.inr ()) := by kernel_rfl
theorem TimesEven_core (x : Tvisorlaw22_Asked) (x1 : Int) (h0 : 0 ≤ x1) (h1 : x1 ≤ 255) (A0 A1 A2 B0 B1 B2 : BitVec 64) (ha0 : x.a0 = u A0) (ha1 : x.a1 = u A1) (ha2 : x.a2 = u A2) (hb0 : x.b0 = u B0) (hb1 : x.b1 = u B1) (hb2 : x.b2 = u B2) : visorlaw22_TimesEven.m 60 x x1 = some true := by
  have z : [ci 0, ci 0, ci 0, ci 0] = cells4 fun _ => 0 := rfl
  have aw : visorlaw22_awake.m 60 = some true := awake22_m 20
  unfold visorlaw22_TimesEven.m visorlaw22_Asked_n.m
  cases ht : x.three
  · rw [cond_false, Option.bind_some, even22_l1_same x x1 2 (.inl rfl) h0 h1, z]
    have fin : ∀ o : Int, visorlaw22_TimesEven.l1 x o 2 60 (cells4 fun _ => 0) 0 = some (.inr [ci 1, ci 1, ci 0, ci 0]) → ((visorlaw22_TimesEven.l1 x o 2 60 (cells4 fun _ => 0) 0).bind fun x => match x with | .inl v => some v | .inr p_162 => (if 0 ≤ IntKind.u64.wrap (IntKind.i64.wrap (2 - 1)) then (visorlaw22_TimesEven.l4 2 p_162 60 0).bind fun x => match x with | .inl v => some v | .inr () => (visorlaw22_awake.m 60).bind fun v_184 => some v_184 else none)) = some true := by
      intro o ho
      rw [ho, Option.bind_some]
      dsimp only
      rw [if_pos (by decide), even22_l4_2 40, Option.bind_some]
      dsimp only
      rw [aw, Option.bind_some]
    refine fin _ ?_
    have g : x1 % 2 = 0 ∨ x1 % 2 = 1 := by omega
    cases hk : x.kind == 2
    · rcases g with g | g <;> rw [g]
      · exact allIsw2_0 A0 A1 B0 B1 x ⟨ha0, ha1, hb0, hb1⟩ hk 0
      · exact allIsw2_1 A0 A1 B0 B1 x ⟨ha0, ha1, hb0, hb1⟩ hk 0
    · rcases g with g | g <;> rw [g]
      · exact allDom2_0 A0 A1 B0 B1 x ⟨ha0, ha1, hb0, hb1⟩ hk 0
      · exact allDom2_1 A0 A1 B0 B1 x ⟨ha0, ha1, hb0, hb1⟩ hk 0
  · rw [cond_true, Option.bind_some, even22_l1_same x x1 3 (.inr rfl) h0 h1, z]
    have fin : ∀ o : Int, visorlaw22_TimesEven.l1 x o 3 60 (cells4 fun _ => 0) 0 = some (.inr [ci 2, ci 2, ci 2, ci 2]) → ((visorlaw22_TimesEven.l1 x o 3 60 (cells4 fun _ => 0) 0).bind fun x => match x with | .inl v => some v | .inr p_162 => (if 0 ≤ IntKind.u64.wrap (IntKind.i64.wrap (3 - 1)) then (visorlaw22_TimesEven.l4 3 p_162 60 0).bind fun x => match x with | .inl v => some v | .inr () => (visorlaw22_awake.m 60).bind fun v_184 => some v_184 else none)) = some true := by
      intro o ho
      rw [ho, Option.bind_some]
      dsimp only
      rw [if_pos (by decide), even22_l4_3 40, Option.bind_some]
      dsimp only
      rw [aw, Option.bind_some]
    refine fin _ ?_
    have g : x1 % 3 = 0 ∨ x1 % 3 = 1 ∨ x1 % 3 = 2 := by omega
    cases hk : x.kind == 2
    · rcases g with g | g | g <;> rw [g]
      · exact allIsw3_0 A0 A1 A2 B0 B1 B2 x ⟨ha0, ha1, ha2, hb0, hb1, hb2⟩ hk 0
      · exact allIsw3_1 A0 A1 A2 B0 B1 B2 x ⟨ha0, ha1, ha2, hb0, hb1, hb2⟩ hk 0
      · exact allIsw3_2 A0 A1 A2 B0 B1 B2 x ⟨ha0, ha1, ha2, hb0, hb1, hb2⟩ hk 0
    · rcases g with g | g | g <;> rw [g]
      · exact allDom3_0 A0 A1 A2 B0 B1 B2 x ⟨ha0, ha1, ha2, hb0, hb1, hb2⟩ hk 0
      · exact allDom3_1 A0 A1 A2 B0 B1 B2 x ⟨ha0, ha1, ha2, hb0, hb1, hb2⟩ hk 0
      · exact allDom3_2 A0 A1 A2 B0 B1 B2 x ⟨ha0, ha1, ha2, hb0, hb1, hb2⟩ hk 0
theorem TimesEven_pure (x0 : Tvisorlaw22_Asked) (x1 : Int) (b0 : x0.ok) (b1 : IntKind.u8.min ≤ x1 ∧ x1 ≤ IntKind.u8.max) : ∃ k, visorlaw22_TimesEven.m k x0 x1 = some true := by
  have e0 : IntKind.u8.min = 0 := rfl
  have e1 : IntKind.u8.max = 255 := by decide
  rw [e0, e1] at b1
  unfold Tvisorlaw22_Asked.ok at b0
  rw [min_u64, max_u64] at b0
  obtain ⟨_, h0, h1, h2, h3, h4, h5, _⟩ := b0
  obtain ⟨A0, a0⟩ := exists_u h0.1 h0.2
  obtain ⟨A1, a1⟩ := exists_u h1.1 h1.2
  obtain ⟨A2, a2⟩ := exists_u h2.1 h2.2
  obtain ⟨B0, c0⟩ := exists_u h3.1 h3.2
  obtain ⟨B1, c1⟩ := exists_u h4.1 h4.2
  obtain ⟨B2, c2⟩ := exists_u h5.1 h5.2
  exact ⟨60, TimesEven_core x0 x1 b1.1 b1.2 A0 A1 A2 B0 B1 B2 a0 a1 a2 c0 c1 c2⟩

end Go.Proofs.Ytflgefjocjpjaaa
