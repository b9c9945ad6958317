/- The plain law behind SliceBack: its model answers true for all data that fit; no condition beyond their kinds. -/
import Derived.Test.YtjjdlidjlepgeaaMSliceBack
namespace Go.Proofs.Ytjjdlidjlepgeaa
open Go Go.Vk
set_option linter.unusedVariables false


/-! Bytes, bit by bit: planes 'P', and back 'B'. -/
def bitN (e q : Nat) : Nat := e / 2 ^ q % 2
theorem bitN_lt (e q : Nat) : bitN e q < 2 := Nat.mod_lt _ (by decide)
/-- bit j of the first p bytes, as a word -/
def P33 (ys : List Int) (j : Nat) : Nat → Nat
  | 0 => 0
  | p + 1 => P33 ys j p + bitN ((ys[p]?).getD 0).toNat j * 2 ^ p
theorem P33_lt (ys : List Int) (j : Nat) : ∀ p, P33 ys j p < 2 ^ p
  | 0 => by simp [P33]
  | p + 1 => by
    have h1 := P33_lt ys j p; have h2 := bitN_lt ((ys[p]?).getD 0).toNat j
    have : bitN ((ys[p]?).getD 0).toNat j * 2 ^ p ≤ 1 * 2 ^ p := Nat.mul_le_mul_right _ (by omega)
    simp only [P33, Nat.pow_succ]; omega
theorem P33_congr {xs ys : List Int} (j : Nat) : ∀ p, (∀ i, i < p → xs[i]? = ys[i]?) → P33 xs j p = P33 ys j p
  | 0, _ => rfl
  | p + 1, h => by simp only [P33]; rw [P33_congr j p (fun i hi => h i (by omega)), h p (by omega)]

def cellsF (f : Nat → Nat) : Cells := (List.range 8).map fun j => C.int .u64 ((f j : Nat) : Int)
theorem cellsF_len (f : Nat → Nat) : (cellsF f).length = 8 := by simp [cellsF]
theorem cellsF_get (f : Nat → Nat) {q : Nat} (h : q < 8) : getI .u64 (cellsF f) q = some ((f q : Nat) : Int) := by simp [getI, cellsF, h]
theorem cellsF_set (f : Nat → Nat) {q : Nat} (h : q < 8) (v : Nat) : (cellsF f).set q (C.int .u64 (v : Int)) = cellsF (fun j => if j = q then v else f j) := by
  apply List.ext_getElem?
  intro i
  rw [List.getElem?_set]
  by_cases hi : q = i
  · subst hi; simp [cellsF, h]
  · by_cases h8 : i < 8
    · simp [cellsF, h8, hi, Ne.symm hi]
    · simp [cellsF, h8, hi]
theorem cellsF_congr {f g : Nat → Nat} (h : ∀ j, j < 8 → f j = g j) : cellsF f = cellsF g := by
  unfold cellsF
  exact List.map_congr_left fun j hj => by rw [h j (List.mem_range.1 hj)]
theorem cellsF_kinds (f : Nat → Nat) : Kinds ((List.replicate 8 [LK.int .u64]).flatten) (cellsF f) := rfl
theorem cellsF_zero : cellsF (fun _ => 0) = [C.int .u64 0, C.int .u64 0, C.int .u64 0, C.int .u64 0, C.int .u64 0, C.int .u64 0, C.int .u64 0, C.int .u64 0] := rfl
theorem ceq_self : ∀ (f : Nat → Nat), ceq (cellsF f) (cellsF f) = true := fun f => (ceq_iff (cellsF_kinds f) (cellsF_kinds f)).2 rfl

/-! bits, as the programs take them -/
theorem shr_nat {k : IntKind} (e q : Nat) (h : q ≤ k.bits) : shr k (e : Int) (q : Int) = ((e / 2 ^ q : Nat) : Int) := by
  unfold shr
  rw [show min ((q : Int)).toNat k.bits = q by rw [Int.toNat_natCast]; omega]
  have : ((2 : Int) ^ q) = ((2 ^ q : Nat) : Int) := by simp
  rw [this, Int.fdiv_eq_ediv_of_nonneg _ (Int.natCast_nonneg _)]; rfl
theorem nat_u {x : Nat} (h : x < 18446744073709551616) : (x : Int) = u (BitVec.ofNat 64 x) := by
  unfold u; rw [BitVec.toNat_ofNat, Nat.mod_eq_of_lt h]
theorem band1_u8 (x : Nat) (h : x < 256) : band .u8 (x : Int) 1 = ((x % 2 : Nat) : Int) := by
  have : ∀ m : Fin 256, band .u8 ((m : Nat) : Int) 1 = ((m.val % 2 : Nat) : Int) := by decide +kernel
  exact this ⟨x, h⟩
theorem band1_u64 (x : Nat) (h : x < 18446744073709551616) : band .u64 (x : Int) 1 = ((x % 2 : Nat) : Int) := by
  have h1 : (1 : Int) = u (BitVec.ofNat 64 1) := by decide
  rw [nat_u h, h1, band_u]
  unfold u
  rw [BitVec.toNat_and, BitVec.toNat_ofNat, BitVec.toNat_ofNat, Nat.mod_eq_of_lt h, show 1 % 2 ^ 64 = 2 ^ 1 - 1 by rfl, Nat.and_two_pow_sub_one_eq_mod]
theorem shl1_u64 (b p : Nat) (hb : b < 2) (hp : p < 64) : shl .u64 (b : Int) (p : Int) = ((b * 2 ^ p : Nat) : Int) := by
  unfold shl
  rw [show min ((p : Int)).toNat IntKind.u64.bits = p by rw [Int.toNat_natCast]; show min p 64 = p; omega, wrap_u64]
  have h2 : (2 : Nat) ^ p < 2 ^ 64 := Nat.pow_lt_pow_right (by decide) hp
  have h3 : b * 2 ^ p ≤ 1 * 2 ^ p := Nat.mul_le_mul_right _ (by omega)
  have e : (b : Int) * 2 ^ p = ((b * 2 ^ p : Nat) : Int) := by simp
  rw [e]; omega
theorem bor_low {v b p : Nat} (hv : v < 2 ^ p) (hp : p < 64) (hb : b < 2) : bor .u64 (v : Int) ((b * 2 ^ p : Nat) : Int) = ((v + b * 2 ^ p : Nat) : Int) := by
  have h2 : (2 : Nat) ^ p < 2 ^ 64 := Nat.pow_lt_pow_right (by decide) hp
  have h3 : b * 2 ^ p ≤ 1 * 2 ^ p := Nat.mul_le_mul_right _ (by omega)
  have h4 : v + b * 2 ^ p < 2 ^ 64 := by
    have : 2 ^ p + 2 ^ p ≤ 2 ^ 64 := by rw [← Nat.two_mul, ← Nat.pow_succ']; exact Nat.pow_le_pow_right (by decide) (by omega)
    omega
  rw [nat_u (show v < 18446744073709551616 by omega), nat_u (show b * 2 ^ p < 18446744073709551616 by omega), bor_u]
  unfold u
  rw [BitVec.toNat_or, BitVec.toNat_ofNat, BitVec.toNat_ofNat, Nat.mod_eq_of_lt (by omega : v < 2 ^ 64), Nat.mod_eq_of_lt (by omega : b * 2 ^ p < 2 ^ 64), Nat.or_comm, Nat.mul_comm b, ← Nat.two_pow_add_eq_or_of_lt hv, Nat.add_comm]

/-- one byte more: what either program's inner loop makes of a plane -/
def st33 (e p : Nat) (f : Nat → Nat) (j : Nat) : Nat := f j + bitN e j * 2 ^ p
/-- the planes from q on -/
def from33 (e p q : Nat) (f : Nat → Nat) (j : Nat) : Nat := if q ≤ j then st33 e p f j else f j
theorem from33_next {e p q : Nat} {f : Nat → Nat} (h : q < 8) : cellsF (from33 e p (q + 1) fun j => if j = q then st33 e p f q else f j) = cellsF (from33 e p q f) := by
  refine cellsF_congr fun j hj => ?_
  unfold from33
  by_cases h1 : j = q
  · subst h1; simp [show ¬ j + 1 ≤ j by omega]
  · by_cases h2 : q ≤ j
    · simp [show q + 1 ≤ j by omega, h2, st33, h1]
    · simp [show ¬ q + 1 ≤ j by omega, h2, h1]
theorem from33_end {e p : Nat} {f : Nat → Nat} : cellsF (from33 e p 8 f) = cellsF f := cellsF_congr fun j hj => by simp [from33, show ¬ 8 ≤ j by omega]
theorem from33_all {e p : Nat} {f : Nat → Nat} : cellsF (from33 e p 0 f) = cellsF (st33 e p f) := cellsF_congr fun j hj => by simp [from33]

theorem Cut_in (e p : Nat) (he : e < 256) (hp : p < 64) : ∀ (m q k : Nat) (f : Nat → Nat), q + m = 8 → m < k → (∀ j, q ≤ j → f j < 2 ^ p) →
    slice_Cut.l2 (p : Int) (e : Int) k (cellsF f) (q : Int) = some (cellsF (from33 e p q f))
  | _, _, 0, _, _, h, _ => by omega
  | 0, q, k + 1, f, hq, _, _ => by
    have : q = 8 := by omega
    subst this
    unfold slice_Cut.l2
    simp only [show decide (((8 : Nat) : Int) < 8) = false by decide, cond_false]
    rw [from33_end]
  | m + 1, q, k + 1, f, hq, hk, hf => by
    have hq8 : q < 8 := by omega
    unfold slice_Cut.l2
    rw [show decide ((q : Int) < 8) = true by simp; omega, cond_true, if_pos (by omega : (0 : Int) ≤ q ∧ (q : Int) < 8), Int.toNat_natCast, show 0 + q * 1 = q by omega, cellsF_get f hq8, Option.bind_some,
      if_pos (by omega), if_pos (by omega), if_pos (by omega : (0 : Int) ≤ q ∧ (q : Int) < 8), if_pos (by rw [cellsF_len]; exact hq8)]
    have e1 : bor .u64 ((f q : Nat) : Int) (shl .u64 (IntKind.u64.wrap (band .u8 (shr .u8 (e : Int) (q : Int)) 1)) (p : Int)) = ((st33 e p f q : Nat) : Int) := by
      have hd : e / 2 ^ q < 256 := Nat.lt_of_le_of_lt (Nat.div_le_self _ _) he
      rw [shr_nat (k := .u8) e q (show q ≤ 8 by omega), band1_u8 _ hd, wrap_u64_of (by omega) (by omega), shl1_u64 _ p (Nat.mod_lt _ (by decide)) hp, bor_low (hf q (Nat.le_refl _)) hp (Nat.mod_lt _ (by decide))]
      rfl
    rw [e1, cellsF_set f hq8, show IntKind.i64.wrap ((q : Int) + 1) = ((q + 1 : Nat) : Int) by rw [wrap_i64_of (by omega) (by omega)]; omega]
    rw [Cut_in e p he hp m (q + 1) k _ (by omega) (by omega) (fun j hj => by simp only [show j ≠ q by omega, if_false]; exact hf j (by omega)), from33_next hq8]

theorem rCut_in (x0 : List Int) (e p : Nat) (he : e < 256) (hp : p < 64) (hx : x0[p]? = some (e : Int)) : ∀ (m q k : Nat) (f : Nat → Nat), q + m = 8 → m < k → (∀ j, q ≤ j → f j < 2 ^ p) →
    visorref33_Cut.l2 x0 (p : Int) k (cellsF f) (q : Int) = some (cellsF (from33 e p q f))
  | _, _, 0, _, _, h, _ => by omega
  | 0, q, k + 1, f, hq, _, _ => by
    have : q = 8 := by omega
    subst this
    unfold visorref33_Cut.l2
    simp only [show decide (((8 : Nat) : Int) < 8) = false by decide, cond_false]
    rw [from33_end]
  | m + 1, q, k + 1, f, hq, hk, hf => by
    have hq8 : q < 8 := by omega
    unfold visorref33_Cut.l2
    rw [show decide ((q : Int) < 8) = true by simp; omega, cond_true, if_pos (by omega : (0 : Int) ≤ q ∧ (q : Int) < 8), Int.toNat_natCast, show 0 + q * 1 = q by omega, cellsF_get f hq8, Option.bind_some,
      if_pos (by omega), Int.toNat_natCast, hx, Option.bind_some, wrap_u64_of (by omega) (by omega), wrap_u64_of (by omega) (by omega), if_pos (by omega), if_pos (by omega), if_pos (by omega : (0 : Int) ≤ q ∧ (q : Int) < 8), if_pos (by rw [cellsF_len]; exact hq8)]
    have e1 : IntKind.u64.wrap (((f q : Nat) : Int) + shl .u64 (IntKind.u64.wrap (Int.tmod (shr .u8 (e : Int) (q : Int)) 2)) (p : Int)) = ((st33 e p f q : Nat) : Int) := by
      have hd : e / 2 ^ q < 256 := Nat.lt_of_le_of_lt (Nat.div_le_self _ _) he
      have h2 : (2 : Nat) ^ p < 2 ^ 64 := Nat.pow_lt_pow_right (by decide) hp
      have h5 := hf q (Nat.le_refl _)
      have h3 : e / 2 ^ q % 2 * 2 ^ p ≤ 1 * 2 ^ p := Nat.mul_le_mul_right _ (by have := Nat.mod_lt (e / 2 ^ q) (show 0 < 2 by decide); omega)
      have h4 : 2 ^ p + 2 ^ p ≤ 2 ^ 64 := by rw [← Nat.two_mul, ← Nat.pow_succ']; exact Nat.pow_le_pow_right (by decide) (by omega)
      rw [shr_nat (k := .u8) e q (show q ≤ 8 by omega), show Int.tmod ((e / 2 ^ q : Nat) : Int) 2 = ((e / 2 ^ q % 2 : Nat) : Int) from rfl, wrap_u64_of (x := ((e / 2 ^ q % 2 : Nat) : Int)) (by omega) (by omega), shl1_u64 _ p (Nat.mod_lt _ (by decide)) hp]
      unfold st33 bitN
      rw [wrap_u64_of (by omega) (by omega)]; omega
    rw [e1, cellsF_set f hq8, show IntKind.i64.wrap ((q : Int) + 1) = ((q + 1 : Nat) : Int) by rw [wrap_i64_of (by omega) (by omega)]; omega]
    rw [rCut_in x0 e p he hp hx m (q + 1) k _ (by omega) (by omega) (fun j hj => by simp only [show j ≠ q by omega, if_false]; exact hf j (by omega)), from33_next hq8]

def Bytes (xs : List Int) : Prop := ∀ x ∈ xs, 0 ≤ x ∧ x < 256
theorem Bytes.get {xs : List Int} (h : Bytes xs) {i : Nat} (hi : i < xs.length) : ∃ e : Nat, e < 256 ∧ xs[i]? = some (e : Int) := by
  have h1 := h _ (List.getElem_mem hi)
  exact ⟨xs[i].toNat, by omega, by rw [List.getElem?_eq_getElem hi, Int.toNat_of_nonneg h1.1]⟩
theorem P33_step {ys : List Int} {p e : Nat} (h : ys[p]? = some (e : Int)) : cellsF (st33 e p (fun j => P33 ys j p)) = cellsF (fun j => P33 ys j (p + 1)) :=
  cellsF_congr fun j _ => by simp [st33, P33, h]

theorem Cut_out (x0 : List Int) (hb : Bytes x0) : ∀ (m p k : Nat), p + m = (x0.take 64).length → m + 9 < k →
    slice_Cut.l1 x0 k (cellsF fun j => P33 (x0.take 64) j p) (p : Int) = some (cellsF fun j => P33 (x0.take 64) j (x0.take 64).length)
  | _, _, 0, _, h => by omega
  | m, p, k + 1, hp, hk => by
    have hcut : cut x0 0 (mn ((x0.length : Nat) : Int) 64).toNat = x0.take 64 := by
      unfold cut mn
      rw [List.drop_zero]
      split
      · rfl
      · rw [Int.toNat_natCast, List.take_of_length_le (Nat.le_refl _), List.take_of_length_le (by omega)]
    have hlen : (x0.take 64).length ≤ 64 := by rw [List.length_take]; omega
    unfold slice_Cut.l1
    rw [hcut]
    cases m with
    | zero => rw [show decide ((p : Int) < (((x0.take 64).length : Nat) : Int)) = false from decide_eq_false (by omega), cond_false, show p = (x0.take 64).length by omega]
    | succ m =>
      obtain ⟨e, he, hg⟩ := Bytes.get (xs := x0.take 64) (fun x hx => hb x (List.mem_of_mem_take hx)) (show p < (x0.take 64).length by omega)
      rw [show decide ((p : Int) < (((x0.take 64).length : Nat) : Int)) = true from decide_eq_true (by omega), cond_true, if_pos (by omega), Int.toNat_natCast, hg, Option.bind_some]
      have hin := Cut_in e p he (by omega) 8 0 k (fun j => P33 (x0.take 64) j p) rfl (by omega) (fun j _ => P33_lt _ _ _)
      rw [from33_all, P33_step hg] at hin
      have h0 : ((0 : Nat) : Int) = 0 := rfl
      rw [h0] at hin
      rw [hin, Option.bind_some, show IntKind.i64.wrap ((p : Int) + 1) = ((p + 1 : Nat) : Int) by rw [wrap_i64_of (by omega) (by omega)]; omega]
      exact Cut_out x0 hb m (p + 1) k (by omega) (by omega)
theorem rCut_out (x0 : List Int) (hb : Bytes x0) : ∀ (m p k : Nat), p + m = (x0.take 64).length → m + 9 < k →
    visorref33_Cut.l1 x0 k (cellsF fun j => P33 (x0.take 64) j p) (p : Int) = some (cellsF fun j => P33 (x0.take 64) j (x0.take 64).length)
  | _, _, 0, _, h => by omega
  | m, p, k + 1, hp, hk => by
    have hlen : (x0.take 64).length = min 64 x0.length := List.length_take
    unfold visorref33_Cut.l1
    cases m with
    | zero =>
      have hd : (decide ((p : Int) < ((x0.length : Nat) : Int)) && decide ((p : Int) < 64)) = false := by
        rw [← Bool.not_eq_true, Bool.and_eq_true, decide_eq_true_eq, decide_eq_true_eq]; omega
      rw [hd, cond_false, show p = (x0.take 64).length by omega]
    | succ m =>
      obtain ⟨e, he, hg⟩ := Bytes.get (xs := x0.take 64) (fun x hx => hb x (List.mem_of_mem_take hx)) (show p < (x0.take 64).length by omega)
      have hg0 : x0[p]? = some (e : Int) := by rw [List.getElem?_take, if_pos (by omega)] at hg; exact hg
      have hd : (decide ((p : Int) < ((x0.length : Nat) : Int)) && decide ((p : Int) < 64)) = true := by
        rw [Bool.and_eq_true, decide_eq_true_eq, decide_eq_true_eq]; omega
      rw [hd, cond_true]
      have hin := rCut_in x0 e p he (by omega) hg0 8 0 k (fun j => P33 (x0.take 64) j p) rfl (by omega) (fun j _ => P33_lt _ _ _)
      rw [from33_all, P33_step hg] at hin
      have h0 : ((0 : Nat) : Int) = 0 := rfl
      rw [h0] at hin
      rw [hin, Option.bind_some, show IntKind.i64.wrap ((p : Int) + 1) = ((p + 1 : Nat) : Int) by rw [wrap_i64_of (by omega) (by omega)]; omega]
      exact rCut_out x0 hb m (p + 1) k (by omega) (by omega)

/-- bytes' planes -/
def planes (x : List Int) : Cells := cellsF fun j => P33 (x.take 64) j (x.take 64).length
theorem Cut_m (x0 : List Int) (hb : Bytes x0) (k : Nat) (hk : 80 < k) : slice_Cut.m k x0 = some (planes x0) := by
  have hlen : (x0.take 64).length = min 64 x0.length := List.length_take
  have h := Cut_out x0 hb (x0.take 64).length 0 k (by omega) (by omega)
  unfold slice_Cut.m
  have hmn : 0 ≤ mn ((x0.length : Nat) : Int) 64 ∧ (mn ((x0.length : Nat) : Int) 64).toNat ≤ x0.length := by unfold mn; split <;> omega
  rw [if_pos ⟨hmn.1, Nat.zero_le _, hmn.2⟩]
  have e : (cellsF fun j => P33 (x0.take 64) j 0) = [C.int .u64 0, C.int .u64 0, C.int .u64 0, C.int .u64 0, C.int .u64 0, C.int .u64 0, C.int .u64 0, C.int .u64 0] := rfl
  rw [e] at h
  have h0 : ((0 : Nat) : Int) = 0 := rfl
  rw [h0] at h
  rw [h, Option.bind_some, if_pos (cellsF_len _)]; rfl
theorem rCut_m (x0 : List Int) (hb : Bytes x0) (k : Nat) (hk : 80 < k) : visorref33_Cut.m k x0 = some (planes x0) := by
  have hlen : (x0.take 64).length = min 64 x0.length := List.length_take
  have h := rCut_out x0 hb (x0.take 64).length 0 k (by omega) (by omega)
  unfold visorref33_Cut.m
  have e : (cellsF fun j => P33 (x0.take 64) j 0) = [C.int .u64 0, C.int .u64 0, C.int .u64 0, C.int .u64 0, C.int .u64 0, C.int .u64 0, C.int .u64 0, C.int .u64 0] := rfl
  rw [e] at h
  have h0 : ((0 : Nat) : Int) = 0 := rfl
  rw [h0] at h
  rw [h, Option.bind_some, if_pos (cellsF_len _)]; rfl
theorem planes_len (x : List Int) : (planes x).length = 8 := cellsF_len _
theorem planes_kinds (x : List Int) : Kinds ((List.replicate 8 [LK.int .u64]).flatten) (planes x) := cellsF_kinds _
theorem awake33_m (k : Nat) (hk : 80 < k) : visorlaw33_awake.m k = some true := by
  unfold visorlaw33_awake.m
  rw [Cut_m [5] (fun x hx => by simp at hx; omega) k hk, Option.bind_some, if_pos (planes_kinds _)]
  decide

/-! and back -/
def B33 (f : Nat → Nat) (p : Nat) : Nat → Nat
  | 0 => 0
  | q + 1 => B33 f p q + bitN (f q) p * 2 ^ q
theorem B33_lt (f : Nat → Nat) (p : Nat) : ∀ q, B33 f p q < 2 ^ q
  | 0 => by simp [B33]
  | q + 1 => by
    have h1 := B33_lt f p q; have h2 := bitN_lt (f q) p
    have : bitN (f q) p * 2 ^ q ≤ 1 * 2 ^ q := Nat.mul_le_mul_right _ (by omega)
    simp only [B33, Nat.pow_succ]; omega
theorem shl1_u8 (b q : Nat) (hb : b < 2) (hq : q < 8) : shl .u8 (b : Int) (q : Int) = ((b * 2 ^ q : Nat) : Int) := by
  have : ∀ (b : Fin 2) (q : Fin 8), shl .u8 ((b : Nat) : Int) ((q : Nat) : Int) = ((b.val * 2 ^ q.val : Nat) : Int) := by decide +kernel
  exact this ⟨b, hb⟩ ⟨q, hq⟩
theorem bor_u8 (v b q : Nat) (hv : v < 2 ^ q) (hb : b < 2) (hq : q < 8) : bor .u8 (v : Int) ((b * 2 ^ q : Nat) : Int) = ((v + b * 2 ^ q : Nat) : Int) := by
  have : ∀ (v : Fin 128) (b : Fin 2) (q : Fin 8), v.val < 2 ^ q.val → bor .u8 ((v : Nat) : Int) ((b.val * 2 ^ q.val : Nat) : Int) = ((v.val + b.val * 2 ^ q.val : Nat) : Int) := by decide +kernel
  exact this ⟨v, Nat.lt_of_lt_of_le hv (by have : 2 ^ q ≤ 2 ^ 7 := Nat.pow_le_pow_right (by decide) (by omega); omega)⟩ ⟨b, hb⟩ ⟨q, hq⟩ hv

theorem Join_in (f : Nat → Nat) (hf : ∀ j, f j < 18446744073709551616) (p : Nat) (hp : p < 64) : ∀ (m q k : Nat) (l : List Int), q + m = 8 → m < k → l[p]? = some ((B33 f p q : Nat) : Int) →
    slice_Join.l2 (cellsF f) (p : Int) k l (q : Int) = some (l.set p ((B33 f p 8 : Nat) : Int))
  | _, _, 0, _, _, h, _ => by omega
  | 0, q, k + 1, l, hq, _, hl => by
    have : q = 8 := by omega
    subst this
    unfold slice_Join.l2
    simp only [show decide (((8 : Nat) : Int) < 8) = false by decide, cond_false]
    congr 1
    obtain ⟨h1, h2⟩ := List.getElem?_eq_some_iff.1 hl
    rw [← h2, List.set_getElem_self]
  | m + 1, q, k + 1, l, hq, hk, hl => by
    have hq8 : q < 8 := by omega
    have hlp := (List.getElem?_eq_some_iff.1 hl).1
    unfold slice_Join.l2
    rw [show decide ((q : Int) < 8) = true by simp; omega, cond_true, if_pos (by omega : (0 : Int) ≤ q ∧ (q : Int) < 8), Int.toNat_natCast, cellsF_get f hq8, Option.bind_some,
      if_pos (by omega), Int.toNat_natCast, hl, Option.bind_some, if_pos (by omega), if_pos (by omega), if_pos (by omega), Option.bind_some]
    have e1 : bor .u8 ((B33 f p q : Nat) : Int) (shl .u8 (IntKind.u8.wrap (band .u64 (shr .u64 ((f q : Nat) : Int) (p : Int)) 1)) (q : Int)) = ((B33 f p (q + 1) : Nat) : Int) := by
      have hd : f q / 2 ^ p < 18446744073709551616 := Nat.lt_of_le_of_lt (Nat.div_le_self _ _) (hf q)
      rw [shr_nat (k := .u64) (f q) p (show p ≤ 64 by omega), band1_u64 _ hd, wrap_u8_of (by omega) (by omega), shl1_u8 _ q (Nat.mod_lt _ (by decide)) hq8, bor_u8 _ _ _ (B33_lt f p q) (Nat.mod_lt _ (by decide)) hq8]
      rfl
    rw [e1, show IntKind.i64.wrap ((q : Int) + 1) = ((q + 1 : Nat) : Int) by rw [wrap_i64_of (by omega) (by omega)]; omega]
    rw [Join_in f hf p hp m (q + 1) k _ (by omega) (by omega) (by rw [List.getElem?_set_self hlp]), List.set_set]
theorem rJoin_in (f : Nat → Nat) (hf : ∀ j, f j < 18446744073709551616) (p : Nat) (hp : p < 64) : ∀ (m q k : Nat), q + m = 8 → m < k →
    visorref33_Join.l2 (cellsF f) (p : Int) k ((B33 f p q : Nat) : Int) (q : Int) = some ((B33 f p 8 : Nat) : Int)
  | _, _, 0, _, h => by omega
  | 0, q, k + 1, hq, _ => by
    have : q = 8 := by omega
    subst this
    unfold visorref33_Join.l2
    simp only [show decide (((8 : Nat) : Int) < 8) = false by decide, cond_false]
  | m + 1, q, k + 1, hq, hk => by
    have hq8 : q < 8 := by omega
    unfold visorref33_Join.l2
    rw [show decide ((q : Int) < 8) = true by simp; omega, cond_true, if_pos (by omega : (0 : Int) ≤ q ∧ (q : Int) < 8), Int.toNat_natCast, show 0 + q * 1 = q by omega, cellsF_get f hq8, Option.bind_some,
      wrap_u64_of (by omega) (by omega), wrap_u64_of (by omega) (by omega), if_pos (by omega), if_pos (by omega)]
    have e1 : IntKind.u8.wrap (((B33 f p q : Nat) : Int) + shl .u8 (IntKind.u8.wrap (Int.tmod (shr .u64 ((f q : Nat) : Int) (p : Int)) 2)) (q : Int)) = ((B33 f p (q + 1) : Nat) : Int) := by
      have h1 := B33_lt f p (q + 1)
      have h2 : 2 ^ (q + 1) ≤ 2 ^ 8 := Nat.pow_le_pow_right (by decide) (by omega)
      rw [shr_nat (k := .u64) (f q) p (show p ≤ 64 by omega), show Int.tmod ((f q / 2 ^ p : Nat) : Int) 2 = ((f q / 2 ^ p % 2 : Nat) : Int) from rfl, wrap_u8_of (x := ((f q / 2 ^ p % 2 : Nat) : Int)) (by omega) (by omega), shl1_u8 _ q (Nat.mod_lt _ (by decide)) hq8]
      have e : ((B33 f p q : Nat) : Int) + ((f q / 2 ^ p % 2 * 2 ^ q : Nat) : Int) = ((B33 f p (q + 1) : Nat) : Int) := by simp only [B33, bitN]; omega
      rw [e, wrap_u8_of (by omega) (by omega)]
    rw [e1, show IntKind.i64.wrap ((q : Int) + 1) = ((q + 1 : Nat) : Int) by rw [wrap_i64_of (by omega) (by omega)]; omega]
    exact rJoin_in f hf p hp m (q + 1) k (by omega) (by omega)

/-- so many bytes of planes' words -/
def joinB (f : Nat → Nat) (n : Nat) : List Int := (List.range n).map fun p => ((B33 f p 8 : Nat) : Int)
theorem joinB_succ (f : Nat → Nat) (n : Nat) : joinB f (n + 1) = joinB f n ++ [((B33 f n 8 : Nat) : Int)] := by simp [joinB, List.range_succ]
theorem joinB_len (f : Nat → Nat) (n : Nat) : (joinB f n).length = n := by simp [joinB]

theorem Join_out (f : Nat → Nat) (hf : ∀ j, f j < 18446744073709551616) (x1 : Int) (n : Nat) (hn : n = (mx 0 (mn x1 64)).toNat) (hn64 : n ≤ 64) : ∀ (m p k : Nat), p + m = n → m + 9 < k →
    slice_Join.l1 (cellsF f) x1 k (joinB f p ++ List.replicate m 0) (p : Int) = some (joinB f n)
  | _, _, 0, _, h => by omega
  | m, p, k + 1, hp, hk => by
    unfold slice_Join.l1
    rw [← hn, List.length_replicate]
    cases m with
    | zero => rw [show decide ((p : Int) < ((n : Nat) : Int)) = false by simp; omega, cond_false, show p = n by omega]; simp
    | succ m =>
      rw [show decide ((p : Int) < ((n : Nat) : Int)) = true by simp; omega, cond_true, if_pos (cellsF_len f)]
      have hin := Join_in f hf p (by omega) 8 0 k (joinB f p ++ List.replicate (m + 1) 0) rfl (by omega) (by
        rw [List.getElem?_append_right (by rw [joinB_len]; exact Nat.le_refl _), joinB_len, Nat.sub_self]; rfl)
      have h0 : ((0 : Nat) : Int) = 0 := rfl
      rw [h0] at hin
      rw [hin, Option.bind_some, show IntKind.i64.wrap ((p : Int) + 1) = ((p + 1 : Nat) : Int) by rw [wrap_i64_of (by omega) (by omega)]; omega]
      have e : (joinB f p ++ List.replicate (m + 1) 0).set p ((B33 f p 8 : Nat) : Int) = joinB f (p + 1) ++ List.replicate m 0 := by
        rw [List.set_append_right _ _ (by rw [joinB_len]; exact Nat.le_refl _), joinB_len, Nat.sub_self, List.replicate_succ, List.set_cons_zero, joinB_succ, List.append_assoc]; rfl
      rw [e]
      exact Join_out f hf x1 n hn hn64 m (p + 1) k (by omega) (by omega)
theorem rJoin_out (f : Nat → Nat) (hf : ∀ j, f j < 18446744073709551616) (x1 : Int) (n : Nat) (hn : n = (mx 0 (mn x1 64)).toNat) (hn64 : n ≤ 64) : ∀ (m p k : Nat), p + m = n → m + 9 < k →
    visorref33_Join.l1 (cellsF f) x1 k (joinB f p) (p : Int) = some (joinB f n)
  | _, _, 0, _, h => by omega
  | m, p, k + 1, hp, hk => by
    have hx : (p : Int) < x1 ∧ (p : Int) < 64 ↔ p < n := by
      subst hn; unfold mx mn
      split <;> split <;> omega
    unfold visorref33_Join.l1
    cases m with
    | zero =>
      have : (decide ((p : Int) < x1) && decide ((p : Int) < 64)) = false := by
        rw [← Bool.not_eq_true, Bool.and_eq_true, decide_eq_true_eq, decide_eq_true_eq, hx]; omega
      rw [this, cond_false, show p = n by omega]
    | succ m =>
      have : (decide ((p : Int) < x1) && decide ((p : Int) < 64)) = true := by
        rw [Bool.and_eq_true, decide_eq_true_eq, decide_eq_true_eq, hx]; omega
      rw [this, cond_true]
      have hin := rJoin_in f hf p (by omega) 8 0 k rfl (by omega)
      have h0 : ((0 : Nat) : Int) = 0 := rfl
      have h1 : ((B33 f p 0 : Nat) : Int) = 0 := rfl
      rw [h0, h1] at hin
      rw [hin, Option.bind_some, if_pos (by rw [joinB_len, List.length_singleton]; omega), show IntKind.i64.wrap ((p : Int) + 1) = ((p + 1 : Nat) : Int) by rw [wrap_i64_of (by omega) (by omega)]; omega, ← joinB_succ]
      exact rJoin_out f hf x1 n hn hn64 m (p + 1) k (by omega) (by omega)
theorem Join_m (f : Nat → Nat) (hf : ∀ j, f j < 18446744073709551616) (x1 : Int) (k : Nat) (hk : 80 < k) : slice_Join.m k (cellsF f) x1 = some (joinB f (mx 0 (mn x1 64)).toNat) := by
  have hb : 0 ≤ mx 0 (mn x1 64) ∧ mx 0 (mn x1 64) ≤ 64 := by unfold mx mn; split <;> split <;> omega
  unfold slice_Join.m
  rw [if_pos ⟨hb.1, Int.le_refl _, by omega⟩]
  have h := Join_out f hf x1 _ rfl (by omega) (mx 0 (mn x1 64)).toNat 0 k (by omega) (by omega)
  have h0 : ((0 : Nat) : Int) = 0 := rfl
  have h1 : joinB f 0 = [] := rfl
  rw [h0, h1, List.nil_append] at h
  rw [h, Option.bind_some]
theorem rJoin_m (f : Nat → Nat) (hf : ∀ j, f j < 18446744073709551616) (x1 : Int) (k : Nat) (hk : 80 < k) : visorref33_Join.m k (cellsF f) x1 = some (joinB f (mx 0 (mn x1 64)).toNat) := by
  have hb : 0 ≤ mx 0 (mn x1 64) ∧ mx 0 (mn x1 64) ≤ 64 := by unfold mx mn; split <;> split <;> omega
  unfold visorref33_Join.m
  have h := rJoin_out f hf x1 _ rfl (by omega) (mx 0 (mn x1 64)).toNat 0 k (by omega) (by omega)
  have h0 : ((0 : Nat) : Int) = 0 := rfl
  have h1 : joinB f 0 = [] := rfl
  rw [h0, h1] at h
  rw [h, Option.bind_some]
theorem Same_self (k : Nat) (x : List Int) : visorref01_Same.m k x x = some true := by
  unfold visorref01_Same.m; rw [beq_self_eq_true]

theorem fits_words : ∀ {n : Nat} {x : Cells}, Fits (List.replicate n (LK.int .u64)) x → ∃ l : List Nat, l.length = n ∧ (∀ y ∈ l, y < 18446744073709551616) ∧ x = l.map fun (y : Nat) => C.int .u64 (y : Int)
  | 0, [], _ => ⟨[], rfl, fun _ h => (by cases h), rfl⟩
  | n + 1, .int k v :: x, h => by
    obtain ⟨⟨rfl, h1, h2⟩, h3⟩ := h
    obtain ⟨l, hl, hb, rfl⟩ := fits_words h3
    rw [min_u64] at h1; rw [max_u64] at h2
    refine ⟨v.toNat :: l, by rw [List.length_cons, hl], fun y hy => ?_, ?_⟩
    · rcases List.mem_cons.1 hy with rfl | hy
      · omega
      · exact hb y hy
    · rw [List.map_cons, Int.toNat_of_nonneg h1]
  | 0, _ :: _, h => h.elim
  | _ + 1, [], h => h.elim
  | _ + 1, .bool _ :: _, h => h.1.elim
  | _ + 1, .str _ :: _, h => h.1.elim
  | _ + 1, .ptr _ :: _, h => h.1.elim
  | _ + 1, .slc _ _ _ :: _, h => h.1.elim
  | _ + 1, .map _ :: _, h => h.1.elim
  | _ + 1, .fn _ _ _ :: _, h => h.1.elim
  | _ + 1, .nofn :: _, h => h.1.elim
theorem planes8 {x : Cells} (h : Fits (List.replicate 8 (LK.int .u64)) x) : ∃ f : Nat → Nat, (∀ j, f j < 18446744073709551616) ∧ x = cellsF f := by
  obtain ⟨l, hl, hb, rfl⟩ := fits_words h
  refine ⟨fun j => l.getD j 0, fun j => ?_, ?_⟩
  · show l.getD j 0 < _
    rw [List.getD_eq_getElem?_getD]
    cases hj : l[j]? with
    | none => simp
    | some y => exact hb y (List.mem_of_getElem? hj)
  · apply List.ext_getElem?
    intro j
    rw [List.getElem?_map]
    rcases Nat.lt_or_ge j 8 with h | h
    · simp [cellsF, h, List.getD_eq_getElem?_getD, List.getElem?_eq_getElem (show j < l.length by omega)]
    · rw [List.getElem?_eq_none (by omega), List.getElem?_eq_none (by rw [cellsF_len]; omega)]; rfl

theorem P33_high (ys : List Int) (j p : Nat) : ∀ d, P33 ys j (p + d) % 2 ^ p = P33 ys j p
  | 0 => Nat.mod_eq_of_lt (P33_lt ys j p)
  | d + 1 => by
    show (P33 ys j (p + d) + bitN ((ys[p + d]?).getD 0).toNat j * 2 ^ (p + d)) % 2 ^ p = _
    rw [Nat.pow_add, ← Nat.mul_assoc, Nat.mul_comm _ (2 ^ p), Nat.mul_assoc, Nat.add_mul_mod_self_left]
    exact P33_high ys j p d
/-- bit p of plane j is bit j of byte p -/
theorem bit_plane (ys : List Int) (j p n : Nat) (h : p < n) : bitN (P33 ys j n) p = bitN ((ys[p]?).getD 0).toNat j := by
  have h1 := P33_high ys j (p + 1) (n - (p + 1))
  rw [show p + 1 + (n - (p + 1)) = n by omega] at h1
  unfold bitN
  have h2 : P33 ys j n / 2 ^ p % 2 = P33 ys j n % 2 ^ (p + 1) / 2 ^ p := by
    rw [Nat.pow_succ, Nat.mod_mul_right_div_self]
  rw [h2, h1]
  show (P33 ys j p + bitN ((ys[p]?).getD 0).toNat j * 2 ^ p) / 2 ^ p = _
  rw [Nat.add_mul_div_right _ _ (Nat.two_pow_pos p), Nat.div_eq_of_lt (P33_lt ys j p), Nat.zero_add]; rfl
theorem B33_congr {f : Nat → Nat} {p e : Nat} : ∀ q, (∀ j, j < q → bitN (f j) p = bitN e j) → B33 f p q = e % 2 ^ q
  | 0, _ => by simp [B33, Nat.mod_one]
  | q + 1, h => by
    show B33 f p q + bitN (f q) p * 2 ^ q = _
    rw [B33_congr q (fun j hj => h j (by omega)), h q (by omega), Nat.pow_succ, Nat.mod_mul]; unfold bitN
    rw [Nat.mul_comm]
theorem joinB_planes (x : List Int) (hb : Bytes x) (hx : x.length ≤ 64) : joinB (fun j => P33 (x.take 64) j (x.take 64).length) x.length = x := by
  rw [List.take_of_length_le hx]
  apply List.ext_getElem?
  intro p
  unfold joinB
  rw [List.getElem?_map]
  rcases Nat.lt_or_ge p x.length with h | h
  · obtain ⟨e, he, hg⟩ := hb.get h
    have : B33 (fun j => P33 x j x.length) p 8 = e % 2 ^ 8 := B33_congr 8 fun j hj => by rw [bit_plane x j p x.length h, hg]; rfl
    simp only [List.getElem?_range h, Option.map_some, this, hg]
    rw [Nat.mod_eq_of_lt (by omega)]
  · rw [List.getElem?_eq_none (by simpa using h), List.getElem?_eq_none h]; rfl
theorem planes_lt (x : List Int) (j : Nat) : P33 (x.take 64) j (x.take 64).length < 18446744073709551616 := by
  have h1 := P33_lt (x.take 64) j (x.take 64).length
  have h2 : (x.take 64).length ≤ 64 := by rw [List.length_take]; omega
  have h3 : 2 ^ (x.take 64).length ≤ 2 ^ 64 := Nat.pow_le_pow_right (by decide) h2
  omega
theorem back_j1 (x : List Int) (hb : Bytes x) (hx : x.length ≤ 64) : visorlaw33_SliceBack.j1 100 x = some true := by
  have hjoin : slice_Join.m 100 (planes x) ((x.length : Nat) : Int) = some x := by
    have h := Join_m (fun j => P33 (x.take 64) j (x.take 64).length) (planes_lt x) ((x.length : Nat) : Int) 100 (by omega)
    have e : (mx 0 (mn ((x.length : Nat) : Int) 64)).toNat = x.length := by unfold mx mn; split <;> split <;> omega
    rw [e, joinB_planes x hb hx] at h; exact h
  unfold visorlaw33_SliceBack.j1
  rw [Cut_m x hb 100 (by omega), Option.bind_some, if_pos (planes_len _), hjoin, Option.bind_some, Cut_m x hb 100 (by omega), Option.bind_some, if_pos (planes_len _), Option.bind_some, Same_self, Option.bind_some, cond_true,
    if_pos (planes_kinds _), if_pos (planes_kinds _), show ceq (planes x) (planes x) = true from ceq_self _, cond_true, awake33_m 100 (by omega), Option.bind_some]
  rfl
theorem SliceBack_pure (x0 : List Int) (b0 : ∀ x ∈ x0, IntKind.u8.min ≤ x ∧ x ≤ IntKind.u8.max) (n0 : x0.length ≤ maxLen) : ∃ k, visorlaw33_SliceBack.m k x0 = some true := by
  refine ⟨100, ?_⟩
  have hb : Bytes x0 := fun x hx => by have := b0 x hx; have e : IntKind.u8.min = 0 := rfl; have e' : IntKind.u8.max = 255 := by decide
                                       rw [e, e'] at this; omega
  unfold visorlaw33_SliceBack.m
  by_cases h : x0.length ≤ 64
  · rw [show decide (((x0.length : Nat) : Int) > 64) = false by simp; omega, cond_false]
    exact back_j1 x0 hb h
  · rw [show decide (((x0.length : Nat) : Int) > 64) = true by simp; omega, cond_true, if_pos ⟨by omega, by omega, by omega⟩]
    unfold cut
    rw [List.drop_zero]
    exact back_j1 _ (fun x hx => hb x (List.mem_of_mem_take hx)) (by rw [List.length_take]; omega)

end Go.Proofs.Ytjjdlidjlepgeaa
