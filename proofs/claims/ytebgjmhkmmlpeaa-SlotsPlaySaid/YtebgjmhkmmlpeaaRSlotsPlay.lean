/- The plain law behind SlotsPlay: its model answers true for all data that fit; no condition beyond their kinds. -/
import Derived.Test.YtebgjmhkmmlpeaaMSlotsPlay
namespace Go.Proofs.Ytebgjmhkmmlpeaa
open Go Go.Vk
set_option linter.unusedVariables false

def Tvisorlaw48_Act.ok (x : Tvisorlaw48_Act) : Prop := (IntKind.i64.min ≤ x.kind ∧ x.kind ≤ IntKind.i64.max) ∧ (IntKind.i64.min ≤ x.i ∧ x.i ≤ IntKind.i64.max) ∧ (IntKind.i64.min ≤ x.ofF ∧ x.ofF ≤ IntKind.i64.max) ∧ (IntKind.i64.min ≤ x.size ∧ x.size ≤ IntKind.i64.max) ∧ True
theorem Tvisorlaw48_Act.of {cs : Cells} (h : Fits [LK.int .i64, LK.int .i64, LK.int .i64, LK.int .i64] cs) : ∃ x : Tvisorlaw48_Act, cs = x.cells ∧ x.ok := by
  match cs, h with
  | [.int _ n0, .int _ n1, .int _ n2, .int _ n3], ⟨⟨rfl, h0⟩, ⟨rfl, h1⟩, ⟨rfl, h2⟩, ⟨rfl, h3⟩, _⟩ => exact ⟨⟨n0, n1, n2, n3⟩, rfl, ⟨h0, h1, h2, h3, trivial⟩⟩
theorem Tvisorlaw48_Act.ofs : ∀ {l : List Cells}, (∀ x ∈ l, Fits [LK.int .i64, LK.int .i64, LK.int .i64, LK.int .i64] x) → ∃ l' : List Tvisorlaw48_Act, l = l'.map Tvisorlaw48_Act.cells ∧ ∀ y ∈ l', y.ok
  | [], _ => ⟨[], rfl, fun _ h => (by cases h)⟩
  | x :: l, h => by
    obtain ⟨y, rfl, hy⟩ := Tvisorlaw48_Act.of (h x (List.mem_cons_self ..)); obtain ⟨l', rfl, hl⟩ := Tvisorlaw48_Act.ofs (l := l) fun z hz => h z (List.mem_cons_of_mem _ hz)
    exact ⟨y :: l', rfl, fun z hz => (List.mem_cons.1 hz).elim (fun e => e ▸ hy) (hl z)⟩
/-! Slots: four places, and a map of them. -/
theorem wrap_i64_small {x : Int} (h0 : -9223372036854775808 ≤ x) (h1 : x ≤ 9223372036854775807) : IntKind.i64.wrap x = x := wrap_i64_of (by omega) (by omega)
def cs48 (f : Nat → Int × Int) : Cells := [ci (f 0).1, ci (f 0).2, ci (f 1).1, ci (f 1).2, ci (f 2).1, ci (f 2).2, ci (f 3).1, ci (f 3).2]
def upd48 (f : Nat → Int × Int) (i : Nat) (x : Int × Int) : Nat → Int × Int := fun j => if j = i then x else f j
def one48 (x : Int × Int) : Nat := if x.1 = 0 then 0 else 1
def cnt48 (f : Nat → Int × Int) : Nat := one48 (f 0) + one48 (f 1) + one48 (f 2) + one48 (f 3)
theorem lt4_48 {n : Nat} (h : n < 4) : n = 0 ∨ n = 1 ∨ n = 2 ∨ n = 3 := by omega
theorem cs48_get (f : Nat → Int × Int) {n : Nat} (h : n < 4) : getI .i64 (cs48 f) (0 + (n : Int).toNat * 2) = some (f n).1 := by
  rcases lt4_48 h with rfl | rfl | rfl | rfl <;> rfl
theorem cs48_get2 (f : Nat → Int × Int) {n : Nat} (h : n < 4) : getI .i64 (cs48 f) (0 + (n : Int).toNat * 2 + 1) = some (f n).2 := by
  rcases lt4_48 h with rfl | rfl | rfl | rfl <;> rfl
theorem cs48_set (f : Nat → Int × Int) {n : Nat} (h : n < 4) (a b : Int) : splice (cs48 f) (0 + (n : Int).toNat * 2) [ci a, ci b] = cs48 (upd48 f n (a, b)) := by
  rcases lt4_48 h with rfl | rfl | rfl | rfl <;> simp [cs48, upd48, splice]
theorem in4 {n : Nat} (h : n < 4) : (0 : Int) ≤ (n : Int) ∧ (n : Int) < 4 := by omega
theorem fit4 (f : Nat → Int × Int) {n : Nat} (h : n < 4) (a b : Int) : 0 + (n : Int).toNat * 2 + [ci a, ci b].length ≤ (cs48 f).length := by
  simp only [cs48, List.length_cons, List.length_nil]; omega
/-- which place, if there is one -/
inductive At48 : Int → Prop
  | at (n : Nat) (h : n < 4) : At48 (n : Int)
  | no (i : Int) (h : i < 0 ∨ 3 < i) : At48 i
theorem at48 (i : Int) : At48 i := by
  by_cases h : 0 ≤ i ∧ i < 4
  · obtain ⟨n, rfl⟩ : ∃ n : Nat, i = (n : Int) := ⟨i.toNat, by omega⟩
    exact .at n (by omega)
  · exact .no i (by omega)
theorem place_at (k : Nat) {n : Nat} (h : n < 4) : slots_place.m k (n : Int) = some true := by
  unfold slots_place.m
  rw [decide_eq_true (show (n : Int) ≥ 0 by omega), decide_eq_true (show (n : Int) < 4 by omega)]; rfl
theorem place_no (k : Nat) {i : Int} (h : i < 0 ∨ 3 < i) : slots_place.m k i = some false := by
  unfold slots_place.m
  rcases h with h | h
  · rw [decide_eq_false (show ¬ i ≥ 0 by omega)]; rfl
  · rw [decide_eq_false (show ¬ i < 4 by omega), Bool.and_false]
theorem out_at {n : Nat} (h : n < 4) : ((decide ((n : Int) < 0)) || (decide ((n : Int) > 3))) = false := by
  rw [decide_eq_false (show ¬ (n : Int) < 0 by omega), decide_eq_false (show ¬ (n : Int) > 3 by omega)]; rfl
theorem out_no {i : Int} (h : i < 0 ∨ 3 < i) : ((decide (i < 0)) || (decide (i > 3))) = true := by
  rcases h with h | h
  · rw [decide_eq_true h]; rfl
  · rw [decide_eq_true (show i > 3 from h), Bool.or_true]
theorem put_no (k : Nat) (c : Cells) {i : Int} (h : i < 0 ∨ 3 < i) (a b : Int) : visorref48_S_Put.m k c i a b = some (6, c) := by
  unfold visorref48_S_Put.m visorref48_S_Put.j1
  rw [out_no h]; rfl
theorem put_at (k : Nat) (f : Nat → Int × Int) {n : Nat} (h : n < 4) (a b : Int) : visorref48_S_Put.m k (cs48 f) (n : Int) a b = some (if (f n).1 = 0 ∧ (a = 1 ∨ a = 2) then (0, cs48 (upd48 f n (a, b))) else (6, cs48 f)) := by
  unfold visorref48_S_Put.m
  have j : ∀ p, visorref48_S_Put.j1 k (cs48 f) (n : Int) a b p = some (if p = true then (6, cs48 f) else (0, cs48 (upd48 f n (a, b)))) := by
    intro p
    unfold visorref48_S_Put.j1
    cases p
    · rw [cond_false, if_pos (in4 h), if_pos (fit4 f h a b), cs48_set f h]; rfl
    · rfl
  rw [out_at h, cond_false, if_pos (in4 h), cs48_get f h, Option.bind_some]
  by_cases h0 : (f n).1 = 0
  · rw [show ((f n).1 != 0) = false by simp [h0], cond_false]
    by_cases h1 : a = 1
    · rw [show (a != 1) = false by simp [h1], cond_false, j, if_neg (by simp), if_pos ⟨h0, .inl h1⟩]
    · rw [show (a != 1) = true by simp [h1], cond_true, j]
      by_cases h2 : a = 2
      · rw [if_neg (by simp [h2]), if_pos ⟨h0, .inr h2⟩]
      · rw [if_pos (by simp [h2]), if_neg (by omega)]
  · rw [show ((f n).1 != 0) = true by simp [h0], cond_true, j, if_pos rfl, if_neg (fun e => h0 e.1)]
theorem get_no (k : Nat) (c : Cells) {i : Int} (h : i < 0 ∨ 3 < i) (a : Int) : visorref48_S_Get.m k c i a = some (0, 6) := by
  unfold visorref48_S_Get.m
  rw [out_no h]; rfl
theorem get_at (k : Nat) (f : Nat → Int × Int) {n : Nat} (h : n < 4) (a : Int) : visorref48_S_Get.m k (cs48 f) (n : Int) a = some (if (f n).1 = 0 ∨ (f n).1 ≠ a then (0, 7) else ((f n).2, 0)) := by
  unfold visorref48_S_Get.m
  have j : ∀ p, visorref48_S_Get.j1 k (cs48 f) (n : Int) p = some (if p = true then (0, 7) else ((f n).2, 0)) := by
    intro p
    unfold visorref48_S_Get.j1
    cases p
    · rw [cond_false, if_pos (in4 h), cs48_get2 f h]; rfl
    · rfl
  rw [out_at h, cond_false, if_pos (in4 h), cs48_get f h, Option.bind_some]
  by_cases h0 : (f n).1 = 0
  · rw [show ((f n).1 == 0) = true by simp [h0], cond_true, j, if_pos rfl, if_pos (.inl h0)]
  · rw [show ((f n).1 == 0) = false by simp [h0], cond_false, if_pos (in4 h), Option.bind_some, j]
    by_cases h1 : (f n).1 = a
    · rw [if_neg (by simp [h1]), if_neg (fun e => e.elim h0 (fun e => e h1))]
    · rw [if_pos (by simp [h1]), if_pos (.inr h1)]
theorem drop_no (k : Nat) (c : Cells) {i : Int} (h : i < 0 ∨ 3 < i) : visorref48_S_Drop.m k c i = some (6, c) := by
  unfold visorref48_S_Drop.m
  rw [out_no h]; rfl
theorem drop_at (k : Nat) (f : Nat → Int × Int) {n : Nat} (h : n < 4) : visorref48_S_Drop.m k (cs48 f) (n : Int) = some (if (f n).1 = 0 then (7, cs48 f) else (0, cs48 (upd48 f n (0, 0)))) := by
  unfold visorref48_S_Drop.m
  rw [out_at h, cond_false, if_pos (in4 h), cs48_get f h, Option.bind_some]
  by_cases h0 : (f n).1 = 0
  · rw [show ((f n).1 == 0) = true by simp [h0], cond_true, if_pos h0]
  · rw [show ((f n).1 == 0) = false by simp [h0], cond_false, if_pos (in4 h), if_pos (fit4 f h 0 0), cs48_set f h, if_neg h0]
theorem count_step (k : Nat) (f : Nat → Int × Int) {n : Nat} (h : n < 4) (c : Nat) (hc : c < 10) : visorref48_S_Count.l1 (cs48 f) (k + 1) (c : Int) (n : Int) = visorref48_S_Count.l1 (cs48 f) k ((c + one48 (f n) : Nat) : Int) ((n + 1 : Nat) : Int) := by
  have e1 : IntKind.i64.wrap ((n : Int) + 1) = ((n + 1 : Nat) : Int) := by rw [wrap_i64_small (by omega) (by omega)]; omega
  have e2 : IntKind.i64.wrap ((c : Int) + 1) = ((c + 1 : Nat) : Int) := by rw [wrap_i64_small (by omega) (by omega)]; omega
  conv => lhs; unfold visorref48_S_Count.l1
  rw [decide_eq_true (in4 h).2, cond_true, if_pos (in4 h), cs48_get f h, Option.bind_some]
  unfold visorref48_S_Count.j1 one48
  by_cases h0 : (f n).1 = 0
  · rw [show ((f n).1 != 0) = false by simp [h0], cond_false, e1, if_pos h0]; rfl
  · rw [show ((f n).1 != 0) = true by simp [h0], cond_true, e1, e2, if_neg h0]
theorem count_end (k : Nat) (f : Nat → Int × Int) (c : Int) : visorref48_S_Count.l1 (cs48 f) (k + 1) c ((4 : Nat) : Int) = some c := by
  conv => lhs; unfold visorref48_S_Count.l1
  rfl
theorem one48_le (x : Int × Int) : one48 x ≤ 1 := by unfold one48; split <;> omega
theorem count_m (k : Nat) (f : Nat → Int × Int) : visorref48_S_Count.m (k + 5) (cs48 f) = some ((cnt48 f : Nat) : Int) := by
  have h0 := one48_le (f 0); have h1 := one48_le (f 1); have h2 := one48_le (f 2); have h3 := one48_le (f 3)
  unfold visorref48_S_Count.m cnt48
  have e := count_step (k + 4) f (n := 0) (by omega) 0 (by omega)
  rw [show ((0 : Nat) : Int) = 0 from rfl] at e
  rw [e, count_step (k + 3) f (n := 1) (by omega) _ (by omega), count_step (k + 2) f (n := 2) (by omega) _ (by omega), count_step (k + 1) f (n := 3) (by omega) _ (by omega), count_end]
  simp
/-! maps -/
theorem mget_put {α : Type} (k : Int) (v : α) (j : Int) : ∀ (M : List (Int × α)), mget (mput M k v) j = if j = k then some v else mget M j
  | [] => rfl
  | (i, x) :: M => by
    unfold mput
    by_cases h : k = i
    · rw [if_pos h]; subst h; simp only [mget]; split <;> rfl
    · rw [if_neg h]; simp only [mget]
      by_cases h2 : j = i
      · rw [if_pos h2, if_pos h2, if_neg (fun e => h (by omega))]
      · rw [if_neg h2, if_neg h2]; exact mget_put k v j M
theorem mlen_put {α : Type} (k : Int) (v : α) : ∀ (M : List (Int × α)), mget M k = none → (mput M k v).length = M.length + 1
  | [], _ => rfl
  | (i, x) :: M, h => by
    unfold mget at h
    split at h
    · cases h
    · rename_i h2
      unfold mput
      rw [if_neg h2, List.length_cons, List.length_cons, mlen_put k v M h]
theorem mkeys_put {α : Type} (k : Int) (v : α) : ∀ (M : List (Int × α)), mget M k = none → (mput M k v).map (·.1) = M.map (·.1) ++ [k]
  | [], _ => rfl
  | (i, x) :: M, h => by
    unfold mget at h
    split at h
    · cases h
    · rename_i h2
      unfold mput
      rw [if_neg h2, List.map_cons, List.map_cons, mkeys_put k v M h]; rfl
theorem mget_keys {α : Type} (k : Int) : ∀ (M : List (Int × α)), mget M k = none ↔ k ∉ M.map (·.1)
  | [] => by simp [mget]
  | (i, x) :: M => by
    have ih := mget_keys k M
    unfold mget
    by_cases h : k = i
    · simp [h]
    · rw [if_neg h, ih]; simp [h]
theorem mkeys_del {α : Type} (k : Int) : ∀ (M : List (Int × α)), (mdel M k).map (·.1) = (M.map (·.1)).erase k
  | [] => rfl
  | (i, x) :: M => by
    unfold mdel
    by_cases h : k = i
    · rw [if_pos h]; subst h; simp
    · rw [if_neg h, List.map_cons, List.map_cons, mkeys_del k M, List.erase_cons_tail (by simp; omega)]
theorem mget_del {α : Type} (k j : Int) : ∀ (M : List (Int × α)), (M.map (·.1)).Nodup → mget (mdel M k) j = if j = k then none else mget M j
  | [], _ => by simp [mdel, mget]
  | (i, x) :: M, h => by
    rw [List.map_cons, List.nodup_cons] at h
    unfold mdel
    by_cases hk : k = i
    · rw [if_pos hk]; subst hk
      by_cases hj : j = k
      · subst hj; rw [if_pos rfl]; exact (mget_keys j M).2 h.1
      · rw [if_neg hj]; simp only [mget]; rw [if_neg hj]
    · rw [if_neg hk]; simp only [mget]
      by_cases h2 : j = i
      · rw [if_pos h2, if_pos h2, if_neg (fun e => hk (by omega))]
      · rw [if_neg h2, if_neg h2]; exact mget_del k j M h.2
theorem mlen_del {α : Type} (k : Int) : ∀ (M : List (Int × α)), mget M k ≠ none → (mdel M k).length + 1 = M.length
  | [], h => absurd rfl h
  | (i, x) :: M, h => by
    unfold mdel
    by_cases hk : k = i
    · rw [if_pos hk]; rfl
    · rw [if_neg hk]
      unfold mget at h
      rw [if_neg hk] at h
      rw [List.length_cons, List.length_cons, mlen_del k M h]
/-- the map has what the four places have -/
structure Rl48 (M : List (Int × Tslots_Slot)) (f : Nat → Int × Int) : Prop where
  nd : (M.map (·.1)).Nodup
  z : ∀ i : Nat, i < 4 → (f i).1 = 0 → mget M (i : Int) = none
  o : ∀ i : Nat, i < 4 → (f i).1 ≠ 0 → ∃ e, mget M (i : Int) = some e ∧ e.kind = (f i).1 ∧ e.size = (f i).2
  len : M.length = cnt48 f
theorem cnt48_upd (f : Nat → Int × Int) {n : Nat} (h : n < 4) (x : Int × Int) : cnt48 (upd48 f n x) + one48 (f n) = cnt48 f + one48 x := by
  rcases lt4_48 h with rfl | rfl | rfl | rfl <;> simp [cnt48, upd48] <;> omega
theorem Rl48.put {M : List (Int × Tslots_Slot)} {f : Nat → Int × Int} (r : Rl48 M f) {n : Nat} (h : n < 4) (h0 : (f n).1 = 0) (a b : Int) (ha : a ≠ 0) (l1 l2 : List Cells) : Rl48 (mput M (n : Int) ⟨a, b, l1, l2⟩) (upd48 f n (a, b)) := by
  have hg := r.z n h h0
  refine ⟨?_, fun i hi hz => ?_, fun i hi hz => ?_, ?_⟩
  · rw [mkeys_put _ _ _ hg, List.nodup_append]
    exact ⟨r.nd, by simp, fun a ha b hb => by
      rw [List.mem_singleton] at hb; subst hb
      intro e; subst e; exact (mget_keys _ M).1 hg ha⟩
  · rw [mget_put]
    unfold upd48 at hz
    by_cases e : i = n
    · rw [if_pos e] at hz; exact absurd hz ha
    · rw [if_neg e] at hz; rw [if_neg (by omega)]; exact r.z i hi hz
  · rw [mget_put]
    unfold upd48 at hz ⊢
    by_cases e : i = n
    · rw [if_pos (by omega), if_pos e]; exact ⟨_, rfl, rfl, rfl⟩
    · rw [if_neg e] at hz ⊢; rw [if_neg (by omega)]; exact r.o i hi hz
  · rw [mlen_put _ _ _ hg, r.len]
    have := cnt48_upd f h (a, b)
    have e1 : one48 (f n) = 0 := if_pos h0
    have e2 : one48 (a, b) = 1 := if_neg ha
    omega
theorem Rl48.del {M : List (Int × Tslots_Slot)} {f : Nat → Int × Int} (r : Rl48 M f) {n : Nat} (h : n < 4) (h0 : (f n).1 ≠ 0) : Rl48 (mdel M (n : Int)) (upd48 f n (0, 0)) := by
  obtain ⟨e, he, _⟩ := r.o n h h0
  refine ⟨?_, fun i hi hz => ?_, fun i hi hz => ?_, ?_⟩
  · rw [mkeys_del]; exact r.nd.erase _
  · rw [mget_del _ _ _ r.nd]
    unfold upd48 at hz
    by_cases e : i = n
    · rw [if_pos (by omega)]
    · rw [if_neg e] at hz; rw [if_neg (by omega)]; exact r.z i hi hz
  · rw [mget_del _ _ _ r.nd]
    unfold upd48 at hz ⊢
    by_cases e : i = n
    · rw [if_pos e] at hz; exact absurd rfl hz
    · rw [if_neg e] at hz ⊢; rw [if_neg (by omega)]; exact r.o i hi hz
  · have := mlen_del (n : Int) M (by rw [he]; simp)
    have := cnt48_upd f h (0, 0)
    have e1 : one48 (f n) = 1 := if_neg h0
    have e2 : one48 ((0 : Int), (0 : Int)) = 0 := rfl
    have := r.len
    omega
theorem awake48_m : visorlaw48_awake.m 20 = some true := by kernel_rfl
theorem awake48 {k : Nat} (hk : 20 ≤ k) : visorlaw48_awake.m k = some true := by
  have e : ∀ j, visorlaw48_awake.m j = visorlaw48_awake.m 20 := fun j => rfl
  rw [e]; exact awake48_m
theorem step48 (x0 : List Tvisorlaw48_Act) (k : Nat) {M : List (Int × Tslots_Slot)} {f : Nat → Int × Int} (r : Rl48 M f) (q : Int) (hq : 0 ≤ q ∧ q < 100) (hl : q < (x0.length : Int)) :
    ∃ M' f', Rl48 M' f' ∧ visorlaw48_SlotsPlay.l1 x0 (k + 5 + 1) M (cs48 f) q = visorlaw48_SlotsPlay.l1 x0 (k + 5) M' (cs48 f') (q + 1) := by
  have hw : IntKind.i64.wrap (q + 1) = q + 1 := wrap_i64_small (by omega) (by omega)
  obtain ⟨e, he⟩ : ∃ e, x0[q.toNat]? = some e := ⟨x0[q.toNat]'(by omega), List.getElem?_eq_getElem (by omega)⟩
  have len : ∀ {M f} (_ : Rl48 M f), (((M.length : Nat) : Int) != ((cnt48 f : Nat) : Int)) = false := fun r => by rw [r.len]; simp
  have j8 : ∀ (R : List (Int × Tslots_Slot) → Cells → Int → Option (Sum Bool Unit)) {M : List (Int × Tslots_Slot)} {f : Nat → Int × Int} (_ : Rl48 M f), visorlaw48_SlotsPlay.j8 (k + 5) R q M (cs48 f) = R M (cs48 f) (q + 1) := by
    intro R M f r
    unfold visorlaw48_SlotsPlay.j8
    rw [count_m, Option.bind_some, len r, cond_false, hw]
  suffices body : ∀ R, R = visorlaw48_SlotsPlay.l1 x0 (k + 5) → ∃ M' f', Rl48 M' f' ∧ visorlaw48_SlotsPlay.l1 x0 (k + 5 + 1) M (cs48 f) q = R M' (cs48 f') (q + 1) from body _ rfl
  intro R hR
  unfold visorlaw48_SlotsPlay.l1
  rw [decide_eq_true hl, decide_eq_true hq.2, Bool.and_self, cond_true, if_pos hq.1, he, Option.bind_some, ← hR]
  obtain ⟨ek, ei, eo, es⟩ := e
  dsimp only
  by_cases k0 : ek = 0
  · rw [show (ek == 0) = true by simp [k0], cond_true]
    cases at48 ei with
    | no _ h =>
      refine ⟨M, f, r, ?_⟩
      rw [place_no _ h, Option.bind_some, Bool.not_false, cond_true]
      unfold visorlaw48_SlotsPlay.j2 visorlaw48_SlotsPlay.j3 visorlaw48_SlotsPlay.j4
      rw [Bool.not_false, cond_true, cond_true, put_no _ _ h, Option.bind_some]
      dsimp only
      rw [show ((6 : Int) != 6) = false from rfl, cond_false, j8 R r]
    | «at» n h =>
      rw [place_at _ h, Option.bind_some, Bool.not_true, cond_false]
      have j4 : ∀ p M', visorlaw48_SlotsPlay.j4 (k + 5) R (cs48 f) q ⟨ek, (n : Int), eo, es⟩ p M' = (if (f n).1 = 0 ∧ (eo = 1 ∨ eo = 2) then (bif p != 0 then some (.inl false) else visorlaw48_SlotsPlay.j8 (k + 5) R q M' (cs48 (upd48 f n (eo, es)))) else (bif p != 6 then some (.inl false) else visorlaw48_SlotsPlay.j8 (k + 5) R q M' (cs48 f))) := by
        intro p M'
        unfold visorlaw48_SlotsPlay.j4
        rw [put_at _ f h, Option.bind_some]
        split <;> rfl
      have j3t : visorlaw48_SlotsPlay.j3 (k + 5) R M (cs48 f) q ⟨ek, (n : Int), eo, es⟩ true = visorlaw48_SlotsPlay.j4 (k + 5) R (cs48 f) q ⟨ek, (n : Int), eo, es⟩ 6 M := rfl
      have j3f : visorlaw48_SlotsPlay.j3 (k + 5) R M (cs48 f) q ⟨ek, (n : Int), eo, es⟩ false = visorlaw48_SlotsPlay.j4 (k + 5) R (cs48 f) q ⟨ek, (n : Int), eo, es⟩ 0 (mput M (n : Int) ⟨eo, es, [], []⟩) := rfl
      by_cases h0 : (f n).1 = 0
      · rw [r.z n h h0]
        dsimp only [Option.isSome_none, cond_false]
        unfold visorlaw48_SlotsPlay.j1 visorlaw48_SlotsPlay.j2
        rw [Bool.not_false, Bool.not_true, cond_false]
        dsimp only
        by_cases h1 : eo = 1
        · rw [show (eo != 1) = false by simp [h1], cond_false, j3f, j4, if_pos ⟨h0, .inl h1⟩]
          have r' := r.put h h0 eo es (by omega) [] []
          exact ⟨_, _, r', by rw [show ((0 : Int) != 0) = false from rfl, cond_false, j8 R r']⟩
        · rw [show (eo != 1) = true by simp [h1], cond_true]
          by_cases h2 : eo = 2
          · rw [show (eo != 2) = false by simp [h2], j3f, j4, if_pos ⟨h0, .inr h2⟩]
            have r' := r.put h h0 eo es (by omega) [] []
            exact ⟨_, _, r', by rw [show ((0 : Int) != 0) = false from rfl, cond_false, j8 R r']⟩
          · rw [show (eo != 2) = true by simp [h2], j3t, j4, if_neg (by omega)]
            exact ⟨_, _, r, by rw [show ((6 : Int) != 6) = false from rfl, cond_false, j8 R r]⟩
      · obtain ⟨e, he, _⟩ := r.o n h h0
        rw [he, Option.isSome_some, cond_true, Option.bind_some]
        unfold visorlaw48_SlotsPlay.j1 visorlaw48_SlotsPlay.j2
        rw [Bool.not_true, Bool.not_false, cond_true, j3t, j4, if_neg (fun e => h0 e.1)]
        exact ⟨_, _, r, by rw [show ((6 : Int) != 6) = false from rfl, cond_false, j8 R r]⟩
  · rw [show (ek == 0) = false by simp [k0], cond_false]
    by_cases k1 : ek = 1
    · rw [show (ek == 1) = true by simp [k1], cond_true]
      have j6 : ∀ (p : Tslots_Slot) (c : Int) (g : Int × Int), visorref48_S_Get.m (k + 5) (cs48 f) ei eo = some g → p.size = g.1 → c = g.2 → (c = 0 → p.kind = eo) →
          visorlaw48_SlotsPlay.j6 (k + 5) R M (cs48 f) q ⟨ek, ei, eo, es⟩ p c = R M (cs48 f) (q + 1) := by
        intro p c g hg h1 h2 h3
        unfold visorlaw48_SlotsPlay.j6
        dsimp only
        rw [hg, Option.bind_some, h1, h2, bne_self_eq_false, bne_self_eq_false, Bool.or_self, cond_false]
        by_cases hc : g.2 = 0
        · rw [show (g.2 == 0) = true by simp [hc], cond_true, h3 (by omega), bne_self_eq_false, cond_false, count_m, Option.bind_some, len r, cond_false, hw]
        · rw [show (g.2 == 0) = false by simp [hc], cond_false, count_m, Option.bind_some, len r, cond_false, hw]
      refine ⟨M, f, r, ?_⟩
      cases at48 ei with
      | no _ h =>
        rw [place_no _ h, Option.bind_some, Bool.not_false, cond_true]
        exact j6 _ _ _ (get_no _ _ h _) rfl rfl (fun h => by cases h)
      | «at» n h =>
        rw [place_at _ h, Option.bind_some, Bool.not_true, cond_false]
        by_cases h0 : (f n).1 = 0
        · rw [r.z n h h0]
          dsimp only [Option.isSome_none, cond_false]
          unfold visorlaw48_SlotsPlay.j5
          rw [Bool.not_false, Bool.true_or, cond_true]
          exact j6 _ _ _ (by rw [get_at _ f h, if_pos (.inl h0)]) rfl rfl (fun h => by cases h)
        · obtain ⟨e, he, e1, e2⟩ := r.o n h h0
          rw [he, Option.isSome_some, cond_true, Option.bind_some]
          unfold visorlaw48_SlotsPlay.j5
          dsimp only
          rw [Bool.not_true, Bool.false_or, e1]
          by_cases h1 : (f n).1 = eo
          · rw [show ((f n).1 != eo) = false by simp [h1], cond_false]
            exact j6 _ _ _ (by rw [get_at _ f h, if_neg (fun e => e.elim h0 (fun e => e h1))]) e2 rfl (fun _ => h1)
          · rw [show ((f n).1 != eo) = true by simp [h1], cond_true]
            exact j6 _ _ _ (by rw [get_at _ f h, if_pos (.inr h1)]) rfl rfl (fun h => by cases h)
    · rw [show (ek == 1) = false by simp [k1], cond_false]
      by_cases k2 : ek = 2
      · rw [show (ek == 2) = true by simp [k2], cond_true]
        cases at48 ei with
        | no _ h =>
          refine ⟨M, f, r, ?_⟩
          rw [place_no _ h, Option.bind_some, Bool.not_false, cond_true]
          unfold visorlaw48_SlotsPlay.j7
          dsimp only
          rw [drop_no _ _ h, Option.bind_some]
          dsimp only
          rw [show ((6 : Int) != 6) = false from rfl, cond_false, j8 R r]
        | «at» n h =>
          rw [place_at _ h, Option.bind_some, Bool.not_true, cond_false, Option.bind_some, Bool.not_true, cond_false]
          by_cases h0 : (f n).1 = 0
          · rw [r.z n h h0]
            dsimp only [Option.isSome_none, cond_false]
            refine ⟨M, f, r, ?_⟩
            unfold visorlaw48_SlotsPlay.j1_2 visorlaw48_SlotsPlay.j2_2 visorlaw48_SlotsPlay.j7
            dsimp only
            rw [Bool.not_false, cond_true, drop_at _ f h, Option.bind_some, if_pos h0]
            dsimp only
            rw [show ((7 : Int) != 7) = false from rfl, cond_false, j8 R r]
          · obtain ⟨e, he, e1, e2⟩ := r.o n h h0
            rw [he, Option.isSome_some, cond_true, Option.bind_some]
            have r' := r.del h h0
            refine ⟨_, _, r', ?_⟩
            unfold visorlaw48_SlotsPlay.j1_2 visorlaw48_SlotsPlay.j2_2 visorlaw48_SlotsPlay.j7
            dsimp only
            rw [Bool.not_true, cond_false, drop_at _ f h, Option.bind_some, if_neg h0]
            dsimp only
            rw [show ((0 : Int) != 0) = false from rfl, cond_false, j8 R r']
      · rw [show (ek == 2) = false by simp [k2], cond_false]
        refine ⟨M, f, r, ?_⟩
        cases at48 ei with
        | no _ h =>
          rw [place_no _ h, Option.bind_some, Bool.not_false, cond_true]
          unfold visorlaw48_SlotsPlay.j2_3
          dsimp only
          rcases h with h | h
          · rw [decide_eq_false (show ¬ ei ≥ 0 by omega), cond_false, show (!(false == false)) = false from rfl, cond_false, j8 R r]
          · rw [decide_eq_true (show ei ≥ 0 by omega), cond_true, decide_eq_false (show ¬ ei < 4 by omega), cond_false, show (!(false == false)) = false from rfl, cond_false, count_m, Option.bind_some, len r, cond_false, hw]
        | «at» n h =>
          have hb : band .i64 (n : Int) 3 = (n : Int) := by rcases lt4_48 h with rfl | rfl | rfl | rfl <;> decide
          have fin : ∀ p : Bool, p = ((f n).1 == 0) → visorlaw48_SlotsPlay.j2_3 (k + 5) R M (cs48 f) q ⟨ek, (n : Int), eo, es⟩ p = R M (cs48 f) (q + 1) := by
            intro p hp
            unfold visorlaw48_SlotsPlay.j2_3
            dsimp only
            rw [decide_eq_true (show (n : Int) ≥ 0 by omega), cond_true, decide_eq_true (show (n : Int) < 4 by omega), cond_true, hb, if_pos (in4 h), cs48_get f h, Option.bind_some, hp, beq_self_eq_true, Bool.not_true, cond_false, count_m, Option.bind_some, len r, cond_false, hw]
          rw [place_at _ h, Option.bind_some, Bool.not_true, cond_false]
          by_cases h0 : (f n).1 = 0
          · rw [r.z n h h0]
            dsimp only [Option.isSome_none, cond_false]
            unfold visorlaw48_SlotsPlay.j1_3
            exact fin _ (by simp [h0])
          · obtain ⟨e, he, e1, e2⟩ := r.o n h h0
            rw [he, Option.isSome_some, cond_true, Option.bind_some]
            unfold visorlaw48_SlotsPlay.j1_3
            exact fin _ (by simp [h0])
theorem loop48 (x0 : List Tvisorlaw48_Act) : ∀ (n : Nat) {M : List (Int × Tslots_Slot)} {f : Nat → Int × Int}, Rl48 M f → ∀ q : Int, 0 ≤ q → (100 - q).toNat ≤ n → visorlaw48_SlotsPlay.l1 x0 (n + 10) M (cs48 f) q = some (.inr ())
  | n, M, f, r, q, h0, h1 => by
    by_cases hq : q < 100 ∧ q < (x0.length : Int)
    · obtain ⟨n, rfl⟩ : ∃ m, n = m + 1 := ⟨n - 1, by omega⟩
      obtain ⟨M', f', r', e⟩ := step48 x0 (n + 5) r q ⟨h0, hq.1⟩ hq.2
      rw [show n + 1 + 10 = n + 5 + 5 + 1 by omega, e]
      exact loop48 x0 n r' (q + 1) (by omega) (by omega)
    · unfold visorlaw48_SlotsPlay.l1
      have : ((decide (q < ((x0.length : Nat) : Int))) && (decide (q < 100))) = false := by
        rw [Bool.and_eq_false_iff, decide_eq_false_iff_not, decide_eq_false_iff_not]; omega
      rw [this, cond_false]
theorem SlotsPlay_pure (x0 : List Tvisorlaw48_Act) (b0 : ∀ x ∈ x0, x.ok) (n0 : x0.length * 32 ≤ 140737488351232) : ∃ k, visorlaw48_SlotsPlay.m k x0 = some true := by
  refine ⟨110, ?_⟩
  unfold visorlaw48_SlotsPlay.m
  have r : Rl48 [] (fun _ => (0, 0)) := ⟨List.nodup_nil, fun _ _ _ => rfl, fun _ _ h => absurd rfl h, rfl⟩
  have e := loop48 x0 100 r 0 (by omega) (by omega)
  rw [show (100 + 10 : Nat) = 110 from rfl] at e
  rw [show ([ci 0, ci 0, ci 0, ci 0, ci 0, ci 0, ci 0, ci 0] : Cells) = cs48 (fun _ => (0, 0)) from rfl, e, Option.bind_some]
  dsimp only
  rw [awake48 (by omega), Option.bind_some]
end Go.Proofs.Ytebgjmhkmmlpeaa
