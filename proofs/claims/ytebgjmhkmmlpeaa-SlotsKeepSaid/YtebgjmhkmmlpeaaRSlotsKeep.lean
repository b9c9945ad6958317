/- The plain law behind SlotsKeep: its model answers true for all data that fit; no condition beyond their kinds. -/
import Derived.Test.YtebgjmhkmmlpeaaMSlotsKeep
namespace Go.Proofs.Ytebgjmhkmmlpeaa
open Go Go.Vk
set_option linter.unusedVariables false

/-! Slots: four places, and a map of them. -/
theorem wrap_i64_small {x : Int} (h0 : -9223372036854775808 ≤ x) (h1 : x ≤ 9223372036854775807) : IntKind.i64.wrap x = x := wrap_i64_of (by omega) (by omega)
/-- which place, if there is one -/
inductive At48 : Int → Prop
  | at (n : Nat) (h : n < 4) : At48 (n : Int)
  | no (i : Int) (h : i < 0 ∨ 3 < i) : At48 i
theorem at48 (i : Int) : At48 i := by
  by_cases h : 0 ≤ i ∧ i < 4
  · obtain ⟨n, rfl⟩ : ∃ n : Nat, i = (n : Int) := ⟨i.toNat, by omega⟩
    exact .at n (by omega)
  · exact .no i (by omega)
theorem place_at (k : Nat) {n : Nat} (h : n < 4) : slots_place.m k (n : Int) = some true := by
  unfold slots_place.m
  rw [decide_eq_true (show (n : Int) ≥ 0 by omega), decide_eq_true (show (n : Int) < 4 by omega)]; rfl
theorem place_no (k : Nat) {i : Int} (h : i < 0 ∨ 3 < i) : slots_place.m k i = some false := by
  unfold slots_place.m
  rcases h with h | h
  · rw [decide_eq_false (show ¬ i ≥ 0 by omega)]; rfl
  · rw [decide_eq_false (show ¬ i < 4 by omega), Bool.and_false]
theorem ceq_refl48 {ks : List LK} {c : Cells} (h : Kinds ks c) : ceq c c = true := (ceq_iff h h).2 rfl
theorem keep_l1 (x3 : List Cells) (hx : ∀ x ∈ x3, x.length = 24 ∧ Kinds ((List.replicate 8 ((List.replicate 3 [LK.int .i64]).flatten)).flatten) x) (hl : (x3.length : Int) ≤ 4611686018427387904) : ∀ (n i : Nat), x3.length ≤ i + n → visorlaw48_SlotsKeep.l1 x3 (n + 1) (i : Int) = some (.inr ())
  | n, i, h => by
    unfold visorlaw48_SlotsKeep.l1
    by_cases hi : i < x3.length
    · obtain ⟨n, rfl⟩ : ∃ m, n = m + 1 := ⟨n - 1, by omega⟩
      obtain ⟨h1, h2⟩ := hx _ (List.getElem_mem hi)
      rw [decide_eq_true (show (i : Int) < ((x3.length : Nat) : Int) by omega), cond_true, if_pos (by omega), Int.toNat_natCast, List.getElem?_eq_getElem hi, Option.bind_some, if_pos h1, if_pos (by omega), Option.bind_some, if_pos h1, if_pos h2, if_pos h2, ceq_refl48 h2, Bool.not_true, cond_false,
        show IntKind.i64.wrap ((i : Int) + 1) = ((i + 1 : Nat) : Int) by rw [wrap_i64_small (by omega) (by omega)]; omega]
      exact keep_l1 x3 hx hl n (i + 1) (by omega)
    · rw [decide_eq_false (show ¬ (i : Int) < ((x3.length : Nat) : Int) by omega), cond_false]
theorem keep_l2 (x3 : List Cells) (hx : ∀ x ∈ x3, x.length = 3 ∧ Kinds ((List.replicate 3 [LK.int .i64]).flatten) x) (hl : (x3.length : Int) ≤ 4611686018427387904) : ∀ (n i : Nat), x3.length ≤ i + n → visorlaw48_SlotsKeep.l2 x3 (n + 1) (i : Int) = some (.inr ())
  | n, i, h => by
    unfold visorlaw48_SlotsKeep.l2
    by_cases hi : i < x3.length
    · obtain ⟨n, rfl⟩ : ∃ m, n = m + 1 := ⟨n - 1, by omega⟩
      obtain ⟨h1, h2⟩ := hx _ (List.getElem_mem hi)
      rw [decide_eq_true (show (i : Int) < ((x3.length : Nat) : Int) by omega), cond_true, if_pos (by omega), Int.toNat_natCast, List.getElem?_eq_getElem hi, Option.bind_some, if_pos h1, if_pos (by omega), Option.bind_some, if_pos h1, if_pos h2, if_pos h2, ceq_refl48 h2, Bool.not_true, cond_false,
        show IntKind.i64.wrap ((i : Int) + 1) = ((i + 1 : Nat) : Int) by rw [wrap_i64_small (by omega) (by omega)]; omega]
      exact keep_l2 x3 hx hl n (i + 1) (by omega)
    · rw [decide_eq_false (show ¬ (i : Int) < ((x3.length : Nat) : Int) by omega), cond_false]
theorem awake48k_m : visorlaw48_awake.m 20 = some true := by kernel_rfl
theorem awake48k (k : Nat) : visorlaw48_awake.m k = some true := by
  have e : ∀ j, visorlaw48_awake.m j = visorlaw48_awake.m 20 := fun j => rfl
  rw [e]; exact awake48k_m
section
variable (k : Nat) (x0 x2 : Int) (x3 x4 : List Cells) (x5 kd : Int) (n : Nat)
theorem keep_end (h : n < 4) (hat : Int.tmod (IntKind.i64.wrap x0) 4 = (n : Int)) : visorlaw48_SlotsKeep.j10 k x0 kd 0 [] = some true := by
  unfold visorlaw48_SlotsKeep.j10
  rw [hat, place_at _ h]
  dsimp only [Option.bind_some, mget, Option.isSome_none, Bool.not_true, cond_false]
  rw [show ((0 : Int) != 0) = false from rfl, cond_false]
  unfold visorlaw48_SlotsKeep.j2_5 visorlaw48_SlotsKeep.j3_5 visorlaw48_SlotsKeep.j11
  rw [hat, place_at _ h]
  dsimp only [Option.bind_some, mget, Option.isSome_none, Bool.not_true, Bool.not_false, cond_false, List.length_nil]
  rw [show ((((0 : Nat)) : Int) != 0) = false from rfl, cond_false]
  unfold visorlaw48_SlotsKeep.j7_3 visorlaw48_SlotsKeep.j12
  rw [awake48k]; rfl
theorem keep_j9 (h : n < 4) (hat : Int.tmod (IntKind.i64.wrap x0) 4 = (n : Int)) (p : Int) (hp : (p == 0) = (x5 == (n : Int))) (h3 : visorlaw48_SlotsKeep.l1 x3 k 0 = some (.inr ())) (h4 : visorlaw48_SlotsKeep.l2 x4 k 0 = some (.inr ())) :
    visorlaw48_SlotsKeep.j9 k x0 x2 x3 x4 x5 kd [((n : Int), ⟨kd, x2, x3, x4⟩)] ⟨kd, x2, x3, x4⟩ 7 p = some true := by
  have hg : mget [((n : Int), (⟨kd, x2, x3, x4⟩ : Tslots_Slot))] (n : Int) = some ⟨kd, x2, x3, x4⟩ := if_pos rfl
  unfold visorlaw48_SlotsKeep.j9
  rw [hat, hp, h3, h4]
  dsimp only
  rw [show ((7 : Int) != 7) = false from rfl, beq_self_eq_true, Bool.not_true, bne_self_eq_false, bne_self_eq_false, bne_self_eq_false, Bool.or_self, Bool.or_self, Bool.or_self, Bool.or_self, cond_false, Option.bind_some]
  dsimp only
  rw [Option.bind_some]
  dsimp only
  rw [place_at _ h, Option.bind_some, Bool.not_true, cond_false, hg, Option.isSome_some, cond_true, Option.bind_some]
  unfold visorlaw48_SlotsKeep.j2_3 visorlaw48_SlotsKeep.j3_3 visorlaw48_SlotsKeep.j4_2
  rw [Bool.not_true, Bool.not_false, cond_true, cond_true, hat, place_at _ h, Option.bind_some, Bool.not_true, cond_false, Option.bind_some, Bool.not_true, cond_false, hg, Option.isSome_some, cond_true, Option.bind_some]
  unfold visorlaw48_SlotsKeep.j2_4 visorlaw48_SlotsKeep.j3_4
  rw [Bool.not_true, cond_false, hat, show mdel [((n : Int), (⟨kd, x2, x3, x4⟩ : Tslots_Slot))] (n : Int) = [] from if_pos rfl]
  exact keep_end k x0 kd n h hat
theorem keep_j1 (h : n < 4) (hat : Int.tmod (IntKind.i64.wrap x0) 4 = (n : Int)) (hk : kd = 1 ∨ kd = 2) (h3 : visorlaw48_SlotsKeep.l1 x3 k 0 = some (.inr ())) (h4 : visorlaw48_SlotsKeep.l2 x4 k 0 = some (.inr ())) :
    visorlaw48_SlotsKeep.j1 k x0 x2 x3 x4 x5 kd = some true := by
  have hg : mget [((n : Int), (⟨kd, x2, x3, x4⟩ : Tslots_Slot))] (n : Int) = some ⟨kd, x2, x3, x4⟩ := if_pos rfl
  have h9 := keep_j9 k x0 x2 x3 x4 x5 kd n h hat
  have h8 : visorlaw48_SlotsKeep.j8 k x0 x2 x3 x4 x5 kd [((n : Int), ⟨kd, x2, x3, x4⟩)] ⟨kd, x2, x3, x4⟩ 7 = some true := by
    unfold visorlaw48_SlotsKeep.j8
    cases at48 x5 with
    | no _ h5 =>
      rw [place_no _ h5, Option.bind_some, Bool.not_false, cond_true]
      exact h9 _ (by rw [show ((6 : Int) == 0) = false from rfl]; symm; rw [beq_eq_false_iff_ne]; omega) h3 h4
    | «at» m hm =>
      rw [place_at _ hm, Option.bind_some, Bool.not_true, cond_false]
      by_cases e : m = n
      · subst e
        rw [hg, Option.isSome_some, cond_true, Option.bind_some]
        dsimp only
        rw [bne_self_eq_false, cond_false]
        exact h9 0 (by simp) h3 h4
      · rw [show mget [((n : Int), (⟨kd, x2, x3, x4⟩ : Tslots_Slot))] (m : Int) = none from if_neg (by omega)]
        dsimp only [Option.isSome_none, cond_false]
        exact h9 _ (by rw [show ((7 : Int) == 0) = false from rfl]; symm; rw [beq_eq_false_iff_ne]; omega) h3 h4
  have h6 : visorlaw48_SlotsKeep.j6 k x0 x2 x3 x4 x5 kd [((n : Int), ⟨kd, x2, x3, x4⟩)] false = some true := by
    unfold visorlaw48_SlotsKeep.j6
    rw [cond_false, hat, place_at _ h, Option.bind_some, Bool.not_true, cond_false, hg, Option.isSome_some, cond_true, Option.bind_some]
    dsimp only
    rw [bne_self_eq_false, cond_false, Option.bind_some, Bool.not_true, cond_false, cond_true, Option.bind_some]
    have : (kd != IntKind.i64.wrap (3 - kd)) = true := by rcases hk with rfl | rfl <;> decide
    dsimp only
    rw [this, cond_true]
    exact h8
  unfold visorlaw48_SlotsKeep.j1
  rw [hat, place_at _ h]
  dsimp only [Option.bind_some, mget, Option.isSome_none, Bool.not_true, cond_false]
  unfold visorlaw48_SlotsKeep.j2 visorlaw48_SlotsKeep.j3
  have h5 : visorlaw48_SlotsKeep.j4 k x0 x2 x3 x4 x5 kd false = some true := by
    unfold visorlaw48_SlotsKeep.j4 visorlaw48_SlotsKeep.j5
    rw [cond_false, show ((0 : Int) != 0) = false from rfl, cond_false, hat, place_at _ h, Option.bind_some, Bool.not_true, cond_false, show mput ([] : List (Int × Tslots_Slot)) (n : Int) ⟨kd, x2, x3, x4⟩ = [((n : Int), ⟨kd, x2, x3, x4⟩)] from rfl, hg, Option.isSome_some, cond_true, Option.bind_some]
    unfold visorlaw48_SlotsKeep.j2_2 visorlaw48_SlotsKeep.j3_2
    rw [Bool.not_true, cond_false]
    exact h6
  rcases hk with rfl | rfl
  · exact h5
  · exact h5
end
theorem SlotsKeep_pure (x0 : Int) (x1 : Bool) (x2 : Int) (x3 : List Cells) (x4 : List Cells) (x5 : Int) (b0 : IntKind.u8.min ≤ x0 ∧ x0 ≤ IntKind.u8.max) (b2 : IntKind.i64.min ≤ x2 ∧ x2 ≤ IntKind.i64.max) (b3 : ∀ x ∈ x3, Fits [LK.int .i64, LK.int .i64, LK.int .i64, LK.int .i64, LK.int .i64, LK.int .i64, LK.int .i64, LK.int .i64, LK.int .i64, LK.int .i64, LK.int .i64, LK.int .i64, LK.int .i64, LK.int .i64, LK.int .i64, LK.int .i64, LK.int .i64, LK.int .i64, LK.int .i64, LK.int .i64, LK.int .i64, LK.int .i64, LK.int .i64, LK.int .i64] x) (n3 : x3.length * 192 ≤ 140737488351232) (b4 : ∀ x ∈ x4, Fits [LK.int .i64, LK.int .i64, LK.int .i64] x) (n4 : x4.length * 24 ≤ 140737488351232) (b5 : IntKind.i64.min ≤ x5 ∧ x5 ≤ IntKind.i64.max) : ∃ k, visorlaw48_SlotsKeep.m k x0 x1 x2 x3 x4 x5 = some true := by
  refine ⟨(x3.length + x4.length) + 1, ?_⟩
  have e0 : IntKind.u8.min = 0 := rfl
  have e1 : IntKind.u8.max = 255 := by decide
  rw [e0, e1] at b0
  obtain ⟨m, rfl⟩ : ∃ m : Nat, x0 = (m : Int) := ⟨x0.toNat, by omega⟩
  have hat : Int.tmod (IntKind.i64.wrap (m : Int)) 4 = ((m % 4 : Nat) : Int) := by
    rw [wrap_i64_small (by omega) (by omega)]; rfl
  have h3 : visorlaw48_SlotsKeep.l1 x3 ((x3.length + x4.length) + 1) 0 = some (.inr ()) := keep_l1 x3 (fun x hx => ⟨(b3 x hx).length, (b3 x hx).kinds⟩) (by omega) _ 0 (by omega)
  have h4 : visorlaw48_SlotsKeep.l2 x4 ((x3.length + x4.length) + 1) 0 = some (.inr ()) := keep_l2 x4 (fun x hx => ⟨(b4 x hx).length, (b4 x hx).kinds⟩) (by omega) _ 0 (by omega)
  unfold visorlaw48_SlotsKeep.m
  cases x1
  · exact keep_j1 _ _ _ _ _ _ 1 (m % 4) (by omega) hat (.inl rfl) h3 h4
  · exact keep_j1 _ _ _ _ _ _ 2 (m % 4) (by omega) hat (.inr rfl) h3 h4
end Go.Proofs.Ytebgjmhkmmlpeaa
