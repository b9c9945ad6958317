/- Of each Go function that SlotsPlay comes to: a model in plain Lean, and that the program's call does what the model says; no condition. -/
import Derived.Test.YtebgjmhkmmlpeaaProg
import Derived.Test.YtebgjmhkmmlpeaaVpdoldmpm
namespace Go.Proofs.Ytebgjmhkmmlpeaa
open Go Go.Vk
set_option linter.unusedVariables false


abbrev slots_place.R (κ : Ctx) (S : List HP) (x0 : Int) (r : Bool) : Ending → World → Prop := fun e w' => e = .returned (.bool r) ∧ Ow κ w' (S)
def slots_place.m (k : Nat) (x0 : Int) : Option Bool := some ((decide (x0 ≥ 0)) && (decide (x0 < 4)))

set_option maxRecDepth 100000 in
set_option maxHeartbeats 4000000 in
theorem slots_place.ok (k : Nat) (x0 : Int) (r : Bool) (hm : slots_place.m k x0 = some r) (κ : Ctx) (w : World) (S : List HP) (ho : Ow κ w (S)) :
  Calls Try.prog 31 #[vi x0] w (slots_place.R κ S x0 r) := by
 unfold slots_place.m at hm
 generalize hRR : slots_place.R κ S x0 r = RR
 refine qen [(0, vi x0)] Try.func31 Try.ntmps31 ho fun a hs => ?_
 refine qse 1 [(0, vi x0)] hs fun a hs => ?_
 refine qsr fun K2 hK2 => ?_
 refine qpu 3 hs fun a hs => ?_
 refine qsc 5 3 hs fun a hs => ?_
 refine qpk 1 [2] hs fun a hs => hK2 _ _ ?_
 clear hK2
 refine wp_ret ?_
 exact qr1 (.bool ((decide (x0 ≥ 0)) && (decide (x0 < 4)))) hs rfl hRR (by cases hm; exact ⟨rfl, hs.own⟩)


def visorref48_S_Put.j1 (k : Nat) (x0 : Cells) (x1 : Int) (x2 : Int) (x3 : Int) (p_9 : Bool) : Option ((Int × Cells)) := (bif p_9 then some (6, x0) else (if 0 ≤ x1 ∧ x1 < 4 then (if 0 + x1.toNat * 2 + [ci x2, ci x3].length ≤ x0.length then some (0, (splice x0 (0 + x1.toNat * 2) [ci x2, ci x3])) else none) else none))
abbrev visorref48_S_Put.R (κ : Ctx) (S : List HP) (x0 : Cells) (x1 : Int) (x2 : Int) (x3 : Int) (b_x0 : Nat) (r : (Int × Cells)) : Ending → World → Prop := fun e w' => e = .returned (vi r.1) ∧ Ow κ w' (pt b_x0 (blk r.2 41) :: S)
def visorref48_S_Put.m (k : Nat) (x0 : Cells) (x1 : Int) (x2 : Int) (x3 : Int) : Option (Int × Cells) := (bif (decide (x1 < 0)) || (decide (x1 > 3)) then visorref48_S_Put.j1 k x0 x1 x2 x3 true else (if 0 ≤ x1 ∧ x1 < 4 then (getI .i64 x0 (0 + x1.toNat * 2)).bind fun v_8 => (bif v_8 != 0 then visorref48_S_Put.j1 k x0 x1 x2 x3 true else (bif x2 != 1 then visorref48_S_Put.j1 k x0 x1 x2 x3 (x2 != 2) else visorref48_S_Put.j1 k x0 x1 x2 x3 false)) else none))

set_option maxRecDepth 100000 in
set_option maxHeartbeats 4000000 in
theorem visorref48_S_Put.ok (k : Nat) (x0 : Cells) (x1 : Int) (x2 : Int) (x3 : Int) (r : (Int × Cells)) (hm : visorref48_S_Put.m k x0 x1 x2 x3 = some r) (κ : Ctx) (w : World) (S : List HP) (b_x0 : Nat) (ho : Ow κ w (pt b_x0 (blk x0 41) :: S)) :
  Calls Try.prog 13 #[pp b_x0, vi x1, vi x2, vi x3] w (visorref48_S_Put.R κ S x0 x1 x2 x3 b_x0 r) := by
 unfold visorref48_S_Put.m at hm
 generalize hRR : visorref48_S_Put.R κ S x0 x1 x2 x3 b_x0 r = RR
 refine qen [(0, pp b_x0), (1, vi x1), (2, vi x2), (3, vi x3)] Try.func13 Try.ntmps13 ho fun a hs => ?_
 refine qsk 1 [0, 1, 2, 3] hs fun a hs => ?_
 refine Vk.seq fun K2 hK2 => ?_
 refine Vk.seq fun K3 hK3 => ?_
 have hj3 : ∀ (p_9 : Bool), visorref48_S_Put.j1 k x0 x1 x2 x3 p_9 = some r → ∀ (a : Act) (w : World), St 41 a w κ [(0, pp b_x0), (1, vi x1), (2, vi x2), (3, vi x3), (32, .bool p_9)] (pt b_x0 (blk x0 41) :: S) → K3 a w := by
  intro p_9 hm a w hs
  unfold visorref48_S_Put.j1 at hm
  refine hK3 _ _ ?_
  refine qcs (p_9) hs (fun hb => ?_) fun hb => ?_
  ·replace hm := bif_t hm hb
   refine qse 1 [(8, vi 6)] hs fun a hs => ?_
   refine wp_ret ?_
   exact qr1 (vi 6) hs rfl hRR (by cases hm; exact ⟨rfl, hs.own⟩)
  ·replace hm := bif_f hm hb
   refine wp_skip ?_
   refine hK2 _ _ ?_
   clear hK2
   refine qsr fun K11 hK11 => ?_
   refine qpu 7 hs fun a hs => ?_
   obtain ⟨h_12, hm⟩ := ite_t hm
   refine qix b_x0 0 2 hs h_12 fun a hs => ?_
   obtain ⟨h_13, hm⟩ := ite_t hm
   refine Vk.step (Vk.storeN (b := b_x0) (ty := 38) (x := (.tmp 40)) (y := (.tmp 37)) (off := 0 + x1.toNat * 2) (sz := 2) [ci x2, ci x3] 0 hs (by kernel_rfl) (by kernel_rfl) (by kernel_rfl) (by kernel_rfl) (by kernel_rfl) rfl (by kernel_rfl) rfl h_13 fun a w hs => ?_)
   refine qpe 0 [] hs fun a hs => hK11 _ _ ?_
   clear hK11
   refine qse 1 [(8, vi 0)] hs fun a hs => ?_
   refine wp_ret ?_
   exact qr1 (vi 0) hs rfl hRR (by cases hm; exact ⟨rfl, hs.own⟩)
 refine Vk.region ?_
 refine qpu 3 hs fun a hs => ?_
 refine qsc 11 3 hs fun a hs => ?_
 refine qpu 1 hs fun a hs => ?_
 rcases Bool.eq_false_or_eq_true ((decide (x1 < 0)) || (decide (x1 > 3))) with hb | hb
 ·replace hm := bif_t hm hb
  replace hs := hs.known (t := 15) hb (by kernel_rfl)
  refine qpe 17 [(0, pp b_x0), (1, vi x1), (2, vi x2), (3, vi x3), (32, .bool true)] hs fun a hs => ?_
  exact hj3 true hm _ _ (hs.go [0, 1, 2, 3, 32] [0] 1 (by kernel_rfl) (by kernel_rfl) (by kernel_rfl))
 ·replace hm := bif_f hm hb
  replace hs := hs.known (t := 15) hb (by kernel_rfl)
  refine qpu 4 hs fun a hs => ?_
  obtain ⟨h_6, hm⟩ := ite_t hm
  refine qix b_x0 0 2 hs h_6 fun a hs => ?_
  refine qpu 1 hs fun a hs => ?_
  obtain ⟨v_8, h_7, hm⟩ := bind_t hm
  refine qli 0 hs rfl h_7 fun a hs => ?_
  refine qpu 3 hs fun a hs => ?_
  rcases Bool.eq_false_or_eq_true (v_8 != 0) with hb | hb
  ·replace hm := bif_t hm hb
   replace hs := hs.known (t := 25) hb (by kernel_rfl)
   refine qpe 7 [(0, pp b_x0), (1, vi x1), (2, vi x2), (3, vi x3), (32, .bool true)] hs fun a hs => ?_
   exact hj3 true hm _ _ (hs.go [0, 1, 2, 3, 32] [0] 1 (by kernel_rfl) (by kernel_rfl) (by kernel_rfl))
  ·replace hm := bif_f hm hb
   replace hs := hs.known (t := 25) hb (by kernel_rfl)
   refine qpu 3 hs fun a hs => ?_
   rcases Bool.eq_false_or_eq_true (x2 != 1) with hb | hb
   ·replace hm := bif_t hm hb
    replace hs := hs.known (t := 28) hb (by kernel_rfl)
    refine qpe 4 [(0, pp b_x0), (1, vi x1), (2, vi x2), (3, vi x3), (32, .bool (x2 != 2))] hs fun a hs => ?_
    exact hj3 (x2 != 2) hm _ _ (hs.go [0, 1, 2, 3, 32] [0] 1 (by kernel_rfl) (by kernel_rfl) (by kernel_rfl))
   ·replace hm := bif_f hm hb
    replace hs := hs.known (t := 28) hb (by kernel_rfl)
    refine qpe 4 [(0, pp b_x0), (1, vi x1), (2, vi x2), (3, vi x3), (32, .bool false)] hs fun a hs => ?_
    exact hj3 false hm _ _ (hs.go [0, 1, 2, 3, 32] [0] 1 (by kernel_rfl) (by kernel_rfl) (by kernel_rfl))


def visorref48_S_Get.j1 (k : Nat) (x0 : Cells) (x1 : Int) (p_15 : Bool) : Option ((Int × Int)) := (bif p_15 then some (0, 7) else (if 0 ≤ x1 ∧ x1 < 4 then (getI .i64 x0 (0 + x1.toNat * 2 + 1)).bind fun v_20 => some (v_20, 0) else none))
abbrev visorref48_S_Get.R (κ : Ctx) (S : List HP) (x0 : Cells) (x1 : Int) (x2 : Int) (b_x0 : Nat) (r : (Int × Int)) : Ending → World → Prop := fun e w' => e = .returned (.tuple #[vi r.1, vi r.2]) ∧ Ow κ w' (pt b_x0 (blk x0 41) :: S)
def visorref48_S_Get.m (k : Nat) (x0 : Cells) (x1 : Int) (x2 : Int) : Option (Int × Int) := (bif (decide (x1 < 0)) || (decide (x1 > 3)) then some (0, 6) else (if 0 ≤ x1 ∧ x1 < 4 then (getI .i64 x0 (0 + x1.toNat * 2)).bind fun v_10 => (bif v_10 == 0 then visorref48_S_Get.j1 k x0 x1 true else (if 0 ≤ x1 ∧ x1 < 4 then (getI .i64 x0 (0 + x1.toNat * 2)).bind fun v_14 => visorref48_S_Get.j1 k x0 x1 (v_14 != x2) else none)) else none))

set_option maxRecDepth 100000 in
set_option maxHeartbeats 4000000 in
theorem visorref48_S_Get.ok (k : Nat) (x0 : Cells) (x1 : Int) (x2 : Int) (r : (Int × Int)) (hm : visorref48_S_Get.m k x0 x1 x2 = some r) (κ : Ctx) (w : World) (S : List HP) (b_x0 : Nat) (ho : Ow κ w (pt b_x0 (blk x0 41) :: S)) :
  Calls Try.prog 14 #[pp b_x0, vi x1, vi x2] w (visorref48_S_Get.R κ S x0 x1 x2 b_x0 r) := by
 unfold visorref48_S_Get.m at hm
 generalize hRR : visorref48_S_Get.R κ S x0 x1 x2 b_x0 r = RR
 refine qen [(0, pp b_x0), (1, vi x1), (2, vi x2)] Try.func14 Try.ntmps14 ho fun a hs => ?_
 refine qsk 2 [0, 1, 2] hs fun a hs => ?_
 refine Vk.seq fun K2 hK2 => ?_
 refine qsr fun K3 hK3 => ?_
 refine qpu 3 hs fun a hs => ?_
 refine qsc 10 3 hs fun a hs => ?_
 refine qpk 0 [0, 1, 2, 13] hs fun a hs => hK3 _ _ ?_
 clear hK3
 refine qcs ((decide (x1 < 0)) || (decide (x1 > 3))) hs (fun hb => ?_) fun hb => ?_
 ·replace hm := bif_t hm hb
  refine qse 2 [(6, vi 0), (7, vi 6)] hs fun a hs => ?_
  refine wp_ret ?_
  exact Vk.ret2 (vi 0) (vi 6) hs rfl (by kernel_rfl) (by kernel_rfl) (hRR ▸ by cases hm; exact ⟨rfl, hs.own⟩)
 ·replace hm := bif_f hm hb
  refine wp_skip ?_
  refine hK2 _ _ ?_
  clear hK2
  refine Vk.seq fun K6 hK6 => ?_
  refine Vk.seq fun K7 hK7 => ?_
  have hj7 : ∀ (p_15 : Bool), visorref48_S_Get.j1 k x0 x1 p_15 = some r → ∀ (a : Act) (w : World), St 40 a w κ [(0, pp b_x0), (1, vi x1), (32, .bool p_15)] (pt b_x0 (blk x0 41) :: S) → K7 a w := by
   intro p_15 hm a w hs
   unfold visorref48_S_Get.j1 at hm
   refine hK7 _ _ ?_
   refine qcs (p_15) hs (fun hb => ?_) fun hb => ?_
   ·replace hm := bif_t hm hb
    refine qse 2 [(6, vi 0), (7, vi 7)] hs fun a hs => ?_
    refine wp_ret ?_
    exact Vk.ret2 (vi 0) (vi 7) hs rfl (by kernel_rfl) (by kernel_rfl) (hRR ▸ by cases hm; exact ⟨rfl, hs.own⟩)
   ·replace hm := bif_f hm hb
    refine wp_skip ?_
    refine hK6 _ _ ?_
    clear hK6
    refine qsr fun K17 hK17 => ?_
    refine qpu 4 hs fun a hs => ?_
    obtain ⟨h_18, hm⟩ := ite_t hm
    refine qix b_x0 0 2 hs h_18 fun a hs => ?_
    refine qpu 1 hs fun a hs => ?_
    obtain ⟨v_20, h_19, hm⟩ := bind_t hm
    refine qli 0 hs rfl h_19 fun a hs => ?_
    refine qpe 2 [(6, vi v_20), (7, vi 0)] hs fun a hs => hK17 _ _ ?_
    clear hK17
    refine wp_ret ?_
    exact Vk.ret2 (vi v_20) (vi 0) hs rfl (by kernel_rfl) (by kernel_rfl) (hRR ▸ by cases hm; exact ⟨rfl, hs.own⟩)
  refine Vk.region ?_
  refine qpu 4 hs fun a hs => ?_
  obtain ⟨h_8, hm⟩ := ite_t hm
  refine qix b_x0 0 2 hs h_8 fun a hs => ?_
  refine qpu 1 hs fun a hs => ?_
  obtain ⟨v_10, h_9, hm⟩ := bind_t hm
  refine qli 0 hs rfl h_9 fun a hs => ?_
  refine qpu 2 hs fun a hs => ?_
  rcases Bool.eq_false_or_eq_true (v_10 == 0) with hb | hb
  ·replace hm := bif_t hm hb
   replace hs := hs.known (t := 22) hb (by kernel_rfl)
   refine qpe 10 [(0, pp b_x0), (1, vi x1), (32, .bool true)] hs fun a hs => ?_
   exact hj7 true hm _ _ (hs.go [0, 1, 32] [0] 1 (by kernel_rfl) (by kernel_rfl) (by kernel_rfl))
  ·replace hm := bif_f hm hb
   replace hs := hs.known (t := 22) hb (by kernel_rfl)
   refine qpu 4 hs fun a hs => ?_
   obtain ⟨h_12, hm⟩ := ite_t hm
   refine qix b_x0 0 2 hs h_12 fun a hs => ?_
   refine qpu 1 hs fun a hs => ?_
   obtain ⟨v_14, h_13, hm⟩ := bind_t hm
   refine qli 0 hs rfl h_13 fun a hs => ?_
   refine qpe 3 [(0, pp b_x0), (1, vi x1), (32, .bool (v_14 != x2))] hs fun a hs => ?_
   exact hj7 (v_14 != x2) hm _ _ (hs.go [0, 1, 32] [0] 1 (by kernel_rfl) (by kernel_rfl) (by kernel_rfl))


abbrev visorref48_S_Drop.R (κ : Ctx) (S : List HP) (x0 : Cells) (x1 : Int) (b_x0 : Nat) (r : (Int × Cells)) : Ending → World → Prop := fun e w' => e = .returned (vi r.1) ∧ Ow κ w' (pt b_x0 (blk r.2 41) :: S)
def visorref48_S_Drop.m (k : Nat) (x0 : Cells) (x1 : Int) : Option (Int × Cells) := (bif (decide (x1 < 0)) || (decide (x1 > 3)) then some (6, x0) else (if 0 ≤ x1 ∧ x1 < 4 then (getI .i64 x0 (0 + x1.toNat * 2)).bind fun v_10 => (bif v_10 == 0 then some (7, x0) else (if 0 ≤ x1 ∧ x1 < 4 then (if 0 + x1.toNat * 2 + [ci 0, ci 0].length ≤ x0.length then some (0, (splice x0 (0 + x1.toNat * 2) [ci 0, ci 0])) else none) else none)) else none))

set_option maxRecDepth 100000 in
set_option maxHeartbeats 4000000 in
theorem visorref48_S_Drop.ok (k : Nat) (x0 : Cells) (x1 : Int) (r : (Int × Cells)) (hm : visorref48_S_Drop.m k x0 x1 = some r) (κ : Ctx) (w : World) (S : List HP) (b_x0 : Nat) (ho : Ow κ w (pt b_x0 (blk x0 41) :: S)) :
  Calls Try.prog 15 #[pp b_x0, vi x1] w (visorref48_S_Drop.R κ S x0 x1 b_x0 r) := by
 unfold visorref48_S_Drop.m at hm
 generalize hRR : visorref48_S_Drop.R κ S x0 x1 b_x0 r = RR
 refine qen [(0, pp b_x0), (1, vi x1)] Try.func15 Try.ntmps15 ho fun a hs => ?_
 refine qse 1 [(0, pp b_x0), (1, vi x1)] hs fun a hs => ?_
 refine Vk.seq fun K2 hK2 => ?_
 refine qsr fun K3 hK3 => ?_
 refine qpu 3 hs fun a hs => ?_
 refine qsc 7 3 hs fun a hs => ?_
 refine qpk 0 [0, 1, 10] hs fun a hs => hK3 _ _ ?_
 clear hK3
 refine qcs ((decide (x1 < 0)) || (decide (x1 > 3))) hs (fun hb => ?_) fun hb => ?_
 ·replace hm := bif_t hm hb
  refine qse 1 [(4, vi 6)] hs fun a hs => ?_
  refine wp_ret ?_
  exact qr1 (vi 6) hs rfl hRR (by cases hm; exact ⟨rfl, hs.own⟩)
 ·replace hm := bif_f hm hb
  refine wp_skip ?_
  refine hK2 _ _ ?_
  clear hK2
  refine Vk.seq fun K6 hK6 => ?_
  refine qsr fun K7 hK7 => ?_
  refine qpu 4 hs fun a hs => ?_
  obtain ⟨h_8, hm⟩ := ite_t hm
  refine qix b_x0 0 2 hs h_8 fun a hs => ?_
  refine qpu 1 hs fun a hs => ?_
  obtain ⟨v_10, h_9, hm⟩ := bind_t hm
  refine qli 0 hs rfl h_9 fun a hs => ?_
  refine qpk 1 [0, 1, 18] hs fun a hs => hK7 _ _ ?_
  clear hK7
  refine qcs (v_10 == 0) hs (fun hb => ?_) fun hb => ?_
  ·replace hm := bif_t hm hb
   refine qse 1 [(4, vi 7)] hs fun a hs => ?_
   refine wp_ret ?_
   exact qr1 (vi 7) hs rfl hRR (by cases hm; exact ⟨rfl, hs.own⟩)
  ·replace hm := bif_f hm hb
   refine wp_skip ?_
   refine hK6 _ _ ?_
   clear hK6
   refine qsr fun K12 hK12 => ?_
   refine qpu 5 hs fun a hs => ?_
   obtain ⟨h_13, hm⟩ := ite_t hm
   refine qix b_x0 0 2 hs h_13 fun a hs => ?_
   obtain ⟨h_14, hm⟩ := ite_t hm
   refine Vk.step (Vk.storeN (b := b_x0) (ty := 38) (x := (.tmp 24)) (y := (.tmp 21)) (off := 0 + x1.toNat * 2) (sz := 2) [ci 0, ci 0] 0 hs (by kernel_rfl) (by kernel_rfl) (by kernel_rfl) (by kernel_rfl) (by kernel_rfl) rfl (by kernel_rfl) rfl h_14 fun a w hs => ?_)
   refine qpe 0 [] hs fun a hs => hK12 _ _ ?_
   clear hK12
   refine qse 1 [(4, vi 0)] hs fun a hs => ?_
   refine wp_ret ?_
   exact qr1 (vi 0) hs rfl hRR (by cases hm; exact ⟨rfl, hs.own⟩)


def visorref48_S_Count.j1 (k : Nat) (rec5 : Int → Int → Option (Int)) (q_7 : Int) (p_15 : Int) : Option (Int) := rec5 p_15 (IntKind.i64.wrap (q_7 + 1))
def visorref48_S_Count.l1 (x0 : Cells) : Nat → Int → Int → Option (Int)
 | 0, _, _ => none
 | k + 1, q_6, q_7 => (bif decide (q_7 < 4) then (if 0 ≤ q_7 ∧ q_7 < 4 then (getI .i64 x0 (0 + q_7.toNat * 2)).bind fun v_14 => (bif v_14 != 0 then visorref48_S_Count.j1 k (visorref48_S_Count.l1 x0 k) q_7 (IntKind.i64.wrap (q_6 + 1)) else visorref48_S_Count.j1 k (visorref48_S_Count.l1 x0 k) q_7 q_6) else none) else some q_6)
abbrev visorref48_S_Count.R (κ : Ctx) (S : List HP) (x0 : Cells) (b_x0 : Nat) (r : Int) : Ending → World → Prop := fun e w' => e = .returned (vi r) ∧ Ow κ w' (pt b_x0 (blk x0 41) :: S)
def visorref48_S_Count.m (k : Nat) (x0 : Cells) : Option Int := (visorref48_S_Count.l1 x0 k 0 0).bind fun p_16 => some p_16

set_option maxRecDepth 100000 in
set_option maxHeartbeats 4000000 in
theorem visorref48_S_Count.ok (k : Nat) (x0 : Cells) (r : Int) (hm : visorref48_S_Count.m k x0 = some r) (κ : Ctx) (w : World) (S : List HP) (b_x0 : Nat) (ho : Ow κ w (pt b_x0 (blk x0 41) :: S)) :
  Calls Try.prog 16 #[pp b_x0] w (visorref48_S_Count.R κ S x0 b_x0 r) := by
 unfold visorref48_S_Count.m at hm
 generalize hRR : visorref48_S_Count.R κ S x0 b_x0 r = RR
 refine qen [(0, pp b_x0)] Try.func16 Try.ntmps16 ho fun a hs => ?_
 refine qse 1 [(0, pp b_x0)] hs fun a hs => ?_
 refine qse 1 [(0, pp b_x0), (3, vi 0)] hs fun a hs => ?_
 refine Vk.seq fun K3 hK3 => ?_
 refine qsk 1 [0, 3, 4] hs fun a hs => ?_
 refine wp_block ?_
 obtain ⟨r5, hl5, hm⟩ := bind_t hm
 have hx5 : ∀ (p_16 : Int), r5 = p_16 → ∀ (a : Act) (w : World), St 20 a w κ [(3, vi p_16)] (pt b_x0 (blk x0 41) :: S) → K3 a w := by
  intro p_16 he a w hs
  subst r5
  refine hK3 _ _ ?_
  clear hK3
  refine qse 2 [(2, vi p_16)] hs fun a hs => ?_
  refine wp_ret ?_
  exact qr1 (vi p_16) hs rfl hRR (by cases hm; exact ⟨rfl, hs.own⟩)
 refine Vk.loopBy (fun k (s : Int × Int) a w => visorref48_S_Count.l1 x0 k s.1 s.2 = some r5 ∧ St 20 a w κ [(0, pp b_x0), (3, vi s.1), (4, vi s.2)] (pt b_x0 (blk x0 41) :: S)) k (0, 0) ⟨hl5, hs.go [0, 3, 4] [0] 1 (by kernel_rfl) (by kernel_rfl) (by kernel_rfl)⟩ (fun s a w h => by obtain ⟨h1, _⟩ := h; simp [visorref48_S_Count.l1] at h1) (fun k KL5 ih s a w h => ?_)
 obtain ⟨q_6, q_7⟩ := s
 obtain ⟨hm, hs⟩ := h
 try dsimp only at hm hs
 rw [visorref48_S_Count.l1] at hm
 refine Vk.seq fun K8 hK8 => ?_
 refine qsk 2 [0, 3, 4, 6] hs fun a hs => ?_
 refine qcs (decide (q_7 < 4)) hs (fun hb => ?_) fun hb => ?_
 ·replace hm := bif_t hm hb
  refine wp_skip ?_
  refine hK8 _ _ ?_
  clear hK8
  refine Vk.seq fun K10 hK10 => ?_
  have hj10 : ∀ (p_15 : Int), visorref48_S_Count.j1 k (visorref48_S_Count.l1 x0 k) q_7 p_15 = some r5 → ∀ (a : Act) (w : World), St 20 a w κ [(0, pp b_x0), (3, vi p_15), (4, vi q_7)] (pt b_x0 (blk x0 41) :: S) → K10 a w := by
   intro p_15 hm a w hs
   unfold visorref48_S_Count.j1 at hm
   refine hK10 _ _ ?_
   refine Vk.region ?_
   refine qpk 3 [0, 3, 4] hs fun a hs => ?_
   refine ih (p_15, (IntKind.i64.wrap (q_7 + 1))) _ _ ⟨hm, hs.go [0, 3, 4] [0] 1 (by kernel_rfl) (by kernel_rfl) (by kernel_rfl)⟩
  refine wp_block ?_
  refine qsr fun K11 hK11 => ?_
  refine qpu 4 hs fun a hs => ?_
  obtain ⟨h_12, hm⟩ := ite_t hm
  refine qix b_x0 0 2 hs h_12 fun a hs => ?_
  refine qpu 1 hs fun a hs => ?_
  obtain ⟨v_14, h_13, hm⟩ := bind_t hm
  refine qli 0 hs rfl h_13 fun a hs => ?_
  refine qpk 1 [0, 3, 4, 16] hs fun a hs => hK11 _ _ ?_
  clear hK11
  refine qcs (v_14 != 0) hs (fun hb => ?_) fun hb => ?_
  ·replace hm := bif_t hm hb
   refine Vk.region ?_
   refine qpe 3 [(0, pp b_x0), (3, vi (IntKind.i64.wrap (q_6 + 1))), (4, vi q_7)] hs fun a hs => ?_
   exact hj10 (IntKind.i64.wrap (q_6 + 1)) hm _ _ (hs.go [0, 3, 4] [0] 1 (by kernel_rfl) (by kernel_rfl) (by kernel_rfl))
  ·replace hm := bif_f hm hb
   refine wp_skip ?_
   exact hj10 q_6 hm _ _ (hs.go [0, 3, 4] [0] 1 (by kernel_rfl) (by kernel_rfl) (by kernel_rfl))
 ·replace hm := bif_f hm hb
  refine wp_exit ?_
  exact hx5 q_6 (Option.some.inj hm).symm _ _ (hs.go [3] [0] 1 (by kernel_rfl) (by kernel_rfl) (by kernel_rfl))

structure Tslots_Slot where
 kind : Int
 size : Int
 keys : List Cells
 words : List Cells
 deriving Inhabited
def Tslots_Slot.obj (x : Tslots_Slot) (Akeys : Option Addr) (ckeys : Nat) (Awords : Option Addr) (cwords : Nat) : Cells := [C.int .i64 x.kind, C.int .i64 x.size, C.slc Akeys x.keys.length ckeys, C.slc Awords x.words.length cwords]

def visorlaw48_awake.j6 (k : Nat) (p_87 : Bool) : Option (Bool) := some p_87
def visorlaw48_awake.j5 (k : Nat) (p_85 : Int) (p_86 : List (Int × Tslots_Slot)) : Option (Bool) := visorlaw48_awake.j6 k (p_85 == 7)
def visorlaw48_awake.j2_2 (k : Nat) (p_51 : List (Int × Tslots_Slot)) (p_81 : Bool) : Option (Bool) := (bif p_81 then visorlaw48_awake.j5 k 7 p_51 else visorlaw48_awake.j5 k 0 (mdel p_51 2))
def visorlaw48_awake.j1_2 (k : Nat) (p_51 : List (Int × Tslots_Slot)) (p_79 : Bool) : Option (Bool) := visorlaw48_awake.j2_2 k p_51 (!p_79)
def visorlaw48_awake.j4 (k : Nat) (p_50 : Int) (p_51 : List (Int × Tslots_Slot)) : Option (Bool) := (bif p_50 == 6 then (slots_place.m k 2).bind fun v_59 => (bif !v_59 then visorlaw48_awake.j5 k 6 p_51 else (slots_place.m k 2).bind fun v_68 => (bif !v_68 then visorlaw48_awake.j2_2 k p_51 false else (bif (mget p_51 2).isSome then ((mget p_51 2)).bind fun e_71 => visorlaw48_awake.j1_2 k p_51 true else visorlaw48_awake.j1_2 k p_51 false))) else visorlaw48_awake.j6 k false)
def visorlaw48_awake.j3 (k : Nat) (p_45 : Bool) : Option (Bool) := (bif p_45 then visorlaw48_awake.j4 k 6 ([] : List (Int × Tslots_Slot)) else visorlaw48_awake.j4 k 0 (mput ([] : List (Int × Tslots_Slot)) 4 (⟨1, 0, ([] : List Cells), ([] : List Cells)⟩ : Tslots_Slot)))
def visorlaw48_awake.j2 (k : Nat) (p_42 : Bool) : Option (Bool) := (bif !p_42 then visorlaw48_awake.j3 k true else visorlaw48_awake.j3 k false)
def visorlaw48_awake.j1 (k : Nat) (p_36 : Bool) : Option (Bool) := visorlaw48_awake.j2 k (!p_36)
abbrev visorlaw48_awake.R (κ : Ctx) (S : List HP) (r : Bool) : Ending → World → Prop := fun e w' => e = .returned (.bool r) ∧ Ow κ w' (S)
def visorlaw48_awake.m (k : Nat) : Option Bool := (slots_place.m k 4).bind fun v_21 => (bif !v_21 then visorlaw48_awake.j2 k false else (bif (mget ([] : List (Int × Tslots_Slot)) 4).isSome then ((mget ([] : List (Int × Tslots_Slot)) 4)).bind fun e_24 => visorlaw48_awake.j1 k true else visorlaw48_awake.j1 k false))

set_option maxRecDepth 100000 in
set_option maxHeartbeats 4000000 in
theorem visorlaw48_awake.ok (k : Nat) (r : Bool) (hm : visorlaw48_awake.m k = some r) (κ : Ctx) (w : World) (S : List HP) (ho : Ow κ w (S)) :
  Calls Try.prog 17 #[] w (visorlaw48_awake.R κ S r) := by
 unfold visorlaw48_awake.m at hm
 generalize hRR : visorlaw48_awake.R κ S r = RR
 refine qen [] Try.func17 Try.ntmps17 ho fun a hs => ?_
 refine qse 1 [] hs fun a hs => ?_
 refine qsr fun K2 hK2 => ?_
 refine Vk.step (Vk.call (some 2) 12 #[] hs (by kernel_rfl) (by kernel_rfl) (by kernel_rfl) ?_)
 refine Vk.enterI [] Try.func12 rfl Try.ntmps12 (by kernel_rfl) (Nat.le_of_ble_eq_true (by kernel_rfl)) hs.own fun KR3 hKR3 hKP3 a hs => ?_
 refine qse 1 [] hs fun a hs => ?_
 refine qsr fun K5 hK5 => ?_
 refine Vk.step (mppOp 1 81 (fun (x : Tslots_Slot) => .agg (vals [ci x.kind, ci x.size, C.slc none 0 0, C.slc none 0 0])) hs fun b_6 w a hs => ?_)
 refine qpu 1 hs fun a hs => ?_
 refine qbx 2 83 [C.map (some b_6)] 3 hs fun b_7 w a hs => ?_
 refine qpe 1 [(0, pp b_7)] hs fun a hs => hK5 _ _ ?_
 clear hK5
 refine wp_ret ?_
 refine hKP3 _ _ ?_
 refine hKR3 _ _ ?_
 refine Vk.ret1 (P := Try.prog) (fn := Try.f12) (pp b_7) hs rfl (by kernel_rfl) ⟨_, _, _, rfl, hs.own, fun a hs => ?_⟩
 refine qpe 1 [(1, pp b_7)] hs fun a hs => hK2 _ _ ?_
 clear hK2
 refine Vk.seq fun K8 hK8 => ?_
 have hj8 : ∀ (p_87 : Bool), visorlaw48_awake.j6 k p_87 = some r → ∀ (a : Act) (w : World), St 12 a w κ [(0, .bool p_87)] (S) → K8 a w := by
  intro p_87 hm a w hs
  unfold visorlaw48_awake.j6 at hm
  refine hK8 _ _ ?_
  refine wp_ret ?_
  exact qr1 (.bool p_87) hs rfl hRR (by cases hm; exact ⟨rfl, hs.own⟩)
 refine Vk.region ?_
 refine qpu 2 hs fun a hs => ?_
 refine Vk.step (Vk.call (some 5) 8 #[pp b_7, vi 4, .agg (vals [ci 1, ci 0, C.slc none 0 0, C.slc none 0 0])] hs (by kernel_rfl) (by kernel_rfl) (by kernel_rfl) ?_)
 refine Vk.enterI [(0, pp b_7), (1, vi 4), (2, .agg (vals [ci 1, ci 0, C.slc none 0 0, C.slc none 0 0]))] Try.func8 rfl Try.ntmps8 (by kernel_rfl) (Nat.le_of_ble_eq_true (by kernel_rfl)) hs.own fun KR9 hKR9 hKP9 a hs => ?_
 have hj9 : ∀ (p_50 : Int) (p_51 : List (Int × Tslots_Slot)), visorlaw48_awake.j4 k p_50 p_51 = some r → ∀ (a : Act) (w : World), St 31 a w κ [(6, vi p_50)] (pt b_7 (blk [C.map (some b_6)] 83) :: mpp b_6 (fun (x : Tslots_Slot) => .agg (vals [ci x.kind, ci x.size, C.slc none 0 0, C.slc none 0 0])) p_51 :: S) → KR9 a w := by
  intro p_50 p_51 hm a w hs
  unfold visorlaw48_awake.j4 at hm
  refine hKR9 _ _ ?_
  refine Vk.ret1 (P := Try.prog) (fn := Try.f8) (vi p_50) hs rfl (by kernel_rfl) ⟨_, _, _, rfl, hs.own, fun a hs => ?_⟩
  refine qpu 2 hs fun a hs => ?_
  rcases Bool.eq_false_or_eq_true (p_50 == 6) with hb | hb
  ·replace hm := bif_t hm hb
   replace hs := hs.known (t := 7) hb (by kernel_rfl)
   refine qpu 1 hs fun a hs => ?_
   refine Vk.step (Vk.call (some 9) 9 #[pp b_7, vi 2] hs (by kernel_rfl) (by kernel_rfl) (by kernel_rfl) ?_)
   refine Vk.enterI [(0, pp b_7), (1, vi 2)] Try.func9 rfl Try.ntmps9 (by kernel_rfl) (Nat.le_of_ble_eq_true (by kernel_rfl)) hs.own fun KR52 hKR52 hKP52 a hs => ?_
   have hj52 : ∀ (p_85 : Int) (p_86 : List (Int × Tslots_Slot)), visorlaw48_awake.j5 k p_85 p_86 = some r → ∀ (a : Act) (w : World), St 21 a w κ [(4, vi p_85)] (pt b_7 (blk [C.map (some b_6)] 83) :: mpp b_6 (fun (x : Tslots_Slot) => .agg (vals [ci x.kind, ci x.size, C.slc none 0 0, C.slc none 0 0])) p_86 :: S) → KR52 a w := by
    intro p_85 p_86 hm a w hs
    unfold visorlaw48_awake.j5 at hm
    refine hKR52 _ _ ?_
    refine Vk.ret1 (P := Try.prog) (fn := Try.f9) (vi p_85) hs rfl (by kernel_rfl) ⟨_, _, _, rfl, hs.own, fun a hs => ?_⟩
    refine qpe 3 [(0, .bool (p_85 == 7))] hs fun a hs => ?_
    exact hj8 (p_85 == 7) hm _ _ (hs.go [0] [] 2 (by kernel_rfl) (by kernel_rfl) (by kernel_rfl))
   refine qse 1 [(0, pp b_7), (1, vi 2)] hs fun a hs => ?_
   refine Vk.seq fun K54 hK54 => ?_
   refine wp_block ?_
   refine qsk 3 [0, 1, 5] hs fun a hs => ?_
   refine qcf hs ?_
   refine qsr fun K56 hK56 => ?_
   refine qpu 1 hs fun a hs => ?_
   obtain ⟨v_59, h_58, hm⟩ := bind_t hm
   refine qcl (slots_place.ok _ _ _ h_58 _ _ (pt b_7 (blk [C.map (some b_6)] 83) :: mpp b_6 (fun (x : Tslots_Slot) => .agg (vals [ci x.kind, ci x.size, C.slc none 0 0, C.slc none 0 0])) p_51 :: S) hs.own) hs fun w a hs => ?_
   refine qpk 2 [0, 1, 8] hs fun a hs => hK56 _ _ ?_
   clear hK56
   refine qcs (!v_59) hs (fun hb => ?_) fun hb => ?_
   ·replace hm := bif_t hm hb
    refine qse 1 [(4, vi 6)] hs fun a hs => ?_
    refine wp_ret ?_
    refine hKP52 _ _ ?_
    exact hj52 6 p_51 hm _ _ (hs.go [4] [0, 1] 2 (by kernel_rfl) (by kernel_rfl) (by kernel_rfl))
   ·replace hm := bif_f hm hb
    refine qsr fun K61 hK61 => ?_
    refine qpu 2 hs fun a hs => ?_
    refine Vk.step (Vk.call (some 15) 10 #[pp b_7, vi 2] hs (by kernel_rfl) (by kernel_rfl) (by kernel_rfl) ?_)
    refine Vk.enterI [(0, pp b_7), (1, vi 2)] Try.func10 rfl Try.ntmps10 (by kernel_rfl) (Nat.le_of_ble_eq_true (by kernel_rfl)) hs.own fun KR62 hKR62 hKP62 a hs => ?_
    have hj62 : ∀ (p_81 : Bool), visorlaw48_awake.j2_2 k p_51 p_81 = some r → ∀ (a : Act) (w : World), St 25 a w κ [(4, .bool p_81)] (pt b_7 (blk [C.map (some b_6)] 83) :: mpp b_6 (fun (x : Tslots_Slot) => .agg (vals [ci x.kind, ci x.size, C.slc none 0 0, C.slc none 0 0])) p_51 :: S) → KR62 a w := by
     intro p_81 hm a w hs
     unfold visorlaw48_awake.j2_2 at hm
     refine hKR62 _ _ ?_
     refine Vk.ret1 (P := Try.prog) (fn := Try.f10) (.bool p_81) hs rfl (by kernel_rfl) ⟨_, _, _, rfl, hs.own, fun a hs => ?_⟩
     refine qpk 1 [0, 1, 12] hs fun a hs => hK61 _ _ ?_
     clear hK61
     refine qcs (p_81) hs (fun hb => ?_) fun hb => ?_
     ·replace hm := bif_t hm hb
      refine qse 1 [(4, vi 7)] hs fun a hs => ?_
      refine wp_ret ?_
      refine hKP52 _ _ ?_
      exact hj52 7 p_51 hm _ _ (hs.go [4] [0, 1] 2 (by kernel_rfl) (by kernel_rfl) (by kernel_rfl))
     ·replace hm := bif_f hm hb
      refine wp_skip ?_
      refine hK54 _ _ ?_
      clear hK54
      refine qsr fun K83 hK83 => ?_
      refine qpu 3 hs fun a hs => ?_
      refine qld 0 (C.map (some b_6)) hs rfl fun a hs => ?_
      refine qpu 1 hs fun a hs => ?_
      refine Vk.step (mdelOp (t := 81) (t' := 3) (et := 27) (xm := (.tmp 19)) (xk := (.tmp 20)) (ev := (fun (x : Tslots_Slot) => .agg (vals [ci x.kind, ci x.size, C.slc none 0 0, C.slc none 0 0]))) 2 1 none hs rfl fun a w hs => ?_)
      refine qpe 0 [] hs fun a hs => hK83 _ _ ?_
      clear hK83
      refine qse 1 [(4, vi 0)] hs fun a hs => ?_
      refine wp_ret ?_
      refine hKP52 _ _ ?_
      exact hj52 0 (mdel p_51 2) hm _ _ (hs.go [4] [0, 1] 2 (by kernel_rfl) (by kernel_rfl) (by kernel_rfl))
    refine qse 1 [(0, pp b_7), (1, vi 2)] hs fun a hs => ?_
    refine Vk.seq fun K64 hK64 => ?_
    refine qsr fun K65 hK65 => ?_
    refine qpu 4 hs fun a hs => ?_
    obtain ⟨v_68, h_67, hm⟩ := bind_t hm
    refine qcl (slots_place.ok _ _ _ h_67 _ _ (pt b_7 (blk [C.map (some b_6)] 83) :: mpp b_6 (fun (x : Tslots_Slot) => .agg (vals [ci x.kind, ci x.size, C.slc none 0 0, C.slc none 0 0])) p_51 :: S) hs.own) hs fun w a hs => ?_
    refine qpk 2 [0, 1, 13] hs fun a hs => hK65 _ _ ?_
    clear hK65
    refine qcs (!v_68) hs (fun hb => ?_) fun hb => ?_
    ·replace hm := bif_t hm hb
     refine qse 1 [(4, .bool false)] hs fun a hs => ?_
     refine wp_ret ?_
     refine hKP62 _ _ ?_
     exact hj62 false hm _ _ (hs.go [4] [0, 1] 2 (by kernel_rfl) (by kernel_rfl) (by kernel_rfl))
    ·replace hm := bif_f hm hb
     refine wp_skip ?_
     refine hK64 _ _ ?_
     clear hK64
     refine Vk.seq fun K70 hK70 => ?_
     have hj70 : ∀ (p_79 : Bool), visorlaw48_awake.j1_2 k p_51 p_79 = some r → ∀ (a : Act) (w : World), St 25 a w κ [(6, .bool p_79)] (pt b_7 (blk [C.map (some b_6)] 83) :: mpp b_6 (fun (x : Tslots_Slot) => .agg (vals [ci x.kind, ci x.size, C.slc none 0 0, C.slc none 0 0])) p_51 :: S) → K70 a w := by
      intro p_79 hm a w hs
      unfold visorlaw48_awake.j1_2 at hm
      refine hK70 _ _ ?_
      refine qse 3 [(4, .bool (!p_79))] hs fun a hs => ?_
      refine wp_ret ?_
      refine hKP62 _ _ ?_
      exact hj62 (!p_79) hm _ _ (hs.go [4] [0, 1] 2 (by kernel_rfl) (by kernel_rfl) (by kernel_rfl))
     refine Vk.region ?_
     refine qpu 3 hs fun a hs => ?_
     refine qld 0 (C.map (some b_6)) hs rfl fun a hs => ?_
     refine qpu 1 hs fun a hs => ?_
     rcases Bool.eq_false_or_eq_true ((mget p_51 2).isSome) with hb | hb
     ·replace hm := bif_t hm hb
      obtain ⟨e_71, h_72, hm⟩ := bind_t hm
      refine qva (.tuple #[.agg (vals [ci e_71.kind, ci e_71.size, C.slc none 0 0, C.slc none 0 0]), .bool true]) (op := (.lookup 81 (.tmp 18) (.tmp 19) true)) hs (fun o ho => run_mgetS (et := 27) (ev := (fun (x : Tslots_Slot) => .agg (vals [ci x.kind, ci x.size, C.slc none 0 0, C.slc none 0 0]))) 1 h_72 rfl ho (by kernel_rfl) (by kernel_rfl) (by kernel_rfl) (by kernel_rfl) _ hs.own) fun a hs => ?_
      refine qpu 3 hs fun a hs => ?_
      refine qal 27 [ci 0, ci 0, C.slc none 0 0, C.slc none 0 0] 5 hs fun b_73 w a hs => ?_
      refine qsa 0 [ci e_71.kind, ci e_71.size, C.slc none 0 0, C.slc none 0 0] hs rfl fun a w hs => ?_
      refine qpe 1 [(6, .bool true)] hs fun a hs => ?_
      replace hs := hs.addRow none 53 24 eC
      replace hs := hs.addRow none 51 3 eC
      exact hj70 true hm _ _ (hs.go [6] [3, 4] 5 (by kernel_rfl) (by kernel_rfl) (by kernel_rfl))
     ·replace hm := bif_f hm hb
      refine qva (.tuple #[.agg (vals [ci 0, ci 0, C.slc none 0 0, C.slc none 0 0]), .bool false]) (op := (.lookup 81 (.tmp 18) (.tmp 19) true)) hs (fun o ho => run_mgetN (et := 27) (ev := (fun (x : Tslots_Slot) => .agg (vals [ci x.kind, ci x.size, C.slc none 0 0, C.slc none 0 0]))) (z := .agg (vals [ci 0, ci 0, C.slc none 0 0, C.slc none 0 0])) 1 hb rfl ho (by kernel_rfl) (by kernel_rfl) (by kernel_rfl) (by kernel_rfl) _ hs.own) fun a hs => ?_
      refine qpu 3 hs fun a hs => ?_
      refine qal 27 [ci 0, ci 0, C.slc none 0 0, C.slc none 0 0] 5 hs fun b_74 w a hs => ?_
      refine qsa 0 [ci 0, ci 0, C.slc none 0 0, C.slc none 0 0] hs rfl fun a w hs => ?_
      refine qpe 1 [(6, .bool false)] hs fun a hs => ?_
      replace hs := hs.addRow none 53 24 eC
      replace hs := hs.addRow none 51 3 eC
      exact hj70 false hm _ _ (hs.go [6] [3, 4] 5 (by kernel_rfl) (by kernel_rfl) (by kernel_rfl))
  ·replace hm := bif_f hm hb
   replace hs := hs.known (t := 7) hb (by kernel_rfl)
   refine qpe 5 [(0, .bool false)] hs fun a hs => ?_
   exact hj8 false hm _ _ (hs.go [0] [] 2 (by kernel_rfl) (by kernel_rfl) (by kernel_rfl))
 refine qsr fun K10 hK10 => ?_
 refine qbx 2 27 [ci 1, ci 0, C.slc none 0 0, C.slc none 0 0] 5 hs fun b_11 w a hs => ?_
 refine qpk 1 [0, 1, 5] hs fun a hs => hK10 _ _ ?_
 clear hK10
 refine Vk.seq fun K12 hK12 => ?_
 refine wp_block ?_
 refine qsk 3 [0, 1, 5, 7] hs fun a hs => ?_
 refine qcf hs ?_
 refine Vk.seq fun K14 hK14 => ?_
 have hj14 : ∀ (p_45 : Bool), visorlaw48_awake.j3 k p_45 = some r → ∀ (a : Act) (w : World), St 31 a w κ [(0, pp b_7), (1, vi 4), (5, pp b_11), (10, .bool p_45)] (pt b_7 (blk [C.map (some b_6)] 83) :: mpp b_6 (fun (x : Tslots_Slot) => .agg (vals [ci x.kind, ci x.size, C.slc none 0 0, C.slc none 0 0])) ([] : List (Int × Tslots_Slot)) :: pt b_11 (blk ([ci 1, ci 0, C.slc none (([] : List Cells).length) 0, C.slc none (([] : List Cells).length) 0]) 27) :: rowp none 0 53 24 eC ([] : List Cells) :: rowp none 0 51 3 eC ([] : List Cells) :: S) → K14 a w := by
  intro p_45 hm a w hs
  unfold visorlaw48_awake.j3 at hm
  refine hK14 _ _ ?_
  refine qcs (p_45) hs (fun hb => ?_) fun hb => ?_
  ·replace hm := bif_t hm hb
   refine qse 1 [(6, vi 6)] hs fun a hs => ?_
   refine wp_ret ?_
   refine hKP9 _ _ ?_
   exact hj9 6 ([] : List (Int × Tslots_Slot)) hm _ _ (hs.go [6] [0, 1] 5 (by kernel_rfl) (by kernel_rfl) (by kernel_rfl))
  ·replace hm := bif_f hm hb
   refine wp_skip ?_
   refine hK12 _ _ ?_
   clear hK12
   refine Vk.seq fun K47 hK47 => ?_
   obtain ⟨C_48, hC_48⟩ := qC hs.own
   refine qdr 6 κ C_48 hs fun w hs hqC_48 => ?_
   have hcl := qO hC_48 hs.own
   refine qdp (fuel := 3) [0, 1, 2, 4] hs hcl hqC_48 fun a hs => ?_
   refine qdl 3 0 (C.map (some b_6)) hs hcl hqC_48 hC_48 rfl fun a hs => ?_
   refine qdn 5 2 ([ci 1, ci 0, C.slc none (([] : List Cells).length) 0, C.slc none (([] : List Cells).length) 0]) hs hcl hqC_48 hC_48 rfl fun a hs => ?_
   refine Vk.dOnly (i := 6) (by kernel_rfl) (mputOp (t := 81) (et := 27) (xm := (.tmp 28)) (xk := (.tmp 29)) (xv := (.tmp 30)) (ev := (fun (x : Tslots_Slot) => .agg (vals [ci x.kind, ci x.size, C.slc none 0 0, C.slc none 0 0]))) 4 (⟨1, 0, ([] : List Cells), ([] : List Cells)⟩ : Tslots_Slot) 1 hs rfl fun a w hs => ?_)
   refine ⟨fun h => absurd h (by decide), ?_⟩
   replace hs := hs.pick [] (L' := []) (by kernel_rfl)
   refine Vk.dDone (by kernel_rfl) ?_
   refine hK47 _ _ ?_
   clear hK47
   refine qse 1 [(6, vi 0)] hs fun a hs => ?_
   refine wp_ret ?_
   refine hKP9 _ _ ?_
   exact hj9 0 (mput ([] : List (Int × Tslots_Slot)) 4 (⟨1, 0, ([] : List Cells), ([] : List Cells)⟩ : Tslots_Slot)) hm _ _ (hs.go [6] [0, 1] 5 (by kernel_rfl) (by kernel_rfl) (by kernel_rfl))
 refine Vk.region ?_
 refine qpu 2 hs fun a hs => ?_
 refine Vk.step (Vk.call (some 13) 10 #[pp b_7, vi 4] hs (by kernel_rfl) (by kernel_rfl) (by kernel_rfl) ?_)
 refine Vk.enterI [(0, pp b_7), (1, vi 4)] Try.func10 rfl Try.ntmps10 (by kernel_rfl) (Nat.le_of_ble_eq_true (by kernel_rfl)) hs.own fun KR15 hKR15 hKP15 a hs => ?_
 have hj15 : ∀ (p_42 : Bool), visorlaw48_awake.j2 k p_42 = some r → ∀ (a : Act) (w : World), St 25 a w κ [(4, .bool p_42)] (pt b_7 (blk [C.map (some b_6)] 83) :: mpp b_6 (fun (x : Tslots_Slot) => .agg (vals [ci x.kind, ci x.size, C.slc none 0 0, C.slc none 0 0])) ([] : List (Int × Tslots_Slot)) :: pt b_11 (blk ([ci 1, ci 0, C.slc none (([] : List Cells).length) 0, C.slc none (([] : List Cells).length) 0]) 27) :: rowp none 0 53 24 eC ([] : List Cells) :: rowp none 0 51 3 eC ([] : List Cells) :: S) → KR15 a w := by
  intro p_42 hm a w hs
  unfold visorlaw48_awake.j2 at hm
  refine hKR15 _ _ ?_
  refine Vk.ret1 (P := Try.prog) (fn := Try.f10) (.bool p_42) hs rfl (by kernel_rfl) ⟨_, _, _, rfl, hs.own, fun a hs => ?_⟩
  refine qpu 2 hs fun a hs => ?_
  rcases Bool.eq_false_or_eq_true (!p_42) with hb | hb
  ·replace hm := bif_t hm hb
   replace hs := hs.known (t := 15) hb (by kernel_rfl)
   refine qpe 10 [(0, pp b_7), (1, vi 4), (5, pp b_11), (10, .bool true)] hs fun a hs => ?_
   exact hj14 true hm _ _ (hs.go [0, 1, 5, 10] [0, 1, 2, 3, 4] 5 (by kernel_rfl) (by kernel_rfl) (by kernel_rfl))
  ·replace hm := bif_f hm hb
   replace hs := hs.known (t := 15) hb (by kernel_rfl)
   refine qpu 1 hs fun a hs => ?_
   refine qld 2 (ci 1) hs rfl fun a hs => ?_
   refine qpe 8 [(0, pp b_7), (1, vi 4), (5, pp b_11), (10, .bool false)] hs fun a hs => ?_
   exact hj14 false hm _ _ (hs.go [0, 1, 5, 10] [0, 1, 2, 3, 4] 5 (by kernel_rfl) (by kernel_rfl) (by kernel_rfl))
 refine qse 1 [(0, pp b_7), (1, vi 4)] hs fun a hs => ?_
 refine Vk.seq fun K17 hK17 => ?_
 refine qsr fun K18 hK18 => ?_
 refine qpu 4 hs fun a hs => ?_
 obtain ⟨v_21, h_20, hm⟩ := bind_t hm
 refine qcl (slots_place.ok _ _ _ h_20 _ _ (pt b_11 (blk [ci 1, ci 0, C.slc none 0 0, C.slc none 0 0] 27) :: pt b_7 (blk [C.map (some b_6)] 83) :: mpp b_6 (fun (x : Tslots_Slot) => .agg (vals [ci x.kind, ci x.size, C.slc none 0 0, C.slc none 0 0])) ([] : List (Int × Tslots_Slot)) :: S) hs.own) hs fun w a hs => ?_
 refine qpk 2 [0, 1, 13] hs fun a hs => hK18 _ _ ?_
 clear hK18
 refine qcs (!v_21) hs (fun hb => ?_) fun hb => ?_
 ·replace hm := bif_t hm hb
  refine qse 1 [(4, .bool false)] hs fun a hs => ?_
  refine wp_ret ?_
  refine hKP15 _ _ ?_
  replace hs := hs.addRow none 53 24 eC
  replace hs := hs.addRow none 51 3 eC
  exact hj15 false hm _ _ (hs.go [4] [3, 4, 2, 1, 0] 5 (by kernel_rfl) (by kernel_rfl) (by kernel_rfl))
 ·replace hm := bif_f hm hb
  refine wp_skip ?_
  refine hK17 _ _ ?_
  clear hK17
  refine Vk.seq fun K23 hK23 => ?_
  have hj23 : ∀ (p_36 : Bool), visorlaw48_awake.j1 k p_36 = some r → ∀ (a : Act) (w : World), St 25 a w κ [(6, .bool p_36)] (pt b_7 (blk [C.map (some b_6)] 83) :: mpp b_6 (fun (x : Tslots_Slot) => .agg (vals [ci x.kind, ci x.size, C.slc none 0 0, C.slc none 0 0])) ([] : List (Int × Tslots_Slot)) :: pt b_11 (blk ([ci 1, ci 0, C.slc none (([] : List Cells).length) 0, C.slc none (([] : List Cells).length) 0]) 27) :: rowp none 0 53 24 eC ([] : List Cells) :: rowp none 0 51 3 eC ([] : List Cells) :: S) → K23 a w := by
   intro p_36 hm a w hs
   unfold visorlaw48_awake.j1 at hm
   refine hK23 _ _ ?_
   refine qse 3 [(4, .bool (!p_36))] hs fun a hs => ?_
   refine wp_ret ?_
   refine hKP15 _ _ ?_
   exact hj15 (!p_36) hm _ _ (hs.go [4] [0, 1, 2, 3, 4] 5 (by kernel_rfl) (by kernel_rfl) (by kernel_rfl))
  refine Vk.region ?_
  refine qpu 3 hs fun a hs => ?_
  refine qld 1 (C.map (some b_6)) hs rfl fun a hs => ?_
  refine qpu 1 hs fun a hs => ?_
  rcases Bool.eq_false_or_eq_true ((mget ([] : List (Int × Tslots_Slot)) 4).isSome) with hb | hb
  ·replace hm := bif_t hm hb
   obtain ⟨e_24, h_25, hm⟩ := bind_t hm
   refine qva (.tuple #[.agg (vals [ci e_24.kind, ci e_24.size, C.slc none 0 0, C.slc none 0 0]), .bool true]) (op := (.lookup 81 (.tmp 18) (.tmp 19) true)) hs (fun o ho => run_mgetS (et := 27) (ev := (fun (x : Tslots_Slot) => .agg (vals [ci x.kind, ci x.size, C.slc none 0 0, C.slc none 0 0]))) 2 h_25 rfl ho (by kernel_rfl) (by kernel_rfl) (by kernel_rfl) (by kernel_rfl) _ hs.own) fun a hs => ?_
   refine qpu 3 hs fun a hs => ?_
   refine qal 27 [ci 0, ci 0, C.slc none 0 0, C.slc none 0 0] 5 hs fun b_26 w a hs => ?_
   refine qsa 0 [ci e_24.kind, ci e_24.size, C.slc none 0 0, C.slc none 0 0] hs rfl fun a w hs => ?_
   refine qpe 1 [(6, .bool true)] hs fun a hs => ?_
   replace hs := hs.addRow none 53 24 eC
   replace hs := hs.addRow none 51 3 eC
   replace hs := hs.addRow none 53 24 eC
   replace hs := hs.addRow none 51 3 eC
   exact hj23 true hm _ _ (hs.go [6] [6, 7, 5, 1, 0] 8 (by kernel_rfl) (by kernel_rfl) (by kernel_rfl))
  ·replace hm := bif_f hm hb
   refine qva (.tuple #[.agg (vals [ci 0, ci 0, C.slc none 0 0, C.slc none 0 0]), .bool false]) (op := (.lookup 81 (.tmp 18) (.tmp 19) true)) hs (fun o ho => run_mgetN (et := 27) (ev := (fun (x : Tslots_Slot) => .agg (vals [ci x.kind, ci x.size, C.slc none 0 0, C.slc none 0 0]))) (z := .agg (vals [ci 0, ci 0, C.slc none 0 0, C.slc none 0 0])) 2 hb rfl ho (by kernel_rfl) (by kernel_rfl) (by kernel_rfl) (by kernel_rfl) _ hs.own) fun a hs => ?_
   refine qpu 3 hs fun a hs => ?_
   refine qal 27 [ci 0, ci 0, C.slc none 0 0, C.slc none 0 0] 5 hs fun b_27 w a hs => ?_
   refine qsa 0 [ci 0, ci 0, C.slc none 0 0, C.slc none 0 0] hs rfl fun a w hs => ?_
   refine qpe 1 [(6, .bool false)] hs fun a hs => ?_
   replace hs := hs.addRow none 53 24 eC
   replace hs := hs.addRow none 51 3 eC
   replace hs := hs.addRow none 53 24 eC
   replace hs := hs.addRow none 51 3 eC
   exact hj23 false hm _ _ (hs.go [6] [6, 7, 5, 1, 0] 8 (by kernel_rfl) (by kernel_rfl) (by kernel_rfl))

structure Tvisorlaw48_Act where
 kind : Int
 i : Int
 ofF : Int
 size : Int
 deriving Inhabited
def Tvisorlaw48_Act.cells (x : Tvisorlaw48_Act) : Cells := [C.int .i64 x.kind, C.int .i64 x.i, C.int .i64 x.ofF, C.int .i64 x.size]

def visorlaw48_SlotsPlay.j8 (k : Nat) (rec51 : (List (Int × Tslots_Slot)) → Cells → Int → Option (Sum (Bool) (Unit))) (q_54 : Int) (p_245 : List (Int × Tslots_Slot)) (p_246 : Cells) : Option (Sum (Bool) (Unit)) := (visorref48_S_Count.m k p_246).bind fun v_255 => (bif ((p_245.length : Nat) : Int) != v_255 then some (.inl false) else rec51 p_245 p_246 (IntKind.i64.wrap (q_54 + 1)))
def visorlaw48_SlotsPlay.j4 (k : Nat) (rec51 : (List (Int × Tslots_Slot)) → Cells → Int → Option (Sum (Bool) (Unit))) (q_53 : Cells) (q_54 : Int) (e_63 : Tvisorlaw48_Act) (p_114 : Int) (p_115 : List (Int × Tslots_Slot)) : Option (Sum (Bool) (Unit)) := (visorref48_S_Put.m k q_53 e_63.i e_63.ofF e_63.size).bind fun v_118 => (bif p_114 != v_118.1 then some (.inl false) else visorlaw48_SlotsPlay.j8 k (rec51) q_54 p_115 v_118.2)
def visorlaw48_SlotsPlay.j3 (k : Nat) (rec51 : (List (Int × Tslots_Slot)) → Cells → Int → Option (Sum (Bool) (Unit))) (q_52 : List (Int × Tslots_Slot)) (q_53 : Cells) (q_54 : Int) (e_63 : Tvisorlaw48_Act) (p_109 : Bool) : Option (Sum (Bool) (Unit)) := (bif p_109 then visorlaw48_SlotsPlay.j4 k (rec51) q_53 q_54 e_63 6 q_52 else visorlaw48_SlotsPlay.j4 k (rec51) q_53 q_54 e_63 0 (mput q_52 e_63.i (⟨e_63.ofF, e_63.size, ([] : List Cells), ([] : List Cells)⟩ : Tslots_Slot)))
def visorlaw48_SlotsPlay.j2 (k : Nat) (rec51 : (List (Int × Tslots_Slot)) → Cells → Int → Option (Sum (Bool) (Unit))) (q_52 : List (Int × Tslots_Slot)) (q_53 : Cells) (q_54 : Int) (e_63 : Tvisorlaw48_Act) (p_106 : Bool) : Option (Sum (Bool) (Unit)) := (bif !p_106 then visorlaw48_SlotsPlay.j3 k (rec51) q_52 q_53 q_54 e_63 true else (bif e_63.ofF != 1 then visorlaw48_SlotsPlay.j3 k (rec51) q_52 q_53 q_54 e_63 (e_63.ofF != 2) else visorlaw48_SlotsPlay.j3 k (rec51) q_52 q_53 q_54 e_63 false))
def visorlaw48_SlotsPlay.j1 (k : Nat) (rec51 : (List (Int × Tslots_Slot)) → Cells → Int → Option (Sum (Bool) (Unit))) (q_52 : List (Int × Tslots_Slot)) (q_53 : Cells) (q_54 : Int) (e_63 : Tvisorlaw48_Act) (p_100 : Bool) : Option (Sum (Bool) (Unit)) := visorlaw48_SlotsPlay.j2 k (rec51) q_52 q_53 q_54 e_63 (!p_100)
def visorlaw48_SlotsPlay.j6 (k : Nat) (rec51 : (List (Int × Tslots_Slot)) → Cells → Int → Option (Sum (Bool) (Unit))) (q_52 : List (Int × Tslots_Slot)) (q_53 : Cells) (q_54 : Int) (e_63 : Tvisorlaw48_Act) (p_162 : Tslots_Slot) (p_165 : Int) : Option (Sum (Bool) (Unit)) := (visorref48_S_Get.m k q_53 e_63.i e_63.ofF).bind fun v_170 => (bif (p_162.size != v_170.1) || (p_165 != v_170.2) then some (.inl false) else (bif p_165 == 0 then (bif p_162.kind != e_63.ofF then some (.inl false) else (visorref48_S_Count.m k q_53).bind fun v_266 => (bif ((q_52.length : Nat) : Int) != v_266 then some (.inl false) else rec51 q_52 q_53 (IntKind.i64.wrap (q_54 + 1)))) else (visorref48_S_Count.m k q_53).bind fun v_276 => (bif ((q_52.length : Nat) : Int) != v_276 then some (.inl false) else rec51 q_52 q_53 (IntKind.i64.wrap (q_54 + 1)))))
def visorlaw48_SlotsPlay.j5 (k : Nat) (rec51 : (List (Int × Tslots_Slot)) → Cells → Int → Option (Sum (Bool) (Unit))) (q_52 : List (Int × Tslots_Slot)) (q_53 : Cells) (q_54 : Int) (e_63 : Tvisorlaw48_Act) (p_148 : Tslots_Slot) (p_151 : Bool) : Option (Sum (Bool) (Unit)) := (bif (!p_151) || (p_148.kind != e_63.ofF) then visorlaw48_SlotsPlay.j6 k (rec51) q_52 q_53 q_54 e_63 (⟨0, 0, ([] : List Cells), ([] : List Cells)⟩ : Tslots_Slot) 7 else visorlaw48_SlotsPlay.j6 k (rec51) q_52 q_53 q_54 e_63 p_148 0)
def visorlaw48_SlotsPlay.j7 (k : Nat) (rec51 : (List (Int × Tslots_Slot)) → Cells → Int → Option (Sum (Bool) (Unit))) (q_53 : Cells) (q_54 : Int) (e_63 : Tvisorlaw48_Act) (p_211 : Int) (p_212 : List (Int × Tslots_Slot)) : Option (Sum (Bool) (Unit)) := (visorref48_S_Drop.m k q_53 e_63.i).bind fun v_215 => (bif p_211 != v_215.1 then some (.inl false) else visorlaw48_SlotsPlay.j8 k (rec51) q_54 p_212 v_215.2)
def visorlaw48_SlotsPlay.j2_2 (k : Nat) (rec51 : (List (Int × Tslots_Slot)) → Cells → Int → Option (Sum (Bool) (Unit))) (q_52 : List (Int × Tslots_Slot)) (q_53 : Cells) (q_54 : Int) (e_63 : Tvisorlaw48_Act) (p_207 : Bool) : Option (Sum (Bool) (Unit)) := (bif p_207 then visorlaw48_SlotsPlay.j7 k (rec51) q_53 q_54 e_63 7 q_52 else visorlaw48_SlotsPlay.j7 k (rec51) q_53 q_54 e_63 0 (mdel q_52 e_63.i))
def visorlaw48_SlotsPlay.j1_2 (k : Nat) (rec51 : (List (Int × Tslots_Slot)) → Cells → Int → Option (Sum (Bool) (Unit))) (q_52 : List (Int × Tslots_Slot)) (q_53 : Cells) (q_54 : Int) (e_63 : Tvisorlaw48_Act) (p_205 : Bool) : Option (Sum (Bool) (Unit)) := visorlaw48_SlotsPlay.j2_2 k (rec51) q_52 q_53 q_54 e_63 (!p_205)
def visorlaw48_SlotsPlay.j2_3 (k : Nat) (rec51 : (List (Int × Tslots_Slot)) → Cells → Int → Option (Sum (Bool) (Unit))) (q_52 : List (Int × Tslots_Slot)) (q_53 : Cells) (q_54 : Int) (e_63 : Tvisorlaw48_Act) (p_238 : Bool) : Option (Sum (Bool) (Unit)) := (bif decide (e_63.i ≥ 0) then (bif decide (e_63.i < 4) then (if 0 ≤ band .i64 e_63.i 3 ∧ band .i64 e_63.i 3 < 4 then (getI .i64 q_53 (0 + (band .i64 e_63.i 3).toNat * 2)).bind fun v_241 => (bif !(p_238 == (v_241 == 0)) then some (.inl false) else (visorref48_S_Count.m k q_53).bind fun v_286 => (bif ((q_52.length : Nat) : Int) != v_286 then some (.inl false) else rec51 q_52 q_53 (IntKind.i64.wrap (q_54 + 1)))) else none) else (bif !(p_238 == false) then some (.inl false) else (visorref48_S_Count.m k q_53).bind fun v_296 => (bif ((q_52.length : Nat) : Int) != v_296 then some (.inl false) else rec51 q_52 q_53 (IntKind.i64.wrap (q_54 + 1))))) else (bif !(p_238 == false) then some (.inl false) else visorlaw48_SlotsPlay.j8 k (rec51) q_54 q_52 q_53))
def visorlaw48_SlotsPlay.j1_3 (k : Nat) (rec51 : (List (Int × Tslots_Slot)) → Cells → Int → Option (Sum (Bool) (Unit))) (q_52 : List (Int × Tslots_Slot)) (q_53 : Cells) (q_54 : Int) (e_63 : Tvisorlaw48_Act) (p_236 : Bool) : Option (Sum (Bool) (Unit)) := visorlaw48_SlotsPlay.j2_3 k (rec51) q_52 q_53 q_54 e_63 (!p_236)
def visorlaw48_SlotsPlay.l1 (x0 : List Tvisorlaw48_Act) : Nat → (List (Int × Tslots_Slot)) → Cells → Int → Option (Sum (Bool) (Unit))
 | 0, _, _, _ => none
 | k + 1, q_52, q_53, q_54 => (bif (decide (q_54 < ((x0.length : Nat) : Int))) && (decide (q_54 < 100)) then (if 0 ≤ q_54 then (x0[q_54.toNat]?).bind fun e_63 => (bif e_63.kind == 0 then (slots_place.m k e_63.i).bind fun v_85 => (bif !v_85 then visorlaw48_SlotsPlay.j2 k (visorlaw48_SlotsPlay.l1 x0 k) q_52 q_53 q_54 e_63 false else (bif (mget q_52 e_63.i).isSome then ((mget q_52 e_63.i)).bind fun e_88 => visorlaw48_SlotsPlay.j1 k (visorlaw48_SlotsPlay.l1 x0 k) q_52 q_53 q_54 e_63 true else visorlaw48_SlotsPlay.j1 k (visorlaw48_SlotsPlay.l1 x0 k) q_52 q_53 q_54 e_63 false)) else (bif e_63.kind == 1 then (slots_place.m k e_63.i).bind fun v_130 => (bif !v_130 then visorlaw48_SlotsPlay.j6 k (visorlaw48_SlotsPlay.l1 x0 k) q_52 q_53 q_54 e_63 (⟨0, 0, ([] : List Cells), ([] : List Cells)⟩ : Tslots_Slot) 6 else (bif (mget q_52 e_63.i).isSome then ((mget q_52 e_63.i)).bind fun e_133 => visorlaw48_SlotsPlay.j5 k (visorlaw48_SlotsPlay.l1 x0 k) q_52 q_53 q_54 e_63 (⟨e_133.kind, e_133.size, ([] : List Cells), ([] : List Cells)⟩ : Tslots_Slot) true else visorlaw48_SlotsPlay.j5 k (visorlaw48_SlotsPlay.l1 x0 k) q_52 q_53 q_54 e_63 (⟨0, 0, ([] : List Cells), ([] : List Cells)⟩ : Tslots_Slot) false)) else (bif e_63.kind == 2 then (slots_place.m k e_63.i).bind fun v_185 => (bif !v_185 then visorlaw48_SlotsPlay.j7 k (visorlaw48_SlotsPlay.l1 x0 k) q_53 q_54 e_63 6 q_52 else (slots_place.m k e_63.i).bind fun v_194 => (bif !v_194 then visorlaw48_SlotsPlay.j2_2 k (visorlaw48_SlotsPlay.l1 x0 k) q_52 q_53 q_54 e_63 false else (bif (mget q_52 e_63.i).isSome then ((mget q_52 e_63.i)).bind fun e_197 => visorlaw48_SlotsPlay.j1_2 k (visorlaw48_SlotsPlay.l1 x0 k) q_52 q_53 q_54 e_63 true else visorlaw48_SlotsPlay.j1_2 k (visorlaw48_SlotsPlay.l1 x0 k) q_52 q_53 q_54 e_63 false))) else (slots_place.m k e_63.i).bind fun v_225 => (bif !v_225 then visorlaw48_SlotsPlay.j2_3 k (visorlaw48_SlotsPlay.l1 x0 k) q_52 q_53 q_54 e_63 false else (bif (mget q_52 e_63.i).isSome then ((mget q_52 e_63.i)).bind fun e_228 => visorlaw48_SlotsPlay.j1_3 k (visorlaw48_SlotsPlay.l1 x0 k) q_52 q_53 q_54 e_63 true else visorlaw48_SlotsPlay.j1_3 k (visorlaw48_SlotsPlay.l1 x0 k) q_52 q_53 q_54 e_63 false))))) else none) else some (.inr ()))
abbrev visorlaw48_SlotsPlay.R (κ : Ctx) (S : List HP) (x0 : List Tvisorlaw48_Act) (A_x0 : Option Addr) (c_x0 : Nat) (r : Bool) : Ending → World → Prop := fun e w' => e = .returned (.bool r) ∧ Ow κ w' (S)
def visorlaw48_SlotsPlay.m (k : Nat) (x0 : List Tvisorlaw48_Act) : Option Bool := (visorlaw48_SlotsPlay.l1 x0 k ([] : List (Int × Tslots_Slot)) [ci 0, ci 0, ci 0, ci 0, ci 0, ci 0, ci 0, ci 0] 0).bind fun x => match x with | .inl v => some v | .inr () => (visorlaw48_awake.m k).bind fun v_316 => some v_316

set_option maxRecDepth 100000 in
set_option maxHeartbeats 4000000 in
theorem visorlaw48_SlotsPlay.ok (k : Nat) (x0 : List Tvisorlaw48_Act) (r : Bool) (hm : visorlaw48_SlotsPlay.m k x0 = some r) (κ : Ctx) (w : World) (S : List HP) (A_x0 : Option Addr) (c_x0 : Nat) (hx_x0 : Sl κ [] A_x0 c_x0 4 Tvisorlaw48_Act.cells x0) (ho : Ow κ w (S)) :
  Calls Try.prog 3 #[.slice A_x0 x0.length c_x0] w (visorlaw48_SlotsPlay.R κ S x0 A_x0 c_x0 r) := by
 have ht_x0 := hx_x0
 generalize hRR : visorlaw48_SlotsPlay.R κ S x0 A_x0 c_x0 r = RR
 replace hx_x0 := Sl.top (S := S) hx_x0
 unfold visorlaw48_SlotsPlay.m at hm
 refine qen [(0, .slice A_x0 x0.length c_x0)] Try.func3 Try.ntmps3 ho fun a hs => ?_
 refine qsk 1 [0] hs fun a hs => ?_
 refine qsk 1 [0, 3] hs fun a hs => ?_
 refine qsr fun K3 hK3 => ?_
 refine qpu 1 hs fun a hs => ?_
 refine Vk.step (Vk.call (some 16) 7 #[.pointer none, vi 0, vi 1] hs (by kernel_rfl) (by kernel_rfl) (by kernel_rfl) ?_)
 refine Vk.enterI [(0, .pointer none), (1, vi 0), (2, vi 1)] Try.func7 rfl Try.ntmps7 (by kernel_rfl) (Nat.le_of_ble_eq_true (by kernel_rfl)) hs.own fun KR4 hKR4 hKP4 a hs => ?_
 refine qsr fun K5 hK5 => ?_
 refine qal 27 [ci 0, ci 0, C.slc none 0 0, C.slc none 0 0] 6 hs fun b_6 w a hs => ?_
 refine qpk 1 [0, 1, 2, 6] hs fun a hs => hK5 _ _ ?_
 clear hK5
 refine Vk.seq fun K7 hK7 => ?_
 refine wp_block ?_
 refine qsk 3 [0, 1, 2, 6, 10] hs fun a hs => ?_
 refine qct hs ?_
 refine qsr fun K9 hK9 => ?_
 refine qpu 1 hs fun a hs => ?_
 refine qsa 0 [ci 0, ci 0, C.slc none 0 0, C.slc none 0 0] hs rfl fun a w hs => ?_
 refine qpe 1 [(6, pp b_6), (7, vi 1)] hs fun a hs => hK9 _ _ ?_
 clear hK9
 refine wp_ret ?_
 refine hKP4 _ _ ?_
 refine hKR4 _ _ ?_
 refine Vk.retCT (P := Try.prog) (fn := Try.f7) [ci 0, ci 0, C.slc none 0 0, C.slc none 0 0] (vi 1) hs rfl (by kernel_rfl) (sz := 4) (by kernel_rfl) rfl (CellsAt.all 0 rfl) (by kernel_rfl) ⟨_, _, _, rfl, hs.own, fun a hs => ?_⟩
 refine qpu 3 hs fun a hs => ?_
 refine qal 27 [ci 0, ci 0, C.slc none 0 0, C.slc none 0 0] 4 hs fun b_10 w a hs => ?_
 refine qsa 0 [ci 0, ci 0, C.slc none 0 0, C.slc none 0 0] hs rfl fun a w hs => ?_
 refine qpk 1 [0, 3, 5] hs fun a hs => hK3 _ _ ?_
 clear hK3
 refine Vk.seq fun K11 hK11 => ?_
 refine qsr fun K12 hK12 => ?_
 refine qpu 5 hs fun a hs => ?_
 refine Vk.step (Vk.call (some 24) 8 #[.pointer none, vi 0, .agg (vals [ci 1, ci 0, C.slc none 0 0, C.slc none 0 0])] hs (by kernel_rfl) (by kernel_rfl) (by kernel_rfl) ?_)
 refine Vk.enterI [(0, .pointer none), (1, vi 0), (2, .agg (vals [ci 1, ci 0, C.slc none 0 0, C.slc none 0 0]))] Try.func8 rfl Try.ntmps8 (by kernel_rfl) (Nat.le_of_ble_eq_true (by kernel_rfl)) hs.own fun KR13 hKR13 hKP13 a hs => ?_
 refine qsr fun K14 hK14 => ?_
 refine qbx 2 27 [ci 1, ci 0, C.slc none 0 0, C.slc none 0 0] 5 hs fun b_15 w a hs => ?_
 refine qpk 1 [0, 1, 5] hs fun a hs => hK14 _ _ ?_
 clear hK14
 refine Vk.seq fun K16 hK16 => ?_
 refine wp_block ?_
 refine qsk 3 [0, 1, 5, 7] hs fun a hs => ?_
 refine qct hs ?_
 refine qse 1 [(6, vi 1)] hs fun a hs => ?_
 refine wp_ret ?_
 refine hKP13 _ _ ?_
 refine hKR13 _ _ ?_
 refine Vk.ret1 (P := Try.prog) (fn := Try.f8) (vi 1) hs rfl (by kernel_rfl) ⟨_, _, _, rfl, hs.own, fun a hs => ?_⟩
 refine qpu 4 hs fun a hs => ?_
 refine Vk.step (Vk.call (some 29) 9 #[.pointer none, vi 0] hs (by kernel_rfl) (by kernel_rfl) (by kernel_rfl) ?_)
 refine Vk.enterI [(0, .pointer none), (1, vi 0)] Try.func9 rfl Try.ntmps9 (by kernel_rfl) (Nat.le_of_ble_eq_true (by kernel_rfl)) hs.own fun KR19 hKR19 hKP19 a hs => ?_
 refine qsk 1 [0, 1] hs fun a hs => ?_
 refine Vk.seq fun K21 hK21 => ?_
 refine wp_block ?_
 refine qsk 3 [0, 1, 5] hs fun a hs => ?_
 refine qct hs ?_
 refine qse 1 [(4, vi 1)] hs fun a hs => ?_
 refine wp_ret ?_
 refine hKP19 _ _ ?_
 refine hKR19 _ _ ?_
 refine Vk.ret1 (P := Try.prog) (fn := Try.f9) (vi 1) hs rfl (by kernel_rfl) ⟨_, _, _, rfl, hs.own, fun a hs => ?_⟩
 refine qpu 4 hs fun a hs => ?_
 refine Vk.step (Vk.call (some 34) 10 #[.pointer none, vi 0] hs (by kernel_rfl) (by kernel_rfl) (by kernel_rfl) ?_)
 refine Vk.enterI [(0, .pointer none), (1, vi 0)] Try.func10 rfl Try.ntmps10 (by kernel_rfl) (Nat.le_of_ble_eq_true (by kernel_rfl)) hs.own fun KR24 hKR24 hKP24 a hs => ?_
 refine qsk 1 [0, 1] hs fun a hs => ?_
 refine Vk.seq fun K26 hK26 => ?_
 refine qsk 7 [0, 1, 13] hs fun a hs => ?_
 refine qct hs ?_
 refine qse 1 [(4, .bool false)] hs fun a hs => ?_
 refine wp_ret ?_
 refine hKP24 _ _ ?_
 refine hKR24 _ _ ?_
 refine Vk.ret1 (P := Try.prog) (fn := Try.f10) (.bool false) hs rfl (by kernel_rfl) ⟨_, _, _, rfl, hs.own, fun a hs => ?_⟩
 refine qpu 3 hs fun a hs => ?_
 refine Vk.step (Vk.call (some 38) 11 #[.pointer none] hs (by kernel_rfl) (by kernel_rfl) (by kernel_rfl) ?_)
 refine Vk.enterI [(0, .pointer none)] Try.func11 rfl Try.ntmps11 (by kernel_rfl) (Nat.le_of_ble_eq_true (by kernel_rfl)) hs.own fun KR29 hKR29 hKP29 a hs => ?_
 refine qse 1 [(0, .pointer none)] hs fun a hs => ?_
 refine Vk.seq fun K31 hK31 => ?_
 refine qsk 2 [0, 4] hs fun a hs => ?_
 refine qct hs ?_
 refine qse 1 [(2, vi 0)] hs fun a hs => ?_
 refine wp_ret ?_
 refine hKP29 _ _ ?_
 refine hKR29 _ _ ?_
 refine Vk.ret1 (P := Try.prog) (fn := Try.f11) (vi 0) hs rfl (by kernel_rfl) ⟨_, _, _, rfl, hs.own, fun a hs => ?_⟩
 refine qpk 2 [0, 40] hs fun a hs => hK12 _ _ ?_
 clear hK12
 refine qcf hs ?_
 refine wp_skip ?_
 refine hK11 _ _ ?_
 clear hK11
 refine qsr fun K34 hK34 => ?_
 refine Vk.step (Vk.call (some 41) 12 #[] hs (by kernel_rfl) (by kernel_rfl) (by kernel_rfl) ?_)
 refine Vk.enterI [] Try.func12 rfl Try.ntmps12 (by kernel_rfl) (Nat.le_of_ble_eq_true (by kernel_rfl)) hs.own fun KR35 hKR35 hKP35 a hs => ?_
 refine qse 1 [] hs fun a hs => ?_
 refine qsr fun K37 hK37 => ?_
 refine Vk.step (mppOp 1 81 (fun (x : Tslots_Slot) => .agg (vals [ci x.kind, ci x.size, C.slc none 0 0, C.slc none 0 0])) hs fun b_38 w a hs => ?_)
 refine qpu 1 hs fun a hs => ?_
 refine qbx 2 83 [C.map (some b_38)] 3 hs fun b_39 w a hs => ?_
 refine qpe 1 [(0, pp b_39)] hs fun a hs => hK37 _ _ ?_
 clear hK37
 refine wp_ret ?_
 refine hKP35 _ _ ?_
 refine hKR35 _ _ ?_
 refine Vk.ret1 (P := Try.prog) (fn := Try.f12) (pp b_39) hs rfl (by kernel_rfl) ⟨_, _, _, rfl, hs.own, fun a hs => ?_⟩
 refine qpu 1 hs fun a hs => ?_
 refine qbx 42 41 [ci 0, ci 0, ci 0, ci 0, ci 0, ci 0, ci 0, ci 0] 43 hs fun b_40 w a hs => ?_
 refine qpk 2 [0, 6, 7] hs fun a hs => hK34 _ _ ?_
 clear hK34
 refine Vk.seq fun K41 hK41 => ?_
 refine qsk 2 [0, 6, 7, 45] hs fun a hs => ?_
 refine qcf hs ?_
 refine wp_skip ?_
 refine hK41 _ _ ?_
 clear hK41
 refine Vk.seq fun K43 hK43 => ?_
 refine qsk 1 [0, 6, 7, 8] hs fun a hs => ?_
 refine wp_block ?_
 replace hs := hs.addRow none 53 24 eC
 replace hs := hs.addRow none 51 3 eC
 replace hs := hs.addRow none 53 24 eC
 replace hs := hs.addRow none 51 3 eC
 replace hs := hs.addRow none 53 24 eC
 replace hs := hs.addRow none 51 3 eC
 obtain ⟨r51, hl51, hm⟩ := bind_t hm
 have hx51 : r51 = Sum.inr () → ∀ (a : Act) (w : World), St 164 a w κ [] (S) → K43 a w := by
  intro he a w hs
  subst r51
  refine hK43 _ _ ?_
  clear hK43
  refine qsr fun K313 hK313 => ?_
  obtain ⟨v_316, h_315, hm⟩ := bind_t hm
  refine qcl (visorlaw48_awake.ok _ _ h_315 _ _ (S) hs.own) hs fun w a hs => ?_
  refine qpe 1 [(2, .bool v_316)] hs fun a hs => hK313 _ _ ?_
  clear hK313
  refine wp_ret ?_
  exact qr1 (.bool v_316) hs rfl hRR (by cases hm; exact ⟨rfl, hs.own⟩)
 have hret51 : ∀ v, r51 = Sum.inl v → v = r := by intro v he; subst r51; exact Option.some.inj hm
 refine Vk.loopBy (fun k (s : List (Int × Tslots_Slot) × Cells × Int) a w => visorlaw48_SlotsPlay.l1 x0 k s.1 s.2.1 s.2.2 = some r51 ∧ St 164 a w κ [(0, .slice A_x0 x0.length c_x0), (6, pp b_39), (7, pp b_40), (8, vi s.2.2)] (pt b_39 (blk [C.map (some b_38)] 83) :: mpp b_38 (fun (x : Tslots_Slot) => .agg (vals [ci x.kind, ci x.size, C.slc none 0 0, C.slc none 0 0])) s.1 :: pt b_40 (blk s.2.1 41) :: S)) k (([] : List (Int × Tslots_Slot)), [ci 0, ci 0, ci 0, ci 0, ci 0, ci 0, ci 0, ci 0], 0) ⟨hl51, hs.go [0, 6, 7, 8] [7, 8, 6] 12 (by kernel_rfl) (by kernel_rfl) (by kernel_rfl)⟩ (fun s a w h => by obtain ⟨h1, _⟩ := h; simp [visorlaw48_SlotsPlay.l1] at h1) (fun k KL51 ih s a w h => ?_)
 obtain ⟨q_52, q_53, q_54⟩ := s
 obtain ⟨hm, hs⟩ := h
 try dsimp only at hm hs
 rw [visorlaw48_SlotsPlay.l1] at hm
 refine Vk.seq fun K55 hK55 => ?_
 refine qsr fun K56 hK56 => ?_
 refine qpu 5 hs fun a hs => ?_
 refine qsc 50 3 hs fun a hs => ?_
 refine qpk 0 [0, 6, 7, 8, 53] hs fun a hs => hK56 _ _ ?_
 clear hK56
 refine qcs ((decide (q_54 < ((x0.length : Nat) : Int))) && (decide (q_54 < 100))) hs (fun hb => ?_) fun hb => ?_
 ·replace hm := bif_t hm hb
  refine wp_skip ?_
  refine hK55 _ _ ?_
  clear hK55
  refine Vk.seq fun K58 hK58 => ?_
  refine wp_block ?_
  refine qsr fun K59 hK59 => ?_
  refine qpu 2 hs fun a hs => ?_
  obtain ⟨h_60, hm⟩ := ite_t hm
  obtain ⟨e_63, h_61, hm⟩ := bind_t hm
  obtain ⟨b_64, o_65, hA_66, h_62⟩ := Sl.elem hx_x0 h_61
  refine qva (.pointer (some ⟨b_64, o_65 + q_54.toNat * 4, none⟩)) (op := (.indexAddr 22 (.tmp 56) (.tmp 57))) hs (fun o ho => run_idxSlc (k := .i64) ho (cap := c_x0) (len := x0.length) ((congrArg (fun A => Value.slice A (x0.length) (c_x0)) hA_66) ▸ (by kernel_rfl)) (by kernel_rfl) (by kernel_rfl) (idx_ok h_60 h_61) _) fun a hs => ?_
  refine qva (.agg (vals [ci e_63.kind, ci e_63.i, ci e_63.ofF, ci e_63.size])) (op := (.load 43 (.tmp 58))) hs (fun o ho => run_loadN (cs := [ci e_63.kind, ci e_63.i, ci e_63.ofF, ci e_63.size]) ho (by kernel_rfl) (by kernel_rfl) rfl h_62 _ hs.own.drop.drop.drop) fun a hs => ?_
  refine qal 43 [ci 0, ci 0, ci 0, ci 0] 9 hs fun b_67 w a hs => ?_
  refine qsa 0 [ci e_63.kind, ci e_63.i, ci e_63.ofF, ci e_63.size] hs rfl fun a w hs => ?_
  refine qpk 0 [0, 6, 7, 8, 9] hs fun a hs => hK59 _ _ ?_
  clear hK59
  refine Vk.seq fun K68 hK68 => ?_
  have hj257 : ∀ (p_245 : List (Int × Tslots_Slot)) (p_246 : Cells), visorlaw48_SlotsPlay.j8 k (visorlaw48_SlotsPlay.l1 x0 k) q_54 p_245 p_246 = some r51 → ∀ (a : Act) (w : World), St 164 a w κ [(0, .slice A_x0 x0.length c_x0), (6, pp b_39), (7, pp b_40), (8, vi q_54)] (pt b_39 (blk [C.map (some b_38)] 83) :: mpp b_38 (fun (x : Tslots_Slot) => .agg (vals [ci x.kind, ci x.size, C.slc none 0 0, C.slc none 0 0])) p_245 :: pt b_40 (blk p_246 41) :: S) → K68 a w := by
   intro p_245 p_246 hm a w hs
   unfold visorlaw48_SlotsPlay.j8 at hm
   refine hK68 _ _ ?_
   refine qsr fun K247 hK247 => ?_
   refine qpu 1 hs fun a hs => ?_
   refine Vk.step (Vk.call (some 159) 11 #[pp b_39] hs (by kernel_rfl) (by kernel_rfl) (by kernel_rfl) ?_)
   refine Vk.enterI [(0, pp b_39)] Try.func11 rfl Try.ntmps11 (by kernel_rfl) (Nat.le_of_ble_eq_true (by kernel_rfl)) hs.own fun KR248 hKR248 hKP248 a hs => ?_
   refine qse 1 [(0, pp b_39)] hs fun a hs => ?_
   refine Vk.seq fun K250 hK250 => ?_
   refine qsk 2 [0, 4] hs fun a hs => ?_
   refine qcf hs ?_
   refine wp_skip ?_
   refine hK250 _ _ ?_
   clear hK250
   refine qsr fun K252 hK252 => ?_
   refine qpu 3 hs fun a hs => ?_
   refine qld 0 (C.map (some b_38)) hs rfl fun a hs => ?_
   refine qva (vi ((p_245.length : Nat) : Int)) (op := (.call { callee := (.builtin .len), args := #[(.tmp 8)], argTypes := #[81] })) hs (fun o ho => run_mlen (et := 27) (ev := (fun (x : Tslots_Slot) => .agg (vals [ci x.kind, ci x.size, C.slc none 0 0, C.slc none 0 0]))) 1 rfl ho (by kernel_rfl) (by kernel_rfl) _ hs.own) fun a hs => ?_
   refine qpk 1 [2] hs fun a hs => hK252 _ _ ?_
   clear hK252
   refine wp_ret ?_
   refine hKP248 _ _ ?_
   refine hKR248 _ _ ?_
   refine Vk.ret1 (P := Try.prog) (fn := Try.f11) (vi ((p_245.length : Nat) : Int)) hs rfl (by kernel_rfl) ⟨_, _, _, rfl, hs.own, fun a hs => ?_⟩
   refine qpu 1 hs fun a hs => ?_
   obtain ⟨v_255, h_254, hm⟩ := bind_t hm
   refine qcl (visorref48_S_Count.ok _ _ _ h_254 _ _ _ b_40 hs.own.f2) hs fun w a hs => ?_
   refine qpk 1 [0, 6, 7, 8, 162] hs fun a hs => hK247 _ _ ?_
   clear hK247
   refine qcs (((p_245.length : Nat) : Int) != v_255) hs (fun hb => ?_) fun hb => ?_
   ·replace hm := bif_t hm hb
    refine qse 1 [(2, .bool false)] hs fun a hs => ?_
    refine wp_ret ?_
    exact Vk.ret1 (P := Try.prog) (fn := Try.f3) (R := RR) (.bool false) hs rfl (by kernel_rfl) (by obtain rfl := hret51 _ ((Option.some.inj hm).symm); subst hRR; exact ⟨rfl, hs.own.f2.drop.f1.drop.drop⟩)
   ·replace hm := bif_f hm hb
    refine wp_skip ?_
    refine hK58 _ _ ?_
    refine Vk.region ?_
    refine qpk 3 [0, 6, 7, 8] hs fun a hs => ?_
    refine ih (p_245, p_246, (IntKind.i64.wrap (q_54 + 1))) _ _ ⟨hm, hs.go [0, 6, 7, 8] [1, 2, 0] 3 (by kernel_rfl) (by kernel_rfl) (by kernel_rfl)⟩
  refine qsr fun K69 hK69 => ?_
  refine qpu 1 hs fun a hs => ?_
  refine qld 0 (ci e_63.kind) hs rfl fun a hs => ?_
  refine qpk 0 [0, 6, 7, 8, 9, 61] hs fun a hs => hK69 _ _ ?_
  clear hK69
  refine wp_block ?_
  refine qsk 2 [0, 6, 7, 8, 9, 61, 87] hs fun a hs => ?_
  refine qcs (e_63.kind == 0) hs (fun hb => ?_) fun hb => ?_
  ·replace hm := bif_t hm hb
   refine Vk.seq fun K71 hK71 => ?_
   obtain ⟨C_72, hC_72⟩ := qC hs.own.f2.drop
   refine qdr 16 κ C_72 hs fun w hs hqC_72 => ?_
   have hcl := qO hC_72 hs.own.f2.drop
   refine qdp (fuel := 10) [0, 1, 3, 5, 9, 10, 12, 14] hs hcl hqC_72 fun a hs => ?_
   refine qdl 2 0 (ci e_63.i) hs hcl hqC_72 hC_72 rfl fun a hs => ?_
   refine qdl 4 0 (ci e_63.ofF) hs hcl hqC_72 hC_72 rfl fun a hs => ?_
   refine qdl 6 0 (ci e_63.size) hs hcl hqC_72 hC_72 rfl fun a hs => ?_
   refine qdp (fuel := 6) [7] hs hcl hqC_72 fun a hs => ?_
   refine qdl 11 0 (ci e_63.i) hs hcl hqC_72 hC_72 rfl fun a hs => ?_
   refine qdl 13 0 (ci e_63.ofF) hs hcl hqC_72 hC_72 rfl fun a hs => ?_
   refine qdl 15 0 (ci e_63.size) hs hcl hqC_72 hC_72 rfl fun a hs => ?_
   refine Vk.dOnly (i := 8) (by kernel_rfl) (Vk.call (some 97) 8 #[pp b_39, vi e_63.i, .agg (vals [ci e_63.ofF, ci e_63.size, C.slc none 0 0, C.slc none 0 0])] hs (by kernel_rfl) (by kernel_rfl) (by kernel_rfl) ?_)
   refine Vk.enterI [(0, pp b_39), (1, vi e_63.i), (2, .agg (vals [ci e_63.ofF, ci e_63.size, C.slc none 0 0, C.slc none 0 0]))] Try.func8 rfl Try.ntmps8 (by kernel_rfl) (Nat.le_of_ble_eq_true (by kernel_rfl)) hs.own fun KR73 hKR73 hKP73 a hs => ?_
   have hj73 : ∀ (p_114 : Int) (p_115 : List (Int × Tslots_Slot)), visorlaw48_SlotsPlay.j4 k (visorlaw48_SlotsPlay.l1 x0 k) q_53 q_54 e_63 p_114 p_115 = some r51 → ∀ (a : Act) (w : World), St 31 a w κ [(6, vi p_114)] (pt b_39 (blk [C.map (some b_38)] 83) :: mpp b_38 (fun (x : Tslots_Slot) => .agg (vals [ci x.kind, ci x.size, C.slc none 0 0, C.slc none 0 0])) p_115 :: pt b_40 (blk q_53 41) :: pt b_67 (blk (Tvisorlaw48_Act.cells e_63) 43) :: S) → KR73 a w := by
    intro p_114 p_115 hm a w hs
    unfold visorlaw48_SlotsPlay.j4 at hm
    refine hKR73 _ _ ?_
    refine Vk.ret1 (P := Try.prog) (fn := Try.f8) (vi p_114) hs rfl (by kernel_rfl) ⟨_, _, _, rfl, hs.own, fun a hs => ?_⟩
    replace hcl := qO hC_72 hs.own.f1.drop.f2
    refine ⟨fun _ => hcl, ?_⟩
    obtain ⟨v_118, h_117, hm⟩ := bind_t hm
    refine qdc 16 (visorref48_S_Put.ok _ _ _ _ _ _ h_117 _ _ _ b_40 hs.own.f2) hs fun w a hs => ?_
    refine ⟨fun h => absurd h (by decide), ?_⟩
    refine Vk.dOnly (i := 17) (by kernel_rfl) (Vk.dPure1 [(106, .bool (p_114 != v_118.1))] hs (by kernel_rfl) fun a hs => ?_)
    refine ⟨fun h => absurd h (by decide), ?_⟩
    replace hs := hs.pick [0, 6, 7, 8, 106] (L' := [(0, .slice A_x0 x0.length c_x0), (6, pp b_39), (7, pp b_40), (8, vi q_54), (106, .bool (p_114 != v_118.1))]) (by kernel_rfl)
    refine Vk.dDone (by kernel_rfl) ?_
    refine hK71 _ _ ?_
    clear hK71
    refine qcs (p_114 != v_118.1) hs (fun hb => ?_) fun hb => ?_
    ·replace hm := bif_t hm hb
     refine qse 1 [(2, .bool false)] hs fun a hs => ?_
     refine wp_ret ?_
     exact Vk.ret1 (P := Try.prog) (fn := Try.f3) (R := RR) (.bool false) hs rfl (by kernel_rfl) (by obtain rfl := hret51 _ ((Option.some.inj hm).symm); subst hRR; exact ⟨rfl, (hs.own.too [] 4)⟩)
    ·replace hm := bif_f hm hb
     refine wp_skip ?_
     exact hj257 p_115 v_118.2 hm _ _ (hs.go [0, 6, 7, 8] [1, 2, 0] 4 (by kernel_rfl) (by kernel_rfl) (by kernel_rfl))
   refine qsr fun K74 hK74 => ?_
   refine qbx 2 27 [ci e_63.ofF, ci e_63.size, C.slc none 0 0, C.slc none 0 0] 5 hs fun b_75 w a hs => ?_
   refine qpk 1 [0, 1, 5] hs fun a hs => hK74 _ _ ?_
   clear hK74
   refine Vk.seq fun K76 hK76 => ?_
   refine wp_block ?_
   refine qsk 3 [0, 1, 5, 7] hs fun a hs => ?_
   refine qcf hs ?_
   refine Vk.seq fun K78 hK78 => ?_
   have hj78 : ∀ (p_109 : Bool), visorlaw48_SlotsPlay.j3 k (visorlaw48_SlotsPlay.l1 x0 k) q_52 q_53 q_54 e_63 p_109 = some r51 → ∀ (a : Act) (w : World), St 31 a w κ [(0, pp b_39), (1, vi e_63.i), (5, pp b_75), (10, .bool p_109)] (pt b_39 (blk [C.map (some b_38)] 83) :: mpp b_38 (fun (x : Tslots_Slot) => .agg (vals [ci x.kind, ci x.size, C.slc none 0 0, C.slc none 0 0])) q_52 :: pt b_75 (blk ([ci e_63.ofF, ci e_63.size, C.slc none (([] : List Cells).length) 0, C.slc none (([] : List Cells).length) 0]) 27) :: rowp none 0 53 24 eC ([] : List Cells) :: rowp none 0 51 3 eC ([] : List Cells) :: pt b_40 (blk q_53 41) :: pt b_67 (blk (Tvisorlaw48_Act.cells e_63) 43) :: S) → K78 a w := by
    intro p_109 hm a w hs
    unfold visorlaw48_SlotsPlay.j3 at hm
    refine hK78 _ _ ?_
    refine qcs (p_109) hs (fun hb => ?_) fun hb => ?_
    ·replace hm := bif_t hm hb
     refine qse 1 [(6, vi 6)] hs fun a hs => ?_
     refine wp_ret ?_
     refine hKP73 _ _ ?_
     exact hj73 6 q_52 hm _ _ (hs.go [6] [0, 1, 5, 6] 7 (by kernel_rfl) (by kernel_rfl) (by kernel_rfl))
    ·replace hm := bif_f hm hb
     refine wp_skip ?_
     refine hK76 _ _ ?_
     clear hK76
     refine Vk.seq fun K111 hK111 => ?_
     obtain ⟨C_112, hC_112⟩ := qC hs.own
     refine qdr 6 κ C_112 hs fun w hs hqC_112 => ?_
     have hcl := qO hC_112 hs.own
     refine qdp (fuel := 3) [0, 1, 2, 4] hs hcl hqC_112 fun a hs => ?_
     refine qdl 3 0 (C.map (some b_38)) hs hcl hqC_112 hC_112 rfl fun a hs => ?_
     refine qdn 5 2 ([ci e_63.ofF, ci e_63.size, C.slc none (([] : List Cells).length) 0, C.slc none (([] : List Cells).length) 0]) hs hcl hqC_112 hC_112 rfl fun a hs => ?_
     refine Vk.dOnly (i := 6) (by kernel_rfl) (mputOp (t := 81) (et := 27) (xm := (.tmp 28)) (xk := (.tmp 29)) (xv := (.tmp 30)) (ev := (fun (x : Tslots_Slot) => .agg (vals [ci x.kind, ci x.size, C.slc none 0 0, C.slc none 0 0]))) e_63.i (⟨e_63.ofF, e_63.size, ([] : List Cells), ([] : List Cells)⟩ : Tslots_Slot) 1 hs rfl fun a w hs => ?_)
     refine ⟨fun h => absurd h (by decide), ?_⟩
     replace hs := hs.pick [] (L' := []) (by kernel_rfl)
     refine Vk.dDone (by kernel_rfl) ?_
     refine hK111 _ _ ?_
     clear hK111
     refine qse 1 [(6, vi 0)] hs fun a hs => ?_
     refine wp_ret ?_
     refine hKP73 _ _ ?_
     exact hj73 0 (mput q_52 e_63.i (⟨e_63.ofF, e_63.size, ([] : List Cells), ([] : List Cells)⟩ : Tslots_Slot)) hm _ _ (hs.go [6] [0, 1, 5, 6] 7 (by kernel_rfl) (by kernel_rfl) (by kernel_rfl))
   refine Vk.region ?_
   refine qpu 2 hs fun a hs => ?_
   refine Vk.step (Vk.call (some 13) 10 #[pp b_39, vi e_63.i] hs (by kernel_rfl) (by kernel_rfl) (by kernel_rfl) ?_)
   refine Vk.enterI [(0, pp b_39), (1, vi e_63.i)] Try.func10 rfl Try.ntmps10 (by kernel_rfl) (Nat.le_of_ble_eq_true (by kernel_rfl)) hs.own fun KR79 hKR79 hKP79 a hs => ?_
   have hj79 : ∀ (p_106 : Bool), visorlaw48_SlotsPlay.j2 k (visorlaw48_SlotsPlay.l1 x0 k) q_52 q_53 q_54 e_63 p_106 = some r51 → ∀ (a : Act) (w : World), St 25 a w κ [(4, .bool p_106)] (pt b_39 (blk [C.map (some b_38)] 83) :: mpp b_38 (fun (x : Tslots_Slot) => .agg (vals [ci x.kind, ci x.size, C.slc none 0 0, C.slc none 0 0])) q_52 :: pt b_40 (blk q_53 41) :: pt b_67 (blk (Tvisorlaw48_Act.cells e_63) 43) :: pt b_75 (blk ([ci e_63.ofF, ci e_63.size, C.slc none (([] : List Cells).length) 0, C.slc none (([] : List Cells).length) 0]) 27) :: rowp none 0 53 24 eC ([] : List Cells) :: rowp none 0 51 3 eC ([] : List Cells) :: S) → KR79 a w := by
    intro p_106 hm a w hs
    unfold visorlaw48_SlotsPlay.j2 at hm
    refine hKR79 _ _ ?_
    refine Vk.ret1 (P := Try.prog) (fn := Try.f10) (.bool p_106) hs rfl (by kernel_rfl) ⟨_, _, _, rfl, hs.own, fun a hs => ?_⟩
    refine qpu 2 hs fun a hs => ?_
    rcases Bool.eq_false_or_eq_true (!p_106) with hb | hb
    ·replace hm := bif_t hm hb
     replace hs := hs.known (t := 15) hb (by kernel_rfl)
     refine qpe 10 [(0, pp b_39), (1, vi e_63.i), (5, pp b_75), (10, .bool true)] hs fun a hs => ?_
     exact hj78 true hm _ _ (hs.go [0, 1, 5, 10] [0, 1, 4, 5, 6, 2, 3] 7 (by kernel_rfl) (by kernel_rfl) (by kernel_rfl))
    ·replace hm := bif_f hm hb
     replace hs := hs.known (t := 15) hb (by kernel_rfl)
     refine qpu 1 hs fun a hs => ?_
     refine qld 4 (ci e_63.ofF) hs rfl fun a hs => ?_
     refine qpu 2 hs fun a hs => ?_
     rcases Bool.eq_false_or_eq_true (e_63.ofF != 1) with hb | hb
     ·replace hm := bif_t hm hb
      replace hs := hs.known (t := 19) hb (by kernel_rfl)
      refine qpu 1 hs fun a hs => ?_
      refine qld 4 (ci e_63.ofF) hs rfl fun a hs => ?_
      refine qpe 4 [(0, pp b_39), (1, vi e_63.i), (5, pp b_75), (10, .bool (e_63.ofF != 2))] hs fun a hs => ?_
      exact hj78 (e_63.ofF != 2) hm _ _ (hs.go [0, 1, 5, 10] [0, 1, 4, 5, 6, 2, 3] 7 (by kernel_rfl) (by kernel_rfl) (by kernel_rfl))
     ·replace hm := bif_f hm hb
      replace hs := hs.known (t := 19) hb (by kernel_rfl)
      refine qpe 6 [(0, pp b_39), (1, vi e_63.i), (5, pp b_75), (10, .bool false)] hs fun a hs => ?_
      exact hj78 false hm _ _ (hs.go [0, 1, 5, 10] [0, 1, 4, 5, 6, 2, 3] 7 (by kernel_rfl) (by kernel_rfl) (by kernel_rfl))
   refine qsk 1 [0, 1] hs fun a hs => ?_
   refine Vk.seq fun K81 hK81 => ?_
   refine qsr fun K82 hK82 => ?_
   refine qpu 4 hs fun a hs => ?_
   obtain ⟨v_85, h_84, hm⟩ := bind_t hm
   refine qcl (slots_place.ok _ _ _ h_84 _ _ (pt b_75 (blk [ci e_63.ofF, ci e_63.size, C.slc none 0 0, C.slc none 0 0] 27) :: pt b_67 (blk (Tvisorlaw48_Act.cells e_63) 43) :: pt b_39 (blk [C.map (some b_38)] 83) :: mpp b_38 (fun (x : Tslots_Slot) => .agg (vals [ci x.kind, ci x.size, C.slc none 0 0, C.slc none 0 0])) q_52 :: pt b_40 (blk q_53 41) :: S) hs.own) hs fun w a hs => ?_
   refine qpk 2 [0, 1, 13] hs fun a hs => hK82 _ _ ?_
   clear hK82
   refine qcs (!v_85) hs (fun hb => ?_) fun hb => ?_
   ·replace hm := bif_t hm hb
    refine qse 1 [(4, .bool false)] hs fun a hs => ?_
    refine wp_ret ?_
    refine hKP79 _ _ ?_
    replace hs := hs.addRow none 53 24 eC
    replace hs := hs.addRow none 51 3 eC
    exact hj79 false hm _ _ (hs.go [4] [4, 5, 6, 3, 2, 1, 0] 7 (by kernel_rfl) (by kernel_rfl) (by kernel_rfl))
   ·replace hm := bif_f hm hb
    refine wp_skip ?_
    refine hK81 _ _ ?_
    clear hK81
    refine Vk.seq fun K87 hK87 => ?_
    have hj87 : ∀ (p_100 : Bool), visorlaw48_SlotsPlay.j1 k (visorlaw48_SlotsPlay.l1 x0 k) q_52 q_53 q_54 e_63 p_100 = some r51 → ∀ (a : Act) (w : World), St 25 a w κ [(6, .bool p_100)] (pt b_39 (blk [C.map (some b_38)] 83) :: mpp b_38 (fun (x : Tslots_Slot) => .agg (vals [ci x.kind, ci x.size, C.slc none 0 0, C.slc none 0 0])) q_52 :: pt b_40 (blk q_53 41) :: pt b_67 (blk (Tvisorlaw48_Act.cells e_63) 43) :: pt b_75 (blk ([ci e_63.ofF, ci e_63.size, C.slc none (([] : List Cells).length) 0, C.slc none (([] : List Cells).length) 0]) 27) :: rowp none 0 53 24 eC ([] : List Cells) :: rowp none 0 51 3 eC ([] : List Cells) :: S) → K87 a w := by
     intro p_100 hm a w hs
     unfold visorlaw48_SlotsPlay.j1 at hm
     refine hK87 _ _ ?_
     refine qse 3 [(4, .bool (!p_100))] hs fun a hs => ?_
     refine wp_ret ?_
     refine hKP79 _ _ ?_
     exact hj79 (!p_100) hm _ _ (hs.go [4] [0, 1, 2, 3, 4, 5, 6] 7 (by kernel_rfl) (by kernel_rfl) (by kernel_rfl))
    refine Vk.region ?_
    refine qpu 3 hs fun a hs => ?_
    refine qld 2 (C.map (some b_38)) hs rfl fun a hs => ?_
    refine qpu 1 hs fun a hs => ?_
    rcases Bool.eq_false_or_eq_true ((mget q_52 e_63.i).isSome) with hb | hb
    ·replace hm := bif_t hm hb
     obtain ⟨e_88, h_89, hm⟩ := bind_t hm
     refine qva (.tuple #[.agg (vals [ci e_88.kind, ci e_88.size, C.slc none 0 0, C.slc none 0 0]), .bool true]) (op := (.lookup 81 (.tmp 18) (.tmp 19) true)) hs (fun o ho => run_mgetS (et := 27) (ev := (fun (x : Tslots_Slot) => .agg (vals [ci x.kind, ci x.size, C.slc none 0 0, C.slc none 0 0]))) 3 h_89 rfl ho (by kernel_rfl) (by kernel_rfl) (by kernel_rfl) (by kernel_rfl) _ hs.own) fun a hs => ?_
     refine qpu 3 hs fun a hs => ?_
     refine qal 27 [ci 0, ci 0, C.slc none 0 0, C.slc none 0 0] 5 hs fun b_90 w a hs => ?_
     refine qsa 0 [ci e_88.kind, ci e_88.size, C.slc none 0 0, C.slc none 0 0] hs rfl fun a w hs => ?_
     refine qpe 1 [(6, .bool true)] hs fun a hs => ?_
     replace hs := hs.addRow none 53 24 eC
     replace hs := hs.addRow none 51 3 eC
     replace hs := hs.addRow none 53 24 eC
     replace hs := hs.addRow none 51 3 eC
     exact hj87 true hm _ _ (hs.go [6] [7, 8, 9, 6, 5, 1, 0] 10 (by kernel_rfl) (by kernel_rfl) (by kernel_rfl))
    ·replace hm := bif_f hm hb
     refine qva (.tuple #[.agg (vals [ci 0, ci 0, C.slc none 0 0, C.slc none 0 0]), .bool false]) (op := (.lookup 81 (.tmp 18) (.tmp 19) true)) hs (fun o ho => run_mgetN (et := 27) (ev := (fun (x : Tslots_Slot) => .agg (vals [ci x.kind, ci x.size, C.slc none 0 0, C.slc none 0 0]))) (z := .agg (vals [ci 0, ci 0, C.slc none 0 0, C.slc none 0 0])) 3 hb rfl ho (by kernel_rfl) (by kernel_rfl) (by kernel_rfl) (by kernel_rfl) _ hs.own) fun a hs => ?_
     refine qpu 3 hs fun a hs => ?_
     refine qal 27 [ci 0, ci 0, C.slc none 0 0, C.slc none 0 0] 5 hs fun b_91 w a hs => ?_
     refine qsa 0 [ci 0, ci 0, C.slc none 0 0, C.slc none 0 0] hs rfl fun a w hs => ?_
     refine qpe 1 [(6, .bool false)] hs fun a hs => ?_
     replace hs := hs.addRow none 53 24 eC
     replace hs := hs.addRow none 51 3 eC
     replace hs := hs.addRow none 53 24 eC
     replace hs := hs.addRow none 51 3 eC
     exact hj87 false hm _ _ (hs.go [6] [7, 8, 9, 6, 5, 1, 0] 10 (by kernel_rfl) (by kernel_rfl) (by kernel_rfl))
  ·replace hm := bif_f hm hb
   refine qsk 2 [0, 6, 7, 8, 9, 61, 107] hs fun a hs => ?_
   refine qcs (e_63.kind == 1) hs (fun hb => ?_) fun hb => ?_
   ·replace hm := bif_t hm hb
    refine qsr fun K121 hK121 => ?_
    refine qpu 2 hs fun a hs => ?_
    refine qld 0 (ci e_63.i) hs rfl fun a hs => ?_
    refine qpu 1 hs fun a hs => ?_
    refine qld 0 (ci e_63.ofF) hs rfl fun a hs => ?_
    refine Vk.step (Vk.call (some 115) 7 #[pp b_39, vi e_63.i, vi e_63.ofF] hs (by kernel_rfl) (by kernel_rfl) (by kernel_rfl) ?_)
    refine Vk.enterI [(0, pp b_39), (1, vi e_63.i), (2, vi e_63.ofF)] Try.func7 rfl Try.ntmps7 (by kernel_rfl) (Nat.le_of_ble_eq_true (by kernel_rfl)) hs.own fun KR122 hKR122 hKP122 a hs => ?_
    have hj122 : ∀ (p_162 : Tslots_Slot) (p_165 : Int), visorlaw48_SlotsPlay.j6 k (visorlaw48_SlotsPlay.l1 x0 k) q_52 q_53 q_54 e_63 p_162 p_165 = some r51 → ∀ (b_161 : Nat) (a : Act) (w : World), St 38 a w κ [(6, pp b_161), (7, vi p_165)] (pt b_161 (blk (Tslots_Slot.obj p_162 none 0 none 0) 27) :: rowp none 0 53 24 eC p_162.keys :: rowp none 0 51 3 eC p_162.words :: pt b_39 (blk [C.map (some b_38)] 83) :: mpp b_38 (fun (x : Tslots_Slot) => .agg (vals [ci x.kind, ci x.size, C.slc none 0 0, C.slc none 0 0])) q_52 :: pt b_40 (blk q_53 41) :: pt b_67 (blk (Tvisorlaw48_Act.cells e_63) 43) :: S) → KR122 a w := by
     intro p_162 p_165 hm b_161 a w hs
     unfold visorlaw48_SlotsPlay.j6 at hm
     refine hKR122 _ _ ?_
     refine Vk.retCT (P := Try.prog) (fn := Try.f7) [ci p_162.kind, ci p_162.size, C.slc none p_162.keys.length 0, C.slc none p_162.words.length 0] (vi p_165) hs rfl (by kernel_rfl) (sz := 4) (by kernel_rfl) rfl (CellsAt.all 0 rfl) (by kernel_rfl) ⟨_, _, _, rfl, hs.own, fun a hs => ?_⟩
     refine qpu 3 hs fun a hs => ?_
     refine qal 27 [ci 0, ci 0, C.slc none 0 0, C.slc none 0 0] 10 hs fun b_166 w a hs => ?_
     refine qsa 0 [ci p_162.kind, ci p_162.size, C.slc none p_162.keys.length 0, C.slc none p_162.words.length 0] hs rfl fun a w hs => ?_
     refine qpk 1 [0, 6, 7, 8, 9, 10, 11] hs fun a hs => hK121 _ _ ?_
     clear hK121
     refine qsr fun K167 hK167 => ?_
     refine qpu 2 hs fun a hs => ?_
     refine qld 7 (ci e_63.i) hs rfl fun a hs => ?_
     refine qpu 1 hs fun a hs => ?_
     refine qld 7 (ci e_63.ofF) hs rfl fun a hs => ?_
     obtain ⟨v_170, h_169, hm⟩ := bind_t hm
     refine qcl (visorref48_S_Get.ok _ _ _ _ _ h_169 _ _ _ b_40 hs.own.f6) hs fun w a hs => ?_
     refine qpk 5 [0, 6, 7, 8, 9, 10, 11, 12, 13] hs fun a hs => hK167 _ _ ?_
     clear hK167
     refine qsr fun K171 hK171 => ?_
     refine qpu 1 hs fun a hs => ?_
     refine qld 1 (ci p_162.size) hs rfl fun a hs => ?_
     refine qpu 3 hs fun a hs => ?_
     refine qsc 131 4 hs fun a hs => ?_
     refine qpu 1 hs fun a hs => ?_
     rcases Bool.eq_false_or_eq_true ((p_162.size != v_170.1) || (p_165 != v_170.2)) with hb | hb
     ·replace hm := bif_t hm hb
      replace hs := hs.known (t := 136) hb (by kernel_rfl)
      refine qpk 10 [0, 6, 7, 8, 146] hs fun a hs => hK171 _ _ ?_
      refine qct hs ?_
      refine qse 1 [(2, .bool false)] hs fun a hs => ?_
      refine wp_ret ?_
      exact Vk.ret1 (P := Try.prog) (fn := Try.f3) (R := RR) (.bool false) hs rfl (by kernel_rfl) (by obtain rfl := hret51 _ ((Option.some.inj hm).symm); subst hRR; exact ⟨rfl, (hs.own.too [] 8)⟩)
     ·replace hm := bif_f hm hb
      replace hs := hs.known (t := 136) hb (by kernel_rfl)
      refine qpu 3 hs fun a hs => ?_
      rcases Bool.eq_false_or_eq_true (p_165 == 0) with hb | hb
      ·replace hm := bif_t hm hb
       replace hs := hs.known (t := 139) hb (by kernel_rfl)
       refine qpu 1 hs fun a hs => ?_
       refine qld 1 (ci p_162.kind) hs rfl fun a hs => ?_
       refine qpu 1 hs fun a hs => ?_
       refine qld 7 (ci e_63.ofF) hs rfl fun a hs => ?_
       refine qpk 3 [0, 6, 7, 8, 137, 138, 139, 140, 141, 142, 143, 144, 145, 146] hs fun a hs => hK171 _ _ ?_
       refine qcs (p_162.kind != e_63.ofF) hs (fun hb => ?_) fun hb => ?_
       ·replace hm := bif_t hm hb
        refine qse 1 [(2, .bool false)] hs fun a hs => ?_
        refine wp_ret ?_
        exact Vk.ret1 (P := Try.prog) (fn := Try.f3) (R := RR) (.bool false) hs rfl (by kernel_rfl) (by obtain rfl := hret51 _ ((Option.some.inj hm).symm); subst hRR; exact ⟨rfl, (hs.own.too [] 8)⟩)
       ·replace hm := bif_f hm hb
        refine wp_skip ?_
        refine hK68 _ _ ?_
        refine qsr fun K258 hK258 => ?_
        refine qpu 1 hs fun a hs => ?_
        refine Vk.step (Vk.call (some 159) 11 #[pp b_39] hs (by kernel_rfl) (by kernel_rfl) (by kernel_rfl) ?_)
        refine Vk.enterI [(0, pp b_39)] Try.func11 rfl Try.ntmps11 (by kernel_rfl) (Nat.le_of_ble_eq_true (by kernel_rfl)) hs.own fun KR259 hKR259 hKP259 a hs => ?_
        refine qse 1 [(0, pp b_39)] hs fun a hs => ?_
        refine Vk.seq fun K261 hK261 => ?_
        refine qsk 2 [0, 4] hs fun a hs => ?_
        refine qcf hs ?_
        refine wp_skip ?_
        refine hK261 _ _ ?_
        clear hK261
        refine qsr fun K263 hK263 => ?_
        refine qpu 3 hs fun a hs => ?_
        refine qld 5 (C.map (some b_38)) hs rfl fun a hs => ?_
        refine qva (vi ((q_52.length : Nat) : Int)) (op := (.call { callee := (.builtin .len), args := #[(.tmp 8)], argTypes := #[81] })) hs (fun o ho => run_mlen (et := 27) (ev := (fun (x : Tslots_Slot) => .agg (vals [ci x.kind, ci x.size, C.slc none 0 0, C.slc none 0 0]))) 6 rfl ho (by kernel_rfl) (by kernel_rfl) _ hs.own) fun a hs => ?_
        refine qpk 1 [2] hs fun a hs => hK263 _ _ ?_
        clear hK263
        refine wp_ret ?_
        refine hKP259 _ _ ?_
        refine hKR259 _ _ ?_
        refine Vk.ret1 (P := Try.prog) (fn := Try.f11) (vi ((q_52.length : Nat) : Int)) hs rfl (by kernel_rfl) ⟨_, _, _, rfl, hs.own, fun a hs => ?_⟩
        refine qpu 1 hs fun a hs => ?_
        obtain ⟨v_266, h_265, hm⟩ := bind_t hm
        refine qcl (visorref48_S_Count.ok _ _ _ h_265 _ _ _ b_40 hs.own) hs fun w a hs => ?_
        refine qpk 1 [0, 6, 7, 8, 137, 138, 139, 140, 141, 142, 143, 144, 145, 162] hs fun a hs => hK258 _ _ ?_
        clear hK258
        refine qcs (((q_52.length : Nat) : Int) != v_266) hs (fun hb => ?_) fun hb => ?_
        ·replace hm := bif_t hm hb
         refine qse 1 [(2, .bool false)] hs fun a hs => ?_
         refine wp_ret ?_
         exact Vk.ret1 (P := Try.prog) (fn := Try.f3) (R := RR) (.bool false) hs rfl (by kernel_rfl) (by obtain rfl := hret51 _ ((Option.some.inj hm).symm); subst hRR; exact ⟨rfl, (hs.own.too [] 8)⟩)
        ·replace hm := bif_f hm hb
         refine wp_skip ?_
         refine hK58 _ _ ?_
         refine Vk.region ?_
         refine qpk 3 [0, 6, 7, 8, 137, 138, 139, 140, 141, 142, 143, 144, 145] hs fun a hs => ?_
         refine ih (q_52, q_53, (IntKind.i64.wrap (q_54 + 1))) _ _ ⟨hm, hs.go [0, 6, 7, 8] [5, 6, 0] 8 (by kernel_rfl) (by kernel_rfl) (by kernel_rfl)⟩
      ·replace hm := bif_f hm hb
       replace hs := hs.known (t := 139) hb (by kernel_rfl)
       refine qpk 7 [0, 6, 7, 8, 137, 138, 139, 145, 146] hs fun a hs => hK171 _ _ ?_
       refine qcf hs ?_
       refine wp_skip ?_
       refine hK68 _ _ ?_
       refine qsr fun K268 hK268 => ?_
       refine qpu 1 hs fun a hs => ?_
       refine Vk.step (Vk.call (some 159) 11 #[pp b_39] hs (by kernel_rfl) (by kernel_rfl) (by kernel_rfl) ?_)
       refine Vk.enterI [(0, pp b_39)] Try.func11 rfl Try.ntmps11 (by kernel_rfl) (Nat.le_of_ble_eq_true (by kernel_rfl)) hs.own fun KR269 hKR269 hKP269 a hs => ?_
       refine qse 1 [(0, pp b_39)] hs fun a hs => ?_
       refine Vk.seq fun K271 hK271 => ?_
       refine qsk 2 [0, 4] hs fun a hs => ?_
       refine qcf hs ?_
       refine wp_skip ?_
       refine hK271 _ _ ?_
       clear hK271
       refine qsr fun K273 hK273 => ?_
       refine qpu 3 hs fun a hs => ?_
       refine qld 5 (C.map (some b_38)) hs rfl fun a hs => ?_
       refine qva (vi ((q_52.length : Nat) : Int)) (op := (.call { callee := (.builtin .len), args := #[(.tmp 8)], argTypes := #[81] })) hs (fun o ho => run_mlen (et := 27) (ev := (fun (x : Tslots_Slot) => .agg (vals [ci x.kind, ci x.size, C.slc none 0 0, C.slc none 0 0]))) 6 rfl ho (by kernel_rfl) (by kernel_rfl) _ hs.own) fun a hs => ?_
       refine qpk 1 [2] hs fun a hs => hK273 _ _ ?_
       clear hK273
       refine wp_ret ?_
       refine hKP269 _ _ ?_
       refine hKR269 _ _ ?_
       refine Vk.ret1 (P := Try.prog) (fn := Try.f11) (vi ((q_52.length : Nat) : Int)) hs rfl (by kernel_rfl) ⟨_, _, _, rfl, hs.own, fun a hs => ?_⟩
       refine qpu 1 hs fun a hs => ?_
       obtain ⟨v_276, h_275, hm⟩ := bind_t hm
       refine qcl (visorref48_S_Count.ok _ _ _ h_275 _ _ _ b_40 hs.own) hs fun w a hs => ?_
       refine qpk 1 [0, 6, 7, 8, 137, 138, 139, 145, 162] hs fun a hs => hK268 _ _ ?_
       clear hK268
       refine qcs (((q_52.length : Nat) : Int) != v_276) hs (fun hb => ?_) fun hb => ?_
       ·replace hm := bif_t hm hb
        refine qse 1 [(2, .bool false)] hs fun a hs => ?_
        refine wp_ret ?_
        exact Vk.ret1 (P := Try.prog) (fn := Try.f3) (R := RR) (.bool false) hs rfl (by kernel_rfl) (by obtain rfl := hret51 _ ((Option.some.inj hm).symm); subst hRR; exact ⟨rfl, (hs.own.too [] 8)⟩)
       ·replace hm := bif_f hm hb
        refine wp_skip ?_
        refine hK58 _ _ ?_
        refine Vk.region ?_
        refine qpk 3 [0, 6, 7, 8, 137, 138, 139, 145] hs fun a hs => ?_
        refine ih (q_52, q_53, (IntKind.i64.wrap (q_54 + 1))) _ _ ⟨hm, hs.go [0, 6, 7, 8] [5, 6, 0] 8 (by kernel_rfl) (by kernel_rfl) (by kernel_rfl)⟩
    refine qsr fun K123 hK123 => ?_
    refine qal 27 [ci 0, ci 0, C.slc none 0 0, C.slc none 0 0] 6 hs fun b_124 w a hs => ?_
    refine qpk 1 [0, 1, 2, 6] hs fun a hs => hK123 _ _ ?_
    clear hK123
    refine Vk.seq fun K125 hK125 => ?_
    refine wp_block ?_
    refine qsk 3 [0, 1, 2, 6, 10] hs fun a hs => ?_
    refine qcf hs ?_
    refine qsr fun K127 hK127 => ?_
    refine qpu 1 hs fun a hs => ?_
    obtain ⟨v_130, h_129, hm⟩ := bind_t hm
    refine qcl (slots_place.ok _ _ _ h_129 _ _ (pt b_124 (blk [ci 0, ci 0, C.slc none 0 0, C.slc none 0 0] 27) :: pt b_67 (blk (Tvisorlaw48_Act.cells e_63) 43) :: pt b_39 (blk [C.map (some b_38)] 83) :: mpp b_38 (fun (x : Tslots_Slot) => .agg (vals [ci x.kind, ci x.size, C.slc none 0 0, C.slc none 0 0])) q_52 :: pt b_40 (blk q_53 41) :: S) hs.own) hs fun w a hs => ?_
    refine qpk 2 [0, 1, 2, 6, 14] hs fun a hs => hK127 _ _ ?_
    clear hK127
    refine qcs (!v_130) hs (fun hb => ?_) fun hb => ?_
    ·replace hm := bif_t hm hb
     refine qsr fun K131 hK131 => ?_
     refine qpu 1 hs fun a hs => ?_
     refine qsa 0 [ci 0, ci 0, C.slc none 0 0, C.slc none 0 0] hs rfl fun a w hs => ?_
     refine qpe 1 [(6, pp b_124), (7, vi 6)] hs fun a hs => hK131 _ _ ?_
     clear hK131
     refine wp_ret ?_
     refine hKP122 _ _ ?_
     replace hs := hs.addRow none 53 24 eC
     replace hs := hs.addRow none 51 3 eC
     exact hj122 (⟨0, 0, ([] : List Cells), ([] : List Cells)⟩ : Tslots_Slot) 6 hm b_124 _ _ (hs.go [6, 7] [2, 1, 0, 4, 5, 6, 3] 7 (by kernel_rfl) (by kernel_rfl) (by kernel_rfl))
    ·replace hm := bif_f hm hb
     refine wp_skip ?_
     refine hK125 _ _ ?_
     clear hK125
     refine Vk.seq fun K132 hK132 => ?_
     have hj132 : ∀ (p_148 : Tslots_Slot) (p_151 : Bool), visorlaw48_SlotsPlay.j5 k (visorlaw48_SlotsPlay.l1 x0 k) q_52 q_53 q_54 e_63 p_148 p_151 = some r51 → ∀ (b_147 : Nat) (a : Act) (w : World), St 38 a w κ [(2, vi e_63.ofF), (6, pp b_124), (8, pp b_147), (9, .bool p_151)] (pt b_124 (blk ([ci 0, ci 0, C.slc none (([] : List Cells).length) 0, C.slc none (([] : List Cells).length) 0]) 27) :: rowp none 0 53 24 eC ([] : List Cells) :: rowp none 0 51 3 eC ([] : List Cells) :: pt b_147 (blk (Tslots_Slot.obj p_148 none 0 none 0) 27) :: rowp none 0 53 24 eC p_148.keys :: rowp none 0 51 3 eC p_148.words :: pt b_39 (blk [C.map (some b_38)] 83) :: mpp b_38 (fun (x : Tslots_Slot) => .agg (vals [ci x.kind, ci x.size, C.slc none 0 0, C.slc none 0 0])) q_52 :: pt b_40 (blk q_53 41) :: pt b_67 (blk (Tvisorlaw48_Act.cells e_63) 43) :: S) → K132 a w := by
      intro p_148 p_151 hm b_147 a w hs
      unfold visorlaw48_SlotsPlay.j5 at hm
      refine hK132 _ _ ?_
      refine Vk.seq fun K152 hK152 => ?_
      refine qsr fun K153 hK153 => ?_
      refine qpu 3 hs fun a hs => ?_
      suffices hj_154 : ∀ a, St 38 a w κ [(2, vi e_63.ofF), (6, pp b_124), (8, pp b_147), (9, .bool p_151), (28, .bool p_151), (29, .bool (!p_151)), (30, .bool (!p_151)), (35, .bool ((!p_151) || (p_148.kind != e_63.ofF)))] (pt b_124 (blk ([ci 0, ci 0, C.slc none (([] : List Cells).length) 0, C.slc none (([] : List Cells).length) 0]) 27) :: rowp none 0 53 24 eC ([] : List Cells) :: rowp none 0 51 3 eC ([] : List Cells) :: pt b_147 (blk (Tslots_Slot.obj p_148 none 0 none 0) 27) :: rowp none 0 53 24 eC p_148.keys :: rowp none 0 51 3 eC p_148.words :: pt b_39 (blk [C.map (some b_38)] 83) :: mpp b_38 (fun (x : Tslots_Slot) => .agg (vals [ci x.kind, ci x.size, C.slc none 0 0, C.slc none 0 0])) q_52 :: pt b_40 (blk q_53 41) :: pt b_67 (blk (Tvisorlaw48_Act.cells e_63) 43) :: S) → wpFrom Try.prog _ _ 8 a w by
       rcases Bool.eq_false_or_eq_true (!p_151) with hb | hb
       ·replace hs := hs.known (t := 30) hb (by kernel_rfl)
        refine qpu 5 hs fun a hs => ?_
        have hq := hs.pick [2, 6, 8, 9, 28, 29, 30, 35] (L' := [(2, vi e_63.ofF), (6, pp b_124), (8, pp b_147), (9, .bool p_151), (28, .bool p_151), (29, .bool (!p_151)), (30, .bool true), (35, .bool true)]) (by kernel_rfl)
        exact hj_154 _ (hq.conv (by first | (rw [hb] <;> rfl) | rfl))
       ·replace hs := hs.known (t := 30) hb (by kernel_rfl)
        refine qpu 1 hs fun a hs => ?_
        refine qld 3 (ci p_148.kind) hs rfl fun a hs => ?_
        refine qpu 3 hs fun a hs => ?_
        have hq := hs.pick [2, 6, 8, 9, 28, 29, 30, 35] (L' := [(2, vi e_63.ofF), (6, pp b_124), (8, pp b_147), (9, .bool p_151), (28, .bool p_151), (29, .bool (!p_151)), (30, .bool false), (35, .bool (p_148.kind != e_63.ofF))]) (by kernel_rfl)
        exact hj_154 _ (hq.conv (by first | (rw [hb] <;> rfl) | rfl))
      intro a hs
      refine qpk 0 [6, 8, 35] hs fun a hs => hK153 _ _ ?_
      clear hK153
      refine qcs ((!p_151) || (p_148.kind != e_63.ofF)) hs (fun hb => ?_) fun hb => ?_
      ·replace hm := bif_t hm hb
       refine qsr fun K155 hK155 => ?_
       refine qpu 1 hs fun a hs => ?_
       refine qsa 0 [ci 0, ci 0, C.slc none 0 0, C.slc none 0 0] hs rfl fun a w hs => ?_
       refine qpe 1 [(6, pp b_124), (7, vi 7)] hs fun a hs => hK155 _ _ ?_
       clear hK155
       refine wp_ret ?_
       refine hKP122 _ _ ?_
       replace hs := hs.addRow none 53 24 eC
       replace hs := hs.addRow none 51 3 eC
       exact hj122 (⟨0, 0, ([] : List Cells), ([] : List Cells)⟩ : Tslots_Slot) 7 hm b_124 _ _ (hs.go [6, 7] [2, 1, 0, 8, 9, 10, 11] 12 (by kernel_rfl) (by kernel_rfl) (by kernel_rfl))
      ·replace hm := bif_f hm hb
       refine wp_skip ?_
       refine hK152 _ _ ?_
       clear hK152
       refine qsr fun K156 hK156 => ?_
       refine qln 3 ([ci p_148.kind, ci p_148.size, C.slc none p_148.keys.length 0, C.slc none p_148.words.length 0]) hs rfl fun a hs => ?_
       refine qsa 0 [ci p_148.kind, ci p_148.size, C.slc none p_148.keys.length 0, C.slc none p_148.words.length 0] hs rfl fun a w hs => ?_
       refine qpe 1 [(6, pp b_124), (7, vi 0)] hs fun a hs => hK156 _ _ ?_
       clear hK156
       refine wp_ret ?_
       refine hKP122 _ _ ?_
       exact hj122 p_148 0 hm b_124 _ _ (hs.go [6, 7] [0, 4, 5, 6, 7, 8, 9] 10 (by kernel_rfl) (by kernel_rfl) (by kernel_rfl))
     refine Vk.region ?_
     refine qpu 3 hs fun a hs => ?_
     refine qld 2 (C.map (some b_38)) hs rfl fun a hs => ?_
     refine qpu 1 hs fun a hs => ?_
     rcases Bool.eq_false_or_eq_true ((mget q_52 e_63.i).isSome) with hb | hb
     ·replace hm := bif_t hm hb
      obtain ⟨e_133, h_134, hm⟩ := bind_t hm
      refine qva (.tuple #[.agg (vals [ci e_133.kind, ci e_133.size, C.slc none 0 0, C.slc none 0 0]), .bool true]) (op := (.lookup 81 (.tmp 23) (.tmp 24) true)) hs (fun o ho => run_mgetS (et := 27) (ev := (fun (x : Tslots_Slot) => .agg (vals [ci x.kind, ci x.size, C.slc none 0 0, C.slc none 0 0]))) 3 h_134 rfl ho (by kernel_rfl) (by kernel_rfl) (by kernel_rfl) (by kernel_rfl) _ hs.own) fun a hs => ?_
      refine qpu 3 hs fun a hs => ?_
      refine qal 27 [ci 0, ci 0, C.slc none 0 0, C.slc none 0 0] 8 hs fun b_135 w a hs => ?_
      refine qsa 0 [ci e_133.kind, ci e_133.size, C.slc none 0 0, C.slc none 0 0] hs rfl fun a w hs => ?_
      refine qpe 1 [(2, vi e_63.ofF), (6, pp b_124), (8, pp b_135), (9, .bool true)] hs fun a hs => ?_
      replace hs := hs.addRow none 53 24 eC
      replace hs := hs.addRow none 51 3 eC
      replace hs := hs.addRow none 53 24 eC
      replace hs := hs.addRow none 51 3 eC
      exact hj132 (⟨e_133.kind, e_133.size, ([] : List Cells), ([] : List Cells)⟩ : Tslots_Slot) true hm b_135 _ _ (hs.go [2, 6, 8, 9] [5, 1, 0, 4, 3, 2, 7, 8, 9, 6] 10 (by kernel_rfl) (by kernel_rfl) (by kernel_rfl))
     ·replace hm := bif_f hm hb
      refine qva (.tuple #[.agg (vals [ci 0, ci 0, C.slc none 0 0, C.slc none 0 0]), .bool false]) (op := (.lookup 81 (.tmp 23) (.tmp 24) true)) hs (fun o ho => run_mgetN (et := 27) (ev := (fun (x : Tslots_Slot) => .agg (vals [ci x.kind, ci x.size, C.slc none 0 0, C.slc none 0 0]))) (z := .agg (vals [ci 0, ci 0, C.slc none 0 0, C.slc none 0 0])) 3 hb rfl ho (by kernel_rfl) (by kernel_rfl) (by kernel_rfl) (by kernel_rfl) _ hs.own) fun a hs => ?_
      refine qpu 3 hs fun a hs => ?_
      refine qal 27 [ci 0, ci 0, C.slc none 0 0, C.slc none 0 0] 8 hs fun b_136 w a hs => ?_
      refine qsa 0 [ci 0, ci 0, C.slc none 0 0, C.slc none 0 0] hs rfl fun a w hs => ?_
      refine qpe 1 [(2, vi e_63.ofF), (6, pp b_124), (8, pp b_136), (9, .bool false)] hs fun a hs => ?_
      replace hs := hs.addRow none 53 24 eC
      replace hs := hs.addRow none 51 3 eC
      replace hs := hs.addRow none 53 24 eC
      replace hs := hs.addRow none 51 3 eC
      exact hj132 (⟨0, 0, ([] : List Cells), ([] : List Cells)⟩ : Tslots_Slot) false hm b_136 _ _ (hs.go [2, 6, 8, 9] [5, 1, 0, 4, 3, 2, 7, 8, 9, 6] 10 (by kernel_rfl) (by kernel_rfl) (by kernel_rfl))
   ·replace hm := bif_f hm hb
    refine qsk 2 [0, 6, 7, 8, 9, 147] hs fun a hs => ?_
    refine qcs (e_63.kind == 2) hs (fun hb => ?_) fun hb => ?_
    ·replace hm := bif_t hm hb
     refine Vk.seq fun K176 hK176 => ?_
     obtain ⟨C_177, hC_177⟩ := qC hs.own.f2.drop
     refine qdr 7 κ C_177 hs fun w hs hqC_177 => ?_
     have hcl := qO hC_177 hs.own.f2.drop
     refine qdp (fuel := 5) [0, 1, 4, 5] hs hcl hqC_177 fun a hs => ?_
     refine qdl 2 0 (ci e_63.i) hs hcl hqC_177 hC_177 rfl fun a hs => ?_
     refine qdl 6 0 (ci e_63.i) hs hcl hqC_177 hC_177 rfl fun a hs => ?_
     refine Vk.dOnly (i := 3) (by kernel_rfl) (Vk.call (some 152) 9 #[pp b_39, vi e_63.i] hs (by kernel_rfl) (by kernel_rfl) (by kernel_rfl) ?_)
     refine Vk.enterI [(0, pp b_39), (1, vi e_63.i)] Try.func9 rfl Try.ntmps9 (by kernel_rfl) (Nat.le_of_ble_eq_true (by kernel_rfl)) hs.own fun KR178 hKR178 hKP178 a hs => ?_
     have hj178 : ∀ (p_211 : Int) (p_212 : List (Int × Tslots_Slot)), visorlaw48_SlotsPlay.j7 k (visorlaw48_SlotsPlay.l1 x0 k) q_53 q_54 e_63 p_211 p_212 = some r51 → ∀ (a : Act) (w : World), St 21 a w κ [(4, vi p_211)] (pt b_39 (blk [C.map (some b_38)] 83) :: mpp b_38 (fun (x : Tslots_Slot) => .agg (vals [ci x.kind, ci x.size, C.slc none 0 0, C.slc none 0 0])) p_212 :: pt b_40 (blk q_53 41) :: pt b_67 (blk (Tvisorlaw48_Act.cells e_63) 43) :: S) → KR178 a w := by
      intro p_211 p_212 hm a w hs
      unfold visorlaw48_SlotsPlay.j7 at hm
      refine hKR178 _ _ ?_
      refine Vk.ret1 (P := Try.prog) (fn := Try.f9) (vi p_211) hs rfl (by kernel_rfl) ⟨_, _, _, rfl, hs.own, fun a hs => ?_⟩
      replace hcl := qO hC_177 hs.own.f1.drop.f2
      refine ⟨fun _ => hcl, ?_⟩
      obtain ⟨v_215, h_214, hm⟩ := bind_t hm
      refine qdc 7 (visorref48_S_Drop.ok _ _ _ _ h_214 _ _ _ b_40 hs.own.f2) hs fun w a hs => ?_
      refine ⟨fun h => absurd h (by decide), ?_⟩
      refine Vk.dOnly (i := 8) (by kernel_rfl) (Vk.dPure1 [(157, .bool (p_211 != v_215.1))] hs (by kernel_rfl) fun a hs => ?_)
      refine ⟨fun h => absurd h (by decide), ?_⟩
      replace hs := hs.pick [0, 6, 7, 8, 157] (L' := [(0, .slice A_x0 x0.length c_x0), (6, pp b_39), (7, pp b_40), (8, vi q_54), (157, .bool (p_211 != v_215.1))]) (by kernel_rfl)
      refine Vk.dDone (by kernel_rfl) ?_
      refine hK176 _ _ ?_
      clear hK176
      refine qcs (p_211 != v_215.1) hs (fun hb => ?_) fun hb => ?_
      ·replace hm := bif_t hm hb
       refine qse 1 [(2, .bool false)] hs fun a hs => ?_
       refine wp_ret ?_
       exact Vk.ret1 (P := Try.prog) (fn := Try.f3) (R := RR) (.bool false) hs rfl (by kernel_rfl) (by obtain rfl := hret51 _ ((Option.some.inj hm).symm); subst hRR; exact ⟨rfl, (hs.own.too [] 4)⟩)
      ·replace hm := bif_f hm hb
       refine wp_skip ?_
       exact hj257 p_212 v_215.2 hm _ _ (hs.go [0, 6, 7, 8] [1, 2, 0] 4 (by kernel_rfl) (by kernel_rfl) (by kernel_rfl))
     refine qsk 1 [0, 1] hs fun a hs => ?_
     refine Vk.seq fun K180 hK180 => ?_
     refine wp_block ?_
     refine qsk 3 [0, 1, 5] hs fun a hs => ?_
     refine qcf hs ?_
     refine qsr fun K182 hK182 => ?_
     refine qpu 1 hs fun a hs => ?_
     obtain ⟨v_185, h_184, hm⟩ := bind_t hm
     refine qcl (slots_place.ok _ _ _ h_184 _ _ (pt b_67 (blk (Tvisorlaw48_Act.cells e_63) 43) :: pt b_39 (blk [C.map (some b_38)] 83) :: mpp b_38 (fun (x : Tslots_Slot) => .agg (vals [ci x.kind, ci x.size, C.slc none 0 0, C.slc none 0 0])) q_52 :: pt b_40 (blk q_53 41) :: S) hs.own) hs fun w a hs => ?_
     refine qpk 2 [0, 1, 8] hs fun a hs => hK182 _ _ ?_
     clear hK182
     refine qcs (!v_185) hs (fun hb => ?_) fun hb => ?_
     ·replace hm := bif_t hm hb
      refine qse 1 [(4, vi 6)] hs fun a hs => ?_
      refine wp_ret ?_
      refine hKP178 _ _ ?_
      exact hj178 6 q_52 hm _ _ (hs.go [4] [1, 2, 3, 0] 4 (by kernel_rfl) (by kernel_rfl) (by kernel_rfl))
     ·replace hm := bif_f hm hb
      refine qsr fun K187 hK187 => ?_
      refine qpu 2 hs fun a hs => ?_
      refine Vk.step (Vk.call (some 15) 10 #[pp b_39, vi e_63.i] hs (by kernel_rfl) (by kernel_rfl) (by kernel_rfl) ?_)
      refine Vk.enterI [(0, pp b_39), (1, vi e_63.i)] Try.func10 rfl Try.ntmps10 (by kernel_rfl) (Nat.le_of_ble_eq_true (by kernel_rfl)) hs.own fun KR188 hKR188 hKP188 a hs => ?_
      have hj188 : ∀ (p_207 : Bool), visorlaw48_SlotsPlay.j2_2 k (visorlaw48_SlotsPlay.l1 x0 k) q_52 q_53 q_54 e_63 p_207 = some r51 → ∀ (a : Act) (w : World), St 25 a w κ [(4, .bool p_207)] (pt b_39 (blk [C.map (some b_38)] 83) :: mpp b_38 (fun (x : Tslots_Slot) => .agg (vals [ci x.kind, ci x.size, C.slc none 0 0, C.slc none 0 0])) q_52 :: pt b_40 (blk q_53 41) :: pt b_67 (blk (Tvisorlaw48_Act.cells e_63) 43) :: S) → KR188 a w := by
       intro p_207 hm a w hs
       unfold visorlaw48_SlotsPlay.j2_2 at hm
       refine hKR188 _ _ ?_
       refine Vk.ret1 (P := Try.prog) (fn := Try.f10) (.bool p_207) hs rfl (by kernel_rfl) ⟨_, _, _, rfl, hs.own, fun a hs => ?_⟩
       refine qpk 1 [0, 1, 12] hs fun a hs => hK187 _ _ ?_
       clear hK187
       refine qcs (p_207) hs (fun hb => ?_) fun hb => ?_
       ·replace hm := bif_t hm hb
        refine qse 1 [(4, vi 7)] hs fun a hs => ?_
        refine wp_ret ?_
        refine hKP178 _ _ ?_
        exact hj178 7 q_52 hm _ _ (hs.go [4] [0, 1, 2, 3] 4 (by kernel_rfl) (by kernel_rfl) (by kernel_rfl))
       ·replace hm := bif_f hm hb
        refine wp_skip ?_
        refine hK180 _ _ ?_
        clear hK180
        refine qsr fun K209 hK209 => ?_
        refine qpu 3 hs fun a hs => ?_
        refine qld 0 (C.map (some b_38)) hs rfl fun a hs => ?_
        refine qpu 1 hs fun a hs => ?_
        refine Vk.step (mdelOp (t := 81) (t' := 3) (et := 27) (xm := (.tmp 19)) (xk := (.tmp 20)) (ev := (fun (x : Tslots_Slot) => .agg (vals [ci x.kind, ci x.size, C.slc none 0 0, C.slc none 0 0]))) e_63.i 1 none hs rfl fun a w hs => ?_)
        refine qpe 0 [] hs fun a hs => hK209 _ _ ?_
        clear hK209
        refine qse 1 [(4, vi 0)] hs fun a hs => ?_
        refine wp_ret ?_
        refine hKP178 _ _ ?_
        exact hj178 0 (mdel q_52 e_63.i) hm _ _ (hs.go [4] [0, 1, 2, 3] 4 (by kernel_rfl) (by kernel_rfl) (by kernel_rfl))
      refine qsk 1 [0, 1] hs fun a hs => ?_
      refine Vk.seq fun K190 hK190 => ?_
      refine qsr fun K191 hK191 => ?_
      refine qpu 4 hs fun a hs => ?_
      obtain ⟨v_194, h_193, hm⟩ := bind_t hm
      refine qcl (slots_place.ok _ _ _ h_193 _ _ (pt b_67 (blk (Tvisorlaw48_Act.cells e_63) 43) :: pt b_39 (blk [C.map (some b_38)] 83) :: mpp b_38 (fun (x : Tslots_Slot) => .agg (vals [ci x.kind, ci x.size, C.slc none 0 0, C.slc none 0 0])) q_52 :: pt b_40 (blk q_53 41) :: S) hs.own) hs fun w a hs => ?_
      refine qpk 2 [0, 1, 13] hs fun a hs => hK191 _ _ ?_
      clear hK191
      refine qcs (!v_194) hs (fun hb => ?_) fun hb => ?_
      ·replace hm := bif_t hm hb
       refine qse 1 [(4, .bool false)] hs fun a hs => ?_
       refine wp_ret ?_
       refine hKP188 _ _ ?_
       exact hj188 false hm _ _ (hs.go [4] [1, 2, 3, 0] 4 (by kernel_rfl) (by kernel_rfl) (by kernel_rfl))
      ·replace hm := bif_f hm hb
       refine wp_skip ?_
       refine hK190 _ _ ?_
       clear hK190
       refine Vk.seq fun K196 hK196 => ?_
       have hj196 : ∀ (p_205 : Bool), visorlaw48_SlotsPlay.j1_2 k (visorlaw48_SlotsPlay.l1 x0 k) q_52 q_53 q_54 e_63 p_205 = some r51 → ∀ (a : Act) (w : World), St 25 a w κ [(6, .bool p_205)] (pt b_39 (blk [C.map (some b_38)] 83) :: mpp b_38 (fun (x : Tslots_Slot) => .agg (vals [ci x.kind, ci x.size, C.slc none 0 0, C.slc none 0 0])) q_52 :: pt b_40 (blk q_53 41) :: pt b_67 (blk (Tvisorlaw48_Act.cells e_63) 43) :: S) → K196 a w := by
        intro p_205 hm a w hs
        unfold visorlaw48_SlotsPlay.j1_2 at hm
        refine hK196 _ _ ?_
        refine qse 3 [(4, .bool (!p_205))] hs fun a hs => ?_
        refine wp_ret ?_
        refine hKP188 _ _ ?_
        exact hj188 (!p_205) hm _ _ (hs.go [4] [0, 1, 2, 3] 4 (by kernel_rfl) (by kernel_rfl) (by kernel_rfl))
       refine Vk.region ?_
       refine qpu 3 hs fun a hs => ?_
       refine qld 1 (C.map (some b_38)) hs rfl fun a hs => ?_
       refine qpu 1 hs fun a hs => ?_
       rcases Bool.eq_false_or_eq_true ((mget q_52 e_63.i).isSome) with hb | hb
       ·replace hm := bif_t hm hb
        obtain ⟨e_197, h_198, hm⟩ := bind_t hm
        refine qva (.tuple #[.agg (vals [ci e_197.kind, ci e_197.size, C.slc none 0 0, C.slc none 0 0]), .bool true]) (op := (.lookup 81 (.tmp 18) (.tmp 19) true)) hs (fun o ho => run_mgetS (et := 27) (ev := (fun (x : Tslots_Slot) => .agg (vals [ci x.kind, ci x.size, C.slc none 0 0, C.slc none 0 0]))) 2 h_198 rfl ho (by kernel_rfl) (by kernel_rfl) (by kernel_rfl) (by kernel_rfl) _ hs.own) fun a hs => ?_
        refine qpu 3 hs fun a hs => ?_
        refine qal 27 [ci 0, ci 0, C.slc none 0 0, C.slc none 0 0] 5 hs fun b_199 w a hs => ?_
        refine qsa 0 [ci e_197.kind, ci e_197.size, C.slc none 0 0, C.slc none 0 0] hs rfl fun a w hs => ?_
        refine qpe 1 [(6, .bool true)] hs fun a hs => ?_
        replace hs := hs.addRow none 53 24 eC
        replace hs := hs.addRow none 51 3 eC
        exact hj196 true hm _ _ (hs.go [6] [4, 5, 6, 3] 7 (by kernel_rfl) (by kernel_rfl) (by kernel_rfl))
       ·replace hm := bif_f hm hb
        refine qva (.tuple #[.agg (vals [ci 0, ci 0, C.slc none 0 0, C.slc none 0 0]), .bool false]) (op := (.lookup 81 (.tmp 18) (.tmp 19) true)) hs (fun o ho => run_mgetN (et := 27) (ev := (fun (x : Tslots_Slot) => .agg (vals [ci x.kind, ci x.size, C.slc none 0 0, C.slc none 0 0]))) (z := .agg (vals [ci 0, ci 0, C.slc none 0 0, C.slc none 0 0])) 2 hb rfl ho (by kernel_rfl) (by kernel_rfl) (by kernel_rfl) (by kernel_rfl) _ hs.own) fun a hs => ?_
        refine qpu 3 hs fun a hs => ?_
        refine qal 27 [ci 0, ci 0, C.slc none 0 0, C.slc none 0 0] 5 hs fun b_200 w a hs => ?_
        refine qsa 0 [ci 0, ci 0, C.slc none 0 0, C.slc none 0 0] hs rfl fun a w hs => ?_
        refine qpe 1 [(6, .bool false)] hs fun a hs => ?_
        replace hs := hs.addRow none 53 24 eC
        replace hs := hs.addRow none 51 3 eC
        exact hj196 false hm _ _ (hs.go [6] [4, 5, 6, 3] 7 (by kernel_rfl) (by kernel_rfl) (by kernel_rfl))
    ·replace hm := bif_f hm hb
     refine Vk.seq fun K217 hK217 => ?_
     obtain ⟨C_218, hC_218⟩ := qC hs.own
     refine qdr 25 κ C_218 hs fun w hs hqC_218 => ?_
     have hcl := qO hC_218 hs.own
     refine qdp (fuel := 22) [0, 1, 4] hs hcl hqC_218 fun a hs => ?_
     refine qdl 2 0 (ci e_63.i) hs hcl hqC_218 hC_218 rfl fun a hs => ?_
     refine qdl 5 0 (ci e_63.i) hs hcl hqC_218 hC_218 rfl fun a hs => ?_
     refine qdp (fuel := 19) [6] hs hcl hqC_218 fun a hs => ?_
     refine Vk.dOnly (i := 3) (by kernel_rfl) (Vk.call (some 65) 10 #[pp b_39, vi e_63.i] hs (by kernel_rfl) (by kernel_rfl) (by kernel_rfl) ?_)
     refine Vk.enterI [(0, pp b_39), (1, vi e_63.i)] Try.func10 rfl Try.ntmps10 (by kernel_rfl) (Nat.le_of_ble_eq_true (by kernel_rfl)) hs.own fun KR219 hKR219 hKP219 a hs => ?_
     have hj219 : ∀ (p_238 : Bool), visorlaw48_SlotsPlay.j2_3 k (visorlaw48_SlotsPlay.l1 x0 k) q_52 q_53 q_54 e_63 p_238 = some r51 → ∀ (a : Act) (w : World), St 25 a w κ [(4, .bool p_238)] (pt b_39 (blk [C.map (some b_38)] 83) :: mpp b_38 (fun (x : Tslots_Slot) => .agg (vals [ci x.kind, ci x.size, C.slc none 0 0, C.slc none 0 0])) q_52 :: pt b_40 (blk q_53 41) :: pt b_67 (blk (Tvisorlaw48_Act.cells e_63) 43) :: S) → KR219 a w := by
      intro p_238 hm a w hs
      unfold visorlaw48_SlotsPlay.j2_3 at hm
      refine hKR219 _ _ ?_
      refine Vk.ret1 (P := Try.prog) (fn := Try.f10) (.bool p_238) hs rfl (by kernel_rfl) ⟨_, _, _, rfl, hs.own, fun a hs => ?_⟩
      replace hcl := qO hC_218 hs.own.f3
      refine ⟨fun _ => hcl, ?_⟩
      refine qdp (fuel := 17) [7] hs hcl hqC_218 fun a hs => ?_
      rcases Bool.eq_false_or_eq_true (decide (e_63.i ≥ 0)) with hb | hb
      ·replace hm := bif_t hm hb
       replace hs := hs.known (t := 69) hb (by kernel_rfl)
       refine qdp (fuel := 16) [8] hs hcl hqC_218 fun a hs => ?_
       refine qdl 9 0 (ci e_63.i) hs hcl hqC_218 hC_218 rfl fun a hs => ?_
       refine qdp (fuel := 12) [10, 11, 12] hs hcl hqC_218 fun a hs => ?_
       rcases Bool.eq_false_or_eq_true (decide (e_63.i < 4)) with hb | hb
       ·replace hm := bif_t hm hb
        replace hs := hs.known (t := 74) hb (by kernel_rfl)
        refine qdp (fuel := 8) [13, 14, 17, 18] hs hcl hqC_218 fun a hs => ?_
        refine qdl 15 0 (ci e_63.i) hs hcl hqC_218 hC_218 rfl fun a hs => ?_
        refine qdp (fuel := 6) [16] hs hcl hqC_218 fun a hs => ?_
        obtain ⟨h_239, hm⟩ := ite_t hm
        refine qdx 19 b_40 0 2 hs hcl hqC_218 h_239 fun a hs => ?_
        refine qdp (fuel := 4) [20] hs hcl hqC_218 fun a hs => ?_
        obtain ⟨v_241, h_240, hm⟩ := bind_t hm
        refine qdi 21 3 hs hcl hqC_218 hC_218 rfl h_240 fun a hs => ?_
        refine qdp (fuel := 0) [22, 23, 24] hs hcl hqC_218 fun a hs => ?_
        replace hs := hs.pick [0, 6, 7, 8, 70, 71, 72, 75, 76, 77, 78, 79, 80, 81, 82, 83, 84, 86] (L' := [(0, .slice A_x0 x0.length c_x0), (6, pp b_39), (7, pp b_40), (8, vi q_54), (70, .pointer (some ⟨b_67, 1, none⟩)), (71, vi e_63.i), (72, .bool (decide (e_63.i < 4))), (75, pp b_40), (76, .pointer (some ⟨b_67, 1, none⟩)), (77, vi e_63.i), (78, vi (band .i64 e_63.i 3)), (79, pp b_40), (80, pp b_40), (81, .pointer (some ⟨b_40, 0 + (band .i64 e_63.i 3).toNat * 2, none⟩)), (82, .pointer (some ⟨b_40, 0 + (band .i64 e_63.i 3).toNat * 2, none⟩)), (83, vi v_241), (84, .bool (v_241 == 0)), (86, .bool (!(p_238 == (v_241 == 0))))]) (by kernel_rfl)
        refine Vk.dDone (by kernel_rfl) ?_
        refine hK217 _ _ ?_
        refine qcs (!(p_238 == (v_241 == 0))) hs (fun hb => ?_) fun hb => ?_
        ·replace hm := bif_t hm hb
         refine qse 1 [(2, .bool false)] hs fun a hs => ?_
         refine wp_ret ?_
         exact Vk.ret1 (P := Try.prog) (fn := Try.f3) (R := RR) (.bool false) hs rfl (by kernel_rfl) (by obtain rfl := hret51 _ ((Option.some.inj hm).symm); subst hRR; exact ⟨rfl, (hs.own.too [] 4)⟩)
        ·replace hm := bif_f hm hb
         refine wp_skip ?_
         refine hK68 _ _ ?_
         refine qsr fun K278 hK278 => ?_
         refine qpu 1 hs fun a hs => ?_
         refine Vk.step (Vk.call (some 159) 11 #[pp b_39] hs (by kernel_rfl) (by kernel_rfl) (by kernel_rfl) ?_)
         refine Vk.enterI [(0, pp b_39)] Try.func11 rfl Try.ntmps11 (by kernel_rfl) (Nat.le_of_ble_eq_true (by kernel_rfl)) hs.own fun KR279 hKR279 hKP279 a hs => ?_
         refine qse 1 [(0, pp b_39)] hs fun a hs => ?_
         refine Vk.seq fun K281 hK281 => ?_
         refine qsk 2 [0, 4] hs fun a hs => ?_
         refine qcf hs ?_
         refine wp_skip ?_
         refine hK281 _ _ ?_
         clear hK281
         refine qsr fun K283 hK283 => ?_
         refine qpu 3 hs fun a hs => ?_
         refine qld 0 (C.map (some b_38)) hs rfl fun a hs => ?_
         refine qva (vi ((q_52.length : Nat) : Int)) (op := (.call { callee := (.builtin .len), args := #[(.tmp 8)], argTypes := #[81] })) hs (fun o ho => run_mlen (et := 27) (ev := (fun (x : Tslots_Slot) => .agg (vals [ci x.kind, ci x.size, C.slc none 0 0, C.slc none 0 0]))) 1 rfl ho (by kernel_rfl) (by kernel_rfl) _ hs.own) fun a hs => ?_
         refine qpk 1 [2] hs fun a hs => hK283 _ _ ?_
         clear hK283
         refine wp_ret ?_
         refine hKP279 _ _ ?_
         refine hKR279 _ _ ?_
         refine Vk.ret1 (P := Try.prog) (fn := Try.f11) (vi ((q_52.length : Nat) : Int)) hs rfl (by kernel_rfl) ⟨_, _, _, rfl, hs.own, fun a hs => ?_⟩
         refine qpu 1 hs fun a hs => ?_
         obtain ⟨v_286, h_285, hm⟩ := bind_t hm
         refine qcl (visorref48_S_Count.ok _ _ _ h_285 _ _ _ b_40 hs.own.f2) hs fun w a hs => ?_
         refine qpk 1 [0, 6, 7, 8, 70, 71, 72, 75, 76, 77, 78, 79, 80, 81, 82, 83, 84, 162] hs fun a hs => hK278 _ _ ?_
         clear hK278
         refine qcs (((q_52.length : Nat) : Int) != v_286) hs (fun hb => ?_) fun hb => ?_
         ·replace hm := bif_t hm hb
          refine qse 1 [(2, .bool false)] hs fun a hs => ?_
          refine wp_ret ?_
          exact Vk.ret1 (P := Try.prog) (fn := Try.f3) (R := RR) (.bool false) hs rfl (by kernel_rfl) (by obtain rfl := hret51 _ ((Option.some.inj hm).symm); subst hRR; exact ⟨rfl, (hs.own.too [] 4)⟩)
         ·replace hm := bif_f hm hb
          refine wp_skip ?_
          refine hK58 _ _ ?_
          refine Vk.region ?_
          refine qpk 3 [0, 6, 7, 8, 70, 71, 72, 75, 76, 77, 78, 79, 80, 81, 82, 83, 84] hs fun a hs => ?_
          refine ih (q_52, q_53, (IntKind.i64.wrap (q_54 + 1))) _ _ ⟨hm, hs.go [0, 6, 7, 8] [1, 2, 0] 4 (by kernel_rfl) (by kernel_rfl) (by kernel_rfl)⟩
       ·replace hm := bif_f hm hb
        replace hs := hs.known (t := 74) hb (by kernel_rfl)
        refine qdp (fuel := 0) [13, 14, 15, 16, 17, 18, 19, 20, 21, 22, 23, 24] hs hcl hqC_218 fun a hs => ?_
        replace hs := hs.pick [0, 6, 7, 8, 70, 71, 72, 86] (L' := [(0, .slice A_x0 x0.length c_x0), (6, pp b_39), (7, pp b_40), (8, vi q_54), (70, .pointer (some ⟨b_67, 1, none⟩)), (71, vi e_63.i), (72, .bool (decide (e_63.i < 4))), (86, .bool (!(p_238 == false)))]) (by kernel_rfl)
        refine Vk.dDone (by kernel_rfl) ?_
        refine hK217 _ _ ?_
        refine qcs (!(p_238 == false)) hs (fun hb => ?_) fun hb => ?_
        ·replace hm := bif_t hm hb
         refine qse 1 [(2, .bool false)] hs fun a hs => ?_
         refine wp_ret ?_
         exact Vk.ret1 (P := Try.prog) (fn := Try.f3) (R := RR) (.bool false) hs rfl (by kernel_rfl) (by obtain rfl := hret51 _ ((Option.some.inj hm).symm); subst hRR; exact ⟨rfl, (hs.own.too [] 4)⟩)
        ·replace hm := bif_f hm hb
         refine wp_skip ?_
         refine hK68 _ _ ?_
         refine qsr fun K288 hK288 => ?_
         refine qpu 1 hs fun a hs => ?_
         refine Vk.step (Vk.call (some 159) 11 #[pp b_39] hs (by kernel_rfl) (by kernel_rfl) (by kernel_rfl) ?_)
         refine Vk.enterI [(0, pp b_39)] Try.func11 rfl Try.ntmps11 (by kernel_rfl) (Nat.le_of_ble_eq_true (by kernel_rfl)) hs.own fun KR289 hKR289 hKP289 a hs => ?_
         refine qse 1 [(0, pp b_39)] hs fun a hs => ?_
         refine Vk.seq fun K291 hK291 => ?_
         refine qsk 2 [0, 4] hs fun a hs => ?_
         refine qcf hs ?_
         refine wp_skip ?_
         refine hK291 _ _ ?_
         clear hK291
         refine qsr fun K293 hK293 => ?_
         refine qpu 3 hs fun a hs => ?_
         refine qld 0 (C.map (some b_38)) hs rfl fun a hs => ?_
         refine qva (vi ((q_52.length : Nat) : Int)) (op := (.call { callee := (.builtin .len), args := #[(.tmp 8)], argTypes := #[81] })) hs (fun o ho => run_mlen (et := 27) (ev := (fun (x : Tslots_Slot) => .agg (vals [ci x.kind, ci x.size, C.slc none 0 0, C.slc none 0 0]))) 1 rfl ho (by kernel_rfl) (by kernel_rfl) _ hs.own) fun a hs => ?_
         refine qpk 1 [2] hs fun a hs => hK293 _ _ ?_
         clear hK293
         refine wp_ret ?_
         refine hKP289 _ _ ?_
         refine hKR289 _ _ ?_
         refine Vk.ret1 (P := Try.prog) (fn := Try.f11) (vi ((q_52.length : Nat) : Int)) hs rfl (by kernel_rfl) ⟨_, _, _, rfl, hs.own, fun a hs => ?_⟩
         refine qpu 1 hs fun a hs => ?_
         obtain ⟨v_296, h_295, hm⟩ := bind_t hm
         refine qcl (visorref48_S_Count.ok _ _ _ h_295 _ _ _ b_40 hs.own.f2) hs fun w a hs => ?_
         refine qpk 1 [0, 6, 7, 8, 70, 71, 72, 162] hs fun a hs => hK288 _ _ ?_
         clear hK288
         refine qcs (((q_52.length : Nat) : Int) != v_296) hs (fun hb => ?_) fun hb => ?_
         ·replace hm := bif_t hm hb
          refine qse 1 [(2, .bool false)] hs fun a hs => ?_
          refine wp_ret ?_
          exact Vk.ret1 (P := Try.prog) (fn := Try.f3) (R := RR) (.bool false) hs rfl (by kernel_rfl) (by obtain rfl := hret51 _ ((Option.some.inj hm).symm); subst hRR; exact ⟨rfl, (hs.own.too [] 4)⟩)
         ·replace hm := bif_f hm hb
          refine wp_skip ?_
          refine hK58 _ _ ?_
          refine Vk.region ?_
          refine qpk 3 [0, 6, 7, 8, 70, 71, 72] hs fun a hs => ?_
          refine ih (q_52, q_53, (IntKind.i64.wrap (q_54 + 1))) _ _ ⟨hm, hs.go [0, 6, 7, 8] [1, 2, 0] 4 (by kernel_rfl) (by kernel_rfl) (by kernel_rfl)⟩
      ·replace hm := bif_f hm hb
       replace hs := hs.known (t := 69) hb (by kernel_rfl)
       refine qdp (fuel := 0) [8, 9, 10, 11, 12, 13, 14, 15, 16, 17, 18, 19, 20, 21, 22, 23, 24] hs hcl hqC_218 fun a hs => ?_
       replace hs := hs.pick [0, 6, 7, 8, 86] (L' := [(0, .slice A_x0 x0.length c_x0), (6, pp b_39), (7, pp b_40), (8, vi q_54), (86, .bool (!(p_238 == false)))]) (by kernel_rfl)
       refine Vk.dDone (by kernel_rfl) ?_
       refine hK217 _ _ ?_
       refine qcs (!(p_238 == false)) hs (fun hb => ?_) fun hb => ?_
       ·replace hm := bif_t hm hb
        refine qse 1 [(2, .bool false)] hs fun a hs => ?_
        refine wp_ret ?_
        exact Vk.ret1 (P := Try.prog) (fn := Try.f3) (R := RR) (.bool false) hs rfl (by kernel_rfl) (by obtain rfl := hret51 _ ((Option.some.inj hm).symm); subst hRR; exact ⟨rfl, (hs.own.too [] 4)⟩)
       ·replace hm := bif_f hm hb
        refine wp_skip ?_
        exact hj257 q_52 q_53 hm _ _ (hs.go [0, 6, 7, 8] [0, 1, 2] 4 (by kernel_rfl) (by kernel_rfl) (by kernel_rfl))
     refine qsk 1 [0, 1] hs fun a hs => ?_
     refine Vk.seq fun K221 hK221 => ?_
     refine qsr fun K222 hK222 => ?_
     refine qpu 4 hs fun a hs => ?_
     obtain ⟨v_225, h_224, hm⟩ := bind_t hm
     refine qcl (slots_place.ok _ _ _ h_224 _ _ (pt b_67 (blk (Tvisorlaw48_Act.cells e_63) 43) :: pt b_39 (blk [C.map (some b_38)] 83) :: mpp b_38 (fun (x : Tslots_Slot) => .agg (vals [ci x.kind, ci x.size, C.slc none 0 0, C.slc none 0 0])) q_52 :: pt b_40 (blk q_53 41) :: S) hs.own) hs fun w a hs => ?_
     refine qpk 2 [0, 1, 13] hs fun a hs => hK222 _ _ ?_
     clear hK222
     refine qcs (!v_225) hs (fun hb => ?_) fun hb => ?_
     ·replace hm := bif_t hm hb
      refine qse 1 [(4, .bool false)] hs fun a hs => ?_
      refine wp_ret ?_
      refine hKP219 _ _ ?_
      exact hj219 false hm _ _ (hs.go [4] [1, 2, 3, 0] 4 (by kernel_rfl) (by kernel_rfl) (by kernel_rfl))
     ·replace hm := bif_f hm hb
      refine wp_skip ?_
      refine hK221 _ _ ?_
      clear hK221
      refine Vk.seq fun K227 hK227 => ?_
      have hj227 : ∀ (p_236 : Bool), visorlaw48_SlotsPlay.j1_3 k (visorlaw48_SlotsPlay.l1 x0 k) q_52 q_53 q_54 e_63 p_236 = some r51 → ∀ (a : Act) (w : World), St 25 a w κ [(6, .bool p_236)] (pt b_39 (blk [C.map (some b_38)] 83) :: mpp b_38 (fun (x : Tslots_Slot) => .agg (vals [ci x.kind, ci x.size, C.slc none 0 0, C.slc none 0 0])) q_52 :: pt b_40 (blk q_53 41) :: pt b_67 (blk (Tvisorlaw48_Act.cells e_63) 43) :: S) → K227 a w := by
       intro p_236 hm a w hs
       unfold visorlaw48_SlotsPlay.j1_3 at hm
       refine hK227 _ _ ?_
       refine qse 3 [(4, .bool (!p_236))] hs fun a hs => ?_
       refine wp_ret ?_
       refine hKP219 _ _ ?_
       exact hj219 (!p_236) hm _ _ (hs.go [4] [0, 1, 2, 3] 4 (by kernel_rfl) (by kernel_rfl) (by kernel_rfl))
      refine Vk.region ?_
      refine qpu 3 hs fun a hs => ?_
      refine qld 1 (C.map (some b_38)) hs rfl fun a hs => ?_
      refine qpu 1 hs fun a hs => ?_
      rcases Bool.eq_false_or_eq_true ((mget q_52 e_63.i).isSome) with hb | hb
      ·replace hm := bif_t hm hb
       obtain ⟨e_228, h_229, hm⟩ := bind_t hm
       refine qva (.tuple #[.agg (vals [ci e_228.kind, ci e_228.size, C.slc none 0 0, C.slc none 0 0]), .bool true]) (op := (.lookup 81 (.tmp 18) (.tmp 19) true)) hs (fun o ho => run_mgetS (et := 27) (ev := (fun (x : Tslots_Slot) => .agg (vals [ci x.kind, ci x.size, C.slc none 0 0, C.slc none 0 0]))) 2 h_229 rfl ho (by kernel_rfl) (by kernel_rfl) (by kernel_rfl) (by kernel_rfl) _ hs.own) fun a hs => ?_
       refine qpu 3 hs fun a hs => ?_
       refine qal 27 [ci 0, ci 0, C.slc none 0 0, C.slc none 0 0] 5 hs fun b_230 w a hs => ?_
       refine qsa 0 [ci e_228.kind, ci e_228.size, C.slc none 0 0, C.slc none 0 0] hs rfl fun a w hs => ?_
       refine qpe 1 [(6, .bool true)] hs fun a hs => ?_
       replace hs := hs.addRow none 53 24 eC
       replace hs := hs.addRow none 51 3 eC
       exact hj227 true hm _ _ (hs.go [6] [4, 5, 6, 3] 7 (by kernel_rfl) (by kernel_rfl) (by kernel_rfl))
      ·replace hm := bif_f hm hb
       refine qva (.tuple #[.agg (vals [ci 0, ci 0, C.slc none 0 0, C.slc none 0 0]), .bool false]) (op := (.lookup 81 (.tmp 18) (.tmp 19) true)) hs (fun o ho => run_mgetN (et := 27) (ev := (fun (x : Tslots_Slot) => .agg (vals [ci x.kind, ci x.size, C.slc none 0 0, C.slc none 0 0]))) (z := .agg (vals [ci 0, ci 0, C.slc none 0 0, C.slc none 0 0])) 2 hb rfl ho (by kernel_rfl) (by kernel_rfl) (by kernel_rfl) (by kernel_rfl) _ hs.own) fun a hs => ?_
       refine qpu 3 hs fun a hs => ?_
       refine qal 27 [ci 0, ci 0, C.slc none 0 0, C.slc none 0 0] 5 hs fun b_231 w a hs => ?_
       refine qsa 0 [ci 0, ci 0, C.slc none 0 0, C.slc none 0 0] hs rfl fun a w hs => ?_
       refine qpe 1 [(6, .bool false)] hs fun a hs => ?_
       replace hs := hs.addRow none 53 24 eC
       replace hs := hs.addRow none 51 3 eC
       exact hj227 false hm _ _ (hs.go [6] [4, 5, 6, 3] 7 (by kernel_rfl) (by kernel_rfl) (by kernel_rfl))
 ·replace hm := bif_f hm hb
  refine wp_exit ?_
  exact hx51 (Option.some.inj hm).symm _ _ (hs.go [] [] 3 (by kernel_rfl) (by kernel_rfl) (by kernel_rfl))

end Go.Proofs.Ytebgjmhkmmlpeaa
