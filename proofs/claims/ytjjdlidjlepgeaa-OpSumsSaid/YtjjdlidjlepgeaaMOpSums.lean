/- Of each Go function that OpSums comes to: a model in plain Lean, and that the program's call does what the model says; no condition. -/
import Derived.Test.YtjjdlidjlepgeaaProg
import Derived.Test.YtjjdlidjlepgeaaVk
namespace Go.Proofs.Ytjjdlidjlepgeaa
open Go Go.Vk
set_option linter.unusedVariables false

def op_is.m (k : Nat) (x0 : Int) : Option Bool := some ((decide (x0 ≥ 1)) && (decide (x0 ≤ 12)))

set_option maxRecDepth 100000 in
set_option maxHeartbeats 2000000 in
theorem op_is.ok (k : Nat) (x0 : Int) (r : Bool) (hm : op_is.m k x0 = some r) (κ : Ctx) (w : World) (S : List HP) (ho : Own κ w S) :
    Calls Try.prog 112 #[.int .i64 x0] w (fun e w' => e = .returned (.bool r) ∧ Own κ w' S) := by
  unfold op_is.m at hm
  refine Vk.enter [(0, .int .i64 x0)] Try.func112 rfl Try.ntmps112 (by kernel_rfl) (Nat.le_of_ble_eq_true (by kernel_rfl)) ho fun a hs => ?_
  have hcalm : Vk.Calm (bodyPost Try.prog Try.f112 (fun e w' => e = .returned (.bool r) ∧ Own κ w' S)) := Vk.Calm.post
  refine Vk.seq fun K1 hK1 => ?_
  refine Vk.region ?_
  refine Vk.pures 1 [(2, .bool false)] hs (by kernel_rfl) fun a hs => ?_
  replace hs := hs.norm [0] (L' := [(0, .int .i64 x0)]) (S) (by kernel_rfl) (by kernel_rfl)
  refine Vk.done (by kernel_rfl) ?_
  refine hK1 _ _ ?_
  clear hK1
  refine Vk.seq fun K2 hK2 => ?_
  refine Vk.region ?_
  refine Vk.pures 3 [(5, .bool (decide (x0 ≥ 1))), (4, .bool (decide (x0 ≥ 1))), (3, .int .i64 x0)] hs (by kernel_rfl) fun a hs => ?_
  suffices hj3 : ∀ a, St 9 a w κ [(0, .int .i64 x0), (3, .int .i64 x0), (4, .bool (decide (x0 ≥ 1))), (5, .bool (decide (x0 ≥ 1))), (8, .bool ((decide (x0 ≥ 1)) && (decide (x0 ≤ 12))))] (S) → wpFrom Try.prog _ _ 6 a w by
    rcases Bool.eq_false_or_eq_true (decide (x0 ≥ 1)) with hb | hb
    · replace hs := hs.known (t := 5) hb (by kernel_rfl)
      refine Vk.pures 3 [(8, .bool (decide (x0 ≤ 12))), (7, .bool (decide (x0 ≤ 12))), (6, .int .i64 x0)] hs (by kernel_rfl) fun a hs => ?_
      have hq := hs.pick [0, 3, 4, 5, 8] (L' := [(0, .int .i64 x0), (3, .int .i64 x0), (4, .bool (decide (x0 ≥ 1))), (5, .bool true), (8, .bool (decide (x0 ≤ 12)))]) (by kernel_rfl)
      exact hj3 _ (hq.conv (by rw [hb]; rfl))
    · replace hs := hs.known (t := 5) hb (by kernel_rfl)
      refine Vk.pures 3 [(8, .bool false), (7, undef), (6, undef)] hs (by kernel_rfl) fun a hs => ?_
      have hq := hs.pick [0, 3, 4, 5, 8] (L' := [(0, .int .i64 x0), (3, .int .i64 x0), (4, .bool (decide (x0 ≥ 1))), (5, .bool false), (8, .bool false)]) (by kernel_rfl)
      exact hj3 _ (hq.conv (by rw [hb]; rfl))
  intro a hs
  refine Vk.pures 1 [(2, .bool ((decide (x0 ≥ 1)) && (decide (x0 ≤ 12))))] hs (by kernel_rfl) fun a hs => ?_
  replace hs := hs.norm [2] (L' := [(2, .bool ((decide (x0 ≥ 1)) && (decide (x0 ≤ 12))))]) (S) (by kernel_rfl) (by kernel_rfl)
  refine Vk.done (by kernel_rfl) ?_
  refine hK2 _ _ ?_
  clear hK2
  refine wp_ret ?_
  obtain rfl := Option.some.inj hm
  exact Vk.ret1 (P := Try.prog) (fn := Try.f112) (R := fun e w' => e = .returned (.bool ((decide (x0 ≥ 1)) && (decide (x0 ≤ 12)))) ∧ Own κ w' S) (.bool ((decide (x0 ≥ 1)) && (decide (x0 ≤ 12)))) hs rfl (by kernel_rfl) ⟨rfl, hs.own⟩

def octet_Rot.m (k : Nat) (x0 : Int) (x1 : Int) : Option Int := (if 0 ≤ band .i64 x1 63 then (if 0 ≤ IntKind.i64.wrap (64 - (band .i64 x1 63)) then some (bor .u64 (shl .u64 x0 (band .i64 x1 63)) (shr .u64 x0 (IntKind.i64.wrap (64 - (band .i64 x1 63))))) else none) else none)

set_option maxRecDepth 100000 in
set_option maxHeartbeats 2000000 in
theorem octet_Rot.ok (k : Nat) (x0 : Int) (x1 : Int) (r : Int) (hm : octet_Rot.m k x0 x1 = some r) (κ : Ctx) (w : World) (S : List HP) (ho : Own κ w S) :
    Calls Try.prog 72 #[.int .u64 x0, .int .i64 x1] w (fun e w' => e = .returned (.int .u64 r) ∧ Own κ w' S) := by
  unfold octet_Rot.m at hm
  refine Vk.enter [(0, .int .u64 x0), (1, .int .i64 x1)] Try.func72 rfl Try.ntmps72 (by kernel_rfl) (Nat.le_of_ble_eq_true (by kernel_rfl)) ho fun a hs => ?_
  have hcalm : Vk.Calm (bodyPost Try.prog Try.f72 (fun e w' => e = .returned (.int .u64 r) ∧ Own κ w' S)) := Vk.Calm.post
  refine Vk.seq fun K1 hK1 => ?_
  refine Vk.region ?_
  refine Vk.pures 1 [(4, .int .u64 0)] hs (by kernel_rfl) fun a hs => ?_
  replace hs := hs.norm [0, 1] (L' := [(0, .int .u64 x0), (1, .int .i64 x1)]) (S) (by kernel_rfl) (by kernel_rfl)
  refine Vk.done (by kernel_rfl) ?_
  refine hK1 _ _ ?_
  clear hK1
  refine Vk.seq fun K2 hK2 => ?_
  refine Vk.region ?_
  refine Vk.pures 3 [(1, .int .i64 (band .i64 x1 63)), (6, .int .i64 (band .i64 x1 63)), (5, .int .i64 x1)] hs (by kernel_rfl) fun a hs => ?_
  replace hs := hs.norm [0, 1] (L' := [(0, .int .u64 x0), (1, .int .i64 (band .i64 x1 63))]) (S) (by kernel_rfl) (by kernel_rfl)
  refine Vk.done (by kernel_rfl) ?_
  refine hK2 _ _ ?_
  clear hK2
  refine Vk.seq fun K3 hK3 => ?_
  refine Vk.drawnS 9 hs (by kernel_rfl) fun w hs => ?_
  have hcl := hs.own
  refine Vk.dPures [0, 1, 3, 4, 5] [(12, .int .i64 (IntKind.i64.wrap (64 - (band .i64 x1 63)))), (11, .int .i64 (band .i64 x1 63)), (10, .int .u64 x0), (8, .int .i64 (band .i64 x1 63)), (7, .int .u64 x0)] hs (by kernel_rfl) (by repeat' (first | exact hcalm | apply Vk.Calm.then | apply Vk.Calm.inBlock)) hcl (by kernel_rfl) (fuel := 4) rfl fun a hs => ?_
  obtain ⟨h4, hm⟩ := ite_t hm
  refine Vk.dTake (i := 2) (some 9) (.int .u64 (shl .u64 x0 (band .i64 x1 63))) hs (by kernel_rfl) (by repeat' (first | exact hcalm | apply Vk.Calm.then | apply Vk.Calm.inBlock)) hcl (by kernel_rfl) (op := (.binOp .shl 23 (.tmp 7) (.tmp 8) 3)) (by kernel_rfl) (by kernel_rfl) (fun w hw o ho => run_shl (k' := .i64) ho (by kernel_rfl) (by kernel_rfl) h4 _) fun a hs => ?_
  obtain ⟨h5, hm⟩ := ite_t hm
  refine Vk.dTake (i := 6) (some 13) (.int .u64 (shr .u64 x0 (IntKind.i64.wrap (64 - (band .i64 x1 63))))) hs (by kernel_rfl) (by repeat' (first | exact hcalm | apply Vk.Calm.then | apply Vk.Calm.inBlock)) hcl (by kernel_rfl) (op := (.binOp .shr 23 (.tmp 10) (.tmp 12) 3)) (by kernel_rfl) (by kernel_rfl) (fun w hw o ho => run_shr (k' := .i64) ho (by kernel_rfl) (by kernel_rfl) h5 _) fun a hs => ?_
  refine Vk.dPures [7, 8] [(4, .int .u64 (bor .u64 (shl .u64 x0 (band .i64 x1 63)) (shr .u64 x0 (IntKind.i64.wrap (64 - (band .i64 x1 63)))))), (14, .int .u64 (bor .u64 (shl .u64 x0 (band .i64 x1 63)) (shr .u64 x0 (IntKind.i64.wrap (64 - (band .i64 x1 63))))))] hs (by kernel_rfl) (by repeat' (first | exact hcalm | apply Vk.Calm.then | apply Vk.Calm.inBlock)) hcl (by kernel_rfl) (fuel := 0) rfl fun a hs => ?_
  replace hs := hs.norm [4] (L' := [(4, .int .u64 (bor .u64 (shl .u64 x0 (band .i64 x1 63)) (shr .u64 x0 (IntKind.i64.wrap (64 - (band .i64 x1 63))))))]) (S) (by kernel_rfl) (by kernel_rfl)
  refine Vk.dDone (by kernel_rfl) ?_
  refine hK3 _ _ ?_
  clear hK3
  refine wp_ret ?_
  obtain rfl := Option.some.inj hm
  exact Vk.ret1 (P := Try.prog) (fn := Try.f72) (R := fun e w' => e = .returned (.int .u64 (bor .u64 (shl .u64 x0 (band .i64 x1 63)) (shr .u64 x0 (IntKind.i64.wrap (64 - (band .i64 x1 63)))))) ∧ Own κ w' S) (.int .u64 (bor .u64 (shl .u64 x0 (band .i64 x1 63)) (shr .u64 x0 (IntKind.i64.wrap (64 - (band .i64 x1 63)))))) hs rfl (by kernel_rfl) ⟨rfl, hs.own⟩

def visorref01_Mod.m (k : Nat) (x0 : Int) (x1 : Int) : Option Int := (if x1 ≠ 0 then (bif decide ((Int.tmod x0 x1) < 0) then (if x1 ≠ 0 then some (IntKind.i64.wrap ((Int.tmod x0 x1) + x1)) else none) else (if x1 ≠ 0 then some (Int.tmod x0 x1) else none)) else none)

set_option maxRecDepth 100000 in
set_option maxHeartbeats 2000000 in
theorem visorref01_Mod.ok (k : Nat) (x0 : Int) (x1 : Int) (r : Int) (hm : visorref01_Mod.m k x0 x1 = some r) (κ : Ctx) (w : World) (S : List HP) (ho : Own κ w S) :
    Calls Try.prog 111 #[.int .i64 x0, .int .i64 x1] w (fun e w' => e = .returned (.int .i64 r) ∧ Own κ w' S) := by
  unfold visorref01_Mod.m at hm
  refine Vk.enter [(0, .int .i64 x0), (1, .int .i64 x1)] Try.func111 rfl Try.ntmps111 (by kernel_rfl) (Nat.le_of_ble_eq_true (by kernel_rfl)) ho fun a hs => ?_
  have hcalm : Vk.Calm (bodyPost Try.prog Try.f111 (fun e w' => e = .returned (.int .i64 r) ∧ Own κ w' S)) := Vk.Calm.post
  refine Vk.seq fun K1 hK1 => ?_
  refine Vk.region ?_
  refine Vk.pures 1 [(4, .int .i64 0)] hs (by kernel_rfl) fun a hs => ?_
  replace hs := hs.norm [0, 1] (L' := [(0, .int .i64 x0), (1, .int .i64 x1)]) (S) (by kernel_rfl) (by kernel_rfl)
  refine Vk.done (by kernel_rfl) ?_
  refine hK1 _ _ ?_
  clear hK1
  refine Vk.seq fun K2 hK2 => ?_
  refine Vk.seq fun K3 hK3 => ?_
  refine Vk.region ?_
  refine Vk.pures 2 [(6, .int .i64 x1), (5, .int .i64 x0)] hs (by kernel_rfl) fun a hs => ?_
  obtain ⟨h4, hm⟩ := ite_t hm
  refine Vk.step (Vk.value (some 7) (.int .i64 (Int.tmod x0 x1)) hs (by kernel_rfl) (op := (.binOp .rem 3 (.tmp 5) (.tmp 6) 3)) (by kernel_rfl) (fun o ho => run_rem ho (by kernel_rfl) (by kernel_rfl) h4 _) fun a hs => ?_)
  refine Vk.pures 1 [(8, .bool (decide ((Int.tmod x0 x1) < 0)))] hs (by kernel_rfl) fun a hs => ?_
  replace hs := hs.norm [0, 1, 8] (L' := [(0, .int .i64 x0), (1, .int .i64 x1), (8, .bool (decide ((Int.tmod x0 x1) < 0)))]) (S) (by kernel_rfl) (by kernel_rfl)
  refine Vk.done (by kernel_rfl) ?_
  refine hK3 _ _ ?_
  clear hK3
  refine Vk.condS (b := decide ((Int.tmod x0 x1) < 0)) hs (by kernel_rfl) (by kernel_rfl) (fun hb => ?_) (fun hb => ?_)
  · replace hm := bif_t hm hb
    refine Vk.seq fun K5 hK5 => ?_
    refine Vk.region ?_
    refine Vk.pures 2 [(10, .int .i64 x1), (9, .int .i64 x0)] hs (by kernel_rfl) fun a hs => ?_
    obtain ⟨h6, hm⟩ := ite_t hm
    refine Vk.step (Vk.value (some 11) (.int .i64 (Int.tmod x0 x1)) hs (by kernel_rfl) (op := (.binOp .rem 3 (.tmp 9) (.tmp 10) 3)) (by kernel_rfl) (fun o ho => run_rem ho (by kernel_rfl) (by kernel_rfl) h6 _) fun a hs => ?_)
    refine Vk.pures 3 [(4, .int .i64 (IntKind.i64.wrap ((Int.tmod x0 x1) + x1))), (13, .int .i64 (IntKind.i64.wrap ((Int.tmod x0 x1) + x1))), (12, .int .i64 x1)] hs (by kernel_rfl) fun a hs => ?_
    replace hs := hs.norm [4] (L' := [(4, .int .i64 (IntKind.i64.wrap ((Int.tmod x0 x1) + x1)))]) (S) (by kernel_rfl) (by kernel_rfl)
    refine Vk.done (by kernel_rfl) ?_
    refine hK5 _ _ ?_
    clear hK5
    refine wp_ret ?_
    obtain rfl := Option.some.inj hm
    exact Vk.ret1 (P := Try.prog) (fn := Try.f111) (R := fun e w' => e = .returned (.int .i64 (IntKind.i64.wrap ((Int.tmod x0 x1) + x1))) ∧ Own κ w' S) (.int .i64 (IntKind.i64.wrap ((Int.tmod x0 x1) + x1))) hs rfl (by kernel_rfl) ⟨rfl, hs.own⟩
  · replace hm := bif_f hm hb
    refine wp_skip ?_
    refine hK2 _ _ ?_
    clear hK2
    refine Vk.seq fun K7 hK7 => ?_
    refine Vk.region ?_
    refine Vk.pures 2 [(15, .int .i64 x1), (14, .int .i64 x0)] hs (by kernel_rfl) fun a hs => ?_
    obtain ⟨h8, hm⟩ := ite_t hm
    refine Vk.step (Vk.value (some 16) (.int .i64 (Int.tmod x0 x1)) hs (by kernel_rfl) (op := (.binOp .rem 3 (.tmp 14) (.tmp 15) 3)) (by kernel_rfl) (fun o ho => run_rem ho (by kernel_rfl) (by kernel_rfl) h8 _) fun a hs => ?_)
    refine Vk.pures 1 [(4, .int .i64 (Int.tmod x0 x1))] hs (by kernel_rfl) fun a hs => ?_
    replace hs := hs.norm [4] (L' := [(4, .int .i64 (Int.tmod x0 x1))]) (S) (by kernel_rfl) (by kernel_rfl)
    refine Vk.done (by kernel_rfl) ?_
    refine hK7 _ _ ?_
    clear hK7
    refine wp_ret ?_
    obtain rfl := Option.some.inj hm
    exact Vk.ret1 (P := Try.prog) (fn := Try.f111) (R := fun e w' => e = .returned (.int .i64 (Int.tmod x0 x1)) ∧ Own κ w' S) (.int .i64 (Int.tmod x0 x1)) hs rfl (by kernel_rfl) ⟨rfl, hs.own⟩

def visorref01_Rot.l4 (x1 : Int) : Nat → Int → Int → Option (Int)
  | 0, _, _ => none
  | k + 1, q5, q6 => (visorref01_Mod.m k x1 64).bind fun v10 => (bif decide (q6 < v10) then visorref01_Rot.l4 x1 k (IntKind.u64.wrap ((IntKind.u64.wrap (q5 * 2)) + (IntKind.u64.wrap (Int.tdiv q5 9223372036854775808)))) (IntKind.i64.wrap (q6 + 1)) else some q5)
def visorref01_Rot.m (k : Nat) (x0 : Int) (x1 : Int) : Option Int := (visorref01_Rot.l4 x1 k x0 0).bind fun p12 => some p12

set_option maxRecDepth 100000 in
set_option maxHeartbeats 2000000 in
theorem visorref01_Rot.ok (k : Nat) (x0 : Int) (x1 : Int) (r : Int) (hm : visorref01_Rot.m k x0 x1 = some r) (κ : Ctx) (w : World) (S : List HP) (ho : Own κ w S) :
    Calls Try.prog 73 #[.int .u64 x0, .int .i64 x1] w (fun e w' => e = .returned (.int .u64 r) ∧ Own κ w' S) := by
  unfold visorref01_Rot.m at hm
  refine Vk.enter [(0, .int .u64 x0), (1, .int .i64 x1)] Try.func73 rfl Try.ntmps73 (by kernel_rfl) (Nat.le_of_ble_eq_true (by kernel_rfl)) ho fun a hs => ?_
  have hcalm : Vk.Calm (bodyPost Try.prog Try.f73 (fun e w' => e = .returned (.int .u64 r) ∧ Own κ w' S)) := Vk.Calm.post
  refine Vk.seq fun K1 hK1 => ?_
  refine Vk.region ?_
  refine Vk.pures 1 [(4, .int .u64 0)] hs (by kernel_rfl) fun a hs => ?_
  replace hs := hs.norm [0, 1] (L' := [(0, .int .u64 x0), (1, .int .i64 x1)]) (S) (by kernel_rfl) (by kernel_rfl)
  refine Vk.done (by kernel_rfl) ?_
  refine hK1 _ _ ?_
  clear hK1
  refine Vk.seq fun K2 hK2 => ?_
  refine Vk.seq fun K3 hK3 => ?_
  refine Vk.region ?_
  refine Vk.pures 1 [(5, .int .i64 0)] hs (by kernel_rfl) fun a hs => ?_
  replace hs := hs.norm [0, 1, 5] (L' := [(0, .int .u64 x0), (1, .int .i64 x1), (5, .int .i64 0)]) (S) (by kernel_rfl) (by kernel_rfl)
  refine Vk.done (by kernel_rfl) ?_
  refine hK3 _ _ ?_
  clear hK3
  refine wp_block ?_
  obtain ⟨r4, hl4, hm⟩ := bind_t hm
  have hx4 : ∀ (p12 : Int), r4 = p12 → ∀ (a : Act) (w : World), St 18 a w κ [(0, .int .u64 p12)] (S) → K2 a w := by
    intro p12 he a w hs
    subst r4
    refine hK2 _ _ ?_
    clear hK2
    refine Vk.seq fun K13 hK13 => ?_
    refine Vk.region ?_
    refine Vk.pures 2 [(4, .int .u64 p12), (17, .int .u64 p12)] hs (by kernel_rfl) fun a hs => ?_
    replace hs := hs.norm [4] (L' := [(4, .int .u64 p12)]) (S) (by kernel_rfl) (by kernel_rfl)
    refine Vk.done (by kernel_rfl) ?_
    refine hK13 _ _ ?_
    clear hK13
    refine wp_ret ?_
    obtain rfl := Option.some.inj hm
    exact Vk.ret1 (P := Try.prog) (fn := Try.f73) (R := fun e w' => e = .returned (.int .u64 p12) ∧ Own κ w' S) (.int .u64 p12) hs rfl (by kernel_rfl) ⟨rfl, hs.own⟩
  refine Vk.loopBy (fun k (s : Int × Int) a w => visorref01_Rot.l4 x1 k s.1 s.2 = some r4 ∧ St 18 a w κ [(0, .int .u64 s.1), (1, .int .i64 x1), (5, .int .i64 s.2)] (S)) k (x0, 0) ⟨hl4, hs.norm [0, 1, 5] (S) (by kernel_rfl) (by kernel_rfl)⟩ (fun s a w h => by have h1 := h.1; simp [visorref01_Rot.l4] at h1) (fun k KL4 ih s a w h => ?_)
  obtain ⟨q5, q6⟩ := s
  obtain ⟨hm, hs⟩ := h
  try dsimp only at hm hs
  rw [visorref01_Rot.l4] at hm
  refine Vk.seq fun K7 hK7 => ?_
  refine Vk.seq fun K8 hK8 => ?_
  refine Vk.region ?_
  refine Vk.pures 2 [(7, .int .i64 x1), (6, .int .i64 q6)] hs (by kernel_rfl) fun a hs => ?_
  obtain ⟨v10, h9, hm⟩ := bind_t hm
  refine Vk.step (Vk.call (some 8) 111 #[.int .i64 x1, .int .i64 64] hs (by kernel_rfl) (by kernel_rfl) (by kernel_rfl) ?_)
  refine (visorref01_Mod.ok k x1 64 v10 h9 κ w _ hs.own).mono ?_
  rintro _ w ⟨rfl, how⟩
  refine ⟨_, _, _, rfl, how, fun a hs => ?_⟩
  refine Vk.pures 1 [(9, .bool (decide (q6 < v10)))] hs (by kernel_rfl) fun a hs => ?_
  replace hs := hs.norm [0, 1, 5, 9] (L' := [(0, .int .u64 q5), (1, .int .i64 x1), (5, .int .i64 q6), (9, .bool (decide (q6 < v10)))]) (S) (by kernel_rfl) (by kernel_rfl)
  refine Vk.done (by kernel_rfl) ?_
  refine hK8 _ _ ?_
  clear hK8
  refine Vk.condS (b := decide (q6 < v10)) hs (by kernel_rfl) (by kernel_rfl) (fun hb => ?_) (fun hb => ?_)
  · replace hm := bif_t hm hb
    refine wp_skip ?_
    refine hK7 _ _ ?_
    clear hK7
    refine Vk.seq fun K11 hK11 => ?_
    refine wp_block ?_
    refine Vk.region ?_
    refine Vk.pures 6 [(0, .int .u64 (IntKind.u64.wrap ((IntKind.u64.wrap (q5 * 2)) + (IntKind.u64.wrap (Int.tdiv q5 9223372036854775808))))), (16, .int .u64 (IntKind.u64.wrap ((IntKind.u64.wrap (q5 * 2)) + (IntKind.u64.wrap (Int.tdiv q5 9223372036854775808))))), (15, .int .u64 (IntKind.u64.wrap (Int.tdiv q5 9223372036854775808))), (14, .int .u64 q5), (13, .int .u64 (IntKind.u64.wrap (q5 * 2))), (12, .int .u64 q5)] hs (by kernel_rfl) fun a hs => ?_
    replace hs := hs.norm [0, 1, 5] (L' := [(0, .int .u64 (IntKind.u64.wrap ((IntKind.u64.wrap (q5 * 2)) + (IntKind.u64.wrap (Int.tdiv q5 9223372036854775808))))), (1, .int .i64 x1), (5, .int .i64 q6)]) (S) (by kernel_rfl) (by kernel_rfl)
    refine Vk.done (by kernel_rfl) ?_
    refine hK11 _ _ ?_
    clear hK11
    refine Vk.region ?_
    refine Vk.pures 3 [(5, .int .i64 (IntKind.i64.wrap (q6 + 1))), (11, .int .i64 (IntKind.i64.wrap (q6 + 1))), (10, .int .i64 q6)] hs (by kernel_rfl) fun a hs => ?_
    replace hs := hs.norm [0, 1, 5] (L' := [(0, .int .u64 (IntKind.u64.wrap ((IntKind.u64.wrap (q5 * 2)) + (IntKind.u64.wrap (Int.tdiv q5 9223372036854775808))))), (1, .int .i64 x1), (5, .int .i64 (IntKind.i64.wrap (q6 + 1)))]) (S) (by kernel_rfl) (by kernel_rfl)
    refine Vk.done (by kernel_rfl) ?_
    refine ih ((IntKind.u64.wrap ((IntKind.u64.wrap (q5 * 2)) + (IntKind.u64.wrap (Int.tdiv q5 9223372036854775808)))), (IntKind.i64.wrap (q6 + 1))) _ _ ⟨hm, (hs).norm [0, 1, 5] (S) (by kernel_rfl) (by kernel_rfl)⟩
  · replace hm := bif_f hm hb
    refine wp_exit ?_
    exact hx4 q5 (Option.some.inj hm).symm _ _ ((hs).norm [0] (S) (by kernel_rfl) (by kernel_rfl))

def visorref01_Low.l5 (x0 : Int) : Nat → Int → Int → Option (Int)
  | 0, _, _ => none
  | k + 1, q6, q7 => (bif (decide (q7 < x0)) && (decide (q7 < 64)) then visorref01_Low.l5 x0 k (IntKind.u64.wrap ((IntKind.u64.wrap (q6 * 2)) + 1)) (IntKind.i64.wrap (q7 + 1)) else some q6)
def visorref01_Low.m (k : Nat) (x0 : Int) : Option Int := (visorref01_Low.l5 x0 k 0 0).bind fun p12 => some p12

set_option maxRecDepth 100000 in
set_option maxHeartbeats 2000000 in
theorem visorref01_Low.ok (k : Nat) (x0 : Int) (r : Int) (hm : visorref01_Low.m k x0 = some r) (κ : Ctx) (w : World) (S : List HP) (ho : Own κ w S) :
    Calls Try.prog 74 #[.int .i64 x0] w (fun e w' => e = .returned (.int .u64 r) ∧ Own κ w' S) := by
  unfold visorref01_Low.m at hm
  refine Vk.enter [(0, .int .i64 x0)] Try.func74 rfl Try.ntmps74 (by kernel_rfl) (Nat.le_of_ble_eq_true (by kernel_rfl)) ho fun a hs => ?_
  have hcalm : Vk.Calm (bodyPost Try.prog Try.f74 (fun e w' => e = .returned (.int .u64 r) ∧ Own κ w' S)) := Vk.Calm.post
  refine Vk.seq fun K1 hK1 => ?_
  refine Vk.region ?_
  refine Vk.pures 1 [(2, .int .u64 0)] hs (by kernel_rfl) fun a hs => ?_
  replace hs := hs.norm [0] (L' := [(0, .int .i64 x0)]) (S) (by kernel_rfl) (by kernel_rfl)
  refine Vk.done (by kernel_rfl) ?_
  refine hK1 _ _ ?_
  clear hK1
  refine Vk.seq fun K2 hK2 => ?_
  refine Vk.region ?_
  refine Vk.pures 1 [(3, .int .u64 0)] hs (by kernel_rfl) fun a hs => ?_
  replace hs := hs.norm [0, 3] (L' := [(0, .int .i64 x0), (3, .int .u64 0)]) (S) (by kernel_rfl) (by kernel_rfl)
  refine Vk.done (by kernel_rfl) ?_
  refine hK2 _ _ ?_
  clear hK2
  refine Vk.seq fun K3 hK3 => ?_
  refine Vk.seq fun K4 hK4 => ?_
  refine Vk.region ?_
  refine Vk.pures 1 [(4, .int .i64 0)] hs (by kernel_rfl) fun a hs => ?_
  replace hs := hs.norm [0, 3, 4] (L' := [(0, .int .i64 x0), (3, .int .u64 0), (4, .int .i64 0)]) (S) (by kernel_rfl) (by kernel_rfl)
  refine Vk.done (by kernel_rfl) ?_
  refine hK4 _ _ ?_
  clear hK4
  refine wp_block ?_
  obtain ⟨r5, hl5, hm⟩ := bind_t hm
  have hx5 : ∀ (p12 : Int), r5 = p12 → ∀ (a : Act) (w : World), St 18 a w κ [(3, .int .u64 p12)] (S) → K3 a w := by
    intro p12 he a w hs
    subst r5
    refine hK3 _ _ ?_
    clear hK3
    refine Vk.seq fun K13 hK13 => ?_
    refine Vk.region ?_
    refine Vk.pures 2 [(2, .int .u64 p12), (17, .int .u64 p12)] hs (by kernel_rfl) fun a hs => ?_
    replace hs := hs.norm [2] (L' := [(2, .int .u64 p12)]) (S) (by kernel_rfl) (by kernel_rfl)
    refine Vk.done (by kernel_rfl) ?_
    refine hK13 _ _ ?_
    clear hK13
    refine wp_ret ?_
    obtain rfl := Option.some.inj hm
    exact Vk.ret1 (P := Try.prog) (fn := Try.f74) (R := fun e w' => e = .returned (.int .u64 p12) ∧ Own κ w' S) (.int .u64 p12) hs rfl (by kernel_rfl) ⟨rfl, hs.own⟩
  refine Vk.loopBy (fun k (s : Int × Int) a w => visorref01_Low.l5 x0 k s.1 s.2 = some r5 ∧ St 18 a w κ [(0, .int .i64 x0), (3, .int .u64 s.1), (4, .int .i64 s.2)] (S)) k (0, 0) ⟨hl5, hs.norm [0, 3, 4] (S) (by kernel_rfl) (by kernel_rfl)⟩ (fun s a w h => by have h1 := h.1; simp [visorref01_Low.l5] at h1) (fun k KL5 ih s a w h => ?_)
  obtain ⟨q6, q7⟩ := s
  obtain ⟨hm, hs⟩ := h
  try dsimp only at hm hs
  rw [visorref01_Low.l5] at hm
  refine Vk.seq fun K8 hK8 => ?_
  refine Vk.seq fun K9 hK9 => ?_
  refine Vk.region ?_
  refine Vk.pures 4 [(8, .bool (decide (q7 < x0))), (7, .bool (decide (q7 < x0))), (6, .int .i64 x0), (5, .int .i64 q7)] hs (by kernel_rfl) fun a hs => ?_
  suffices hj10 : ∀ a, St 18 a w κ [(0, .int .i64 x0), (3, .int .u64 q6), (4, .int .i64 q7), (5, .int .i64 q7), (6, .int .i64 x0), (7, .bool (decide (q7 < x0))), (8, .bool (decide (q7 < x0))), (11, .bool ((decide (q7 < x0)) && (decide (q7 < 64))))] (S) → wpFrom Try.prog _ _ 7 a w by
    rcases Bool.eq_false_or_eq_true (decide (q7 < x0)) with hb | hb
    · replace hs := hs.known (t := 8) hb (by kernel_rfl)
      refine Vk.pures 3 [(11, .bool (decide (q7 < 64))), (10, .bool (decide (q7 < 64))), (9, .int .i64 q7)] hs (by kernel_rfl) fun a hs => ?_
      have hq := hs.pick [0, 3, 4, 5, 6, 7, 8, 11] (L' := [(0, .int .i64 x0), (3, .int .u64 q6), (4, .int .i64 q7), (5, .int .i64 q7), (6, .int .i64 x0), (7, .bool (decide (q7 < x0))), (8, .bool true), (11, .bool (decide (q7 < 64)))]) (by kernel_rfl)
      exact hj10 _ (hq.conv (by rw [hb]; rfl))
    · replace hs := hs.known (t := 8) hb (by kernel_rfl)
      refine Vk.pures 3 [(11, .bool false), (10, undef), (9, undef)] hs (by kernel_rfl) fun a hs => ?_
      have hq := hs.pick [0, 3, 4, 5, 6, 7, 8, 11] (L' := [(0, .int .i64 x0), (3, .int .u64 q6), (4, .int .i64 q7), (5, .int .i64 q7), (6, .int .i64 x0), (7, .bool (decide (q7 < x0))), (8, .bool false), (11, .bool false)]) (by kernel_rfl)
      exact hj10 _ (hq.conv (by rw [hb]; rfl))
  intro a hs
  replace hs := hs.norm [0, 3, 4, 11] (L' := [(0, .int .i64 x0), (3, .int .u64 q6), (4, .int .i64 q7), (11, .bool ((decide (q7 < x0)) && (decide (q7 < 64))))]) (S) (by kernel_rfl) (by kernel_rfl)
  refine Vk.done (by kernel_rfl) ?_
  refine hK9 _ _ ?_
  clear hK9
  refine Vk.condS (b := (decide (q7 < x0)) && (decide (q7 < 64))) hs (by kernel_rfl) (by kernel_rfl) (fun hb => ?_) (fun hb => ?_)
  · replace hm := bif_t hm hb
    refine wp_skip ?_
    refine hK8 _ _ ?_
    clear hK8
    refine Vk.seq fun K11 hK11 => ?_
    refine wp_block ?_
    refine Vk.region ?_
    refine Vk.pures 4 [(3, .int .u64 (IntKind.u64.wrap ((IntKind.u64.wrap (q6 * 2)) + 1))), (16, .int .u64 (IntKind.u64.wrap ((IntKind.u64.wrap (q6 * 2)) + 1))), (15, .int .u64 (IntKind.u64.wrap (q6 * 2))), (14, .int .u64 q6)] hs (by kernel_rfl) fun a hs => ?_
    replace hs := hs.norm [0, 3, 4] (L' := [(0, .int .i64 x0), (3, .int .u64 (IntKind.u64.wrap ((IntKind.u64.wrap (q6 * 2)) + 1))), (4, .int .i64 q7)]) (S) (by kernel_rfl) (by kernel_rfl)
    refine Vk.done (by kernel_rfl) ?_
    refine hK11 _ _ ?_
    clear hK11
    refine Vk.region ?_
    refine Vk.pures 3 [(4, .int .i64 (IntKind.i64.wrap (q7 + 1))), (13, .int .i64 (IntKind.i64.wrap (q7 + 1))), (12, .int .i64 q7)] hs (by kernel_rfl) fun a hs => ?_
    replace hs := hs.norm [0, 3, 4] (L' := [(0, .int .i64 x0), (3, .int .u64 (IntKind.u64.wrap ((IntKind.u64.wrap (q6 * 2)) + 1))), (4, .int .i64 (IntKind.i64.wrap (q7 + 1)))]) (S) (by kernel_rfl) (by kernel_rfl)
    refine Vk.done (by kernel_rfl) ?_
    refine ih ((IntKind.u64.wrap ((IntKind.u64.wrap (q6 * 2)) + 1)), (IntKind.i64.wrap (q7 + 1))) _ _ ⟨hm, (hs).norm [0, 3, 4] (S) (by kernel_rfl) (by kernel_rfl)⟩
  · replace hm := bif_f hm hb
    refine wp_exit ?_
    exact hx5 q6 (Option.some.inj hm).symm _ _ ((hs).norm [3] (S) (by kernel_rfl) (by kernel_rfl))

def op_names.m (k : Nat) : Option Cells := some ([C.str (⟨#[]⟩ : ByteArray), C.str (⟨#[114, 97, 110, 100]⟩ : ByteArray), C.str (⟨#[107, 101, 121]⟩ : ByteArray), C.str (⟨#[99, 111, 110, 115, 116]⟩ : ByteArray), C.str (⟨#[116, 111, 108, 100]⟩ : ByteArray), C.str (⟨#[120, 111, 114]⟩ : ByteArray), C.str (⟨#[110, 111, 116]⟩ : ByteArray), C.str (⟨#[97, 110, 100]⟩ : ByteArray), C.str (⟨#[109, 97, 115, 107]⟩ : ByteArray), C.str (⟨#[115, 104, 108]⟩ : ByteArray), C.str (⟨#[115, 104, 114]⟩ : ByteArray), C.str (⟨#[114, 111, 116]⟩ : ByteArray), C.str (⟨#[111, 112, 101, 110]⟩ : ByteArray)])

set_option maxRecDepth 100000 in
set_option maxHeartbeats 2000000 in
theorem op_names.ok (k : Nat) (r : Cells) (hm : op_names.m k = some r) (κ : Ctx) (w : World) (S : List HP) (ho : Own κ w S) :
    Calls Try.prog 113 #[] w (fun e w' => e = .returned (.agg (vals r)) ∧ Own κ w' S) := by
  unfold op_names.m at hm
  refine Vk.enter [] Try.func113 rfl Try.ntmps113 (by kernel_rfl) (Nat.le_of_ble_eq_true (by kernel_rfl)) ho fun a hs => ?_
  have hcalm : Vk.Calm (bodyPost Try.prog Try.f113 (fun e w' => e = .returned (.agg (vals r)) ∧ Own κ w' S)) := Vk.Calm.post
  refine Vk.seq fun K1 hK1 => ?_
  refine Vk.region ?_
  refine Vk.step (Vk.alloc 0 171 ([C.str (⟨#[]⟩ : ByteArray), C.str (⟨#[]⟩ : ByteArray), C.str (⟨#[]⟩ : ByteArray), C.str (⟨#[]⟩ : ByteArray), C.str (⟨#[]⟩ : ByteArray), C.str (⟨#[]⟩ : ByteArray), C.str (⟨#[]⟩ : ByteArray), C.str (⟨#[]⟩ : ByteArray), C.str (⟨#[]⟩ : ByteArray), C.str (⟨#[]⟩ : ByteArray), C.str (⟨#[]⟩ : ByteArray), C.str (⟨#[]⟩ : ByteArray), C.str (⟨#[]⟩ : ByteArray)]) hs (by kernel_rfl) (by kernel_rfl) (by kernel_rfl) fun b2 w a hs => ?_)
  replace hs := hs.norm [0] (L' := [(0, .pointer (some ⟨b2, 0, none⟩))]) (pt b2 (blk ([C.str (⟨#[]⟩ : ByteArray), C.str (⟨#[]⟩ : ByteArray), C.str (⟨#[]⟩ : ByteArray), C.str (⟨#[]⟩ : ByteArray), C.str (⟨#[]⟩ : ByteArray), C.str (⟨#[]⟩ : ByteArray), C.str (⟨#[]⟩ : ByteArray), C.str (⟨#[]⟩ : ByteArray), C.str (⟨#[]⟩ : ByteArray), C.str (⟨#[]⟩ : ByteArray), C.str (⟨#[]⟩ : ByteArray), C.str (⟨#[]⟩ : ByteArray), C.str (⟨#[]⟩ : ByteArray)]) 171) :: S) (by kernel_rfl) (by kernel_rfl)
  refine Vk.done (by kernel_rfl) ?_
  refine hK1 _ _ ?_
  clear hK1
  refine Vk.seq fun K3 hK3 => ?_
  refine Vk.region ?_
  refine Vk.pures 1 [(1, .agg (vals ([C.str (⟨#[]⟩ : ByteArray), C.str (⟨#[114, 97, 110, 100]⟩ : ByteArray), C.str (⟨#[107, 101, 121]⟩ : ByteArray), C.str (⟨#[99, 111, 110, 115, 116]⟩ : ByteArray), C.str (⟨#[116, 111, 108, 100]⟩ : ByteArray), C.str (⟨#[120, 111, 114]⟩ : ByteArray), C.str (⟨#[110, 111, 116]⟩ : ByteArray), C.str (⟨#[97, 110, 100]⟩ : ByteArray), C.str (⟨#[109, 97, 115, 107]⟩ : ByteArray), C.str (⟨#[115, 104, 108]⟩ : ByteArray), C.str (⟨#[115, 104, 114]⟩ : ByteArray), C.str (⟨#[114, 111, 116]⟩ : ByteArray), C.str (⟨#[111, 112, 101, 110]⟩ : ByteArray)])))] hs (by kernel_rfl) fun a hs => ?_
  refine Vk.step (Vk.storeA (ty := 171) (x := (.tmp 0)) (y := (.tmp 1)) (sz := 13) ([C.str (⟨#[]⟩ : ByteArray), C.str (⟨#[114, 97, 110, 100]⟩ : ByteArray), C.str (⟨#[107, 101, 121]⟩ : ByteArray), C.str (⟨#[99, 111, 110, 115, 116]⟩ : ByteArray), C.str (⟨#[116, 111, 108, 100]⟩ : ByteArray), C.str (⟨#[120, 111, 114]⟩ : ByteArray), C.str (⟨#[110, 111, 116]⟩ : ByteArray), C.str (⟨#[97, 110, 100]⟩ : ByteArray), C.str (⟨#[109, 97, 115, 107]⟩ : ByteArray), C.str (⟨#[115, 104, 108]⟩ : ByteArray), C.str (⟨#[115, 104, 114]⟩ : ByteArray), C.str (⟨#[114, 111, 116]⟩ : ByteArray), C.str (⟨#[111, 112, 101, 110]⟩ : ByteArray)]) 0 hs (by kernel_rfl) (by kernel_rfl) (by kernel_rfl) (by kernel_rfl) (by kernel_rfl) rfl (by kernel_rfl) rfl (Eq.trans (b := 13) rfl (Eq.symm rfl)) fun a w hs => ?_)
  replace hs := hs.norm [0] (L' := [(0, .pointer (some ⟨b2, 0, none⟩))]) (pt b2 (blk ([C.str (⟨#[]⟩ : ByteArray), C.str (⟨#[114, 97, 110, 100]⟩ : ByteArray), C.str (⟨#[107, 101, 121]⟩ : ByteArray), C.str (⟨#[99, 111, 110, 115, 116]⟩ : ByteArray), C.str (⟨#[116, 111, 108, 100]⟩ : ByteArray), C.str (⟨#[120, 111, 114]⟩ : ByteArray), C.str (⟨#[110, 111, 116]⟩ : ByteArray), C.str (⟨#[97, 110, 100]⟩ : ByteArray), C.str (⟨#[109, 97, 115, 107]⟩ : ByteArray), C.str (⟨#[115, 104, 108]⟩ : ByteArray), C.str (⟨#[115, 104, 114]⟩ : ByteArray), C.str (⟨#[114, 111, 116]⟩ : ByteArray), C.str (⟨#[111, 112, 101, 110]⟩ : ByteArray)]) 171) :: S) (by kernel_rfl) (by kernel_rfl)
  refine Vk.done (by kernel_rfl) ?_
  refine hK3 _ _ ?_
  clear hK3
  refine wp_ret ?_
  obtain rfl := Option.some.inj hm
  exact Vk.retC (P := Try.prog) (fn := Try.f113) (R := fun e w' => e = .returned (.agg (vals ([C.str (⟨#[]⟩ : ByteArray), C.str (⟨#[114, 97, 110, 100]⟩ : ByteArray), C.str (⟨#[107, 101, 121]⟩ : ByteArray), C.str (⟨#[99, 111, 110, 115, 116]⟩ : ByteArray), C.str (⟨#[116, 111, 108, 100]⟩ : ByteArray), C.str (⟨#[120, 111, 114]⟩ : ByteArray), C.str (⟨#[110, 111, 116]⟩ : ByteArray), C.str (⟨#[97, 110, 100]⟩ : ByteArray), C.str (⟨#[109, 97, 115, 107]⟩ : ByteArray), C.str (⟨#[115, 104, 108]⟩ : ByteArray), C.str (⟨#[115, 104, 114]⟩ : ByteArray), C.str (⟨#[114, 111, 116]⟩ : ByteArray), C.str (⟨#[111, 112, 101, 110]⟩ : ByteArray)]))) ∧ Own κ w' S) ([C.str (⟨#[]⟩ : ByteArray), C.str (⟨#[114, 97, 110, 100]⟩ : ByteArray), C.str (⟨#[107, 101, 121]⟩ : ByteArray), C.str (⟨#[99, 111, 110, 115, 116]⟩ : ByteArray), C.str (⟨#[116, 111, 108, 100]⟩ : ByteArray), C.str (⟨#[120, 111, 114]⟩ : ByteArray), C.str (⟨#[110, 111, 116]⟩ : ByteArray), C.str (⟨#[97, 110, 100]⟩ : ByteArray), C.str (⟨#[109, 97, 115, 107]⟩ : ByteArray), C.str (⟨#[115, 104, 108]⟩ : ByteArray), C.str (⟨#[115, 104, 114]⟩ : ByteArray), C.str (⟨#[114, 111, 116]⟩ : ByteArray), C.str (⟨#[111, 112, 101, 110]⟩ : ByteArray)]) hs rfl (by kernel_rfl) (sz := 13) (by kernel_rfl) rfl (CellsAt.all 0 rfl) ⟨rfl, hs.own.drop⟩

def op_Name.m (k : Nat) (x0 : Int) : Option ByteArray := (op_is.m k x0).bind fun v5 => (bif !v5 then some (⟨#[]⟩ : ByteArray) else (op_names.m k).bind fun v9 => (if 0 ≤ x0 ∧ x0 < 13 then (getS v9 x0.toNat).bind fun v12 => some v12 else none))

set_option maxRecDepth 100000 in
set_option maxHeartbeats 2000000 in
theorem op_Name.ok (k : Nat) (x0 : Int) (r : ByteArray) (hm : op_Name.m k x0 = some r) (κ : Ctx) (w : World) (S : List HP) (ho : Own κ w S) :
    Calls Try.prog 75 #[.int .i64 x0] w (fun e w' => e = .returned (.string r) ∧ Own κ w' S) := by
  unfold op_Name.m at hm
  refine Vk.enter [(0, .int .i64 x0)] Try.func75 rfl Try.ntmps75 (by kernel_rfl) (Nat.le_of_ble_eq_true (by kernel_rfl)) ho fun a hs => ?_
  have hcalm : Vk.Calm (bodyPost Try.prog Try.f75 (fun e w' => e = .returned (.string r) ∧ Own κ w' S)) := Vk.Calm.post
  refine Vk.seq fun K1 hK1 => ?_
  refine Vk.region ?_
  refine Vk.pures 1 [(2, .string (⟨#[]⟩ : ByteArray))] hs (by kernel_rfl) fun a hs => ?_
  replace hs := hs.norm [0] (L' := [(0, .int .i64 x0)]) (S) (by kernel_rfl) (by kernel_rfl)
  refine Vk.done (by kernel_rfl) ?_
  refine hK1 _ _ ?_
  clear hK1
  refine Vk.seq fun K2 hK2 => ?_
  refine Vk.seq fun K3 hK3 => ?_
  refine Vk.region ?_
  refine Vk.pures 1 [(3, .int .i64 x0)] hs (by kernel_rfl) fun a hs => ?_
  obtain ⟨v5, h4, hm⟩ := bind_t hm
  refine Vk.step (Vk.call (some 4) 112 #[.int .i64 x0] hs (by kernel_rfl) (by kernel_rfl) (by kernel_rfl) ?_)
  refine (op_is.ok k x0 v5 h4 κ w _ hs.own).mono ?_
  rintro _ w ⟨rfl, how⟩
  refine ⟨_, _, _, rfl, how, fun a hs => ?_⟩
  refine Vk.pures 1 [(5, .bool (!v5))] hs (by kernel_rfl) fun a hs => ?_
  replace hs := hs.norm [0, 5] (L' := [(0, .int .i64 x0), (5, .bool (!v5))]) (S) (by kernel_rfl) (by kernel_rfl)
  refine Vk.done (by kernel_rfl) ?_
  refine hK3 _ _ ?_
  clear hK3
  refine Vk.condS (b := !v5) hs (by kernel_rfl) (by kernel_rfl) (fun hb => ?_) (fun hb => ?_)
  · replace hm := bif_t hm hb
    refine Vk.seq fun K6 hK6 => ?_
    refine Vk.region ?_
    refine Vk.pures 1 [(2, .string (⟨#[]⟩ : ByteArray))] hs (by kernel_rfl) fun a hs => ?_
    replace hs := hs.norm [2] (L' := [(2, .string (⟨#[]⟩ : ByteArray))]) (S) (by kernel_rfl) (by kernel_rfl)
    refine Vk.done (by kernel_rfl) ?_
    refine hK6 _ _ ?_
    clear hK6
    refine wp_ret ?_
    obtain rfl := Option.some.inj hm
    exact Vk.ret1 (P := Try.prog) (fn := Try.f75) (R := fun e w' => e = .returned (.string (⟨#[]⟩ : ByteArray)) ∧ Own κ w' S) (.string (⟨#[]⟩ : ByteArray)) hs rfl (by kernel_rfl) ⟨rfl, hs.own⟩
  · replace hm := bif_f hm hb
    refine wp_skip ?_
    refine hK2 _ _ ?_
    clear hK2
    refine Vk.seq fun K7 hK7 => ?_
    refine Vk.region ?_
    obtain ⟨v9, h8, hm⟩ := bind_t hm
    refine Vk.step (Vk.call (some 6) 113 #[] hs (by kernel_rfl) (by kernel_rfl) (by kernel_rfl) ?_)
    refine (op_names.ok k v9 h8 κ w _ hs.own).mono ?_
    rintro _ w ⟨rfl, how⟩
    refine ⟨_, _, _, rfl, how, fun a hs => ?_⟩
    refine Vk.pures 1 [(7, .int .i64 x0)] hs (by kernel_rfl) fun a hs => ?_
    obtain ⟨h10, hm⟩ := ite_t hm
    obtain ⟨v12, h11, hm⟩ := bind_t hm
    refine Vk.step (Vk.value (some 8) (.string v12) hs (by kernel_rfl) (op := (.index 171 (.tmp 6) (.tmp 7))) (by kernel_rfl) (fun o ho => run_idxVal (k := .i64) (cs := v9) (c := C.str v12) ho (by kernel_rfl) (by kernel_rfl) (len := 13) (et := 9) (by kernel_rfl) (by kernel_rfl) (by kernel_rfl) (by kernel_rfl) h10 (getS_some h11) _) fun a hs => ?_)
    refine Vk.pures 1 [(2, .string v12)] hs (by kernel_rfl) fun a hs => ?_
    replace hs := hs.norm [2] (L' := [(2, .string v12)]) (S) (by kernel_rfl) (by kernel_rfl)
    refine Vk.done (by kernel_rfl) ?_
    refine hK7 _ _ ?_
    clear hK7
    refine wp_ret ?_
    obtain rfl := Option.some.inj hm
    exact Vk.ret1 (P := Try.prog) (fn := Try.f75) (R := fun e w' => e = .returned (.string v12) ∧ Own κ w' S) (.string v12) hs rfl (by kernel_rfl) ⟨rfl, hs.own⟩

def op_Eval.j14 (k : Nat) (x0 : Cells) (x1 : Int) (x2 : Int) (x3 : Int) (v5 : Int) (v9 : Int) (p16 : Bool) : Option Int := (bif p16 then (getI .u64 x0 (5)).bind fun v19 => some v19 else (bif v9 == 5 then some (bxor .u64 x1 x2) else (bif v9 == 6 then some (bnot .u64 x1) else (bif v9 == 7 then some (band .u64 x1 x2) else (bif v9 == 8 then (getI .u64 x0 (5)).bind fun v29 => some (band .u64 x1 v29) else (bif v9 == 9 then (if 0 ≤ Int.tmod v5 64 then some (shl .u64 x1 (Int.tmod v5 64)) else none) else (bif v9 == 10 then (if 0 ≤ Int.tmod v5 64 then some (shr .u64 x1 (Int.tmod v5 64)) else none) else (bif v9 == 11 then (octet_Rot.m k x1 (IntKind.i64.wrap (Int.tmod v5 64))).bind fun v39 => some v39 else (bif v9 == 12 then some (bxor .u64 (bxor .u64 x1 x2) x3) else some 0)))))))))
def op_Eval.m (k : Nat) (x0 : Cells) (x1 : Int) (x2 : Int) (x3 : Int) (x4 : Int) : Option Int := (getI .u64 x0 (5)).bind fun v5 => (getI .i64 x0 (0)).bind fun v9 => (bif v9 == 1 then some x4 else (bif v9 == 2 then some (bxor .u64 (bxor .u64 x4 x1) x2) else (bif v9 == 3 then op_Eval.j14 k x0 x1 x2 x3 v5 v9 (v9 == 3) else op_Eval.j14 k x0 x1 x2 x3 v5 v9 (v9 == 4))))

set_option maxRecDepth 100000 in
set_option maxHeartbeats 2000000 in
theorem op_Eval.ok (k : Nat) (x0 : Cells) (x1 : Int) (x2 : Int) (x3 : Int) (x4 : Int) (r : Int) (hm : op_Eval.m k x0 x1 x2 x3 x4 = some r) (κ : Ctx) (w : World) (S : List HP) (ho : Own κ w S) :
    Calls Try.prog 21 #[.agg (vals x0), .int .u64 x1, .int .u64 x2, .int .u64 x3, .int .u64 x4] w (fun e w' => e = .returned (.int .u64 r) ∧ Own κ w' S) := by
  unfold op_Eval.m at hm
  refine Vk.enter [(0, .agg (vals x0)), (1, .int .u64 x1), (2, .int .u64 x2), (3, .int .u64 x3), (4, .int .u64 x4)] Try.func21 rfl Try.ntmps21 (by kernel_rfl) (Nat.le_of_ble_eq_true (by kernel_rfl)) ho fun a hs => ?_
  have hcalm : Vk.Calm (bodyPost Try.prog Try.f21 (fun e w' => e = .returned (.int .u64 r) ∧ Own κ w' S)) := Vk.Calm.post
  refine Vk.seq fun K1 hK1 => ?_
  refine Vk.region ?_
  refine Vk.step (Vk.box (x := (.tmp 0)) 5 32 x0 hs (by kernel_rfl) (by kernel_rfl) (by kernel_rfl) fun b2 w a hs => ?_)
  refine Vk.pures 1 [(10, .int .u64 0)] hs (by kernel_rfl) fun a hs => ?_
  replace hs := hs.norm [1, 2, 3, 4, 5] (L' := [(1, .int .u64 x1), (2, .int .u64 x2), (3, .int .u64 x3), (4, .int .u64 x4), (5, .pointer (some ⟨b2, 0, none⟩))]) (pt b2 (blk x0 32) :: S) (by kernel_rfl) (by kernel_rfl)
  refine Vk.done (by kernel_rfl) ?_
  refine hK1 _ _ ?_
  clear hK1
  refine Vk.seq fun K3 hK3 => ?_
  refine Vk.region ?_
  refine Vk.pures 1 [(12, .pointer (some ⟨b2, 5, none⟩))] hs (by kernel_rfl) fun a hs => ?_
  obtain ⟨v5, h4, hm⟩ := bind_t hm
  refine Vk.step (Vk.value (some 13) (.int .u64 v5) hs (by kernel_rfl) (op := (.load 23 (.tmp 12))) (by kernel_rfl) (fun o ho => run_load1 (c := C.int .u64 v5) ho (by kernel_rfl) (by kernel_rfl) (Cell.own 0 rfl (getI_some h4)) _ hs.own) fun a hs => ?_)
  refine Vk.pures 2 [(11, .int .u64 (Int.tmod v5 64)), (14, .int .u64 (Int.tmod v5 64))] hs (by kernel_rfl) fun a hs => ?_
  replace hs := hs.norm [1, 2, 3, 4, 5, 11] (L' := [(1, .int .u64 x1), (2, .int .u64 x2), (3, .int .u64 x3), (4, .int .u64 x4), (5, .pointer (some ⟨b2, 0, none⟩)), (11, .int .u64 (Int.tmod v5 64))]) (pt b2 (blk x0 32) :: S) (by kernel_rfl) (by kernel_rfl)
  refine Vk.done (by kernel_rfl) ?_
  refine hK3 _ _ ?_
  clear hK3
  refine Vk.seq fun K6 hK6 => ?_
  refine Vk.seq fun K7 hK7 => ?_
  refine Vk.region ?_
  refine Vk.pures 1 [(15, .pointer (some ⟨b2, 0, none⟩))] hs (by kernel_rfl) fun a hs => ?_
  obtain ⟨v9, h8, hm⟩ := bind_t hm
  refine Vk.step (Vk.value (some 16) (.int .i64 v9) hs (by kernel_rfl) (op := (.load 3 (.tmp 15))) (by kernel_rfl) (fun o ho => run_load1 (c := C.int .i64 v9) ho (by kernel_rfl) (by kernel_rfl) (Cell.own 0 rfl (getI_some h8)) _ hs.own) fun a hs => ?_)
  replace hs := hs.norm [1, 2, 3, 4, 5, 11, 16] (L' := [(1, .int .u64 x1), (2, .int .u64 x2), (3, .int .u64 x3), (4, .int .u64 x4), (5, .pointer (some ⟨b2, 0, none⟩)), (11, .int .u64 (Int.tmod v5 64)), (16, .int .i64 v9)]) (pt b2 (blk x0 32) :: S) (by kernel_rfl) (by kernel_rfl)
  refine Vk.done (by kernel_rfl) ?_
  refine hK7 _ _ ?_
  clear hK7
  refine wp_block ?_
  refine Vk.seq fun K10 hK10 => ?_
  refine Vk.region ?_
  refine Vk.pures 2 [(17, .bool (v9 == 1)), (18, .bool (v9 == 1))] hs (by kernel_rfl) fun a hs => ?_
  replace hs := hs.norm [1, 2, 3, 4, 5, 11, 16, 17] (L' := [(1, .int .u64 x1), (2, .int .u64 x2), (3, .int .u64 x3), (4, .int .u64 x4), (5, .pointer (some ⟨b2, 0, none⟩)), (11, .int .u64 (Int.tmod v5 64)), (16, .int .i64 v9), (17, .bool (v9 == 1))]) (pt b2 (blk x0 32) :: S) (by kernel_rfl) (by kernel_rfl)
  refine Vk.done (by kernel_rfl) ?_
  refine hK10 _ _ ?_
  clear hK10
  refine Vk.condS (b := v9 == 1) hs (by kernel_rfl) (by kernel_rfl) (fun hb => ?_) (fun hb => ?_)
  · replace hm := bif_t hm hb
    refine Vk.seq fun K11 hK11 => ?_
    refine Vk.region ?_
    refine Vk.pures 2 [(10, .int .u64 x4), (19, .int .u64 x4)] hs (by kernel_rfl) fun a hs => ?_
    replace hs := hs.norm [10] (L' := [(10, .int .u64 x4)]) (pt b2 (blk x0 32) :: S) (by kernel_rfl) (by kernel_rfl)
    refine Vk.done (by kernel_rfl) ?_
    refine hK11 _ _ ?_
    clear hK11
    refine wp_ret ?_
    obtain rfl := Option.some.inj hm
    exact Vk.ret1 (P := Try.prog) (fn := Try.f21) (R := fun e w' => e = .returned (.int .u64 x4) ∧ Own κ w' S) (.int .u64 x4) hs rfl (by kernel_rfl) ⟨rfl, hs.own.drop⟩
  · replace hm := bif_f hm hb
    refine Vk.seq fun K12 hK12 => ?_
    refine Vk.region ?_
    refine Vk.pures 2 [(20, .bool (v9 == 2)), (21, .bool (v9 == 2))] hs (by kernel_rfl) fun a hs => ?_
    replace hs := hs.norm [1, 2, 3, 4, 5, 11, 16, 20] (L' := [(1, .int .u64 x1), (2, .int .u64 x2), (3, .int .u64 x3), (4, .int .u64 x4), (5, .pointer (some ⟨b2, 0, none⟩)), (11, .int .u64 (Int.tmod v5 64)), (16, .int .i64 v9), (20, .bool (v9 == 2))]) (pt b2 (blk x0 32) :: S) (by kernel_rfl) (by kernel_rfl)
    refine Vk.done (by kernel_rfl) ?_
    refine hK12 _ _ ?_
    clear hK12
    refine Vk.condS (b := v9 == 2) hs (by kernel_rfl) (by kernel_rfl) (fun hb => ?_) (fun hb => ?_)
    · replace hm := bif_t hm hb
      refine Vk.seq fun K13 hK13 => ?_
      refine Vk.region ?_
      refine Vk.pures 6 [(10, .int .u64 (bxor .u64 (bxor .u64 x4 x1) x2)), (26, .int .u64 (bxor .u64 (bxor .u64 x4 x1) x2)), (25, .int .u64 x2), (24, .int .u64 (bxor .u64 x4 x1)), (23, .int .u64 x1), (22, .int .u64 x4)] hs (by kernel_rfl) fun a hs => ?_
      replace hs := hs.norm [10] (L' := [(10, .int .u64 (bxor .u64 (bxor .u64 x4 x1) x2))]) (pt b2 (blk x0 32) :: S) (by kernel_rfl) (by kernel_rfl)
      refine Vk.done (by kernel_rfl) ?_
      refine hK13 _ _ ?_
      clear hK13
      refine wp_ret ?_
      obtain rfl := Option.some.inj hm
      exact Vk.ret1 (P := Try.prog) (fn := Try.f21) (R := fun e w' => e = .returned (.int .u64 (bxor .u64 (bxor .u64 x4 x1) x2)) ∧ Own κ w' S) (.int .u64 (bxor .u64 (bxor .u64 x4 x1) x2)) hs rfl (by kernel_rfl) ⟨rfl, hs.own.drop⟩
    · replace hm := bif_f hm hb
      refine Vk.seq fun K14 hK14 => ?_
      have hj14 : ∀ (p16 : Bool), op_Eval.j14 k x0 x1 x2 x3 v5 v9 p16 = some r → ∀ (a : Act) (w : World), St 75 a w κ [(1, .int .u64 x1), (2, .int .u64 x2), (3, .int .u64 x3), (5, .pointer (some ⟨b2, 0, none⟩)), (11, .int .u64 (Int.tmod v5 64)), (16, .int .i64 v9), (27, .bool p16)] (pt b2 (blk x0 32) :: S) → K14 a w := by
        intro p16 hm a w hs
        unfold op_Eval.j14 at hm
        refine hK14 _ _ ?_
        refine Vk.condS (b := p16) hs (by kernel_rfl) (by kernel_rfl) (fun hb => ?_) (fun hb => ?_)
        · replace hm := bif_t hm hb
          refine Vk.seq fun K17 hK17 => ?_
          refine Vk.region ?_
          refine Vk.pures 1 [(30, .pointer (some ⟨b2, 5, none⟩))] hs (by kernel_rfl) fun a hs => ?_
          obtain ⟨v19, h18, hm⟩ := bind_t hm
          refine Vk.step (Vk.value (some 31) (.int .u64 v19) hs (by kernel_rfl) (op := (.load 23 (.tmp 30))) (by kernel_rfl) (fun o ho => run_load1 (c := C.int .u64 v19) ho (by kernel_rfl) (by kernel_rfl) (Cell.own 0 rfl (getI_some h18)) _ hs.own) fun a hs => ?_)
          refine Vk.pures 1 [(10, .int .u64 v19)] hs (by kernel_rfl) fun a hs => ?_
          replace hs := hs.norm [10] (L' := [(10, .int .u64 v19)]) (pt b2 (blk x0 32) :: S) (by kernel_rfl) (by kernel_rfl)
          refine Vk.done (by kernel_rfl) ?_
          refine hK17 _ _ ?_
          clear hK17
          refine wp_ret ?_
          obtain rfl := Option.some.inj hm
          exact Vk.ret1 (P := Try.prog) (fn := Try.f21) (R := fun e w' => e = .returned (.int .u64 v19) ∧ Own κ w' S) (.int .u64 v19) hs rfl (by kernel_rfl) ⟨rfl, hs.own.drop⟩
        · replace hm := bif_f hm hb
          refine Vk.seq fun K20 hK20 => ?_
          refine Vk.region ?_
          refine Vk.pures 2 [(32, .bool (v9 == 5)), (33, .bool (v9 == 5))] hs (by kernel_rfl) fun a hs => ?_
          replace hs := hs.norm [1, 2, 3, 5, 11, 16, 32] (L' := [(1, .int .u64 x1), (2, .int .u64 x2), (3, .int .u64 x3), (5, .pointer (some ⟨b2, 0, none⟩)), (11, .int .u64 (Int.tmod v5 64)), (16, .int .i64 v9), (32, .bool (v9 == 5))]) (pt b2 (blk x0 32) :: S) (by kernel_rfl) (by kernel_rfl)
          refine Vk.done (by kernel_rfl) ?_
          refine hK20 _ _ ?_
          clear hK20
          refine Vk.condS (b := v9 == 5) hs (by kernel_rfl) (by kernel_rfl) (fun hb => ?_) (fun hb => ?_)
          · replace hm := bif_t hm hb
            refine Vk.seq fun K21 hK21 => ?_
            refine Vk.region ?_
            refine Vk.pures 4 [(10, .int .u64 (bxor .u64 x1 x2)), (36, .int .u64 (bxor .u64 x1 x2)), (35, .int .u64 x2), (34, .int .u64 x1)] hs (by kernel_rfl) fun a hs => ?_
            replace hs := hs.norm [10] (L' := [(10, .int .u64 (bxor .u64 x1 x2))]) (pt b2 (blk x0 32) :: S) (by kernel_rfl) (by kernel_rfl)
            refine Vk.done (by kernel_rfl) ?_
            refine hK21 _ _ ?_
            clear hK21
            refine wp_ret ?_
            obtain rfl := Option.some.inj hm
            exact Vk.ret1 (P := Try.prog) (fn := Try.f21) (R := fun e w' => e = .returned (.int .u64 (bxor .u64 x1 x2)) ∧ Own κ w' S) (.int .u64 (bxor .u64 x1 x2)) hs rfl (by kernel_rfl) ⟨rfl, hs.own.drop⟩
          · replace hm := bif_f hm hb
            refine Vk.seq fun K22 hK22 => ?_
            refine Vk.region ?_
            refine Vk.pures 2 [(37, .bool (v9 == 6)), (38, .bool (v9 == 6))] hs (by kernel_rfl) fun a hs => ?_
            replace hs := hs.norm [1, 2, 3, 5, 11, 16, 37] (L' := [(1, .int .u64 x1), (2, .int .u64 x2), (3, .int .u64 x3), (5, .pointer (some ⟨b2, 0, none⟩)), (11, .int .u64 (Int.tmod v5 64)), (16, .int .i64 v9), (37, .bool (v9 == 6))]) (pt b2 (blk x0 32) :: S) (by kernel_rfl) (by kernel_rfl)
            refine Vk.done (by kernel_rfl) ?_
            refine hK22 _ _ ?_
            clear hK22
            refine Vk.condS (b := v9 == 6) hs (by kernel_rfl) (by kernel_rfl) (fun hb => ?_) (fun hb => ?_)
            · replace hm := bif_t hm hb
              refine Vk.seq fun K23 hK23 => ?_
              refine Vk.region ?_
              refine Vk.pures 3 [(10, .int .u64 (bnot .u64 x1)), (40, .int .u64 (bnot .u64 x1)), (39, .int .u64 x1)] hs (by kernel_rfl) fun a hs => ?_
              replace hs := hs.norm [10] (L' := [(10, .int .u64 (bnot .u64 x1))]) (pt b2 (blk x0 32) :: S) (by kernel_rfl) (by kernel_rfl)
              refine Vk.done (by kernel_rfl) ?_
              refine hK23 _ _ ?_
              clear hK23
              refine wp_ret ?_
              obtain rfl := Option.some.inj hm
              exact Vk.ret1 (P := Try.prog) (fn := Try.f21) (R := fun e w' => e = .returned (.int .u64 (bnot .u64 x1)) ∧ Own κ w' S) (.int .u64 (bnot .u64 x1)) hs rfl (by kernel_rfl) ⟨rfl, hs.own.drop⟩
            · replace hm := bif_f hm hb
              refine Vk.seq fun K24 hK24 => ?_
              refine Vk.region ?_
              refine Vk.pures 2 [(41, .bool (v9 == 7)), (42, .bool (v9 == 7))] hs (by kernel_rfl) fun a hs => ?_
              replace hs := hs.norm [1, 2, 3, 5, 11, 16, 41] (L' := [(1, .int .u64 x1), (2, .int .u64 x2), (3, .int .u64 x3), (5, .pointer (some ⟨b2, 0, none⟩)), (11, .int .u64 (Int.tmod v5 64)), (16, .int .i64 v9), (41, .bool (v9 == 7))]) (pt b2 (blk x0 32) :: S) (by kernel_rfl) (by kernel_rfl)
              refine Vk.done (by kernel_rfl) ?_
              refine hK24 _ _ ?_
              clear hK24
              refine Vk.condS (b := v9 == 7) hs (by kernel_rfl) (by kernel_rfl) (fun hb => ?_) (fun hb => ?_)
              · replace hm := bif_t hm hb
                refine Vk.seq fun K25 hK25 => ?_
                refine Vk.region ?_
                refine Vk.pures 4 [(10, .int .u64 (band .u64 x1 x2)), (45, .int .u64 (band .u64 x1 x2)), (44, .int .u64 x2), (43, .int .u64 x1)] hs (by kernel_rfl) fun a hs => ?_
                replace hs := hs.norm [10] (L' := [(10, .int .u64 (band .u64 x1 x2))]) (pt b2 (blk x0 32) :: S) (by kernel_rfl) (by kernel_rfl)
                refine Vk.done (by kernel_rfl) ?_
                refine hK25 _ _ ?_
                clear hK25
                refine wp_ret ?_
                obtain rfl := Option.some.inj hm
                exact Vk.ret1 (P := Try.prog) (fn := Try.f21) (R := fun e w' => e = .returned (.int .u64 (band .u64 x1 x2)) ∧ Own κ w' S) (.int .u64 (band .u64 x1 x2)) hs rfl (by kernel_rfl) ⟨rfl, hs.own.drop⟩
              · replace hm := bif_f hm hb
                refine Vk.seq fun K26 hK26 => ?_
                refine Vk.region ?_
                refine Vk.pures 2 [(46, .bool (v9 == 8)), (47, .bool (v9 == 8))] hs (by kernel_rfl) fun a hs => ?_
                replace hs := hs.norm [1, 2, 3, 5, 11, 16, 46] (L' := [(1, .int .u64 x1), (2, .int .u64 x2), (3, .int .u64 x3), (5, .pointer (some ⟨b2, 0, none⟩)), (11, .int .u64 (Int.tmod v5 64)), (16, .int .i64 v9), (46, .bool (v9 == 8))]) (pt b2 (blk x0 32) :: S) (by kernel_rfl) (by kernel_rfl)
                refine Vk.done (by kernel_rfl) ?_
                refine hK26 _ _ ?_
                clear hK26
                refine Vk.condS (b := v9 == 8) hs (by kernel_rfl) (by kernel_rfl) (fun hb => ?_) (fun hb => ?_)
                · replace hm := bif_t hm hb
                  refine Vk.seq fun K27 hK27 => ?_
                  refine Vk.region ?_
                  refine Vk.pures 2 [(49, .pointer (some ⟨b2, 5, none⟩)), (48, .int .u64 x1)] hs (by kernel_rfl) fun a hs => ?_
                  obtain ⟨v29, h28, hm⟩ := bind_t hm
                  refine Vk.step (Vk.value (some 50) (.int .u64 v29) hs (by kernel_rfl) (op := (.load 23 (.tmp 49))) (by kernel_rfl) (fun o ho => run_load1 (c := C.int .u64 v29) ho (by kernel_rfl) (by kernel_rfl) (Cell.own 0 rfl (getI_some h28)) _ hs.own) fun a hs => ?_)
                  refine Vk.pures 2 [(10, .int .u64 (band .u64 x1 v29)), (51, .int .u64 (band .u64 x1 v29))] hs (by kernel_rfl) fun a hs => ?_
                  replace hs := hs.norm [10] (L' := [(10, .int .u64 (band .u64 x1 v29))]) (pt b2 (blk x0 32) :: S) (by kernel_rfl) (by kernel_rfl)
                  refine Vk.done (by kernel_rfl) ?_
                  refine hK27 _ _ ?_
                  clear hK27
                  refine wp_ret ?_
                  obtain rfl := Option.some.inj hm
                  exact Vk.ret1 (P := Try.prog) (fn := Try.f21) (R := fun e w' => e = .returned (.int .u64 (band .u64 x1 v29)) ∧ Own κ w' S) (.int .u64 (band .u64 x1 v29)) hs rfl (by kernel_rfl) ⟨rfl, hs.own.drop⟩
                · replace hm := bif_f hm hb
                  refine Vk.seq fun K30 hK30 => ?_
                  refine Vk.region ?_
                  refine Vk.pures 2 [(52, .bool (v9 == 9)), (53, .bool (v9 == 9))] hs (by kernel_rfl) fun a hs => ?_
                  replace hs := hs.norm [1, 2, 3, 11, 16, 52] (L' := [(1, .int .u64 x1), (2, .int .u64 x2), (3, .int .u64 x3), (11, .int .u64 (Int.tmod v5 64)), (16, .int .i64 v9), (52, .bool (v9 == 9))]) (pt b2 (blk x0 32) :: S) (by kernel_rfl) (by kernel_rfl)
                  refine Vk.done (by kernel_rfl) ?_
                  refine hK30 _ _ ?_
                  clear hK30
                  refine Vk.condS (b := v9 == 9) hs (by kernel_rfl) (by kernel_rfl) (fun hb => ?_) (fun hb => ?_)
                  · replace hm := bif_t hm hb
                    refine Vk.seq fun K31 hK31 => ?_
                    refine Vk.region ?_
                    refine Vk.pures 2 [(55, .int .u64 (Int.tmod v5 64)), (54, .int .u64 x1)] hs (by kernel_rfl) fun a hs => ?_
                    obtain ⟨h32, hm⟩ := ite_t hm
                    refine Vk.step (Vk.value (some 56) (.int .u64 (shl .u64 x1 (Int.tmod v5 64))) hs (by kernel_rfl) (op := (.binOp .shl 23 (.tmp 54) (.tmp 55) 23)) (by kernel_rfl) (fun o ho => run_shl (k' := .u64) ho (by kernel_rfl) (by kernel_rfl) h32 _) fun a hs => ?_)
                    refine Vk.pures 1 [(10, .int .u64 (shl .u64 x1 (Int.tmod v5 64)))] hs (by kernel_rfl) fun a hs => ?_
                    replace hs := hs.norm [10] (L' := [(10, .int .u64 (shl .u64 x1 (Int.tmod v5 64)))]) (pt b2 (blk x0 32) :: S) (by kernel_rfl) (by kernel_rfl)
                    refine Vk.done (by kernel_rfl) ?_
                    refine hK31 _ _ ?_
                    clear hK31
                    refine wp_ret ?_
                    obtain rfl := Option.some.inj hm
                    exact Vk.ret1 (P := Try.prog) (fn := Try.f21) (R := fun e w' => e = .returned (.int .u64 (shl .u64 x1 (Int.tmod v5 64))) ∧ Own κ w' S) (.int .u64 (shl .u64 x1 (Int.tmod v5 64))) hs rfl (by kernel_rfl) ⟨rfl, hs.own.drop⟩
                  · replace hm := bif_f hm hb
                    refine Vk.seq fun K33 hK33 => ?_
                    refine Vk.region ?_
                    refine Vk.pures 2 [(57, .bool (v9 == 10)), (58, .bool (v9 == 10))] hs (by kernel_rfl) fun a hs => ?_
                    replace hs := hs.norm [1, 2, 3, 11, 16, 57] (L' := [(1, .int .u64 x1), (2, .int .u64 x2), (3, .int .u64 x3), (11, .int .u64 (Int.tmod v5 64)), (16, .int .i64 v9), (57, .bool (v9 == 10))]) (pt b2 (blk x0 32) :: S) (by kernel_rfl) (by kernel_rfl)
                    refine Vk.done (by kernel_rfl) ?_
                    refine hK33 _ _ ?_
                    clear hK33
                    refine Vk.condS (b := v9 == 10) hs (by kernel_rfl) (by kernel_rfl) (fun hb => ?_) (fun hb => ?_)
                    · replace hm := bif_t hm hb
                      refine Vk.seq fun K34 hK34 => ?_
                      refine Vk.region ?_
                      refine Vk.pures 2 [(60, .int .u64 (Int.tmod v5 64)), (59, .int .u64 x1)] hs (by kernel_rfl) fun a hs => ?_
                      obtain ⟨h35, hm⟩ := ite_t hm
                      refine Vk.step (Vk.value (some 61) (.int .u64 (shr .u64 x1 (Int.tmod v5 64))) hs (by kernel_rfl) (op := (.binOp .shr 23 (.tmp 59) (.tmp 60) 23)) (by kernel_rfl) (fun o ho => run_shr (k' := .u64) ho (by kernel_rfl) (by kernel_rfl) h35 _) fun a hs => ?_)
                      refine Vk.pures 1 [(10, .int .u64 (shr .u64 x1 (Int.tmod v5 64)))] hs (by kernel_rfl) fun a hs => ?_
                      replace hs := hs.norm [10] (L' := [(10, .int .u64 (shr .u64 x1 (Int.tmod v5 64)))]) (pt b2 (blk x0 32) :: S) (by kernel_rfl) (by kernel_rfl)
                      refine Vk.done (by kernel_rfl) ?_
                      refine hK34 _ _ ?_
                      clear hK34
                      refine wp_ret ?_
                      obtain rfl := Option.some.inj hm
                      exact Vk.ret1 (P := Try.prog) (fn := Try.f21) (R := fun e w' => e = .returned (.int .u64 (shr .u64 x1 (Int.tmod v5 64))) ∧ Own κ w' S) (.int .u64 (shr .u64 x1 (Int.tmod v5 64))) hs rfl (by kernel_rfl) ⟨rfl, hs.own.drop⟩
                    · replace hm := bif_f hm hb
                      refine Vk.seq fun K36 hK36 => ?_
                      refine Vk.region ?_
                      refine Vk.pures 2 [(62, .bool (v9 == 11)), (63, .bool (v9 == 11))] hs (by kernel_rfl) fun a hs => ?_
                      replace hs := hs.norm [1, 2, 3, 11, 16, 62] (L' := [(1, .int .u64 x1), (2, .int .u64 x2), (3, .int .u64 x3), (11, .int .u64 (Int.tmod v5 64)), (16, .int .i64 v9), (62, .bool (v9 == 11))]) (pt b2 (blk x0 32) :: S) (by kernel_rfl) (by kernel_rfl)
                      refine Vk.done (by kernel_rfl) ?_
                      refine hK36 _ _ ?_
                      clear hK36
                      refine Vk.condS (b := v9 == 11) hs (by kernel_rfl) (by kernel_rfl) (fun hb => ?_) (fun hb => ?_)
                      · replace hm := bif_t hm hb
                        refine Vk.seq fun K37 hK37 => ?_
                        refine Vk.region ?_
                        refine Vk.pures 3 [(66, .int .i64 (IntKind.i64.wrap (Int.tmod v5 64))), (65, .int .u64 (Int.tmod v5 64)), (64, .int .u64 x1)] hs (by kernel_rfl) fun a hs => ?_
                        obtain ⟨v39, h38, hm⟩ := bind_t hm
                        refine Vk.step (Vk.call (some 67) 72 #[.int .u64 x1, .int .i64 (IntKind.i64.wrap (Int.tmod v5 64))] hs (by kernel_rfl) (by kernel_rfl) (by kernel_rfl) ?_)
                        refine (octet_Rot.ok k x1 (IntKind.i64.wrap (Int.tmod v5 64)) v39 h38 κ w _ hs.own).mono ?_
                        rintro _ w ⟨rfl, how⟩
                        refine ⟨_, _, _, rfl, how, fun a hs => ?_⟩
                        refine Vk.pures 1 [(10, .int .u64 v39)] hs (by kernel_rfl) fun a hs => ?_
                        replace hs := hs.norm [10] (L' := [(10, .int .u64 v39)]) (pt b2 (blk x0 32) :: S) (by kernel_rfl) (by kernel_rfl)
                        refine Vk.done (by kernel_rfl) ?_
                        refine hK37 _ _ ?_
                        clear hK37
                        refine wp_ret ?_
                        obtain rfl := Option.some.inj hm
                        exact Vk.ret1 (P := Try.prog) (fn := Try.f21) (R := fun e w' => e = .returned (.int .u64 v39) ∧ Own κ w' S) (.int .u64 v39) hs rfl (by kernel_rfl) ⟨rfl, hs.own.drop⟩
                      · replace hm := bif_f hm hb
                        refine Vk.seq fun K40 hK40 => ?_
                        refine Vk.region ?_
                        refine Vk.pures 2 [(68, .bool (v9 == 12)), (69, .bool (v9 == 12))] hs (by kernel_rfl) fun a hs => ?_
                        replace hs := hs.norm [1, 2, 3, 68] (L' := [(1, .int .u64 x1), (2, .int .u64 x2), (3, .int .u64 x3), (68, .bool (v9 == 12))]) (pt b2 (blk x0 32) :: S) (by kernel_rfl) (by kernel_rfl)
                        refine Vk.done (by kernel_rfl) ?_
                        refine hK40 _ _ ?_
                        clear hK40
                        refine Vk.condS (b := v9 == 12) hs (by kernel_rfl) (by kernel_rfl) (fun hb => ?_) (fun hb => ?_)
                        · replace hm := bif_t hm hb
                          refine Vk.seq fun K41 hK41 => ?_
                          refine Vk.region ?_
                          refine Vk.pures 6 [(10, .int .u64 (bxor .u64 (bxor .u64 x1 x2) x3)), (74, .int .u64 (bxor .u64 (bxor .u64 x1 x2) x3)), (73, .int .u64 x3), (72, .int .u64 (bxor .u64 x1 x2)), (71, .int .u64 x2), (70, .int .u64 x1)] hs (by kernel_rfl) fun a hs => ?_
                          replace hs := hs.norm [10] (L' := [(10, .int .u64 (bxor .u64 (bxor .u64 x1 x2) x3))]) (pt b2 (blk x0 32) :: S) (by kernel_rfl) (by kernel_rfl)
                          refine Vk.done (by kernel_rfl) ?_
                          refine hK41 _ _ ?_
                          clear hK41
                          refine wp_ret ?_
                          obtain rfl := Option.some.inj hm
                          exact Vk.ret1 (P := Try.prog) (fn := Try.f21) (R := fun e w' => e = .returned (.int .u64 (bxor .u64 (bxor .u64 x1 x2) x3)) ∧ Own κ w' S) (.int .u64 (bxor .u64 (bxor .u64 x1 x2) x3)) hs rfl (by kernel_rfl) ⟨rfl, hs.own.drop⟩
                        · replace hm := bif_f hm hb
                          refine wp_skip ?_
                          refine hK6 _ _ ?_
                          clear hK6
                          refine Vk.seq fun K42 hK42 => ?_
                          refine Vk.region ?_
                          refine Vk.pures 1 [(10, .int .u64 0)] hs (by kernel_rfl) fun a hs => ?_
                          replace hs := hs.norm [10] (L' := [(10, .int .u64 0)]) (pt b2 (blk x0 32) :: S) (by kernel_rfl) (by kernel_rfl)
                          refine Vk.done (by kernel_rfl) ?_
                          refine hK42 _ _ ?_
                          clear hK42
                          refine wp_ret ?_
                          obtain rfl := Option.some.inj hm
                          exact Vk.ret1 (P := Try.prog) (fn := Try.f21) (R := fun e w' => e = .returned (.int .u64 0) ∧ Own κ w' S) (.int .u64 0) hs rfl (by kernel_rfl) ⟨rfl, hs.own.drop⟩
      refine Vk.seq fun K15 hK15 => ?_
      refine Vk.region ?_
      refine Vk.pures 2 [(27, .bool (v9 == 3)), (28, .bool (v9 == 3))] hs (by kernel_rfl) fun a hs => ?_
      replace hs := hs.norm [1, 2, 3, 5, 11, 16, 27] (L' := [(1, .int .u64 x1), (2, .int .u64 x2), (3, .int .u64 x3), (5, .pointer (some ⟨b2, 0, none⟩)), (11, .int .u64 (Int.tmod v5 64)), (16, .int .i64 v9), (27, .bool (v9 == 3))]) (pt b2 (blk x0 32) :: S) (by kernel_rfl) (by kernel_rfl)
      refine Vk.done (by kernel_rfl) ?_
      refine hK15 _ _ ?_
      clear hK15
      refine Vk.condS (b := v9 == 3) hs (by kernel_rfl) (by kernel_rfl) (fun hb => ?_) (fun hb => ?_)
      · replace hm := bif_t hm hb
        refine wp_skip ?_
        exact hj14 (v9 == 3) hm _ _ ((hs).norm [1, 2, 3, 5, 11, 16, 27] (pt b2 (blk x0 32) :: S) (by kernel_rfl) (by kernel_rfl))
      · replace hm := bif_f hm hb
        refine Vk.region ?_
        refine Vk.pures 2 [(27, .bool (v9 == 4)), (29, .bool (v9 == 4))] hs (by kernel_rfl) fun a hs => ?_
        replace hs := hs.norm [1, 2, 3, 5, 11, 16, 27] (L' := [(1, .int .u64 x1), (2, .int .u64 x2), (3, .int .u64 x3), (5, .pointer (some ⟨b2, 0, none⟩)), (11, .int .u64 (Int.tmod v5 64)), (16, .int .i64 v9), (27, .bool (v9 == 4))]) (pt b2 (blk x0 32) :: S) (by kernel_rfl) (by kernel_rfl)
        refine Vk.done (by kernel_rfl) ?_
        exact hj14 (v9 == 4) hm _ _ ((hs).norm [1, 2, 3, 5, 11, 16, 27] (pt b2 (blk x0 32) :: S) (by kernel_rfl) (by kernel_rfl))

def visorref17_Eval.j14 (k : Nat) (x0 : Cells) (x1 : Int) (x2 : Int) (x3 : Int) (v5 : Int) (v9 : Int) (p16 : Bool) : Option Int := (bif p16 then (getI .u64 x0 (5)).bind fun v19 => some v19 else (bif v9 == 5 then some (bxor .u64 x1 x2) else (bif v9 == 6 then some (IntKind.u64.wrap (18446744073709551615 - x1)) else (bif v9 == 7 then some (band .u64 x1 x2) else (bif v9 == 8 then (getI .u64 x0 (5)).bind fun v29 => some (band .u64 x1 v29) else (bif v9 == 9 then (visorref01_Low.m k (IntKind.i64.wrap (64 - (IntKind.i64.wrap (Int.tmod v5 64))))).bind fun v33 => (visorref01_Rot.m k (band .u64 x1 v33) (IntKind.i64.wrap (Int.tmod v5 64))).bind fun v35 => some v35 else (bif v9 == 10 then (visorref01_Rot.m k x1 (IntKind.i64.wrap (64 - (IntKind.i64.wrap (Int.tmod v5 64))))).bind fun v39 => (visorref01_Low.m k (IntKind.i64.wrap (64 - (IntKind.i64.wrap (Int.tmod v5 64))))).bind fun v41 => some (band .u64 v39 v41) else (bif v9 == 11 then (visorref01_Rot.m k x1 (IntKind.i64.wrap (Int.tmod v5 64))).bind fun v45 => some v45 else (bif v9 == 12 then some (bxor .u64 (bxor .u64 x1 x2) x3) else some 0)))))))))
def visorref17_Eval.m (k : Nat) (x0 : Cells) (x1 : Int) (x2 : Int) (x3 : Int) (x4 : Int) : Option Int := (getI .u64 x0 (5)).bind fun v5 => (getI .i64 x0 (0)).bind fun v9 => (bif v9 == 1 then some x4 else (bif v9 == 2 then some (bxor .u64 (bxor .u64 x4 x1) x2) else (bif v9 == 3 then visorref17_Eval.j14 k x0 x1 x2 x3 v5 v9 (v9 == 3) else visorref17_Eval.j14 k x0 x1 x2 x3 v5 v9 (v9 == 4))))

set_option maxRecDepth 100000 in
set_option maxHeartbeats 2000000 in
theorem visorref17_Eval.ok (k : Nat) (x0 : Cells) (x1 : Int) (x2 : Int) (x3 : Int) (x4 : Int) (r : Int) (hm : visorref17_Eval.m k x0 x1 x2 x3 x4 = some r) (κ : Ctx) (w : World) (S : List HP) (ho : Own κ w S) :
    Calls Try.prog 22 #[.agg (vals x0), .int .u64 x1, .int .u64 x2, .int .u64 x3, .int .u64 x4] w (fun e w' => e = .returned (.int .u64 r) ∧ Own κ w' S) := by
  unfold visorref17_Eval.m at hm
  refine Vk.enter [(0, .agg (vals x0)), (1, .int .u64 x1), (2, .int .u64 x2), (3, .int .u64 x3), (4, .int .u64 x4)] Try.func22 rfl Try.ntmps22 (by kernel_rfl) (Nat.le_of_ble_eq_true (by kernel_rfl)) ho fun a hs => ?_
  have hcalm : Vk.Calm (bodyPost Try.prog Try.f22 (fun e w' => e = .returned (.int .u64 r) ∧ Own κ w' S)) := Vk.Calm.post
  refine Vk.seq fun K1 hK1 => ?_
  refine Vk.region ?_
  refine Vk.step (Vk.box (x := (.tmp 0)) 5 32 x0 hs (by kernel_rfl) (by kernel_rfl) (by kernel_rfl) fun b2 w a hs => ?_)
  refine Vk.pures 1 [(10, .int .u64 0)] hs (by kernel_rfl) fun a hs => ?_
  replace hs := hs.norm [1, 2, 3, 4, 5] (L' := [(1, .int .u64 x1), (2, .int .u64 x2), (3, .int .u64 x3), (4, .int .u64 x4), (5, .pointer (some ⟨b2, 0, none⟩))]) (pt b2 (blk x0 32) :: S) (by kernel_rfl) (by kernel_rfl)
  refine Vk.done (by kernel_rfl) ?_
  refine hK1 _ _ ?_
  clear hK1
  refine Vk.seq fun K3 hK3 => ?_
  refine Vk.region ?_
  refine Vk.pures 1 [(12, .pointer (some ⟨b2, 5, none⟩))] hs (by kernel_rfl) fun a hs => ?_
  obtain ⟨v5, h4, hm⟩ := bind_t hm
  refine Vk.step (Vk.value (some 13) (.int .u64 v5) hs (by kernel_rfl) (op := (.load 23 (.tmp 12))) (by kernel_rfl) (fun o ho => run_load1 (c := C.int .u64 v5) ho (by kernel_rfl) (by kernel_rfl) (Cell.own 0 rfl (getI_some h4)) _ hs.own) fun a hs => ?_)
  refine Vk.pures 3 [(11, .int .i64 (IntKind.i64.wrap (Int.tmod v5 64))), (15, .int .i64 (IntKind.i64.wrap (Int.tmod v5 64))), (14, .int .u64 (Int.tmod v5 64))] hs (by kernel_rfl) fun a hs => ?_
  replace hs := hs.norm [1, 2, 3, 4, 5, 11] (L' := [(1, .int .u64 x1), (2, .int .u64 x2), (3, .int .u64 x3), (4, .int .u64 x4), (5, .pointer (some ⟨b2, 0, none⟩)), (11, .int .i64 (IntKind.i64.wrap (Int.tmod v5 64)))]) (pt b2 (blk x0 32) :: S) (by kernel_rfl) (by kernel_rfl)
  refine Vk.done (by kernel_rfl) ?_
  refine hK3 _ _ ?_
  clear hK3
  refine Vk.seq fun K6 hK6 => ?_
  refine Vk.seq fun K7 hK7 => ?_
  refine Vk.region ?_
  refine Vk.pures 1 [(16, .pointer (some ⟨b2, 0, none⟩))] hs (by kernel_rfl) fun a hs => ?_
  obtain ⟨v9, h8, hm⟩ := bind_t hm
  refine Vk.step (Vk.value (some 17) (.int .i64 v9) hs (by kernel_rfl) (op := (.load 3 (.tmp 16))) (by kernel_rfl) (fun o ho => run_load1 (c := C.int .i64 v9) ho (by kernel_rfl) (by kernel_rfl) (Cell.own 0 rfl (getI_some h8)) _ hs.own) fun a hs => ?_)
  replace hs := hs.norm [1, 2, 3, 4, 5, 11, 17] (L' := [(1, .int .u64 x1), (2, .int .u64 x2), (3, .int .u64 x3), (4, .int .u64 x4), (5, .pointer (some ⟨b2, 0, none⟩)), (11, .int .i64 (IntKind.i64.wrap (Int.tmod v5 64))), (17, .int .i64 v9)]) (pt b2 (blk x0 32) :: S) (by kernel_rfl) (by kernel_rfl)
  refine Vk.done (by kernel_rfl) ?_
  refine hK7 _ _ ?_
  clear hK7
  refine wp_block ?_
  refine Vk.seq fun K10 hK10 => ?_
  refine Vk.region ?_
  refine Vk.pures 2 [(18, .bool (v9 == 1)), (19, .bool (v9 == 1))] hs (by kernel_rfl) fun a hs => ?_
  replace hs := hs.norm [1, 2, 3, 4, 5, 11, 17, 18] (L' := [(1, .int .u64 x1), (2, .int .u64 x2), (3, .int .u64 x3), (4, .int .u64 x4), (5, .pointer (some ⟨b2, 0, none⟩)), (11, .int .i64 (IntKind.i64.wrap (Int.tmod v5 64))), (17, .int .i64 v9), (18, .bool (v9 == 1))]) (pt b2 (blk x0 32) :: S) (by kernel_rfl) (by kernel_rfl)
  refine Vk.done (by kernel_rfl) ?_
  refine hK10 _ _ ?_
  clear hK10
  refine Vk.condS (b := v9 == 1) hs (by kernel_rfl) (by kernel_rfl) (fun hb => ?_) (fun hb => ?_)
  · replace hm := bif_t hm hb
    refine Vk.seq fun K11 hK11 => ?_
    refine Vk.region ?_
    refine Vk.pures 2 [(10, .int .u64 x4), (20, .int .u64 x4)] hs (by kernel_rfl) fun a hs => ?_
    replace hs := hs.norm [10] (L' := [(10, .int .u64 x4)]) (pt b2 (blk x0 32) :: S) (by kernel_rfl) (by kernel_rfl)
    refine Vk.done (by kernel_rfl) ?_
    refine hK11 _ _ ?_
    clear hK11
    refine wp_ret ?_
    obtain rfl := Option.some.inj hm
    exact Vk.ret1 (P := Try.prog) (fn := Try.f22) (R := fun e w' => e = .returned (.int .u64 x4) ∧ Own κ w' S) (.int .u64 x4) hs rfl (by kernel_rfl) ⟨rfl, hs.own.drop⟩
  · replace hm := bif_f hm hb
    refine Vk.seq fun K12 hK12 => ?_
    refine Vk.region ?_
    refine Vk.pures 2 [(21, .bool (v9 == 2)), (22, .bool (v9 == 2))] hs (by kernel_rfl) fun a hs => ?_
    replace hs := hs.norm [1, 2, 3, 4, 5, 11, 17, 21] (L' := [(1, .int .u64 x1), (2, .int .u64 x2), (3, .int .u64 x3), (4, .int .u64 x4), (5, .pointer (some ⟨b2, 0, none⟩)), (11, .int .i64 (IntKind.i64.wrap (Int.tmod v5 64))), (17, .int .i64 v9), (21, .bool (v9 == 2))]) (pt b2 (blk x0 32) :: S) (by kernel_rfl) (by kernel_rfl)
    refine Vk.done (by kernel_rfl) ?_
    refine hK12 _ _ ?_
    clear hK12
    refine Vk.condS (b := v9 == 2) hs (by kernel_rfl) (by kernel_rfl) (fun hb => ?_) (fun hb => ?_)
    · replace hm := bif_t hm hb
      refine Vk.seq fun K13 hK13 => ?_
      refine Vk.region ?_
      refine Vk.pures 6 [(10, .int .u64 (bxor .u64 (bxor .u64 x4 x1) x2)), (27, .int .u64 (bxor .u64 (bxor .u64 x4 x1) x2)), (26, .int .u64 x2), (25, .int .u64 (bxor .u64 x4 x1)), (24, .int .u64 x1), (23, .int .u64 x4)] hs (by kernel_rfl) fun a hs => ?_
      replace hs := hs.norm [10] (L' := [(10, .int .u64 (bxor .u64 (bxor .u64 x4 x1) x2))]) (pt b2 (blk x0 32) :: S) (by kernel_rfl) (by kernel_rfl)
      refine Vk.done (by kernel_rfl) ?_
      refine hK13 _ _ ?_
      clear hK13
      refine wp_ret ?_
      obtain rfl := Option.some.inj hm
      exact Vk.ret1 (P := Try.prog) (fn := Try.f22) (R := fun e w' => e = .returned (.int .u64 (bxor .u64 (bxor .u64 x4 x1) x2)) ∧ Own κ w' S) (.int .u64 (bxor .u64 (bxor .u64 x4 x1) x2)) hs rfl (by kernel_rfl) ⟨rfl, hs.own.drop⟩
    · replace hm := bif_f hm hb
      refine Vk.seq fun K14 hK14 => ?_
      have hj14 : ∀ (p16 : Bool), visorref17_Eval.j14 k x0 x1 x2 x3 v5 v9 p16 = some r → ∀ (a : Act) (w : World), St 84 a w κ [(1, .int .u64 x1), (2, .int .u64 x2), (3, .int .u64 x3), (5, .pointer (some ⟨b2, 0, none⟩)), (11, .int .i64 (IntKind.i64.wrap (Int.tmod v5 64))), (17, .int .i64 v9), (28, .bool p16)] (pt b2 (blk x0 32) :: S) → K14 a w := by
        intro p16 hm a w hs
        unfold visorref17_Eval.j14 at hm
        refine hK14 _ _ ?_
        refine Vk.condS (b := p16) hs (by kernel_rfl) (by kernel_rfl) (fun hb => ?_) (fun hb => ?_)
        · replace hm := bif_t hm hb
          refine Vk.seq fun K17 hK17 => ?_
          refine Vk.region ?_
          refine Vk.pures 1 [(31, .pointer (some ⟨b2, 5, none⟩))] hs (by kernel_rfl) fun a hs => ?_
          obtain ⟨v19, h18, hm⟩ := bind_t hm
          refine Vk.step (Vk.value (some 32) (.int .u64 v19) hs (by kernel_rfl) (op := (.load 23 (.tmp 31))) (by kernel_rfl) (fun o ho => run_load1 (c := C.int .u64 v19) ho (by kernel_rfl) (by kernel_rfl) (Cell.own 0 rfl (getI_some h18)) _ hs.own) fun a hs => ?_)
          refine Vk.pures 1 [(10, .int .u64 v19)] hs (by kernel_rfl) fun a hs => ?_
          replace hs := hs.norm [10] (L' := [(10, .int .u64 v19)]) (pt b2 (blk x0 32) :: S) (by kernel_rfl) (by kernel_rfl)
          refine Vk.done (by kernel_rfl) ?_
          refine hK17 _ _ ?_
          clear hK17
          refine wp_ret ?_
          obtain rfl := Option.some.inj hm
          exact Vk.ret1 (P := Try.prog) (fn := Try.f22) (R := fun e w' => e = .returned (.int .u64 v19) ∧ Own κ w' S) (.int .u64 v19) hs rfl (by kernel_rfl) ⟨rfl, hs.own.drop⟩
        · replace hm := bif_f hm hb
          refine Vk.seq fun K20 hK20 => ?_
          refine Vk.region ?_
          refine Vk.pures 2 [(33, .bool (v9 == 5)), (34, .bool (v9 == 5))] hs (by kernel_rfl) fun a hs => ?_
          replace hs := hs.norm [1, 2, 3, 5, 11, 17, 33] (L' := [(1, .int .u64 x1), (2, .int .u64 x2), (3, .int .u64 x3), (5, .pointer (some ⟨b2, 0, none⟩)), (11, .int .i64 (IntKind.i64.wrap (Int.tmod v5 64))), (17, .int .i64 v9), (33, .bool (v9 == 5))]) (pt b2 (blk x0 32) :: S) (by kernel_rfl) (by kernel_rfl)
          refine Vk.done (by kernel_rfl) ?_
          refine hK20 _ _ ?_
          clear hK20
          refine Vk.condS (b := v9 == 5) hs (by kernel_rfl) (by kernel_rfl) (fun hb => ?_) (fun hb => ?_)
          · replace hm := bif_t hm hb
            refine Vk.seq fun K21 hK21 => ?_
            refine Vk.region ?_
            refine Vk.pures 4 [(10, .int .u64 (bxor .u64 x1 x2)), (37, .int .u64 (bxor .u64 x1 x2)), (36, .int .u64 x2), (35, .int .u64 x1)] hs (by kernel_rfl) fun a hs => ?_
            replace hs := hs.norm [10] (L' := [(10, .int .u64 (bxor .u64 x1 x2))]) (pt b2 (blk x0 32) :: S) (by kernel_rfl) (by kernel_rfl)
            refine Vk.done (by kernel_rfl) ?_
            refine hK21 _ _ ?_
            clear hK21
            refine wp_ret ?_
            obtain rfl := Option.some.inj hm
            exact Vk.ret1 (P := Try.prog) (fn := Try.f22) (R := fun e w' => e = .returned (.int .u64 (bxor .u64 x1 x2)) ∧ Own κ w' S) (.int .u64 (bxor .u64 x1 x2)) hs rfl (by kernel_rfl) ⟨rfl, hs.own.drop⟩
          · replace hm := bif_f hm hb
            refine Vk.seq fun K22 hK22 => ?_
            refine Vk.region ?_
            refine Vk.pures 2 [(38, .bool (v9 == 6)), (39, .bool (v9 == 6))] hs (by kernel_rfl) fun a hs => ?_
            replace hs := hs.norm [1, 2, 3, 5, 11, 17, 38] (L' := [(1, .int .u64 x1), (2, .int .u64 x2), (3, .int .u64 x3), (5, .pointer (some ⟨b2, 0, none⟩)), (11, .int .i64 (IntKind.i64.wrap (Int.tmod v5 64))), (17, .int .i64 v9), (38, .bool (v9 == 6))]) (pt b2 (blk x0 32) :: S) (by kernel_rfl) (by kernel_rfl)
            refine Vk.done (by kernel_rfl) ?_
            refine hK22 _ _ ?_
            clear hK22
            refine Vk.condS (b := v9 == 6) hs (by kernel_rfl) (by kernel_rfl) (fun hb => ?_) (fun hb => ?_)
            · replace hm := bif_t hm hb
              refine Vk.seq fun K23 hK23 => ?_
              refine Vk.region ?_
              refine Vk.pures 3 [(10, .int .u64 (IntKind.u64.wrap (18446744073709551615 - x1))), (41, .int .u64 (IntKind.u64.wrap (18446744073709551615 - x1))), (40, .int .u64 x1)] hs (by kernel_rfl) fun a hs => ?_
              replace hs := hs.norm [10] (L' := [(10, .int .u64 (IntKind.u64.wrap (18446744073709551615 - x1)))]) (pt b2 (blk x0 32) :: S) (by kernel_rfl) (by kernel_rfl)
              refine Vk.done (by kernel_rfl) ?_
              refine hK23 _ _ ?_
              clear hK23
              refine wp_ret ?_
              obtain rfl := Option.some.inj hm
              exact Vk.ret1 (P := Try.prog) (fn := Try.f22) (R := fun e w' => e = .returned (.int .u64 (IntKind.u64.wrap (18446744073709551615 - x1))) ∧ Own κ w' S) (.int .u64 (IntKind.u64.wrap (18446744073709551615 - x1))) hs rfl (by kernel_rfl) ⟨rfl, hs.own.drop⟩
            · replace hm := bif_f hm hb
              refine Vk.seq fun K24 hK24 => ?_
              refine Vk.region ?_
              refine Vk.pures 2 [(42, .bool (v9 == 7)), (43, .bool (v9 == 7))] hs (by kernel_rfl) fun a hs => ?_
              replace hs := hs.norm [1, 2, 3, 5, 11, 17, 42] (L' := [(1, .int .u64 x1), (2, .int .u64 x2), (3, .int .u64 x3), (5, .pointer (some ⟨b2, 0, none⟩)), (11, .int .i64 (IntKind.i64.wrap (Int.tmod v5 64))), (17, .int .i64 v9), (42, .bool (v9 == 7))]) (pt b2 (blk x0 32) :: S) (by kernel_rfl) (by kernel_rfl)
              refine Vk.done (by kernel_rfl) ?_
              refine hK24 _ _ ?_
              clear hK24
              refine Vk.condS (b := v9 == 7) hs (by kernel_rfl) (by kernel_rfl) (fun hb => ?_) (fun hb => ?_)
              · replace hm := bif_t hm hb
                refine Vk.seq fun K25 hK25 => ?_
                refine Vk.region ?_
                refine Vk.pures 4 [(10, .int .u64 (band .u64 x1 x2)), (46, .int .u64 (band .u64 x1 x2)), (45, .int .u64 x2), (44, .int .u64 x1)] hs (by kernel_rfl) fun a hs => ?_
                replace hs := hs.norm [10] (L' := [(10, .int .u64 (band .u64 x1 x2))]) (pt b2 (blk x0 32) :: S) (by kernel_rfl) (by kernel_rfl)
                refine Vk.done (by kernel_rfl) ?_
                refine hK25 _ _ ?_
                clear hK25
                refine wp_ret ?_
                obtain rfl := Option.some.inj hm
                exact Vk.ret1 (P := Try.prog) (fn := Try.f22) (R := fun e w' => e = .returned (.int .u64 (band .u64 x1 x2)) ∧ Own κ w' S) (.int .u64 (band .u64 x1 x2)) hs rfl (by kernel_rfl) ⟨rfl, hs.own.drop⟩
              · replace hm := bif_f hm hb
                refine Vk.seq fun K26 hK26 => ?_
                refine Vk.region ?_
                refine Vk.pures 2 [(47, .bool (v9 == 8)), (48, .bool (v9 == 8))] hs (by kernel_rfl) fun a hs => ?_
                replace hs := hs.norm [1, 2, 3, 5, 11, 17, 47] (L' := [(1, .int .u64 x1), (2, .int .u64 x2), (3, .int .u64 x3), (5, .pointer (some ⟨b2, 0, none⟩)), (11, .int .i64 (IntKind.i64.wrap (Int.tmod v5 64))), (17, .int .i64 v9), (47, .bool (v9 == 8))]) (pt b2 (blk x0 32) :: S) (by kernel_rfl) (by kernel_rfl)
                refine Vk.done (by kernel_rfl) ?_
                refine hK26 _ _ ?_
                clear hK26
                refine Vk.condS (b := v9 == 8) hs (by kernel_rfl) (by kernel_rfl) (fun hb => ?_) (fun hb => ?_)
                · replace hm := bif_t hm hb
                  refine Vk.seq fun K27 hK27 => ?_
                  refine Vk.region ?_
                  refine Vk.pures 2 [(50, .pointer (some ⟨b2, 5, none⟩)), (49, .int .u64 x1)] hs (by kernel_rfl) fun a hs => ?_
                  obtain ⟨v29, h28, hm⟩ := bind_t hm
                  refine Vk.step (Vk.value (some 51) (.int .u64 v29) hs (by kernel_rfl) (op := (.load 23 (.tmp 50))) (by kernel_rfl) (fun o ho => run_load1 (c := C.int .u64 v29) ho (by kernel_rfl) (by kernel_rfl) (Cell.own 0 rfl (getI_some h28)) _ hs.own) fun a hs => ?_)
                  refine Vk.pures 2 [(10, .int .u64 (band .u64 x1 v29)), (52, .int .u64 (band .u64 x1 v29))] hs (by kernel_rfl) fun a hs => ?_
                  replace hs := hs.norm [10] (L' := [(10, .int .u64 (band .u64 x1 v29))]) (pt b2 (blk x0 32) :: S) (by kernel_rfl) (by kernel_rfl)
                  refine Vk.done (by kernel_rfl) ?_
                  refine hK27 _ _ ?_
                  clear hK27
                  refine wp_ret ?_
                  obtain rfl := Option.some.inj hm
                  exact Vk.ret1 (P := Try.prog) (fn := Try.f22) (R := fun e w' => e = .returned (.int .u64 (band .u64 x1 v29)) ∧ Own κ w' S) (.int .u64 (band .u64 x1 v29)) hs rfl (by kernel_rfl) ⟨rfl, hs.own.drop⟩
                · replace hm := bif_f hm hb
                  refine Vk.seq fun K30 hK30 => ?_
                  refine Vk.region ?_
                  refine Vk.pures 2 [(53, .bool (v9 == 9)), (54, .bool (v9 == 9))] hs (by kernel_rfl) fun a hs => ?_
                  replace hs := hs.norm [1, 2, 3, 11, 17, 53] (L' := [(1, .int .u64 x1), (2, .int .u64 x2), (3, .int .u64 x3), (11, .int .i64 (IntKind.i64.wrap (Int.tmod v5 64))), (17, .int .i64 v9), (53, .bool (v9 == 9))]) (pt b2 (blk x0 32) :: S) (by kernel_rfl) (by kernel_rfl)
                  refine Vk.done (by kernel_rfl) ?_
                  refine hK30 _ _ ?_
                  clear hK30
                  refine Vk.condS (b := v9 == 9) hs (by kernel_rfl) (by kernel_rfl) (fun hb => ?_) (fun hb => ?_)
                  · replace hm := bif_t hm hb
                    refine Vk.seq fun K31 hK31 => ?_
                    refine Vk.region ?_
                    refine Vk.pures 3 [(57, .int .i64 (IntKind.i64.wrap (64 - (IntKind.i64.wrap (Int.tmod v5 64))))), (56, .int .i64 (IntKind.i64.wrap (Int.tmod v5 64))), (55, .int .u64 x1)] hs (by kernel_rfl) fun a hs => ?_
                    obtain ⟨v33, h32, hm⟩ := bind_t hm
                    refine Vk.step (Vk.call (some 58) 74 #[.int .i64 (IntKind.i64.wrap (64 - (IntKind.i64.wrap (Int.tmod v5 64))))] hs (by kernel_rfl) (by kernel_rfl) (by kernel_rfl) ?_)
                    refine (visorref01_Low.ok k (IntKind.i64.wrap (64 - (IntKind.i64.wrap (Int.tmod v5 64)))) v33 h32 κ w _ hs.own).mono ?_
                    rintro _ w ⟨rfl, how⟩
                    refine ⟨_, _, _, rfl, how, fun a hs => ?_⟩
                    refine Vk.pures 2 [(60, .int .i64 (IntKind.i64.wrap (Int.tmod v5 64))), (59, .int .u64 (band .u64 x1 v33))] hs (by kernel_rfl) fun a hs => ?_
                    obtain ⟨v35, h34, hm⟩ := bind_t hm
                    refine Vk.step (Vk.call (some 61) 73 #[.int .u64 (band .u64 x1 v33), .int .i64 (IntKind.i64.wrap (Int.tmod v5 64))] hs (by kernel_rfl) (by kernel_rfl) (by kernel_rfl) ?_)
                    refine (visorref01_Rot.ok k (band .u64 x1 v33) (IntKind.i64.wrap (Int.tmod v5 64)) v35 h34 κ w _ hs.own).mono ?_
                    rintro _ w ⟨rfl, how⟩
                    refine ⟨_, _, _, rfl, how, fun a hs => ?_⟩
                    refine Vk.pures 1 [(10, .int .u64 v35)] hs (by kernel_rfl) fun a hs => ?_
                    replace hs := hs.norm [10] (L' := [(10, .int .u64 v35)]) (pt b2 (blk x0 32) :: S) (by kernel_rfl) (by kernel_rfl)
                    refine Vk.done (by kernel_rfl) ?_
                    refine hK31 _ _ ?_
                    clear hK31
                    refine wp_ret ?_
                    obtain rfl := Option.some.inj hm
                    exact Vk.ret1 (P := Try.prog) (fn := Try.f22) (R := fun e w' => e = .returned (.int .u64 v35) ∧ Own κ w' S) (.int .u64 v35) hs rfl (by kernel_rfl) ⟨rfl, hs.own.drop⟩
                  · replace hm := bif_f hm hb
                    refine Vk.seq fun K36 hK36 => ?_
                    refine Vk.region ?_
                    refine Vk.pures 2 [(62, .bool (v9 == 10)), (63, .bool (v9 == 10))] hs (by kernel_rfl) fun a hs => ?_
                    replace hs := hs.norm [1, 2, 3, 11, 17, 62] (L' := [(1, .int .u64 x1), (2, .int .u64 x2), (3, .int .u64 x3), (11, .int .i64 (IntKind.i64.wrap (Int.tmod v5 64))), (17, .int .i64 v9), (62, .bool (v9 == 10))]) (pt b2 (blk x0 32) :: S) (by kernel_rfl) (by kernel_rfl)
                    refine Vk.done (by kernel_rfl) ?_
                    refine hK36 _ _ ?_
                    clear hK36
                    refine Vk.condS (b := v9 == 10) hs (by kernel_rfl) (by kernel_rfl) (fun hb => ?_) (fun hb => ?_)
                    · replace hm := bif_t hm hb
                      refine Vk.seq fun K37 hK37 => ?_
                      refine Vk.region ?_
                      refine Vk.pures 3 [(66, .int .i64 (IntKind.i64.wrap (64 - (IntKind.i64.wrap (Int.tmod v5 64))))), (65, .int .i64 (IntKind.i64.wrap (Int.tmod v5 64))), (64, .int .u64 x1)] hs (by kernel_rfl) fun a hs => ?_
                      obtain ⟨v39, h38, hm⟩ := bind_t hm
                      refine Vk.step (Vk.call (some 67) 73 #[.int .u64 x1, .int .i64 (IntKind.i64.wrap (64 - (IntKind.i64.wrap (Int.tmod v5 64))))] hs (by kernel_rfl) (by kernel_rfl) (by kernel_rfl) ?_)
                      refine (visorref01_Rot.ok k x1 (IntKind.i64.wrap (64 - (IntKind.i64.wrap (Int.tmod v5 64)))) v39 h38 κ w _ hs.own).mono ?_
                      rintro _ w ⟨rfl, how⟩
                      refine ⟨_, _, _, rfl, how, fun a hs => ?_⟩
                      refine Vk.pures 2 [(69, .int .i64 (IntKind.i64.wrap (64 - (IntKind.i64.wrap (Int.tmod v5 64))))), (68, .int .i64 (IntKind.i64.wrap (Int.tmod v5 64)))] hs (by kernel_rfl) fun a hs => ?_
                      obtain ⟨v41, h40, hm⟩ := bind_t hm
                      refine Vk.step (Vk.call (some 70) 74 #[.int .i64 (IntKind.i64.wrap (64 - (IntKind.i64.wrap (Int.tmod v5 64))))] hs (by kernel_rfl) (by kernel_rfl) (by kernel_rfl) ?_)
                      refine (visorref01_Low.ok k (IntKind.i64.wrap (64 - (IntKind.i64.wrap (Int.tmod v5 64)))) v41 h40 κ w _ hs.own).mono ?_
                      rintro _ w ⟨rfl, how⟩
                      refine ⟨_, _, _, rfl, how, fun a hs => ?_⟩
                      refine Vk.pures 2 [(10, .int .u64 (band .u64 v39 v41)), (71, .int .u64 (band .u64 v39 v41))] hs (by kernel_rfl) fun a hs => ?_
                      replace hs := hs.norm [10] (L' := [(10, .int .u64 (band .u64 v39 v41))]) (pt b2 (blk x0 32) :: S) (by kernel_rfl) (by kernel_rfl)
                      refine Vk.done (by kernel_rfl) ?_
                      refine hK37 _ _ ?_
                      clear hK37
                      refine wp_ret ?_
                      obtain rfl := Option.some.inj hm
                      exact Vk.ret1 (P := Try.prog) (fn := Try.f22) (R := fun e w' => e = .returned (.int .u64 (band .u64 v39 v41)) ∧ Own κ w' S) (.int .u64 (band .u64 v39 v41)) hs rfl (by kernel_rfl) ⟨rfl, hs.own.drop⟩
                    · replace hm := bif_f hm hb
                      refine Vk.seq fun K42 hK42 => ?_
                      refine Vk.region ?_
                      refine Vk.pures 2 [(72, .bool (v9 == 11)), (73, .bool (v9 == 11))] hs (by kernel_rfl) fun a hs => ?_
                      replace hs := hs.norm [1, 2, 3, 11, 17, 72] (L' := [(1, .int .u64 x1), (2, .int .u64 x2), (3, .int .u64 x3), (11, .int .i64 (IntKind.i64.wrap (Int.tmod v5 64))), (17, .int .i64 v9), (72, .bool (v9 == 11))]) (pt b2 (blk x0 32) :: S) (by kernel_rfl) (by kernel_rfl)
                      refine Vk.done (by kernel_rfl) ?_
                      refine hK42 _ _ ?_
                      clear hK42
                      refine Vk.condS (b := v9 == 11) hs (by kernel_rfl) (by kernel_rfl) (fun hb => ?_) (fun hb => ?_)
                      · replace hm := bif_t hm hb
                        refine Vk.seq fun K43 hK43 => ?_
                        refine Vk.region ?_
                        refine Vk.pures 2 [(75, .int .i64 (IntKind.i64.wrap (Int.tmod v5 64))), (74, .int .u64 x1)] hs (by kernel_rfl) fun a hs => ?_
                        obtain ⟨v45, h44, hm⟩ := bind_t hm
                        refine Vk.step (Vk.call (some 76) 73 #[.int .u64 x1, .int .i64 (IntKind.i64.wrap (Int.tmod v5 64))] hs (by kernel_rfl) (by kernel_rfl) (by kernel_rfl) ?_)
                        refine (visorref01_Rot.ok k x1 (IntKind.i64.wrap (Int.tmod v5 64)) v45 h44 κ w _ hs.own).mono ?_
                        rintro _ w ⟨rfl, how⟩
                        refine ⟨_, _, _, rfl, how, fun a hs => ?_⟩
                        refine Vk.pures 1 [(10, .int .u64 v45)] hs (by kernel_rfl) fun a hs => ?_
                        replace hs := hs.norm [10] (L' := [(10, .int .u64 v45)]) (pt b2 (blk x0 32) :: S) (by kernel_rfl) (by kernel_rfl)
                        refine Vk.done (by kernel_rfl) ?_
                        refine hK43 _ _ ?_
                        clear hK43
                        refine wp_ret ?_
                        obtain rfl := Option.some.inj hm
                        exact Vk.ret1 (P := Try.prog) (fn := Try.f22) (R := fun e w' => e = .returned (.int .u64 v45) ∧ Own κ w' S) (.int .u64 v45) hs rfl (by kernel_rfl) ⟨rfl, hs.own.drop⟩
                      · replace hm := bif_f hm hb
                        refine Vk.seq fun K46 hK46 => ?_
                        refine Vk.region ?_
                        refine Vk.pures 2 [(77, .bool (v9 == 12)), (78, .bool (v9 == 12))] hs (by kernel_rfl) fun a hs => ?_
                        replace hs := hs.norm [1, 2, 3, 77] (L' := [(1, .int .u64 x1), (2, .int .u64 x2), (3, .int .u64 x3), (77, .bool (v9 == 12))]) (pt b2 (blk x0 32) :: S) (by kernel_rfl) (by kernel_rfl)
                        refine Vk.done (by kernel_rfl) ?_
                        refine hK46 _ _ ?_
                        clear hK46
                        refine Vk.condS (b := v9 == 12) hs (by kernel_rfl) (by kernel_rfl) (fun hb => ?_) (fun hb => ?_)
                        · replace hm := bif_t hm hb
                          refine Vk.seq fun K47 hK47 => ?_
                          refine Vk.region ?_
                          refine Vk.pures 6 [(10, .int .u64 (bxor .u64 (bxor .u64 x1 x2) x3)), (83, .int .u64 (bxor .u64 (bxor .u64 x1 x2) x3)), (82, .int .u64 x3), (81, .int .u64 (bxor .u64 x1 x2)), (80, .int .u64 x2), (79, .int .u64 x1)] hs (by kernel_rfl) fun a hs => ?_
                          replace hs := hs.norm [10] (L' := [(10, .int .u64 (bxor .u64 (bxor .u64 x1 x2) x3))]) (pt b2 (blk x0 32) :: S) (by kernel_rfl) (by kernel_rfl)
                          refine Vk.done (by kernel_rfl) ?_
                          refine hK47 _ _ ?_
                          clear hK47
                          refine wp_ret ?_
                          obtain rfl := Option.some.inj hm
                          exact Vk.ret1 (P := Try.prog) (fn := Try.f22) (R := fun e w' => e = .returned (.int .u64 (bxor .u64 (bxor .u64 x1 x2) x3)) ∧ Own κ w' S) (.int .u64 (bxor .u64 (bxor .u64 x1 x2) x3)) hs rfl (by kernel_rfl) ⟨rfl, hs.own.drop⟩
                        · replace hm := bif_f hm hb
                          refine wp_skip ?_
                          refine hK6 _ _ ?_
                          clear hK6
                          refine Vk.seq fun K48 hK48 => ?_
                          refine Vk.region ?_
                          refine Vk.pures 1 [(10, .int .u64 0)] hs (by kernel_rfl) fun a hs => ?_
                          replace hs := hs.norm [10] (L' := [(10, .int .u64 0)]) (pt b2 (blk x0 32) :: S) (by kernel_rfl) (by kernel_rfl)
                          refine Vk.done (by kernel_rfl) ?_
                          refine hK48 _ _ ?_
                          clear hK48
                          refine wp_ret ?_
                          obtain rfl := Option.some.inj hm
                          exact Vk.ret1 (P := Try.prog) (fn := Try.f22) (R := fun e w' => e = .returned (.int .u64 0) ∧ Own κ w' S) (.int .u64 0) hs rfl (by kernel_rfl) ⟨rfl, hs.own.drop⟩
      refine Vk.seq fun K15 hK15 => ?_
      refine Vk.region ?_
      refine Vk.pures 2 [(28, .bool (v9 == 3)), (29, .bool (v9 == 3))] hs (by kernel_rfl) fun a hs => ?_
      replace hs := hs.norm [1, 2, 3, 5, 11, 17, 28] (L' := [(1, .int .u64 x1), (2, .int .u64 x2), (3, .int .u64 x3), (5, .pointer (some ⟨b2, 0, none⟩)), (11, .int .i64 (IntKind.i64.wrap (Int.tmod v5 64))), (17, .int .i64 v9), (28, .bool (v9 == 3))]) (pt b2 (blk x0 32) :: S) (by kernel_rfl) (by kernel_rfl)
      refine Vk.done (by kernel_rfl) ?_
      refine hK15 _ _ ?_
      clear hK15
      refine Vk.condS (b := v9 == 3) hs (by kernel_rfl) (by kernel_rfl) (fun hb => ?_) (fun hb => ?_)
      · replace hm := bif_t hm hb
        refine wp_skip ?_
        exact hj14 (v9 == 3) hm _ _ ((hs).norm [1, 2, 3, 5, 11, 17, 28] (pt b2 (blk x0 32) :: S) (by kernel_rfl) (by kernel_rfl))
      · replace hm := bif_f hm hb
        refine Vk.region ?_
        refine Vk.pures 2 [(28, .bool (v9 == 4)), (30, .bool (v9 == 4))] hs (by kernel_rfl) fun a hs => ?_
        replace hs := hs.norm [1, 2, 3, 5, 11, 17, 28] (L' := [(1, .int .u64 x1), (2, .int .u64 x2), (3, .int .u64 x3), (5, .pointer (some ⟨b2, 0, none⟩)), (11, .int .i64 (IntKind.i64.wrap (Int.tmod v5 64))), (17, .int .i64 v9), (28, .bool (v9 == 4))]) (pt b2 (blk x0 32) :: S) (by kernel_rfl) (by kernel_rfl)
        refine Vk.done (by kernel_rfl) ?_
        exact hj14 (v9 == 4) hm _ _ ((hs).norm [1, 2, 3, 5, 11, 17, 28] (pt b2 (blk x0 32) :: S) (by kernel_rfl) (by kernel_rfl))

def visorlaw17_awake.j2 (k : Nat) (p7 : Bool) : Option Bool := some p7
def visorlaw17_awake.m (k : Nat) : Option Bool := (op_Name.m k 5).bind fun v4 => (bif v4.toList == (⟨#[120, 111, 114]⟩ : ByteArray).toList then (op_Eval.m k [C.int .i64 11, C.int .i64 0, C.int .i64 0, C.int .i64 0, C.int .i64 0, C.int .u64 63] 1 0 0 0).bind fun v6 => visorlaw17_awake.j2 k (v6 == 9223372036854775808) else visorlaw17_awake.j2 k false)

set_option maxRecDepth 100000 in
set_option maxHeartbeats 2000000 in
theorem visorlaw17_awake.ok (k : Nat) (r : Bool) (hm : visorlaw17_awake.m k = some r) (κ : Ctx) (w : World) (S : List HP) (ho : Own κ w S) :
    Calls Try.prog 23 #[] w (fun e w' => e = .returned (.bool r) ∧ Own κ w' S) := by
  unfold visorlaw17_awake.m at hm
  refine Vk.enter [] Try.func23 rfl Try.ntmps23 (by kernel_rfl) (Nat.le_of_ble_eq_true (by kernel_rfl)) ho fun a hs => ?_
  have hcalm : Vk.Calm (bodyPost Try.prog Try.f23 (fun e w' => e = .returned (.bool r) ∧ Own κ w' S)) := Vk.Calm.post
  refine Vk.seq fun K1 hK1 => ?_
  refine Vk.region ?_
  refine Vk.pures 1 [(0, .bool false)] hs (by kernel_rfl) fun a hs => ?_
  replace hs := hs.norm [] (L' := []) (S) (by kernel_rfl) (by kernel_rfl)
  refine Vk.done (by kernel_rfl) ?_
  refine hK1 _ _ ?_
  clear hK1
  refine Vk.seq fun K2 hK2 => ?_
  have hj2 : ∀ (p7 : Bool), visorlaw17_awake.j2 k p7 = some r → ∀ (a : Act) (w : World), St 8 a w κ [(0, .bool p7)] (S) → K2 a w := by
    intro p7 hm a w hs
    unfold visorlaw17_awake.j2 at hm
    refine hK2 _ _ ?_
    refine wp_ret ?_
    obtain rfl := Option.some.inj hm
    exact Vk.ret1 (P := Try.prog) (fn := Try.f23) (R := fun e w' => e = .returned (.bool p7) ∧ Own κ w' S) (.bool p7) hs rfl (by kernel_rfl) ⟨rfl, hs.own⟩
  refine Vk.region ?_
  obtain ⟨v4, h3, hm⟩ := bind_t hm
  refine Vk.step (Vk.call (some 1) 75 #[.int .i64 5] hs (by kernel_rfl) (by kernel_rfl) (by kernel_rfl) ?_)
  refine (op_Name.ok k 5 v4 h3 κ w _ hs.own).mono ?_
  rintro _ w ⟨rfl, how⟩
  refine ⟨_, _, _, rfl, how, fun a hs => ?_⟩
  refine Vk.pures 2 [(3, .bool (v4.toList == (⟨#[120, 111, 114]⟩ : ByteArray).toList)), (2, .bool (v4.toList == (⟨#[120, 111, 114]⟩ : ByteArray).toList))] hs (by kernel_rfl) fun a hs => ?_
  rcases Bool.eq_false_or_eq_true (v4.toList == (⟨#[120, 111, 114]⟩ : ByteArray).toList) with hb | hb
  · replace hm := bif_t hm hb
    replace hs := hs.known (t := 3) hb (by kernel_rfl)
    refine Vk.pures 1 [(4, .agg (vals [C.int .i64 11, C.int .i64 0, C.int .i64 0, C.int .i64 0, C.int .i64 0, C.int .u64 63]))] hs (by kernel_rfl) fun a hs => ?_
    obtain ⟨v6, h5, hm⟩ := bind_t hm
    refine Vk.step (Vk.call (some 5) 21 #[.agg (vals [C.int .i64 11, C.int .i64 0, C.int .i64 0, C.int .i64 0, C.int .i64 0, C.int .u64 63]), .int .u64 1, .int .u64 0, .int .u64 0, .int .u64 0] hs (by kernel_rfl) (by kernel_rfl) (by kernel_rfl) ?_)
    refine (op_Eval.ok k [C.int .i64 11, C.int .i64 0, C.int .i64 0, C.int .i64 0, C.int .i64 0, C.int .u64 63] 1 0 0 0 v6 h5 κ w _ hs.own).mono ?_
    rintro _ w ⟨rfl, how⟩
    refine ⟨_, _, _, rfl, how, fun a hs => ?_⟩
    refine Vk.pures 3 [(0, .bool (v6 == 9223372036854775808)), (7, .bool (v6 == 9223372036854775808)), (6, .bool (v6 == 9223372036854775808))] hs (by kernel_rfl) fun a hs => ?_
    replace hs := hs.norm [0] (L' := [(0, .bool (v6 == 9223372036854775808))]) (S) (by kernel_rfl) (by kernel_rfl)
    refine Vk.done (by kernel_rfl) ?_
    exact hj2 (v6 == 9223372036854775808) hm _ _ ((hs).norm [0] (S) (by kernel_rfl) (by kernel_rfl))
  · replace hm := bif_f hm hb
    replace hs := hs.known (t := 3) hb (by kernel_rfl)
    refine Vk.pures 5 [(0, .bool false), (7, .bool false), (6, undef), (5, undef), (4, undef)] hs (by kernel_rfl) fun a hs => ?_
    replace hs := hs.norm [0] (L' := [(0, .bool false)]) (S) (by kernel_rfl) (by kernel_rfl)
    refine Vk.done (by kernel_rfl) ?_
    exact hj2 false hm _ _ ((hs).norm [0] (S) (by kernel_rfl) (by kernel_rfl))

def visorlaw17_OpMakes.j3 (k : Nat) (p11 : Bool) : Option Bool := some p11
def visorlaw17_OpMakes.m (k : Nat) (x0 : Cells) (x1 : Int) (x2 : Int) (x3 : Int) (x4 : Int) : Option Bool := (if x0.length = 6 then (op_Eval.m k x0 x1 x2 x3 x4).bind fun v6 => (visorref17_Eval.m k x0 x1 x2 x3 x4).bind fun v8 => (bif v6 == v8 then (visorlaw17_awake.m k).bind fun v10 => visorlaw17_OpMakes.j3 k v10 else visorlaw17_OpMakes.j3 k false) else none)

set_option maxRecDepth 100000 in
set_option maxHeartbeats 2000000 in
theorem visorlaw17_OpMakes.ok (k : Nat) (x0 : Cells) (x1 : Int) (x2 : Int) (x3 : Int) (x4 : Int) (r : Bool) (hm : visorlaw17_OpMakes.m k x0 x1 x2 x3 x4 = some r) (κ : Ctx) (w : World) (S : List HP) (ho : Own κ w S) :
    Calls Try.prog 5 #[.agg (vals x0), .int .u64 x1, .int .u64 x2, .int .u64 x3, .int .u64 x4] w (fun e w' => e = .returned (.bool r) ∧ Own κ w' S) := by
  unfold visorlaw17_OpMakes.m at hm
  refine Vk.enter [(0, .agg (vals x0)), (1, .int .u64 x1), (2, .int .u64 x2), (3, .int .u64 x3), (4, .int .u64 x4)] Try.func5 rfl Try.ntmps5 (by kernel_rfl) (Nat.le_of_ble_eq_true (by kernel_rfl)) ho fun a hs => ?_
  have hcalm : Vk.Calm (bodyPost Try.prog Try.f5 (fun e w' => e = .returned (.bool r) ∧ Own κ w' S)) := Vk.Calm.post
  refine Vk.seq fun K1 hK1 => ?_
  refine Vk.region ?_
  refine Vk.step (Vk.box (x := (.tmp 0)) 5 32 x0 hs (by kernel_rfl) (by kernel_rfl) (by kernel_rfl) fun b2 w a hs => ?_)
  refine Vk.pures 1 [(10, .bool false)] hs (by kernel_rfl) fun a hs => ?_
  replace hs := hs.norm [1, 2, 3, 4, 5] (L' := [(1, .int .u64 x1), (2, .int .u64 x2), (3, .int .u64 x3), (4, .int .u64 x4), (5, .pointer (some ⟨b2, 0, none⟩))]) (pt b2 (blk x0 32) :: S) (by kernel_rfl) (by kernel_rfl)
  refine Vk.done (by kernel_rfl) ?_
  refine hK1 _ _ ?_
  clear hK1
  refine Vk.seq fun K3 hK3 => ?_
  have hj3 : ∀ (p11 : Bool), visorlaw17_OpMakes.j3 k p11 = some r → ∀ (a : Act) (w : World), St 27 a w κ [(10, .bool p11)] (pt b2 (blk x0 32) :: S) → K3 a w := by
    intro p11 hm a w hs
    unfold visorlaw17_OpMakes.j3 at hm
    refine hK3 _ _ ?_
    refine wp_ret ?_
    obtain rfl := Option.some.inj hm
    exact Vk.ret1 (P := Try.prog) (fn := Try.f5) (R := fun e w' => e = .returned (.bool p11) ∧ Own κ w' S) (.bool p11) hs rfl (by kernel_rfl) ⟨rfl, hs.own.drop⟩
  refine Vk.drawnS 17 hs (by kernel_rfl) fun w hs => ?_
  have hcl := hs.own
  refine Vk.dPures [1, 2, 3, 4, 7, 8, 9, 10] [(21, .int .u64 x4), (20, .int .u64 x3), (19, .int .u64 x2), (18, .int .u64 x1), (15, .int .u64 x4), (14, .int .u64 x3), (13, .int .u64 x2), (12, .int .u64 x1)] hs (by kernel_rfl) (by repeat' (first | exact hcalm | apply Vk.Calm.then | apply Vk.Calm.inBlock)) hcl (by kernel_rfl) (fuel := 9) rfl fun a hs => ?_
  obtain ⟨h4, hm⟩ := ite_t hm
  refine Vk.dTake (i := 0) (some 11) (.agg (vals x0)) hs (by kernel_rfl) (by repeat' (first | exact hcalm | apply Vk.Calm.then | apply Vk.Calm.inBlock)) hcl (by kernel_rfl) (op := (.load 32 (.tmp 5))) (by kernel_rfl) (by kernel_rfl) (fun w hw o ho => run_loadN (cs := x0) ho (by kernel_rfl) (by kernel_rfl) h4 (CellsAt.all 0 rfl) _ hw) fun a hs => ?_
  refine Vk.dTake (i := 6) (some 17) (.agg (vals x0)) hs (by kernel_rfl) (by repeat' (first | exact hcalm | apply Vk.Calm.then | apply Vk.Calm.inBlock)) hcl (by kernel_rfl) (op := (.load 32 (.tmp 5))) (by kernel_rfl) (by kernel_rfl) (fun w hw o ho => run_loadN (cs := x0) ho (by kernel_rfl) (by kernel_rfl) h4 (CellsAt.all 0 rfl) _ hw) fun a hs => ?_
  obtain ⟨v6, h5, hm⟩ := bind_t hm
  refine Vk.dOnly (i := 5) (by kernel_rfl) (Vk.call (some 16) 21 #[.agg (vals x0), .int .u64 x1, .int .u64 x2, .int .u64 x3, .int .u64 x4] hs (by kernel_rfl) (by kernel_rfl) (by kernel_rfl) ?_)
  refine (op_Eval.ok k x0 x1 x2 x3 x4 v6 h5 κ w _ hs.own).mono ?_
  rintro _ w ⟨rfl, how⟩
  refine ⟨_, _, _, rfl, how, fun a hs => ?_⟩
  refine ⟨fun _ => hs.own, ?_⟩
  replace hcl := hs.own
  obtain ⟨v8, h7, hm⟩ := bind_t hm
  refine Vk.dOnly (i := 11) (by kernel_rfl) (Vk.call (some 22) 22 #[.agg (vals x0), .int .u64 x1, .int .u64 x2, .int .u64 x3, .int .u64 x4] hs (by kernel_rfl) (by kernel_rfl) (by kernel_rfl) ?_)
  refine (visorref17_Eval.ok k x0 x1 x2 x3 x4 v8 h7 κ w _ hs.own).mono ?_
  rintro _ w ⟨rfl, how⟩
  refine ⟨_, _, _, rfl, how, fun a hs => ?_⟩
  refine ⟨fun _ => hs.own, ?_⟩
  replace hcl := hs.own
  refine Vk.dPures [12, 13] [(24, .bool (v6 == v8)), (23, .bool (v6 == v8))] hs (by kernel_rfl) (by repeat' (first | exact hcalm | apply Vk.Calm.then | apply Vk.Calm.inBlock)) hcl (by kernel_rfl) (fuel := 3) rfl fun a hs => ?_
  rcases Bool.eq_false_or_eq_true (v6 == v8) with hb | hb
  · replace hm := bif_t hm hb
    replace hs := hs.known (t := 24) hb (by kernel_rfl)
    obtain ⟨v10, h9, hm⟩ := bind_t hm
    refine Vk.dOnly (i := 14) (by kernel_rfl) (Vk.call (some 25) 23 #[] hs (by kernel_rfl) (by kernel_rfl) (by kernel_rfl) ?_)
    refine (visorlaw17_awake.ok k v10 h9 κ w _ hs.own).mono ?_
    rintro _ w ⟨rfl, how⟩
    refine ⟨_, _, _, rfl, how, fun a hs => ?_⟩
    refine ⟨fun _ => hs.own, ?_⟩
    replace hcl := hs.own
    refine Vk.dPures [15, 16] [(10, .bool v10), (26, .bool v10)] hs (by kernel_rfl) (by repeat' (first | exact hcalm | apply Vk.Calm.then | apply Vk.Calm.inBlock)) hcl (by kernel_rfl) (fuel := 0) rfl fun a hs => ?_
    replace hs := hs.norm [10] (L' := [(10, .bool v10)]) (pt b2 (blk x0 32) :: S) (by kernel_rfl) (by kernel_rfl)
    refine Vk.dDone (by kernel_rfl) ?_
    exact hj3 v10 hm _ _ ((hs).norm [10] (pt b2 (blk x0 32) :: S) (by kernel_rfl) (by kernel_rfl))
  · replace hm := bif_f hm hb
    replace hs := hs.known (t := 24) hb (by kernel_rfl)
    refine Vk.dPures [14, 15, 16] [(10, .bool false), (26, .bool false), (25, undef)] hs (by kernel_rfl) (by repeat' (first | exact hcalm | apply Vk.Calm.then | apply Vk.Calm.inBlock)) hcl (by kernel_rfl) (fuel := 0) rfl fun a hs => ?_
    replace hs := hs.norm [10] (L' := [(10, .bool false)]) (pt b2 (blk x0 32) :: S) (by kernel_rfl) (by kernel_rfl)
    refine Vk.dDone (by kernel_rfl) ?_
    exact hj3 false hm _ _ ((hs).norm [10] (pt b2 (blk x0 32) :: S) (by kernel_rfl) (by kernel_rfl))

def visorlaw17_OpSums.j66 (k : Nat) (p69 : Bool) : Option Bool := some p69
def visorlaw17_OpSums.j46 (k : Nat) (v24 : Int) (p65 : Int) : Option Bool := (bif v24 == p65 then (visorlaw17_awake.m k).bind fun v68 => visorlaw17_OpSums.j66 k v68 else visorlaw17_OpSums.j66 k false)
def visorlaw17_OpSums.j59 (k : Nat) (x0 : Cells) (v24 : Int) (v43 : Int) (v45 : Int) (v49 : Int) (p61 : Bool) : Option Bool := (bif p61 then (getI .u64 x0 (5)).bind fun v63 => visorlaw17_OpSums.j46 k v24 (bxor .u64 (bxor .u64 v43 v45) v63) else (bif v49 == 6 then visorlaw17_OpSums.j46 k v24 (bnot .u64 (bxor .u64 v43 v45)) else visorlaw17_OpSums.j46 k v24 (bxor .u64 v43 v45)))
def visorlaw17_OpSums.m (k : Nat) (x0 : Cells) (x1 : Cells) (x2 : Cells) : Option Bool := (if x0.length = 6 then (getI .u64 x1 (0)).bind fun v8 => (getI .u64 x2 (0)).bind fun v10 => (getI .u64 x1 (1)).bind fun v12 => (getI .u64 x2 (1)).bind fun v14 => (getI .u64 x1 (2)).bind fun v16 => (getI .u64 x2 (2)).bind fun v18 => (getI .u64 x1 (3)).bind fun v20 => (getI .u64 x2 (3)).bind fun v22 => (op_Eval.m k x0 (bxor .u64 v8 v10) (bxor .u64 v12 v14) (bxor .u64 v16 v18) (bxor .u64 v20 v22)).bind fun v24 => (getI .u64 x1 (0)).bind fun v27 => (getI .u64 x1 (1)).bind fun v29 => (getI .u64 x1 (2)).bind fun v31 => (getI .u64 x1 (3)).bind fun v33 => (getI .u64 x2 (0)).bind fun v35 => (getI .u64 x2 (1)).bind fun v37 => (getI .u64 x2 (2)).bind fun v39 => (getI .u64 x2 (3)).bind fun v41 => (op_Eval.m k x0 v27 v29 v31 v33).bind fun v43 => (op_Eval.m k x0 v35 v37 v39 v41).bind fun v45 => (getI .i64 x0 (0)).bind fun v49 => (bif v49 == 7 then (getI .u64 x1 (0)).bind fun v52 => (getI .u64 x2 (1)).bind fun v54 => (getI .u64 x2 (0)).bind fun v56 => (getI .u64 x1 (1)).bind fun v58 => visorlaw17_OpSums.j46 k v24 (bxor .u64 (bxor .u64 (bxor .u64 v43 v45) (band .u64 v52 v54)) (band .u64 v56 v58)) else (bif v49 == 3 then visorlaw17_OpSums.j59 k x0 v24 v43 v45 v49 (v49 == 3) else visorlaw17_OpSums.j59 k x0 v24 v43 v45 v49 (v49 == 4))) else none)

set_option maxRecDepth 100000 in
set_option maxHeartbeats 2000000 in
theorem visorlaw17_OpSums.ok (k : Nat) (x0 : Cells) (x1 : Cells) (x2 : Cells) (r : Bool) (hm : visorlaw17_OpSums.m k x0 x1 x2 = some r) (κ : Ctx) (w : World) (S : List HP) (ho : Own κ w S) :
    Calls Try.prog 6 #[.agg (vals x0), .agg (vals x1), .agg (vals x2)] w (fun e w' => e = .returned (.bool r) ∧ Own κ w' S) := by
  unfold visorlaw17_OpSums.m at hm
  refine Vk.enter [(0, .agg (vals x0)), (1, .agg (vals x1)), (2, .agg (vals x2))] Try.func6 rfl Try.ntmps6 (by kernel_rfl) (Nat.le_of_ble_eq_true (by kernel_rfl)) ho fun a hs => ?_
  have hcalm : Vk.Calm (bodyPost Try.prog Try.f6 (fun e w' => e = .returned (.bool r) ∧ Own κ w' S)) := Vk.Calm.post
  refine Vk.seq fun K1 hK1 => ?_
  refine Vk.region ?_
  refine Vk.step (Vk.box (x := (.tmp 0)) 3 32 x0 hs (by kernel_rfl) (by kernel_rfl) (by kernel_rfl) fun b2 w a hs => ?_)
  refine Vk.step (Vk.box (x := (.tmp 1)) 4 35 x1 hs (by kernel_rfl) (by kernel_rfl) (by kernel_rfl) fun b3 w a hs => ?_)
  refine Vk.step (Vk.box (x := (.tmp 2)) 5 35 x2 hs (by kernel_rfl) (by kernel_rfl) (by kernel_rfl) fun b4 w a hs => ?_)
  refine Vk.pures 1 [(6, .bool false)] hs (by kernel_rfl) fun a hs => ?_
  replace hs := hs.norm [3, 4, 5] (L' := [(3, .pointer (some ⟨b2, 0, none⟩)), (4, .pointer (some ⟨b3, 0, none⟩)), (5, .pointer (some ⟨b4, 0, none⟩))]) (pt b4 (blk x2 35) :: pt b3 (blk x1 35) :: pt b2 (blk x0 32) :: S) (by kernel_rfl) (by kernel_rfl)
  refine Vk.done (by kernel_rfl) ?_
  refine hK1 _ _ ?_
  clear hK1
  refine Vk.seq fun K5 hK5 => ?_
  refine Vk.region ?_
  obtain ⟨h6, hm⟩ := ite_t hm
  refine Vk.step (Vk.value (some 9) (.agg (vals x0)) hs (by kernel_rfl) (op := (.load 32 (.tmp 3))) (by kernel_rfl) (fun o ho => run_loadN (cs := x0) ho (by kernel_rfl) (by kernel_rfl) h6 (CellsAt.all 2 rfl) _ hs.own) fun a hs => ?_)
  refine Vk.pures 1 [(10, .pointer (some ⟨b3, 0, none⟩))] hs (by kernel_rfl) fun a hs => ?_
  obtain ⟨v8, h7, hm⟩ := bind_t hm
  refine Vk.step (Vk.value (some 11) (.int .u64 v8) hs (by kernel_rfl) (op := (.load 23 (.tmp 10))) (by kernel_rfl) (fun o ho => run_load1 (c := C.int .u64 v8) ho (by kernel_rfl) (by kernel_rfl) (Cell.own 1 rfl (getI_some h7)) _ hs.own) fun a hs => ?_)
  refine Vk.pures 1 [(12, .pointer (some ⟨b4, 0, none⟩))] hs (by kernel_rfl) fun a hs => ?_
  obtain ⟨v10, h9, hm⟩ := bind_t hm
  refine Vk.step (Vk.value (some 13) (.int .u64 v10) hs (by kernel_rfl) (op := (.load 23 (.tmp 12))) (by kernel_rfl) (fun o ho => run_load1 (c := C.int .u64 v10) ho (by kernel_rfl) (by kernel_rfl) (Cell.own 0 rfl (getI_some h9)) _ hs.own) fun a hs => ?_)
  refine Vk.pures 2 [(15, .pointer (some ⟨b3, 1, none⟩)), (14, .int .u64 (bxor .u64 v8 v10))] hs (by kernel_rfl) fun a hs => ?_
  obtain ⟨v12, h11, hm⟩ := bind_t hm
  refine Vk.step (Vk.value (some 16) (.int .u64 v12) hs (by kernel_rfl) (op := (.load 23 (.tmp 15))) (by kernel_rfl) (fun o ho => run_load1 (c := C.int .u64 v12) ho (by kernel_rfl) (by kernel_rfl) (Cell.own 1 rfl (getI_some h11)) _ hs.own) fun a hs => ?_)
  refine Vk.pures 1 [(17, .pointer (some ⟨b4, 1, none⟩))] hs (by kernel_rfl) fun a hs => ?_
  obtain ⟨v14, h13, hm⟩ := bind_t hm
  refine Vk.step (Vk.value (some 18) (.int .u64 v14) hs (by kernel_rfl) (op := (.load 23 (.tmp 17))) (by kernel_rfl) (fun o ho => run_load1 (c := C.int .u64 v14) ho (by kernel_rfl) (by kernel_rfl) (Cell.own 0 rfl (getI_some h13)) _ hs.own) fun a hs => ?_)
  refine Vk.pures 2 [(20, .pointer (some ⟨b3, 2, none⟩)), (19, .int .u64 (bxor .u64 v12 v14))] hs (by kernel_rfl) fun a hs => ?_
  obtain ⟨v16, h15, hm⟩ := bind_t hm
  refine Vk.step (Vk.value (some 21) (.int .u64 v16) hs (by kernel_rfl) (op := (.load 23 (.tmp 20))) (by kernel_rfl) (fun o ho => run_load1 (c := C.int .u64 v16) ho (by kernel_rfl) (by kernel_rfl) (Cell.own 1 rfl (getI_some h15)) _ hs.own) fun a hs => ?_)
  refine Vk.pures 1 [(22, .pointer (some ⟨b4, 2, none⟩))] hs (by kernel_rfl) fun a hs => ?_
  obtain ⟨v18, h17, hm⟩ := bind_t hm
  refine Vk.step (Vk.value (some 23) (.int .u64 v18) hs (by kernel_rfl) (op := (.load 23 (.tmp 22))) (by kernel_rfl) (fun o ho => run_load1 (c := C.int .u64 v18) ho (by kernel_rfl) (by kernel_rfl) (Cell.own 0 rfl (getI_some h17)) _ hs.own) fun a hs => ?_)
  refine Vk.pures 2 [(25, .pointer (some ⟨b3, 3, none⟩)), (24, .int .u64 (bxor .u64 v16 v18))] hs (by kernel_rfl) fun a hs => ?_
  obtain ⟨v20, h19, hm⟩ := bind_t hm
  refine Vk.step (Vk.value (some 26) (.int .u64 v20) hs (by kernel_rfl) (op := (.load 23 (.tmp 25))) (by kernel_rfl) (fun o ho => run_load1 (c := C.int .u64 v20) ho (by kernel_rfl) (by kernel_rfl) (Cell.own 1 rfl (getI_some h19)) _ hs.own) fun a hs => ?_)
  refine Vk.pures 1 [(27, .pointer (some ⟨b4, 3, none⟩))] hs (by kernel_rfl) fun a hs => ?_
  obtain ⟨v22, h21, hm⟩ := bind_t hm
  refine Vk.step (Vk.value (some 28) (.int .u64 v22) hs (by kernel_rfl) (op := (.load 23 (.tmp 27))) (by kernel_rfl) (fun o ho => run_load1 (c := C.int .u64 v22) ho (by kernel_rfl) (by kernel_rfl) (Cell.own 0 rfl (getI_some h21)) _ hs.own) fun a hs => ?_)
  refine Vk.pures 1 [(29, .int .u64 (bxor .u64 v20 v22))] hs (by kernel_rfl) fun a hs => ?_
  obtain ⟨v24, h23, hm⟩ := bind_t hm
  refine Vk.step (Vk.call (some 30) 21 #[.agg (vals x0), .int .u64 (bxor .u64 v8 v10), .int .u64 (bxor .u64 v12 v14), .int .u64 (bxor .u64 v16 v18), .int .u64 (bxor .u64 v20 v22)] hs (by kernel_rfl) (by kernel_rfl) (by kernel_rfl) ?_)
  refine (op_Eval.ok k x0 (bxor .u64 v8 v10) (bxor .u64 v12 v14) (bxor .u64 v16 v18) (bxor .u64 v20 v22) v24 h23 κ w _ hs.own).mono ?_
  rintro _ w ⟨rfl, how⟩
  refine ⟨_, _, _, rfl, how, fun a hs => ?_⟩
  refine Vk.pures 1 [(7, .int .u64 v24)] hs (by kernel_rfl) fun a hs => ?_
  replace hs := hs.norm [3, 4, 5, 7] (L' := [(3, .pointer (some ⟨b2, 0, none⟩)), (4, .pointer (some ⟨b3, 0, none⟩)), (5, .pointer (some ⟨b4, 0, none⟩)), (7, .int .u64 v24)]) (pt b4 (blk x2 35) :: pt b3 (blk x1 35) :: pt b2 (blk x0 32) :: S) (by kernel_rfl) (by kernel_rfl)
  refine Vk.done (by kernel_rfl) ?_
  refine hK5 _ _ ?_
  clear hK5
  refine Vk.seq fun K25 hK25 => ?_
  refine Vk.drawnS 22 hs (by kernel_rfl) fun w hs => ?_
  have hcl := hs.own
  refine Vk.dPures [1, 3, 5, 7, 11, 13, 15, 17] [(48, .pointer (some ⟨b4, 3, none⟩)), (46, .pointer (some ⟨b4, 2, none⟩)), (44, .pointer (some ⟨b4, 1, none⟩)), (42, .pointer (some ⟨b4, 0, none⟩)), (38, .pointer (some ⟨b3, 3, none⟩)), (36, .pointer (some ⟨b3, 2, none⟩)), (34, .pointer (some ⟨b3, 1, none⟩)), (32, .pointer (some ⟨b3, 0, none⟩))] hs (by kernel_rfl) (by repeat' (first | exact hcalm | apply Vk.Calm.then | apply Vk.Calm.inBlock)) hcl (by kernel_rfl) (fuel := 14) rfl fun a hs => ?_
  refine Vk.dTake (i := 0) (some 31) (.agg (vals x0)) hs (by kernel_rfl) (by repeat' (first | exact hcalm | apply Vk.Calm.then | apply Vk.Calm.inBlock)) hcl (by kernel_rfl) (op := (.load 32 (.tmp 3))) (by kernel_rfl) (by kernel_rfl) (fun w hw o ho => run_loadN (cs := x0) ho (by kernel_rfl) (by kernel_rfl) h6 (CellsAt.all 2 rfl) _ hw) fun a hs => ?_
  obtain ⟨v27, h26, hm⟩ := bind_t hm
  refine Vk.dTake (i := 2) (some 33) (.int .u64 v27) hs (by kernel_rfl) (by repeat' (first | exact hcalm | apply Vk.Calm.then | apply Vk.Calm.inBlock)) hcl (by kernel_rfl) (op := (.load 23 (.tmp 32))) (by kernel_rfl) (by kernel_rfl) (fun w hw o ho => run_load1 (c := C.int .u64 v27) ho (by kernel_rfl) (by kernel_rfl) (Cell.own 1 rfl (getI_some h26)) _ hw) fun a hs => ?_
  obtain ⟨v29, h28, hm⟩ := bind_t hm
  refine Vk.dTake (i := 4) (some 35) (.int .u64 v29) hs (by kernel_rfl) (by repeat' (first | exact hcalm | apply Vk.Calm.then | apply Vk.Calm.inBlock)) hcl (by kernel_rfl) (op := (.load 23 (.tmp 34))) (by kernel_rfl) (by kernel_rfl) (fun w hw o ho => run_load1 (c := C.int .u64 v29) ho (by kernel_rfl) (by kernel_rfl) (Cell.own 1 rfl (getI_some h28)) _ hw) fun a hs => ?_
  obtain ⟨v31, h30, hm⟩ := bind_t hm
  refine Vk.dTake (i := 6) (some 37) (.int .u64 v31) hs (by kernel_rfl) (by repeat' (first | exact hcalm | apply Vk.Calm.then | apply Vk.Calm.inBlock)) hcl (by kernel_rfl) (op := (.load 23 (.tmp 36))) (by kernel_rfl) (by kernel_rfl) (fun w hw o ho => run_load1 (c := C.int .u64 v31) ho (by kernel_rfl) (by kernel_rfl) (Cell.own 1 rfl (getI_some h30)) _ hw) fun a hs => ?_
  obtain ⟨v33, h32, hm⟩ := bind_t hm
  refine Vk.dTake (i := 8) (some 39) (.int .u64 v33) hs (by kernel_rfl) (by repeat' (first | exact hcalm | apply Vk.Calm.then | apply Vk.Calm.inBlock)) hcl (by kernel_rfl) (op := (.load 23 (.tmp 38))) (by kernel_rfl) (by kernel_rfl) (fun w hw o ho => run_load1 (c := C.int .u64 v33) ho (by kernel_rfl) (by kernel_rfl) (Cell.own 1 rfl (getI_some h32)) _ hw) fun a hs => ?_
  refine Vk.dTake (i := 10) (some 41) (.agg (vals x0)) hs (by kernel_rfl) (by repeat' (first | exact hcalm | apply Vk.Calm.then | apply Vk.Calm.inBlock)) hcl (by kernel_rfl) (op := (.load 32 (.tmp 3))) (by kernel_rfl) (by kernel_rfl) (fun w hw o ho => run_loadN (cs := x0) ho (by kernel_rfl) (by kernel_rfl) h6 (CellsAt.all 2 rfl) _ hw) fun a hs => ?_
  obtain ⟨v35, h34, hm⟩ := bind_t hm
  refine Vk.dTake (i := 12) (some 43) (.int .u64 v35) hs (by kernel_rfl) (by repeat' (first | exact hcalm | apply Vk.Calm.then | apply Vk.Calm.inBlock)) hcl (by kernel_rfl) (op := (.load 23 (.tmp 42))) (by kernel_rfl) (by kernel_rfl) (fun w hw o ho => run_load1 (c := C.int .u64 v35) ho (by kernel_rfl) (by kernel_rfl) (Cell.own 0 rfl (getI_some h34)) _ hw) fun a hs => ?_
  obtain ⟨v37, h36, hm⟩ := bind_t hm
  refine Vk.dTake (i := 14) (some 45) (.int .u64 v37) hs (by kernel_rfl) (by repeat' (first | exact hcalm | apply Vk.Calm.then | apply Vk.Calm.inBlock)) hcl (by kernel_rfl) (op := (.load 23 (.tmp 44))) (by kernel_rfl) (by kernel_rfl) (fun w hw o ho => run_load1 (c := C.int .u64 v37) ho (by kernel_rfl) (by kernel_rfl) (Cell.own 0 rfl (getI_some h36)) _ hw) fun a hs => ?_
  obtain ⟨v39, h38, hm⟩ := bind_t hm
  refine Vk.dTake (i := 16) (some 47) (.int .u64 v39) hs (by kernel_rfl) (by repeat' (first | exact hcalm | apply Vk.Calm.then | apply Vk.Calm.inBlock)) hcl (by kernel_rfl) (op := (.load 23 (.tmp 46))) (by kernel_rfl) (by kernel_rfl) (fun w hw o ho => run_load1 (c := C.int .u64 v39) ho (by kernel_rfl) (by kernel_rfl) (Cell.own 0 rfl (getI_some h38)) _ hw) fun a hs => ?_
  obtain ⟨v41, h40, hm⟩ := bind_t hm
  refine Vk.dTake (i := 18) (some 49) (.int .u64 v41) hs (by kernel_rfl) (by repeat' (first | exact hcalm | apply Vk.Calm.then | apply Vk.Calm.inBlock)) hcl (by kernel_rfl) (op := (.load 23 (.tmp 48))) (by kernel_rfl) (by kernel_rfl) (fun w hw o ho => run_load1 (c := C.int .u64 v41) ho (by kernel_rfl) (by kernel_rfl) (Cell.own 0 rfl (getI_some h40)) _ hw) fun a hs => ?_
  obtain ⟨v43, h42, hm⟩ := bind_t hm
  refine Vk.dOnly (i := 9) (by kernel_rfl) (Vk.call (some 40) 21 #[.agg (vals x0), .int .u64 v27, .int .u64 v29, .int .u64 v31, .int .u64 v33] hs (by kernel_rfl) (by kernel_rfl) (by kernel_rfl) ?_)
  refine (op_Eval.ok k x0 v27 v29 v31 v33 v43 h42 κ w _ hs.own).mono ?_
  rintro _ w ⟨rfl, how⟩
  refine ⟨_, _, _, rfl, how, fun a hs => ?_⟩
  refine ⟨fun _ => hs.own, ?_⟩
  replace hcl := hs.own
  obtain ⟨v45, h44, hm⟩ := bind_t hm
  refine Vk.dOnly (i := 19) (by kernel_rfl) (Vk.call (some 50) 21 #[.agg (vals x0), .int .u64 v35, .int .u64 v37, .int .u64 v39, .int .u64 v41] hs (by kernel_rfl) (by kernel_rfl) (by kernel_rfl) ?_)
  refine (op_Eval.ok k x0 v35 v37 v39 v41 v45 h44 κ w _ hs.own).mono ?_
  rintro _ w ⟨rfl, how⟩
  refine ⟨_, _, _, rfl, how, fun a hs => ?_⟩
  refine ⟨fun _ => hs.own, ?_⟩
  replace hcl := hs.own
  refine Vk.dPures [20, 21] [(8, .int .u64 (bxor .u64 v43 v45)), (51, .int .u64 (bxor .u64 v43 v45))] hs (by kernel_rfl) (by repeat' (first | exact hcalm | apply Vk.Calm.then | apply Vk.Calm.inBlock)) hcl (by kernel_rfl) (fuel := 0) rfl fun a hs => ?_
  replace hs := hs.norm [3, 4, 5, 7, 8] (L' := [(3, .pointer (some ⟨b2, 0, none⟩)), (4, .pointer (some ⟨b3, 0, none⟩)), (5, .pointer (some ⟨b4, 0, none⟩)), (7, .int .u64 v24), (8, .int .u64 (bxor .u64 v43 v45))]) (pt b4 (blk x2 35) :: pt b3 (blk x1 35) :: pt b2 (blk x0 32) :: S) (by kernel_rfl) (by kernel_rfl)
  refine Vk.dDone (by kernel_rfl) ?_
  refine hK25 _ _ ?_
  clear hK25
  refine Vk.seq fun K46 hK46 => ?_
  have hj46 : ∀ (p65 : Int), visorlaw17_OpSums.j46 k v24 p65 = some r → ∀ (a : Act) (w : World), St 86 a w κ [(7, .int .u64 v24), (8, .int .u64 p65)] (pt b4 (blk x2 35) :: pt b3 (blk x1 35) :: pt b2 (blk x0 32) :: S) → K46 a w := by
    intro p65 hm a w hs
    unfold visorlaw17_OpSums.j46 at hm
    refine hK46 _ _ ?_
    refine Vk.seq fun K66 hK66 => ?_
    have hj66 : ∀ (p69 : Bool), visorlaw17_OpSums.j66 k p69 = some r → ∀ (a : Act) (w : World), St 86 a w κ [(6, .bool p69)] (pt b4 (blk x2 35) :: pt b3 (blk x1 35) :: pt b2 (blk x0 32) :: S) → K66 a w := by
      intro p69 hm a w hs
      unfold visorlaw17_OpSums.j66 at hm
      refine hK66 _ _ ?_
      refine wp_ret ?_
      obtain rfl := Option.some.inj hm
      exact Vk.ret1 (P := Try.prog) (fn := Try.f6) (R := fun e w' => e = .returned (.bool p69) ∧ Own κ w' S) (.bool p69) hs rfl (by kernel_rfl) ⟨rfl, hs.own.drop.drop.drop⟩
    refine Vk.region ?_
    refine Vk.pures 4 [(83, .bool (v24 == p65)), (82, .bool (v24 == p65)), (81, .int .u64 p65), (80, .int .u64 v24)] hs (by kernel_rfl) fun a hs => ?_
    rcases Bool.eq_false_or_eq_true (v24 == p65) with hb | hb
    · replace hm := bif_t hm hb
      replace hs := hs.known (t := 83) hb (by kernel_rfl)
      obtain ⟨v68, h67, hm⟩ := bind_t hm
      refine Vk.step (Vk.call (some 84) 23 #[] hs (by kernel_rfl) (by kernel_rfl) (by kernel_rfl) ?_)
      refine (visorlaw17_awake.ok k v68 h67 κ w _ hs.own).mono ?_
      rintro _ w ⟨rfl, how⟩
      refine ⟨_, _, _, rfl, how, fun a hs => ?_⟩
      refine Vk.pures 2 [(6, .bool v68), (85, .bool v68)] hs (by kernel_rfl) fun a hs => ?_
      replace hs := hs.norm [6] (L' := [(6, .bool v68)]) (pt b4 (blk x2 35) :: pt b3 (blk x1 35) :: pt b2 (blk x0 32) :: S) (by kernel_rfl) (by kernel_rfl)
      refine Vk.done (by kernel_rfl) ?_
      exact hj66 v68 hm _ _ ((hs).norm [6] (pt b4 (blk x2 35) :: pt b3 (blk x1 35) :: pt b2 (blk x0 32) :: S) (by kernel_rfl) (by kernel_rfl))
    · replace hm := bif_f hm hb
      replace hs := hs.known (t := 83) hb (by kernel_rfl)
      refine Vk.pures 3 [(6, .bool false), (85, .bool false), (84, undef)] hs (by kernel_rfl) fun a hs => ?_
      replace hs := hs.norm [6] (L' := [(6, .bool false)]) (pt b4 (blk x2 35) :: pt b3 (blk x1 35) :: pt b2 (blk x0 32) :: S) (by kernel_rfl) (by kernel_rfl)
      refine Vk.done (by kernel_rfl) ?_
      exact hj66 false hm _ _ ((hs).norm [6] (pt b4 (blk x2 35) :: pt b3 (blk x1 35) :: pt b2 (blk x0 32) :: S) (by kernel_rfl) (by kernel_rfl))
  refine Vk.seq fun K47 hK47 => ?_
  refine Vk.region ?_
  refine Vk.pures 1 [(52, .pointer (some ⟨b2, 0, none⟩))] hs (by kernel_rfl) fun a hs => ?_
  obtain ⟨v49, h48, hm⟩ := bind_t hm
  refine Vk.step (Vk.value (some 53) (.int .i64 v49) hs (by kernel_rfl) (op := (.load 3 (.tmp 52))) (by kernel_rfl) (fun o ho => run_load1 (c := C.int .i64 v49) ho (by kernel_rfl) (by kernel_rfl) (Cell.own 2 rfl (getI_some h48)) _ hs.own) fun a hs => ?_)
  replace hs := hs.norm [3, 4, 5, 7, 8, 53] (L' := [(3, .pointer (some ⟨b2, 0, none⟩)), (4, .pointer (some ⟨b3, 0, none⟩)), (5, .pointer (some ⟨b4, 0, none⟩)), (7, .int .u64 v24), (8, .int .u64 (bxor .u64 v43 v45)), (53, .int .i64 v49)]) (pt b4 (blk x2 35) :: pt b3 (blk x1 35) :: pt b2 (blk x0 32) :: S) (by kernel_rfl) (by kernel_rfl)
  refine Vk.done (by kernel_rfl) ?_
  refine hK47 _ _ ?_
  clear hK47
  refine wp_block ?_
  refine Vk.seq fun K50 hK50 => ?_
  refine Vk.region ?_
  refine Vk.pures 2 [(54, .bool (v49 == 7)), (55, .bool (v49 == 7))] hs (by kernel_rfl) fun a hs => ?_
  replace hs := hs.norm [3, 4, 5, 7, 8, 53, 54] (L' := [(3, .pointer (some ⟨b2, 0, none⟩)), (4, .pointer (some ⟨b3, 0, none⟩)), (5, .pointer (some ⟨b4, 0, none⟩)), (7, .int .u64 v24), (8, .int .u64 (bxor .u64 v43 v45)), (53, .int .i64 v49), (54, .bool (v49 == 7))]) (pt b4 (blk x2 35) :: pt b3 (blk x1 35) :: pt b2 (blk x0 32) :: S) (by kernel_rfl) (by kernel_rfl)
  refine Vk.done (by kernel_rfl) ?_
  refine hK50 _ _ ?_
  clear hK50
  refine Vk.condS (b := v49 == 7) hs (by kernel_rfl) (by kernel_rfl) (fun hb => ?_) (fun hb => ?_)
  · replace hm := bif_t hm hb
    refine Vk.region ?_
    refine Vk.pures 2 [(57, .pointer (some ⟨b3, 0, none⟩)), (56, .int .u64 (bxor .u64 v43 v45))] hs (by kernel_rfl) fun a hs => ?_
    obtain ⟨v52, h51, hm⟩ := bind_t hm
    refine Vk.step (Vk.value (some 58) (.int .u64 v52) hs (by kernel_rfl) (op := (.load 23 (.tmp 57))) (by kernel_rfl) (fun o ho => run_load1 (c := C.int .u64 v52) ho (by kernel_rfl) (by kernel_rfl) (Cell.own 1 rfl (getI_some h51)) _ hs.own) fun a hs => ?_)
    refine Vk.pures 1 [(59, .pointer (some ⟨b4, 1, none⟩))] hs (by kernel_rfl) fun a hs => ?_
    obtain ⟨v54, h53, hm⟩ := bind_t hm
    refine Vk.step (Vk.value (some 60) (.int .u64 v54) hs (by kernel_rfl) (op := (.load 23 (.tmp 59))) (by kernel_rfl) (fun o ho => run_load1 (c := C.int .u64 v54) ho (by kernel_rfl) (by kernel_rfl) (Cell.own 0 rfl (getI_some h53)) _ hs.own) fun a hs => ?_)
    refine Vk.pures 3 [(63, .pointer (some ⟨b4, 0, none⟩)), (62, .int .u64 (bxor .u64 (bxor .u64 v43 v45) (band .u64 v52 v54))), (61, .int .u64 (band .u64 v52 v54))] hs (by kernel_rfl) fun a hs => ?_
    obtain ⟨v56, h55, hm⟩ := bind_t hm
    refine Vk.step (Vk.value (some 64) (.int .u64 v56) hs (by kernel_rfl) (op := (.load 23 (.tmp 63))) (by kernel_rfl) (fun o ho => run_load1 (c := C.int .u64 v56) ho (by kernel_rfl) (by kernel_rfl) (Cell.own 0 rfl (getI_some h55)) _ hs.own) fun a hs => ?_)
    refine Vk.pures 1 [(65, .pointer (some ⟨b3, 1, none⟩))] hs (by kernel_rfl) fun a hs => ?_
    obtain ⟨v58, h57, hm⟩ := bind_t hm
    refine Vk.step (Vk.value (some 66) (.int .u64 v58) hs (by kernel_rfl) (op := (.load 23 (.tmp 65))) (by kernel_rfl) (fun o ho => run_load1 (c := C.int .u64 v58) ho (by kernel_rfl) (by kernel_rfl) (Cell.own 1 rfl (getI_some h57)) _ hs.own) fun a hs => ?_)
    refine Vk.pures 3 [(8, .int .u64 (bxor .u64 (bxor .u64 (bxor .u64 v43 v45) (band .u64 v52 v54)) (band .u64 v56 v58))), (68, .int .u64 (bxor .u64 (bxor .u64 (bxor .u64 v43 v45) (band .u64 v52 v54)) (band .u64 v56 v58))), (67, .int .u64 (band .u64 v56 v58))] hs (by kernel_rfl) fun a hs => ?_
    replace hs := hs.norm [7, 8] (L' := [(7, .int .u64 v24), (8, .int .u64 (bxor .u64 (bxor .u64 (bxor .u64 v43 v45) (band .u64 v52 v54)) (band .u64 v56 v58)))]) (pt b4 (blk x2 35) :: pt b3 (blk x1 35) :: pt b2 (blk x0 32) :: S) (by kernel_rfl) (by kernel_rfl)
    refine Vk.done (by kernel_rfl) ?_
    exact hj46 (bxor .u64 (bxor .u64 (bxor .u64 v43 v45) (band .u64 v52 v54)) (band .u64 v56 v58)) hm _ _ ((hs).norm [7, 8] (pt b4 (blk x2 35) :: pt b3 (blk x1 35) :: pt b2 (blk x0 32) :: S) (by kernel_rfl) (by kernel_rfl))
  · replace hm := bif_f hm hb
    refine Vk.seq fun K59 hK59 => ?_
    have hj59 : ∀ (p61 : Bool), visorlaw17_OpSums.j59 k x0 v24 v43 v45 v49 p61 = some r → ∀ (a : Act) (w : World), St 86 a w κ [(3, .pointer (some ⟨b2, 0, none⟩)), (7, .int .u64 v24), (8, .int .u64 (bxor .u64 v43 v45)), (53, .int .i64 v49), (69, .bool p61)] (pt b4 (blk x2 35) :: pt b3 (blk x1 35) :: pt b2 (blk x0 32) :: S) → K59 a w := by
      intro p61 hm a w hs
      unfold visorlaw17_OpSums.j59 at hm
      refine hK59 _ _ ?_
      refine Vk.condS (b := p61) hs (by kernel_rfl) (by kernel_rfl) (fun hb => ?_) (fun hb => ?_)
      · replace hm := bif_t hm hb
        refine Vk.region ?_
        refine Vk.pures 2 [(73, .pointer (some ⟨b2, 5, none⟩)), (72, .int .u64 (bxor .u64 v43 v45))] hs (by kernel_rfl) fun a hs => ?_
        obtain ⟨v63, h62, hm⟩ := bind_t hm
        refine Vk.step (Vk.value (some 74) (.int .u64 v63) hs (by kernel_rfl) (op := (.load 23 (.tmp 73))) (by kernel_rfl) (fun o ho => run_load1 (c := C.int .u64 v63) ho (by kernel_rfl) (by kernel_rfl) (Cell.own 2 rfl (getI_some h62)) _ hs.own) fun a hs => ?_)
        refine Vk.pures 2 [(8, .int .u64 (bxor .u64 (bxor .u64 v43 v45) v63)), (75, .int .u64 (bxor .u64 (bxor .u64 v43 v45) v63))] hs (by kernel_rfl) fun a hs => ?_
        replace hs := hs.norm [7, 8] (L' := [(7, .int .u64 v24), (8, .int .u64 (bxor .u64 (bxor .u64 v43 v45) v63))]) (pt b4 (blk x2 35) :: pt b3 (blk x1 35) :: pt b2 (blk x0 32) :: S) (by kernel_rfl) (by kernel_rfl)
        refine Vk.done (by kernel_rfl) ?_
        exact hj46 (bxor .u64 (bxor .u64 v43 v45) v63) hm _ _ ((hs).norm [7, 8] (pt b4 (blk x2 35) :: pt b3 (blk x1 35) :: pt b2 (blk x0 32) :: S) (by kernel_rfl) (by kernel_rfl))
      · replace hm := bif_f hm hb
        refine Vk.seq fun K64 hK64 => ?_
        refine Vk.region ?_
        refine Vk.pures 2 [(76, .bool (v49 == 6)), (77, .bool (v49 == 6))] hs (by kernel_rfl) fun a hs => ?_
        replace hs := hs.norm [7, 8, 76] (L' := [(7, .int .u64 v24), (8, .int .u64 (bxor .u64 v43 v45)), (76, .bool (v49 == 6))]) (pt b4 (blk x2 35) :: pt b3 (blk x1 35) :: pt b2 (blk x0 32) :: S) (by kernel_rfl) (by kernel_rfl)
        refine Vk.done (by kernel_rfl) ?_
        refine hK64 _ _ ?_
        clear hK64
        refine Vk.condS (b := v49 == 6) hs (by kernel_rfl) (by kernel_rfl) (fun hb => ?_) (fun hb => ?_)
        · replace hm := bif_t hm hb
          refine Vk.region ?_
          refine Vk.pures 3 [(8, .int .u64 (bnot .u64 (bxor .u64 v43 v45))), (79, .int .u64 (bnot .u64 (bxor .u64 v43 v45))), (78, .int .u64 (bxor .u64 v43 v45))] hs (by kernel_rfl) fun a hs => ?_
          replace hs := hs.norm [7, 8] (L' := [(7, .int .u64 v24), (8, .int .u64 (bnot .u64 (bxor .u64 v43 v45)))]) (pt b4 (blk x2 35) :: pt b3 (blk x1 35) :: pt b2 (blk x0 32) :: S) (by kernel_rfl) (by kernel_rfl)
          refine Vk.done (by kernel_rfl) ?_
          exact hj46 (bnot .u64 (bxor .u64 v43 v45)) hm _ _ ((hs).norm [7, 8] (pt b4 (blk x2 35) :: pt b3 (blk x1 35) :: pt b2 (blk x0 32) :: S) (by kernel_rfl) (by kernel_rfl))
        · replace hm := bif_f hm hb
          refine wp_skip ?_
          exact hj46 (bxor .u64 v43 v45) hm _ _ ((hs).norm [7, 8] (pt b4 (blk x2 35) :: pt b3 (blk x1 35) :: pt b2 (blk x0 32) :: S) (by kernel_rfl) (by kernel_rfl))
    refine Vk.seq fun K60 hK60 => ?_
    refine Vk.region ?_
    refine Vk.pures 2 [(69, .bool (v49 == 3)), (70, .bool (v49 == 3))] hs (by kernel_rfl) fun a hs => ?_
    replace hs := hs.norm [3, 7, 8, 53, 69] (L' := [(3, .pointer (some ⟨b2, 0, none⟩)), (7, .int .u64 v24), (8, .int .u64 (bxor .u64 v43 v45)), (53, .int .i64 v49), (69, .bool (v49 == 3))]) (pt b4 (blk x2 35) :: pt b3 (blk x1 35) :: pt b2 (blk x0 32) :: S) (by kernel_rfl) (by kernel_rfl)
    refine Vk.done (by kernel_rfl) ?_
    refine hK60 _ _ ?_
    clear hK60
    refine Vk.condS (b := v49 == 3) hs (by kernel_rfl) (by kernel_rfl) (fun hb => ?_) (fun hb => ?_)
    · replace hm := bif_t hm hb
      refine wp_skip ?_
      exact hj59 (v49 == 3) hm _ _ ((hs).norm [3, 7, 8, 53, 69] (pt b4 (blk x2 35) :: pt b3 (blk x1 35) :: pt b2 (blk x0 32) :: S) (by kernel_rfl) (by kernel_rfl))
    · replace hm := bif_f hm hb
      refine Vk.region ?_
      refine Vk.pures 2 [(69, .bool (v49 == 4)), (71, .bool (v49 == 4))] hs (by kernel_rfl) fun a hs => ?_
      replace hs := hs.norm [3, 7, 8, 53, 69] (L' := [(3, .pointer (some ⟨b2, 0, none⟩)), (7, .int .u64 v24), (8, .int .u64 (bxor .u64 v43 v45)), (53, .int .i64 v49), (69, .bool (v49 == 4))]) (pt b4 (blk x2 35) :: pt b3 (blk x1 35) :: pt b2 (blk x0 32) :: S) (by kernel_rfl) (by kernel_rfl)
      refine Vk.done (by kernel_rfl) ?_
      exact hj59 (v49 == 4) hm _ _ ((hs).norm [3, 7, 8, 53, 69] (pt b4 (blk x2 35) :: pt b3 (blk x1 35) :: pt b2 (blk x0 32) :: S) (by kernel_rfl) (by kernel_rfl))

end Go.Proofs.Ytjjdlidjlepgeaa
