/- Of each Go function that ShareHides comes to: a model in plain Lean, and that the program's call does what the model says; no condition. -/
import Derived.Test.YtjjdlidjlepgeaaProg
import Derived.Test.YtjjdlidjlepgeaaVollbmjpn
namespace Go.Proofs.Ytjjdlidjlepgeaa
open Go Go.Vk
set_option linter.unusedVariables false


abbrev op_is.R (κ : Ctx) (S : List HP) (x0 : Int) (r : Bool) : Ending → World → Prop := fun e w' => e = .returned (.bool r) ∧ Own κ w' (S)
def op_is.m (k : Nat) (x0 : Int) : Option Bool := some ((decide (x0 ≥ 1)) && (decide (x0 ≤ 12)))

set_option maxRecDepth 100000 in
set_option maxHeartbeats 4000000 in
theorem op_is.ok (k : Nat) (x0 : Int) (r : Bool) (hm : op_is.m k x0 = some r) (κ : Ctx) (w : World) (S : List HP) (ho : Own κ w (S)) :
    Calls Try.prog 112 #[.int .i64 x0] w (op_is.R κ S x0 r) := by
  unfold op_is.m at hm
  refine Vk.enter [(0, .int .i64 x0)] Try.func112 rfl Try.ntmps112 (by kernel_rfl) (Nat.le_of_ble_eq_true (by kernel_rfl)) ho fun a hs => ?_
  refine Vk.seq fun K1 hK1 => ?_
  refine Vk.region ?_
  refine Vk.pures 1 [(2, .bool false)] hs (by kernel_rfl) fun a hs => ?_
  replace hs := hs.pick [0] (L' := [(0, .int .i64 x0)]) (by kernel_rfl)
  refine Vk.done (by kernel_rfl) ?_
  refine hK1 _ _ ?_
  clear hK1
  refine Vk.seq fun K2 hK2 => ?_
  refine Vk.region ?_
  refine Vk.pures 3 [(5, .bool (decide (x0 ≥ 1))), (4, .bool (decide (x0 ≥ 1))), (3, .int .i64 x0)] hs (by kernel_rfl) fun a hs => ?_
  suffices hj_3 : ∀ a, St 9 a w κ [(0, .int .i64 x0), (3, .int .i64 x0), (4, .bool (decide (x0 ≥ 1))), (5, .bool (decide (x0 ≥ 1))), (8, .bool ((decide (x0 ≥ 1)) && (decide (x0 ≤ 12))))] (S) → wpFrom Try.prog _ _ 6 a w by
    rcases Bool.eq_false_or_eq_true (decide (x0 ≥ 1)) with hb | hb
    · replace hs := hs.known (t := 5) hb (by kernel_rfl)
      refine Vk.pures 3 [(8, .bool (decide (x0 ≤ 12))), (7, .bool (decide (x0 ≤ 12))), (6, .int .i64 x0)] hs (by kernel_rfl) fun a hs => ?_
      have hq := hs.pick [0, 3, 4, 5, 8] (L' := [(0, .int .i64 x0), (3, .int .i64 x0), (4, .bool (decide (x0 ≥ 1))), (5, .bool true), (8, .bool (decide (x0 ≤ 12)))]) (by kernel_rfl)
      exact hj_3 _ (hq.conv (by first | (rw [hb] <;> rfl) | rfl))
    · replace hs := hs.known (t := 5) hb (by kernel_rfl)
      refine Vk.pures 3 [(8, .bool false), (7, undef), (6, undef)] hs (by kernel_rfl) fun a hs => ?_
      have hq := hs.pick [0, 3, 4, 5, 8] (L' := [(0, .int .i64 x0), (3, .int .i64 x0), (4, .bool (decide (x0 ≥ 1))), (5, .bool false), (8, .bool false)]) (by kernel_rfl)
      exact hj_3 _ (hq.conv (by first | (rw [hb] <;> rfl) | rfl))
  intro a hs
  refine Vk.pures 1 [(2, .bool ((decide (x0 ≥ 1)) && (decide (x0 ≤ 12))))] hs (by kernel_rfl) fun a hs => ?_
  replace hs := hs.pick [2] (L' := [(2, .bool ((decide (x0 ≥ 1)) && (decide (x0 ≤ 12))))]) (by kernel_rfl)
  refine Vk.done (by kernel_rfl) ?_
  refine hK2 _ _ ?_
  clear hK2
  refine wp_ret ?_
  exact Vk.ret1 (P := Try.prog) (fn := Try.f112) (R := op_is.R κ S x0 r) (.bool ((decide (x0 ≥ 1)) && (decide (x0 ≤ 12)))) hs rfl (by kernel_rfl) (by obtain rfl := Option.some.inj hm; exact ⟨rfl, (Own.to hs.own [] 0 (by kernel_rfl) (by kernel_rfl))⟩)


abbrev visorref01_Mod.R (κ : Ctx) (S : List HP) (x0 : Int) (x1 : Int) (r : Int) : Ending → World → Prop := fun e w' => e = .returned (.int .i64 r) ∧ Own κ w' (S)
def visorref01_Mod.m (k : Nat) (x0 : Int) (x1 : Int) : Option Int := (if x1 ≠ 0 then (bif decide ((Int.tmod x0 x1) < 0) then (if x1 ≠ 0 then some (IntKind.i64.wrap ((Int.tmod x0 x1) + x1)) else none) else (if x1 ≠ 0 then some (Int.tmod x0 x1) else none)) else none)

set_option maxRecDepth 100000 in
set_option maxHeartbeats 4000000 in
theorem visorref01_Mod.ok (k : Nat) (x0 : Int) (x1 : Int) (r : Int) (hm : visorref01_Mod.m k x0 x1 = some r) (κ : Ctx) (w : World) (S : List HP) (ho : Own κ w (S)) :
    Calls Try.prog 111 #[.int .i64 x0, .int .i64 x1] w (visorref01_Mod.R κ S x0 x1 r) := by
  unfold visorref01_Mod.m at hm
  refine Vk.enter [(0, .int .i64 x0), (1, .int .i64 x1)] Try.func111 rfl Try.ntmps111 (by kernel_rfl) (Nat.le_of_ble_eq_true (by kernel_rfl)) ho fun a hs => ?_
  refine Vk.seq fun K1 hK1 => ?_
  refine Vk.region ?_
  refine Vk.pures 1 [(4, .int .i64 0)] hs (by kernel_rfl) fun a hs => ?_
  replace hs := hs.pick [0, 1] (L' := [(0, .int .i64 x0), (1, .int .i64 x1)]) (by kernel_rfl)
  refine Vk.done (by kernel_rfl) ?_
  refine hK1 _ _ ?_
  clear hK1
  refine Vk.seq fun K2 hK2 => ?_
  refine Vk.seq fun K3 hK3 => ?_
  refine Vk.region ?_
  refine Vk.pures 2 [(6, .int .i64 x1), (5, .int .i64 x0)] hs (by kernel_rfl) fun a hs => ?_
  obtain ⟨h_4, hm⟩ := ite_t hm
  refine Vk.step (Vk.value (some 7) (.int .i64 (Int.tmod x0 x1)) hs (by kernel_rfl) (op := (.binOp .rem 3 (.tmp 5) (.tmp 6) 3)) (by kernel_rfl) (fun o ho => run_rem ho (by kernel_rfl) (by kernel_rfl) h_4 _) fun a hs => ?_)
  refine Vk.pures 1 [(8, .bool (decide ((Int.tmod x0 x1) < 0)))] hs (by kernel_rfl) fun a hs => ?_
  replace hs := hs.pick [0, 1, 8] (L' := [(0, .int .i64 x0), (1, .int .i64 x1), (8, .bool (decide ((Int.tmod x0 x1) < 0)))]) (by kernel_rfl)
  refine Vk.done (by kernel_rfl) ?_
  refine hK3 _ _ ?_
  clear hK3
  refine Vk.condS (b := decide ((Int.tmod x0 x1) < 0)) hs (by kernel_rfl) (by kernel_rfl) (fun hb => ?_) (fun hb => ?_)
  · replace hm := bif_t hm hb
    refine Vk.seq fun K5 hK5 => ?_
    refine Vk.region ?_
    refine Vk.pures 2 [(10, .int .i64 x1), (9, .int .i64 x0)] hs (by kernel_rfl) fun a hs => ?_
    obtain ⟨h_6, hm⟩ := ite_t hm
    refine Vk.step (Vk.value (some 11) (.int .i64 (Int.tmod x0 x1)) hs (by kernel_rfl) (op := (.binOp .rem 3 (.tmp 9) (.tmp 10) 3)) (by kernel_rfl) (fun o ho => run_rem ho (by kernel_rfl) (by kernel_rfl) h_6 _) fun a hs => ?_)
    refine Vk.pures 3 [(4, .int .i64 (IntKind.i64.wrap ((Int.tmod x0 x1) + x1))), (13, .int .i64 (IntKind.i64.wrap ((Int.tmod x0 x1) + x1))), (12, .int .i64 x1)] hs (by kernel_rfl) fun a hs => ?_
    replace hs := hs.pick [4] (L' := [(4, .int .i64 (IntKind.i64.wrap ((Int.tmod x0 x1) + x1)))]) (by kernel_rfl)
    refine Vk.done (by kernel_rfl) ?_
    refine hK5 _ _ ?_
    clear hK5
    refine wp_ret ?_
    exact Vk.ret1 (P := Try.prog) (fn := Try.f111) (R := visorref01_Mod.R κ S x0 x1 r) (.int .i64 (IntKind.i64.wrap ((Int.tmod x0 x1) + x1))) hs rfl (by kernel_rfl) (by obtain rfl := Option.some.inj hm; exact ⟨rfl, (Own.to hs.own [] 0 (by kernel_rfl) (by kernel_rfl))⟩)
  · replace hm := bif_f hm hb
    refine wp_skip ?_
    refine hK2 _ _ ?_
    clear hK2
    refine Vk.seq fun K7 hK7 => ?_
    refine Vk.region ?_
    refine Vk.pures 2 [(15, .int .i64 x1), (14, .int .i64 x0)] hs (by kernel_rfl) fun a hs => ?_
    obtain ⟨h_8, hm⟩ := ite_t hm
    refine Vk.step (Vk.value (some 16) (.int .i64 (Int.tmod x0 x1)) hs (by kernel_rfl) (op := (.binOp .rem 3 (.tmp 14) (.tmp 15) 3)) (by kernel_rfl) (fun o ho => run_rem ho (by kernel_rfl) (by kernel_rfl) h_8 _) fun a hs => ?_)
    refine Vk.pures 1 [(4, .int .i64 (Int.tmod x0 x1))] hs (by kernel_rfl) fun a hs => ?_
    replace hs := hs.pick [4] (L' := [(4, .int .i64 (Int.tmod x0 x1))]) (by kernel_rfl)
    refine Vk.done (by kernel_rfl) ?_
    refine hK7 _ _ ?_
    clear hK7
    refine wp_ret ?_
    exact Vk.ret1 (P := Try.prog) (fn := Try.f111) (R := visorref01_Mod.R κ S x0 x1 r) (.int .i64 (Int.tmod x0 x1)) hs rfl (by kernel_rfl) (by obtain rfl := Option.some.inj hm; exact ⟨rfl, (Own.to hs.own [] 0 (by kernel_rfl) (by kernel_rfl))⟩)


abbrev octet_Rot.R (κ : Ctx) (S : List HP) (x0 : Int) (x1 : Int) (r : Int) : Ending → World → Prop := fun e w' => e = .returned (.int .u64 r) ∧ Own κ w' (S)
def octet_Rot.m (k : Nat) (x0 : Int) (x1 : Int) : Option Int := (if 0 ≤ band .i64 x1 63 then (if 0 ≤ IntKind.i64.wrap (64 - (band .i64 x1 63)) then some (bor .u64 (shl .u64 x0 (band .i64 x1 63)) (shr .u64 x0 (IntKind.i64.wrap (64 - (band .i64 x1 63))))) else none) else none)

set_option maxRecDepth 100000 in
set_option maxHeartbeats 4000000 in
theorem octet_Rot.ok (k : Nat) (x0 : Int) (x1 : Int) (r : Int) (hm : octet_Rot.m k x0 x1 = some r) (κ : Ctx) (w : World) (S : List HP) (ho : Own κ w (S)) :
    Calls Try.prog 72 #[.int .u64 x0, .int .i64 x1] w (octet_Rot.R κ S x0 x1 r) := by
  unfold octet_Rot.m at hm
  refine Vk.enter [(0, .int .u64 x0), (1, .int .i64 x1)] Try.func72 rfl Try.ntmps72 (by kernel_rfl) (Nat.le_of_ble_eq_true (by kernel_rfl)) ho fun a hs => ?_
  refine Vk.seq fun K1 hK1 => ?_
  refine Vk.region ?_
  refine Vk.pures 1 [(4, .int .u64 0)] hs (by kernel_rfl) fun a hs => ?_
  replace hs := hs.pick [0, 1] (L' := [(0, .int .u64 x0), (1, .int .i64 x1)]) (by kernel_rfl)
  refine Vk.done (by kernel_rfl) ?_
  refine hK1 _ _ ?_
  clear hK1
  refine Vk.seq fun K2 hK2 => ?_
  refine Vk.region ?_
  refine Vk.pures 3 [(1, .int .i64 (band .i64 x1 63)), (6, .int .i64 (band .i64 x1 63)), (5, .int .i64 x1)] hs (by kernel_rfl) fun a hs => ?_
  replace hs := hs.pick [0, 1] (L' := [(0, .int .u64 x0), (1, .int .i64 (band .i64 x1 63))]) (by kernel_rfl)
  refine Vk.done (by kernel_rfl) ?_
  refine hK2 _ _ ?_
  clear hK2
  refine Vk.seq fun K3 hK3 => ?_
  obtain ⟨C_4, hC_4⟩ : ∃ X0 : List HP, X0 = (S) := ⟨_, rfl⟩
  refine Vk.drawnT 9 κ C_4 hs (by kernel_rfl) fun w hs => ?_
  have hcz : Own κ w (S) := (Own.to hs.own [] 0 (by kernel_rfl) (by kernel_rfl))
  have hcl : Own κ w C_4 := by rw [hC_4]; exact hcz
  refine Vk.dPuresT [0, 1, 3, 4, 5] [(12, .int .i64 (IntKind.i64.wrap (64 - (band .i64 x1 63)))), (11, .int .i64 (band .i64 x1 63)), (10, .int .u64 x0), (8, .int .i64 (band .i64 x1 63)), (7, .int .u64 x0)] hs (by kernel_rfl) (by repeat' (first | exact Vk.Calm.post | refine Vk.Calm.then ?_ | refine Vk.Calm.inBlock ?_)) hcl (by kernel_rfl) (by kernel_rfl) (fuel := 4) rfl fun a hs => ?_
  obtain ⟨h_5, hm⟩ := ite_t hm
  refine Vk.dTakeT (i := 2) (some 9) (.int .u64 (shl .u64 x0 (band .i64 x1 63))) hs (by kernel_rfl) (by repeat' (first | exact Vk.Calm.post | refine Vk.Calm.then ?_ | refine Vk.Calm.inBlock ?_)) hcl (by kernel_rfl) (by kernel_rfl) (op := (.binOp .shl 23 (.tmp 7) (.tmp 8) 3)) (by kernel_rfl) (by kernel_rfl) (fun w hw o ho => by rw [hC_4] at hw; exact run_shl (k' := .i64) ho (by kernel_rfl) (by kernel_rfl) h_5 _) fun a hs => ?_
  obtain ⟨h_6, hm⟩ := ite_t hm
  refine Vk.dTakeT (i := 6) (some 13) (.int .u64 (shr .u64 x0 (IntKind.i64.wrap (64 - (band .i64 x1 63))))) hs (by kernel_rfl) (by repeat' (first | exact Vk.Calm.post | refine Vk.Calm.then ?_ | refine Vk.Calm.inBlock ?_)) hcl (by kernel_rfl) (by kernel_rfl) (op := (.binOp .shr 23 (.tmp 10) (.tmp 12) 3)) (by kernel_rfl) (by kernel_rfl) (fun w hw o ho => by rw [hC_4] at hw; exact run_shr (k' := .i64) ho (by kernel_rfl) (by kernel_rfl) h_6 _) fun a hs => ?_
  refine Vk.dPuresT [7, 8] [(4, .int .u64 (bor .u64 (shl .u64 x0 (band .i64 x1 63)) (shr .u64 x0 (IntKind.i64.wrap (64 - (band .i64 x1 63)))))), (14, .int .u64 (bor .u64 (shl .u64 x0 (band .i64 x1 63)) (shr .u64 x0 (IntKind.i64.wrap (64 - (band .i64 x1 63))))))] hs (by kernel_rfl) (by repeat' (first | exact Vk.Calm.post | refine Vk.Calm.then ?_ | refine Vk.Calm.inBlock ?_)) hcl (by kernel_rfl) (by kernel_rfl) (fuel := 0) rfl fun a hs => ?_
  replace hs := hs.pick [4] (L' := [(4, .int .u64 (bor .u64 (shl .u64 x0 (band .i64 x1 63)) (shr .u64 x0 (IntKind.i64.wrap (64 - (band .i64 x1 63))))))]) (by kernel_rfl)
  refine Vk.dDone (by kernel_rfl) ?_
  refine hK3 _ _ ?_
  clear hK3
  refine wp_ret ?_
  exact Vk.ret1 (P := Try.prog) (fn := Try.f72) (R := octet_Rot.R κ S x0 x1 r) (.int .u64 (bor .u64 (shl .u64 x0 (band .i64 x1 63)) (shr .u64 x0 (IntKind.i64.wrap (64 - (band .i64 x1 63)))))) hs rfl (by kernel_rfl) (by obtain rfl := Option.some.inj hm; exact ⟨rfl, (Own.to hs.own [] 0 (by kernel_rfl) (by kernel_rfl))⟩)


def visorref01_Rot.l1 (x1 : Int) : Nat → Int → Int → Option (Int)
  | 0, _, _ => none
  | k + 1, q_5, q_6 => (visorref01_Mod.m k x1 64).bind fun v_11 => (bif decide (q_6 < v_11) then visorref01_Rot.l1 x1 k (IntKind.u64.wrap ((IntKind.u64.wrap (q_5 * 2)) + (IntKind.u64.wrap (Int.tdiv q_5 9223372036854775808)))) (IntKind.i64.wrap (q_6 + 1)) else some q_5)
abbrev visorref01_Rot.R (κ : Ctx) (S : List HP) (x0 : Int) (x1 : Int) (r : Int) : Ending → World → Prop := fun e w' => e = .returned (.int .u64 r) ∧ Own κ w' (S)
def visorref01_Rot.m (k : Nat) (x0 : Int) (x1 : Int) : Option Int := (visorref01_Rot.l1 x1 k x0 0).bind fun p_13 => some p_13

set_option maxRecDepth 100000 in
set_option maxHeartbeats 4000000 in
theorem visorref01_Rot.ok (k : Nat) (x0 : Int) (x1 : Int) (r : Int) (hm : visorref01_Rot.m k x0 x1 = some r) (κ : Ctx) (w : World) (S : List HP) (ho : Own κ w (S)) :
    Calls Try.prog 73 #[.int .u64 x0, .int .i64 x1] w (visorref01_Rot.R κ S x0 x1 r) := by
  unfold visorref01_Rot.m at hm
  refine Vk.enter [(0, .int .u64 x0), (1, .int .i64 x1)] Try.func73 rfl Try.ntmps73 (by kernel_rfl) (Nat.le_of_ble_eq_true (by kernel_rfl)) ho fun a hs => ?_
  refine Vk.seq fun K1 hK1 => ?_
  refine Vk.region ?_
  refine Vk.pures 1 [(4, .int .u64 0)] hs (by kernel_rfl) fun a hs => ?_
  replace hs := hs.pick [0, 1] (L' := [(0, .int .u64 x0), (1, .int .i64 x1)]) (by kernel_rfl)
  refine Vk.done (by kernel_rfl) ?_
  refine hK1 _ _ ?_
  clear hK1
  refine Vk.seq fun K2 hK2 => ?_
  refine Vk.seq fun K3 hK3 => ?_
  refine Vk.region ?_
  refine Vk.pures 1 [(5, .int .i64 0)] hs (by kernel_rfl) fun a hs => ?_
  replace hs := hs.pick [0, 1, 5] (L' := [(0, .int .u64 x0), (1, .int .i64 x1), (5, .int .i64 0)]) (by kernel_rfl)
  refine Vk.done (by kernel_rfl) ?_
  refine hK3 _ _ ?_
  clear hK3
  refine wp_block ?_
  obtain ⟨r4, hl4, hm⟩ := bind_t hm
  have hx4 : ∀ (p_13 : Int), r4 = p_13 → ∀ (a : Act) (w : World), St 18 a w κ [(0, .int .u64 p_13)] (S) → K2 a w := by
    intro p_13 he a w hs
    subst r4
    refine hK2 _ _ ?_
    clear hK2
    refine Vk.seq fun K16 hK16 => ?_
    refine Vk.region ?_
    refine Vk.pures 2 [(4, .int .u64 p_13), (17, .int .u64 p_13)] hs (by kernel_rfl) fun a hs => ?_
    replace hs := hs.pick [4] (L' := [(4, .int .u64 p_13)]) (by kernel_rfl)
    refine Vk.done (by kernel_rfl) ?_
    refine hK16 _ _ ?_
    clear hK16
    refine wp_ret ?_
    exact Vk.ret1 (P := Try.prog) (fn := Try.f73) (R := visorref01_Rot.R κ S x0 x1 r) (.int .u64 p_13) hs rfl (by kernel_rfl) (by obtain rfl := Option.some.inj hm; exact ⟨rfl, (Own.to hs.own [] 0 (by kernel_rfl) (by kernel_rfl))⟩)
  refine Vk.loopBy (fun k (s : Int × Int) a w => visorref01_Rot.l1 x1 k s.1 s.2 = some r4 ∧ St 18 a w κ [(0, .int .u64 s.1), (1, .int .i64 x1), (5, .int .i64 s.2)] (S)) k (x0, 0) ⟨hl4, hs.go [0, 1, 5] [] 0 (by kernel_rfl) (by kernel_rfl) (by kernel_rfl)⟩ (fun s a w h => by obtain ⟨h1, _⟩ := h; simp [visorref01_Rot.l1] at h1) (fun k KL4 ih s a w h => ?_)
  obtain ⟨q_5, q_6⟩ := s
  obtain ⟨hm, hs⟩ := h
  try dsimp only at hm hs
  rw [visorref01_Rot.l1] at hm
  refine Vk.seq fun K7 hK7 => ?_
  refine Vk.seq fun K8 hK8 => ?_
  refine Vk.region ?_
  refine Vk.pures 2 [(7, .int .i64 x1), (6, .int .i64 q_6)] hs (by kernel_rfl) fun a hs => ?_
  obtain ⟨v_11, h_10, hm⟩ := bind_t hm
  refine Vk.step (Vk.call (some 8) 111 #[.int .i64 x1, .int .i64 64] hs (by kernel_rfl) (by kernel_rfl) (by kernel_rfl) ?_)
  refine (visorref01_Mod.ok k x1 64 v_11 h_10 κ w (S) hs.own).mono ?_
  rintro _ w ⟨rfl, how⟩
  refine ⟨_, _, _, rfl, how, fun a hs => ?_⟩
  refine Vk.pures 1 [(9, .bool (decide (q_6 < v_11)))] hs (by kernel_rfl) fun a hs => ?_
  replace hs := hs.pick [0, 1, 5, 9] (L' := [(0, .int .u64 q_5), (1, .int .i64 x1), (5, .int .i64 q_6), (9, .bool (decide (q_6 < v_11)))]) (by kernel_rfl)
  refine Vk.done (by kernel_rfl) ?_
  refine hK8 _ _ ?_
  clear hK8
  refine Vk.condS (b := decide (q_6 < v_11)) hs (by kernel_rfl) (by kernel_rfl) (fun hb => ?_) (fun hb => ?_)
  · replace hm := bif_t hm hb
    refine wp_skip ?_
    refine hK7 _ _ ?_
    clear hK7
    refine Vk.seq fun K12 hK12 => ?_
    refine wp_block ?_
    refine Vk.region ?_
    refine Vk.pures 6 [(0, .int .u64 (IntKind.u64.wrap ((IntKind.u64.wrap (q_5 * 2)) + (IntKind.u64.wrap (Int.tdiv q_5 9223372036854775808))))), (16, .int .u64 (IntKind.u64.wrap ((IntKind.u64.wrap (q_5 * 2)) + (IntKind.u64.wrap (Int.tdiv q_5 9223372036854775808))))), (15, .int .u64 (IntKind.u64.wrap (Int.tdiv q_5 9223372036854775808))), (14, .int .u64 q_5), (13, .int .u64 (IntKind.u64.wrap (q_5 * 2))), (12, .int .u64 q_5)] hs (by kernel_rfl) fun a hs => ?_
    replace hs := hs.pick [0, 1, 5] (L' := [(0, .int .u64 (IntKind.u64.wrap ((IntKind.u64.wrap (q_5 * 2)) + (IntKind.u64.wrap (Int.tdiv q_5 9223372036854775808))))), (1, .int .i64 x1), (5, .int .i64 q_6)]) (by kernel_rfl)
    refine Vk.done (by kernel_rfl) ?_
    refine hK12 _ _ ?_
    clear hK12
    refine Vk.region ?_
    refine Vk.pures 3 [(5, .int .i64 (IntKind.i64.wrap (q_6 + 1))), (11, .int .i64 (IntKind.i64.wrap (q_6 + 1))), (10, .int .i64 q_6)] hs (by kernel_rfl) fun a hs => ?_
    replace hs := hs.pick [0, 1, 5] (L' := [(0, .int .u64 (IntKind.u64.wrap ((IntKind.u64.wrap (q_5 * 2)) + (IntKind.u64.wrap (Int.tdiv q_5 9223372036854775808))))), (1, .int .i64 x1), (5, .int .i64 (IntKind.i64.wrap (q_6 + 1)))]) (by kernel_rfl)
    refine Vk.done (by kernel_rfl) ?_
    refine ih ((IntKind.u64.wrap ((IntKind.u64.wrap (q_5 * 2)) + (IntKind.u64.wrap (Int.tdiv q_5 9223372036854775808)))), (IntKind.i64.wrap (q_6 + 1))) _ _ ⟨hm, hs.go [0, 1, 5] [] 0 (by kernel_rfl) (by kernel_rfl) (by kernel_rfl)⟩
  · replace hm := bif_f hm hb
    refine wp_exit ?_
    exact hx4 q_5 (Option.some.inj hm).symm _ _ (hs.go [0] [] 0 (by kernel_rfl) (by kernel_rfl) (by kernel_rfl))


def visorref01_Low.l1 (x0 : Int) : Nat → Int → Int → Option (Int)
  | 0, _, _ => none
  | k + 1, q_6, q_7 => (bif (decide (q_7 < x0)) && (decide (q_7 < 64)) then visorref01_Low.l1 x0 k (IntKind.u64.wrap ((IntKind.u64.wrap (q_6 * 2)) + 1)) (IntKind.i64.wrap (q_7 + 1)) else some q_6)
abbrev visorref01_Low.R (κ : Ctx) (S : List HP) (x0 : Int) (r : Int) : Ending → World → Prop := fun e w' => e = .returned (.int .u64 r) ∧ Own κ w' (S)
def visorref01_Low.m (k : Nat) (x0 : Int) : Option Int := (visorref01_Low.l1 x0 k 0 0).bind fun p_12 => some p_12

set_option maxRecDepth 100000 in
set_option maxHeartbeats 4000000 in
theorem visorref01_Low.ok (k : Nat) (x0 : Int) (r : Int) (hm : visorref01_Low.m k x0 = some r) (κ : Ctx) (w : World) (S : List HP) (ho : Own κ w (S)) :
    Calls Try.prog 74 #[.int .i64 x0] w (visorref01_Low.R κ S x0 r) := by
  unfold visorref01_Low.m at hm
  refine Vk.enter [(0, .int .i64 x0)] Try.func74 rfl Try.ntmps74 (by kernel_rfl) (Nat.le_of_ble_eq_true (by kernel_rfl)) ho fun a hs => ?_
  refine Vk.seq fun K1 hK1 => ?_
  refine Vk.region ?_
  refine Vk.pures 1 [(2, .int .u64 0)] hs (by kernel_rfl) fun a hs => ?_
  replace hs := hs.pick [0] (L' := [(0, .int .i64 x0)]) (by kernel_rfl)
  refine Vk.done (by kernel_rfl) ?_
  refine hK1 _ _ ?_
  clear hK1
  refine Vk.seq fun K2 hK2 => ?_
  refine Vk.region ?_
  refine Vk.pures 1 [(3, .int .u64 0)] hs (by kernel_rfl) fun a hs => ?_
  replace hs := hs.pick [0, 3] (L' := [(0, .int .i64 x0), (3, .int .u64 0)]) (by kernel_rfl)
  refine Vk.done (by kernel_rfl) ?_
  refine hK2 _ _ ?_
  clear hK2
  refine Vk.seq fun K3 hK3 => ?_
  refine Vk.seq fun K4 hK4 => ?_
  refine Vk.region ?_
  refine Vk.pures 1 [(4, .int .i64 0)] hs (by kernel_rfl) fun a hs => ?_
  replace hs := hs.pick [0, 3, 4] (L' := [(0, .int .i64 x0), (3, .int .u64 0), (4, .int .i64 0)]) (by kernel_rfl)
  refine Vk.done (by kernel_rfl) ?_
  refine hK4 _ _ ?_
  clear hK4
  refine wp_block ?_
  obtain ⟨r5, hl5, hm⟩ := bind_t hm
  have hx5 : ∀ (p_12 : Int), r5 = p_12 → ∀ (a : Act) (w : World), St 18 a w κ [(3, .int .u64 p_12)] (S) → K3 a w := by
    intro p_12 he a w hs
    subst r5
    refine hK3 _ _ ?_
    clear hK3
    refine Vk.seq fun K15 hK15 => ?_
    refine Vk.region ?_
    refine Vk.pures 2 [(2, .int .u64 p_12), (17, .int .u64 p_12)] hs (by kernel_rfl) fun a hs => ?_
    replace hs := hs.pick [2] (L' := [(2, .int .u64 p_12)]) (by kernel_rfl)
    refine Vk.done (by kernel_rfl) ?_
    refine hK15 _ _ ?_
    clear hK15
    refine wp_ret ?_
    exact Vk.ret1 (P := Try.prog) (fn := Try.f74) (R := visorref01_Low.R κ S x0 r) (.int .u64 p_12) hs rfl (by kernel_rfl) (by obtain rfl := Option.some.inj hm; exact ⟨rfl, (Own.to hs.own [] 0 (by kernel_rfl) (by kernel_rfl))⟩)
  refine Vk.loopBy (fun k (s : Int × Int) a w => visorref01_Low.l1 x0 k s.1 s.2 = some r5 ∧ St 18 a w κ [(0, .int .i64 x0), (3, .int .u64 s.1), (4, .int .i64 s.2)] (S)) k (0, 0) ⟨hl5, hs.go [0, 3, 4] [] 0 (by kernel_rfl) (by kernel_rfl) (by kernel_rfl)⟩ (fun s a w h => by obtain ⟨h1, _⟩ := h; simp [visorref01_Low.l1] at h1) (fun k KL5 ih s a w h => ?_)
  obtain ⟨q_6, q_7⟩ := s
  obtain ⟨hm, hs⟩ := h
  try dsimp only at hm hs
  rw [visorref01_Low.l1] at hm
  refine Vk.seq fun K8 hK8 => ?_
  refine Vk.seq fun K9 hK9 => ?_
  refine Vk.region ?_
  refine Vk.pures 4 [(8, .bool (decide (q_7 < x0))), (7, .bool (decide (q_7 < x0))), (6, .int .i64 x0), (5, .int .i64 q_7)] hs (by kernel_rfl) fun a hs => ?_
  suffices hj_10 : ∀ a, St 18 a w κ [(0, .int .i64 x0), (3, .int .u64 q_6), (4, .int .i64 q_7), (5, .int .i64 q_7), (6, .int .i64 x0), (7, .bool (decide (q_7 < x0))), (8, .bool (decide (q_7 < x0))), (11, .bool ((decide (q_7 < x0)) && (decide (q_7 < 64))))] (S) → wpFrom Try.prog _ _ 7 a w by
    rcases Bool.eq_false_or_eq_true (decide (q_7 < x0)) with hb | hb
    · replace hs := hs.known (t := 8) hb (by kernel_rfl)
      refine Vk.pures 3 [(11, .bool (decide (q_7 < 64))), (10, .bool (decide (q_7 < 64))), (9, .int .i64 q_7)] hs (by kernel_rfl) fun a hs => ?_
      have hq := hs.pick [0, 3, 4, 5, 6, 7, 8, 11] (L' := [(0, .int .i64 x0), (3, .int .u64 q_6), (4, .int .i64 q_7), (5, .int .i64 q_7), (6, .int .i64 x0), (7, .bool (decide (q_7 < x0))), (8, .bool true), (11, .bool (decide (q_7 < 64)))]) (by kernel_rfl)
      exact hj_10 _ (hq.conv (by first | (rw [hb] <;> rfl) | rfl))
    · replace hs := hs.known (t := 8) hb (by kernel_rfl)
      refine Vk.pures 3 [(11, .bool false), (10, undef), (9, undef)] hs (by kernel_rfl) fun a hs => ?_
      have hq := hs.pick [0, 3, 4, 5, 6, 7, 8, 11] (L' := [(0, .int .i64 x0), (3, .int .u64 q_6), (4, .int .i64 q_7), (5, .int .i64 q_7), (6, .int .i64 x0), (7, .bool (decide (q_7 < x0))), (8, .bool false), (11, .bool false)]) (by kernel_rfl)
      exact hj_10 _ (hq.conv (by first | (rw [hb] <;> rfl) | rfl))
  intro a hs
  replace hs := hs.pick [0, 3, 4, 11] (L' := [(0, .int .i64 x0), (3, .int .u64 q_6), (4, .int .i64 q_7), (11, .bool ((decide (q_7 < x0)) && (decide (q_7 < 64))))]) (by kernel_rfl)
  refine Vk.done (by kernel_rfl) ?_
  refine hK9 _ _ ?_
  clear hK9
  refine Vk.condS (b := (decide (q_7 < x0)) && (decide (q_7 < 64))) hs (by kernel_rfl) (by kernel_rfl) (fun hb => ?_) (fun hb => ?_)
  · replace hm := bif_t hm hb
    refine wp_skip ?_
    refine hK8 _ _ ?_
    clear hK8
    refine Vk.seq fun K11 hK11 => ?_
    refine wp_block ?_
    refine Vk.region ?_
    refine Vk.pures 4 [(3, .int .u64 (IntKind.u64.wrap ((IntKind.u64.wrap (q_6 * 2)) + 1))), (16, .int .u64 (IntKind.u64.wrap ((IntKind.u64.wrap (q_6 * 2)) + 1))), (15, .int .u64 (IntKind.u64.wrap (q_6 * 2))), (14, .int .u64 q_6)] hs (by kernel_rfl) fun a hs => ?_
    replace hs := hs.pick [0, 3, 4] (L' := [(0, .int .i64 x0), (3, .int .u64 (IntKind.u64.wrap ((IntKind.u64.wrap (q_6 * 2)) + 1))), (4, .int .i64 q_7)]) (by kernel_rfl)
    refine Vk.done (by kernel_rfl) ?_
    refine hK11 _ _ ?_
    clear hK11
    refine Vk.region ?_
    refine Vk.pures 3 [(4, .int .i64 (IntKind.i64.wrap (q_7 + 1))), (13, .int .i64 (IntKind.i64.wrap (q_7 + 1))), (12, .int .i64 q_7)] hs (by kernel_rfl) fun a hs => ?_
    replace hs := hs.pick [0, 3, 4] (L' := [(0, .int .i64 x0), (3, .int .u64 (IntKind.u64.wrap ((IntKind.u64.wrap (q_6 * 2)) + 1))), (4, .int .i64 (IntKind.i64.wrap (q_7 + 1)))]) (by kernel_rfl)
    refine Vk.done (by kernel_rfl) ?_
    refine ih ((IntKind.u64.wrap ((IntKind.u64.wrap (q_6 * 2)) + 1)), (IntKind.i64.wrap (q_7 + 1))) _ _ ⟨hm, hs.go [0, 3, 4] [] 0 (by kernel_rfl) (by kernel_rfl) (by kernel_rfl)⟩
  · replace hm := bif_f hm hb
    refine wp_exit ?_
    exact hx5 q_6 (Option.some.inj hm).symm _ _ (hs.go [3] [] 0 (by kernel_rfl) (by kernel_rfl) (by kernel_rfl))

structure Tapi_Op where
  kind : Int
  dom : Int
  a : Int
  b : Int
  d : Int
  c : Int
  deriving Inhabited
def Tapi_Op.cells (x : Tapi_Op) : Cells := [C.int .i64 x.kind, C.int .i64 x.dom, C.int .i64 x.a, C.int .i64 x.b, C.int .i64 x.d, C.int .u64 x.c]

def op_Eval.j1 (k : Nat) (x0 : Tapi_Op) (x1 : Int) (x2 : Int) (x3 : Int) (p_12 : Bool) : Option (Int) := (bif p_12 then some x0.c else (bif x0.kind == 5 then some (bxor .u64 x1 x2) else (bif x0.kind == 6 then some (bnot .u64 x1) else (bif x0.kind == 7 then some (band .u64 x1 x2) else (bif x0.kind == 8 then some (band .u64 x1 x0.c) else (bif x0.kind == 9 then (if 0 ≤ Int.tmod x0.c 64 then some (shl .u64 x1 (Int.tmod x0.c 64)) else none) else (bif x0.kind == 10 then (if 0 ≤ Int.tmod x0.c 64 then some (shr .u64 x1 (Int.tmod x0.c 64)) else none) else (bif x0.kind == 11 then (octet_Rot.m k x1 (IntKind.i64.wrap (Int.tmod x0.c 64))).bind fun v_32 => some v_32 else (bif x0.kind == 12 then some (bxor .u64 (bxor .u64 x1 x2) x3) else some 0)))))))))
abbrev op_Eval.R (κ : Ctx) (S : List HP) (x0 : Tapi_Op) (x1 : Int) (x2 : Int) (x3 : Int) (x4 : Int) (r : Int) : Ending → World → Prop := fun e w' => e = .returned (.int .u64 r) ∧ Own κ w' (S)
def op_Eval.m (k : Nat) (x0 : Tapi_Op) (x1 : Int) (x2 : Int) (x3 : Int) (x4 : Int) : Option Int := (bif x0.kind == 1 then some x4 else (bif x0.kind == 2 then some (bxor .u64 (bxor .u64 x4 x1) x2) else (bif x0.kind == 3 then op_Eval.j1 k x0 x1 x2 x3 (x0.kind == 3) else op_Eval.j1 k x0 x1 x2 x3 (x0.kind == 4))))

set_option maxRecDepth 100000 in
set_option maxHeartbeats 4000000 in
theorem op_Eval.ok (k : Nat) (x0 : Tapi_Op) (x1 : Int) (x2 : Int) (x3 : Int) (x4 : Int) (r : Int) (hm : op_Eval.m k x0 x1 x2 x3 x4 = some r) (κ : Ctx) (w : World) (S : List HP) (ho : Own κ w (S)) :
    Calls Try.prog 21 #[.agg (vals [C.int .i64 x0.kind, C.int .i64 x0.dom, C.int .i64 x0.a, C.int .i64 x0.b, C.int .i64 x0.d, C.int .u64 x0.c]), .int .u64 x1, .int .u64 x2, .int .u64 x3, .int .u64 x4] w (op_Eval.R κ S x0 x1 x2 x3 x4 r) := by
  unfold op_Eval.m at hm
  refine Vk.enter [(0, .agg (vals [C.int .i64 x0.kind, C.int .i64 x0.dom, C.int .i64 x0.a, C.int .i64 x0.b, C.int .i64 x0.d, C.int .u64 x0.c])), (1, .int .u64 x1), (2, .int .u64 x2), (3, .int .u64 x3), (4, .int .u64 x4)] Try.func21 rfl Try.ntmps21 (by kernel_rfl) (Nat.le_of_ble_eq_true (by kernel_rfl)) ho fun a hs => ?_
  refine Vk.seq fun K1 hK1 => ?_
  refine Vk.region ?_
  refine Vk.step (Vk.box (x := (.tmp 0)) 5 32 [C.int .i64 x0.kind, C.int .i64 x0.dom, C.int .i64 x0.a, C.int .i64 x0.b, C.int .i64 x0.d, C.int .u64 x0.c] hs (by kernel_rfl) (by kernel_rfl) (by kernel_rfl) fun b_2 w a hs => ?_)
  refine Vk.pures 1 [(10, .int .u64 0)] hs (by kernel_rfl) fun a hs => ?_
  replace hs := hs.pick [1, 2, 3, 4, 5] (L' := [(1, .int .u64 x1), (2, .int .u64 x2), (3, .int .u64 x3), (4, .int .u64 x4), (5, .pointer (some ⟨b_2, 0, none⟩))]) (by kernel_rfl)
  refine Vk.done (by kernel_rfl) ?_
  refine hK1 _ _ ?_
  clear hK1
  refine Vk.seq fun K3 hK3 => ?_
  refine Vk.region ?_
  refine Vk.pures 1 [(12, .pointer (some ⟨b_2, 5, none⟩))] hs (by kernel_rfl) fun a hs => ?_
  refine Vk.step (Vk.value (some 13) (.int .u64 x0.c) hs (by kernel_rfl) (op := (.load 23 (.tmp 12))) (by kernel_rfl) (fun o ho => run_load1 (b := b_2) (off := 5) (c := C.int .u64 x0.c) ho (by kernel_rfl) (by kernel_rfl) (Cell.own 0 rfl (by kernel_rfl)) _ hs.own) fun a hs => ?_)
  refine Vk.pures 2 [(11, .int .u64 (Int.tmod x0.c 64)), (14, .int .u64 (Int.tmod x0.c 64))] hs (by kernel_rfl) fun a hs => ?_
  replace hs := hs.pick [1, 2, 3, 4, 5, 11] (L' := [(1, .int .u64 x1), (2, .int .u64 x2), (3, .int .u64 x3), (4, .int .u64 x4), (5, .pointer (some ⟨b_2, 0, none⟩)), (11, .int .u64 (Int.tmod x0.c 64))]) (by kernel_rfl)
  refine Vk.done (by kernel_rfl) ?_
  refine hK3 _ _ ?_
  clear hK3
  refine Vk.seq fun K4 hK4 => ?_
  refine Vk.seq fun K5 hK5 => ?_
  refine Vk.region ?_
  refine Vk.pures 1 [(15, .pointer (some ⟨b_2, 0, none⟩))] hs (by kernel_rfl) fun a hs => ?_
  refine Vk.step (Vk.value (some 16) (.int .i64 x0.kind) hs (by kernel_rfl) (op := (.load 3 (.tmp 15))) (by kernel_rfl) (fun o ho => run_load1 (b := b_2) (off := 0) (c := C.int .i64 x0.kind) ho (by kernel_rfl) (by kernel_rfl) (Cell.own 0 rfl (by kernel_rfl)) _ hs.own) fun a hs => ?_)
  replace hs := hs.pick [1, 2, 3, 4, 5, 11, 16] (L' := [(1, .int .u64 x1), (2, .int .u64 x2), (3, .int .u64 x3), (4, .int .u64 x4), (5, .pointer (some ⟨b_2, 0, none⟩)), (11, .int .u64 (Int.tmod x0.c 64)), (16, .int .i64 x0.kind)]) (by kernel_rfl)
  refine Vk.done (by kernel_rfl) ?_
  refine hK5 _ _ ?_
  clear hK5
  refine wp_block ?_
  refine Vk.seq fun K6 hK6 => ?_
  refine Vk.region ?_
  refine Vk.pures 2 [(17, .bool (x0.kind == 1)), (18, .bool (x0.kind == 1))] hs (by kernel_rfl) fun a hs => ?_
  replace hs := hs.pick [1, 2, 3, 4, 5, 11, 16, 17] (L' := [(1, .int .u64 x1), (2, .int .u64 x2), (3, .int .u64 x3), (4, .int .u64 x4), (5, .pointer (some ⟨b_2, 0, none⟩)), (11, .int .u64 (Int.tmod x0.c 64)), (16, .int .i64 x0.kind), (17, .bool (x0.kind == 1))]) (by kernel_rfl)
  refine Vk.done (by kernel_rfl) ?_
  refine hK6 _ _ ?_
  clear hK6
  refine Vk.condS (b := x0.kind == 1) hs (by kernel_rfl) (by kernel_rfl) (fun hb => ?_) (fun hb => ?_)
  · replace hm := bif_t hm hb
    refine Vk.seq fun K7 hK7 => ?_
    refine Vk.region ?_
    refine Vk.pures 2 [(10, .int .u64 x4), (19, .int .u64 x4)] hs (by kernel_rfl) fun a hs => ?_
    replace hs := hs.pick [10] (L' := [(10, .int .u64 x4)]) (by kernel_rfl)
    refine Vk.done (by kernel_rfl) ?_
    refine hK7 _ _ ?_
    clear hK7
    refine wp_ret ?_
    exact Vk.ret1 (P := Try.prog) (fn := Try.f21) (R := op_Eval.R κ S x0 x1 x2 x3 x4 r) (.int .u64 x4) hs rfl (by kernel_rfl) (by obtain rfl := Option.some.inj hm; exact ⟨rfl, (Own.to hs.own [] 1 (by kernel_rfl) (by kernel_rfl))⟩)
  · replace hm := bif_f hm hb
    refine Vk.seq fun K8 hK8 => ?_
    refine Vk.region ?_
    refine Vk.pures 2 [(20, .bool (x0.kind == 2)), (21, .bool (x0.kind == 2))] hs (by kernel_rfl) fun a hs => ?_
    replace hs := hs.pick [1, 2, 3, 4, 5, 11, 16, 20] (L' := [(1, .int .u64 x1), (2, .int .u64 x2), (3, .int .u64 x3), (4, .int .u64 x4), (5, .pointer (some ⟨b_2, 0, none⟩)), (11, .int .u64 (Int.tmod x0.c 64)), (16, .int .i64 x0.kind), (20, .bool (x0.kind == 2))]) (by kernel_rfl)
    refine Vk.done (by kernel_rfl) ?_
    refine hK8 _ _ ?_
    clear hK8
    refine Vk.condS (b := x0.kind == 2) hs (by kernel_rfl) (by kernel_rfl) (fun hb => ?_) (fun hb => ?_)
    · replace hm := bif_t hm hb
      refine Vk.seq fun K9 hK9 => ?_
      refine Vk.region ?_
      refine Vk.pures 6 [(10, .int .u64 (bxor .u64 (bxor .u64 x4 x1) x2)), (26, .int .u64 (bxor .u64 (bxor .u64 x4 x1) x2)), (25, .int .u64 x2), (24, .int .u64 (bxor .u64 x4 x1)), (23, .int .u64 x1), (22, .int .u64 x4)] hs (by kernel_rfl) fun a hs => ?_
      replace hs := hs.pick [10] (L' := [(10, .int .u64 (bxor .u64 (bxor .u64 x4 x1) x2))]) (by kernel_rfl)
      refine Vk.done (by kernel_rfl) ?_
      refine hK9 _ _ ?_
      clear hK9
      refine wp_ret ?_
      exact Vk.ret1 (P := Try.prog) (fn := Try.f21) (R := op_Eval.R κ S x0 x1 x2 x3 x4 r) (.int .u64 (bxor .u64 (bxor .u64 x4 x1) x2)) hs rfl (by kernel_rfl) (by obtain rfl := Option.some.inj hm; exact ⟨rfl, (Own.to hs.own [] 1 (by kernel_rfl) (by kernel_rfl))⟩)
    · replace hm := bif_f hm hb
      refine Vk.seq fun K10 hK10 => ?_
      have hj10 : ∀ (p_12 : Bool), op_Eval.j1 k x0 x1 x2 x3 p_12 = some r → ∀ (a : Act) (w : World), St 75 a w κ [(1, .int .u64 x1), (2, .int .u64 x2), (3, .int .u64 x3), (5, .pointer (some ⟨b_2, 0, none⟩)), (11, .int .u64 (Int.tmod x0.c 64)), (16, .int .i64 x0.kind), (27, .bool p_12)] (pt b_2 (blk (Tapi_Op.cells x0) 32) :: S) → K10 a w := by
        intro p_12 hm a w hs
        unfold op_Eval.j1 at hm
        refine hK10 _ _ ?_
        refine Vk.condS (b := p_12) hs (by kernel_rfl) (by kernel_rfl) (fun hb => ?_) (fun hb => ?_)
        · replace hm := bif_t hm hb
          refine Vk.seq fun K13 hK13 => ?_
          refine Vk.region ?_
          refine Vk.pures 1 [(30, .pointer (some ⟨b_2, 5, none⟩))] hs (by kernel_rfl) fun a hs => ?_
          refine Vk.step (Vk.value (some 31) (.int .u64 x0.c) hs (by kernel_rfl) (op := (.load 23 (.tmp 30))) (by kernel_rfl) (fun o ho => run_load1 (b := b_2) (off := 5) (c := C.int .u64 x0.c) ho (by kernel_rfl) (by kernel_rfl) (Cell.own 0 rfl (by kernel_rfl)) _ hs.own) fun a hs => ?_)
          refine Vk.pures 1 [(10, .int .u64 x0.c)] hs (by kernel_rfl) fun a hs => ?_
          replace hs := hs.pick [10] (L' := [(10, .int .u64 x0.c)]) (by kernel_rfl)
          refine Vk.done (by kernel_rfl) ?_
          refine hK13 _ _ ?_
          clear hK13
          refine wp_ret ?_
          exact Vk.ret1 (P := Try.prog) (fn := Try.f21) (R := op_Eval.R κ S x0 x1 x2 x3 x4 r) (.int .u64 x0.c) hs rfl (by kernel_rfl) (by obtain rfl := Option.some.inj hm; exact ⟨rfl, (Own.to hs.own [] 1 (by kernel_rfl) (by kernel_rfl))⟩)
        · replace hm := bif_f hm hb
          refine Vk.seq fun K14 hK14 => ?_
          refine Vk.region ?_
          refine Vk.pures 2 [(32, .bool (x0.kind == 5)), (33, .bool (x0.kind == 5))] hs (by kernel_rfl) fun a hs => ?_
          replace hs := hs.pick [1, 2, 3, 5, 11, 16, 32] (L' := [(1, .int .u64 x1), (2, .int .u64 x2), (3, .int .u64 x3), (5, .pointer (some ⟨b_2, 0, none⟩)), (11, .int .u64 (Int.tmod x0.c 64)), (16, .int .i64 x0.kind), (32, .bool (x0.kind == 5))]) (by kernel_rfl)
          refine Vk.done (by kernel_rfl) ?_
          refine hK14 _ _ ?_
          clear hK14
          refine Vk.condS (b := x0.kind == 5) hs (by kernel_rfl) (by kernel_rfl) (fun hb => ?_) (fun hb => ?_)
          · replace hm := bif_t hm hb
            refine Vk.seq fun K15 hK15 => ?_
            refine Vk.region ?_
            refine Vk.pures 4 [(10, .int .u64 (bxor .u64 x1 x2)), (36, .int .u64 (bxor .u64 x1 x2)), (35, .int .u64 x2), (34, .int .u64 x1)] hs (by kernel_rfl) fun a hs => ?_
            replace hs := hs.pick [10] (L' := [(10, .int .u64 (bxor .u64 x1 x2))]) (by kernel_rfl)
            refine Vk.done (by kernel_rfl) ?_
            refine hK15 _ _ ?_
            clear hK15
            refine wp_ret ?_
            exact Vk.ret1 (P := Try.prog) (fn := Try.f21) (R := op_Eval.R κ S x0 x1 x2 x3 x4 r) (.int .u64 (bxor .u64 x1 x2)) hs rfl (by kernel_rfl) (by obtain rfl := Option.some.inj hm; exact ⟨rfl, (Own.to hs.own [] 1 (by kernel_rfl) (by kernel_rfl))⟩)
          · replace hm := bif_f hm hb
            refine Vk.seq fun K16 hK16 => ?_
            refine Vk.region ?_
            refine Vk.pures 2 [(37, .bool (x0.kind == 6)), (38, .bool (x0.kind == 6))] hs (by kernel_rfl) fun a hs => ?_
            replace hs := hs.pick [1, 2, 3, 5, 11, 16, 37] (L' := [(1, .int .u64 x1), (2, .int .u64 x2), (3, .int .u64 x3), (5, .pointer (some ⟨b_2, 0, none⟩)), (11, .int .u64 (Int.tmod x0.c 64)), (16, .int .i64 x0.kind), (37, .bool (x0.kind == 6))]) (by kernel_rfl)
            refine Vk.done (by kernel_rfl) ?_
            refine hK16 _ _ ?_
            clear hK16
            refine Vk.condS (b := x0.kind == 6) hs (by kernel_rfl) (by kernel_rfl) (fun hb => ?_) (fun hb => ?_)
            · replace hm := bif_t hm hb
              refine Vk.seq fun K17 hK17 => ?_
              refine Vk.region ?_
              refine Vk.pures 3 [(10, .int .u64 (bnot .u64 x1)), (40, .int .u64 (bnot .u64 x1)), (39, .int .u64 x1)] hs (by kernel_rfl) fun a hs => ?_
              replace hs := hs.pick [10] (L' := [(10, .int .u64 (bnot .u64 x1))]) (by kernel_rfl)
              refine Vk.done (by kernel_rfl) ?_
              refine hK17 _ _ ?_
              clear hK17
              refine wp_ret ?_
              exact Vk.ret1 (P := Try.prog) (fn := Try.f21) (R := op_Eval.R κ S x0 x1 x2 x3 x4 r) (.int .u64 (bnot .u64 x1)) hs rfl (by kernel_rfl) (by obtain rfl := Option.some.inj hm; exact ⟨rfl, (Own.to hs.own [] 1 (by kernel_rfl) (by kernel_rfl))⟩)
            · replace hm := bif_f hm hb
              refine Vk.seq fun K18 hK18 => ?_
              refine Vk.region ?_
              refine Vk.pures 2 [(41, .bool (x0.kind == 7)), (42, .bool (x0.kind == 7))] hs (by kernel_rfl) fun a hs => ?_
              replace hs := hs.pick [1, 2, 3, 5, 11, 16, 41] (L' := [(1, .int .u64 x1), (2, .int .u64 x2), (3, .int .u64 x3), (5, .pointer (some ⟨b_2, 0, none⟩)), (11, .int .u64 (Int.tmod x0.c 64)), (16, .int .i64 x0.kind), (41, .bool (x0.kind == 7))]) (by kernel_rfl)
              refine Vk.done (by kernel_rfl) ?_
              refine hK18 _ _ ?_
              clear hK18
              refine Vk.condS (b := x0.kind == 7) hs (by kernel_rfl) (by kernel_rfl) (fun hb => ?_) (fun hb => ?_)
              · replace hm := bif_t hm hb
                refine Vk.seq fun K19 hK19 => ?_
                refine Vk.region ?_
                refine Vk.pures 4 [(10, .int .u64 (band .u64 x1 x2)), (45, .int .u64 (band .u64 x1 x2)), (44, .int .u64 x2), (43, .int .u64 x1)] hs (by kernel_rfl) fun a hs => ?_
                replace hs := hs.pick [10] (L' := [(10, .int .u64 (band .u64 x1 x2))]) (by kernel_rfl)
                refine Vk.done (by kernel_rfl) ?_
                refine hK19 _ _ ?_
                clear hK19
                refine wp_ret ?_
                exact Vk.ret1 (P := Try.prog) (fn := Try.f21) (R := op_Eval.R κ S x0 x1 x2 x3 x4 r) (.int .u64 (band .u64 x1 x2)) hs rfl (by kernel_rfl) (by obtain rfl := Option.some.inj hm; exact ⟨rfl, (Own.to hs.own [] 1 (by kernel_rfl) (by kernel_rfl))⟩)
              · replace hm := bif_f hm hb
                refine Vk.seq fun K20 hK20 => ?_
                refine Vk.region ?_
                refine Vk.pures 2 [(46, .bool (x0.kind == 8)), (47, .bool (x0.kind == 8))] hs (by kernel_rfl) fun a hs => ?_
                replace hs := hs.pick [1, 2, 3, 5, 11, 16, 46] (L' := [(1, .int .u64 x1), (2, .int .u64 x2), (3, .int .u64 x3), (5, .pointer (some ⟨b_2, 0, none⟩)), (11, .int .u64 (Int.tmod x0.c 64)), (16, .int .i64 x0.kind), (46, .bool (x0.kind == 8))]) (by kernel_rfl)
                refine Vk.done (by kernel_rfl) ?_
                refine hK20 _ _ ?_
                clear hK20
                refine Vk.condS (b := x0.kind == 8) hs (by kernel_rfl) (by kernel_rfl) (fun hb => ?_) (fun hb => ?_)
                · replace hm := bif_t hm hb
                  refine Vk.seq fun K21 hK21 => ?_
                  refine Vk.region ?_
                  refine Vk.pures 2 [(49, .pointer (some ⟨b_2, 5, none⟩)), (48, .int .u64 x1)] hs (by kernel_rfl) fun a hs => ?_
                  refine Vk.step (Vk.value (some 50) (.int .u64 x0.c) hs (by kernel_rfl) (op := (.load 23 (.tmp 49))) (by kernel_rfl) (fun o ho => run_load1 (b := b_2) (off := 5) (c := C.int .u64 x0.c) ho (by kernel_rfl) (by kernel_rfl) (Cell.own 0 rfl (by kernel_rfl)) _ hs.own) fun a hs => ?_)
                  refine Vk.pures 2 [(10, .int .u64 (band .u64 x1 x0.c)), (51, .int .u64 (band .u64 x1 x0.c))] hs (by kernel_rfl) fun a hs => ?_
                  replace hs := hs.pick [10] (L' := [(10, .int .u64 (band .u64 x1 x0.c))]) (by kernel_rfl)
                  refine Vk.done (by kernel_rfl) ?_
                  refine hK21 _ _ ?_
                  clear hK21
                  refine wp_ret ?_
                  exact Vk.ret1 (P := Try.prog) (fn := Try.f21) (R := op_Eval.R κ S x0 x1 x2 x3 x4 r) (.int .u64 (band .u64 x1 x0.c)) hs rfl (by kernel_rfl) (by obtain rfl := Option.some.inj hm; exact ⟨rfl, (Own.to hs.own [] 1 (by kernel_rfl) (by kernel_rfl))⟩)
                · replace hm := bif_f hm hb
                  refine Vk.seq fun K22 hK22 => ?_
                  refine Vk.region ?_
                  refine Vk.pures 2 [(52, .bool (x0.kind == 9)), (53, .bool (x0.kind == 9))] hs (by kernel_rfl) fun a hs => ?_
                  replace hs := hs.pick [1, 2, 3, 11, 16, 52] (L' := [(1, .int .u64 x1), (2, .int .u64 x2), (3, .int .u64 x3), (11, .int .u64 (Int.tmod x0.c 64)), (16, .int .i64 x0.kind), (52, .bool (x0.kind == 9))]) (by kernel_rfl)
                  refine Vk.done (by kernel_rfl) ?_
                  refine hK22 _ _ ?_
                  clear hK22
                  refine Vk.condS (b := x0.kind == 9) hs (by kernel_rfl) (by kernel_rfl) (fun hb => ?_) (fun hb => ?_)
                  · replace hm := bif_t hm hb
                    refine Vk.seq fun K23 hK23 => ?_
                    refine Vk.region ?_
                    refine Vk.pures 2 [(55, .int .u64 (Int.tmod x0.c 64)), (54, .int .u64 x1)] hs (by kernel_rfl) fun a hs => ?_
                    obtain ⟨h_24, hm⟩ := ite_t hm
                    refine Vk.step (Vk.value (some 56) (.int .u64 (shl .u64 x1 (Int.tmod x0.c 64))) hs (by kernel_rfl) (op := (.binOp .shl 23 (.tmp 54) (.tmp 55) 23)) (by kernel_rfl) (fun o ho => run_shl (k' := .u64) ho (by kernel_rfl) (by kernel_rfl) h_24 _) fun a hs => ?_)
                    refine Vk.pures 1 [(10, .int .u64 (shl .u64 x1 (Int.tmod x0.c 64)))] hs (by kernel_rfl) fun a hs => ?_
                    replace hs := hs.pick [10] (L' := [(10, .int .u64 (shl .u64 x1 (Int.tmod x0.c 64)))]) (by kernel_rfl)
                    refine Vk.done (by kernel_rfl) ?_
                    refine hK23 _ _ ?_
                    clear hK23
                    refine wp_ret ?_
                    exact Vk.ret1 (P := Try.prog) (fn := Try.f21) (R := op_Eval.R κ S x0 x1 x2 x3 x4 r) (.int .u64 (shl .u64 x1 (Int.tmod x0.c 64))) hs rfl (by kernel_rfl) (by obtain rfl := Option.some.inj hm; exact ⟨rfl, (Own.to hs.own [] 1 (by kernel_rfl) (by kernel_rfl))⟩)
                  · replace hm := bif_f hm hb
                    refine Vk.seq fun K25 hK25 => ?_
                    refine Vk.region ?_
                    refine Vk.pures 2 [(57, .bool (x0.kind == 10)), (58, .bool (x0.kind == 10))] hs (by kernel_rfl) fun a hs => ?_
                    replace hs := hs.pick [1, 2, 3, 11, 16, 57] (L' := [(1, .int .u64 x1), (2, .int .u64 x2), (3, .int .u64 x3), (11, .int .u64 (Int.tmod x0.c 64)), (16, .int .i64 x0.kind), (57, .bool (x0.kind == 10))]) (by kernel_rfl)
                    refine Vk.done (by kernel_rfl) ?_
                    refine hK25 _ _ ?_
                    clear hK25
                    refine Vk.condS (b := x0.kind == 10) hs (by kernel_rfl) (by kernel_rfl) (fun hb => ?_) (fun hb => ?_)
                    · replace hm := bif_t hm hb
                      refine Vk.seq fun K26 hK26 => ?_
                      refine Vk.region ?_
                      refine Vk.pures 2 [(60, .int .u64 (Int.tmod x0.c 64)), (59, .int .u64 x1)] hs (by kernel_rfl) fun a hs => ?_
                      obtain ⟨h_27, hm⟩ := ite_t hm
                      refine Vk.step (Vk.value (some 61) (.int .u64 (shr .u64 x1 (Int.tmod x0.c 64))) hs (by kernel_rfl) (op := (.binOp .shr 23 (.tmp 59) (.tmp 60) 23)) (by kernel_rfl) (fun o ho => run_shr (k' := .u64) ho (by kernel_rfl) (by kernel_rfl) h_27 _) fun a hs => ?_)
                      refine Vk.pures 1 [(10, .int .u64 (shr .u64 x1 (Int.tmod x0.c 64)))] hs (by kernel_rfl) fun a hs => ?_
                      replace hs := hs.pick [10] (L' := [(10, .int .u64 (shr .u64 x1 (Int.tmod x0.c 64)))]) (by kernel_rfl)
                      refine Vk.done (by kernel_rfl) ?_
                      refine hK26 _ _ ?_
                      clear hK26
                      refine wp_ret ?_
                      exact Vk.ret1 (P := Try.prog) (fn := Try.f21) (R := op_Eval.R κ S x0 x1 x2 x3 x4 r) (.int .u64 (shr .u64 x1 (Int.tmod x0.c 64))) hs rfl (by kernel_rfl) (by obtain rfl := Option.some.inj hm; exact ⟨rfl, (Own.to hs.own [] 1 (by kernel_rfl) (by kernel_rfl))⟩)
                    · replace hm := bif_f hm hb
                      refine Vk.seq fun K28 hK28 => ?_
                      refine Vk.region ?_
                      refine Vk.pures 2 [(62, .bool (x0.kind == 11)), (63, .bool (x0.kind == 11))] hs (by kernel_rfl) fun a hs => ?_
                      replace hs := hs.pick [1, 2, 3, 11, 16, 62] (L' := [(1, .int .u64 x1), (2, .int .u64 x2), (3, .int .u64 x3), (11, .int .u64 (Int.tmod x0.c 64)), (16, .int .i64 x0.kind), (62, .bool (x0.kind == 11))]) (by kernel_rfl)
                      refine Vk.done (by kernel_rfl) ?_
                      refine hK28 _ _ ?_
                      clear hK28
                      refine Vk.condS (b := x0.kind == 11) hs (by kernel_rfl) (by kernel_rfl) (fun hb => ?_) (fun hb => ?_)
                      · replace hm := bif_t hm hb
                        refine Vk.seq fun K29 hK29 => ?_
                        refine Vk.region ?_
                        refine Vk.pures 3 [(66, .int .i64 (IntKind.i64.wrap (Int.tmod x0.c 64))), (65, .int .u64 (Int.tmod x0.c 64)), (64, .int .u64 x1)] hs (by kernel_rfl) fun a hs => ?_
                        obtain ⟨v_32, h_31, hm⟩ := bind_t hm
                        refine Vk.step (Vk.call (some 67) 72 #[.int .u64 x1, .int .i64 (IntKind.i64.wrap (Int.tmod x0.c 64))] hs (by kernel_rfl) (by kernel_rfl) (by kernel_rfl) ?_)
                        refine (octet_Rot.ok k x1 (IntKind.i64.wrap (Int.tmod x0.c 64)) v_32 h_31 κ w (pt b_2 (blk (Tapi_Op.cells x0) 32) :: S) hs.own).mono ?_
                        rintro _ w ⟨rfl, how⟩
                        refine ⟨_, _, _, rfl, how, fun a hs => ?_⟩
                        refine Vk.pures 1 [(10, .int .u64 v_32)] hs (by kernel_rfl) fun a hs => ?_
                        replace hs := hs.pick [10] (L' := [(10, .int .u64 v_32)]) (by kernel_rfl)
                        refine Vk.done (by kernel_rfl) ?_
                        refine hK29 _ _ ?_
                        clear hK29
                        refine wp_ret ?_
                        exact Vk.ret1 (P := Try.prog) (fn := Try.f21) (R := op_Eval.R κ S x0 x1 x2 x3 x4 r) (.int .u64 v_32) hs rfl (by kernel_rfl) (by obtain rfl := Option.some.inj hm; exact ⟨rfl, (Own.to hs.own [] 1 (by kernel_rfl) (by kernel_rfl))⟩)
                      · replace hm := bif_f hm hb
                        refine Vk.seq fun K33 hK33 => ?_
                        refine Vk.region ?_
                        refine Vk.pures 2 [(68, .bool (x0.kind == 12)), (69, .bool (x0.kind == 12))] hs (by kernel_rfl) fun a hs => ?_
                        replace hs := hs.pick [1, 2, 3, 68] (L' := [(1, .int .u64 x1), (2, .int .u64 x2), (3, .int .u64 x3), (68, .bool (x0.kind == 12))]) (by kernel_rfl)
                        refine Vk.done (by kernel_rfl) ?_
                        refine hK33 _ _ ?_
                        clear hK33
                        refine Vk.condS (b := x0.kind == 12) hs (by kernel_rfl) (by kernel_rfl) (fun hb => ?_) (fun hb => ?_)
                        · replace hm := bif_t hm hb
                          refine Vk.seq fun K34 hK34 => ?_
                          refine Vk.region ?_
                          refine Vk.pures 6 [(10, .int .u64 (bxor .u64 (bxor .u64 x1 x2) x3)), (74, .int .u64 (bxor .u64 (bxor .u64 x1 x2) x3)), (73, .int .u64 x3), (72, .int .u64 (bxor .u64 x1 x2)), (71, .int .u64 x2), (70, .int .u64 x1)] hs (by kernel_rfl) fun a hs => ?_
                          replace hs := hs.pick [10] (L' := [(10, .int .u64 (bxor .u64 (bxor .u64 x1 x2) x3))]) (by kernel_rfl)
                          refine Vk.done (by kernel_rfl) ?_
                          refine hK34 _ _ ?_
                          clear hK34
                          refine wp_ret ?_
                          exact Vk.ret1 (P := Try.prog) (fn := Try.f21) (R := op_Eval.R κ S x0 x1 x2 x3 x4 r) (.int .u64 (bxor .u64 (bxor .u64 x1 x2) x3)) hs rfl (by kernel_rfl) (by obtain rfl := Option.some.inj hm; exact ⟨rfl, (Own.to hs.own [] 1 (by kernel_rfl) (by kernel_rfl))⟩)
                        · replace hm := bif_f hm hb
                          refine wp_skip ?_
                          refine hK4 _ _ ?_
                          clear hK4
                          refine Vk.seq fun K35 hK35 => ?_
                          refine Vk.region ?_
                          refine Vk.pures 1 [(10, .int .u64 0)] hs (by kernel_rfl) fun a hs => ?_
                          replace hs := hs.pick [10] (L' := [(10, .int .u64 0)]) (by kernel_rfl)
                          refine Vk.done (by kernel_rfl) ?_
                          refine hK35 _ _ ?_
                          clear hK35
                          refine wp_ret ?_
                          exact Vk.ret1 (P := Try.prog) (fn := Try.f21) (R := op_Eval.R κ S x0 x1 x2 x3 x4 r) (.int .u64 0) hs rfl (by kernel_rfl) (by obtain rfl := Option.some.inj hm; exact ⟨rfl, (Own.to hs.own [] 1 (by kernel_rfl) (by kernel_rfl))⟩)
      refine Vk.seq fun K11 hK11 => ?_
      refine Vk.region ?_
      refine Vk.pures 2 [(27, .bool (x0.kind == 3)), (28, .bool (x0.kind == 3))] hs (by kernel_rfl) fun a hs => ?_
      replace hs := hs.pick [1, 2, 3, 5, 11, 16, 27] (L' := [(1, .int .u64 x1), (2, .int .u64 x2), (3, .int .u64 x3), (5, .pointer (some ⟨b_2, 0, none⟩)), (11, .int .u64 (Int.tmod x0.c 64)), (16, .int .i64 x0.kind), (27, .bool (x0.kind == 3))]) (by kernel_rfl)
      refine Vk.done (by kernel_rfl) ?_
      refine hK11 _ _ ?_
      clear hK11
      refine Vk.condS (b := x0.kind == 3) hs (by kernel_rfl) (by kernel_rfl) (fun hb => ?_) (fun hb => ?_)
      · replace hm := bif_t hm hb
        refine wp_skip ?_
        exact hj10 (x0.kind == 3) hm _ _ (hs.go [1, 2, 3, 5, 11, 16, 27] [0] 1 (by kernel_rfl) (by kernel_rfl) (by kernel_rfl))
      · replace hm := bif_f hm hb
        refine Vk.region ?_
        refine Vk.pures 2 [(27, .bool (x0.kind == 4)), (29, .bool (x0.kind == 4))] hs (by kernel_rfl) fun a hs => ?_
        replace hs := hs.pick [1, 2, 3, 5, 11, 16, 27] (L' := [(1, .int .u64 x1), (2, .int .u64 x2), (3, .int .u64 x3), (5, .pointer (some ⟨b_2, 0, none⟩)), (11, .int .u64 (Int.tmod x0.c 64)), (16, .int .i64 x0.kind), (27, .bool (x0.kind == 4))]) (by kernel_rfl)
        refine Vk.done (by kernel_rfl) ?_
        exact hj10 (x0.kind == 4) hm _ _ (hs.go [1, 2, 3, 5, 11, 16, 27] [0] 1 (by kernel_rfl) (by kernel_rfl) (by kernel_rfl))


def visorref17_Eval.j1 (k : Nat) (x0 : Tapi_Op) (x1 : Int) (x2 : Int) (x3 : Int) (p_12 : Bool) : Option (Int) := (bif p_12 then some x0.c else (bif x0.kind == 5 then some (bxor .u64 x1 x2) else (bif x0.kind == 6 then some (IntKind.u64.wrap (18446744073709551615 - x1)) else (bif x0.kind == 7 then some (band .u64 x1 x2) else (bif x0.kind == 8 then some (band .u64 x1 x0.c) else (bif x0.kind == 9 then (visorref01_Low.m k (IntKind.i64.wrap (64 - (IntKind.i64.wrap (Int.tmod x0.c 64))))).bind fun v_26 => (visorref01_Rot.m k (band .u64 x1 v_26) (IntKind.i64.wrap (Int.tmod x0.c 64))).bind fun v_29 => some v_29 else (bif x0.kind == 10 then (visorref01_Rot.m k x1 (IntKind.i64.wrap (64 - (IntKind.i64.wrap (Int.tmod x0.c 64))))).bind fun v_34 => (visorref01_Low.m k (IntKind.i64.wrap (64 - (IntKind.i64.wrap (Int.tmod x0.c 64))))).bind fun v_37 => some (band .u64 v_34 v_37) else (bif x0.kind == 11 then (visorref01_Rot.m k x1 (IntKind.i64.wrap (Int.tmod x0.c 64))).bind fun v_42 => some v_42 else (bif x0.kind == 12 then some (bxor .u64 (bxor .u64 x1 x2) x3) else some 0)))))))))
abbrev visorref17_Eval.R (κ : Ctx) (S : List HP) (x0 : Tapi_Op) (x1 : Int) (x2 : Int) (x3 : Int) (x4 : Int) (r : Int) : Ending → World → Prop := fun e w' => e = .returned (.int .u64 r) ∧ Own κ w' (S)
def visorref17_Eval.m (k : Nat) (x0 : Tapi_Op) (x1 : Int) (x2 : Int) (x3 : Int) (x4 : Int) : Option Int := (bif x0.kind == 1 then some x4 else (bif x0.kind == 2 then some (bxor .u64 (bxor .u64 x4 x1) x2) else (bif x0.kind == 3 then visorref17_Eval.j1 k x0 x1 x2 x3 (x0.kind == 3) else visorref17_Eval.j1 k x0 x1 x2 x3 (x0.kind == 4))))

set_option maxRecDepth 100000 in
set_option maxHeartbeats 4000000 in
theorem visorref17_Eval.ok (k : Nat) (x0 : Tapi_Op) (x1 : Int) (x2 : Int) (x3 : Int) (x4 : Int) (r : Int) (hm : visorref17_Eval.m k x0 x1 x2 x3 x4 = some r) (κ : Ctx) (w : World) (S : List HP) (ho : Own κ w (S)) :
    Calls Try.prog 22 #[.agg (vals [C.int .i64 x0.kind, C.int .i64 x0.dom, C.int .i64 x0.a, C.int .i64 x0.b, C.int .i64 x0.d, C.int .u64 x0.c]), .int .u64 x1, .int .u64 x2, .int .u64 x3, .int .u64 x4] w (visorref17_Eval.R κ S x0 x1 x2 x3 x4 r) := by
  unfold visorref17_Eval.m at hm
  refine Vk.enter [(0, .agg (vals [C.int .i64 x0.kind, C.int .i64 x0.dom, C.int .i64 x0.a, C.int .i64 x0.b, C.int .i64 x0.d, C.int .u64 x0.c])), (1, .int .u64 x1), (2, .int .u64 x2), (3, .int .u64 x3), (4, .int .u64 x4)] Try.func22 rfl Try.ntmps22 (by kernel_rfl) (Nat.le_of_ble_eq_true (by kernel_rfl)) ho fun a hs => ?_
  refine Vk.seq fun K1 hK1 => ?_
  refine Vk.region ?_
  refine Vk.step (Vk.box (x := (.tmp 0)) 5 32 [C.int .i64 x0.kind, C.int .i64 x0.dom, C.int .i64 x0.a, C.int .i64 x0.b, C.int .i64 x0.d, C.int .u64 x0.c] hs (by kernel_rfl) (by kernel_rfl) (by kernel_rfl) fun b_2 w a hs => ?_)
  refine Vk.pures 1 [(10, .int .u64 0)] hs (by kernel_rfl) fun a hs => ?_
  replace hs := hs.pick [1, 2, 3, 4, 5] (L' := [(1, .int .u64 x1), (2, .int .u64 x2), (3, .int .u64 x3), (4, .int .u64 x4), (5, .pointer (some ⟨b_2, 0, none⟩))]) (by kernel_rfl)
  refine Vk.done (by kernel_rfl) ?_
  refine hK1 _ _ ?_
  clear hK1
  refine Vk.seq fun K3 hK3 => ?_
  refine Vk.region ?_
  refine Vk.pures 1 [(12, .pointer (some ⟨b_2, 5, none⟩))] hs (by kernel_rfl) fun a hs => ?_
  refine Vk.step (Vk.value (some 13) (.int .u64 x0.c) hs (by kernel_rfl) (op := (.load 23 (.tmp 12))) (by kernel_rfl) (fun o ho => run_load1 (b := b_2) (off := 5) (c := C.int .u64 x0.c) ho (by kernel_rfl) (by kernel_rfl) (Cell.own 0 rfl (by kernel_rfl)) _ hs.own) fun a hs => ?_)
  refine Vk.pures 3 [(11, .int .i64 (IntKind.i64.wrap (Int.tmod x0.c 64))), (15, .int .i64 (IntKind.i64.wrap (Int.tmod x0.c 64))), (14, .int .u64 (Int.tmod x0.c 64))] hs (by kernel_rfl) fun a hs => ?_
  replace hs := hs.pick [1, 2, 3, 4, 5, 11] (L' := [(1, .int .u64 x1), (2, .int .u64 x2), (3, .int .u64 x3), (4, .int .u64 x4), (5, .pointer (some ⟨b_2, 0, none⟩)), (11, .int .i64 (IntKind.i64.wrap (Int.tmod x0.c 64)))]) (by kernel_rfl)
  refine Vk.done (by kernel_rfl) ?_
  refine hK3 _ _ ?_
  clear hK3
  refine Vk.seq fun K4 hK4 => ?_
  refine Vk.seq fun K5 hK5 => ?_
  refine Vk.region ?_
  refine Vk.pures 1 [(16, .pointer (some ⟨b_2, 0, none⟩))] hs (by kernel_rfl) fun a hs => ?_
  refine Vk.step (Vk.value (some 17) (.int .i64 x0.kind) hs (by kernel_rfl) (op := (.load 3 (.tmp 16))) (by kernel_rfl) (fun o ho => run_load1 (b := b_2) (off := 0) (c := C.int .i64 x0.kind) ho (by kernel_rfl) (by kernel_rfl) (Cell.own 0 rfl (by kernel_rfl)) _ hs.own) fun a hs => ?_)
  replace hs := hs.pick [1, 2, 3, 4, 5, 11, 17] (L' := [(1, .int .u64 x1), (2, .int .u64 x2), (3, .int .u64 x3), (4, .int .u64 x4), (5, .pointer (some ⟨b_2, 0, none⟩)), (11, .int .i64 (IntKind.i64.wrap (Int.tmod x0.c 64))), (17, .int .i64 x0.kind)]) (by kernel_rfl)
  refine Vk.done (by kernel_rfl) ?_
  refine hK5 _ _ ?_
  clear hK5
  refine wp_block ?_
  refine Vk.seq fun K6 hK6 => ?_
  refine Vk.region ?_
  refine Vk.pures 2 [(18, .bool (x0.kind == 1)), (19, .bool (x0.kind == 1))] hs (by kernel_rfl) fun a hs => ?_
  replace hs := hs.pick [1, 2, 3, 4, 5, 11, 17, 18] (L' := [(1, .int .u64 x1), (2, .int .u64 x2), (3, .int .u64 x3), (4, .int .u64 x4), (5, .pointer (some ⟨b_2, 0, none⟩)), (11, .int .i64 (IntKind.i64.wrap (Int.tmod x0.c 64))), (17, .int .i64 x0.kind), (18, .bool (x0.kind == 1))]) (by kernel_rfl)
  refine Vk.done (by kernel_rfl) ?_
  refine hK6 _ _ ?_
  clear hK6
  refine Vk.condS (b := x0.kind == 1) hs (by kernel_rfl) (by kernel_rfl) (fun hb => ?_) (fun hb => ?_)
  · replace hm := bif_t hm hb
    refine Vk.seq fun K7 hK7 => ?_
    refine Vk.region ?_
    refine Vk.pures 2 [(10, .int .u64 x4), (20, .int .u64 x4)] hs (by kernel_rfl) fun a hs => ?_
    replace hs := hs.pick [10] (L' := [(10, .int .u64 x4)]) (by kernel_rfl)
    refine Vk.done (by kernel_rfl) ?_
    refine hK7 _ _ ?_
    clear hK7
    refine wp_ret ?_
    exact Vk.ret1 (P := Try.prog) (fn := Try.f22) (R := visorref17_Eval.R κ S x0 x1 x2 x3 x4 r) (.int .u64 x4) hs rfl (by kernel_rfl) (by obtain rfl := Option.some.inj hm; exact ⟨rfl, (Own.to hs.own [] 1 (by kernel_rfl) (by kernel_rfl))⟩)
  · replace hm := bif_f hm hb
    refine Vk.seq fun K8 hK8 => ?_
    refine Vk.region ?_
    refine Vk.pures 2 [(21, .bool (x0.kind == 2)), (22, .bool (x0.kind == 2))] hs (by kernel_rfl) fun a hs => ?_
    replace hs := hs.pick [1, 2, 3, 4, 5, 11, 17, 21] (L' := [(1, .int .u64 x1), (2, .int .u64 x2), (3, .int .u64 x3), (4, .int .u64 x4), (5, .pointer (some ⟨b_2, 0, none⟩)), (11, .int .i64 (IntKind.i64.wrap (Int.tmod x0.c 64))), (17, .int .i64 x0.kind), (21, .bool (x0.kind == 2))]) (by kernel_rfl)
    refine Vk.done (by kernel_rfl) ?_
    refine hK8 _ _ ?_
    clear hK8
    refine Vk.condS (b := x0.kind == 2) hs (by kernel_rfl) (by kernel_rfl) (fun hb => ?_) (fun hb => ?_)
    · replace hm := bif_t hm hb
      refine Vk.seq fun K9 hK9 => ?_
      refine Vk.region ?_
      refine Vk.pures 6 [(10, .int .u64 (bxor .u64 (bxor .u64 x4 x1) x2)), (27, .int .u64 (bxor .u64 (bxor .u64 x4 x1) x2)), (26, .int .u64 x2), (25, .int .u64 (bxor .u64 x4 x1)), (24, .int .u64 x1), (23, .int .u64 x4)] hs (by kernel_rfl) fun a hs => ?_
      replace hs := hs.pick [10] (L' := [(10, .int .u64 (bxor .u64 (bxor .u64 x4 x1) x2))]) (by kernel_rfl)
      refine Vk.done (by kernel_rfl) ?_
      refine hK9 _ _ ?_
      clear hK9
      refine wp_ret ?_
      exact Vk.ret1 (P := Try.prog) (fn := Try.f22) (R := visorref17_Eval.R κ S x0 x1 x2 x3 x4 r) (.int .u64 (bxor .u64 (bxor .u64 x4 x1) x2)) hs rfl (by kernel_rfl) (by obtain rfl := Option.some.inj hm; exact ⟨rfl, (Own.to hs.own [] 1 (by kernel_rfl) (by kernel_rfl))⟩)
    · replace hm := bif_f hm hb
      refine Vk.seq fun K10 hK10 => ?_
      have hj10 : ∀ (p_12 : Bool), visorref17_Eval.j1 k x0 x1 x2 x3 p_12 = some r → ∀ (a : Act) (w : World), St 84 a w κ [(1, .int .u64 x1), (2, .int .u64 x2), (3, .int .u64 x3), (5, .pointer (some ⟨b_2, 0, none⟩)), (11, .int .i64 (IntKind.i64.wrap (Int.tmod x0.c 64))), (17, .int .i64 x0.kind), (28, .bool p_12)] (pt b_2 (blk (Tapi_Op.cells x0) 32) :: S) → K10 a w := by
        intro p_12 hm a w hs
        unfold visorref17_Eval.j1 at hm
        refine hK10 _ _ ?_
        refine Vk.condS (b := p_12) hs (by kernel_rfl) (by kernel_rfl) (fun hb => ?_) (fun hb => ?_)
        · replace hm := bif_t hm hb
          refine Vk.seq fun K13 hK13 => ?_
          refine Vk.region ?_
          refine Vk.pures 1 [(31, .pointer (some ⟨b_2, 5, none⟩))] hs (by kernel_rfl) fun a hs => ?_
          refine Vk.step (Vk.value (some 32) (.int .u64 x0.c) hs (by kernel_rfl) (op := (.load 23 (.tmp 31))) (by kernel_rfl) (fun o ho => run_load1 (b := b_2) (off := 5) (c := C.int .u64 x0.c) ho (by kernel_rfl) (by kernel_rfl) (Cell.own 0 rfl (by kernel_rfl)) _ hs.own) fun a hs => ?_)
          refine Vk.pures 1 [(10, .int .u64 x0.c)] hs (by kernel_rfl) fun a hs => ?_
          replace hs := hs.pick [10] (L' := [(10, .int .u64 x0.c)]) (by kernel_rfl)
          refine Vk.done (by kernel_rfl) ?_
          refine hK13 _ _ ?_
          clear hK13
          refine wp_ret ?_
          exact Vk.ret1 (P := Try.prog) (fn := Try.f22) (R := visorref17_Eval.R κ S x0 x1 x2 x3 x4 r) (.int .u64 x0.c) hs rfl (by kernel_rfl) (by obtain rfl := Option.some.inj hm; exact ⟨rfl, (Own.to hs.own [] 1 (by kernel_rfl) (by kernel_rfl))⟩)
        · replace hm := bif_f hm hb
          refine Vk.seq fun K14 hK14 => ?_
          refine Vk.region ?_
          refine Vk.pures 2 [(33, .bool (x0.kind == 5)), (34, .bool (x0.kind == 5))] hs (by kernel_rfl) fun a hs => ?_
          replace hs := hs.pick [1, 2, 3, 5, 11, 17, 33] (L' := [(1, .int .u64 x1), (2, .int .u64 x2), (3, .int .u64 x3), (5, .pointer (some ⟨b_2, 0, none⟩)), (11, .int .i64 (IntKind.i64.wrap (Int.tmod x0.c 64))), (17, .int .i64 x0.kind), (33, .bool (x0.kind == 5))]) (by kernel_rfl)
          refine Vk.done (by kernel_rfl) ?_
          refine hK14 _ _ ?_
          clear hK14
          refine Vk.condS (b := x0.kind == 5) hs (by kernel_rfl) (by kernel_rfl) (fun hb => ?_) (fun hb => ?_)
          · replace hm := bif_t hm hb
            refine Vk.seq fun K15 hK15 => ?_
            refine Vk.region ?_
            refine Vk.pures 4 [(10, .int .u64 (bxor .u64 x1 x2)), (37, .int .u64 (bxor .u64 x1 x2)), (36, .int .u64 x2), (35, .int .u64 x1)] hs (by kernel_rfl) fun a hs => ?_
            replace hs := hs.pick [10] (L' := [(10, .int .u64 (bxor .u64 x1 x2))]) (by kernel_rfl)
            refine Vk.done (by kernel_rfl) ?_
            refine hK15 _ _ ?_
            clear hK15
            refine wp_ret ?_
            exact Vk.ret1 (P := Try.prog) (fn := Try.f22) (R := visorref17_Eval.R κ S x0 x1 x2 x3 x4 r) (.int .u64 (bxor .u64 x1 x2)) hs rfl (by kernel_rfl) (by obtain rfl := Option.some.inj hm; exact ⟨rfl, (Own.to hs.own [] 1 (by kernel_rfl) (by kernel_rfl))⟩)
          · replace hm := bif_f hm hb
            refine Vk.seq fun K16 hK16 => ?_
            refine Vk.region ?_
            refine Vk.pures 2 [(38, .bool (x0.kind == 6)), (39, .bool (x0.kind == 6))] hs (by kernel_rfl) fun a hs => ?_
            replace hs := hs.pick [1, 2, 3, 5, 11, 17, 38] (L' := [(1, .int .u64 x1), (2, .int .u64 x2), (3, .int .u64 x3), (5, .pointer (some ⟨b_2, 0, none⟩)), (11, .int .i64 (IntKind.i64.wrap (Int.tmod x0.c 64))), (17, .int .i64 x0.kind), (38, .bool (x0.kind == 6))]) (by kernel_rfl)
            refine Vk.done (by kernel_rfl) ?_
            refine hK16 _ _ ?_
            clear hK16
            refine Vk.condS (b := x0.kind == 6) hs (by kernel_rfl) (by kernel_rfl) (fun hb => ?_) (fun hb => ?_)
            · replace hm := bif_t hm hb
              refine Vk.seq fun K17 hK17 => ?_
              refine Vk.region ?_
              refine Vk.pures 3 [(10, .int .u64 (IntKind.u64.wrap (18446744073709551615 - x1))), (41, .int .u64 (IntKind.u64.wrap (18446744073709551615 - x1))), (40, .int .u64 x1)] hs (by kernel_rfl) fun a hs => ?_
              replace hs := hs.pick [10] (L' := [(10, .int .u64 (IntKind.u64.wrap (18446744073709551615 - x1)))]) (by kernel_rfl)
              refine Vk.done (by kernel_rfl) ?_
              refine hK17 _ _ ?_
              clear hK17
              refine wp_ret ?_
              exact Vk.ret1 (P := Try.prog) (fn := Try.f22) (R := visorref17_Eval.R κ S x0 x1 x2 x3 x4 r) (.int .u64 (IntKind.u64.wrap (18446744073709551615 - x1))) hs rfl (by kernel_rfl) (by obtain rfl := Option.some.inj hm; exact ⟨rfl, (Own.to hs.own [] 1 (by kernel_rfl) (by kernel_rfl))⟩)
            · replace hm := bif_f hm hb
              refine Vk.seq fun K18 hK18 => ?_
              refine Vk.region ?_
              refine Vk.pures 2 [(42, .bool (x0.kind == 7)), (43, .bool (x0.kind == 7))] hs (by kernel_rfl) fun a hs => ?_
              replace hs := hs.pick [1, 2, 3, 5, 11, 17, 42] (L' := [(1, .int .u64 x1), (2, .int .u64 x2), (3, .int .u64 x3), (5, .pointer (some ⟨b_2, 0, none⟩)), (11, .int .i64 (IntKind.i64.wrap (Int.tmod x0.c 64))), (17, .int .i64 x0.kind), (42, .bool (x0.kind == 7))]) (by kernel_rfl)
              refine Vk.done (by kernel_rfl) ?_
              refine hK18 _ _ ?_
              clear hK18
              refine Vk.condS (b := x0.kind == 7) hs (by kernel_rfl) (by kernel_rfl) (fun hb => ?_) (fun hb => ?_)
              · replace hm := bif_t hm hb
                refine Vk.seq fun K19 hK19 => ?_
                refine Vk.region ?_
                refine Vk.pures 4 [(10, .int .u64 (band .u64 x1 x2)), (46, .int .u64 (band .u64 x1 x2)), (45, .int .u64 x2), (44, .int .u64 x1)] hs (by kernel_rfl) fun a hs => ?_
                replace hs := hs.pick [10] (L' := [(10, .int .u64 (band .u64 x1 x2))]) (by kernel_rfl)
                refine Vk.done (by kernel_rfl) ?_
                refine hK19 _ _ ?_
                clear hK19
                refine wp_ret ?_
                exact Vk.ret1 (P := Try.prog) (fn := Try.f22) (R := visorref17_Eval.R κ S x0 x1 x2 x3 x4 r) (.int .u64 (band .u64 x1 x2)) hs rfl (by kernel_rfl) (by obtain rfl := Option.some.inj hm; exact ⟨rfl, (Own.to hs.own [] 1 (by kernel_rfl) (by kernel_rfl))⟩)
              · replace hm := bif_f hm hb
                refine Vk.seq fun K20 hK20 => ?_
                refine Vk.region ?_
                refine Vk.pures 2 [(47, .bool (x0.kind == 8)), (48, .bool (x0.kind == 8))] hs (by kernel_rfl) fun a hs => ?_
                replace hs := hs.pick [1, 2, 3, 5, 11, 17, 47] (L' := [(1, .int .u64 x1), (2, .int .u64 x2), (3, .int .u64 x3), (5, .pointer (some ⟨b_2, 0, none⟩)), (11, .int .i64 (IntKind.i64.wrap (Int.tmod x0.c 64))), (17, .int .i64 x0.kind), (47, .bool (x0.kind == 8))]) (by kernel_rfl)
                refine Vk.done (by kernel_rfl) ?_
                refine hK20 _ _ ?_
                clear hK20
                refine Vk.condS (b := x0.kind == 8) hs (by kernel_rfl) (by kernel_rfl) (fun hb => ?_) (fun hb => ?_)
                · replace hm := bif_t hm hb
                  refine Vk.seq fun K21 hK21 => ?_
                  refine Vk.region ?_
                  refine Vk.pures 2 [(50, .pointer (some ⟨b_2, 5, none⟩)), (49, .int .u64 x1)] hs (by kernel_rfl) fun a hs => ?_
                  refine Vk.step (Vk.value (some 51) (.int .u64 x0.c) hs (by kernel_rfl) (op := (.load 23 (.tmp 50))) (by kernel_rfl) (fun o ho => run_load1 (b := b_2) (off := 5) (c := C.int .u64 x0.c) ho (by kernel_rfl) (by kernel_rfl) (Cell.own 0 rfl (by kernel_rfl)) _ hs.own) fun a hs => ?_)
                  refine Vk.pures 2 [(10, .int .u64 (band .u64 x1 x0.c)), (52, .int .u64 (band .u64 x1 x0.c))] hs (by kernel_rfl) fun a hs => ?_
                  replace hs := hs.pick [10] (L' := [(10, .int .u64 (band .u64 x1 x0.c))]) (by kernel_rfl)
                  refine Vk.done (by kernel_rfl) ?_
                  refine hK21 _ _ ?_
                  clear hK21
                  refine wp_ret ?_
                  exact Vk.ret1 (P := Try.prog) (fn := Try.f22) (R := visorref17_Eval.R κ S x0 x1 x2 x3 x4 r) (.int .u64 (band .u64 x1 x0.c)) hs rfl (by kernel_rfl) (by obtain rfl := Option.some.inj hm; exact ⟨rfl, (Own.to hs.own [] 1 (by kernel_rfl) (by kernel_rfl))⟩)
                · replace hm := bif_f hm hb
                  refine Vk.seq fun K22 hK22 => ?_
                  refine Vk.region ?_
                  refine Vk.pures 2 [(53, .bool (x0.kind == 9)), (54, .bool (x0.kind == 9))] hs (by kernel_rfl) fun a hs => ?_
                  replace hs := hs.pick [1, 2, 3, 11, 17, 53] (L' := [(1, .int .u64 x1), (2, .int .u64 x2), (3, .int .u64 x3), (11, .int .i64 (IntKind.i64.wrap (Int.tmod x0.c 64))), (17, .int .i64 x0.kind), (53, .bool (x0.kind == 9))]) (by kernel_rfl)
                  refine Vk.done (by kernel_rfl) ?_
                  refine hK22 _ _ ?_
                  clear hK22
                  refine Vk.condS (b := x0.kind == 9) hs (by kernel_rfl) (by kernel_rfl) (fun hb => ?_) (fun hb => ?_)
                  · replace hm := bif_t hm hb
                    refine Vk.seq fun K23 hK23 => ?_
                    refine Vk.region ?_
                    refine Vk.pures 3 [(57, .int .i64 (IntKind.i64.wrap (64 - (IntKind.i64.wrap (Int.tmod x0.c 64))))), (56, .int .i64 (IntKind.i64.wrap (Int.tmod x0.c 64))), (55, .int .u64 x1)] hs (by kernel_rfl) fun a hs => ?_
                    obtain ⟨v_26, h_25, hm⟩ := bind_t hm
                    refine Vk.step (Vk.call (some 58) 74 #[.int .i64 (IntKind.i64.wrap (64 - (IntKind.i64.wrap (Int.tmod x0.c 64))))] hs (by kernel_rfl) (by kernel_rfl) (by kernel_rfl) ?_)
                    refine (visorref01_Low.ok k (IntKind.i64.wrap (64 - (IntKind.i64.wrap (Int.tmod x0.c 64)))) v_26 h_25 κ w (pt b_2 (blk (Tapi_Op.cells x0) 32) :: S) hs.own).mono ?_
                    rintro _ w ⟨rfl, how⟩
                    refine ⟨_, _, _, rfl, how, fun a hs => ?_⟩
                    refine Vk.pures 2 [(60, .int .i64 (IntKind.i64.wrap (Int.tmod x0.c 64))), (59, .int .u64 (band .u64 x1 v_26))] hs (by kernel_rfl) fun a hs => ?_
                    obtain ⟨v_29, h_28, hm⟩ := bind_t hm
                    refine Vk.step (Vk.call (some 61) 73 #[.int .u64 (band .u64 x1 v_26), .int .i64 (IntKind.i64.wrap (Int.tmod x0.c 64))] hs (by kernel_rfl) (by kernel_rfl) (by kernel_rfl) ?_)
                    refine (visorref01_Rot.ok k (band .u64 x1 v_26) (IntKind.i64.wrap (Int.tmod x0.c 64)) v_29 h_28 κ w (pt b_2 (blk (Tapi_Op.cells x0) 32) :: S) hs.own).mono ?_
                    rintro _ w ⟨rfl, how⟩
                    refine ⟨_, _, _, rfl, how, fun a hs => ?_⟩
                    refine Vk.pures 1 [(10, .int .u64 v_29)] hs (by kernel_rfl) fun a hs => ?_
                    replace hs := hs.pick [10] (L' := [(10, .int .u64 v_29)]) (by kernel_rfl)
                    refine Vk.done (by kernel_rfl) ?_
                    refine hK23 _ _ ?_
                    clear hK23
                    refine wp_ret ?_
                    exact Vk.ret1 (P := Try.prog) (fn := Try.f22) (R := visorref17_Eval.R κ S x0 x1 x2 x3 x4 r) (.int .u64 v_29) hs rfl (by kernel_rfl) (by obtain rfl := Option.some.inj hm; exact ⟨rfl, (Own.to hs.own [] 1 (by kernel_rfl) (by kernel_rfl))⟩)
                  · replace hm := bif_f hm hb
                    refine Vk.seq fun K30 hK30 => ?_
                    refine Vk.region ?_
                    refine Vk.pures 2 [(62, .bool (x0.kind == 10)), (63, .bool (x0.kind == 10))] hs (by kernel_rfl) fun a hs => ?_
                    replace hs := hs.pick [1, 2, 3, 11, 17, 62] (L' := [(1, .int .u64 x1), (2, .int .u64 x2), (3, .int .u64 x3), (11, .int .i64 (IntKind.i64.wrap (Int.tmod x0.c 64))), (17, .int .i64 x0.kind), (62, .bool (x0.kind == 10))]) (by kernel_rfl)
                    refine Vk.done (by kernel_rfl) ?_
                    refine hK30 _ _ ?_
                    clear hK30
                    refine Vk.condS (b := x0.kind == 10) hs (by kernel_rfl) (by kernel_rfl) (fun hb => ?_) (fun hb => ?_)
                    · replace hm := bif_t hm hb
                      refine Vk.seq fun K31 hK31 => ?_
                      refine Vk.region ?_
                      refine Vk.pures 3 [(66, .int .i64 (IntKind.i64.wrap (64 - (IntKind.i64.wrap (Int.tmod x0.c 64))))), (65, .int .i64 (IntKind.i64.wrap (Int.tmod x0.c 64))), (64, .int .u64 x1)] hs (by kernel_rfl) fun a hs => ?_
                      obtain ⟨v_34, h_33, hm⟩ := bind_t hm
                      refine Vk.step (Vk.call (some 67) 73 #[.int .u64 x1, .int .i64 (IntKind.i64.wrap (64 - (IntKind.i64.wrap (Int.tmod x0.c 64))))] hs (by kernel_rfl) (by kernel_rfl) (by kernel_rfl) ?_)
                      refine (visorref01_Rot.ok k x1 (IntKind.i64.wrap (64 - (IntKind.i64.wrap (Int.tmod x0.c 64)))) v_34 h_33 κ w (pt b_2 (blk (Tapi_Op.cells x0) 32) :: S) hs.own).mono ?_
                      rintro _ w ⟨rfl, how⟩
                      refine ⟨_, _, _, rfl, how, fun a hs => ?_⟩
                      refine Vk.pures 2 [(69, .int .i64 (IntKind.i64.wrap (64 - (IntKind.i64.wrap (Int.tmod x0.c 64))))), (68, .int .i64 (IntKind.i64.wrap (Int.tmod x0.c 64)))] hs (by kernel_rfl) fun a hs => ?_
                      obtain ⟨v_37, h_36, hm⟩ := bind_t hm
                      refine Vk.step (Vk.call (some 70) 74 #[.int .i64 (IntKind.i64.wrap (64 - (IntKind.i64.wrap (Int.tmod x0.c 64))))] hs (by kernel_rfl) (by kernel_rfl) (by kernel_rfl) ?_)
                      refine (visorref01_Low.ok k (IntKind.i64.wrap (64 - (IntKind.i64.wrap (Int.tmod x0.c 64)))) v_37 h_36 κ w (pt b_2 (blk (Tapi_Op.cells x0) 32) :: S) hs.own).mono ?_
                      rintro _ w ⟨rfl, how⟩
                      refine ⟨_, _, _, rfl, how, fun a hs => ?_⟩
                      refine Vk.pures 2 [(10, .int .u64 (band .u64 v_34 v_37)), (71, .int .u64 (band .u64 v_34 v_37))] hs (by kernel_rfl) fun a hs => ?_
                      replace hs := hs.pick [10] (L' := [(10, .int .u64 (band .u64 v_34 v_37))]) (by kernel_rfl)
                      refine Vk.done (by kernel_rfl) ?_
                      refine hK31 _ _ ?_
                      clear hK31
                      refine wp_ret ?_
                      exact Vk.ret1 (P := Try.prog) (fn := Try.f22) (R := visorref17_Eval.R κ S x0 x1 x2 x3 x4 r) (.int .u64 (band .u64 v_34 v_37)) hs rfl (by kernel_rfl) (by obtain rfl := Option.some.inj hm; exact ⟨rfl, (Own.to hs.own [] 1 (by kernel_rfl) (by kernel_rfl))⟩)
                    · replace hm := bif_f hm hb
                      refine Vk.seq fun K38 hK38 => ?_
                      refine Vk.region ?_
                      refine Vk.pures 2 [(72, .bool (x0.kind == 11)), (73, .bool (x0.kind == 11))] hs (by kernel_rfl) fun a hs => ?_
                      replace hs := hs.pick [1, 2, 3, 11, 17, 72] (L' := [(1, .int .u64 x1), (2, .int .u64 x2), (3, .int .u64 x3), (11, .int .i64 (IntKind.i64.wrap (Int.tmod x0.c 64))), (17, .int .i64 x0.kind), (72, .bool (x0.kind == 11))]) (by kernel_rfl)
                      refine Vk.done (by kernel_rfl) ?_
                      refine hK38 _ _ ?_
                      clear hK38
                      refine Vk.condS (b := x0.kind == 11) hs (by kernel_rfl) (by kernel_rfl) (fun hb => ?_) (fun hb => ?_)
                      · replace hm := bif_t hm hb
                        refine Vk.seq fun K39 hK39 => ?_
                        refine Vk.region ?_
                        refine Vk.pures 2 [(75, .int .i64 (IntKind.i64.wrap (Int.tmod x0.c 64))), (74, .int .u64 x1)] hs (by kernel_rfl) fun a hs => ?_
                        obtain ⟨v_42, h_41, hm⟩ := bind_t hm
                        refine Vk.step (Vk.call (some 76) 73 #[.int .u64 x1, .int .i64 (IntKind.i64.wrap (Int.tmod x0.c 64))] hs (by kernel_rfl) (by kernel_rfl) (by kernel_rfl) ?_)
                        refine (visorref01_Rot.ok k x1 (IntKind.i64.wrap (Int.tmod x0.c 64)) v_42 h_41 κ w (pt b_2 (blk (Tapi_Op.cells x0) 32) :: S) hs.own).mono ?_
                        rintro _ w ⟨rfl, how⟩
                        refine ⟨_, _, _, rfl, how, fun a hs => ?_⟩
                        refine Vk.pures 1 [(10, .int .u64 v_42)] hs (by kernel_rfl) fun a hs => ?_
                        replace hs := hs.pick [10] (L' := [(10, .int .u64 v_42)]) (by kernel_rfl)
                        refine Vk.done (by kernel_rfl) ?_
                        refine hK39 _ _ ?_
                        clear hK39
                        refine wp_ret ?_
                        exact Vk.ret1 (P := Try.prog) (fn := Try.f22) (R := visorref17_Eval.R κ S x0 x1 x2 x3 x4 r) (.int .u64 v_42) hs rfl (by kernel_rfl) (by obtain rfl := Option.some.inj hm; exact ⟨rfl, (Own.to hs.own [] 1 (by kernel_rfl) (by kernel_rfl))⟩)
                      · replace hm := bif_f hm hb
                        refine Vk.seq fun K43 hK43 => ?_
                        refine Vk.region ?_
                        refine Vk.pures 2 [(77, .bool (x0.kind == 12)), (78, .bool (x0.kind == 12))] hs (by kernel_rfl) fun a hs => ?_
                        replace hs := hs.pick [1, 2, 3, 77] (L' := [(1, .int .u64 x1), (2, .int .u64 x2), (3, .int .u64 x3), (77, .bool (x0.kind == 12))]) (by kernel_rfl)
                        refine Vk.done (by kernel_rfl) ?_
                        refine hK43 _ _ ?_
                        clear hK43
                        refine Vk.condS (b := x0.kind == 12) hs (by kernel_rfl) (by kernel_rfl) (fun hb => ?_) (fun hb => ?_)
                        · replace hm := bif_t hm hb
                          refine Vk.seq fun K44 hK44 => ?_
                          refine Vk.region ?_
                          refine Vk.pures 6 [(10, .int .u64 (bxor .u64 (bxor .u64 x1 x2) x3)), (83, .int .u64 (bxor .u64 (bxor .u64 x1 x2) x3)), (82, .int .u64 x3), (81, .int .u64 (bxor .u64 x1 x2)), (80, .int .u64 x2), (79, .int .u64 x1)] hs (by kernel_rfl) fun a hs => ?_
                          replace hs := hs.pick [10] (L' := [(10, .int .u64 (bxor .u64 (bxor .u64 x1 x2) x3))]) (by kernel_rfl)
                          refine Vk.done (by kernel_rfl) ?_
                          refine hK44 _ _ ?_
                          clear hK44
                          refine wp_ret ?_
                          exact Vk.ret1 (P := Try.prog) (fn := Try.f22) (R := visorref17_Eval.R κ S x0 x1 x2 x3 x4 r) (.int .u64 (bxor .u64 (bxor .u64 x1 x2) x3)) hs rfl (by kernel_rfl) (by obtain rfl := Option.some.inj hm; exact ⟨rfl, (Own.to hs.own [] 1 (by kernel_rfl) (by kernel_rfl))⟩)
                        · replace hm := bif_f hm hb
                          refine wp_skip ?_
                          refine hK4 _ _ ?_
                          clear hK4
                          refine Vk.seq fun K45 hK45 => ?_
                          refine Vk.region ?_
                          refine Vk.pures 1 [(10, .int .u64 0)] hs (by kernel_rfl) fun a hs => ?_
                          replace hs := hs.pick [10] (L' := [(10, .int .u64 0)]) (by kernel_rfl)
                          refine Vk.done (by kernel_rfl) ?_
                          refine hK45 _ _ ?_
                          clear hK45
                          refine wp_ret ?_
                          exact Vk.ret1 (P := Try.prog) (fn := Try.f22) (R := visorref17_Eval.R κ S x0 x1 x2 x3 x4 r) (.int .u64 0) hs rfl (by kernel_rfl) (by obtain rfl := Option.some.inj hm; exact ⟨rfl, (Own.to hs.own [] 1 (by kernel_rfl) (by kernel_rfl))⟩)
      refine Vk.seq fun K11 hK11 => ?_
      refine Vk.region ?_
      refine Vk.pures 2 [(28, .bool (x0.kind == 3)), (29, .bool (x0.kind == 3))] hs (by kernel_rfl) fun a hs => ?_
      replace hs := hs.pick [1, 2, 3, 5, 11, 17, 28] (L' := [(1, .int .u64 x1), (2, .int .u64 x2), (3, .int .u64 x3), (5, .pointer (some ⟨b_2, 0, none⟩)), (11, .int .i64 (IntKind.i64.wrap (Int.tmod x0.c 64))), (17, .int .i64 x0.kind), (28, .bool (x0.kind == 3))]) (by kernel_rfl)
      refine Vk.done (by kernel_rfl) ?_
      refine hK11 _ _ ?_
      clear hK11
      refine Vk.condS (b := x0.kind == 3) hs (by kernel_rfl) (by kernel_rfl) (fun hb => ?_) (fun hb => ?_)
      · replace hm := bif_t hm hb
        refine wp_skip ?_
        exact hj10 (x0.kind == 3) hm _ _ (hs.go [1, 2, 3, 5, 11, 17, 28] [0] 1 (by kernel_rfl) (by kernel_rfl) (by kernel_rfl))
      · replace hm := bif_f hm hb
        refine Vk.region ?_
        refine Vk.pures 2 [(28, .bool (x0.kind == 4)), (30, .bool (x0.kind == 4))] hs (by kernel_rfl) fun a hs => ?_
        replace hs := hs.pick [1, 2, 3, 5, 11, 17, 28] (L' := [(1, .int .u64 x1), (2, .int .u64 x2), (3, .int .u64 x3), (5, .pointer (some ⟨b_2, 0, none⟩)), (11, .int .i64 (IntKind.i64.wrap (Int.tmod x0.c 64))), (17, .int .i64 x0.kind), (28, .bool (x0.kind == 4))]) (by kernel_rfl)
        refine Vk.done (by kernel_rfl) ?_
        exact hj10 (x0.kind == 4) hm _ _ (hs.go [1, 2, 3, 5, 11, 17, 28] [0] 1 (by kernel_rfl) (by kernel_rfl) (by kernel_rfl))


def op_Regs.j2 (k : Nat) (x0 : Int) (x1 : Int) (p_19 : Bool) : Option (Int) := (bif p_19 then some 1 else (bif x0 == 12 then some x1 else some 0))
def op_Regs.j1 (k : Nat) (x0 : Int) (x1 : Int) (p_12 : Bool) : Option (Int) := (bif p_12 then some 2 else (bif x0 == 6 then op_Regs.j2 k x0 x1 (x0 == 6) else (bif x0 == 8 then op_Regs.j2 k x0 x1 (x0 == 8) else (bif x0 == 9 then op_Regs.j2 k x0 x1 (x0 == 9) else (bif x0 == 10 then op_Regs.j2 k x0 x1 (x0 == 10) else op_Regs.j2 k x0 x1 (x0 == 11))))))
abbrev op_Regs.R (κ : Ctx) (S : List HP) (x0 : Int) (x1 : Int) (r : Int) : Ending → World → Prop := fun e w' => e = .returned (.int .i64 r) ∧ Own κ w' (S)
def op_Regs.m (k : Nat) (x0 : Int) (x1 : Int) : Option Int := (bif (x1 != 2) && (x1 != 3) then some 0 else (bif x0 == 2 then some (IntKind.i64.wrap (x1 - 1)) else (bif x0 == 5 then op_Regs.j1 k x0 x1 (x0 == 5) else op_Regs.j1 k x0 x1 (x0 == 7))))

set_option maxRecDepth 100000 in
set_option maxHeartbeats 4000000 in
theorem op_Regs.ok (k : Nat) (x0 : Int) (x1 : Int) (r : Int) (hm : op_Regs.m k x0 x1 = some r) (κ : Ctx) (w : World) (S : List HP) (ho : Own κ w (S)) :
    Calls Try.prog 125 #[.int .i64 x0, .int .i64 x1] w (op_Regs.R κ S x0 x1 r) := by
  unfold op_Regs.m at hm
  refine Vk.enter [(0, .int .i64 x0), (1, .int .i64 x1)] Try.func125 rfl Try.ntmps125 (by kernel_rfl) (Nat.le_of_ble_eq_true (by kernel_rfl)) ho fun a hs => ?_
  refine Vk.seq fun K1 hK1 => ?_
  refine Vk.region ?_
  refine Vk.pures 1 [(4, .int .i64 0)] hs (by kernel_rfl) fun a hs => ?_
  replace hs := hs.pick [0, 1] (L' := [(0, .int .i64 x0), (1, .int .i64 x1)]) (by kernel_rfl)
  refine Vk.done (by kernel_rfl) ?_
  refine hK1 _ _ ?_
  clear hK1
  refine Vk.seq fun K2 hK2 => ?_
  refine Vk.seq fun K3 hK3 => ?_
  refine Vk.region ?_
  refine Vk.pures 3 [(7, .bool (x1 != 2)), (6, .bool (x1 != 2)), (5, .int .i64 x1)] hs (by kernel_rfl) fun a hs => ?_
  suffices hj_4 : ∀ a, St 28 a w κ [(0, .int .i64 x0), (1, .int .i64 x1), (5, .int .i64 x1), (6, .bool (x1 != 2)), (7, .bool (x1 != 2)), (10, .bool ((x1 != 2) && (x1 != 3)))] (S) → wpFrom Try.prog _ _ 6 a w by
    rcases Bool.eq_false_or_eq_true (x1 != 2) with hb | hb
    · replace hs := hs.known (t := 7) hb (by kernel_rfl)
      refine Vk.pures 3 [(10, .bool (x1 != 3)), (9, .bool (x1 != 3)), (8, .int .i64 x1)] hs (by kernel_rfl) fun a hs => ?_
      have hq := hs.pick [0, 1, 5, 6, 7, 10] (L' := [(0, .int .i64 x0), (1, .int .i64 x1), (5, .int .i64 x1), (6, .bool (x1 != 2)), (7, .bool true), (10, .bool (x1 != 3))]) (by kernel_rfl)
      exact hj_4 _ (hq.conv (by first | (rw [hb] <;> rfl) | rfl))
    · replace hs := hs.known (t := 7) hb (by kernel_rfl)
      refine Vk.pures 3 [(10, .bool false), (9, undef), (8, undef)] hs (by kernel_rfl) fun a hs => ?_
      have hq := hs.pick [0, 1, 5, 6, 7, 10] (L' := [(0, .int .i64 x0), (1, .int .i64 x1), (5, .int .i64 x1), (6, .bool (x1 != 2)), (7, .bool false), (10, .bool false)]) (by kernel_rfl)
      exact hj_4 _ (hq.conv (by first | (rw [hb] <;> rfl) | rfl))
  intro a hs
  replace hs := hs.pick [0, 1, 10] (L' := [(0, .int .i64 x0), (1, .int .i64 x1), (10, .bool ((x1 != 2) && (x1 != 3)))]) (by kernel_rfl)
  refine Vk.done (by kernel_rfl) ?_
  refine hK3 _ _ ?_
  clear hK3
  refine Vk.condS (b := (x1 != 2) && (x1 != 3)) hs (by kernel_rfl) (by kernel_rfl) (fun hb => ?_) (fun hb => ?_)
  · replace hm := bif_t hm hb
    refine Vk.seq fun K5 hK5 => ?_
    refine Vk.region ?_
    refine Vk.pures 1 [(4, .int .i64 0)] hs (by kernel_rfl) fun a hs => ?_
    replace hs := hs.pick [4] (L' := [(4, .int .i64 0)]) (by kernel_rfl)
    refine Vk.done (by kernel_rfl) ?_
    refine hK5 _ _ ?_
    clear hK5
    refine wp_ret ?_
    exact Vk.ret1 (P := Try.prog) (fn := Try.f125) (R := op_Regs.R κ S x0 x1 r) (.int .i64 0) hs rfl (by kernel_rfl) (by obtain rfl := Option.some.inj hm; exact ⟨rfl, (Own.to hs.own [] 0 (by kernel_rfl) (by kernel_rfl))⟩)
  · replace hm := bif_f hm hb
    refine wp_skip ?_
    refine hK2 _ _ ?_
    clear hK2
    refine Vk.seq fun K6 hK6 => ?_
    refine Vk.seq fun K7 hK7 => ?_
    refine Vk.region ?_
    refine Vk.pures 1 [(11, .int .i64 x0)] hs (by kernel_rfl) fun a hs => ?_
    replace hs := hs.pick [1, 11] (L' := [(1, .int .i64 x1), (11, .int .i64 x0)]) (by kernel_rfl)
    refine Vk.done (by kernel_rfl) ?_
    refine hK7 _ _ ?_
    clear hK7
    refine wp_block ?_
    refine Vk.seq fun K8 hK8 => ?_
    refine Vk.region ?_
    refine Vk.pures 2 [(12, .bool (x0 == 2)), (13, .bool (x0 == 2))] hs (by kernel_rfl) fun a hs => ?_
    replace hs := hs.pick [1, 11, 12] (L' := [(1, .int .i64 x1), (11, .int .i64 x0), (12, .bool (x0 == 2))]) (by kernel_rfl)
    refine Vk.done (by kernel_rfl) ?_
    refine hK8 _ _ ?_
    clear hK8
    refine Vk.condS (b := x0 == 2) hs (by kernel_rfl) (by kernel_rfl) (fun hb => ?_) (fun hb => ?_)
    · replace hm := bif_t hm hb
      refine Vk.seq fun K9 hK9 => ?_
      refine Vk.region ?_
      refine Vk.pures 3 [(4, .int .i64 (IntKind.i64.wrap (x1 - 1))), (15, .int .i64 (IntKind.i64.wrap (x1 - 1))), (14, .int .i64 x1)] hs (by kernel_rfl) fun a hs => ?_
      replace hs := hs.pick [4] (L' := [(4, .int .i64 (IntKind.i64.wrap (x1 - 1)))]) (by kernel_rfl)
      refine Vk.done (by kernel_rfl) ?_
      refine hK9 _ _ ?_
      clear hK9
      refine wp_ret ?_
      exact Vk.ret1 (P := Try.prog) (fn := Try.f125) (R := op_Regs.R κ S x0 x1 r) (.int .i64 (IntKind.i64.wrap (x1 - 1))) hs rfl (by kernel_rfl) (by obtain rfl := Option.some.inj hm; exact ⟨rfl, (Own.to hs.own [] 0 (by kernel_rfl) (by kernel_rfl))⟩)
    · replace hm := bif_f hm hb
      refine Vk.seq fun K10 hK10 => ?_
      have hj10 : ∀ (p_12 : Bool), op_Regs.j1 k x0 x1 p_12 = some r → ∀ (a : Act) (w : World), St 28 a w κ [(1, .int .i64 x1), (11, .int .i64 x0), (16, .bool p_12)] (S) → K10 a w := by
        intro p_12 hm a w hs
        unfold op_Regs.j1 at hm
        refine hK10 _ _ ?_
        refine Vk.condS (b := p_12) hs (by kernel_rfl) (by kernel_rfl) (fun hb => ?_) (fun hb => ?_)
        · replace hm := bif_t hm hb
          refine Vk.seq fun K13 hK13 => ?_
          refine Vk.region ?_
          refine Vk.pures 1 [(4, .int .i64 2)] hs (by kernel_rfl) fun a hs => ?_
          replace hs := hs.pick [4] (L' := [(4, .int .i64 2)]) (by kernel_rfl)
          refine Vk.done (by kernel_rfl) ?_
          refine hK13 _ _ ?_
          clear hK13
          refine wp_ret ?_
          exact Vk.ret1 (P := Try.prog) (fn := Try.f125) (R := op_Regs.R κ S x0 x1 r) (.int .i64 2) hs rfl (by kernel_rfl) (by obtain rfl := Option.some.inj hm; exact ⟨rfl, (Own.to hs.own [] 0 (by kernel_rfl) (by kernel_rfl))⟩)
        · replace hm := bif_f hm hb
          refine Vk.seq fun K14 hK14 => ?_
          have hj14 : ∀ (p_19 : Bool), op_Regs.j2 k x0 x1 p_19 = some r → ∀ (a : Act) (w : World), St 28 a w κ [(1, .int .i64 x1), (11, .int .i64 x0), (19, .bool p_19)] (S) → K14 a w := by
            intro p_19 hm a w hs
            unfold op_Regs.j2 at hm
            refine hK14 _ _ ?_
            refine Vk.condS (b := p_19) hs (by kernel_rfl) (by kernel_rfl) (fun hb => ?_) (fun hb => ?_)
            · replace hm := bif_t hm hb
              refine Vk.seq fun K20 hK20 => ?_
              refine Vk.region ?_
              refine Vk.pures 1 [(4, .int .i64 1)] hs (by kernel_rfl) fun a hs => ?_
              replace hs := hs.pick [4] (L' := [(4, .int .i64 1)]) (by kernel_rfl)
              refine Vk.done (by kernel_rfl) ?_
              refine hK20 _ _ ?_
              clear hK20
              refine wp_ret ?_
              exact Vk.ret1 (P := Try.prog) (fn := Try.f125) (R := op_Regs.R κ S x0 x1 r) (.int .i64 1) hs rfl (by kernel_rfl) (by obtain rfl := Option.some.inj hm; exact ⟨rfl, (Own.to hs.own [] 0 (by kernel_rfl) (by kernel_rfl))⟩)
            · replace hm := bif_f hm hb
              refine Vk.seq fun K21 hK21 => ?_
              refine Vk.region ?_
              refine Vk.pures 2 [(25, .bool (x0 == 12)), (26, .bool (x0 == 12))] hs (by kernel_rfl) fun a hs => ?_
              replace hs := hs.pick [1, 25] (L' := [(1, .int .i64 x1), (25, .bool (x0 == 12))]) (by kernel_rfl)
              refine Vk.done (by kernel_rfl) ?_
              refine hK21 _ _ ?_
              clear hK21
              refine Vk.condS (b := x0 == 12) hs (by kernel_rfl) (by kernel_rfl) (fun hb => ?_) (fun hb => ?_)
              · replace hm := bif_t hm hb
                refine Vk.seq fun K22 hK22 => ?_
                refine Vk.region ?_
                refine Vk.pures 2 [(4, .int .i64 x1), (27, .int .i64 x1)] hs (by kernel_rfl) fun a hs => ?_
                replace hs := hs.pick [4] (L' := [(4, .int .i64 x1)]) (by kernel_rfl)
                refine Vk.done (by kernel_rfl) ?_
                refine hK22 _ _ ?_
                clear hK22
                refine wp_ret ?_
                exact Vk.ret1 (P := Try.prog) (fn := Try.f125) (R := op_Regs.R κ S x0 x1 r) (.int .i64 x1) hs rfl (by kernel_rfl) (by obtain rfl := Option.some.inj hm; exact ⟨rfl, (Own.to hs.own [] 0 (by kernel_rfl) (by kernel_rfl))⟩)
              · replace hm := bif_f hm hb
                refine wp_skip ?_
                refine hK6 _ _ ?_
                clear hK6
                refine Vk.seq fun K23 hK23 => ?_
                refine Vk.region ?_
                refine Vk.pures 1 [(4, .int .i64 0)] hs (by kernel_rfl) fun a hs => ?_
                replace hs := hs.pick [4] (L' := [(4, .int .i64 0)]) (by kernel_rfl)
                refine Vk.done (by kernel_rfl) ?_
                refine hK23 _ _ ?_
                clear hK23
                refine wp_ret ?_
                exact Vk.ret1 (P := Try.prog) (fn := Try.f125) (R := op_Regs.R κ S x0 x1 r) (.int .i64 0) hs rfl (by kernel_rfl) (by obtain rfl := Option.some.inj hm; exact ⟨rfl, (Own.to hs.own [] 0 (by kernel_rfl) (by kernel_rfl))⟩)
          refine Vk.seq fun K15 hK15 => ?_
          refine Vk.region ?_
          refine Vk.pures 2 [(19, .bool (x0 == 6)), (20, .bool (x0 == 6))] hs (by kernel_rfl) fun a hs => ?_
          replace hs := hs.pick [1, 11, 19] (L' := [(1, .int .i64 x1), (11, .int .i64 x0), (19, .bool (x0 == 6))]) (by kernel_rfl)
          refine Vk.done (by kernel_rfl) ?_
          refine hK15 _ _ ?_
          clear hK15
          refine Vk.condS (b := x0 == 6) hs (by kernel_rfl) (by kernel_rfl) (fun hb => ?_) (fun hb => ?_)
          · replace hm := bif_t hm hb
            refine wp_skip ?_
            exact hj14 (x0 == 6) hm _ _ (hs.go [1, 11, 19] [] 0 (by kernel_rfl) (by kernel_rfl) (by kernel_rfl))
          · replace hm := bif_f hm hb
            refine Vk.seq fun K16 hK16 => ?_
            refine Vk.region ?_
            refine Vk.pures 2 [(19, .bool (x0 == 8)), (21, .bool (x0 == 8))] hs (by kernel_rfl) fun a hs => ?_
            replace hs := hs.pick [1, 11, 19] (L' := [(1, .int .i64 x1), (11, .int .i64 x0), (19, .bool (x0 == 8))]) (by kernel_rfl)
            refine Vk.done (by kernel_rfl) ?_
            refine hK16 _ _ ?_
            clear hK16
            refine Vk.condS (b := x0 == 8) hs (by kernel_rfl) (by kernel_rfl) (fun hb => ?_) (fun hb => ?_)
            · replace hm := bif_t hm hb
              refine wp_skip ?_
              exact hj14 (x0 == 8) hm _ _ (hs.go [1, 11, 19] [] 0 (by kernel_rfl) (by kernel_rfl) (by kernel_rfl))
            · replace hm := bif_f hm hb
              refine Vk.seq fun K17 hK17 => ?_
              refine Vk.region ?_
              refine Vk.pures 2 [(19, .bool (x0 == 9)), (22, .bool (x0 == 9))] hs (by kernel_rfl) fun a hs => ?_
              replace hs := hs.pick [1, 11, 19] (L' := [(1, .int .i64 x1), (11, .int .i64 x0), (19, .bool (x0 == 9))]) (by kernel_rfl)
              refine Vk.done (by kernel_rfl) ?_
              refine hK17 _ _ ?_
              clear hK17
              refine Vk.condS (b := x0 == 9) hs (by kernel_rfl) (by kernel_rfl) (fun hb => ?_) (fun hb => ?_)
              · replace hm := bif_t hm hb
                refine wp_skip ?_
                exact hj14 (x0 == 9) hm _ _ (hs.go [1, 11, 19] [] 0 (by kernel_rfl) (by kernel_rfl) (by kernel_rfl))
              · replace hm := bif_f hm hb
                refine Vk.seq fun K18 hK18 => ?_
                refine Vk.region ?_
                refine Vk.pures 2 [(19, .bool (x0 == 10)), (23, .bool (x0 == 10))] hs (by kernel_rfl) fun a hs => ?_
                replace hs := hs.pick [1, 11, 19] (L' := [(1, .int .i64 x1), (11, .int .i64 x0), (19, .bool (x0 == 10))]) (by kernel_rfl)
                refine Vk.done (by kernel_rfl) ?_
                refine hK18 _ _ ?_
                clear hK18
                refine Vk.condS (b := x0 == 10) hs (by kernel_rfl) (by kernel_rfl) (fun hb => ?_) (fun hb => ?_)
                · replace hm := bif_t hm hb
                  refine wp_skip ?_
                  exact hj14 (x0 == 10) hm _ _ (hs.go [1, 11, 19] [] 0 (by kernel_rfl) (by kernel_rfl) (by kernel_rfl))
                · replace hm := bif_f hm hb
                  refine Vk.region ?_
                  refine Vk.pures 2 [(19, .bool (x0 == 11)), (24, .bool (x0 == 11))] hs (by kernel_rfl) fun a hs => ?_
                  replace hs := hs.pick [1, 11, 19] (L' := [(1, .int .i64 x1), (11, .int .i64 x0), (19, .bool (x0 == 11))]) (by kernel_rfl)
                  refine Vk.done (by kernel_rfl) ?_
                  exact hj14 (x0 == 11) hm _ _ (hs.go [1, 11, 19] [] 0 (by kernel_rfl) (by kernel_rfl) (by kernel_rfl))
      refine Vk.seq fun K11 hK11 => ?_
      refine Vk.region ?_
      refine Vk.pures 2 [(16, .bool (x0 == 5)), (17, .bool (x0 == 5))] hs (by kernel_rfl) fun a hs => ?_
      replace hs := hs.pick [1, 11, 16] (L' := [(1, .int .i64 x1), (11, .int .i64 x0), (16, .bool (x0 == 5))]) (by kernel_rfl)
      refine Vk.done (by kernel_rfl) ?_
      refine hK11 _ _ ?_
      clear hK11
      refine Vk.condS (b := x0 == 5) hs (by kernel_rfl) (by kernel_rfl) (fun hb => ?_) (fun hb => ?_)
      · replace hm := bif_t hm hb
        refine wp_skip ?_
        exact hj10 (x0 == 5) hm _ _ (hs.go [1, 11, 16] [] 0 (by kernel_rfl) (by kernel_rfl) (by kernel_rfl))
      · replace hm := bif_f hm hb
        refine Vk.region ?_
        refine Vk.pures 2 [(16, .bool (x0 == 7)), (18, .bool (x0 == 7))] hs (by kernel_rfl) fun a hs => ?_
        replace hs := hs.pick [1, 11, 16] (L' := [(1, .int .i64 x1), (11, .int .i64 x0), (16, .bool (x0 == 7))]) (by kernel_rfl)
        refine Vk.done (by kernel_rfl) ?_
        exact hj10 (x0 == 7) hm _ _ (hs.go [1, 11, 16] [] 0 (by kernel_rfl) (by kernel_rfl) (by kernel_rfl))


def op_constant.j2 (k : Nat) (x0 : Tapi_Op) (p_15 : Bool) : Option (Bool) := (bif p_15 then some true else some (x0.c == 0))
def op_constant.j1 (k : Nat) (x0 : Tapi_Op) (p_8 : Bool) : Option (Bool) := (bif p_8 then some (decide (x0.c < 64)) else (bif x0.kind == 2 then some (decide (x0.c < 1048576)) else (bif x0.kind == 3 then op_constant.j2 k x0 (x0.kind == 3) else (bif x0.kind == 4 then op_constant.j2 k x0 (x0.kind == 4) else op_constant.j2 k x0 (x0.kind == 8)))))
abbrev op_constant.R (κ : Ctx) (S : List HP) (x0 : Tapi_Op) (r : Bool) : Ending → World → Prop := fun e w' => e = .returned (.bool r) ∧ Own κ w' (S)
def op_constant.m (k : Nat) (x0 : Tapi_Op) : Option Bool := (bif x0.kind == 9 then op_constant.j1 k x0 (x0.kind == 9) else (bif x0.kind == 10 then op_constant.j1 k x0 (x0.kind == 10) else op_constant.j1 k x0 (x0.kind == 11)))

set_option maxRecDepth 100000 in
set_option maxHeartbeats 4000000 in
theorem op_constant.ok (k : Nat) (x0 : Tapi_Op) (r : Bool) (hm : op_constant.m k x0 = some r) (κ : Ctx) (w : World) (S : List HP) (ho : Own κ w (S)) :
    Calls Try.prog 126 #[.agg (vals [C.int .i64 x0.kind, C.int .i64 x0.dom, C.int .i64 x0.a, C.int .i64 x0.b, C.int .i64 x0.d, C.int .u64 x0.c])] w (op_constant.R κ S x0 r) := by
  unfold op_constant.m at hm
  refine Vk.enter [(0, .agg (vals [C.int .i64 x0.kind, C.int .i64 x0.dom, C.int .i64 x0.a, C.int .i64 x0.b, C.int .i64 x0.d, C.int .u64 x0.c]))] Try.func126 rfl Try.ntmps126 (by kernel_rfl) (Nat.le_of_ble_eq_true (by kernel_rfl)) ho fun a hs => ?_
  refine Vk.seq fun K1 hK1 => ?_
  refine Vk.region ?_
  refine Vk.step (Vk.box (x := (.tmp 0)) 1 32 [C.int .i64 x0.kind, C.int .i64 x0.dom, C.int .i64 x0.a, C.int .i64 x0.b, C.int .i64 x0.d, C.int .u64 x0.c] hs (by kernel_rfl) (by kernel_rfl) (by kernel_rfl) fun b_2 w a hs => ?_)
  refine Vk.pures 1 [(2, .bool false)] hs (by kernel_rfl) fun a hs => ?_
  replace hs := hs.pick [1] (L' := [(1, .pointer (some ⟨b_2, 0, none⟩))]) (by kernel_rfl)
  refine Vk.done (by kernel_rfl) ?_
  refine hK1 _ _ ?_
  clear hK1
  refine Vk.seq fun K3 hK3 => ?_
  refine Vk.seq fun K4 hK4 => ?_
  refine Vk.region ?_
  refine Vk.pures 1 [(3, .pointer (some ⟨b_2, 0, none⟩))] hs (by kernel_rfl) fun a hs => ?_
  refine Vk.step (Vk.value (some 4) (.int .i64 x0.kind) hs (by kernel_rfl) (op := (.load 3 (.tmp 3))) (by kernel_rfl) (fun o ho => run_load1 (b := b_2) (off := 0) (c := C.int .i64 x0.kind) ho (by kernel_rfl) (by kernel_rfl) (Cell.own 0 rfl (by kernel_rfl)) _ hs.own) fun a hs => ?_)
  replace hs := hs.pick [1, 4] (L' := [(1, .pointer (some ⟨b_2, 0, none⟩)), (4, .int .i64 x0.kind)]) (by kernel_rfl)
  refine Vk.done (by kernel_rfl) ?_
  refine hK4 _ _ ?_
  clear hK4
  refine wp_block ?_
  refine Vk.seq fun K5 hK5 => ?_
  have hj5 : ∀ (p_8 : Bool), op_constant.j1 k x0 p_8 = some r → ∀ (a : Act) (w : World), St 24 a w κ [(1, .pointer (some ⟨b_2, 0, none⟩)), (4, .int .i64 x0.kind), (5, .bool p_8)] (pt b_2 (blk (Tapi_Op.cells x0) 32) :: S) → K5 a w := by
    intro p_8 hm a w hs
    unfold op_constant.j1 at hm
    refine hK5 _ _ ?_
    refine Vk.condS (b := p_8) hs (by kernel_rfl) (by kernel_rfl) (fun hb => ?_) (fun hb => ?_)
    · replace hm := bif_t hm hb
      refine Vk.seq fun K9 hK9 => ?_
      refine Vk.region ?_
      refine Vk.pures 1 [(9, .pointer (some ⟨b_2, 5, none⟩))] hs (by kernel_rfl) fun a hs => ?_
      refine Vk.step (Vk.value (some 10) (.int .u64 x0.c) hs (by kernel_rfl) (op := (.load 23 (.tmp 9))) (by kernel_rfl) (fun o ho => run_load1 (b := b_2) (off := 5) (c := C.int .u64 x0.c) ho (by kernel_rfl) (by kernel_rfl) (Cell.own 0 rfl (by kernel_rfl)) _ hs.own) fun a hs => ?_)
      refine Vk.pures 2 [(2, .bool (decide (x0.c < 64))), (11, .bool (decide (x0.c < 64)))] hs (by kernel_rfl) fun a hs => ?_
      replace hs := hs.pick [2] (L' := [(2, .bool (decide (x0.c < 64)))]) (by kernel_rfl)
      refine Vk.done (by kernel_rfl) ?_
      refine hK9 _ _ ?_
      clear hK9
      refine wp_ret ?_
      exact Vk.ret1 (P := Try.prog) (fn := Try.f126) (R := op_constant.R κ S x0 r) (.bool (decide (x0.c < 64))) hs rfl (by kernel_rfl) (by obtain rfl := Option.some.inj hm; exact ⟨rfl, (Own.to hs.own [] 1 (by kernel_rfl) (by kernel_rfl))⟩)
    · replace hm := bif_f hm hb
      refine Vk.seq fun K10 hK10 => ?_
      refine Vk.region ?_
      refine Vk.pures 2 [(12, .bool (x0.kind == 2)), (13, .bool (x0.kind == 2))] hs (by kernel_rfl) fun a hs => ?_
      replace hs := hs.pick [1, 4, 12] (L' := [(1, .pointer (some ⟨b_2, 0, none⟩)), (4, .int .i64 x0.kind), (12, .bool (x0.kind == 2))]) (by kernel_rfl)
      refine Vk.done (by kernel_rfl) ?_
      refine hK10 _ _ ?_
      clear hK10
      refine Vk.condS (b := x0.kind == 2) hs (by kernel_rfl) (by kernel_rfl) (fun hb => ?_) (fun hb => ?_)
      · replace hm := bif_t hm hb
        refine Vk.seq fun K11 hK11 => ?_
        refine Vk.region ?_
        refine Vk.pures 1 [(14, .pointer (some ⟨b_2, 5, none⟩))] hs (by kernel_rfl) fun a hs => ?_
        refine Vk.step (Vk.value (some 15) (.int .u64 x0.c) hs (by kernel_rfl) (op := (.load 23 (.tmp 14))) (by kernel_rfl) (fun o ho => run_load1 (b := b_2) (off := 5) (c := C.int .u64 x0.c) ho (by kernel_rfl) (by kernel_rfl) (Cell.own 0 rfl (by kernel_rfl)) _ hs.own) fun a hs => ?_)
        refine Vk.pures 2 [(2, .bool (decide (x0.c < 1048576))), (16, .bool (decide (x0.c < 1048576)))] hs (by kernel_rfl) fun a hs => ?_
        replace hs := hs.pick [2] (L' := [(2, .bool (decide (x0.c < 1048576)))]) (by kernel_rfl)
        refine Vk.done (by kernel_rfl) ?_
        refine hK11 _ _ ?_
        clear hK11
        refine wp_ret ?_
        exact Vk.ret1 (P := Try.prog) (fn := Try.f126) (R := op_constant.R κ S x0 r) (.bool (decide (x0.c < 1048576))) hs rfl (by kernel_rfl) (by obtain rfl := Option.some.inj hm; exact ⟨rfl, (Own.to hs.own [] 1 (by kernel_rfl) (by kernel_rfl))⟩)
      · replace hm := bif_f hm hb
        refine Vk.seq fun K12 hK12 => ?_
        have hj12 : ∀ (p_15 : Bool), op_constant.j2 k x0 p_15 = some r → ∀ (a : Act) (w : World), St 24 a w κ [(1, .pointer (some ⟨b_2, 0, none⟩)), (17, .bool p_15)] (pt b_2 (blk (Tapi_Op.cells x0) 32) :: S) → K12 a w := by
          intro p_15 hm a w hs
          unfold op_constant.j2 at hm
          refine hK12 _ _ ?_
          refine Vk.condS (b := p_15) hs (by kernel_rfl) (by kernel_rfl) (fun hb => ?_) (fun hb => ?_)
          · replace hm := bif_t hm hb
            refine Vk.seq fun K16 hK16 => ?_
            refine Vk.region ?_
            refine Vk.pures 1 [(2, .bool true)] hs (by kernel_rfl) fun a hs => ?_
            replace hs := hs.pick [2] (L' := [(2, .bool true)]) (by kernel_rfl)
            refine Vk.done (by kernel_rfl) ?_
            refine hK16 _ _ ?_
            clear hK16
            refine wp_ret ?_
            exact Vk.ret1 (P := Try.prog) (fn := Try.f126) (R := op_constant.R κ S x0 r) (.bool true) hs rfl (by kernel_rfl) (by obtain rfl := Option.some.inj hm; exact ⟨rfl, (Own.to hs.own [] 1 (by kernel_rfl) (by kernel_rfl))⟩)
          · replace hm := bif_f hm hb
            refine wp_skip ?_
            refine hK3 _ _ ?_
            clear hK3
            refine Vk.seq fun K17 hK17 => ?_
            refine Vk.region ?_
            refine Vk.pures 1 [(21, .pointer (some ⟨b_2, 5, none⟩))] hs (by kernel_rfl) fun a hs => ?_
            refine Vk.step (Vk.value (some 22) (.int .u64 x0.c) hs (by kernel_rfl) (op := (.load 23 (.tmp 21))) (by kernel_rfl) (fun o ho => run_load1 (b := b_2) (off := 5) (c := C.int .u64 x0.c) ho (by kernel_rfl) (by kernel_rfl) (Cell.own 0 rfl (by kernel_rfl)) _ hs.own) fun a hs => ?_)
            refine Vk.pures 2 [(2, .bool (x0.c == 0)), (23, .bool (x0.c == 0))] hs (by kernel_rfl) fun a hs => ?_
            replace hs := hs.pick [2] (L' := [(2, .bool (x0.c == 0))]) (by kernel_rfl)
            refine Vk.done (by kernel_rfl) ?_
            refine hK17 _ _ ?_
            clear hK17
            refine wp_ret ?_
            exact Vk.ret1 (P := Try.prog) (fn := Try.f126) (R := op_constant.R κ S x0 r) (.bool (x0.c == 0)) hs rfl (by kernel_rfl) (by obtain rfl := Option.some.inj hm; exact ⟨rfl, (Own.to hs.own [] 1 (by kernel_rfl) (by kernel_rfl))⟩)
        refine Vk.seq fun K13 hK13 => ?_
        refine Vk.region ?_
        refine Vk.pures 2 [(17, .bool (x0.kind == 3)), (18, .bool (x0.kind == 3))] hs (by kernel_rfl) fun a hs => ?_
        replace hs := hs.pick [1, 4, 17] (L' := [(1, .pointer (some ⟨b_2, 0, none⟩)), (4, .int .i64 x0.kind), (17, .bool (x0.kind == 3))]) (by kernel_rfl)
        refine Vk.done (by kernel_rfl) ?_
        refine hK13 _ _ ?_
        clear hK13
        refine Vk.condS (b := x0.kind == 3) hs (by kernel_rfl) (by kernel_rfl) (fun hb => ?_) (fun hb => ?_)
        · replace hm := bif_t hm hb
          refine wp_skip ?_
          exact hj12 (x0.kind == 3) hm _ _ (hs.go [1, 17] [0] 1 (by kernel_rfl) (by kernel_rfl) (by kernel_rfl))
        · replace hm := bif_f hm hb
          refine Vk.seq fun K14 hK14 => ?_
          refine Vk.region ?_
          refine Vk.pures 2 [(17, .bool (x0.kind == 4)), (19, .bool (x0.kind == 4))] hs (by kernel_rfl) fun a hs => ?_
          replace hs := hs.pick [1, 4, 17] (L' := [(1, .pointer (some ⟨b_2, 0, none⟩)), (4, .int .i64 x0.kind), (17, .bool (x0.kind == 4))]) (by kernel_rfl)
          refine Vk.done (by kernel_rfl) ?_
          refine hK14 _ _ ?_
          clear hK14
          refine Vk.condS (b := x0.kind == 4) hs (by kernel_rfl) (by kernel_rfl) (fun hb => ?_) (fun hb => ?_)
          · replace hm := bif_t hm hb
            refine wp_skip ?_
            exact hj12 (x0.kind == 4) hm _ _ (hs.go [1, 17] [0] 1 (by kernel_rfl) (by kernel_rfl) (by kernel_rfl))
          · replace hm := bif_f hm hb
            refine Vk.region ?_
            refine Vk.pures 2 [(17, .bool (x0.kind == 8)), (20, .bool (x0.kind == 8))] hs (by kernel_rfl) fun a hs => ?_
            replace hs := hs.pick [1, 17] (L' := [(1, .pointer (some ⟨b_2, 0, none⟩)), (17, .bool (x0.kind == 8))]) (by kernel_rfl)
            refine Vk.done (by kernel_rfl) ?_
            exact hj12 (x0.kind == 8) hm _ _ (hs.go [1, 17] [0] 1 (by kernel_rfl) (by kernel_rfl) (by kernel_rfl))
  refine Vk.seq fun K6 hK6 => ?_
  refine Vk.region ?_
  refine Vk.pures 2 [(5, .bool (x0.kind == 9)), (6, .bool (x0.kind == 9))] hs (by kernel_rfl) fun a hs => ?_
  replace hs := hs.pick [1, 4, 5] (L' := [(1, .pointer (some ⟨b_2, 0, none⟩)), (4, .int .i64 x0.kind), (5, .bool (x0.kind == 9))]) (by kernel_rfl)
  refine Vk.done (by kernel_rfl) ?_
  refine hK6 _ _ ?_
  clear hK6
  refine Vk.condS (b := x0.kind == 9) hs (by kernel_rfl) (by kernel_rfl) (fun hb => ?_) (fun hb => ?_)
  · replace hm := bif_t hm hb
    refine wp_skip ?_
    exact hj5 (x0.kind == 9) hm _ _ (hs.go [1, 4, 5] [0] 1 (by kernel_rfl) (by kernel_rfl) (by kernel_rfl))
  · replace hm := bif_f hm hb
    refine Vk.seq fun K7 hK7 => ?_
    refine Vk.region ?_
    refine Vk.pures 2 [(5, .bool (x0.kind == 10)), (7, .bool (x0.kind == 10))] hs (by kernel_rfl) fun a hs => ?_
    replace hs := hs.pick [1, 4, 5] (L' := [(1, .pointer (some ⟨b_2, 0, none⟩)), (4, .int .i64 x0.kind), (5, .bool (x0.kind == 10))]) (by kernel_rfl)
    refine Vk.done (by kernel_rfl) ?_
    refine hK7 _ _ ?_
    clear hK7
    refine Vk.condS (b := x0.kind == 10) hs (by kernel_rfl) (by kernel_rfl) (fun hb => ?_) (fun hb => ?_)
    · replace hm := bif_t hm hb
      refine wp_skip ?_
      exact hj5 (x0.kind == 10) hm _ _ (hs.go [1, 4, 5] [0] 1 (by kernel_rfl) (by kernel_rfl) (by kernel_rfl))
    · replace hm := bif_f hm hb
      refine Vk.region ?_
      refine Vk.pures 2 [(5, .bool (x0.kind == 11)), (8, .bool (x0.kind == 11))] hs (by kernel_rfl) fun a hs => ?_
      replace hs := hs.pick [1, 4, 5] (L' := [(1, .pointer (some ⟨b_2, 0, none⟩)), (4, .int .i64 x0.kind), (5, .bool (x0.kind == 11))]) (by kernel_rfl)
      refine Vk.done (by kernel_rfl) ?_
      exact hj5 (x0.kind == 11) hm _ _ (hs.go [1, 4, 5] [0] 1 (by kernel_rfl) (by kernel_rfl) (by kernel_rfl))


def visorref17_Regs.j2 (k : Nat) (x0 : Int) (x1 : Int) (p_19 : Bool) : Option (Int) := (bif p_19 then some 1 else (bif x0 == 12 then some x1 else some 0))
def visorref17_Regs.j1 (k : Nat) (x0 : Int) (x1 : Int) (p_12 : Bool) : Option (Int) := (bif p_12 then some 2 else (bif x0 == 6 then visorref17_Regs.j2 k x0 x1 (x0 == 6) else (bif x0 == 8 then visorref17_Regs.j2 k x0 x1 (x0 == 8) else (bif x0 == 9 then visorref17_Regs.j2 k x0 x1 (x0 == 9) else (bif x0 == 10 then visorref17_Regs.j2 k x0 x1 (x0 == 10) else visorref17_Regs.j2 k x0 x1 (x0 == 11))))))
abbrev visorref17_Regs.R (κ : Ctx) (S : List HP) (x0 : Int) (x1 : Int) (r : Int) : Ending → World → Prop := fun e w' => e = .returned (.int .i64 r) ∧ Own κ w' (S)
def visorref17_Regs.m (k : Nat) (x0 : Int) (x1 : Int) : Option Int := (bif (x1 != 2) && (x1 != 3) then some 0 else (bif x0 == 2 then some (IntKind.i64.wrap (x1 - 1)) else (bif x0 == 5 then visorref17_Regs.j1 k x0 x1 (x0 == 5) else visorref17_Regs.j1 k x0 x1 (x0 == 7))))

set_option maxRecDepth 100000 in
set_option maxHeartbeats 4000000 in
theorem visorref17_Regs.ok (k : Nat) (x0 : Int) (x1 : Int) (r : Int) (hm : visorref17_Regs.m k x0 x1 = some r) (κ : Ctx) (w : World) (S : List HP) (ho : Own κ w (S)) :
    Calls Try.prog 118 #[.int .i64 x0, .int .i64 x1] w (visorref17_Regs.R κ S x0 x1 r) := by
  unfold visorref17_Regs.m at hm
  refine Vk.enter [(0, .int .i64 x0), (1, .int .i64 x1)] Try.func118 rfl Try.ntmps118 (by kernel_rfl) (Nat.le_of_ble_eq_true (by kernel_rfl)) ho fun a hs => ?_
  refine Vk.seq fun K1 hK1 => ?_
  refine Vk.region ?_
  refine Vk.pures 1 [(4, .int .i64 0)] hs (by kernel_rfl) fun a hs => ?_
  replace hs := hs.pick [0, 1] (L' := [(0, .int .i64 x0), (1, .int .i64 x1)]) (by kernel_rfl)
  refine Vk.done (by kernel_rfl) ?_
  refine hK1 _ _ ?_
  clear hK1
  refine Vk.seq fun K2 hK2 => ?_
  refine Vk.seq fun K3 hK3 => ?_
  refine Vk.region ?_
  refine Vk.pures 3 [(7, .bool (x1 != 2)), (6, .bool (x1 != 2)), (5, .int .i64 x1)] hs (by kernel_rfl) fun a hs => ?_
  suffices hj_4 : ∀ a, St 28 a w κ [(0, .int .i64 x0), (1, .int .i64 x1), (5, .int .i64 x1), (6, .bool (x1 != 2)), (7, .bool (x1 != 2)), (10, .bool ((x1 != 2) && (x1 != 3)))] (S) → wpFrom Try.prog _ _ 6 a w by
    rcases Bool.eq_false_or_eq_true (x1 != 2) with hb | hb
    · replace hs := hs.known (t := 7) hb (by kernel_rfl)
      refine Vk.pures 3 [(10, .bool (x1 != 3)), (9, .bool (x1 != 3)), (8, .int .i64 x1)] hs (by kernel_rfl) fun a hs => ?_
      have hq := hs.pick [0, 1, 5, 6, 7, 10] (L' := [(0, .int .i64 x0), (1, .int .i64 x1), (5, .int .i64 x1), (6, .bool (x1 != 2)), (7, .bool true), (10, .bool (x1 != 3))]) (by kernel_rfl)
      exact hj_4 _ (hq.conv (by first | (rw [hb] <;> rfl) | rfl))
    · replace hs := hs.known (t := 7) hb (by kernel_rfl)
      refine Vk.pures 3 [(10, .bool false), (9, undef), (8, undef)] hs (by kernel_rfl) fun a hs => ?_
      have hq := hs.pick [0, 1, 5, 6, 7, 10] (L' := [(0, .int .i64 x0), (1, .int .i64 x1), (5, .int .i64 x1), (6, .bool (x1 != 2)), (7, .bool false), (10, .bool false)]) (by kernel_rfl)
      exact hj_4 _ (hq.conv (by first | (rw [hb] <;> rfl) | rfl))
  intro a hs
  replace hs := hs.pick [0, 1, 10] (L' := [(0, .int .i64 x0), (1, .int .i64 x1), (10, .bool ((x1 != 2) && (x1 != 3)))]) (by kernel_rfl)
  refine Vk.done (by kernel_rfl) ?_
  refine hK3 _ _ ?_
  clear hK3
  refine Vk.condS (b := (x1 != 2) && (x1 != 3)) hs (by kernel_rfl) (by kernel_rfl) (fun hb => ?_) (fun hb => ?_)
  · replace hm := bif_t hm hb
    refine Vk.seq fun K5 hK5 => ?_
    refine Vk.region ?_
    refine Vk.pures 1 [(4, .int .i64 0)] hs (by kernel_rfl) fun a hs => ?_
    replace hs := hs.pick [4] (L' := [(4, .int .i64 0)]) (by kernel_rfl)
    refine Vk.done (by kernel_rfl) ?_
    refine hK5 _ _ ?_
    clear hK5
    refine wp_ret ?_
    exact Vk.ret1 (P := Try.prog) (fn := Try.f118) (R := visorref17_Regs.R κ S x0 x1 r) (.int .i64 0) hs rfl (by kernel_rfl) (by obtain rfl := Option.some.inj hm; exact ⟨rfl, (Own.to hs.own [] 0 (by kernel_rfl) (by kernel_rfl))⟩)
  · replace hm := bif_f hm hb
    refine wp_skip ?_
    refine hK2 _ _ ?_
    clear hK2
    refine Vk.seq fun K6 hK6 => ?_
    refine Vk.seq fun K7 hK7 => ?_
    refine Vk.region ?_
    refine Vk.pures 1 [(11, .int .i64 x0)] hs (by kernel_rfl) fun a hs => ?_
    replace hs := hs.pick [1, 11] (L' := [(1, .int .i64 x1), (11, .int .i64 x0)]) (by kernel_rfl)
    refine Vk.done (by kernel_rfl) ?_
    refine hK7 _ _ ?_
    clear hK7
    refine wp_block ?_
    refine Vk.seq fun K8 hK8 => ?_
    refine Vk.region ?_
    refine Vk.pures 2 [(12, .bool (x0 == 2)), (13, .bool (x0 == 2))] hs (by kernel_rfl) fun a hs => ?_
    replace hs := hs.pick [1, 11, 12] (L' := [(1, .int .i64 x1), (11, .int .i64 x0), (12, .bool (x0 == 2))]) (by kernel_rfl)
    refine Vk.done (by kernel_rfl) ?_
    refine hK8 _ _ ?_
    clear hK8
    refine Vk.condS (b := x0 == 2) hs (by kernel_rfl) (by kernel_rfl) (fun hb => ?_) (fun hb => ?_)
    · replace hm := bif_t hm hb
      refine Vk.seq fun K9 hK9 => ?_
      refine Vk.region ?_
      refine Vk.pures 3 [(4, .int .i64 (IntKind.i64.wrap (x1 - 1))), (15, .int .i64 (IntKind.i64.wrap (x1 - 1))), (14, .int .i64 x1)] hs (by kernel_rfl) fun a hs => ?_
      replace hs := hs.pick [4] (L' := [(4, .int .i64 (IntKind.i64.wrap (x1 - 1)))]) (by kernel_rfl)
      refine Vk.done (by kernel_rfl) ?_
      refine hK9 _ _ ?_
      clear hK9
      refine wp_ret ?_
      exact Vk.ret1 (P := Try.prog) (fn := Try.f118) (R := visorref17_Regs.R κ S x0 x1 r) (.int .i64 (IntKind.i64.wrap (x1 - 1))) hs rfl (by kernel_rfl) (by obtain rfl := Option.some.inj hm; exact ⟨rfl, (Own.to hs.own [] 0 (by kernel_rfl) (by kernel_rfl))⟩)
    · replace hm := bif_f hm hb
      refine Vk.seq fun K10 hK10 => ?_
      have hj10 : ∀ (p_12 : Bool), visorref17_Regs.j1 k x0 x1 p_12 = some r → ∀ (a : Act) (w : World), St 28 a w κ [(1, .int .i64 x1), (11, .int .i64 x0), (16, .bool p_12)] (S) → K10 a w := by
        intro p_12 hm a w hs
        unfold visorref17_Regs.j1 at hm
        refine hK10 _ _ ?_
        refine Vk.condS (b := p_12) hs (by kernel_rfl) (by kernel_rfl) (fun hb => ?_) (fun hb => ?_)
        · replace hm := bif_t hm hb
          refine Vk.seq fun K13 hK13 => ?_
          refine Vk.region ?_
          refine Vk.pures 1 [(4, .int .i64 2)] hs (by kernel_rfl) fun a hs => ?_
          replace hs := hs.pick [4] (L' := [(4, .int .i64 2)]) (by kernel_rfl)
          refine Vk.done (by kernel_rfl) ?_
          refine hK13 _ _ ?_
          clear hK13
          refine wp_ret ?_
          exact Vk.ret1 (P := Try.prog) (fn := Try.f118) (R := visorref17_Regs.R κ S x0 x1 r) (.int .i64 2) hs rfl (by kernel_rfl) (by obtain rfl := Option.some.inj hm; exact ⟨rfl, (Own.to hs.own [] 0 (by kernel_rfl) (by kernel_rfl))⟩)
        · replace hm := bif_f hm hb
          refine Vk.seq fun K14 hK14 => ?_
          have hj14 : ∀ (p_19 : Bool), visorref17_Regs.j2 k x0 x1 p_19 = some r → ∀ (a : Act) (w : World), St 28 a w κ [(1, .int .i64 x1), (11, .int .i64 x0), (19, .bool p_19)] (S) → K14 a w := by
            intro p_19 hm a w hs
            unfold visorref17_Regs.j2 at hm
            refine hK14 _ _ ?_
            refine Vk.condS (b := p_19) hs (by kernel_rfl) (by kernel_rfl) (fun hb => ?_) (fun hb => ?_)
            · replace hm := bif_t hm hb
              refine Vk.seq fun K20 hK20 => ?_
              refine Vk.region ?_
              refine Vk.pures 1 [(4, .int .i64 1)] hs (by kernel_rfl) fun a hs => ?_
              replace hs := hs.pick [4] (L' := [(4, .int .i64 1)]) (by kernel_rfl)
              refine Vk.done (by kernel_rfl) ?_
              refine hK20 _ _ ?_
              clear hK20
              refine wp_ret ?_
              exact Vk.ret1 (P := Try.prog) (fn := Try.f118) (R := visorref17_Regs.R κ S x0 x1 r) (.int .i64 1) hs rfl (by kernel_rfl) (by obtain rfl := Option.some.inj hm; exact ⟨rfl, (Own.to hs.own [] 0 (by kernel_rfl) (by kernel_rfl))⟩)
            · replace hm := bif_f hm hb
              refine Vk.seq fun K21 hK21 => ?_
              refine Vk.region ?_
              refine Vk.pures 2 [(25, .bool (x0 == 12)), (26, .bool (x0 == 12))] hs (by kernel_rfl) fun a hs => ?_
              replace hs := hs.pick [1, 25] (L' := [(1, .int .i64 x1), (25, .bool (x0 == 12))]) (by kernel_rfl)
              refine Vk.done (by kernel_rfl) ?_
              refine hK21 _ _ ?_
              clear hK21
              refine Vk.condS (b := x0 == 12) hs (by kernel_rfl) (by kernel_rfl) (fun hb => ?_) (fun hb => ?_)
              · replace hm := bif_t hm hb
                refine Vk.seq fun K22 hK22 => ?_
                refine Vk.region ?_
                refine Vk.pures 2 [(4, .int .i64 x1), (27, .int .i64 x1)] hs (by kernel_rfl) fun a hs => ?_
                replace hs := hs.pick [4] (L' := [(4, .int .i64 x1)]) (by kernel_rfl)
                refine Vk.done (by kernel_rfl) ?_
                refine hK22 _ _ ?_
                clear hK22
                refine wp_ret ?_
                exact Vk.ret1 (P := Try.prog) (fn := Try.f118) (R := visorref17_Regs.R κ S x0 x1 r) (.int .i64 x1) hs rfl (by kernel_rfl) (by obtain rfl := Option.some.inj hm; exact ⟨rfl, (Own.to hs.own [] 0 (by kernel_rfl) (by kernel_rfl))⟩)
              · replace hm := bif_f hm hb
                refine wp_skip ?_
                refine hK6 _ _ ?_
                clear hK6
                refine Vk.seq fun K23 hK23 => ?_
                refine Vk.region ?_
                refine Vk.pures 1 [(4, .int .i64 0)] hs (by kernel_rfl) fun a hs => ?_
                replace hs := hs.pick [4] (L' := [(4, .int .i64 0)]) (by kernel_rfl)
                refine Vk.done (by kernel_rfl) ?_
                refine hK23 _ _ ?_
                clear hK23
                refine wp_ret ?_
                exact Vk.ret1 (P := Try.prog) (fn := Try.f118) (R := visorref17_Regs.R κ S x0 x1 r) (.int .i64 0) hs rfl (by kernel_rfl) (by obtain rfl := Option.some.inj hm; exact ⟨rfl, (Own.to hs.own [] 0 (by kernel_rfl) (by kernel_rfl))⟩)
          refine Vk.seq fun K15 hK15 => ?_
          refine Vk.region ?_
          refine Vk.pures 2 [(19, .bool (x0 == 6)), (20, .bool (x0 == 6))] hs (by kernel_rfl) fun a hs => ?_
          replace hs := hs.pick [1, 11, 19] (L' := [(1, .int .i64 x1), (11, .int .i64 x0), (19, .bool (x0 == 6))]) (by kernel_rfl)
          refine Vk.done (by kernel_rfl) ?_
          refine hK15 _ _ ?_
          clear hK15
          refine Vk.condS (b := x0 == 6) hs (by kernel_rfl) (by kernel_rfl) (fun hb => ?_) (fun hb => ?_)
          · replace hm := bif_t hm hb
            refine wp_skip ?_
            exact hj14 (x0 == 6) hm _ _ (hs.go [1, 11, 19] [] 0 (by kernel_rfl) (by kernel_rfl) (by kernel_rfl))
          · replace hm := bif_f hm hb
            refine Vk.seq fun K16 hK16 => ?_
            refine Vk.region ?_
            refine Vk.pures 2 [(19, .bool (x0 == 8)), (21, .bool (x0 == 8))] hs (by kernel_rfl) fun a hs => ?_
            replace hs := hs.pick [1, 11, 19] (L' := [(1, .int .i64 x1), (11, .int .i64 x0), (19, .bool (x0 == 8))]) (by kernel_rfl)
            refine Vk.done (by kernel_rfl) ?_
            refine hK16 _ _ ?_
            clear hK16
            refine Vk.condS (b := x0 == 8) hs (by kernel_rfl) (by kernel_rfl) (fun hb => ?_) (fun hb => ?_)
            · replace hm := bif_t hm hb
              refine wp_skip ?_
              exact hj14 (x0 == 8) hm _ _ (hs.go [1, 11, 19] [] 0 (by kernel_rfl) (by kernel_rfl) (by kernel_rfl))
            · replace hm := bif_f hm hb
              refine Vk.seq fun K17 hK17 => ?_
              refine Vk.region ?_
              refine Vk.pures 2 [(19, .bool (x0 == 9)), (22, .bool (x0 == 9))] hs (by kernel_rfl) fun a hs => ?_
              replace hs := hs.pick [1, 11, 19] (L' := [(1, .int .i64 x1), (11, .int .i64 x0), (19, .bool (x0 == 9))]) (by kernel_rfl)
              refine Vk.done (by kernel_rfl) ?_
              refine hK17 _ _ ?_
              clear hK17
              refine Vk.condS (b := x0 == 9) hs (by kernel_rfl) (by kernel_rfl) (fun hb => ?_) (fun hb => ?_)
              · replace hm := bif_t hm hb
                refine wp_skip ?_
                exact hj14 (x0 == 9) hm _ _ (hs.go [1, 11, 19] [] 0 (by kernel_rfl) (by kernel_rfl) (by kernel_rfl))
              · replace hm := bif_f hm hb
                refine Vk.seq fun K18 hK18 => ?_
                refine Vk.region ?_
                refine Vk.pures 2 [(19, .bool (x0 == 10)), (23, .bool (x0 == 10))] hs (by kernel_rfl) fun a hs => ?_
                replace hs := hs.pick [1, 11, 19] (L' := [(1, .int .i64 x1), (11, .int .i64 x0), (19, .bool (x0 == 10))]) (by kernel_rfl)
                refine Vk.done (by kernel_rfl) ?_
                refine hK18 _ _ ?_
                clear hK18
                refine Vk.condS (b := x0 == 10) hs (by kernel_rfl) (by kernel_rfl) (fun hb => ?_) (fun hb => ?_)
                · replace hm := bif_t hm hb
                  refine wp_skip ?_
                  exact hj14 (x0 == 10) hm _ _ (hs.go [1, 11, 19] [] 0 (by kernel_rfl) (by kernel_rfl) (by kernel_rfl))
                · replace hm := bif_f hm hb
                  refine Vk.region ?_
                  refine Vk.pures 2 [(19, .bool (x0 == 11)), (24, .bool (x0 == 11))] hs (by kernel_rfl) fun a hs => ?_
                  replace hs := hs.pick [1, 11, 19] (L' := [(1, .int .i64 x1), (11, .int .i64 x0), (19, .bool (x0 == 11))]) (by kernel_rfl)
                  refine Vk.done (by kernel_rfl) ?_
                  exact hj14 (x0 == 11) hm _ _ (hs.go [1, 11, 19] [] 0 (by kernel_rfl) (by kernel_rfl) (by kernel_rfl))
      refine Vk.seq fun K11 hK11 => ?_
      refine Vk.region ?_
      refine Vk.pures 2 [(16, .bool (x0 == 5)), (17, .bool (x0 == 5))] hs (by kernel_rfl) fun a hs => ?_
      replace hs := hs.pick [1, 11, 16] (L' := [(1, .int .i64 x1), (11, .int .i64 x0), (16, .bool (x0 == 5))]) (by kernel_rfl)
      refine Vk.done (by kernel_rfl) ?_
      refine hK11 _ _ ?_
      clear hK11
      refine Vk.condS (b := x0 == 5) hs (by kernel_rfl) (by kernel_rfl) (fun hb => ?_) (fun hb => ?_)
      · replace hm := bif_t hm hb
        refine wp_skip ?_
        exact hj10 (x0 == 5) hm _ _ (hs.go [1, 11, 16] [] 0 (by kernel_rfl) (by kernel_rfl) (by kernel_rfl))
      · replace hm := bif_f hm hb
        refine Vk.region ?_
        refine Vk.pures 2 [(16, .bool (x0 == 7)), (18, .bool (x0 == 7))] hs (by kernel_rfl) fun a hs => ?_
        replace hs := hs.pick [1, 11, 16] (L' := [(1, .int .i64 x1), (11, .int .i64 x0), (16, .bool (x0 == 7))]) (by kernel_rfl)
        refine Vk.done (by kernel_rfl) ?_
        exact hj10 (x0 == 7) hm _ _ (hs.go [1, 11, 16] [] 0 (by kernel_rfl) (by kernel_rfl) (by kernel_rfl))


def op_Right.l1 (x0 : Tapi_Op) (x1 : Int) (v_16 : Int) : Nat → Int → Option (Sum (Bool) (Unit))
  | 0, _ => none
  | k + 1, q_20 => (bif decide (q_20 < 3) then (if 0 ≤ q_20 ∧ q_20 < 3 then (getI .i64 [C.int .i64 x0.a, C.int .i64 x0.b, C.int .i64 x0.d] q_20.toNat).bind fun v_27 => (bif decide (q_20 < v_16) then (bif decide (v_27 < 0) then some (.inl false) else (bif decide (v_27 ≥ x1) then some (.inl false) else (bif decide (q_20 ≥ v_16) then (bif v_27 != (-1) then some (.inl false) else op_Right.l1 x0 x1 v_16 k (IntKind.i64.wrap (q_20 + 1))) else op_Right.l1 x0 x1 v_16 k (IntKind.i64.wrap (q_20 + 1))))) else (bif decide (q_20 ≥ v_16) then (bif v_27 != (-1) then some (.inl false) else op_Right.l1 x0 x1 v_16 k (IntKind.i64.wrap (q_20 + 1))) else op_Right.l1 x0 x1 v_16 k (IntKind.i64.wrap (q_20 + 1)))) else none) else some (.inr ()))
def op_Right.j1 (k : Nat) (x0 : Tapi_Op) (x1 : Int) (x2 : Int) (p_11 : Bool) : Option (Bool) := (bif p_11 then some false else (op_Regs.m k x0.kind x2).bind fun v_16 => (op_Right.l1 x0 x1 v_16 k 0).bind fun x => match x with | .inl v => some v | .inr () => (op_constant.m k x0).bind fun v_40 => some v_40)
abbrev op_Right.R (κ : Ctx) (S : List HP) (x0 : Tapi_Op) (x1 : Int) (x2 : Int) (r : Bool) : Ending → World → Prop := fun e w' => e = .returned (.bool r) ∧ Own κ w' (S)
def op_Right.m (k : Nat) (x0 : Tapi_Op) (x1 : Int) (x2 : Int) : Option Bool := (bif (x2 != 2) && (x2 != 3) then op_Right.j1 k x0 x1 x2 true else (op_is.m k x0.kind).bind fun v_8 => (bif ((!v_8) || (decide (x0.dom < (-1)))) || (decide (x0.dom ≥ x2)) then op_Right.j1 k x0 x1 x2 true else (bif x0.kind == 12 then op_Right.j1 k x0 x1 x2 (decide (x0.dom ≥ 0)) else op_Right.j1 k x0 x1 x2 false)))

set_option maxRecDepth 100000 in
set_option maxHeartbeats 4000000 in
theorem op_Right.ok (k : Nat) (x0 : Tapi_Op) (x1 : Int) (x2 : Int) (r : Bool) (hm : op_Right.m k x0 x1 x2 = some r) (κ : Ctx) (w : World) (S : List HP) (ho : Own κ w (S)) :
    Calls Try.prog 115 #[.agg (vals [C.int .i64 x0.kind, C.int .i64 x0.dom, C.int .i64 x0.a, C.int .i64 x0.b, C.int .i64 x0.d, C.int .u64 x0.c]), .int .i64 x1, .int .i64 x2] w (op_Right.R κ S x0 x1 x2 r) := by
  unfold op_Right.m at hm
  refine Vk.enter [(0, .agg (vals [C.int .i64 x0.kind, C.int .i64 x0.dom, C.int .i64 x0.a, C.int .i64 x0.b, C.int .i64 x0.d, C.int .u64 x0.c])), (1, .int .i64 x1), (2, .int .i64 x2)] Try.func115 rfl Try.ntmps115 (by kernel_rfl) (Nat.le_of_ble_eq_true (by kernel_rfl)) ho fun a hs => ?_
  refine Vk.seq fun K1 hK1 => ?_
  refine Vk.region ?_
  refine Vk.step (Vk.box (x := (.tmp 0)) 3 32 [C.int .i64 x0.kind, C.int .i64 x0.dom, C.int .i64 x0.a, C.int .i64 x0.b, C.int .i64 x0.d, C.int .u64 x0.c] hs (by kernel_rfl) (by kernel_rfl) (by kernel_rfl) fun b_2 w a hs => ?_)
  refine Vk.pures 1 [(6, .bool false)] hs (by kernel_rfl) fun a hs => ?_
  replace hs := hs.pick [1, 2, 3] (L' := [(1, .int .i64 x1), (2, .int .i64 x2), (3, .pointer (some ⟨b_2, 0, none⟩))]) (by kernel_rfl)
  refine Vk.done (by kernel_rfl) ?_
  refine hK1 _ _ ?_
  clear hK1
  refine Vk.seq fun K3 hK3 => ?_
  refine Vk.seq fun K4 hK4 => ?_
  have hj4 : ∀ (p_11 : Bool), op_Right.j1 k x0 x1 x2 p_11 = some r → ∀ (a : Act) (w : World), St 82 a w κ [(1, .int .i64 x1), (2, .int .i64 x2), (3, .pointer (some ⟨b_2, 0, none⟩)), (42, .bool p_11)] (pt b_2 (blk (Tapi_Op.cells x0) 32) :: S) → K4 a w := by
    intro p_11 hm a w hs
    unfold op_Right.j1 at hm
    refine hK4 _ _ ?_
    refine Vk.condS (b := p_11) hs (by kernel_rfl) (by kernel_rfl) (fun hb => ?_) (fun hb => ?_)
    · replace hm := bif_t hm hb
      refine Vk.seq fun K12 hK12 => ?_
      refine Vk.region ?_
      refine Vk.pures 1 [(6, .bool false)] hs (by kernel_rfl) fun a hs => ?_
      replace hs := hs.pick [6] (L' := [(6, .bool false)]) (by kernel_rfl)
      refine Vk.done (by kernel_rfl) ?_
      refine hK12 _ _ ?_
      clear hK12
      refine wp_ret ?_
      exact Vk.ret1 (P := Try.prog) (fn := Try.f115) (R := op_Right.R κ S x0 x1 x2 r) (.bool false) hs rfl (by kernel_rfl) (by obtain rfl := Option.some.inj hm; exact ⟨rfl, (Own.to hs.own [] 1 (by kernel_rfl) (by kernel_rfl))⟩)
    · replace hm := bif_f hm hb
      refine wp_skip ?_
      refine hK3 _ _ ?_
      clear hK3
      refine Vk.seq fun K13 hK13 => ?_
      refine Vk.region ?_
      refine Vk.pures 1 [(43, .pointer (some ⟨b_2, 0, none⟩))] hs (by kernel_rfl) fun a hs => ?_
      refine Vk.step (Vk.value (some 44) (.int .i64 x0.kind) hs (by kernel_rfl) (op := (.load 3 (.tmp 43))) (by kernel_rfl) (fun o ho => run_load1 (b := b_2) (off := 0) (c := C.int .i64 x0.kind) ho (by kernel_rfl) (by kernel_rfl) (Cell.own 0 rfl (by kernel_rfl)) _ hs.own) fun a hs => ?_)
      refine Vk.pures 1 [(45, .int .i64 x2)] hs (by kernel_rfl) fun a hs => ?_
      obtain ⟨v_16, h_15, hm⟩ := bind_t hm
      refine Vk.step (Vk.call (some 46) 125 #[.int .i64 x0.kind, .int .i64 x2] hs (by kernel_rfl) (by kernel_rfl) (by kernel_rfl) ?_)
      refine (op_Regs.ok k x0.kind x2 v_16 h_15 κ w (pt b_2 (blk (Tapi_Op.cells x0) 32) :: S) hs.own).mono ?_
      rintro _ w ⟨rfl, how⟩
      refine ⟨_, _, _, rfl, how, fun a hs => ?_⟩
      refine Vk.pures 1 [(7, .int .i64 v_16)] hs (by kernel_rfl) fun a hs => ?_
      replace hs := hs.pick [1, 3, 7] (L' := [(1, .int .i64 x1), (3, .pointer (some ⟨b_2, 0, none⟩)), (7, .int .i64 v_16)]) (by kernel_rfl)
      refine Vk.done (by kernel_rfl) ?_
      refine hK13 _ _ ?_
      clear hK13
      refine Vk.seq fun K17 hK17 => ?_
      refine Vk.seq fun K18 hK18 => ?_
      refine Vk.region ?_
      refine Vk.pures 1 [(47, .pointer (some ⟨b_2, 2, none⟩))] hs (by kernel_rfl) fun a hs => ?_
      refine Vk.step (Vk.value (some 48) (.int .i64 x0.a) hs (by kernel_rfl) (op := (.load 3 (.tmp 47))) (by kernel_rfl) (fun o ho => run_load1 (b := b_2) (off := 2) (c := C.int .i64 x0.a) ho (by kernel_rfl) (by kernel_rfl) (Cell.own 0 rfl (by kernel_rfl)) _ hs.own) fun a hs => ?_)
      refine Vk.pures 1 [(49, .pointer (some ⟨b_2, 3, none⟩))] hs (by kernel_rfl) fun a hs => ?_
      refine Vk.step (Vk.value (some 50) (.int .i64 x0.b) hs (by kernel_rfl) (op := (.load 3 (.tmp 49))) (by kernel_rfl) (fun o ho => run_load1 (b := b_2) (off := 3) (c := C.int .i64 x0.b) ho (by kernel_rfl) (by kernel_rfl) (Cell.own 0 rfl (by kernel_rfl)) _ hs.own) fun a hs => ?_)
      refine Vk.pures 1 [(51, .pointer (some ⟨b_2, 4, none⟩))] hs (by kernel_rfl) fun a hs => ?_
      refine Vk.step (Vk.value (some 52) (.int .i64 x0.d) hs (by kernel_rfl) (op := (.load 3 (.tmp 51))) (by kernel_rfl) (fun o ho => run_load1 (b := b_2) (off := 4) (c := C.int .i64 x0.d) ho (by kernel_rfl) (by kernel_rfl) (Cell.own 0 rfl (by kernel_rfl)) _ hs.own) fun a hs => ?_)
      refine Vk.pures 2 [(54, .int .i64 0), (53, .agg (vals [C.int .i64 x0.a, C.int .i64 x0.b, C.int .i64 x0.d]))] hs (by kernel_rfl) fun a hs => ?_
      replace hs := hs.pick [1, 3, 7, 53, 54] (L' := [(1, .int .i64 x1), (3, .pointer (some ⟨b_2, 0, none⟩)), (7, .int .i64 v_16), (53, .agg (vals [C.int .i64 x0.a, C.int .i64 x0.b, C.int .i64 x0.d])), (54, .int .i64 0)]) (by kernel_rfl)
      refine Vk.done (by kernel_rfl) ?_
      refine hK18 _ _ ?_
      clear hK18
      refine wp_block ?_
      obtain ⟨r19, hl19, hm⟩ := bind_t hm
      have hx19 : r19 = Sum.inr () → ∀ (a : Act) (w : World), St 82 a w κ [(3, .pointer (some ⟨b_2, 0, none⟩))] (pt b_2 (blk (Tapi_Op.cells x0) 32) :: S) → K17 a w := by
        intro he a w hs
        subst r19
        refine hK17 _ _ ?_
        clear hK17
        refine Vk.seq fun K37 hK37 => ?_
        refine Vk.region ?_
        refine Vk.step (Vk.value (some 80) (.agg (vals [C.int .i64 x0.kind, C.int .i64 x0.dom, C.int .i64 x0.a, C.int .i64 x0.b, C.int .i64 x0.d, C.int .u64 x0.c])) hs (by kernel_rfl) (op := (.load 32 (.tmp 3))) (by kernel_rfl) (fun o ho => run_loadN (cs := [C.int .i64 x0.kind, C.int .i64 x0.dom, C.int .i64 x0.a, C.int .i64 x0.b, C.int .i64 x0.d, C.int .u64 x0.c]) ho (by kernel_rfl) (by kernel_rfl) rfl (CellsAt.all 0 rfl) _ hs.own) fun a hs => ?_)
        obtain ⟨v_40, h_39, hm⟩ := bind_t hm
        refine Vk.step (Vk.call (some 81) 126 #[.agg (vals [C.int .i64 x0.kind, C.int .i64 x0.dom, C.int .i64 x0.a, C.int .i64 x0.b, C.int .i64 x0.d, C.int .u64 x0.c])] hs (by kernel_rfl) (by kernel_rfl) (by kernel_rfl) ?_)
        refine (op_constant.ok k x0 v_40 h_39 κ w (pt b_2 (blk (Tapi_Op.cells x0) 32) :: S) hs.own).mono ?_
        rintro _ w ⟨rfl, how⟩
        refine ⟨_, _, _, rfl, how, fun a hs => ?_⟩
        refine Vk.pures 1 [(6, .bool v_40)] hs (by kernel_rfl) fun a hs => ?_
        replace hs := hs.pick [6] (L' := [(6, .bool v_40)]) (by kernel_rfl)
        refine Vk.done (by kernel_rfl) ?_
        refine hK37 _ _ ?_
        clear hK37
        refine wp_ret ?_
        exact Vk.ret1 (P := Try.prog) (fn := Try.f115) (R := op_Right.R κ S x0 x1 x2 r) (.bool v_40) hs rfl (by kernel_rfl) (by obtain rfl := Option.some.inj hm; exact ⟨rfl, (Own.to hs.own [] 1 (by kernel_rfl) (by kernel_rfl))⟩)
      have hret19 : ∀ v, r19 = Sum.inl v → v = r := by intro v he; subst r19; exact Option.some.inj hm
      refine Vk.loopBy (fun k (s : Int) a w => op_Right.l1 x0 x1 v_16 k s = some r19 ∧ St 82 a w κ [(1, .int .i64 x1), (3, .pointer (some ⟨b_2, 0, none⟩)), (7, .int .i64 v_16), (53, .agg (vals [C.int .i64 x0.a, C.int .i64 x0.b, C.int .i64 x0.d])), (54, .int .i64 s)] (pt b_2 (blk (Tapi_Op.cells x0) 32) :: S)) k 0 ⟨hl19, hs.go [1, 3, 7, 53, 54] [0] 1 (by kernel_rfl) (by kernel_rfl) (by kernel_rfl)⟩ (fun s a w h => by obtain ⟨h1, _⟩ := h; simp [op_Right.l1] at h1) (fun k KL19 ih q_20 a w h => ?_)
      obtain ⟨hm, hs⟩ := h
      try dsimp only at hm hs
      rw [op_Right.l1] at hm
      refine Vk.seq fun K21 hK21 => ?_
      refine Vk.region ?_
      refine Vk.pures 1 [(55, .bool (decide (q_20 < 3)))] hs (by kernel_rfl) fun a hs => ?_
      replace hs := hs.pick [1, 3, 7, 53, 54, 55] (L' := [(1, .int .i64 x1), (3, .pointer (some ⟨b_2, 0, none⟩)), (7, .int .i64 v_16), (53, .agg (vals [C.int .i64 x0.a, C.int .i64 x0.b, C.int .i64 x0.d])), (54, .int .i64 q_20), (55, .bool (decide (q_20 < 3)))]) (by kernel_rfl)
      refine Vk.done (by kernel_rfl) ?_
      refine hK21 _ _ ?_
      clear hK21
      refine Vk.seq fun K22 hK22 => ?_
      refine Vk.condS (b := decide (q_20 < 3)) hs (by kernel_rfl) (by kernel_rfl) (fun hb => ?_) (fun hb => ?_)
      · replace hm := bif_t hm hb
        refine wp_skip ?_
        refine hK22 _ _ ?_
        clear hK22
        refine Vk.seq fun K23 hK23 => ?_
        refine wp_block ?_
        refine Vk.seq fun K24 hK24 => ?_
        refine Vk.region ?_
        refine Vk.pures 1 [(56, .int .i64 q_20)] hs (by kernel_rfl) fun a hs => ?_
        obtain ⟨h_25, hm⟩ := ite_t hm
        obtain ⟨v_27, h_26, hm⟩ := bind_t hm
        refine Vk.step (Vk.value (some 57) (.int .i64 v_27) hs (by kernel_rfl) (op := (.index 63 (.tmp 53) (.tmp 54))) (by kernel_rfl) (fun o ho => run_idxVal (k := .i64) (cs := [C.int .i64 x0.a, C.int .i64 x0.b, C.int .i64 x0.d]) (c := C.int .i64 v_27) ho (by kernel_rfl) (by kernel_rfl) (len := 3) (et := 3) (by kernel_rfl) (by kernel_rfl) (by kernel_rfl) (by kernel_rfl) h_25 (getI_some h_26) _) fun a hs => ?_)
        refine Vk.pures 2 [(9, .int .i64 v_27), (8, .int .i64 q_20)] hs (by kernel_rfl) fun a hs => ?_
        replace hs := hs.pick [1, 3, 7, 8, 9, 53, 54] (L' := [(1, .int .i64 x1), (3, .pointer (some ⟨b_2, 0, none⟩)), (7, .int .i64 v_16), (8, .int .i64 q_20), (9, .int .i64 v_27), (53, .agg (vals [C.int .i64 x0.a, C.int .i64 x0.b, C.int .i64 x0.d])), (54, .int .i64 q_20)]) (by kernel_rfl)
        refine Vk.done (by kernel_rfl) ?_
        refine hK24 _ _ ?_
        clear hK24
        refine Vk.seq fun K28 hK28 => ?_
        refine Vk.region ?_
        refine Vk.pures 4 [(61, .bool (decide (q_20 < v_16))), (60, .bool (decide (q_20 < v_16))), (59, .int .i64 v_16), (58, .int .i64 q_20)] hs (by kernel_rfl) fun a hs => ?_
        rcases Bool.eq_false_or_eq_true (decide (q_20 < v_16)) with hb | hb
        · replace hm := bif_t hm hb
          replace hs := hs.known (t := 61) hb (by kernel_rfl)
          refine Vk.pures 3 [(64, .bool (decide (v_27 < 0))), (63, .bool (decide (v_27 < 0))), (62, .int .i64 v_27)] hs (by kernel_rfl) fun a hs => ?_
          rcases Bool.eq_false_or_eq_true (decide (v_27 < 0)) with hb | hb
          · replace hm := bif_t hm hb
            replace hs := hs.known (t := 64) hb (by kernel_rfl)
            refine Vk.pures 14 [(78, .bool true), (77, undef), (76, undef), (75, undef), (74, undef), (73, undef), (72, undef), (71, undef), (70, .bool true), (69, .bool true), (68, .bool true), (67, undef), (66, undef), (65, undef)] hs (by kernel_rfl) fun a hs => ?_
            replace hs := hs.pick [1, 3, 7, 53, 54, 62, 63, 64, 68, 78] (L' := [(1, .int .i64 x1), (3, .pointer (some ⟨b_2, 0, none⟩)), (7, .int .i64 v_16), (53, .agg (vals [C.int .i64 x0.a, C.int .i64 x0.b, C.int .i64 x0.d])), (54, .int .i64 q_20), (62, .int .i64 v_27), (63, .bool (decide (v_27 < 0))), (64, .bool true), (68, .bool true), (78, .bool true)]) (by kernel_rfl)
            refine Vk.done (by kernel_rfl) ?_
            refine hK28 _ _ ?_
            refine Vk.condT hs (by kernel_rfl) (by kernel_rfl) ?_
            refine Vk.seq fun K29 hK29 => ?_
            refine Vk.region ?_
            refine Vk.pures 1 [(6, .bool false)] hs (by kernel_rfl) fun a hs => ?_
            replace hs := hs.pick [6] (L' := [(6, .bool false)]) (by kernel_rfl)
            refine Vk.done (by kernel_rfl) ?_
            refine hK29 _ _ ?_
            clear hK29
            refine wp_ret ?_
            exact Vk.ret1 (P := Try.prog) (fn := Try.f115) (R := op_Right.R κ S x0 x1 x2 r) (.bool false) hs rfl (by kernel_rfl) (by obtain rfl := hret19 _ ((Option.some.inj hm).symm); exact ⟨rfl, (Own.to hs.own [] 1 (by kernel_rfl) (by kernel_rfl))⟩)
          · replace hm := bif_f hm hb
            replace hs := hs.known (t := 64) hb (by kernel_rfl)
            refine Vk.pures 6 [(70, .bool (decide (v_27 ≥ x1))), (69, .bool (decide (v_27 ≥ x1))), (68, .bool (decide (v_27 ≥ x1))), (67, .bool (decide (v_27 ≥ x1))), (66, .int .i64 x1), (65, .int .i64 v_27)] hs (by kernel_rfl) fun a hs => ?_
            rcases Bool.eq_false_or_eq_true (decide (v_27 ≥ x1)) with hb | hb
            · replace hm := bif_t hm hb
              replace hs := hs.known (t := 70) hb (by kernel_rfl)
              refine Vk.pures 8 [(78, .bool true), (77, undef), (76, undef), (75, undef), (74, undef), (73, undef), (72, undef), (71, undef)] hs (by kernel_rfl) fun a hs => ?_
              replace hs := hs.pick [1, 3, 7, 53, 54, 62, 63, 64, 65, 66, 67, 68, 78] (L' := [(1, .int .i64 x1), (3, .pointer (some ⟨b_2, 0, none⟩)), (7, .int .i64 v_16), (53, .agg (vals [C.int .i64 x0.a, C.int .i64 x0.b, C.int .i64 x0.d])), (54, .int .i64 q_20), (62, .int .i64 v_27), (63, .bool (decide (v_27 < 0))), (64, .bool false), (65, .int .i64 v_27), (66, .int .i64 x1), (67, .bool (decide (v_27 ≥ x1))), (68, .bool (decide (v_27 ≥ x1))), (78, .bool true)]) (by kernel_rfl)
              refine Vk.done (by kernel_rfl) ?_
              refine hK28 _ _ ?_
              refine Vk.condT hs (by kernel_rfl) (by kernel_rfl) ?_
              refine Vk.seq fun K30 hK30 => ?_
              refine Vk.region ?_
              refine Vk.pures 1 [(6, .bool false)] hs (by kernel_rfl) fun a hs => ?_
              replace hs := hs.pick [6] (L' := [(6, .bool false)]) (by kernel_rfl)
              refine Vk.done (by kernel_rfl) ?_
              refine hK30 _ _ ?_
              clear hK30
              refine wp_ret ?_
              exact Vk.ret1 (P := Try.prog) (fn := Try.f115) (R := op_Right.R κ S x0 x1 x2 r) (.bool false) hs rfl (by kernel_rfl) (by obtain rfl := hret19 _ ((Option.some.inj hm).symm); exact ⟨rfl, (Own.to hs.own [] 1 (by kernel_rfl) (by kernel_rfl))⟩)
            · replace hm := bif_f hm hb
              replace hs := hs.known (t := 70) hb (by kernel_rfl)
              refine Vk.pures 4 [(74, .bool (decide (q_20 ≥ v_16))), (73, .bool (decide (q_20 ≥ v_16))), (72, .int .i64 v_16), (71, .int .i64 q_20)] hs (by kernel_rfl) fun a hs => ?_
              rcases Bool.eq_false_or_eq_true (decide (q_20 ≥ v_16)) with hb | hb
              · replace hm := bif_t hm hb
                replace hs := hs.known (t := 74) hb (by kernel_rfl)
                refine Vk.pures 4 [(78, .bool (v_27 != (-1))), (77, .bool (v_27 != (-1))), (76, .bool (v_27 != (-1))), (75, .int .i64 v_27)] hs (by kernel_rfl) fun a hs => ?_
                replace hs := hs.pick [1, 3, 7, 53, 54, 62, 63, 64, 65, 66, 67, 68, 71, 72, 73, 74, 75, 76, 77, 78] (L' := [(1, .int .i64 x1), (3, .pointer (some ⟨b_2, 0, none⟩)), (7, .int .i64 v_16), (53, .agg (vals [C.int .i64 x0.a, C.int .i64 x0.b, C.int .i64 x0.d])), (54, .int .i64 q_20), (62, .int .i64 v_27), (63, .bool (decide (v_27 < 0))), (64, .bool false), (65, .int .i64 v_27), (66, .int .i64 x1), (67, .bool (decide (v_27 ≥ x1))), (68, .bool (decide (v_27 ≥ x1))), (71, .int .i64 q_20), (72, .int .i64 v_16), (73, .bool (decide (q_20 ≥ v_16))), (74, .bool true), (75, .int .i64 v_27), (76, .bool (v_27 != (-1))), (77, .bool (v_27 != (-1))), (78, .bool (v_27 != (-1)))]) (by kernel_rfl)
                refine Vk.done (by kernel_rfl) ?_
                refine hK28 _ _ ?_
                refine Vk.condS (b := v_27 != (-1)) hs (by kernel_rfl) (by kernel_rfl) (fun hb => ?_) (fun hb => ?_)
                · replace hm := bif_t hm hb
                  refine Vk.seq fun K31 hK31 => ?_
                  refine Vk.region ?_
                  refine Vk.pures 1 [(6, .bool false)] hs (by kernel_rfl) fun a hs => ?_
                  replace hs := hs.pick [6] (L' := [(6, .bool false)]) (by kernel_rfl)
                  refine Vk.done (by kernel_rfl) ?_
                  refine hK31 _ _ ?_
                  clear hK31
                  refine wp_ret ?_
                  exact Vk.ret1 (P := Try.prog) (fn := Try.f115) (R := op_Right.R κ S x0 x1 x2 r) (.bool false) hs rfl (by kernel_rfl) (by obtain rfl := hret19 _ ((Option.some.inj hm).symm); exact ⟨rfl, (Own.to hs.own [] 1 (by kernel_rfl) (by kernel_rfl))⟩)
                · replace hm := bif_f hm hb
                  refine wp_skip ?_
                  refine hK23 _ _ ?_
                  refine Vk.region ?_
                  refine Vk.pures 2 [(54, .int .i64 (IntKind.i64.wrap (q_20 + 1))), (79, .int .i64 (IntKind.i64.wrap (q_20 + 1)))] hs (by kernel_rfl) fun a hs => ?_
                  replace hs := hs.pick [1, 3, 7, 53, 54, 62, 63, 64, 65, 66, 67, 68, 71, 72, 73, 74, 75, 76, 77] (L' := [(1, .int .i64 x1), (3, .pointer (some ⟨b_2, 0, none⟩)), (7, .int .i64 v_16), (53, .agg (vals [C.int .i64 x0.a, C.int .i64 x0.b, C.int .i64 x0.d])), (54, .int .i64 (IntKind.i64.wrap (q_20 + 1))), (62, .int .i64 v_27), (63, .bool (decide (v_27 < 0))), (64, .bool false), (65, .int .i64 v_27), (66, .int .i64 x1), (67, .bool (decide (v_27 ≥ x1))), (68, .bool (decide (v_27 ≥ x1))), (71, .int .i64 q_20), (72, .int .i64 v_16), (73, .bool (decide (q_20 ≥ v_16))), (74, .bool true), (75, .int .i64 v_27), (76, .bool (v_27 != (-1))), (77, .bool (v_27 != (-1)))]) (by kernel_rfl)
                  refine Vk.done (by kernel_rfl) ?_
                  refine ih (IntKind.i64.wrap (q_20 + 1)) _ _ ⟨hm, hs.go [1, 3, 7, 53, 54] [0] 1 (by kernel_rfl) (by kernel_rfl) (by kernel_rfl)⟩
              · replace hm := bif_f hm hb
                replace hs := hs.known (t := 74) hb (by kernel_rfl)
                refine Vk.pures 4 [(78, .bool false), (77, .bool false), (76, undef), (75, undef)] hs (by kernel_rfl) fun a hs => ?_
                replace hs := hs.pick [1, 3, 7, 53, 54, 62, 63, 64, 65, 66, 67, 68, 71, 72, 73, 74, 77, 78] (L' := [(1, .int .i64 x1), (3, .pointer (some ⟨b_2, 0, none⟩)), (7, .int .i64 v_16), (53, .agg (vals [C.int .i64 x0.a, C.int .i64 x0.b, C.int .i64 x0.d])), (54, .int .i64 q_20), (62, .int .i64 v_27), (63, .bool (decide (v_27 < 0))), (64, .bool false), (65, .int .i64 v_27), (66, .int .i64 x1), (67, .bool (decide (v_27 ≥ x1))), (68, .bool (decide (v_27 ≥ x1))), (71, .int .i64 q_20), (72, .int .i64 v_16), (73, .bool (decide (q_20 ≥ v_16))), (74, .bool false), (77, .bool false), (78, .bool false)]) (by kernel_rfl)
                refine Vk.done (by kernel_rfl) ?_
                refine hK28 _ _ ?_
                refine Vk.condF hs (by kernel_rfl) (by kernel_rfl) ?_
                refine wp_skip ?_
                refine hK23 _ _ ?_
                refine Vk.region ?_
                refine Vk.pures 2 [(54, .int .i64 (IntKind.i64.wrap (q_20 + 1))), (79, .int .i64 (IntKind.i64.wrap (q_20 + 1)))] hs (by kernel_rfl) fun a hs => ?_
                replace hs := hs.pick [1, 3, 7, 53, 54, 62, 63, 64, 65, 66, 67, 68, 71, 72, 73, 74, 77] (L' := [(1, .int .i64 x1), (3, .pointer (some ⟨b_2, 0, none⟩)), (7, .int .i64 v_16), (53, .agg (vals [C.int .i64 x0.a, C.int .i64 x0.b, C.int .i64 x0.d])), (54, .int .i64 (IntKind.i64.wrap (q_20 + 1))), (62, .int .i64 v_27), (63, .bool (decide (v_27 < 0))), (64, .bool false), (65, .int .i64 v_27), (66, .int .i64 x1), (67, .bool (decide (v_27 ≥ x1))), (68, .bool (decide (v_27 ≥ x1))), (71, .int .i64 q_20), (72, .int .i64 v_16), (73, .bool (decide (q_20 ≥ v_16))), (74, .bool false), (77, .bool false)]) (by kernel_rfl)
                refine Vk.done (by kernel_rfl) ?_
                refine ih (IntKind.i64.wrap (q_20 + 1)) _ _ ⟨hm, hs.go [1, 3, 7, 53, 54] [0] 1 (by kernel_rfl) (by kernel_rfl) (by kernel_rfl)⟩
        · replace hm := bif_f hm hb
          replace hs := hs.known (t := 61) hb (by kernel_rfl)
          refine Vk.pures 13 [(74, .bool (decide (q_20 ≥ v_16))), (73, .bool (decide (q_20 ≥ v_16))), (72, .int .i64 v_16), (71, .int .i64 q_20), (70, .bool false), (69, .bool false), (68, undef), (67, undef), (66, undef), (65, undef), (64, undef), (63, undef), (62, undef)] hs (by kernel_rfl) fun a hs => ?_
          rcases Bool.eq_false_or_eq_true (decide (q_20 ≥ v_16)) with hb | hb
          · replace hm := bif_t hm hb
            replace hs := hs.known (t := 74) hb (by kernel_rfl)
            refine Vk.pures 4 [(78, .bool (v_27 != (-1))), (77, .bool (v_27 != (-1))), (76, .bool (v_27 != (-1))), (75, .int .i64 v_27)] hs (by kernel_rfl) fun a hs => ?_
            replace hs := hs.pick [1, 3, 7, 53, 54, 71, 72, 73, 74, 75, 76, 77, 78] (L' := [(1, .int .i64 x1), (3, .pointer (some ⟨b_2, 0, none⟩)), (7, .int .i64 v_16), (53, .agg (vals [C.int .i64 x0.a, C.int .i64 x0.b, C.int .i64 x0.d])), (54, .int .i64 q_20), (71, .int .i64 q_20), (72, .int .i64 v_16), (73, .bool (decide (q_20 ≥ v_16))), (74, .bool true), (75, .int .i64 v_27), (76, .bool (v_27 != (-1))), (77, .bool (v_27 != (-1))), (78, .bool (v_27 != (-1)))]) (by kernel_rfl)
            refine Vk.done (by kernel_rfl) ?_
            refine hK28 _ _ ?_
            refine Vk.condS (b := v_27 != (-1)) hs (by kernel_rfl) (by kernel_rfl) (fun hb => ?_) (fun hb => ?_)
            · replace hm := bif_t hm hb
              refine Vk.seq fun K32 hK32 => ?_
              refine Vk.region ?_
              refine Vk.pures 1 [(6, .bool false)] hs (by kernel_rfl) fun a hs => ?_
              replace hs := hs.pick [6] (L' := [(6, .bool false)]) (by kernel_rfl)
              refine Vk.done (by kernel_rfl) ?_
              refine hK32 _ _ ?_
              clear hK32
              refine wp_ret ?_
              exact Vk.ret1 (P := Try.prog) (fn := Try.f115) (R := op_Right.R κ S x0 x1 x2 r) (.bool false) hs rfl (by kernel_rfl) (by obtain rfl := hret19 _ ((Option.some.inj hm).symm); exact ⟨rfl, (Own.to hs.own [] 1 (by kernel_rfl) (by kernel_rfl))⟩)
            · replace hm := bif_f hm hb
              refine wp_skip ?_
              refine hK23 _ _ ?_
              refine Vk.region ?_
              refine Vk.pures 2 [(54, .int .i64 (IntKind.i64.wrap (q_20 + 1))), (79, .int .i64 (IntKind.i64.wrap (q_20 + 1)))] hs (by kernel_rfl) fun a hs => ?_
              replace hs := hs.pick [1, 3, 7, 53, 54, 71, 72, 73, 74, 75, 76, 77] (L' := [(1, .int .i64 x1), (3, .pointer (some ⟨b_2, 0, none⟩)), (7, .int .i64 v_16), (53, .agg (vals [C.int .i64 x0.a, C.int .i64 x0.b, C.int .i64 x0.d])), (54, .int .i64 (IntKind.i64.wrap (q_20 + 1))), (71, .int .i64 q_20), (72, .int .i64 v_16), (73, .bool (decide (q_20 ≥ v_16))), (74, .bool true), (75, .int .i64 v_27), (76, .bool (v_27 != (-1))), (77, .bool (v_27 != (-1)))]) (by kernel_rfl)
              refine Vk.done (by kernel_rfl) ?_
              refine ih (IntKind.i64.wrap (q_20 + 1)) _ _ ⟨hm, hs.go [1, 3, 7, 53, 54] [0] 1 (by kernel_rfl) (by kernel_rfl) (by kernel_rfl)⟩
          · replace hm := bif_f hm hb
            replace hs := hs.known (t := 74) hb (by kernel_rfl)
            refine Vk.pures 4 [(78, .bool false), (77, .bool false), (76, undef), (75, undef)] hs (by kernel_rfl) fun a hs => ?_
            replace hs := hs.pick [1, 3, 7, 53, 54, 71, 72, 73, 74, 77, 78] (L' := [(1, .int .i64 x1), (3, .pointer (some ⟨b_2, 0, none⟩)), (7, .int .i64 v_16), (53, .agg (vals [C.int .i64 x0.a, C.int .i64 x0.b, C.int .i64 x0.d])), (54, .int .i64 q_20), (71, .int .i64 q_20), (72, .int .i64 v_16), (73, .bool (decide (q_20 ≥ v_16))), (74, .bool false), (77, .bool false), (78, .bool false)]) (by kernel_rfl)
            refine Vk.done (by kernel_rfl) ?_
            refine hK28 _ _ ?_
            refine Vk.condF hs (by kernel_rfl) (by kernel_rfl) ?_
            refine wp_skip ?_
            refine hK23 _ _ ?_
            refine Vk.region ?_
            refine Vk.pures 2 [(54, .int .i64 (IntKind.i64.wrap (q_20 + 1))), (79, .int .i64 (IntKind.i64.wrap (q_20 + 1)))] hs (by kernel_rfl) fun a hs => ?_
            replace hs := hs.pick [1, 3, 7, 53, 54, 71, 72, 73, 74, 77] (L' := [(1, .int .i64 x1), (3, .pointer (some ⟨b_2, 0, none⟩)), (7, .int .i64 v_16), (53, .agg (vals [C.int .i64 x0.a, C.int .i64 x0.b, C.int .i64 x0.d])), (54, .int .i64 (IntKind.i64.wrap (q_20 + 1))), (71, .int .i64 q_20), (72, .int .i64 v_16), (73, .bool (decide (q_20 ≥ v_16))), (74, .bool false), (77, .bool false)]) (by kernel_rfl)
            refine Vk.done (by kernel_rfl) ?_
            refine ih (IntKind.i64.wrap (q_20 + 1)) _ _ ⟨hm, hs.go [1, 3, 7, 53, 54] [0] 1 (by kernel_rfl) (by kernel_rfl) (by kernel_rfl)⟩
      · replace hm := bif_f hm hb
        refine wp_exit ?_
        exact hx19 (Option.some.inj hm).symm _ _ (hs.go [3] [0] 1 (by kernel_rfl) (by kernel_rfl) (by kernel_rfl))
  refine Vk.region ?_
  refine Vk.pures 3 [(12, .bool (x2 != 2)), (11, .bool (x2 != 2)), (10, .int .i64 x2)] hs (by kernel_rfl) fun a hs => ?_
  suffices hj_5 : ∀ a, St 82 a w κ [(1, .int .i64 x1), (2, .int .i64 x2), (3, .pointer (some ⟨b_2, 0, none⟩)), (10, .int .i64 x2), (11, .bool (x2 != 2)), (12, .bool (x2 != 2)), (15, .bool ((x2 != 2) && (x2 != 3)))] (pt b_2 (blk (Tapi_Op.cells x0) 32) :: S) → wpFrom Try.prog _ _ 6 a w by
    rcases Bool.eq_false_or_eq_true (x2 != 2) with hb | hb
    · replace hs := hs.known (t := 12) hb (by kernel_rfl)
      refine Vk.pures 3 [(15, .bool (x2 != 3)), (14, .bool (x2 != 3)), (13, .int .i64 x2)] hs (by kernel_rfl) fun a hs => ?_
      have hq := hs.pick [1, 2, 3, 10, 11, 12, 15] (L' := [(1, .int .i64 x1), (2, .int .i64 x2), (3, .pointer (some ⟨b_2, 0, none⟩)), (10, .int .i64 x2), (11, .bool (x2 != 2)), (12, .bool true), (15, .bool (x2 != 3))]) (by kernel_rfl)
      exact hj_5 _ (hq.conv (by first | (rw [hb] <;> rfl) | rfl))
    · replace hs := hs.known (t := 12) hb (by kernel_rfl)
      refine Vk.pures 3 [(15, .bool false), (14, undef), (13, undef)] hs (by kernel_rfl) fun a hs => ?_
      have hq := hs.pick [1, 2, 3, 10, 11, 12, 15] (L' := [(1, .int .i64 x1), (2, .int .i64 x2), (3, .pointer (some ⟨b_2, 0, none⟩)), (10, .int .i64 x2), (11, .bool (x2 != 2)), (12, .bool false), (15, .bool false)]) (by kernel_rfl)
      exact hj_5 _ (hq.conv (by first | (rw [hb] <;> rfl) | rfl))
  intro a hs
  refine Vk.pures 1 [(16, .bool ((x2 != 2) && (x2 != 3)))] hs (by kernel_rfl) fun a hs => ?_
  rcases Bool.eq_false_or_eq_true ((x2 != 2) && (x2 != 3)) with hb | hb
  · replace hm := bif_t hm hb
    replace hs := hs.known (t := 16) hb (by kernel_rfl)
    refine Vk.pures 26 [(42, .bool true), (41, undef), (40, undef), (39, undef), (38, undef), (37, undef), (36, undef), (35, undef), (34, undef), (33, .bool true), (32, .bool true), (31, undef), (30, undef), (29, undef), (28, undef), (27, .bool true), (26, .bool true), (25, undef), (24, undef), (23, undef), (22, .bool true), (21, .bool true), (20, undef), (19, undef), (18, undef), (17, undef)] hs (by kernel_rfl) fun a hs => ?_
    replace hs := hs.pick [1, 2, 3, 42] (L' := [(1, .int .i64 x1), (2, .int .i64 x2), (3, .pointer (some ⟨b_2, 0, none⟩)), (42, .bool true)]) (by kernel_rfl)
    refine Vk.done (by kernel_rfl) ?_
    exact hj4 true hm _ _ (hs.go [1, 2, 3, 42] [0] 1 (by kernel_rfl) (by kernel_rfl) (by kernel_rfl))
  · replace hm := bif_f hm hb
    replace hs := hs.known (t := 16) hb (by kernel_rfl)
    refine Vk.pures 1 [(17, .pointer (some ⟨b_2, 0, none⟩))] hs (by kernel_rfl) fun a hs => ?_
    refine Vk.step (Vk.value (some 18) (.int .i64 x0.kind) hs (by kernel_rfl) (op := (.load 3 (.tmp 17))) (by kernel_rfl) (fun o ho => run_load1 (b := b_2) (off := 0) (c := C.int .i64 x0.kind) ho (by kernel_rfl) (by kernel_rfl) (Cell.own 0 rfl (by kernel_rfl)) _ hs.own) fun a hs => ?_)
    obtain ⟨v_8, h_7, hm⟩ := bind_t hm
    refine Vk.step (Vk.call (some 19) 112 #[.int .i64 x0.kind] hs (by kernel_rfl) (by kernel_rfl) (by kernel_rfl) ?_)
    refine (op_is.ok k x0.kind v_8 h_7 κ w (pt b_2 (blk (Tapi_Op.cells x0) 32) :: S) hs.own).mono ?_
    rintro _ w ⟨rfl, how⟩
    refine ⟨_, _, _, rfl, how, fun a hs => ?_⟩
    refine Vk.pures 3 [(22, .bool (!v_8)), (21, .bool (!v_8)), (20, .bool (!v_8))] hs (by kernel_rfl) fun a hs => ?_
    suffices hj_9 : ∀ a, St 82 a w κ [(1, .int .i64 x1), (2, .int .i64 x2), (3, .pointer (some ⟨b_2, 0, none⟩)), (10, .int .i64 x2), (11, .bool (x2 != 2)), (12, .bool (x2 != 2)), (15, .bool ((x2 != 2) && (x2 != 3))), (16, .bool false), (17, .pointer (some ⟨b_2, 0, none⟩)), (18, .int .i64 x0.kind), (19, .bool v_8), (20, .bool (!v_8)), (21, .bool (!v_8)), (22, .bool (!v_8)), (26, .bool ((!v_8) || (decide (x0.dom < (-1)))))] (pt b_2 (blk (Tapi_Op.cells x0) 32) :: S) → wpFrom Try.prog _ _ 17 a w by
      rcases Bool.eq_false_or_eq_true (!v_8) with hb | hb
      · replace hs := hs.known (t := 22) hb (by kernel_rfl)
        refine Vk.pures 4 [(26, .bool true), (25, undef), (24, undef), (23, undef)] hs (by kernel_rfl) fun a hs => ?_
        have hq := hs.pick [1, 2, 3, 10, 11, 12, 15, 16, 17, 18, 19, 20, 21, 22, 26] (L' := [(1, .int .i64 x1), (2, .int .i64 x2), (3, .pointer (some ⟨b_2, 0, none⟩)), (10, .int .i64 x2), (11, .bool (x2 != 2)), (12, .bool (x2 != 2)), (15, .bool ((x2 != 2) && (x2 != 3))), (16, .bool false), (17, .pointer (some ⟨b_2, 0, none⟩)), (18, .int .i64 x0.kind), (19, .bool v_8), (20, .bool (!v_8)), (21, .bool (!v_8)), (22, .bool true), (26, .bool true)]) (by kernel_rfl)
        exact hj_9 _ (hq.conv (by first | (rw [hb] <;> rfl) | rfl))
      · replace hs := hs.known (t := 22) hb (by kernel_rfl)
        refine Vk.pures 1 [(23, .pointer (some ⟨b_2, 1, none⟩))] hs (by kernel_rfl) fun a hs => ?_
        refine Vk.step (Vk.value (some 24) (.int .i64 x0.dom) hs (by kernel_rfl) (op := (.load 3 (.tmp 23))) (by kernel_rfl) (fun o ho => run_load1 (b := b_2) (off := 1) (c := C.int .i64 x0.dom) ho (by kernel_rfl) (by kernel_rfl) (Cell.own 0 rfl (by kernel_rfl)) _ hs.own) fun a hs => ?_)
        refine Vk.pures 2 [(26, .bool (decide (x0.dom < (-1)))), (25, .bool (decide (x0.dom < (-1))))] hs (by kernel_rfl) fun a hs => ?_
        have hq := hs.pick [1, 2, 3, 10, 11, 12, 15, 16, 17, 18, 19, 20, 21, 22, 26] (L' := [(1, .int .i64 x1), (2, .int .i64 x2), (3, .pointer (some ⟨b_2, 0, none⟩)), (10, .int .i64 x2), (11, .bool (x2 != 2)), (12, .bool (x2 != 2)), (15, .bool ((x2 != 2) && (x2 != 3))), (16, .bool false), (17, .pointer (some ⟨b_2, 0, none⟩)), (18, .int .i64 x0.kind), (19, .bool v_8), (20, .bool (!v_8)), (21, .bool (!v_8)), (22, .bool false), (26, .bool (decide (x0.dom < (-1))))]) (by kernel_rfl)
        exact hj_9 _ (hq.conv (by first | (rw [hb] <;> rfl) | rfl))
    intro a hs
    refine Vk.pures 1 [(27, .bool ((!v_8) || (decide (x0.dom < (-1)))))] hs (by kernel_rfl) fun a hs => ?_
    suffices hj_10 : ∀ a, St 82 a w κ [(1, .int .i64 x1), (2, .int .i64 x2), (3, .pointer (some ⟨b_2, 0, none⟩)), (10, .int .i64 x2), (11, .bool (x2 != 2)), (12, .bool (x2 != 2)), (15, .bool ((x2 != 2) && (x2 != 3))), (16, .bool false), (17, .pointer (some ⟨b_2, 0, none⟩)), (18, .int .i64 x0.kind), (19, .bool v_8), (20, .bool (!v_8)), (21, .bool (!v_8)), (22, .bool (!v_8)), (26, .bool ((!v_8) || (decide (x0.dom < (-1))))), (27, .bool ((!v_8) || (decide (x0.dom < (-1))))), (32, .bool (((!v_8) || (decide (x0.dom < (-1)))) || (decide (x0.dom ≥ x2))))] (pt b_2 (blk (Tapi_Op.cells x0) 32) :: S) → wpFrom Try.prog _ _ 23 a w by
      rcases Bool.eq_false_or_eq_true ((!v_8) || (decide (x0.dom < (-1)))) with hb | hb
      · replace hs := hs.known (t := 27) hb (by kernel_rfl)
        refine Vk.pures 5 [(32, .bool true), (31, undef), (30, undef), (29, undef), (28, undef)] hs (by kernel_rfl) fun a hs => ?_
        have hq := hs.pick [1, 2, 3, 10, 11, 12, 15, 16, 17, 18, 19, 20, 21, 22, 26, 27, 32] (L' := [(1, .int .i64 x1), (2, .int .i64 x2), (3, .pointer (some ⟨b_2, 0, none⟩)), (10, .int .i64 x2), (11, .bool (x2 != 2)), (12, .bool (x2 != 2)), (15, .bool ((x2 != 2) && (x2 != 3))), (16, .bool false), (17, .pointer (some ⟨b_2, 0, none⟩)), (18, .int .i64 x0.kind), (19, .bool v_8), (20, .bool (!v_8)), (21, .bool (!v_8)), (22, .bool (!v_8)), (26, .bool ((!v_8) || (decide (x0.dom < (-1))))), (27, .bool true), (32, .bool true)]) (by kernel_rfl)
        exact hj_10 _ (hq.conv (by first | (rw [hb] <;> rfl) | rfl))
      · replace hs := hs.known (t := 27) hb (by kernel_rfl)
        refine Vk.pures 1 [(28, .pointer (some ⟨b_2, 1, none⟩))] hs (by kernel_rfl) fun a hs => ?_
        refine Vk.step (Vk.value (some 29) (.int .i64 x0.dom) hs (by kernel_rfl) (op := (.load 3 (.tmp 28))) (by kernel_rfl) (fun o ho => run_load1 (b := b_2) (off := 1) (c := C.int .i64 x0.dom) ho (by kernel_rfl) (by kernel_rfl) (Cell.own 0 rfl (by kernel_rfl)) _ hs.own) fun a hs => ?_)
        refine Vk.pures 3 [(32, .bool (decide (x0.dom ≥ x2))), (31, .bool (decide (x0.dom ≥ x2))), (30, .int .i64 x2)] hs (by kernel_rfl) fun a hs => ?_
        have hq := hs.pick [1, 2, 3, 10, 11, 12, 15, 16, 17, 18, 19, 20, 21, 22, 26, 27, 32] (L' := [(1, .int .i64 x1), (2, .int .i64 x2), (3, .pointer (some ⟨b_2, 0, none⟩)), (10, .int .i64 x2), (11, .bool (x2 != 2)), (12, .bool (x2 != 2)), (15, .bool ((x2 != 2) && (x2 != 3))), (16, .bool false), (17, .pointer (some ⟨b_2, 0, none⟩)), (18, .int .i64 x0.kind), (19, .bool v_8), (20, .bool (!v_8)), (21, .bool (!v_8)), (22, .bool (!v_8)), (26, .bool ((!v_8) || (decide (x0.dom < (-1))))), (27, .bool false), (32, .bool (decide (x0.dom ≥ x2)))]) (by kernel_rfl)
        exact hj_10 _ (hq.conv (by first | (rw [hb] <;> rfl) | rfl))
    intro a hs
    refine Vk.pures 1 [(33, .bool (((!v_8) || (decide (x0.dom < (-1)))) || (decide (x0.dom ≥ x2))))] hs (by kernel_rfl) fun a hs => ?_
    rcases Bool.eq_false_or_eq_true (((!v_8) || (decide (x0.dom < (-1)))) || (decide (x0.dom ≥ x2))) with hb | hb
    · replace hm := bif_t hm hb
      replace hs := hs.known (t := 33) hb (by kernel_rfl)
      refine Vk.pures 9 [(42, .bool true), (41, undef), (40, undef), (39, undef), (38, undef), (37, undef), (36, undef), (35, undef), (34, undef)] hs (by kernel_rfl) fun a hs => ?_
      replace hs := hs.pick [1, 2, 3, 42] (L' := [(1, .int .i64 x1), (2, .int .i64 x2), (3, .pointer (some ⟨b_2, 0, none⟩)), (42, .bool true)]) (by kernel_rfl)
      refine Vk.done (by kernel_rfl) ?_
      exact hj4 true hm _ _ (hs.go [1, 2, 3, 42] [0] 1 (by kernel_rfl) (by kernel_rfl) (by kernel_rfl))
    · replace hm := bif_f hm hb
      replace hs := hs.known (t := 33) hb (by kernel_rfl)
      refine Vk.pures 1 [(34, .pointer (some ⟨b_2, 0, none⟩))] hs (by kernel_rfl) fun a hs => ?_
      refine Vk.step (Vk.value (some 35) (.int .i64 x0.kind) hs (by kernel_rfl) (op := (.load 3 (.tmp 34))) (by kernel_rfl) (fun o ho => run_load1 (b := b_2) (off := 0) (c := C.int .i64 x0.kind) ho (by kernel_rfl) (by kernel_rfl) (Cell.own 0 rfl (by kernel_rfl)) _ hs.own) fun a hs => ?_)
      refine Vk.pures 2 [(37, .bool (x0.kind == 12)), (36, .bool (x0.kind == 12))] hs (by kernel_rfl) fun a hs => ?_
      rcases Bool.eq_false_or_eq_true (x0.kind == 12) with hb | hb
      · replace hm := bif_t hm hb
        replace hs := hs.known (t := 37) hb (by kernel_rfl)
        refine Vk.pures 1 [(38, .pointer (some ⟨b_2, 1, none⟩))] hs (by kernel_rfl) fun a hs => ?_
        refine Vk.step (Vk.value (some 39) (.int .i64 x0.dom) hs (by kernel_rfl) (op := (.load 3 (.tmp 38))) (by kernel_rfl) (fun o ho => run_load1 (b := b_2) (off := 1) (c := C.int .i64 x0.dom) ho (by kernel_rfl) (by kernel_rfl) (Cell.own 0 rfl (by kernel_rfl)) _ hs.own) fun a hs => ?_)
        refine Vk.pures 3 [(42, .bool (decide (x0.dom ≥ 0))), (41, .bool (decide (x0.dom ≥ 0))), (40, .bool (decide (x0.dom ≥ 0)))] hs (by kernel_rfl) fun a hs => ?_
        replace hs := hs.pick [1, 2, 3, 42] (L' := [(1, .int .i64 x1), (2, .int .i64 x2), (3, .pointer (some ⟨b_2, 0, none⟩)), (42, .bool (decide (x0.dom ≥ 0)))]) (by kernel_rfl)
        refine Vk.done (by kernel_rfl) ?_
        exact hj4 (decide (x0.dom ≥ 0)) hm _ _ (hs.go [1, 2, 3, 42] [0] 1 (by kernel_rfl) (by kernel_rfl) (by kernel_rfl))
      · replace hm := bif_f hm hb
        replace hs := hs.known (t := 37) hb (by kernel_rfl)
        refine Vk.pures 5 [(42, .bool false), (41, .bool false), (40, undef), (39, undef), (38, undef)] hs (by kernel_rfl) fun a hs => ?_
        replace hs := hs.pick [1, 2, 3, 42] (L' := [(1, .int .i64 x1), (2, .int .i64 x2), (3, .pointer (some ⟨b_2, 0, none⟩)), (42, .bool false)]) (by kernel_rfl)
        refine Vk.done (by kernel_rfl) ?_
        exact hj4 false hm _ _ (hs.go [1, 2, 3, 42] [0] 1 (by kernel_rfl) (by kernel_rfl) (by kernel_rfl))


def visorref17_Right.j3 (k : Nat) (x0 : Tapi_Op) (p_67 : Bool) : Option (Bool) := (bif p_67 then some true else some (x0.c == 0))
def visorref17_Right.j2 (k : Nat) (x0 : Tapi_Op) (p_60 : Bool) : Option (Bool) := (bif p_60 then some (decide (x0.c < 64)) else (bif x0.kind == 2 then some (decide (x0.c < 1048576)) else (bif x0.kind == 3 then visorref17_Right.j3 k x0 (x0.kind == 3) else (bif x0.kind == 4 then visorref17_Right.j3 k x0 (x0.kind == 4) else visorref17_Right.j3 k x0 (x0.kind == 8)))))
def visorref17_Right.l1 (x0 : Tapi_Op) (x1 : Int) (x2 : Int) : Nat → Int → Option (Sum (Bool) (Unit))
  | 0, _ => none
  | k + 1, q_17 => (bif decide (q_17 < 3) then (visorref17_Regs.m k x0.kind x2).bind fun v_24 => (bif decide (q_17 < v_24) then (if 0 ≤ q_17 ∧ q_17 < 3 then (getI .i64 [C.int .i64 x0.a, C.int .i64 x0.b, C.int .i64 x0.d] (0 + q_17.toNat * 1)).bind fun v_28 => (bif decide (v_28 < 0) then some (.inl false) else (if 0 ≤ q_17 ∧ q_17 < 3 then (getI .i64 [C.int .i64 x0.a, C.int .i64 x0.b, C.int .i64 x0.d] (0 + q_17.toNat * 1)).bind fun v_32 => (bif decide (v_32 ≥ x1) then some (.inl false) else (visorref17_Regs.m k x0.kind x2).bind fun v_35 => (bif decide (q_17 ≥ v_35) then (if 0 ≤ q_17 ∧ q_17 < 3 then (getI .i64 [C.int .i64 x0.a, C.int .i64 x0.b, C.int .i64 x0.d] (0 + q_17.toNat * 1)).bind fun v_39 => (bif v_39 != (-1) then some (.inl false) else visorref17_Right.l1 x0 x1 x2 k (IntKind.i64.wrap (q_17 + 1))) else none) else visorref17_Right.l1 x0 x1 x2 k (IntKind.i64.wrap (q_17 + 1)))) else none)) else none) else (visorref17_Regs.m k x0.kind x2).bind fun v_42 => (bif decide (q_17 ≥ v_42) then (if 0 ≤ q_17 ∧ q_17 < 3 then (getI .i64 [C.int .i64 x0.a, C.int .i64 x0.b, C.int .i64 x0.d] (0 + q_17.toNat * 1)).bind fun v_46 => (bif v_46 != (-1) then some (.inl false) else visorref17_Right.l1 x0 x1 x2 k (IntKind.i64.wrap (q_17 + 1))) else none) else visorref17_Right.l1 x0 x1 x2 k (IntKind.i64.wrap (q_17 + 1)))) else some (.inr ()))
def visorref17_Right.j1 (k : Nat) (x0 : Tapi_Op) (x1 : Int) (x2 : Int) (p_10 : Bool) : Option (Bool) := (bif p_10 then some false else (visorref17_Right.l1 x0 x1 x2 k 0).bind fun x => match x with | .inl v => some v | .inr () => (bif x0.kind == 9 then visorref17_Right.j2 k x0 (x0.kind == 9) else (bif x0.kind == 10 then visorref17_Right.j2 k x0 (x0.kind == 10) else visorref17_Right.j2 k x0 (x0.kind == 11))))
abbrev visorref17_Right.R (κ : Ctx) (S : List HP) (x0 : Tapi_Op) (x1 : Int) (x2 : Int) (r : Bool) : Ending → World → Prop := fun e w' => e = .returned (.bool r) ∧ Own κ w' (S)
def visorref17_Right.m (k : Nat) (x0 : Tapi_Op) (x1 : Int) (x2 : Int) : Option Bool := (bif (((((x2 != 2) && (x2 != 3)) || (decide (x0.kind < 1))) || (decide (x0.kind > 12))) || (decide (x0.dom < (-1)))) || (decide (x0.dom ≥ x2)) then visorref17_Right.j1 k x0 x1 x2 true else (bif x0.kind == 12 then visorref17_Right.j1 k x0 x1 x2 (x0.dom != (-1)) else visorref17_Right.j1 k x0 x1 x2 false))

set_option maxRecDepth 100000 in
set_option maxHeartbeats 4000000 in
theorem visorref17_Right.ok (k : Nat) (x0 : Tapi_Op) (x1 : Int) (x2 : Int) (r : Bool) (hm : visorref17_Right.m k x0 x1 x2 = some r) (κ : Ctx) (w : World) (S : List HP) (ho : Own κ w (S)) :
    Calls Try.prog 85 #[.agg (vals [C.int .i64 x0.kind, C.int .i64 x0.dom, C.int .i64 x0.a, C.int .i64 x0.b, C.int .i64 x0.d, C.int .u64 x0.c]), .int .i64 x1, .int .i64 x2] w (visorref17_Right.R κ S x0 x1 x2 r) := by
  unfold visorref17_Right.m at hm
  refine Vk.enter [(0, .agg (vals [C.int .i64 x0.kind, C.int .i64 x0.dom, C.int .i64 x0.a, C.int .i64 x0.b, C.int .i64 x0.d, C.int .u64 x0.c])), (1, .int .i64 x1), (2, .int .i64 x2)] Try.func85 rfl Try.ntmps85 (by kernel_rfl) (Nat.le_of_ble_eq_true (by kernel_rfl)) ho fun a hs => ?_
  refine Vk.seq fun K1 hK1 => ?_
  refine Vk.region ?_
  refine Vk.step (Vk.box (x := (.tmp 0)) 3 32 [C.int .i64 x0.kind, C.int .i64 x0.dom, C.int .i64 x0.a, C.int .i64 x0.b, C.int .i64 x0.d, C.int .u64 x0.c] hs (by kernel_rfl) (by kernel_rfl) (by kernel_rfl) fun b_2 w a hs => ?_)
  refine Vk.pures 1 [(6, .bool false)] hs (by kernel_rfl) fun a hs => ?_
  replace hs := hs.pick [1, 2, 3] (L' := [(1, .int .i64 x1), (2, .int .i64 x2), (3, .pointer (some ⟨b_2, 0, none⟩))]) (by kernel_rfl)
  refine Vk.done (by kernel_rfl) ?_
  refine hK1 _ _ ?_
  clear hK1
  refine Vk.seq fun K3 hK3 => ?_
  refine Vk.seq fun K4 hK4 => ?_
  have hj4 : ∀ (p_10 : Bool), visorref17_Right.j1 k x0 x1 x2 p_10 = some r → ∀ (a : Act) (w : World), St 111 a w κ [(1, .int .i64 x1), (2, .int .i64 x2), (3, .pointer (some ⟨b_2, 0, none⟩)), (45, .bool p_10)] (pt b_2 (blk (Tapi_Op.cells x0) 32) :: S) → K4 a w := by
    intro p_10 hm a w hs
    unfold visorref17_Right.j1 at hm
    refine hK4 _ _ ?_
    refine Vk.condS (b := p_10) hs (by kernel_rfl) (by kernel_rfl) (fun hb => ?_) (fun hb => ?_)
    · replace hm := bif_t hm hb
      refine Vk.seq fun K11 hK11 => ?_
      refine Vk.region ?_
      refine Vk.pures 1 [(6, .bool false)] hs (by kernel_rfl) fun a hs => ?_
      replace hs := hs.pick [6] (L' := [(6, .bool false)]) (by kernel_rfl)
      refine Vk.done (by kernel_rfl) ?_
      refine hK11 _ _ ?_
      clear hK11
      refine wp_ret ?_
      exact Vk.ret1 (P := Try.prog) (fn := Try.f85) (R := visorref17_Right.R κ S x0 x1 x2 r) (.bool false) hs rfl (by kernel_rfl) (by obtain rfl := Option.some.inj hm; exact ⟨rfl, (Own.to hs.own [] 1 (by kernel_rfl) (by kernel_rfl))⟩)
    · replace hm := bif_f hm hb
      refine wp_skip ?_
      refine hK3 _ _ ?_
      clear hK3
      refine Vk.seq fun K12 hK12 => ?_
      refine Vk.region ?_
      refine Vk.pures 1 [(46, .pointer (some ⟨b_2, 2, none⟩))] hs (by kernel_rfl) fun a hs => ?_
      refine Vk.step (Vk.value (some 47) (.int .i64 x0.a) hs (by kernel_rfl) (op := (.load 3 (.tmp 46))) (by kernel_rfl) (fun o ho => run_load1 (b := b_2) (off := 2) (c := C.int .i64 x0.a) ho (by kernel_rfl) (by kernel_rfl) (Cell.own 0 rfl (by kernel_rfl)) _ hs.own) fun a hs => ?_)
      refine Vk.pures 1 [(48, .pointer (some ⟨b_2, 3, none⟩))] hs (by kernel_rfl) fun a hs => ?_
      refine Vk.step (Vk.value (some 49) (.int .i64 x0.b) hs (by kernel_rfl) (op := (.load 3 (.tmp 48))) (by kernel_rfl) (fun o ho => run_load1 (b := b_2) (off := 3) (c := C.int .i64 x0.b) ho (by kernel_rfl) (by kernel_rfl) (Cell.own 0 rfl (by kernel_rfl)) _ hs.own) fun a hs => ?_)
      refine Vk.pures 1 [(50, .pointer (some ⟨b_2, 4, none⟩))] hs (by kernel_rfl) fun a hs => ?_
      refine Vk.step (Vk.value (some 51) (.int .i64 x0.d) hs (by kernel_rfl) (op := (.load 3 (.tmp 50))) (by kernel_rfl) (fun o ho => run_load1 (b := b_2) (off := 4) (c := C.int .i64 x0.d) ho (by kernel_rfl) (by kernel_rfl) (Cell.own 0 rfl (by kernel_rfl)) _ hs.own) fun a hs => ?_)
      refine Vk.pures 1 [(52, .agg (vals [C.int .i64 x0.a, C.int .i64 x0.b, C.int .i64 x0.d]))] hs (by kernel_rfl) fun a hs => ?_
      refine Vk.step (Vk.alloc 7 63 [C.int .i64 0, C.int .i64 0, C.int .i64 0] hs (by kernel_rfl) (by kernel_rfl) (by kernel_rfl) fun b_13 w a hs => ?_)
      refine Vk.step (Vk.storeA (b := b_13) (ty := 63) (x := (.tmp 7)) (y := (.tmp 52)) (sz := 3) [C.int .i64 x0.a, C.int .i64 x0.b, C.int .i64 x0.d] 0 hs (by kernel_rfl) (by kernel_rfl) (by kernel_rfl) (by kernel_rfl) (by kernel_rfl) rfl (by kernel_rfl) rfl (Eq.trans (b := 3) rfl (Eq.symm rfl)) fun a w hs => ?_)
      replace hs := hs.pick [1, 2, 3, 7] (L' := [(1, .int .i64 x1), (2, .int .i64 x2), (3, .pointer (some ⟨b_2, 0, none⟩)), (7, .pointer (some ⟨b_13, 0, none⟩))]) (by kernel_rfl)
      refine Vk.done (by kernel_rfl) ?_
      refine hK12 _ _ ?_
      clear hK12
      refine Vk.seq fun K14 hK14 => ?_
      refine Vk.seq fun K15 hK15 => ?_
      refine Vk.region ?_
      refine Vk.pures 1 [(8, .int .i64 0)] hs (by kernel_rfl) fun a hs => ?_
      replace hs := hs.pick [1, 2, 3, 7, 8] (L' := [(1, .int .i64 x1), (2, .int .i64 x2), (3, .pointer (some ⟨b_2, 0, none⟩)), (7, .pointer (some ⟨b_13, 0, none⟩)), (8, .int .i64 0)]) (by kernel_rfl)
      refine Vk.done (by kernel_rfl) ?_
      refine hK15 _ _ ?_
      clear hK15
      refine wp_block ?_
      obtain ⟨r16, hl16, hm⟩ := bind_t hm
      have hx16 : r16 = Sum.inr () → ∀ (a : Act) (w : World), St 111 a w κ [(3, .pointer (some ⟨b_2, 0, none⟩))] (pt b_2 (blk (Tapi_Op.cells x0) 32) :: S) → K14 a w := by
        intro he a w hs
        subst r16
        refine hK14 _ _ ?_
        clear hK14
        refine Vk.seq fun K55 hK55 => ?_
        refine Vk.seq fun K56 hK56 => ?_
        refine Vk.region ?_
        refine Vk.pures 1 [(90, .pointer (some ⟨b_2, 0, none⟩))] hs (by kernel_rfl) fun a hs => ?_
        refine Vk.step (Vk.value (some 91) (.int .i64 x0.kind) hs (by kernel_rfl) (op := (.load 3 (.tmp 90))) (by kernel_rfl) (fun o ho => run_load1 (b := b_2) (off := 0) (c := C.int .i64 x0.kind) ho (by kernel_rfl) (by kernel_rfl) (Cell.own 0 rfl (by kernel_rfl)) _ hs.own) fun a hs => ?_)
        replace hs := hs.pick [3, 91] (L' := [(3, .pointer (some ⟨b_2, 0, none⟩)), (91, .int .i64 x0.kind)]) (by kernel_rfl)
        refine Vk.done (by kernel_rfl) ?_
        refine hK56 _ _ ?_
        clear hK56
        refine wp_block ?_
        refine Vk.seq fun K57 hK57 => ?_
        have hj57 : ∀ (p_60 : Bool), visorref17_Right.j2 k x0 p_60 = some r → ∀ (a : Act) (w : World), St 111 a w κ [(3, .pointer (some ⟨b_2, 0, none⟩)), (91, .int .i64 x0.kind), (92, .bool p_60)] (pt b_2 (blk (Tapi_Op.cells x0) 32) :: S) → K57 a w := by
          intro p_60 hm a w hs
          unfold visorref17_Right.j2 at hm
          refine hK57 _ _ ?_
          refine Vk.condS (b := p_60) hs (by kernel_rfl) (by kernel_rfl) (fun hb => ?_) (fun hb => ?_)
          · replace hm := bif_t hm hb
            refine Vk.seq fun K61 hK61 => ?_
            refine Vk.region ?_
            refine Vk.pures 1 [(96, .pointer (some ⟨b_2, 5, none⟩))] hs (by kernel_rfl) fun a hs => ?_
            refine Vk.step (Vk.value (some 97) (.int .u64 x0.c) hs (by kernel_rfl) (op := (.load 23 (.tmp 96))) (by kernel_rfl) (fun o ho => run_load1 (b := b_2) (off := 5) (c := C.int .u64 x0.c) ho (by kernel_rfl) (by kernel_rfl) (Cell.own 0 rfl (by kernel_rfl)) _ hs.own) fun a hs => ?_)
            refine Vk.pures 2 [(6, .bool (decide (x0.c < 64))), (98, .bool (decide (x0.c < 64)))] hs (by kernel_rfl) fun a hs => ?_
            replace hs := hs.pick [6] (L' := [(6, .bool (decide (x0.c < 64)))]) (by kernel_rfl)
            refine Vk.done (by kernel_rfl) ?_
            refine hK61 _ _ ?_
            clear hK61
            refine wp_ret ?_
            exact Vk.ret1 (P := Try.prog) (fn := Try.f85) (R := visorref17_Right.R κ S x0 x1 x2 r) (.bool (decide (x0.c < 64))) hs rfl (by kernel_rfl) (by obtain rfl := Option.some.inj hm; exact ⟨rfl, (Own.to hs.own [] 1 (by kernel_rfl) (by kernel_rfl))⟩)
          · replace hm := bif_f hm hb
            refine Vk.seq fun K62 hK62 => ?_
            refine Vk.region ?_
            refine Vk.pures 2 [(99, .bool (x0.kind == 2)), (100, .bool (x0.kind == 2))] hs (by kernel_rfl) fun a hs => ?_
            replace hs := hs.pick [3, 91, 99] (L' := [(3, .pointer (some ⟨b_2, 0, none⟩)), (91, .int .i64 x0.kind), (99, .bool (x0.kind == 2))]) (by kernel_rfl)
            refine Vk.done (by kernel_rfl) ?_
            refine hK62 _ _ ?_
            clear hK62
            refine Vk.condS (b := x0.kind == 2) hs (by kernel_rfl) (by kernel_rfl) (fun hb => ?_) (fun hb => ?_)
            · replace hm := bif_t hm hb
              refine Vk.seq fun K63 hK63 => ?_
              refine Vk.region ?_
              refine Vk.pures 1 [(101, .pointer (some ⟨b_2, 5, none⟩))] hs (by kernel_rfl) fun a hs => ?_
              refine Vk.step (Vk.value (some 102) (.int .u64 x0.c) hs (by kernel_rfl) (op := (.load 23 (.tmp 101))) (by kernel_rfl) (fun o ho => run_load1 (b := b_2) (off := 5) (c := C.int .u64 x0.c) ho (by kernel_rfl) (by kernel_rfl) (Cell.own 0 rfl (by kernel_rfl)) _ hs.own) fun a hs => ?_)
              refine Vk.pures 2 [(6, .bool (decide (x0.c < 1048576))), (103, .bool (decide (x0.c < 1048576)))] hs (by kernel_rfl) fun a hs => ?_
              replace hs := hs.pick [6] (L' := [(6, .bool (decide (x0.c < 1048576)))]) (by kernel_rfl)
              refine Vk.done (by kernel_rfl) ?_
              refine hK63 _ _ ?_
              clear hK63
              refine wp_ret ?_
              exact Vk.ret1 (P := Try.prog) (fn := Try.f85) (R := visorref17_Right.R κ S x0 x1 x2 r) (.bool (decide (x0.c < 1048576))) hs rfl (by kernel_rfl) (by obtain rfl := Option.some.inj hm; exact ⟨rfl, (Own.to hs.own [] 1 (by kernel_rfl) (by kernel_rfl))⟩)
            · replace hm := bif_f hm hb
              refine Vk.seq fun K64 hK64 => ?_
              have hj64 : ∀ (p_67 : Bool), visorref17_Right.j3 k x0 p_67 = some r → ∀ (a : Act) (w : World), St 111 a w κ [(3, .pointer (some ⟨b_2, 0, none⟩)), (104, .bool p_67)] (pt b_2 (blk (Tapi_Op.cells x0) 32) :: S) → K64 a w := by
                intro p_67 hm a w hs
                unfold visorref17_Right.j3 at hm
                refine hK64 _ _ ?_
                refine Vk.condS (b := p_67) hs (by kernel_rfl) (by kernel_rfl) (fun hb => ?_) (fun hb => ?_)
                · replace hm := bif_t hm hb
                  refine Vk.seq fun K68 hK68 => ?_
                  refine Vk.region ?_
                  refine Vk.pures 1 [(6, .bool true)] hs (by kernel_rfl) fun a hs => ?_
                  replace hs := hs.pick [6] (L' := [(6, .bool true)]) (by kernel_rfl)
                  refine Vk.done (by kernel_rfl) ?_
                  refine hK68 _ _ ?_
                  clear hK68
                  refine wp_ret ?_
                  exact Vk.ret1 (P := Try.prog) (fn := Try.f85) (R := visorref17_Right.R κ S x0 x1 x2 r) (.bool true) hs rfl (by kernel_rfl) (by obtain rfl := Option.some.inj hm; exact ⟨rfl, (Own.to hs.own [] 1 (by kernel_rfl) (by kernel_rfl))⟩)
                · replace hm := bif_f hm hb
                  refine wp_skip ?_
                  refine hK55 _ _ ?_
                  clear hK55
                  refine Vk.seq fun K69 hK69 => ?_
                  refine Vk.region ?_
                  refine Vk.pures 1 [(108, .pointer (some ⟨b_2, 5, none⟩))] hs (by kernel_rfl) fun a hs => ?_
                  refine Vk.step (Vk.value (some 109) (.int .u64 x0.c) hs (by kernel_rfl) (op := (.load 23 (.tmp 108))) (by kernel_rfl) (fun o ho => run_load1 (b := b_2) (off := 5) (c := C.int .u64 x0.c) ho (by kernel_rfl) (by kernel_rfl) (Cell.own 0 rfl (by kernel_rfl)) _ hs.own) fun a hs => ?_)
                  refine Vk.pures 2 [(6, .bool (x0.c == 0)), (110, .bool (x0.c == 0))] hs (by kernel_rfl) fun a hs => ?_
                  replace hs := hs.pick [6] (L' := [(6, .bool (x0.c == 0))]) (by kernel_rfl)
                  refine Vk.done (by kernel_rfl) ?_
                  refine hK69 _ _ ?_
                  clear hK69
                  refine wp_ret ?_
                  exact Vk.ret1 (P := Try.prog) (fn := Try.f85) (R := visorref17_Right.R κ S x0 x1 x2 r) (.bool (x0.c == 0)) hs rfl (by kernel_rfl) (by obtain rfl := Option.some.inj hm; exact ⟨rfl, (Own.to hs.own [] 1 (by kernel_rfl) (by kernel_rfl))⟩)
              refine Vk.seq fun K65 hK65 => ?_
              refine Vk.region ?_
              refine Vk.pures 2 [(104, .bool (x0.kind == 3)), (105, .bool (x0.kind == 3))] hs (by kernel_rfl) fun a hs => ?_
              replace hs := hs.pick [3, 91, 104] (L' := [(3, .pointer (some ⟨b_2, 0, none⟩)), (91, .int .i64 x0.kind), (104, .bool (x0.kind == 3))]) (by kernel_rfl)
              refine Vk.done (by kernel_rfl) ?_
              refine hK65 _ _ ?_
              clear hK65
              refine Vk.condS (b := x0.kind == 3) hs (by kernel_rfl) (by kernel_rfl) (fun hb => ?_) (fun hb => ?_)
              · replace hm := bif_t hm hb
                refine wp_skip ?_
                exact hj64 (x0.kind == 3) hm _ _ (hs.go [3, 104] [0] 1 (by kernel_rfl) (by kernel_rfl) (by kernel_rfl))
              · replace hm := bif_f hm hb
                refine Vk.seq fun K66 hK66 => ?_
                refine Vk.region ?_
                refine Vk.pures 2 [(104, .bool (x0.kind == 4)), (106, .bool (x0.kind == 4))] hs (by kernel_rfl) fun a hs => ?_
                replace hs := hs.pick [3, 91, 104] (L' := [(3, .pointer (some ⟨b_2, 0, none⟩)), (91, .int .i64 x0.kind), (104, .bool (x0.kind == 4))]) (by kernel_rfl)
                refine Vk.done (by kernel_rfl) ?_
                refine hK66 _ _ ?_
                clear hK66
                refine Vk.condS (b := x0.kind == 4) hs (by kernel_rfl) (by kernel_rfl) (fun hb => ?_) (fun hb => ?_)
                · replace hm := bif_t hm hb
                  refine wp_skip ?_
                  exact hj64 (x0.kind == 4) hm _ _ (hs.go [3, 104] [0] 1 (by kernel_rfl) (by kernel_rfl) (by kernel_rfl))
                · replace hm := bif_f hm hb
                  refine Vk.region ?_
                  refine Vk.pures 2 [(104, .bool (x0.kind == 8)), (107, .bool (x0.kind == 8))] hs (by kernel_rfl) fun a hs => ?_
                  replace hs := hs.pick [3, 104] (L' := [(3, .pointer (some ⟨b_2, 0, none⟩)), (104, .bool (x0.kind == 8))]) (by kernel_rfl)
                  refine Vk.done (by kernel_rfl) ?_
                  exact hj64 (x0.kind == 8) hm _ _ (hs.go [3, 104] [0] 1 (by kernel_rfl) (by kernel_rfl) (by kernel_rfl))
        refine Vk.seq fun K58 hK58 => ?_
        refine Vk.region ?_
        refine Vk.pures 2 [(92, .bool (x0.kind == 9)), (93, .bool (x0.kind == 9))] hs (by kernel_rfl) fun a hs => ?_
        replace hs := hs.pick [3, 91, 92] (L' := [(3, .pointer (some ⟨b_2, 0, none⟩)), (91, .int .i64 x0.kind), (92, .bool (x0.kind == 9))]) (by kernel_rfl)
        refine Vk.done (by kernel_rfl) ?_
        refine hK58 _ _ ?_
        clear hK58
        refine Vk.condS (b := x0.kind == 9) hs (by kernel_rfl) (by kernel_rfl) (fun hb => ?_) (fun hb => ?_)
        · replace hm := bif_t hm hb
          refine wp_skip ?_
          exact hj57 (x0.kind == 9) hm _ _ (hs.go [3, 91, 92] [0] 1 (by kernel_rfl) (by kernel_rfl) (by kernel_rfl))
        · replace hm := bif_f hm hb
          refine Vk.seq fun K59 hK59 => ?_
          refine Vk.region ?_
          refine Vk.pures 2 [(92, .bool (x0.kind == 10)), (94, .bool (x0.kind == 10))] hs (by kernel_rfl) fun a hs => ?_
          replace hs := hs.pick [3, 91, 92] (L' := [(3, .pointer (some ⟨b_2, 0, none⟩)), (91, .int .i64 x0.kind), (92, .bool (x0.kind == 10))]) (by kernel_rfl)
          refine Vk.done (by kernel_rfl) ?_
          refine hK59 _ _ ?_
          clear hK59
          refine Vk.condS (b := x0.kind == 10) hs (by kernel_rfl) (by kernel_rfl) (fun hb => ?_) (fun hb => ?_)
          · replace hm := bif_t hm hb
            refine wp_skip ?_
            exact hj57 (x0.kind == 10) hm _ _ (hs.go [3, 91, 92] [0] 1 (by kernel_rfl) (by kernel_rfl) (by kernel_rfl))
          · replace hm := bif_f hm hb
            refine Vk.region ?_
            refine Vk.pures 2 [(92, .bool (x0.kind == 11)), (95, .bool (x0.kind == 11))] hs (by kernel_rfl) fun a hs => ?_
            replace hs := hs.pick [3, 91, 92] (L' := [(3, .pointer (some ⟨b_2, 0, none⟩)), (91, .int .i64 x0.kind), (92, .bool (x0.kind == 11))]) (by kernel_rfl)
            refine Vk.done (by kernel_rfl) ?_
            exact hj57 (x0.kind == 11) hm _ _ (hs.go [3, 91, 92] [0] 1 (by kernel_rfl) (by kernel_rfl) (by kernel_rfl))
      have hret16 : ∀ v, r16 = Sum.inl v → v = r := by intro v he; subst r16; exact Option.some.inj hm
      refine Vk.loopBy (fun k (s : Int) a w => visorref17_Right.l1 x0 x1 x2 k s = some r16 ∧ St 111 a w κ [(1, .int .i64 x1), (2, .int .i64 x2), (3, .pointer (some ⟨b_2, 0, none⟩)), (7, .pointer (some ⟨b_13, 0, none⟩)), (8, .int .i64 s)] (pt b_2 (blk (Tapi_Op.cells x0) 32) :: pt b_13 (blk [C.int .i64 x0.a, C.int .i64 x0.b, C.int .i64 x0.d] 63) :: S)) k 0 ⟨hl16, hs.go [1, 2, 3, 7, 8] [1, 0] 2 (by kernel_rfl) (by kernel_rfl) (by kernel_rfl)⟩ (fun s a w h => by obtain ⟨h1, _⟩ := h; simp [visorref17_Right.l1] at h1) (fun k KL16 ih q_17 a w h => ?_)
      obtain ⟨hm, hs⟩ := h
      try dsimp only at hm hs
      rw [visorref17_Right.l1] at hm
      refine Vk.seq fun K18 hK18 => ?_
      refine Vk.seq fun K19 hK19 => ?_
      refine Vk.region ?_
      refine Vk.pures 2 [(54, .bool (decide (q_17 < 3))), (53, .int .i64 q_17)] hs (by kernel_rfl) fun a hs => ?_
      replace hs := hs.pick [1, 2, 3, 7, 8, 54] (L' := [(1, .int .i64 x1), (2, .int .i64 x2), (3, .pointer (some ⟨b_2, 0, none⟩)), (7, .pointer (some ⟨b_13, 0, none⟩)), (8, .int .i64 q_17), (54, .bool (decide (q_17 < 3)))]) (by kernel_rfl)
      refine Vk.done (by kernel_rfl) ?_
      refine hK19 _ _ ?_
      clear hK19
      refine Vk.condS (b := decide (q_17 < 3)) hs (by kernel_rfl) (by kernel_rfl) (fun hb => ?_) (fun hb => ?_)
      · replace hm := bif_t hm hb
        refine wp_skip ?_
        refine hK18 _ _ ?_
        clear hK18
        refine Vk.seq fun K20 hK20 => ?_
        refine wp_block ?_
        refine Vk.seq fun K21 hK21 => ?_
        refine Vk.region ?_
        refine Vk.pures 2 [(58, .pointer (some ⟨b_2, 0, none⟩)), (57, .int .i64 q_17)] hs (by kernel_rfl) fun a hs => ?_
        refine Vk.step (Vk.value (some 59) (.int .i64 x0.kind) hs (by kernel_rfl) (op := (.load 3 (.tmp 58))) (by kernel_rfl) (fun o ho => run_load1 (b := b_2) (off := 0) (c := C.int .i64 x0.kind) ho (by kernel_rfl) (by kernel_rfl) (Cell.own 0 rfl (by kernel_rfl)) _ hs.own) fun a hs => ?_)
        refine Vk.pures 1 [(60, .int .i64 x2)] hs (by kernel_rfl) fun a hs => ?_
        obtain ⟨v_24, h_23, hm⟩ := bind_t hm
        refine Vk.step (Vk.call (some 61) 118 #[.int .i64 x0.kind, .int .i64 x2] hs (by kernel_rfl) (by kernel_rfl) (by kernel_rfl) ?_)
        refine (visorref17_Regs.ok k x0.kind x2 v_24 h_23 κ w (pt b_2 (blk (Tapi_Op.cells x0) 32) :: pt b_13 (blk [C.int .i64 x0.a, C.int .i64 x0.b, C.int .i64 x0.d] 63) :: S) hs.own).mono ?_
        rintro _ w ⟨rfl, how⟩
        refine ⟨_, _, _, rfl, how, fun a hs => ?_⟩
        refine Vk.pures 2 [(63, .bool (decide (q_17 < v_24))), (62, .bool (decide (q_17 < v_24)))] hs (by kernel_rfl) fun a hs => ?_
        rcases Bool.eq_false_or_eq_true (decide (q_17 < v_24)) with hb | hb
        · replace hm := bif_t hm hb
          replace hs := hs.known (t := 63) hb (by kernel_rfl)
          refine Vk.pures 1 [(64, .int .i64 q_17)] hs (by kernel_rfl) fun a hs => ?_
          obtain ⟨h_26, hm⟩ := ite_t hm
          refine Vk.step (Vk.value (some 65) (.pointer (some ⟨b_13, 0 + q_17.toNat * 1, none⟩)) hs (by kernel_rfl) (op := (.indexAddr 63 (.tmp 7) (.tmp 64))) (by kernel_rfl) (fun o ho => run_idxArr (k := .i64) ho (by kernel_rfl) (by kernel_rfl) (by kernel_rfl) h_26 _) fun a hs => ?_)
          obtain ⟨v_28, h_27, hm⟩ := bind_t hm
          refine Vk.step (Vk.value (some 66) (.int .i64 v_28) hs (by kernel_rfl) (op := (.load 3 (.tmp 65))) (by kernel_rfl) (fun o ho => run_load1 (c := C.int .i64 v_28) ho (by kernel_rfl) (by kernel_rfl) (Cell.own 1 rfl (getI_some h_27)) _ hs.own) fun a hs => ?_)
          refine Vk.pures 2 [(68, .bool (decide (v_28 < 0))), (67, .bool (decide (v_28 < 0)))] hs (by kernel_rfl) fun a hs => ?_
          rcases Bool.eq_false_or_eq_true (decide (v_28 < 0)) with hb | hb
          · replace hm := bif_t hm hb
            replace hs := hs.known (t := 68) hb (by kernel_rfl)
            refine Vk.pures 21 [(89, .bool true), (88, undef), (87, undef), (86, undef), (85, undef), (84, undef), (83, undef), (82, undef), (81, undef), (80, undef), (79, undef), (78, undef), (77, undef), (76, .bool true), (75, .bool true), (74, .bool true), (73, undef), (72, undef), (71, undef), (70, undef), (69, undef)] hs (by kernel_rfl) fun a hs => ?_
            replace hs := hs.pick [1, 2, 3, 7, 8, 64, 65, 66, 67, 68, 74, 89] (L' := [(1, .int .i64 x1), (2, .int .i64 x2), (3, .pointer (some ⟨b_2, 0, none⟩)), (7, .pointer (some ⟨b_13, 0, none⟩)), (8, .int .i64 q_17), (64, .int .i64 q_17), (65, .pointer (some ⟨b_13, 0 + q_17.toNat * 1, none⟩)), (66, .int .i64 v_28), (67, .bool (decide (v_28 < 0))), (68, .bool true), (74, .bool true), (89, .bool true)]) (by kernel_rfl)
            refine Vk.done (by kernel_rfl) ?_
            refine hK21 _ _ ?_
            refine Vk.condT hs (by kernel_rfl) (by kernel_rfl) ?_
            refine Vk.seq fun K47 hK47 => ?_
            refine Vk.region ?_
            refine Vk.pures 1 [(6, .bool false)] hs (by kernel_rfl) fun a hs => ?_
            replace hs := hs.pick [6] (L' := [(6, .bool false)]) (by kernel_rfl)
            refine Vk.done (by kernel_rfl) ?_
            refine hK47 _ _ ?_
            clear hK47
            refine wp_ret ?_
            exact Vk.ret1 (P := Try.prog) (fn := Try.f85) (R := visorref17_Right.R κ S x0 x1 x2 r) (.bool false) hs rfl (by kernel_rfl) (by obtain rfl := hret16 _ ((Option.some.inj hm).symm); exact ⟨rfl, (Own.to hs.own [] 2 (by kernel_rfl) (by kernel_rfl))⟩)
          · replace hm := bif_f hm hb
            replace hs := hs.known (t := 68) hb (by kernel_rfl)
            refine Vk.pures 1 [(69, .int .i64 q_17)] hs (by kernel_rfl) fun a hs => ?_
            obtain ⟨h_30, hm⟩ := ite_t hm
            refine Vk.step (Vk.value (some 70) (.pointer (some ⟨b_13, 0 + q_17.toNat * 1, none⟩)) hs (by kernel_rfl) (op := (.indexAddr 63 (.tmp 7) (.tmp 69))) (by kernel_rfl) (fun o ho => run_idxArr (k := .i64) ho (by kernel_rfl) (by kernel_rfl) (by kernel_rfl) h_30 _) fun a hs => ?_)
            obtain ⟨v_32, h_31, hm⟩ := bind_t hm
            refine Vk.step (Vk.value (some 71) (.int .i64 v_32) hs (by kernel_rfl) (op := (.load 3 (.tmp 70))) (by kernel_rfl) (fun o ho => run_load1 (c := C.int .i64 v_32) ho (by kernel_rfl) (by kernel_rfl) (Cell.own 1 rfl (getI_some h_31)) _ hs.own) fun a hs => ?_)
            refine Vk.pures 5 [(76, .bool (decide (v_32 ≥ x1))), (75, .bool (decide (v_32 ≥ x1))), (74, .bool (decide (v_32 ≥ x1))), (73, .bool (decide (v_32 ≥ x1))), (72, .int .i64 x1)] hs (by kernel_rfl) fun a hs => ?_
            rcases Bool.eq_false_or_eq_true (decide (v_32 ≥ x1)) with hb | hb
            · replace hm := bif_t hm hb
              replace hs := hs.known (t := 76) hb (by kernel_rfl)
              refine Vk.pures 13 [(89, .bool true), (88, undef), (87, undef), (86, undef), (85, undef), (84, undef), (83, undef), (82, undef), (81, undef), (80, undef), (79, undef), (78, undef), (77, undef)] hs (by kernel_rfl) fun a hs => ?_
              replace hs := hs.pick [1, 2, 3, 7, 8, 64, 65, 66, 67, 68, 69, 70, 71, 72, 73, 74, 89] (L' := [(1, .int .i64 x1), (2, .int .i64 x2), (3, .pointer (some ⟨b_2, 0, none⟩)), (7, .pointer (some ⟨b_13, 0, none⟩)), (8, .int .i64 q_17), (64, .int .i64 q_17), (65, .pointer (some ⟨b_13, 0 + q_17.toNat * 1, none⟩)), (66, .int .i64 v_28), (67, .bool (decide (v_28 < 0))), (68, .bool false), (69, .int .i64 q_17), (70, .pointer (some ⟨b_13, 0 + q_17.toNat * 1, none⟩)), (71, .int .i64 v_32), (72, .int .i64 x1), (73, .bool (decide (v_32 ≥ x1))), (74, .bool (decide (v_32 ≥ x1))), (89, .bool true)]) (by kernel_rfl)
              refine Vk.done (by kernel_rfl) ?_
              refine hK21 _ _ ?_
              refine Vk.condT hs (by kernel_rfl) (by kernel_rfl) ?_
              refine Vk.seq fun K48 hK48 => ?_
              refine Vk.region ?_
              refine Vk.pures 1 [(6, .bool false)] hs (by kernel_rfl) fun a hs => ?_
              replace hs := hs.pick [6] (L' := [(6, .bool false)]) (by kernel_rfl)
              refine Vk.done (by kernel_rfl) ?_
              refine hK48 _ _ ?_
              clear hK48
              refine wp_ret ?_
              exact Vk.ret1 (P := Try.prog) (fn := Try.f85) (R := visorref17_Right.R κ S x0 x1 x2 r) (.bool false) hs rfl (by kernel_rfl) (by obtain rfl := hret16 _ ((Option.some.inj hm).symm); exact ⟨rfl, (Own.to hs.own [] 2 (by kernel_rfl) (by kernel_rfl))⟩)
            · replace hm := bif_f hm hb
              replace hs := hs.known (t := 76) hb (by kernel_rfl)
              refine Vk.pures 2 [(78, .pointer (some ⟨b_2, 0, none⟩)), (77, .int .i64 q_17)] hs (by kernel_rfl) fun a hs => ?_
              refine Vk.step (Vk.value (some 79) (.int .i64 x0.kind) hs (by kernel_rfl) (op := (.load 3 (.tmp 78))) (by kernel_rfl) (fun o ho => run_load1 (b := b_2) (off := 0) (c := C.int .i64 x0.kind) ho (by kernel_rfl) (by kernel_rfl) (Cell.own 0 rfl (by kernel_rfl)) _ hs.own) fun a hs => ?_)
              refine Vk.pures 1 [(80, .int .i64 x2)] hs (by kernel_rfl) fun a hs => ?_
              obtain ⟨v_35, h_34, hm⟩ := bind_t hm
              refine Vk.step (Vk.call (some 81) 118 #[.int .i64 x0.kind, .int .i64 x2] hs (by kernel_rfl) (by kernel_rfl) (by kernel_rfl) ?_)
              refine (visorref17_Regs.ok k x0.kind x2 v_35 h_34 κ w (pt b_2 (blk (Tapi_Op.cells x0) 32) :: pt b_13 (blk [C.int .i64 x0.a, C.int .i64 x0.b, C.int .i64 x0.d] 63) :: S) hs.own).mono ?_
              rintro _ w ⟨rfl, how⟩
              refine ⟨_, _, _, rfl, how, fun a hs => ?_⟩
              refine Vk.pures 2 [(83, .bool (decide (q_17 ≥ v_35))), (82, .bool (decide (q_17 ≥ v_35)))] hs (by kernel_rfl) fun a hs => ?_
              rcases Bool.eq_false_or_eq_true (decide (q_17 ≥ v_35)) with hb | hb
              · replace hm := bif_t hm hb
                replace hs := hs.known (t := 83) hb (by kernel_rfl)
                refine Vk.pures 1 [(84, .int .i64 q_17)] hs (by kernel_rfl) fun a hs => ?_
                obtain ⟨h_37, hm⟩ := ite_t hm
                refine Vk.step (Vk.value (some 85) (.pointer (some ⟨b_13, 0 + q_17.toNat * 1, none⟩)) hs (by kernel_rfl) (op := (.indexAddr 63 (.tmp 7) (.tmp 84))) (by kernel_rfl) (fun o ho => run_idxArr (k := .i64) ho (by kernel_rfl) (by kernel_rfl) (by kernel_rfl) h_37 _) fun a hs => ?_)
                obtain ⟨v_39, h_38, hm⟩ := bind_t hm
                refine Vk.step (Vk.value (some 86) (.int .i64 v_39) hs (by kernel_rfl) (op := (.load 3 (.tmp 85))) (by kernel_rfl) (fun o ho => run_load1 (c := C.int .i64 v_39) ho (by kernel_rfl) (by kernel_rfl) (Cell.own 1 rfl (getI_some h_38)) _ hs.own) fun a hs => ?_)
                refine Vk.pures 3 [(89, .bool (v_39 != (-1))), (88, .bool (v_39 != (-1))), (87, .bool (v_39 != (-1)))] hs (by kernel_rfl) fun a hs => ?_
                replace hs := hs.pick [1, 2, 3, 7, 8, 64, 65, 66, 67, 68, 69, 70, 71, 72, 73, 74, 77, 78, 79, 80, 81, 82, 83, 84, 85, 86, 87, 88, 89] (L' := [(1, .int .i64 x1), (2, .int .i64 x2), (3, .pointer (some ⟨b_2, 0, none⟩)), (7, .pointer (some ⟨b_13, 0, none⟩)), (8, .int .i64 q_17), (64, .int .i64 q_17), (65, .pointer (some ⟨b_13, 0 + q_17.toNat * 1, none⟩)), (66, .int .i64 v_28), (67, .bool (decide (v_28 < 0))), (68, .bool false), (69, .int .i64 q_17), (70, .pointer (some ⟨b_13, 0 + q_17.toNat * 1, none⟩)), (71, .int .i64 v_32), (72, .int .i64 x1), (73, .bool (decide (v_32 ≥ x1))), (74, .bool (decide (v_32 ≥ x1))), (77, .int .i64 q_17), (78, .pointer (some ⟨b_2, 0, none⟩)), (79, .int .i64 x0.kind), (80, .int .i64 x2), (81, .int .i64 v_35), (82, .bool (decide (q_17 ≥ v_35))), (83, .bool true), (84, .int .i64 q_17), (85, .pointer (some ⟨b_13, 0 + q_17.toNat * 1, none⟩)), (86, .int .i64 v_39), (87, .bool (v_39 != (-1))), (88, .bool (v_39 != (-1))), (89, .bool (v_39 != (-1)))]) (by kernel_rfl)
                refine Vk.done (by kernel_rfl) ?_
                refine hK21 _ _ ?_
                refine Vk.condS (b := v_39 != (-1)) hs (by kernel_rfl) (by kernel_rfl) (fun hb => ?_) (fun hb => ?_)
                · replace hm := bif_t hm hb
                  refine Vk.seq fun K49 hK49 => ?_
                  refine Vk.region ?_
                  refine Vk.pures 1 [(6, .bool false)] hs (by kernel_rfl) fun a hs => ?_
                  replace hs := hs.pick [6] (L' := [(6, .bool false)]) (by kernel_rfl)
                  refine Vk.done (by kernel_rfl) ?_
                  refine hK49 _ _ ?_
                  clear hK49
                  refine wp_ret ?_
                  exact Vk.ret1 (P := Try.prog) (fn := Try.f85) (R := visorref17_Right.R κ S x0 x1 x2 r) (.bool false) hs rfl (by kernel_rfl) (by obtain rfl := hret16 _ ((Option.some.inj hm).symm); exact ⟨rfl, (Own.to hs.own [] 2 (by kernel_rfl) (by kernel_rfl))⟩)
                · replace hm := bif_f hm hb
                  refine wp_skip ?_
                  refine hK20 _ _ ?_
                  refine Vk.region ?_
                  refine Vk.pures 3 [(8, .int .i64 (IntKind.i64.wrap (q_17 + 1))), (56, .int .i64 (IntKind.i64.wrap (q_17 + 1))), (55, .int .i64 q_17)] hs (by kernel_rfl) fun a hs => ?_
                  replace hs := hs.pick [1, 2, 3, 7, 8, 64, 65, 66, 67, 68, 69, 70, 71, 72, 73, 74, 77, 78, 79, 80, 81, 82, 83, 84, 85, 86, 87, 88] (L' := [(1, .int .i64 x1), (2, .int .i64 x2), (3, .pointer (some ⟨b_2, 0, none⟩)), (7, .pointer (some ⟨b_13, 0, none⟩)), (8, .int .i64 (IntKind.i64.wrap (q_17 + 1))), (64, .int .i64 q_17), (65, .pointer (some ⟨b_13, 0 + q_17.toNat * 1, none⟩)), (66, .int .i64 v_28), (67, .bool (decide (v_28 < 0))), (68, .bool false), (69, .int .i64 q_17), (70, .pointer (some ⟨b_13, 0 + q_17.toNat * 1, none⟩)), (71, .int .i64 v_32), (72, .int .i64 x1), (73, .bool (decide (v_32 ≥ x1))), (74, .bool (decide (v_32 ≥ x1))), (77, .int .i64 q_17), (78, .pointer (some ⟨b_2, 0, none⟩)), (79, .int .i64 x0.kind), (80, .int .i64 x2), (81, .int .i64 v_35), (82, .bool (decide (q_17 ≥ v_35))), (83, .bool true), (84, .int .i64 q_17), (85, .pointer (some ⟨b_13, 0 + q_17.toNat * 1, none⟩)), (86, .int .i64 v_39), (87, .bool (v_39 != (-1))), (88, .bool (v_39 != (-1)))]) (by kernel_rfl)
                  refine Vk.done (by kernel_rfl) ?_
                  refine ih (IntKind.i64.wrap (q_17 + 1)) _ _ ⟨hm, hs.go [1, 2, 3, 7, 8] [0, 1] 2 (by kernel_rfl) (by kernel_rfl) (by kernel_rfl)⟩
              · replace hm := bif_f hm hb
                replace hs := hs.known (t := 83) hb (by kernel_rfl)
                refine Vk.pures 6 [(89, .bool false), (88, .bool false), (87, undef), (86, undef), (85, undef), (84, undef)] hs (by kernel_rfl) fun a hs => ?_
                replace hs := hs.pick [1, 2, 3, 7, 8, 64, 65, 66, 67, 68, 69, 70, 71, 72, 73, 74, 77, 78, 79, 80, 81, 82, 83, 88, 89] (L' := [(1, .int .i64 x1), (2, .int .i64 x2), (3, .pointer (some ⟨b_2, 0, none⟩)), (7, .pointer (some ⟨b_13, 0, none⟩)), (8, .int .i64 q_17), (64, .int .i64 q_17), (65, .pointer (some ⟨b_13, 0 + q_17.toNat * 1, none⟩)), (66, .int .i64 v_28), (67, .bool (decide (v_28 < 0))), (68, .bool false), (69, .int .i64 q_17), (70, .pointer (some ⟨b_13, 0 + q_17.toNat * 1, none⟩)), (71, .int .i64 v_32), (72, .int .i64 x1), (73, .bool (decide (v_32 ≥ x1))), (74, .bool (decide (v_32 ≥ x1))), (77, .int .i64 q_17), (78, .pointer (some ⟨b_2, 0, none⟩)), (79, .int .i64 x0.kind), (80, .int .i64 x2), (81, .int .i64 v_35), (82, .bool (decide (q_17 ≥ v_35))), (83, .bool false), (88, .bool false), (89, .bool false)]) (by kernel_rfl)
                refine Vk.done (by kernel_rfl) ?_
                refine hK21 _ _ ?_
                refine Vk.condF hs (by kernel_rfl) (by kernel_rfl) ?_
                refine wp_skip ?_
                refine hK20 _ _ ?_
                refine Vk.region ?_
                refine Vk.pures 3 [(8, .int .i64 (IntKind.i64.wrap (q_17 + 1))), (56, .int .i64 (IntKind.i64.wrap (q_17 + 1))), (55, .int .i64 q_17)] hs (by kernel_rfl) fun a hs => ?_
                replace hs := hs.pick [1, 2, 3, 7, 8, 64, 65, 66, 67, 68, 69, 70, 71, 72, 73, 74, 77, 78, 79, 80, 81, 82, 83, 88] (L' := [(1, .int .i64 x1), (2, .int .i64 x2), (3, .pointer (some ⟨b_2, 0, none⟩)), (7, .pointer (some ⟨b_13, 0, none⟩)), (8, .int .i64 (IntKind.i64.wrap (q_17 + 1))), (64, .int .i64 q_17), (65, .pointer (some ⟨b_13, 0 + q_17.toNat * 1, none⟩)), (66, .int .i64 v_28), (67, .bool (decide (v_28 < 0))), (68, .bool false), (69, .int .i64 q_17), (70, .pointer (some ⟨b_13, 0 + q_17.toNat * 1, none⟩)), (71, .int .i64 v_32), (72, .int .i64 x1), (73, .bool (decide (v_32 ≥ x1))), (74, .bool (decide (v_32 ≥ x1))), (77, .int .i64 q_17), (78, .pointer (some ⟨b_2, 0, none⟩)), (79, .int .i64 x0.kind), (80, .int .i64 x2), (81, .int .i64 v_35), (82, .bool (decide (q_17 ≥ v_35))), (83, .bool false), (88, .bool false)]) (by kernel_rfl)
                refine Vk.done (by kernel_rfl) ?_
                refine ih (IntKind.i64.wrap (q_17 + 1)) _ _ ⟨hm, hs.go [1, 2, 3, 7, 8] [0, 1] 2 (by kernel_rfl) (by kernel_rfl) (by kernel_rfl)⟩
        · replace hm := bif_f hm hb
          replace hs := hs.known (t := 63) hb (by kernel_rfl)
          refine Vk.pures 15 [(78, .pointer (some ⟨b_2, 0, none⟩)), (77, .int .i64 q_17), (76, .bool false), (75, .bool false), (74, undef), (73, undef), (72, undef), (71, undef), (70, undef), (69, undef), (68, undef), (67, undef), (66, undef), (65, undef), (64, undef)] hs (by kernel_rfl) fun a hs => ?_
          refine Vk.step (Vk.value (some 79) (.int .i64 x0.kind) hs (by kernel_rfl) (op := (.load 3 (.tmp 78))) (by kernel_rfl) (fun o ho => run_load1 (b := b_2) (off := 0) (c := C.int .i64 x0.kind) ho (by kernel_rfl) (by kernel_rfl) (Cell.own 0 rfl (by kernel_rfl)) _ hs.own) fun a hs => ?_)
          refine Vk.pures 1 [(80, .int .i64 x2)] hs (by kernel_rfl) fun a hs => ?_
          obtain ⟨v_42, h_41, hm⟩ := bind_t hm
          refine Vk.step (Vk.call (some 81) 118 #[.int .i64 x0.kind, .int .i64 x2] hs (by kernel_rfl) (by kernel_rfl) (by kernel_rfl) ?_)
          refine (visorref17_Regs.ok k x0.kind x2 v_42 h_41 κ w (pt b_2 (blk (Tapi_Op.cells x0) 32) :: pt b_13 (blk [C.int .i64 x0.a, C.int .i64 x0.b, C.int .i64 x0.d] 63) :: S) hs.own).mono ?_
          rintro _ w ⟨rfl, how⟩
          refine ⟨_, _, _, rfl, how, fun a hs => ?_⟩
          refine Vk.pures 2 [(83, .bool (decide (q_17 ≥ v_42))), (82, .bool (decide (q_17 ≥ v_42)))] hs (by kernel_rfl) fun a hs => ?_
          rcases Bool.eq_false_or_eq_true (decide (q_17 ≥ v_42)) with hb | hb
          · replace hm := bif_t hm hb
            replace hs := hs.known (t := 83) hb (by kernel_rfl)
            refine Vk.pures 1 [(84, .int .i64 q_17)] hs (by kernel_rfl) fun a hs => ?_
            obtain ⟨h_44, hm⟩ := ite_t hm
            refine Vk.step (Vk.value (some 85) (.pointer (some ⟨b_13, 0 + q_17.toNat * 1, none⟩)) hs (by kernel_rfl) (op := (.indexAddr 63 (.tmp 7) (.tmp 84))) (by kernel_rfl) (fun o ho => run_idxArr (k := .i64) ho (by kernel_rfl) (by kernel_rfl) (by kernel_rfl) h_44 _) fun a hs => ?_)
            obtain ⟨v_46, h_45, hm⟩ := bind_t hm
            refine Vk.step (Vk.value (some 86) (.int .i64 v_46) hs (by kernel_rfl) (op := (.load 3 (.tmp 85))) (by kernel_rfl) (fun o ho => run_load1 (c := C.int .i64 v_46) ho (by kernel_rfl) (by kernel_rfl) (Cell.own 1 rfl (getI_some h_45)) _ hs.own) fun a hs => ?_)
            refine Vk.pures 3 [(89, .bool (v_46 != (-1))), (88, .bool (v_46 != (-1))), (87, .bool (v_46 != (-1)))] hs (by kernel_rfl) fun a hs => ?_
            replace hs := hs.pick [1, 2, 3, 7, 8, 77, 78, 79, 80, 81, 82, 83, 84, 85, 86, 87, 88, 89] (L' := [(1, .int .i64 x1), (2, .int .i64 x2), (3, .pointer (some ⟨b_2, 0, none⟩)), (7, .pointer (some ⟨b_13, 0, none⟩)), (8, .int .i64 q_17), (77, .int .i64 q_17), (78, .pointer (some ⟨b_2, 0, none⟩)), (79, .int .i64 x0.kind), (80, .int .i64 x2), (81, .int .i64 v_42), (82, .bool (decide (q_17 ≥ v_42))), (83, .bool true), (84, .int .i64 q_17), (85, .pointer (some ⟨b_13, 0 + q_17.toNat * 1, none⟩)), (86, .int .i64 v_46), (87, .bool (v_46 != (-1))), (88, .bool (v_46 != (-1))), (89, .bool (v_46 != (-1)))]) (by kernel_rfl)
            refine Vk.done (by kernel_rfl) ?_
            refine hK21 _ _ ?_
            refine Vk.condS (b := v_46 != (-1)) hs (by kernel_rfl) (by kernel_rfl) (fun hb => ?_) (fun hb => ?_)
            · replace hm := bif_t hm hb
              refine Vk.seq fun K50 hK50 => ?_
              refine Vk.region ?_
              refine Vk.pures 1 [(6, .bool false)] hs (by kernel_rfl) fun a hs => ?_
              replace hs := hs.pick [6] (L' := [(6, .bool false)]) (by kernel_rfl)
              refine Vk.done (by kernel_rfl) ?_
              refine hK50 _ _ ?_
              clear hK50
              refine wp_ret ?_
              exact Vk.ret1 (P := Try.prog) (fn := Try.f85) (R := visorref17_Right.R κ S x0 x1 x2 r) (.bool false) hs rfl (by kernel_rfl) (by obtain rfl := hret16 _ ((Option.some.inj hm).symm); exact ⟨rfl, (Own.to hs.own [] 2 (by kernel_rfl) (by kernel_rfl))⟩)
            · replace hm := bif_f hm hb
              refine wp_skip ?_
              refine hK20 _ _ ?_
              refine Vk.region ?_
              refine Vk.pures 3 [(8, .int .i64 (IntKind.i64.wrap (q_17 + 1))), (56, .int .i64 (IntKind.i64.wrap (q_17 + 1))), (55, .int .i64 q_17)] hs (by kernel_rfl) fun a hs => ?_
              replace hs := hs.pick [1, 2, 3, 7, 8, 77, 78, 79, 80, 81, 82, 83, 84, 85, 86, 87, 88] (L' := [(1, .int .i64 x1), (2, .int .i64 x2), (3, .pointer (some ⟨b_2, 0, none⟩)), (7, .pointer (some ⟨b_13, 0, none⟩)), (8, .int .i64 (IntKind.i64.wrap (q_17 + 1))), (77, .int .i64 q_17), (78, .pointer (some ⟨b_2, 0, none⟩)), (79, .int .i64 x0.kind), (80, .int .i64 x2), (81, .int .i64 v_42), (82, .bool (decide (q_17 ≥ v_42))), (83, .bool true), (84, .int .i64 q_17), (85, .pointer (some ⟨b_13, 0 + q_17.toNat * 1, none⟩)), (86, .int .i64 v_46), (87, .bool (v_46 != (-1))), (88, .bool (v_46 != (-1)))]) (by kernel_rfl)
              refine Vk.done (by kernel_rfl) ?_
              refine ih (IntKind.i64.wrap (q_17 + 1)) _ _ ⟨hm, hs.go [1, 2, 3, 7, 8] [0, 1] 2 (by kernel_rfl) (by kernel_rfl) (by kernel_rfl)⟩
          · replace hm := bif_f hm hb
            replace hs := hs.known (t := 83) hb (by kernel_rfl)
            refine Vk.pures 6 [(89, .bool false), (88, .bool false), (87, undef), (86, undef), (85, undef), (84, undef)] hs (by kernel_rfl) fun a hs => ?_
            replace hs := hs.pick [1, 2, 3, 7, 8, 77, 78, 79, 80, 81, 82, 83, 88, 89] (L' := [(1, .int .i64 x1), (2, .int .i64 x2), (3, .pointer (some ⟨b_2, 0, none⟩)), (7, .pointer (some ⟨b_13, 0, none⟩)), (8, .int .i64 q_17), (77, .int .i64 q_17), (78, .pointer (some ⟨b_2, 0, none⟩)), (79, .int .i64 x0.kind), (80, .int .i64 x2), (81, .int .i64 v_42), (82, .bool (decide (q_17 ≥ v_42))), (83, .bool false), (88, .bool false), (89, .bool false)]) (by kernel_rfl)
            refine Vk.done (by kernel_rfl) ?_
            refine hK21 _ _ ?_
            refine Vk.condF hs (by kernel_rfl) (by kernel_rfl) ?_
            refine wp_skip ?_
            refine hK20 _ _ ?_
            refine Vk.region ?_
            refine Vk.pures 3 [(8, .int .i64 (IntKind.i64.wrap (q_17 + 1))), (56, .int .i64 (IntKind.i64.wrap (q_17 + 1))), (55, .int .i64 q_17)] hs (by kernel_rfl) fun a hs => ?_
            replace hs := hs.pick [1, 2, 3, 7, 8, 77, 78, 79, 80, 81, 82, 83, 88] (L' := [(1, .int .i64 x1), (2, .int .i64 x2), (3, .pointer (some ⟨b_2, 0, none⟩)), (7, .pointer (some ⟨b_13, 0, none⟩)), (8, .int .i64 (IntKind.i64.wrap (q_17 + 1))), (77, .int .i64 q_17), (78, .pointer (some ⟨b_2, 0, none⟩)), (79, .int .i64 x0.kind), (80, .int .i64 x2), (81, .int .i64 v_42), (82, .bool (decide (q_17 ≥ v_42))), (83, .bool false), (88, .bool false)]) (by kernel_rfl)
            refine Vk.done (by kernel_rfl) ?_
            refine ih (IntKind.i64.wrap (q_17 + 1)) _ _ ⟨hm, hs.go [1, 2, 3, 7, 8] [0, 1] 2 (by kernel_rfl) (by kernel_rfl) (by kernel_rfl)⟩
      · replace hm := bif_f hm hb
        refine wp_exit ?_
        exact hx16 (Option.some.inj hm).symm _ _ (hs.go [3] [0] 2 (by kernel_rfl) (by kernel_rfl) (by kernel_rfl))
  refine Vk.region ?_
  refine Vk.pures 3 [(11, .bool (x2 != 2)), (10, .bool (x2 != 2)), (9, .int .i64 x2)] hs (by kernel_rfl) fun a hs => ?_
  suffices hj_5 : ∀ a, St 111 a w κ [(1, .int .i64 x1), (2, .int .i64 x2), (3, .pointer (some ⟨b_2, 0, none⟩)), (9, .int .i64 x2), (10, .bool (x2 != 2)), (11, .bool (x2 != 2)), (14, .bool ((x2 != 2) && (x2 != 3)))] (pt b_2 (blk (Tapi_Op.cells x0) 32) :: S) → wpFrom Try.prog _ _ 6 a w by
    rcases Bool.eq_false_or_eq_true (x2 != 2) with hb | hb
    · replace hs := hs.known (t := 11) hb (by kernel_rfl)
      refine Vk.pures 3 [(14, .bool (x2 != 3)), (13, .bool (x2 != 3)), (12, .int .i64 x2)] hs (by kernel_rfl) fun a hs => ?_
      have hq := hs.pick [1, 2, 3, 9, 10, 11, 14] (L' := [(1, .int .i64 x1), (2, .int .i64 x2), (3, .pointer (some ⟨b_2, 0, none⟩)), (9, .int .i64 x2), (10, .bool (x2 != 2)), (11, .bool true), (14, .bool (x2 != 3))]) (by kernel_rfl)
      exact hj_5 _ (hq.conv (by first | (rw [hb] <;> rfl) | rfl))
    · replace hs := hs.known (t := 11) hb (by kernel_rfl)
      refine Vk.pures 3 [(14, .bool false), (13, undef), (12, undef)] hs (by kernel_rfl) fun a hs => ?_
      have hq := hs.pick [1, 2, 3, 9, 10, 11, 14] (L' := [(1, .int .i64 x1), (2, .int .i64 x2), (3, .pointer (some ⟨b_2, 0, none⟩)), (9, .int .i64 x2), (10, .bool (x2 != 2)), (11, .bool false), (14, .bool false)]) (by kernel_rfl)
      exact hj_5 _ (hq.conv (by first | (rw [hb] <;> rfl) | rfl))
  intro a hs
  refine Vk.pures 1 [(15, .bool ((x2 != 2) && (x2 != 3)))] hs (by kernel_rfl) fun a hs => ?_
  suffices hj_6 : ∀ a, St 111 a w κ [(1, .int .i64 x1), (2, .int .i64 x2), (3, .pointer (some ⟨b_2, 0, none⟩)), (9, .int .i64 x2), (10, .bool (x2 != 2)), (11, .bool (x2 != 2)), (14, .bool ((x2 != 2) && (x2 != 3))), (15, .bool ((x2 != 2) && (x2 != 3))), (19, .bool (((x2 != 2) && (x2 != 3)) || (decide (x0.kind < 1))))] (pt b_2 (blk (Tapi_Op.cells x0) 32) :: S) → wpFrom Try.prog _ _ 11 a w by
    rcases Bool.eq_false_or_eq_true ((x2 != 2) && (x2 != 3)) with hb | hb
    · replace hs := hs.known (t := 15) hb (by kernel_rfl)
      refine Vk.pures 4 [(19, .bool true), (18, undef), (17, undef), (16, undef)] hs (by kernel_rfl) fun a hs => ?_
      have hq := hs.pick [1, 2, 3, 9, 10, 11, 14, 15, 19] (L' := [(1, .int .i64 x1), (2, .int .i64 x2), (3, .pointer (some ⟨b_2, 0, none⟩)), (9, .int .i64 x2), (10, .bool (x2 != 2)), (11, .bool (x2 != 2)), (14, .bool ((x2 != 2) && (x2 != 3))), (15, .bool true), (19, .bool true)]) (by kernel_rfl)
      exact hj_6 _ (hq.conv (by first | (rw [hb] <;> rfl) | rfl))
    · replace hs := hs.known (t := 15) hb (by kernel_rfl)
      refine Vk.pures 1 [(16, .pointer (some ⟨b_2, 0, none⟩))] hs (by kernel_rfl) fun a hs => ?_
      refine Vk.step (Vk.value (some 17) (.int .i64 x0.kind) hs (by kernel_rfl) (op := (.load 3 (.tmp 16))) (by kernel_rfl) (fun o ho => run_load1 (b := b_2) (off := 0) (c := C.int .i64 x0.kind) ho (by kernel_rfl) (by kernel_rfl) (Cell.own 0 rfl (by kernel_rfl)) _ hs.own) fun a hs => ?_)
      refine Vk.pures 2 [(19, .bool (decide (x0.kind < 1))), (18, .bool (decide (x0.kind < 1)))] hs (by kernel_rfl) fun a hs => ?_
      have hq := hs.pick [1, 2, 3, 9, 10, 11, 14, 15, 19] (L' := [(1, .int .i64 x1), (2, .int .i64 x2), (3, .pointer (some ⟨b_2, 0, none⟩)), (9, .int .i64 x2), (10, .bool (x2 != 2)), (11, .bool (x2 != 2)), (14, .bool ((x2 != 2) && (x2 != 3))), (15, .bool false), (19, .bool (decide (x0.kind < 1)))]) (by kernel_rfl)
      exact hj_6 _ (hq.conv (by first | (rw [hb] <;> rfl) | rfl))
  intro a hs
  refine Vk.pures 1 [(20, .bool (((x2 != 2) && (x2 != 3)) || (decide (x0.kind < 1))))] hs (by kernel_rfl) fun a hs => ?_
  suffices hj_7 : ∀ a, St 111 a w κ [(1, .int .i64 x1), (2, .int .i64 x2), (3, .pointer (some ⟨b_2, 0, none⟩)), (9, .int .i64 x2), (10, .bool (x2 != 2)), (11, .bool (x2 != 2)), (14, .bool ((x2 != 2) && (x2 != 3))), (15, .bool ((x2 != 2) && (x2 != 3))), (19, .bool (((x2 != 2) && (x2 != 3)) || (decide (x0.kind < 1)))), (20, .bool (((x2 != 2) && (x2 != 3)) || (decide (x0.kind < 1)))), (24, .bool ((((x2 != 2) && (x2 != 3)) || (decide (x0.kind < 1))) || (decide (x0.kind > 12))))] (pt b_2 (blk (Tapi_Op.cells x0) 32) :: S) → wpFrom Try.prog _ _ 16 a w by
    rcases Bool.eq_false_or_eq_true (((x2 != 2) && (x2 != 3)) || (decide (x0.kind < 1))) with hb | hb
    · replace hs := hs.known (t := 20) hb (by kernel_rfl)
      refine Vk.pures 4 [(24, .bool true), (23, undef), (22, undef), (21, undef)] hs (by kernel_rfl) fun a hs => ?_
      have hq := hs.pick [1, 2, 3, 9, 10, 11, 14, 15, 19, 20, 24] (L' := [(1, .int .i64 x1), (2, .int .i64 x2), (3, .pointer (some ⟨b_2, 0, none⟩)), (9, .int .i64 x2), (10, .bool (x2 != 2)), (11, .bool (x2 != 2)), (14, .bool ((x2 != 2) && (x2 != 3))), (15, .bool ((x2 != 2) && (x2 != 3))), (19, .bool (((x2 != 2) && (x2 != 3)) || (decide (x0.kind < 1)))), (20, .bool true), (24, .bool true)]) (by kernel_rfl)
      exact hj_7 _ (hq.conv (by first | (rw [hb] <;> rfl) | rfl))
    · replace hs := hs.known (t := 20) hb (by kernel_rfl)
      refine Vk.pures 1 [(21, .pointer (some ⟨b_2, 0, none⟩))] hs (by kernel_rfl) fun a hs => ?_
      refine Vk.step (Vk.value (some 22) (.int .i64 x0.kind) hs (by kernel_rfl) (op := (.load 3 (.tmp 21))) (by kernel_rfl) (fun o ho => run_load1 (b := b_2) (off := 0) (c := C.int .i64 x0.kind) ho (by kernel_rfl) (by kernel_rfl) (Cell.own 0 rfl (by kernel_rfl)) _ hs.own) fun a hs => ?_)
      refine Vk.pures 2 [(24, .bool (decide (x0.kind > 12))), (23, .bool (decide (x0.kind > 12)))] hs (by kernel_rfl) fun a hs => ?_
      have hq := hs.pick [1, 2, 3, 9, 10, 11, 14, 15, 19, 20, 24] (L' := [(1, .int .i64 x1), (2, .int .i64 x2), (3, .pointer (some ⟨b_2, 0, none⟩)), (9, .int .i64 x2), (10, .bool (x2 != 2)), (11, .bool (x2 != 2)), (14, .bool ((x2 != 2) && (x2 != 3))), (15, .bool ((x2 != 2) && (x2 != 3))), (19, .bool (((x2 != 2) && (x2 != 3)) || (decide (x0.kind < 1)))), (20, .bool false), (24, .bool (decide (x0.kind > 12)))]) (by kernel_rfl)
      exact hj_7 _ (hq.conv (by first | (rw [hb] <;> rfl) | rfl))
  intro a hs
  refine Vk.pures 1 [(25, .bool ((((x2 != 2) && (x2 != 3)) || (decide (x0.kind < 1))) || (decide (x0.kind > 12))))] hs (by kernel_rfl) fun a hs => ?_
  suffices hj_8 : ∀ a, St 111 a w κ [(1, .int .i64 x1), (2, .int .i64 x2), (3, .pointer (some ⟨b_2, 0, none⟩)), (9, .int .i64 x2), (10, .bool (x2 != 2)), (11, .bool (x2 != 2)), (14, .bool ((x2 != 2) && (x2 != 3))), (15, .bool ((x2 != 2) && (x2 != 3))), (19, .bool (((x2 != 2) && (x2 != 3)) || (decide (x0.kind < 1)))), (20, .bool (((x2 != 2) && (x2 != 3)) || (decide (x0.kind < 1)))), (24, .bool ((((x2 != 2) && (x2 != 3)) || (decide (x0.kind < 1))) || (decide (x0.kind > 12)))), (25, .bool ((((x2 != 2) && (x2 != 3)) || (decide (x0.kind < 1))) || (decide (x0.kind > 12)))), (29, .bool (((((x2 != 2) && (x2 != 3)) || (decide (x0.kind < 1))) || (decide (x0.kind > 12))) || (decide (x0.dom < (-1)))))] (pt b_2 (blk (Tapi_Op.cells x0) 32) :: S) → wpFrom Try.prog _ _ 21 a w by
    rcases Bool.eq_false_or_eq_true ((((x2 != 2) && (x2 != 3)) || (decide (x0.kind < 1))) || (decide (x0.kind > 12))) with hb | hb
    · replace hs := hs.known (t := 25) hb (by kernel_rfl)
      refine Vk.pures 4 [(29, .bool true), (28, undef), (27, undef), (26, undef)] hs (by kernel_rfl) fun a hs => ?_
      have hq := hs.pick [1, 2, 3, 9, 10, 11, 14, 15, 19, 20, 24, 25, 29] (L' := [(1, .int .i64 x1), (2, .int .i64 x2), (3, .pointer (some ⟨b_2, 0, none⟩)), (9, .int .i64 x2), (10, .bool (x2 != 2)), (11, .bool (x2 != 2)), (14, .bool ((x2 != 2) && (x2 != 3))), (15, .bool ((x2 != 2) && (x2 != 3))), (19, .bool (((x2 != 2) && (x2 != 3)) || (decide (x0.kind < 1)))), (20, .bool (((x2 != 2) && (x2 != 3)) || (decide (x0.kind < 1)))), (24, .bool ((((x2 != 2) && (x2 != 3)) || (decide (x0.kind < 1))) || (decide (x0.kind > 12)))), (25, .bool true), (29, .bool true)]) (by kernel_rfl)
      exact hj_8 _ (hq.conv (by first | (rw [hb] <;> rfl) | rfl))
    · replace hs := hs.known (t := 25) hb (by kernel_rfl)
      refine Vk.pures 1 [(26, .pointer (some ⟨b_2, 1, none⟩))] hs (by kernel_rfl) fun a hs => ?_
      refine Vk.step (Vk.value (some 27) (.int .i64 x0.dom) hs (by kernel_rfl) (op := (.load 3 (.tmp 26))) (by kernel_rfl) (fun o ho => run_load1 (b := b_2) (off := 1) (c := C.int .i64 x0.dom) ho (by kernel_rfl) (by kernel_rfl) (Cell.own 0 rfl (by kernel_rfl)) _ hs.own) fun a hs => ?_)
      refine Vk.pures 2 [(29, .bool (decide (x0.dom < (-1)))), (28, .bool (decide (x0.dom < (-1))))] hs (by kernel_rfl) fun a hs => ?_
      have hq := hs.pick [1, 2, 3, 9, 10, 11, 14, 15, 19, 20, 24, 25, 29] (L' := [(1, .int .i64 x1), (2, .int .i64 x2), (3, .pointer (some ⟨b_2, 0, none⟩)), (9, .int .i64 x2), (10, .bool (x2 != 2)), (11, .bool (x2 != 2)), (14, .bool ((x2 != 2) && (x2 != 3))), (15, .bool ((x2 != 2) && (x2 != 3))), (19, .bool (((x2 != 2) && (x2 != 3)) || (decide (x0.kind < 1)))), (20, .bool (((x2 != 2) && (x2 != 3)) || (decide (x0.kind < 1)))), (24, .bool ((((x2 != 2) && (x2 != 3)) || (decide (x0.kind < 1))) || (decide (x0.kind > 12)))), (25, .bool false), (29, .bool (decide (x0.dom < (-1))))]) (by kernel_rfl)
      exact hj_8 _ (hq.conv (by first | (rw [hb] <;> rfl) | rfl))
  intro a hs
  refine Vk.pures 1 [(30, .bool (((((x2 != 2) && (x2 != 3)) || (decide (x0.kind < 1))) || (decide (x0.kind > 12))) || (decide (x0.dom < (-1)))))] hs (by kernel_rfl) fun a hs => ?_
  suffices hj_9 : ∀ a, St 111 a w κ [(1, .int .i64 x1), (2, .int .i64 x2), (3, .pointer (some ⟨b_2, 0, none⟩)), (9, .int .i64 x2), (10, .bool (x2 != 2)), (11, .bool (x2 != 2)), (14, .bool ((x2 != 2) && (x2 != 3))), (15, .bool ((x2 != 2) && (x2 != 3))), (19, .bool (((x2 != 2) && (x2 != 3)) || (decide (x0.kind < 1)))), (20, .bool (((x2 != 2) && (x2 != 3)) || (decide (x0.kind < 1)))), (24, .bool ((((x2 != 2) && (x2 != 3)) || (decide (x0.kind < 1))) || (decide (x0.kind > 12)))), (25, .bool ((((x2 != 2) && (x2 != 3)) || (decide (x0.kind < 1))) || (decide (x0.kind > 12)))), (29, .bool (((((x2 != 2) && (x2 != 3)) || (decide (x0.kind < 1))) || (decide (x0.kind > 12))) || (decide (x0.dom < (-1))))), (30, .bool (((((x2 != 2) && (x2 != 3)) || (decide (x0.kind < 1))) || (decide (x0.kind > 12))) || (decide (x0.dom < (-1))))), (35, .bool ((((((x2 != 2) && (x2 != 3)) || (decide (x0.kind < 1))) || (decide (x0.kind > 12))) || (decide (x0.dom < (-1)))) || (decide (x0.dom ≥ x2))))] (pt b_2 (blk (Tapi_Op.cells x0) 32) :: S) → wpFrom Try.prog _ _ 27 a w by
    rcases Bool.eq_false_or_eq_true (((((x2 != 2) && (x2 != 3)) || (decide (x0.kind < 1))) || (decide (x0.kind > 12))) || (decide (x0.dom < (-1)))) with hb | hb
    · replace hs := hs.known (t := 30) hb (by kernel_rfl)
      refine Vk.pures 5 [(35, .bool true), (34, undef), (33, undef), (32, undef), (31, undef)] hs (by kernel_rfl) fun a hs => ?_
      have hq := hs.pick [1, 2, 3, 9, 10, 11, 14, 15, 19, 20, 24, 25, 29, 30, 35] (L' := [(1, .int .i64 x1), (2, .int .i64 x2), (3, .pointer (some ⟨b_2, 0, none⟩)), (9, .int .i64 x2), (10, .bool (x2 != 2)), (11, .bool (x2 != 2)), (14, .bool ((x2 != 2) && (x2 != 3))), (15, .bool ((x2 != 2) && (x2 != 3))), (19, .bool (((x2 != 2) && (x2 != 3)) || (decide (x0.kind < 1)))), (20, .bool (((x2 != 2) && (x2 != 3)) || (decide (x0.kind < 1)))), (24, .bool ((((x2 != 2) && (x2 != 3)) || (decide (x0.kind < 1))) || (decide (x0.kind > 12)))), (25, .bool ((((x2 != 2) && (x2 != 3)) || (decide (x0.kind < 1))) || (decide (x0.kind > 12)))), (29, .bool (((((x2 != 2) && (x2 != 3)) || (decide (x0.kind < 1))) || (decide (x0.kind > 12))) || (decide (x0.dom < (-1))))), (30, .bool true), (35, .bool true)]) (by kernel_rfl)
      exact hj_9 _ (hq.conv (by first | (rw [hb] <;> rfl) | rfl))
    · replace hs := hs.known (t := 30) hb (by kernel_rfl)
      refine Vk.pures 1 [(31, .pointer (some ⟨b_2, 1, none⟩))] hs (by kernel_rfl) fun a hs => ?_
      refine Vk.step (Vk.value (some 32) (.int .i64 x0.dom) hs (by kernel_rfl) (op := (.load 3 (.tmp 31))) (by kernel_rfl) (fun o ho => run_load1 (b := b_2) (off := 1) (c := C.int .i64 x0.dom) ho (by kernel_rfl) (by kernel_rfl) (Cell.own 0 rfl (by kernel_rfl)) _ hs.own) fun a hs => ?_)
      refine Vk.pures 3 [(35, .bool (decide (x0.dom ≥ x2))), (34, .bool (decide (x0.dom ≥ x2))), (33, .int .i64 x2)] hs (by kernel_rfl) fun a hs => ?_
      have hq := hs.pick [1, 2, 3, 9, 10, 11, 14, 15, 19, 20, 24, 25, 29, 30, 35] (L' := [(1, .int .i64 x1), (2, .int .i64 x2), (3, .pointer (some ⟨b_2, 0, none⟩)), (9, .int .i64 x2), (10, .bool (x2 != 2)), (11, .bool (x2 != 2)), (14, .bool ((x2 != 2) && (x2 != 3))), (15, .bool ((x2 != 2) && (x2 != 3))), (19, .bool (((x2 != 2) && (x2 != 3)) || (decide (x0.kind < 1)))), (20, .bool (((x2 != 2) && (x2 != 3)) || (decide (x0.kind < 1)))), (24, .bool ((((x2 != 2) && (x2 != 3)) || (decide (x0.kind < 1))) || (decide (x0.kind > 12)))), (25, .bool ((((x2 != 2) && (x2 != 3)) || (decide (x0.kind < 1))) || (decide (x0.kind > 12)))), (29, .bool (((((x2 != 2) && (x2 != 3)) || (decide (x0.kind < 1))) || (decide (x0.kind > 12))) || (decide (x0.dom < (-1))))), (30, .bool false), (35, .bool (decide (x0.dom ≥ x2)))]) (by kernel_rfl)
      exact hj_9 _ (hq.conv (by first | (rw [hb] <;> rfl) | rfl))
  intro a hs
  refine Vk.pures 1 [(36, .bool ((((((x2 != 2) && (x2 != 3)) || (decide (x0.kind < 1))) || (decide (x0.kind > 12))) || (decide (x0.dom < (-1)))) || (decide (x0.dom ≥ x2))))] hs (by kernel_rfl) fun a hs => ?_
  rcases Bool.eq_false_or_eq_true ((((((x2 != 2) && (x2 != 3)) || (decide (x0.kind < 1))) || (decide (x0.kind > 12))) || (decide (x0.dom < (-1)))) || (decide (x0.dom ≥ x2))) with hb | hb
  · replace hm := bif_t hm hb
    replace hs := hs.known (t := 36) hb (by kernel_rfl)
    refine Vk.pures 9 [(45, .bool true), (44, undef), (43, undef), (42, undef), (41, undef), (40, undef), (39, undef), (38, undef), (37, undef)] hs (by kernel_rfl) fun a hs => ?_
    replace hs := hs.pick [1, 2, 3, 45] (L' := [(1, .int .i64 x1), (2, .int .i64 x2), (3, .pointer (some ⟨b_2, 0, none⟩)), (45, .bool true)]) (by kernel_rfl)
    refine Vk.done (by kernel_rfl) ?_
    exact hj4 true hm _ _ (hs.go [1, 2, 3, 45] [0] 1 (by kernel_rfl) (by kernel_rfl) (by kernel_rfl))
  · replace hm := bif_f hm hb
    replace hs := hs.known (t := 36) hb (by kernel_rfl)
    refine Vk.pures 1 [(37, .pointer (some ⟨b_2, 0, none⟩))] hs (by kernel_rfl) fun a hs => ?_
    refine Vk.step (Vk.value (some 38) (.int .i64 x0.kind) hs (by kernel_rfl) (op := (.load 3 (.tmp 37))) (by kernel_rfl) (fun o ho => run_load1 (b := b_2) (off := 0) (c := C.int .i64 x0.kind) ho (by kernel_rfl) (by kernel_rfl) (Cell.own 0 rfl (by kernel_rfl)) _ hs.own) fun a hs => ?_)
    refine Vk.pures 2 [(40, .bool (x0.kind == 12)), (39, .bool (x0.kind == 12))] hs (by kernel_rfl) fun a hs => ?_
    rcases Bool.eq_false_or_eq_true (x0.kind == 12) with hb | hb
    · replace hm := bif_t hm hb
      replace hs := hs.known (t := 40) hb (by kernel_rfl)
      refine Vk.pures 1 [(41, .pointer (some ⟨b_2, 1, none⟩))] hs (by kernel_rfl) fun a hs => ?_
      refine Vk.step (Vk.value (some 42) (.int .i64 x0.dom) hs (by kernel_rfl) (op := (.load 3 (.tmp 41))) (by kernel_rfl) (fun o ho => run_load1 (b := b_2) (off := 1) (c := C.int .i64 x0.dom) ho (by kernel_rfl) (by kernel_rfl) (Cell.own 0 rfl (by kernel_rfl)) _ hs.own) fun a hs => ?_)
      refine Vk.pures 3 [(45, .bool (x0.dom != (-1))), (44, .bool (x0.dom != (-1))), (43, .bool (x0.dom != (-1)))] hs (by kernel_rfl) fun a hs => ?_
      replace hs := hs.pick [1, 2, 3, 45] (L' := [(1, .int .i64 x1), (2, .int .i64 x2), (3, .pointer (some ⟨b_2, 0, none⟩)), (45, .bool (x0.dom != (-1)))]) (by kernel_rfl)
      refine Vk.done (by kernel_rfl) ?_
      exact hj4 (x0.dom != (-1)) hm _ _ (hs.go [1, 2, 3, 45] [0] 1 (by kernel_rfl) (by kernel_rfl) (by kernel_rfl))
    · replace hm := bif_f hm hb
      replace hs := hs.known (t := 40) hb (by kernel_rfl)
      refine Vk.pures 5 [(45, .bool false), (44, .bool false), (43, undef), (42, undef), (41, undef)] hs (by kernel_rfl) fun a hs => ?_
      replace hs := hs.pick [1, 2, 3, 45] (L' := [(1, .int .i64 x1), (2, .int .i64 x2), (3, .pointer (some ⟨b_2, 0, none⟩)), (45, .bool false)]) (by kernel_rfl)
      refine Vk.done (by kernel_rfl) ?_
      exact hj4 false hm _ _ (hs.go [1, 2, 3, 45] [0] 1 (by kernel_rfl) (by kernel_rfl) (by kernel_rfl))

structure Tatomic_Int64 where
  v : Int
  deriving Inhabited
def Tatomic_Int64.cells (x : Tatomic_Int64) : Cells := [C.int .i64 x.v]

abbrev sync_atomic_Int64_Add.R (κ : Ctx) (S : List HP) (x0 : Tatomic_Int64) (x1 : Int) (b_x0 : Nat) (r : (Int × Tatomic_Int64)) : Ending → World → Prop := fun e w' => e = .returned (.int .i64 r.1) ∧ Own κ w' (pt b_x0 (blk [C.int .i64 r.2.v] 156) :: S)
def sync_atomic_Int64_Add.m (k : Nat) (x0 : Tatomic_Int64) (x1 : Int) : Option (Int × Tatomic_Int64) := some (IntKind.i64.wrap (x0.v + x1), (⟨IntKind.i64.wrap (x0.v + x1)⟩ : Tatomic_Int64))

set_option maxRecDepth 100000 in
set_option maxHeartbeats 4000000 in
theorem sync_atomic_Int64_Add.ok (k : Nat) (x0 : Tatomic_Int64) (x1 : Int) (r : (Int × Tatomic_Int64)) (hm : sync_atomic_Int64_Add.m k x0 x1 = some r) (κ : Ctx) (w : World) (S : List HP) (b_x0 : Nat) (ho : Own κ w (pt b_x0 (blk [C.int .i64 x0.v] 156) :: S)) :
    Calls Try.prog 122 #[.pointer (some ⟨b_x0, 0, none⟩), .int .i64 x1] w (sync_atomic_Int64_Add.R κ S x0 x1 b_x0 r) := by
  unfold sync_atomic_Int64_Add.m at hm
  refine Vk.enter [(0, .pointer (some ⟨b_x0, 0, none⟩)), (1, .int .i64 x1)] Try.func122 rfl Try.ntmps122 (by kernel_rfl) (Nat.le_of_ble_eq_true (by kernel_rfl)) ho fun a hs => ?_
  refine Vk.seq fun K1 hK1 => ?_
  refine Vk.region ?_
  refine Vk.pures 1 [(4, .int .i64 0)] hs (by kernel_rfl) fun a hs => ?_
  replace hs := hs.pick [0, 1] (L' := [(0, .pointer (some ⟨b_x0, 0, none⟩)), (1, .int .i64 x1)]) (by kernel_rfl)
  refine Vk.done (by kernel_rfl) ?_
  refine hK1 _ _ ?_
  clear hK1
  refine Vk.seq fun K2 hK2 => ?_
  refine Vk.region ?_
  refine Vk.pures 4 [(8, .int .i64 x1), (7, .pointer (some ⟨b_x0, 0, none⟩)), (6, .pointer (some ⟨b_x0, 0, none⟩)), (5, .pointer (some ⟨b_x0, 0, none⟩))] hs (by kernel_rfl) fun a hs => ?_
  refine Vk.step (Vk.atomAdd (k := .i64) (b := b_x0) (off := 0) (x := x0.v) (y := x1) 0 (some 9) 132 Try.f132 hs (by kernel_rfl) (by kernel_rfl) Try.func132 (by kernel_rfl) (by kernel_rfl) rfl (by kernel_rfl) fun a w hs => ?_)
  refine Vk.pures 1 [(4, .int .i64 (IntKind.i64.wrap (x0.v + x1)))] hs (by kernel_rfl) fun a hs => ?_
  replace hs := hs.pick [4] (L' := [(4, .int .i64 (IntKind.i64.wrap (x0.v + x1)))]) (by kernel_rfl)
  refine Vk.done (by kernel_rfl) ?_
  refine hK2 _ _ ?_
  clear hK2
  refine wp_ret ?_
  exact Vk.ret1 (P := Try.prog) (fn := Try.f122) (R := sync_atomic_Int64_Add.R κ S x0 x1 b_x0 r) (.int .i64 (IntKind.i64.wrap (x0.v + x1))) hs rfl (by kernel_rfl) (by obtain rfl := Option.some.inj hm; exact ⟨rfl, (Own.to hs.own [0] 1 (by kernel_rfl) (by kernel_rfl))⟩)


abbrev sync_atomic_Int64_Load.R (κ : Ctx) (S : List HP) (x0 : Tatomic_Int64) (b_x0 : Nat) (r : Int) : Ending → World → Prop := fun e w' => e = .returned (.int .i64 r) ∧ Own κ w' (pt b_x0 (blk [C.int .i64 x0.v] 156) :: S)
def sync_atomic_Int64_Load.m (k : Nat) (x0 : Tatomic_Int64) : Option Int := some x0.v

set_option maxRecDepth 100000 in
set_option maxHeartbeats 4000000 in
theorem sync_atomic_Int64_Load.ok (k : Nat) (x0 : Tatomic_Int64) (r : Int) (hm : sync_atomic_Int64_Load.m k x0 = some r) (κ : Ctx) (w : World) (S : List HP) (b_x0 : Nat) (ho : Own κ w (pt b_x0 (blk [C.int .i64 x0.v] 156) :: S)) :
    Calls Try.prog 131 #[.pointer (some ⟨b_x0, 0, none⟩)] w (sync_atomic_Int64_Load.R κ S x0 b_x0 r) := by
  unfold sync_atomic_Int64_Load.m at hm
  refine Vk.enter [(0, .pointer (some ⟨b_x0, 0, none⟩))] Try.func131 rfl Try.ntmps131 (by kernel_rfl) (Nat.le_of_ble_eq_true (by kernel_rfl)) ho fun a hs => ?_
  refine Vk.seq fun K1 hK1 => ?_
  refine Vk.region ?_
  refine Vk.pures 1 [(2, .int .i64 0)] hs (by kernel_rfl) fun a hs => ?_
  replace hs := hs.pick [0] (L' := [(0, .pointer (some ⟨b_x0, 0, none⟩))]) (by kernel_rfl)
  refine Vk.done (by kernel_rfl) ?_
  refine hK1 _ _ ?_
  clear hK1
  refine Vk.seq fun K2 hK2 => ?_
  refine Vk.region ?_
  refine Vk.pures 3 [(5, .pointer (some ⟨b_x0, 0, none⟩)), (4, .pointer (some ⟨b_x0, 0, none⟩)), (3, .pointer (some ⟨b_x0, 0, none⟩))] hs (by kernel_rfl) fun a hs => ?_
  refine Vk.step (Vk.atomLoad (k := .i64) (b := b_x0) (off := 0) (x := x0.v) (some 6) 133 Try.f133 hs (by kernel_rfl) (by kernel_rfl) Try.func133 (by kernel_rfl) (by kernel_rfl) (Cell.own 0 rfl (by kernel_rfl)) fun a hs => ?_)
  refine Vk.pures 1 [(2, .int .i64 x0.v)] hs (by kernel_rfl) fun a hs => ?_
  replace hs := hs.pick [2] (L' := [(2, .int .i64 x0.v)]) (by kernel_rfl)
  refine Vk.done (by kernel_rfl) ?_
  refine hK2 _ _ ?_
  clear hK2
  refine wp_ret ?_
  exact Vk.ret1 (P := Try.prog) (fn := Try.f131) (R := sync_atomic_Int64_Load.R κ S x0 b_x0 r) (.int .i64 x0.v) hs rfl (by kernel_rfl) (by obtain rfl := Option.some.inj hm; exact ⟨rfl, (Own.to hs.own [0] 1 (by kernel_rfl) (by kernel_rfl))⟩)

structure Ttape_Tape where
  words : List Int
  used : Tatomic_Int64
  free : Int
  deriving Inhabited
def Ttape_Tape.obj (x : Ttape_Tape) (Awords : Option Addr) (cwords : Nat) : Cells := [C.slc Awords x.words.length cwords, C.int .i64 x.used.v, C.int .i64 x.free]

abbrev tape_Tape_Used.R (κ : Ctx) (S : List HP) (x0 : Ttape_Tape) (b_x0 : Nat) (A_x0owords : Option Addr) (c_x0owords : Nat) (r : Int) : Ending → World → Prop := fun e w' => e = .returned (.int .i64 r) ∧ Own κ w' (pt b_x0 (blk (Ttape_Tape.obj x0 A_x0owords c_x0owords) 158) :: rowp A_x0owords c_x0owords 23 1 (eI .u64) x0.words :: S)
def tape_Tape_Used.m (k : Nat) (x0 : Ttape_Tape) : Option Int := some x0.used.v

set_option maxRecDepth 100000 in
set_option maxHeartbeats 4000000 in
theorem tape_Tape_Used.ok (k : Nat) (x0 : Ttape_Tape) (r : Int) (hm : tape_Tape_Used.m k x0 = some r) (κ : Ctx) (w : World) (S : List HP) (b_x0 : Nat) (A_x0owords : Option Addr) (c_x0owords : Nat) (ho : Own κ w (pt b_x0 (blk (Ttape_Tape.obj x0 A_x0owords c_x0owords) 158) :: rowp A_x0owords c_x0owords 23 1 (eI .u64) x0.words :: S)) :
    Calls Try.prog 121 #[.pointer (some ⟨b_x0, 0, none⟩)] w (tape_Tape_Used.R κ S x0 b_x0 A_x0owords c_x0owords r) := by
  unfold tape_Tape_Used.m at hm
  refine Vk.enter [(0, .pointer (some ⟨b_x0, 0, none⟩))] Try.func121 rfl Try.ntmps121 (by kernel_rfl) (Nat.le_of_ble_eq_true (by kernel_rfl)) ho fun a hs => ?_
  refine Vk.seq fun K1 hK1 => ?_
  refine Vk.region ?_
  refine Vk.pures 1 [(2, .int .i64 0)] hs (by kernel_rfl) fun a hs => ?_
  replace hs := hs.pick [0] (L' := [(0, .pointer (some ⟨b_x0, 0, none⟩))]) (by kernel_rfl)
  refine Vk.done (by kernel_rfl) ?_
  refine hK1 _ _ ?_
  clear hK1
  refine Vk.seq fun K2 hK2 => ?_
  refine Vk.seq fun K3 hK3 => ?_
  refine Vk.region ?_
  refine Vk.pures 2 [(4, .bool false), (3, .pointer (some ⟨b_x0, 0, none⟩))] hs (by kernel_rfl) fun a hs => ?_
  replace hs := hs.pick [0, 4] (L' := [(0, .pointer (some ⟨b_x0, 0, none⟩)), (4, .bool false)]) (by kernel_rfl)
  refine Vk.done (by kernel_rfl) ?_
  refine hK3 _ _ ?_
  clear hK3
  refine Vk.condF hs (by kernel_rfl) (by kernel_rfl) ?_
  refine wp_skip ?_
  refine hK2 _ _ ?_
  clear hK2
  refine Vk.seq fun K4 hK4 => ?_
  refine Vk.region ?_
  refine Vk.pures 3 [(7, .pointer (some ⟨b_x0, 1, none⟩)), (6, .pointer (some ⟨b_x0, 0, none⟩)), (5, .pointer (some ⟨b_x0, 0, none⟩))] hs (by kernel_rfl) fun a hs => ?_
  refine Vk.step (Vk.call (some 8) 131 #[.pointer (some ⟨b_x0, 1, none⟩)] hs (by kernel_rfl) (by kernel_rfl) (by kernel_rfl) ?_)
  refine Vk.enterI [(0, .pointer (some ⟨b_x0, 1, none⟩))] Try.func131 rfl Try.ntmps131 (by kernel_rfl) (Nat.le_of_ble_eq_true (by kernel_rfl)) hs.own fun KR5 hKR5 hKP5 a hs => ?_
  refine Vk.seq fun K6 hK6 => ?_
  refine Vk.region ?_
  refine Vk.pures 1 [(2, .int .i64 0)] hs (by kernel_rfl) fun a hs => ?_
  replace hs := hs.pick [0] (L' := [(0, .pointer (some ⟨b_x0, 1, none⟩))]) (by kernel_rfl)
  refine Vk.done (by kernel_rfl) ?_
  refine hK6 _ _ ?_
  clear hK6
  refine Vk.seq fun K7 hK7 => ?_
  refine Vk.region ?_
  refine Vk.pures 3 [(5, .pointer (some ⟨b_x0, 1, none⟩)), (4, .pointer (some ⟨b_x0, 1, none⟩)), (3, .pointer (some ⟨b_x0, 1, none⟩))] hs (by kernel_rfl) fun a hs => ?_
  refine Vk.step (Vk.atomLoad (k := .i64) (b := b_x0) (off := 1) (x := x0.used.v) (some 6) 133 Try.f133 hs (by kernel_rfl) (by kernel_rfl) Try.func133 (by kernel_rfl) (by kernel_rfl) (Cell.own 0 rfl (by kernel_rfl)) fun a hs => ?_)
  refine Vk.pures 1 [(2, .int .i64 x0.used.v)] hs (by kernel_rfl) fun a hs => ?_
  replace hs := hs.pick [2] (L' := [(2, .int .i64 x0.used.v)]) (by kernel_rfl)
  refine Vk.done (by kernel_rfl) ?_
  refine hK7 _ _ ?_
  clear hK7
  refine wp_ret ?_
  refine hKP5 _ _ ?_
  refine hKR5 _ _ ?_
  refine Vk.ret1 (P := Try.prog) (fn := Try.f131) (.int .i64 x0.used.v) hs rfl (by kernel_rfl) ⟨_, _, _, rfl, hs.own, fun a hs => ?_⟩
  refine Vk.pures 1 [(2, .int .i64 x0.used.v)] hs (by kernel_rfl) fun a hs => ?_
  replace hs := hs.pick [2] (L' := [(2, .int .i64 x0.used.v)]) (by kernel_rfl)
  refine Vk.done (by kernel_rfl) ?_
  refine hK4 _ _ ?_
  clear hK4
  refine wp_ret ?_
  exact Vk.ret1 (P := Try.prog) (fn := Try.f121) (R := tape_Tape_Used.R κ S x0 b_x0 A_x0owords c_x0owords r) (.int .i64 x0.used.v) hs rfl (by kernel_rfl) (by obtain rfl := Option.some.inj hm; exact ⟨rfl, (Own.to hs.own [0, 1] 2 (by kernel_rfl) (by kernel_rfl))⟩)


abbrev tape_Tape_Left.R (κ : Ctx) (S : List HP) (x0 : Ttape_Tape) (b_x0 : Nat) (A_x0owords : Option Addr) (c_x0owords : Nat) (r : Int) : Ending → World → Prop := fun e w' => e = .returned (.int .i64 r) ∧ Own κ w' (pt b_x0 (blk (Ttape_Tape.obj x0 A_x0owords c_x0owords) 158) :: rowp A_x0owords c_x0owords 23 1 (eI .u64) x0.words :: S)
def tape_Tape_Left.m (k : Nat) (x0 : Ttape_Tape) : Option Int := (tape_Tape_Used.m k x0).bind fun v_8 => some (IntKind.i64.wrap (((x0.words.length : Nat) : Int) - v_8))

set_option maxRecDepth 100000 in
set_option maxHeartbeats 4000000 in
theorem tape_Tape_Left.ok (k : Nat) (x0 : Ttape_Tape) (r : Int) (hm : tape_Tape_Left.m k x0 = some r) (κ : Ctx) (w : World) (S : List HP) (b_x0 : Nat) (A_x0owords : Option Addr) (c_x0owords : Nat) (ho : Own κ w (pt b_x0 (blk (Ttape_Tape.obj x0 A_x0owords c_x0owords) 158) :: rowp A_x0owords c_x0owords 23 1 (eI .u64) x0.words :: S)) :
    Calls Try.prog 91 #[.pointer (some ⟨b_x0, 0, none⟩)] w (tape_Tape_Left.R κ S x0 b_x0 A_x0owords c_x0owords r) := by
  unfold tape_Tape_Left.m at hm
  refine Vk.enter [(0, .pointer (some ⟨b_x0, 0, none⟩))] Try.func91 rfl Try.ntmps91 (by kernel_rfl) (Nat.le_of_ble_eq_true (by kernel_rfl)) ho fun a hs => ?_
  refine Vk.seq fun K1 hK1 => ?_
  refine Vk.region ?_
  refine Vk.pures 1 [(2, .int .i64 0)] hs (by kernel_rfl) fun a hs => ?_
  replace hs := hs.pick [0] (L' := [(0, .pointer (some ⟨b_x0, 0, none⟩))]) (by kernel_rfl)
  refine Vk.done (by kernel_rfl) ?_
  refine hK1 _ _ ?_
  clear hK1
  refine Vk.seq fun K2 hK2 => ?_
  refine Vk.seq fun K3 hK3 => ?_
  refine Vk.region ?_
  refine Vk.pures 2 [(4, .bool false), (3, .pointer (some ⟨b_x0, 0, none⟩))] hs (by kernel_rfl) fun a hs => ?_
  replace hs := hs.pick [0, 4] (L' := [(0, .pointer (some ⟨b_x0, 0, none⟩)), (4, .bool false)]) (by kernel_rfl)
  refine Vk.done (by kernel_rfl) ?_
  refine hK3 _ _ ?_
  clear hK3
  refine Vk.condF hs (by kernel_rfl) (by kernel_rfl) ?_
  refine wp_skip ?_
  refine hK2 _ _ ?_
  clear hK2
  refine Vk.seq fun K4 hK4 => ?_
  obtain ⟨C_5, hC_5⟩ : ∃ X0 : List HP, X0 = (pt b_x0 (blk (Ttape_Tape.obj x0 A_x0owords c_x0owords) 158) :: rowp A_x0owords c_x0owords 23 1 (eI .u64) x0.words :: S) := ⟨_, rfl⟩
  refine Vk.drawnT 9 κ C_5 hs (by kernel_rfl) fun w hs => ?_
  have hcz : Own κ w (pt b_x0 (blk (Ttape_Tape.obj x0 A_x0owords c_x0owords) 158) :: rowp A_x0owords c_x0owords 23 1 (eI .u64) x0.words :: S) := (Own.to hs.own [0, 1] 2 (by kernel_rfl) (by kernel_rfl))
  have hcl : Own κ w C_5 := by rw [hC_5]; exact hcz
  refine Vk.dPuresT [0, 1, 2, 5] [(10, .pointer (some ⟨b_x0, 0, none⟩)), (7, .pointer (some ⟨b_x0, 0, none⟩)), (6, .pointer (some ⟨b_x0, 0, none⟩)), (5, .pointer (some ⟨b_x0, 0, none⟩))] hs (by kernel_rfl) (by repeat' (first | exact Vk.Calm.post | refine Vk.Calm.then ?_ | refine Vk.Calm.inBlock ?_)) hcl (by kernel_rfl) (by kernel_rfl) (fuel := 5) rfl fun a hs => ?_
  refine Vk.dTakeT (i := 3) (some 8) (.slice A_x0owords x0.words.length c_x0owords) hs (by kernel_rfl) (by repeat' (first | exact Vk.Calm.post | refine Vk.Calm.then ?_ | refine Vk.Calm.inBlock ?_)) hcl (by kernel_rfl) (by kernel_rfl) (op := (.load 73 (.tmp 7))) (by kernel_rfl) (by kernel_rfl) (fun w hw o ho => by rw [hC_5] at hw; exact run_load1 (b := b_x0) (off := 0) (c := C.slc A_x0owords x0.words.length c_x0owords) ho (by kernel_rfl) (by kernel_rfl) (Cell.own 0 rfl (by kernel_rfl)) _ hw) fun a hs => ?_
  refine Vk.dPuresT [4] [(9, .int .i64 ((x0.words.length : Nat) : Int))] hs (by kernel_rfl) (by repeat' (first | exact Vk.Calm.post | refine Vk.Calm.then ?_ | refine Vk.Calm.inBlock ?_)) hcl (by kernel_rfl) (by kernel_rfl) (fuel := 3) rfl fun a hs => ?_
  obtain ⟨v_8, h_7, hm⟩ := bind_t hm
  refine Vk.dOnly (i := 6) (by kernel_rfl) (Vk.call (some 11) 121 #[.pointer (some ⟨b_x0, 0, none⟩)] hs (by kernel_rfl) (by kernel_rfl) (by kernel_rfl) ?_)
  refine (tape_Tape_Used.ok k x0 v_8 h_7 κ w (S) b_x0 A_x0owords c_x0owords (Own.to hs.own [0, 1] 2 (by kernel_rfl) (by kernel_rfl))).mono ?_
  rintro _ w ⟨rfl, how⟩
  refine ⟨_, _, _, rfl, how, fun a hs => ?_⟩
  replace hcl : Own κ w C_5 := by rw [hC_5]; exact (Own.to hs.own [0, 1] 2 (by kernel_rfl) (by kernel_rfl))
  refine ⟨fun _ => hcl, ?_⟩
  refine Vk.dPuresT [7, 8] [(2, .int .i64 (IntKind.i64.wrap (((x0.words.length : Nat) : Int) - v_8))), (12, .int .i64 (IntKind.i64.wrap (((x0.words.length : Nat) : Int) - v_8)))] hs (by kernel_rfl) (by repeat' (first | exact Vk.Calm.post | refine Vk.Calm.then ?_ | refine Vk.Calm.inBlock ?_)) hcl (by kernel_rfl) (by kernel_rfl) (fuel := 0) rfl fun a hs => ?_
  replace hs := hs.pick [2] (L' := [(2, .int .i64 (IntKind.i64.wrap (((x0.words.length : Nat) : Int) - v_8)))]) (by kernel_rfl)
  refine Vk.dDone (by kernel_rfl) ?_
  refine hK4 _ _ ?_
  clear hK4
  refine wp_ret ?_
  exact Vk.ret1 (P := Try.prog) (fn := Try.f91) (R := tape_Tape_Left.R κ S x0 b_x0 A_x0owords c_x0owords r) (.int .i64 (IntKind.i64.wrap (((x0.words.length : Nat) : Int) - v_8))) hs rfl (by kernel_rfl) (by obtain rfl := Option.some.inj hm; exact ⟨rfl, (Own.to hs.own [0, 1] 2 (by kernel_rfl) (by kernel_rfl))⟩)


abbrev tape_Tape_Reserve.R (κ : Ctx) (S : List HP) (x0 : Ttape_Tape) (x1 : Int) (b_x0 : Nat) (A_x0owords : Option Addr) (c_x0owords : Nat) (r : (Int × Ttape_Tape)) : Ending → World → Prop := fun e w' => ∃ (A_y0owords : Option Addr), ∃ (c_y0owords : Nat), e = .returned (.int .i64 r.1) ∧ Own κ w' (pt b_x0 (blk (Ttape_Tape.obj r.2 A_y0owords c_y0owords) 158) :: rowp A_y0owords c_y0owords 23 1 (eI .u64) r.2.words :: S)
def tape_Tape_Reserve.m (k : Nat) (x0 : Ttape_Tape) (x1 : Int) : Option (Int × Ttape_Tape) := (bif decide (x1 < 0) then some (1, x0) else (tape_Tape_Left.m k x0).bind fun v_8 => (bif decide (x1 > v_8) then some (2, x0) else some (0, (⟨x0.words, x0.used, x1⟩ : Ttape_Tape))))

set_option maxRecDepth 100000 in
set_option maxHeartbeats 4000000 in
theorem tape_Tape_Reserve.ok (k : Nat) (x0 : Ttape_Tape) (x1 : Int) (r : (Int × Ttape_Tape)) (hm : tape_Tape_Reserve.m k x0 x1 = some r) (κ : Ctx) (w : World) (S : List HP) (b_x0 : Nat) (A_x0owords : Option Addr) (c_x0owords : Nat) (ho : Own κ w (pt b_x0 (blk (Ttape_Tape.obj x0 A_x0owords c_x0owords) 158) :: rowp A_x0owords c_x0owords 23 1 (eI .u64) x0.words :: S)) :
    Calls Try.prog 56 #[.pointer (some ⟨b_x0, 0, none⟩), .int .i64 x1] w (tape_Tape_Reserve.R κ S x0 x1 b_x0 A_x0owords c_x0owords r) := by
  unfold tape_Tape_Reserve.m at hm
  refine Vk.enter [(0, .pointer (some ⟨b_x0, 0, none⟩)), (1, .int .i64 x1)] Try.func56 rfl Try.ntmps56 (by kernel_rfl) (Nat.le_of_ble_eq_true (by kernel_rfl)) ho fun a hs => ?_
  refine Vk.seq fun K1 hK1 => ?_
  refine Vk.region ?_
  refine Vk.pures 1 [(4, .int .i64 0)] hs (by kernel_rfl) fun a hs => ?_
  replace hs := hs.pick [0, 1] (L' := [(0, .pointer (some ⟨b_x0, 0, none⟩)), (1, .int .i64 x1)]) (by kernel_rfl)
  refine Vk.done (by kernel_rfl) ?_
  refine hK1 _ _ ?_
  clear hK1
  refine Vk.seq fun K2 hK2 => ?_
  refine wp_block ?_
  refine Vk.seq fun K3 hK3 => ?_
  refine Vk.region ?_
  refine Vk.pures 7 [(5, .bool (decide (x1 < 0))), (11, .bool (decide (x1 < 0))), (10, .bool (decide (x1 < 0))), (9, .int .i64 x1), (8, .bool false), (7, .bool false), (6, .pointer (some ⟨b_x0, 0, none⟩))] hs (by kernel_rfl) fun a hs => ?_
  replace hs := hs.pick [0, 1, 5] (L' := [(0, .pointer (some ⟨b_x0, 0, none⟩)), (1, .int .i64 x1), (5, .bool (decide (x1 < 0)))]) (by kernel_rfl)
  refine Vk.done (by kernel_rfl) ?_
  refine hK3 _ _ ?_
  clear hK3
  refine Vk.condS (b := decide (x1 < 0)) hs (by kernel_rfl) (by kernel_rfl) (fun hb => ?_) (fun hb => ?_)
  · replace hm := bif_t hm hb
    refine Vk.seq fun K4 hK4 => ?_
    refine Vk.region ?_
    refine Vk.pures 1 [(4, .int .i64 1)] hs (by kernel_rfl) fun a hs => ?_
    replace hs := hs.pick [4] (L' := [(4, .int .i64 1)]) (by kernel_rfl)
    refine Vk.done (by kernel_rfl) ?_
    refine hK4 _ _ ?_
    clear hK4
    refine wp_ret ?_
    exact Vk.ret1 (P := Try.prog) (fn := Try.f56) (R := tape_Tape_Reserve.R κ S x0 x1 b_x0 A_x0owords c_x0owords r) (.int .i64 1) hs rfl (by kernel_rfl) (by obtain rfl := Option.some.inj hm; exact ⟨A_x0owords, c_x0owords, rfl, (Own.to hs.own [0, 1] 2 (by kernel_rfl) (by kernel_rfl))⟩)
  · replace hm := bif_f hm hb
    refine Vk.seq fun K5 hK5 => ?_
    refine Vk.region ?_
    refine Vk.pures 2 [(14, .pointer (some ⟨b_x0, 0, none⟩)), (13, .int .i64 x1)] hs (by kernel_rfl) fun a hs => ?_
    obtain ⟨v_8, h_7, hm⟩ := bind_t hm
    refine Vk.step (Vk.call (some 15) 91 #[.pointer (some ⟨b_x0, 0, none⟩)] hs (by kernel_rfl) (by kernel_rfl) (by kernel_rfl) ?_)
    refine (tape_Tape_Left.ok k x0 v_8 h_7 κ w (S) b_x0 A_x0owords c_x0owords (Own.to hs.own [0, 1] 2 (by kernel_rfl) (by kernel_rfl))).mono ?_
    rintro _ w ⟨rfl, how⟩
    refine ⟨_, _, _, rfl, how, fun a hs => ?_⟩
    refine Vk.pures 2 [(12, .bool (decide (x1 > v_8))), (16, .bool (decide (x1 > v_8)))] hs (by kernel_rfl) fun a hs => ?_
    replace hs := hs.pick [0, 1, 12] (L' := [(0, .pointer (some ⟨b_x0, 0, none⟩)), (1, .int .i64 x1), (12, .bool (decide (x1 > v_8)))]) (by kernel_rfl)
    refine Vk.done (by kernel_rfl) ?_
    refine hK5 _ _ ?_
    clear hK5
    refine Vk.condS (b := decide (x1 > v_8)) hs (by kernel_rfl) (by kernel_rfl) (fun hb => ?_) (fun hb => ?_)
    · replace hm := bif_t hm hb
      refine Vk.seq fun K9 hK9 => ?_
      refine Vk.region ?_
      refine Vk.pures 1 [(4, .int .i64 2)] hs (by kernel_rfl) fun a hs => ?_
      replace hs := hs.pick [4] (L' := [(4, .int .i64 2)]) (by kernel_rfl)
      refine Vk.done (by kernel_rfl) ?_
      refine hK9 _ _ ?_
      clear hK9
      refine wp_ret ?_
      exact Vk.ret1 (P := Try.prog) (fn := Try.f56) (R := tape_Tape_Reserve.R κ S x0 x1 b_x0 A_x0owords c_x0owords r) (.int .i64 2) hs rfl (by kernel_rfl) (by obtain rfl := Option.some.inj hm; exact ⟨A_x0owords, c_x0owords, rfl, (Own.to hs.own [0, 1] 2 (by kernel_rfl) (by kernel_rfl))⟩)
    · replace hm := bif_f hm hb
      refine wp_skip ?_
      refine hK2 _ _ ?_
      clear hK2
      refine Vk.seq fun K10 hK10 => ?_
      refine Vk.region ?_
      refine Vk.pures 4 [(20, .pointer (some ⟨b_x0, 2, none⟩)), (19, .pointer (some ⟨b_x0, 0, none⟩)), (18, .int .i64 x1), (17, .pointer (some ⟨b_x0, 0, none⟩))] hs (by kernel_rfl) fun a hs => ?_
      refine Vk.step (Vk.store1 (b := b_x0) (ty := 3) (x := (.tmp 20)) (y := (.tmp 18)) (off := 2) (C.int .i64 x1) 0 hs (by kernel_rfl) (by kernel_rfl) (by kernel_rfl) (by kernel_rfl) (by kernel_rfl) (by kernel_rfl) rfl (Nat.le_of_ble_eq_true (by kernel_rfl)) fun a w hs => ?_)
      replace hs := hs.pick [] (L' := []) (by kernel_rfl)
      refine Vk.done (by kernel_rfl) ?_
      refine hK10 _ _ ?_
      clear hK10
      refine Vk.seq fun K11 hK11 => ?_
      refine Vk.region ?_
      refine Vk.pures 1 [(4, .int .i64 0)] hs (by kernel_rfl) fun a hs => ?_
      replace hs := hs.pick [4] (L' := [(4, .int .i64 0)]) (by kernel_rfl)
      refine Vk.done (by kernel_rfl) ?_
      refine hK11 _ _ ?_
      clear hK11
      refine wp_ret ?_
      exact Vk.ret1 (P := Try.prog) (fn := Try.f56) (R := tape_Tape_Reserve.R κ S x0 x1 b_x0 A_x0owords c_x0owords r) (.int .i64 0) hs rfl (by kernel_rfl) (by obtain rfl := Option.some.inj hm; exact ⟨A_x0owords, c_x0owords, rfl, (Own.to hs.own [0, 1] 2 (by kernel_rfl) (by kernel_rfl))⟩)

end Go.Proofs.Ytjjdlidjlepgeaa
