/- Of each Go function that WirePlays comes to: a model in plain Lean, and that the program's call does what the model says; no condition. -/
import Derived.Test.YtjjdlidjlepgeaaProg
import Derived.Test.YtjjdlidjlepgeaaVbcbbhpan
namespace Go.Proofs.Ytjjdlidjlepgeaa
open Go Go.Vk
set_option linter.unusedVariables false


def visorlaw19_tapeWords.l1 (x0 : Int) : Nat → (List Int) → Int → Int → Option (List Int)
  | 0, _, _, _ => none
  | k + 1, q_11, q_12, q_13 => (bif decide (q_13 < x0) then (if (q_11.length + ([IntKind.u64.wrap ((IntKind.u64.wrap (q_12 * 6364136223846793005)) + 1442695040888963407)] : List Int).length) * 8 ≤ 140737488355328 then visorlaw19_tapeWords.l1 x0 k (q_11 ++ ([IntKind.u64.wrap ((IntKind.u64.wrap (q_12 * 6364136223846793005)) + 1442695040888963407)] : List Int)) (IntKind.u64.wrap ((IntKind.u64.wrap (q_12 * 6364136223846793005)) + 1442695040888963407)) (IntKind.i64.wrap (q_13 + 1)) else none) else some q_11)
abbrev visorlaw19_tapeWords.R (κ : Ctx) (S : List HP) (x0 : Int) (r : List Int) : Ending → World → Prop := fun e w' => ∃ (A_r0 : Option Addr), ∃ (c_r0 : Nat), e = .returned (.slice A_r0 r.length c_r0) ∧ Own κ w' (rowp A_r0 c_r0 23 1 (eI .u64) r :: S)
def visorlaw19_tapeWords.m (k : Nat) (x0 : Int) : Option (List Int) := (visorlaw19_tapeWords.l1 x0 k ([] : List Int) 1 0).bind fun p_25 => some p_25

set_option maxRecDepth 100000 in
set_option maxHeartbeats 4000000 in
theorem visorlaw19_tapeWords.ok (k : Nat) (x0 : Int) (r : List Int) (hm : visorlaw19_tapeWords.m k x0 = some r) (κ : Ctx) (w : World) (S : List HP) (ho : Own κ w (S)) :
    Calls Try.prog 55 #[.int .i64 x0] w (visorlaw19_tapeWords.R κ S x0 r) := by
  unfold visorlaw19_tapeWords.m at hm
  refine Vk.enter [(0, .int .i64 x0)] Try.func55 rfl Try.ntmps55 (by kernel_rfl) (Nat.le_of_ble_eq_true (by kernel_rfl)) ho fun a hs => ?_
  refine Vk.seq fun K1 hK1 => ?_
  refine Vk.region ?_
  refine Vk.pures 1 [(2, .slice none 0 0)] hs (by kernel_rfl) fun a hs => ?_
  replace hs := hs.pick [0] (L' := [(0, .int .i64 x0)]) (by kernel_rfl)
  refine Vk.done (by kernel_rfl) ?_
  refine hK1 _ _ ?_
  clear hK1
  refine Vk.seq fun K2 hK2 => ?_
  refine Vk.region ?_
  refine Vk.step (Vk.buildOp (sz := 1) (by_ := 8) (t := 73) (e := 23) (parts := #[]) (zs := vals [C.int .u64 0]) ([] : List Int) (eI .u64) (some 6) hs (by kernel_rfl) (by kernel_rfl) (by kernel_rfl) (by kernel_rfl) (by decide) rfl (fun x _ => rfl) (Nat.le_of_ble_eq_true (by kernel_rfl)) (by kernel_rfl) fun A_3 w a hs => ?_)
  refine Vk.pures 1 [(3, .slice A_3 (([] : List Int).length) 0)] hs (by kernel_rfl) fun a hs => ?_
  replace hs := hs.pick [0, 3] (L' := [(0, .int .i64 x0), (3, .slice A_3 (([] : List Int).length) 0)]) (by kernel_rfl)
  refine Vk.done (by kernel_rfl) ?_
  refine hK2 _ _ ?_
  clear hK2
  refine Vk.seq fun K5 hK5 => ?_
  refine Vk.region ?_
  refine Vk.pures 1 [(4, .int .u64 1)] hs (by kernel_rfl) fun a hs => ?_
  replace hs := hs.pick [0, 3, 4] (L' := [(0, .int .i64 x0), (3, .slice A_3 (([] : List Int).length) 0), (4, .int .u64 1)]) (by kernel_rfl)
  refine Vk.done (by kernel_rfl) ?_
  refine hK5 _ _ ?_
  clear hK5
  refine Vk.seq fun K6 hK6 => ?_
  refine Vk.seq fun K7 hK7 => ?_
  refine Vk.region ?_
  refine Vk.pures 1 [(5, .int .i64 0)] hs (by kernel_rfl) fun a hs => ?_
  replace hs := hs.pick [0, 3, 4, 5] (L' := [(0, .int .i64 x0), (3, .slice A_3 (([] : List Int).length) 0), (4, .int .u64 1), (5, .int .i64 0)]) (by kernel_rfl)
  refine Vk.done (by kernel_rfl) ?_
  refine hK7 _ _ ?_
  clear hK7
  refine wp_block ?_
  obtain ⟨r8, hl8, hm⟩ := bind_t hm
  have hx8 : ∀ (p_25 : List Int), r8 = p_25 → ∀ (A_23 : Option Addr) (c_24 : Nat) (a : Act) (w : World), St 20 a w κ [(3, .slice A_23 p_25.length c_24)] (rowp A_23 c_24 23 1 (eI .u64) p_25 :: S) → K6 a w := by
    intro p_25 he A_23 c_24 a w hs
    subst r8
    refine hK6 _ _ ?_
    clear hK6
    refine Vk.seq fun K31 hK31 => ?_
    refine Vk.region ?_
    refine Vk.pures 2 [(2, .slice A_23 p_25.length c_24), (19, .slice A_23 p_25.length c_24)] hs (by kernel_rfl) fun a hs => ?_
    replace hs := hs.pick [2] (L' := [(2, .slice A_23 p_25.length c_24)]) (by kernel_rfl)
    refine Vk.done (by kernel_rfl) ?_
    refine hK31 _ _ ?_
    clear hK31
    refine wp_ret ?_
    exact Vk.ret1 (P := Try.prog) (fn := Try.f55) (R := visorlaw19_tapeWords.R κ S x0 r) (.slice A_23 p_25.length c_24) hs rfl (by kernel_rfl) (by obtain rfl := Option.some.inj hm; exact ⟨A_23, c_24, rfl, (Own.to hs.own [0] 1 (by kernel_rfl) (by kernel_rfl))⟩)
  refine Vk.loopBy (fun k (s : List Int × Int × Int) a w => ∃ (A_9 : Option Addr), ∃ (c_10 : Nat), visorlaw19_tapeWords.l1 x0 k s.1 s.2.1 s.2.2 = some r8 ∧ St 20 a w κ [(0, .int .i64 x0), (3, .slice A_9 s.1.length c_10), (4, .int .u64 s.2.1), (5, .int .i64 s.2.2)] (rowp A_9 c_10 23 1 (eI .u64) s.1 :: S)) k (([] : List Int), 1, 0) ⟨A_3, 0, hl8, hs.go [0, 3, 4, 5] [0] 1 (by kernel_rfl) (by kernel_rfl) (by kernel_rfl)⟩ (fun s a w h => by obtain ⟨_, _, h1, _⟩ := h; simp [visorlaw19_tapeWords.l1] at h1) (fun k KL8 ih s a w h => ?_)
  obtain ⟨q_11, q_12, q_13⟩ := s
  obtain ⟨A_9, c_10, hm, hs⟩ := h
  try dsimp only at hm hs
  rw [visorlaw19_tapeWords.l1] at hm
  refine Vk.seq fun K14 hK14 => ?_
  refine Vk.seq fun K15 hK15 => ?_
  refine Vk.region ?_
  refine Vk.pures 3 [(9, .bool (decide (q_13 < x0))), (8, .int .i64 x0), (7, .int .i64 q_13)] hs (by kernel_rfl) fun a hs => ?_
  replace hs := hs.pick [0, 3, 4, 5, 9] (L' := [(0, .int .i64 x0), (3, .slice A_9 q_11.length c_10), (4, .int .u64 q_12), (5, .int .i64 q_13), (9, .bool (decide (q_13 < x0)))]) (by kernel_rfl)
  refine Vk.done (by kernel_rfl) ?_
  refine hK15 _ _ ?_
  clear hK15
  refine Vk.condS (b := decide (q_13 < x0)) hs (by kernel_rfl) (by kernel_rfl) (fun hb => ?_) (fun hb => ?_)
  · replace hm := bif_t hm hb
    refine wp_skip ?_
    refine hK14 _ _ ?_
    clear hK14
    refine Vk.seq fun K16 hK16 => ?_
    refine wp_block ?_
    refine Vk.seq fun K17 hK17 => ?_
    refine Vk.region ?_
    refine Vk.pures 4 [(4, .int .u64 (IntKind.u64.wrap ((IntKind.u64.wrap (q_12 * 6364136223846793005)) + 1442695040888963407))), (14, .int .u64 (IntKind.u64.wrap ((IntKind.u64.wrap (q_12 * 6364136223846793005)) + 1442695040888963407))), (13, .int .u64 (IntKind.u64.wrap (q_12 * 6364136223846793005))), (12, .int .u64 q_12)] hs (by kernel_rfl) fun a hs => ?_
    replace hs := hs.pick [0, 3, 4, 5] (L' := [(0, .int .i64 x0), (3, .slice A_9 q_11.length c_10), (4, .int .u64 (IntKind.u64.wrap ((IntKind.u64.wrap (q_12 * 6364136223846793005)) + 1442695040888963407))), (5, .int .i64 q_13)]) (by kernel_rfl)
    refine Vk.done (by kernel_rfl) ?_
    refine hK17 _ _ ?_
    clear hK17
    refine Vk.region ?_
    refine Vk.pures 2 [(16, .int .u64 (IntKind.u64.wrap ((IntKind.u64.wrap (q_12 * 6364136223846793005)) + 1442695040888963407))), (15, .slice A_9 q_11.length c_10)] hs (by kernel_rfl) fun a hs => ?_
    refine Vk.step (Vk.buildOp (sz := 1) (by_ := 8) (t := 73) (e := 23) (parts := #[(0, (.tmp 16))]) (zs := vals [C.int .u64 0]) ([IntKind.u64.wrap ((IntKind.u64.wrap (q_12 * 6364136223846793005)) + 1442695040888963407)] : List Int) (eI .u64) (some 17) hs (by kernel_rfl) (by kernel_rfl) (by kernel_rfl) (by kernel_rfl) (by decide) rfl (fun x _ => rfl) (Nat.le_of_ble_eq_true (by kernel_rfl)) (by kernel_rfl) fun A_18 w a hs => ?_)
    obtain ⟨h_20, hm⟩ := ite_t hm
    refine Vk.step (Vk.appendOp (x := (.tmp 15)) (y := (.tmp 17)) (e := 23) (t := 73) (by_ := 8) (sz := 1) (enc := (eI .u64)) (A := A_9) (cap := c_10) (xs := q_11) (ys := ([IntKind.u64.wrap ((IntKind.u64.wrap (q_12 * 6364136223846793005)) + 1442695040888963407)] : List Int)) (B := A_18) (c2 := 1) 1 (some 18) hs (by kernel_rfl) (by kernel_rfl) (by kernel_rfl) (by kernel_rfl) rfl (Sl.lift (fun w ho => (Own.to (S' := rowp A_18 1 23 1 (eI .u64) ([IntKind.u64.wrap ((IntKind.u64.wrap (q_12 * 6364136223846793005)) + 1442695040888963407)] : List Int) :: S) ho [0] 2 (by kernel_rfl) (by kernel_rfl))) (Own.rowSl 0 (Own.to (S' := rowp A_18 1 23 1 (eI .u64) ([IntKind.u64.wrap ((IntKind.u64.wrap (q_12 * 6364136223846793005)) + 1442695040888963407)] : List Int) :: S) hs.own [0] 2 (by kernel_rfl) (by kernel_rfl)) rfl)) (by kernel_rfl) (by kernel_rfl) (by decide) (by decide) h_20 fun A_21 c_22 w a hs => ?_)
    refine Vk.pures 1 [(3, .slice A_21 ((q_11 ++ ([IntKind.u64.wrap ((IntKind.u64.wrap (q_12 * 6364136223846793005)) + 1442695040888963407)] : List Int)).length) c_22)] hs (by kernel_rfl) fun a hs => ?_
    replace hs := hs.pick [0, 3, 4, 5] (L' := [(0, .int .i64 x0), (3, .slice A_21 ((q_11 ++ ([IntKind.u64.wrap ((IntKind.u64.wrap (q_12 * 6364136223846793005)) + 1442695040888963407)] : List Int)).length) c_22), (4, .int .u64 (IntKind.u64.wrap ((IntKind.u64.wrap (q_12 * 6364136223846793005)) + 1442695040888963407))), (5, .int .i64 q_13)]) (by kernel_rfl)
    refine Vk.done (by kernel_rfl) ?_
    refine hK16 _ _ ?_
    clear hK16
    refine Vk.region ?_
    refine Vk.pures 3 [(5, .int .i64 (IntKind.i64.wrap (q_13 + 1))), (11, .int .i64 (IntKind.i64.wrap (q_13 + 1))), (10, .int .i64 q_13)] hs (by kernel_rfl) fun a hs => ?_
    replace hs := hs.pick [0, 3, 4, 5] (L' := [(0, .int .i64 x0), (3, .slice A_21 ((q_11 ++ ([IntKind.u64.wrap ((IntKind.u64.wrap (q_12 * 6364136223846793005)) + 1442695040888963407)] : List Int)).length) c_22), (4, .int .u64 (IntKind.u64.wrap ((IntKind.u64.wrap (q_12 * 6364136223846793005)) + 1442695040888963407))), (5, .int .i64 (IntKind.i64.wrap (q_13 + 1)))]) (by kernel_rfl)
    refine Vk.done (by kernel_rfl) ?_
    refine ih ((q_11 ++ ([IntKind.u64.wrap ((IntKind.u64.wrap (q_12 * 6364136223846793005)) + 1442695040888963407)] : List Int)), (IntKind.u64.wrap ((IntKind.u64.wrap (q_12 * 6364136223846793005)) + 1442695040888963407)), (IntKind.i64.wrap (q_13 + 1))) _ _ ⟨A_21, c_22, hm, hs.go [0, 3, 4, 5] [1] 2 (by kernel_rfl) (by kernel_rfl) (by kernel_rfl)⟩
  · replace hm := bif_f hm hb
    refine wp_exit ?_
    exact hx8 q_11 (Option.some.inj hm).symm A_9 c_10 _ _ (hs.go [3] [0] 1 (by kernel_rfl) (by kernel_rfl) (by kernel_rfl))


abbrev slices_Clone_uint64_uint64.R (κ : Ctx) (S : List HP) (x0 : List Int) (A_x0 : Option Addr) (c_x0 : Nat) (r : List Int) : Ending → World → Prop := fun e w' => ∃ (A_r0 : Option Addr), ∃ (c_r0 : Nat), e = .returned (.slice A_r0 r.length c_r0) ∧ Own κ w' (rowp A_r0 c_r0 23 1 (eI .u64) r :: S)
def slices_Clone_uint64_uint64.m (k : Nat) (x0 : List Int) : Option (List Int) := (if (([] : List Int).length + x0.length) * 8 ≤ 140737488355328 then some (([] : List Int) ++ x0) else none)

set_option maxRecDepth 100000 in
set_option maxHeartbeats 4000000 in
theorem slices_Clone_uint64_uint64.ok (k : Nat) (x0 : List Int) (r : List Int) (hm : slices_Clone_uint64_uint64.m k x0 = some r) (κ : Ctx) (w : World) (S : List HP) (A_x0 : Option Addr) (c_x0 : Nat) (hx_x0 : Sl κ S A_x0 c_x0 1 (eI .u64) x0) (ho : Own κ w (S)) :
    Calls Try.prog 90 #[.slice A_x0 x0.length c_x0] w (slices_Clone_uint64_uint64.R κ S x0 A_x0 c_x0 r) := by
  unfold slices_Clone_uint64_uint64.m at hm
  rcases A_x0 with _ | p_x0
  · obtain rfl : c_x0 = 0 := hx_x0.none rfl
    obtain rfl : x0 = [] := List.length_eq_zero_iff.1 (Nat.le_zero.1 hx_x0.le)
    replace hm : some ([] : List Int) = some r := by simpa using hm
    refine Vk.enter [(0, .slice none 0 0)] Try.func90 rfl Try.ntmps90 (by kernel_rfl) (Nat.le_of_ble_eq_true (by kernel_rfl)) ho fun a hs => ?_
    refine Vk.seq fun K1 hK1 => ?_
    refine Vk.region ?_
    refine Vk.pures 1 [(2, .slice none 0 0)] hs (by kernel_rfl) fun a hs => ?_
    replace hs := hs.pick [0] (L' := [(0, .slice none 0 0)]) (by kernel_rfl)
    refine Vk.done (by kernel_rfl) ?_
    refine hK1 _ _ ?_
    clear hK1
    refine Vk.seq fun K2 hK2 => ?_
    refine Vk.seq fun K3 hK3 => ?_
    refine Vk.region ?_
    refine Vk.pures 2 [(4, .bool true), (3, .slice none 0 0)] hs (by kernel_rfl) fun a hs => ?_
    replace hs := hs.pick [0, 4] (L' := [(0, .slice none 0 0), (4, .bool true)]) (by kernel_rfl)
    refine Vk.done (by kernel_rfl) ?_
    refine hK3 _ _ ?_
    clear hK3
    refine Vk.condT hs (by kernel_rfl) (by kernel_rfl) ?_
    refine Vk.seq fun K4 hK4 => ?_
    refine Vk.region ?_
    refine Vk.pures 1 [(2, .slice none 0 0)] hs (by kernel_rfl) fun a hs => ?_
    replace hs := hs.pick [2] (L' := [(2, .slice none 0 0)]) (by kernel_rfl)
    refine Vk.done (by kernel_rfl) ?_
    refine hK4 _ _ ?_
    clear hK4
    refine wp_ret ?_
    replace hs := hs.addRow none 23 1 (eI .u64)
    exact Vk.ret1 (P := Try.prog) (fn := Try.f90) (R := slices_Clone_uint64_uint64.R κ S [] none 0 r) (.slice none (([] : List Int).length) 0) hs rfl (by kernel_rfl) (by obtain rfl := Option.some.inj hm; exact ⟨none, 0, rfl, (Own.to hs.own [0] 1 (by kernel_rfl) (by kernel_rfl))⟩)
  · skip
    refine Vk.enter [(0, .slice (some p_x0) x0.length c_x0)] Try.func90 rfl Try.ntmps90 (by kernel_rfl) (Nat.le_of_ble_eq_true (by kernel_rfl)) ho fun a hs => ?_
    refine Vk.seq fun K1 hK1 => ?_
    refine Vk.region ?_
    refine Vk.pures 1 [(2, .slice none 0 0)] hs (by kernel_rfl) fun a hs => ?_
    replace hs := hs.pick [0] (L' := [(0, .slice (some p_x0) x0.length c_x0)]) (by kernel_rfl)
    refine Vk.done (by kernel_rfl) ?_
    refine hK1 _ _ ?_
    clear hK1
    refine Vk.seq fun K2 hK2 => ?_
    refine Vk.seq fun K3 hK3 => ?_
    refine Vk.region ?_
    refine Vk.pures 2 [(4, .bool false), (3, .slice (some p_x0) x0.length c_x0)] hs (by kernel_rfl) fun a hs => ?_
    replace hs := hs.pick [0, 4] (L' := [(0, .slice (some p_x0) x0.length c_x0), (4, .bool false)]) (by kernel_rfl)
    refine Vk.done (by kernel_rfl) ?_
    refine hK3 _ _ ?_
    clear hK3
    refine Vk.condF hs (by kernel_rfl) (by kernel_rfl) ?_
    refine wp_skip ?_
    refine hK2 _ _ ?_
    clear hK2
    refine Vk.seq fun K4 hK4 => ?_
    refine Vk.region ?_
    refine Vk.step (Vk.buildOp (sz := 1) (by_ := 8) (t := 73) (e := 23) (parts := #[]) (zs := vals [C.int .u64 0]) ([] : List Int) (eI .u64) (some 5) hs (by kernel_rfl) (by kernel_rfl) (by kernel_rfl) (by kernel_rfl) (by decide) rfl (fun x _ => rfl) (Nat.le_of_ble_eq_true (by kernel_rfl)) (by kernel_rfl) fun A_5 w a hs => ?_)
    refine Vk.pures 1 [(6, .slice (some p_x0) x0.length c_x0)] hs (by kernel_rfl) fun a hs => ?_
    obtain ⟨h_7, hm⟩ := ite_t hm
    refine Vk.step (Vk.appendOp (x := (.tmp 5)) (y := (.tmp 6)) (e := 23) (t := 73) (by_ := 8) (sz := 1) (enc := (eI .u64)) (A := A_5) (cap := 0) (xs := ([] : List Int)) (ys := x0) (B := (some p_x0)) (c2 := c_x0) 0 (some 7) hs (by kernel_rfl) (by kernel_rfl) (by kernel_rfl) (by kernel_rfl) rfl hx_x0.less (by kernel_rfl) (by kernel_rfl) (by decide) (by decide) h_7 fun A_8 c_9 w a hs => ?_)
    refine Vk.pures 1 [(2, .slice A_8 ((([] : List Int) ++ x0).length) c_9)] hs (by kernel_rfl) fun a hs => ?_
    replace hs := hs.pick [2] (L' := [(2, .slice A_8 ((([] : List Int) ++ x0).length) c_9)]) (by kernel_rfl)
    refine Vk.done (by kernel_rfl) ?_
    refine hK4 _ _ ?_
    clear hK4
    refine wp_ret ?_
    exact Vk.ret1 (P := Try.prog) (fn := Try.f90) (R := slices_Clone_uint64_uint64.R κ S x0 (some p_x0) c_x0 r) (.slice A_8 ((([] : List Int) ++ x0).length) c_9) hs rfl (by kernel_rfl) (by obtain rfl := Option.some.inj hm; exact ⟨A_8, c_9, rfl, (Own.to hs.own [0] 1 (by kernel_rfl) (by kernel_rfl))⟩)

structure Tatomic_Int64 where
  v : Int
  deriving Inhabited
def Tatomic_Int64.cells (x : Tatomic_Int64) : Cells := [C.int .i64 x.v]

structure Ttape_Tape where
  words : List Int
  used : Tatomic_Int64
  free : Int
  deriving Inhabited
def Ttape_Tape.obj (x : Ttape_Tape) (Awords : Option Addr) (cwords : Nat) : Cells := [C.slc Awords x.words.length cwords, C.int .i64 x.used.v, C.int .i64 x.free]

abbrev tape_New.R (κ : Ctx) (S : List HP) (x0 : List Int) (A_x0 : Option Addr) (c_x0 : Nat) (r : Ttape_Tape) : Ending → World → Prop := fun e w' => ∃ (b_r0 : Nat), ∃ (A_r0owords : Option Addr), ∃ (c_r0owords : Nat), e = .returned (.pointer (some ⟨b_r0, 0, none⟩)) ∧ Own κ w' (pt b_r0 (blk (Ttape_Tape.obj r A_r0owords c_r0owords) 158) :: rowp A_r0owords c_r0owords 23 1 (eI .u64) r.words :: S)
def tape_New.m (k : Nat) (x0 : List Int) : Option Ttape_Tape := (slices_Clone_uint64_uint64.m k x0).bind fun v_5 => some (⟨v_5, (⟨0⟩ : Tatomic_Int64), 0⟩ : Ttape_Tape)

set_option maxRecDepth 100000 in
set_option maxHeartbeats 4000000 in
theorem tape_New.ok (k : Nat) (x0 : List Int) (r : Ttape_Tape) (hm : tape_New.m k x0 = some r) (κ : Ctx) (w : World) (S : List HP) (A_x0 : Option Addr) (c_x0 : Nat) (hx_x0 : Sl κ S A_x0 c_x0 1 (eI .u64) x0) (ho : Own κ w (S)) :
    Calls Try.prog 54 #[.slice A_x0 x0.length c_x0] w (tape_New.R κ S x0 A_x0 c_x0 r) := by
  unfold tape_New.m at hm
  refine Vk.enter [(0, .slice A_x0 x0.length c_x0)] Try.func54 rfl Try.ntmps54 (by kernel_rfl) (Nat.le_of_ble_eq_true (by kernel_rfl)) ho fun a hs => ?_
  refine Vk.seq fun K1 hK1 => ?_
  refine Vk.region ?_
  refine Vk.pures 1 [(2, .pointer none)] hs (by kernel_rfl) fun a hs => ?_
  replace hs := hs.pick [0] (L' := [(0, .slice A_x0 x0.length c_x0)]) (by kernel_rfl)
  refine Vk.done (by kernel_rfl) ?_
  refine hK1 _ _ ?_
  clear hK1
  refine Vk.seq fun K2 hK2 => ?_
  refine Vk.region ?_
  refine Vk.pures 1 [(3, .slice A_x0 x0.length c_x0)] hs (by kernel_rfl) fun a hs => ?_
  obtain ⟨v_5, h_4, hm⟩ := bind_t hm
  refine Vk.step (Vk.call (some 4) 90 #[.slice A_x0 x0.length c_x0] hs (by kernel_rfl) (by kernel_rfl) (by kernel_rfl) ?_)
  refine (slices_Clone_uint64_uint64.ok k x0 v_5 h_4 κ w (S) A_x0 c_x0 hx_x0 hs.own).mono ?_
  rintro _ w ⟨Ar3x0_6, cr3x0_7, rfl, how⟩
  refine ⟨_, _, _, rfl, how, fun a hs => ?_⟩
  refine Vk.pures 1 [(5, .agg (vals [C.slc Ar3x0_6 v_5.length cr3x0_7, C.int .i64 0, C.int .i64 0]))] hs (by kernel_rfl) fun a hs => ?_
  refine Vk.step (Vk.box (x := (.tmp 5)) 6 158 [C.slc Ar3x0_6 v_5.length cr3x0_7, C.int .i64 0, C.int .i64 0] hs (by kernel_rfl) (by kernel_rfl) (by kernel_rfl) fun b_8 w a hs => ?_)
  refine Vk.pures 1 [(2, .pointer (some ⟨b_8, 0, none⟩))] hs (by kernel_rfl) fun a hs => ?_
  replace hs := hs.pick [2] (L' := [(2, .pointer (some ⟨b_8, 0, none⟩))]) (by kernel_rfl)
  refine Vk.done (by kernel_rfl) ?_
  refine hK2 _ _ ?_
  clear hK2
  refine wp_ret ?_
  exact Vk.ret1 (P := Try.prog) (fn := Try.f54) (R := tape_New.R κ S x0 A_x0 c_x0 r) (.pointer (some ⟨b_8, 0, none⟩)) hs rfl (by kernel_rfl) (by obtain rfl := Option.some.inj hm; exact ⟨b_8, Ar3x0_6, cr3x0_7, rfl, (Own.to hs.own [0, 1] 2 (by kernel_rfl) (by kernel_rfl))⟩)


abbrev sync_atomic_Int64_Load.R (κ : Ctx) (S : List HP) (x0 : Tatomic_Int64) (b_x0 : Nat) (r : Int) : Ending → World → Prop := fun e w' => e = .returned (.int .i64 r) ∧ Own κ w' (pt b_x0 (blk [C.int .i64 x0.v] 156) :: S)
def sync_atomic_Int64_Load.m (k : Nat) (x0 : Tatomic_Int64) : Option Int := some x0.v

set_option maxRecDepth 100000 in
set_option maxHeartbeats 4000000 in
theorem sync_atomic_Int64_Load.ok (k : Nat) (x0 : Tatomic_Int64) (r : Int) (hm : sync_atomic_Int64_Load.m k x0 = some r) (κ : Ctx) (w : World) (S : List HP) (b_x0 : Nat) (ho : Own κ w (pt b_x0 (blk [C.int .i64 x0.v] 156) :: S)) :
    Calls Try.prog 131 #[.pointer (some ⟨b_x0, 0, none⟩)] w (sync_atomic_Int64_Load.R κ S x0 b_x0 r) := by
  unfold sync_atomic_Int64_Load.m at hm
  refine Vk.enter [(0, .pointer (some ⟨b_x0, 0, none⟩))] Try.func131 rfl Try.ntmps131 (by kernel_rfl) (Nat.le_of_ble_eq_true (by kernel_rfl)) ho fun a hs => ?_
  refine Vk.seq fun K1 hK1 => ?_
  refine Vk.region ?_
  refine Vk.pures 1 [(2, .int .i64 0)] hs (by kernel_rfl) fun a hs => ?_
  replace hs := hs.pick [0] (L' := [(0, .pointer (some ⟨b_x0, 0, none⟩))]) (by kernel_rfl)
  refine Vk.done (by kernel_rfl) ?_
  refine hK1 _ _ ?_
  clear hK1
  refine Vk.seq fun K2 hK2 => ?_
  refine Vk.region ?_
  refine Vk.pures 3 [(5, .pointer (some ⟨b_x0, 0, none⟩)), (4, .pointer (some ⟨b_x0, 0, none⟩)), (3, .pointer (some ⟨b_x0, 0, none⟩))] hs (by kernel_rfl) fun a hs => ?_
  refine Vk.step (Vk.atomLoad (k := .i64) (b := b_x0) (off := 0) (x := x0.v) (some 6) 133 Try.f133 hs (by kernel_rfl) (by kernel_rfl) Try.func133 (by kernel_rfl) (by kernel_rfl) (Cell.own 0 rfl (by kernel_rfl)) fun a hs => ?_)
  refine Vk.pures 1 [(2, .int .i64 x0.v)] hs (by kernel_rfl) fun a hs => ?_
  replace hs := hs.pick [2] (L' := [(2, .int .i64 x0.v)]) (by kernel_rfl)
  refine Vk.done (by kernel_rfl) ?_
  refine hK2 _ _ ?_
  clear hK2
  refine wp_ret ?_
  exact Vk.ret1 (P := Try.prog) (fn := Try.f131) (R := sync_atomic_Int64_Load.R κ S x0 b_x0 r) (.int .i64 x0.v) hs rfl (by kernel_rfl) (by obtain rfl := Option.some.inj hm; exact ⟨rfl, (Own.to hs.own [0] 1 (by kernel_rfl) (by kernel_rfl))⟩)


abbrev tape_Tape_Used.R (κ : Ctx) (S : List HP) (x0 : Ttape_Tape) (b_x0 : Nat) (A_x0owords : Option Addr) (c_x0owords : Nat) (r : Int) : Ending → World → Prop := fun e w' => e = .returned (.int .i64 r) ∧ Own κ w' (pt b_x0 (blk (Ttape_Tape.obj x0 A_x0owords c_x0owords) 158) :: rowp A_x0owords c_x0owords 23 1 (eI .u64) x0.words :: S)
def tape_Tape_Used.m (k : Nat) (x0 : Ttape_Tape) : Option Int := some x0.used.v

set_option maxRecDepth 100000 in
set_option maxHeartbeats 4000000 in
theorem tape_Tape_Used.ok (k : Nat) (x0 : Ttape_Tape) (r : Int) (hm : tape_Tape_Used.m k x0 = some r) (κ : Ctx) (w : World) (S : List HP) (b_x0 : Nat) (A_x0owords : Option Addr) (c_x0owords : Nat) (ho : Own κ w (pt b_x0 (blk (Ttape_Tape.obj x0 A_x0owords c_x0owords) 158) :: rowp A_x0owords c_x0owords 23 1 (eI .u64) x0.words :: S)) :
    Calls Try.prog 121 #[.pointer (some ⟨b_x0, 0, none⟩)] w (tape_Tape_Used.R κ S x0 b_x0 A_x0owords c_x0owords r) := by
  unfold tape_Tape_Used.m at hm
  refine Vk.enter [(0, .pointer (some ⟨b_x0, 0, none⟩))] Try.func121 rfl Try.ntmps121 (by kernel_rfl) (Nat.le_of_ble_eq_true (by kernel_rfl)) ho fun a hs => ?_
  refine Vk.seq fun K1 hK1 => ?_
  refine Vk.region ?_
  refine Vk.pures 1 [(2, .int .i64 0)] hs (by kernel_rfl) fun a hs => ?_
  replace hs := hs.pick [0] (L' := [(0, .pointer (some ⟨b_x0, 0, none⟩))]) (by kernel_rfl)
  refine Vk.done (by kernel_rfl) ?_
  refine hK1 _ _ ?_
  clear hK1
  refine Vk.seq fun K2 hK2 => ?_
  refine Vk.seq fun K3 hK3 => ?_
  refine Vk.region ?_
  refine Vk.pures 2 [(4, .bool false), (3, .pointer (some ⟨b_x0, 0, none⟩))] hs (by kernel_rfl) fun a hs => ?_
  replace hs := hs.pick [0, 4] (L' := [(0, .pointer (some ⟨b_x0, 0, none⟩)), (4, .bool false)]) (by kernel_rfl)
  refine Vk.done (by kernel_rfl) ?_
  refine hK3 _ _ ?_
  clear hK3
  refine Vk.condF hs (by kernel_rfl) (by kernel_rfl) ?_
  refine wp_skip ?_
  refine hK2 _ _ ?_
  clear hK2
  refine Vk.seq fun K4 hK4 => ?_
  refine Vk.region ?_
  refine Vk.pures 3 [(7, .pointer (some ⟨b_x0, 1, none⟩)), (6, .pointer (some ⟨b_x0, 0, none⟩)), (5, .pointer (some ⟨b_x0, 0, none⟩))] hs (by kernel_rfl) fun a hs => ?_
  refine Vk.step (Vk.call (some 8) 131 #[.pointer (some ⟨b_x0, 1, none⟩)] hs (by kernel_rfl) (by kernel_rfl) (by kernel_rfl) ?_)
  refine Vk.enterI [(0, .pointer (some ⟨b_x0, 1, none⟩))] Try.func131 rfl Try.ntmps131 (by kernel_rfl) (Nat.le_of_ble_eq_true (by kernel_rfl)) hs.own fun KR5 hKR5 hKP5 a hs => ?_
  refine Vk.seq fun K6 hK6 => ?_
  refine Vk.region ?_
  refine Vk.pures 1 [(2, .int .i64 0)] hs (by kernel_rfl) fun a hs => ?_
  replace hs := hs.pick [0] (L' := [(0, .pointer (some ⟨b_x0, 1, none⟩))]) (by kernel_rfl)
  refine Vk.done (by kernel_rfl) ?_
  refine hK6 _ _ ?_
  clear hK6
  refine Vk.seq fun K7 hK7 => ?_
  refine Vk.region ?_
  refine Vk.pures 3 [(5, .pointer (some ⟨b_x0, 1, none⟩)), (4, .pointer (some ⟨b_x0, 1, none⟩)), (3, .pointer (some ⟨b_x0, 1, none⟩))] hs (by kernel_rfl) fun a hs => ?_
  refine Vk.step (Vk.atomLoad (k := .i64) (b := b_x0) (off := 1) (x := x0.used.v) (some 6) 133 Try.f133 hs (by kernel_rfl) (by kernel_rfl) Try.func133 (by kernel_rfl) (by kernel_rfl) (Cell.own 0 rfl (by kernel_rfl)) fun a hs => ?_)
  refine Vk.pures 1 [(2, .int .i64 x0.used.v)] hs (by kernel_rfl) fun a hs => ?_
  replace hs := hs.pick [2] (L' := [(2, .int .i64 x0.used.v)]) (by kernel_rfl)
  refine Vk.done (by kernel_rfl) ?_
  refine hK7 _ _ ?_
  clear hK7
  refine wp_ret ?_
  refine hKP5 _ _ ?_
  refine hKR5 _ _ ?_
  refine Vk.ret1 (P := Try.prog) (fn := Try.f131) (.int .i64 x0.used.v) hs rfl (by kernel_rfl) ⟨_, _, _, rfl, hs.own, fun a hs => ?_⟩
  refine Vk.pures 1 [(2, .int .i64 x0.used.v)] hs (by kernel_rfl) fun a hs => ?_
  replace hs := hs.pick [2] (L' := [(2, .int .i64 x0.used.v)]) (by kernel_rfl)
  refine Vk.done (by kernel_rfl) ?_
  refine hK4 _ _ ?_
  clear hK4
  refine wp_ret ?_
  exact Vk.ret1 (P := Try.prog) (fn := Try.f121) (R := tape_Tape_Used.R κ S x0 b_x0 A_x0owords c_x0owords r) (.int .i64 x0.used.v) hs rfl (by kernel_rfl) (by obtain rfl := Option.some.inj hm; exact ⟨rfl, (Own.to hs.own [0, 1] 2 (by kernel_rfl) (by kernel_rfl))⟩)


abbrev tape_Tape_Left.R (κ : Ctx) (S : List HP) (x0 : Ttape_Tape) (b_x0 : Nat) (A_x0owords : Option Addr) (c_x0owords : Nat) (r : Int) : Ending → World → Prop := fun e w' => e = .returned (.int .i64 r) ∧ Own κ w' (pt b_x0 (blk (Ttape_Tape.obj x0 A_x0owords c_x0owords) 158) :: rowp A_x0owords c_x0owords 23 1 (eI .u64) x0.words :: S)
def tape_Tape_Left.m (k : Nat) (x0 : Ttape_Tape) : Option Int := (tape_Tape_Used.m k x0).bind fun v_8 => some (IntKind.i64.wrap (((x0.words.length : Nat) : Int) - v_8))

set_option maxRecDepth 100000 in
set_option maxHeartbeats 4000000 in
theorem tape_Tape_Left.ok (k : Nat) (x0 : Ttape_Tape) (r : Int) (hm : tape_Tape_Left.m k x0 = some r) (κ : Ctx) (w : World) (S : List HP) (b_x0 : Nat) (A_x0owords : Option Addr) (c_x0owords : Nat) (ho : Own κ w (pt b_x0 (blk (Ttape_Tape.obj x0 A_x0owords c_x0owords) 158) :: rowp A_x0owords c_x0owords 23 1 (eI .u64) x0.words :: S)) :
    Calls Try.prog 91 #[.pointer (some ⟨b_x0, 0, none⟩)] w (tape_Tape_Left.R κ S x0 b_x0 A_x0owords c_x0owords r) := by
  unfold tape_Tape_Left.m at hm
  refine Vk.enter [(0, .pointer (some ⟨b_x0, 0, none⟩))] Try.func91 rfl Try.ntmps91 (by kernel_rfl) (Nat.le_of_ble_eq_true (by kernel_rfl)) ho fun a hs => ?_
  refine Vk.seq fun K1 hK1 => ?_
  refine Vk.region ?_
  refine Vk.pures 1 [(2, .int .i64 0)] hs (by kernel_rfl) fun a hs => ?_
  replace hs := hs.pick [0] (L' := [(0, .pointer (some ⟨b_x0, 0, none⟩))]) (by kernel_rfl)
  refine Vk.done (by kernel_rfl) ?_
  refine hK1 _ _ ?_
  clear hK1
  refine Vk.seq fun K2 hK2 => ?_
  refine Vk.seq fun K3 hK3 => ?_
  refine Vk.region ?_
  refine Vk.pures 2 [(4, .bool false), (3, .pointer (some ⟨b_x0, 0, none⟩))] hs (by kernel_rfl) fun a hs => ?_
  replace hs := hs.pick [0, 4] (L' := [(0, .pointer (some ⟨b_x0, 0, none⟩)), (4, .bool false)]) (by kernel_rfl)
  refine Vk.done (by kernel_rfl) ?_
  refine hK3 _ _ ?_
  clear hK3
  refine Vk.condF hs (by kernel_rfl) (by kernel_rfl) ?_
  refine wp_skip ?_
  refine hK2 _ _ ?_
  clear hK2
  refine Vk.seq fun K4 hK4 => ?_
  obtain ⟨C_5, hC_5⟩ : ∃ X0 : List HP, X0 = (pt b_x0 (blk (Ttape_Tape.obj x0 A_x0owords c_x0owords) 158) :: rowp A_x0owords c_x0owords 23 1 (eI .u64) x0.words :: S) := ⟨_, rfl⟩
  refine Vk.drawnT 9 κ C_5 hs (by kernel_rfl) fun w hs => ?_
  have hcz : Own κ w (pt b_x0 (blk (Ttape_Tape.obj x0 A_x0owords c_x0owords) 158) :: rowp A_x0owords c_x0owords 23 1 (eI .u64) x0.words :: S) := (Own.to hs.own [0, 1] 2 (by kernel_rfl) (by kernel_rfl))
  have hcl : Own κ w C_5 := by rw [hC_5]; exact hcz
  refine Vk.dPuresT [0, 1, 2, 5] [(10, .pointer (some ⟨b_x0, 0, none⟩)), (7, .pointer (some ⟨b_x0, 0, none⟩)), (6, .pointer (some ⟨b_x0, 0, none⟩)), (5, .pointer (some ⟨b_x0, 0, none⟩))] hs (by kernel_rfl) (by repeat' (first | exact Vk.Calm.post | refine Vk.Calm.then ?_ | refine Vk.Calm.inBlock ?_)) hcl (by kernel_rfl) (by kernel_rfl) (fuel := 5) rfl fun a hs => ?_
  refine Vk.dTakeT (i := 3) (some 8) (.slice A_x0owords x0.words.length c_x0owords) hs (by kernel_rfl) (by repeat' (first | exact Vk.Calm.post | refine Vk.Calm.then ?_ | refine Vk.Calm.inBlock ?_)) hcl (by kernel_rfl) (by kernel_rfl) (op := (.load 73 (.tmp 7))) (by kernel_rfl) (by kernel_rfl) (fun w hw o ho => by rw [hC_5] at hw; exact run_load1 (b := b_x0) (off := 0) (c := C.slc A_x0owords x0.words.length c_x0owords) ho (by kernel_rfl) (by kernel_rfl) (Cell.own 0 rfl (by kernel_rfl)) _ hw) fun a hs => ?_
  refine Vk.dPuresT [4] [(9, .int .i64 ((x0.words.length : Nat) : Int))] hs (by kernel_rfl) (by repeat' (first | exact Vk.Calm.post | refine Vk.Calm.then ?_ | refine Vk.Calm.inBlock ?_)) hcl (by kernel_rfl) (by kernel_rfl) (fuel := 3) rfl fun a hs => ?_
  obtain ⟨v_8, h_7, hm⟩ := bind_t hm
  refine Vk.dOnly (i := 6) (by kernel_rfl) (Vk.call (some 11) 121 #[.pointer (some ⟨b_x0, 0, none⟩)] hs (by kernel_rfl) (by kernel_rfl) (by kernel_rfl) ?_)
  refine (tape_Tape_Used.ok k x0 v_8 h_7 κ w (S) b_x0 A_x0owords c_x0owords (Own.to hs.own [0, 1] 2 (by kernel_rfl) (by kernel_rfl))).mono ?_
  rintro _ w ⟨rfl, how⟩
  refine ⟨_, _, _, rfl, how, fun a hs => ?_⟩
  replace hcl : Own κ w C_5 := by rw [hC_5]; exact (Own.to hs.own [0, 1] 2 (by kernel_rfl) (by kernel_rfl))
  refine ⟨fun _ => hcl, ?_⟩
  refine Vk.dPuresT [7, 8] [(2, .int .i64 (IntKind.i64.wrap (((x0.words.length : Nat) : Int) - v_8))), (12, .int .i64 (IntKind.i64.wrap (((x0.words.length : Nat) : Int) - v_8)))] hs (by kernel_rfl) (by repeat' (first | exact Vk.Calm.post | refine Vk.Calm.then ?_ | refine Vk.Calm.inBlock ?_)) hcl (by kernel_rfl) (by kernel_rfl) (fuel := 0) rfl fun a hs => ?_
  replace hs := hs.pick [2] (L' := [(2, .int .i64 (IntKind.i64.wrap (((x0.words.length : Nat) : Int) - v_8)))]) (by kernel_rfl)
  refine Vk.dDone (by kernel_rfl) ?_
  refine hK4 _ _ ?_
  clear hK4
  refine wp_ret ?_
  exact Vk.ret1 (P := Try.prog) (fn := Try.f91) (R := tape_Tape_Left.R κ S x0 b_x0 A_x0owords c_x0owords r) (.int .i64 (IntKind.i64.wrap (((x0.words.length : Nat) : Int) - v_8))) hs rfl (by kernel_rfl) (by obtain rfl := Option.some.inj hm; exact ⟨rfl, (Own.to hs.own [0, 1] 2 (by kernel_rfl) (by kernel_rfl))⟩)


abbrev tape_Tape_Reserve.R (κ : Ctx) (S : List HP) (x0 : Ttape_Tape) (x1 : Int) (b_x0 : Nat) (A_x0owords : Option Addr) (c_x0owords : Nat) (r : (Int × Ttape_Tape)) : Ending → World → Prop := fun e w' => ∃ (A_y0owords : Option Addr), ∃ (c_y0owords : Nat), e = .returned (.int .i64 r.1) ∧ Own κ w' (pt b_x0 (blk (Ttape_Tape.obj r.2 A_y0owords c_y0owords) 158) :: rowp A_y0owords c_y0owords 23 1 (eI .u64) r.2.words :: S)
def tape_Tape_Reserve.m (k : Nat) (x0 : Ttape_Tape) (x1 : Int) : Option (Int × Ttape_Tape) := (bif decide (x1 < 0) then some (1, x0) else (tape_Tape_Left.m k x0).bind fun v_8 => (bif decide (x1 > v_8) then some (2, x0) else some (0, (⟨x0.words, x0.used, x1⟩ : Ttape_Tape))))

set_option maxRecDepth 100000 in
set_option maxHeartbeats 4000000 in
theorem tape_Tape_Reserve.ok (k : Nat) (x0 : Ttape_Tape) (x1 : Int) (r : (Int × Ttape_Tape)) (hm : tape_Tape_Reserve.m k x0 x1 = some r) (κ : Ctx) (w : World) (S : List HP) (b_x0 : Nat) (A_x0owords : Option Addr) (c_x0owords : Nat) (ho : Own κ w (pt b_x0 (blk (Ttape_Tape.obj x0 A_x0owords c_x0owords) 158) :: rowp A_x0owords c_x0owords 23 1 (eI .u64) x0.words :: S)) :
    Calls Try.prog 56 #[.pointer (some ⟨b_x0, 0, none⟩), .int .i64 x1] w (tape_Tape_Reserve.R κ S x0 x1 b_x0 A_x0owords c_x0owords r) := by
  unfold tape_Tape_Reserve.m at hm
  refine Vk.enter [(0, .pointer (some ⟨b_x0, 0, none⟩)), (1, .int .i64 x1)] Try.func56 rfl Try.ntmps56 (by kernel_rfl) (Nat.le_of_ble_eq_true (by kernel_rfl)) ho fun a hs => ?_
  refine Vk.seq fun K1 hK1 => ?_
  refine Vk.region ?_
  refine Vk.pures 1 [(4, .int .i64 0)] hs (by kernel_rfl) fun a hs => ?_
  replace hs := hs.pick [0, 1] (L' := [(0, .pointer (some ⟨b_x0, 0, none⟩)), (1, .int .i64 x1)]) (by kernel_rfl)
  refine Vk.done (by kernel_rfl) ?_
  refine hK1 _ _ ?_
  clear hK1
  refine Vk.seq fun K2 hK2 => ?_
  refine wp_block ?_
  refine Vk.seq fun K3 hK3 => ?_
  refine Vk.region ?_
  refine Vk.pures 7 [(5, .bool (decide (x1 < 0))), (11, .bool (decide (x1 < 0))), (10, .bool (decide (x1 < 0))), (9, .int .i64 x1), (8, .bool false), (7, .bool false), (6, .pointer (some ⟨b_x0, 0, none⟩))] hs (by kernel_rfl) fun a hs => ?_
  replace hs := hs.pick [0, 1, 5] (L' := [(0, .pointer (some ⟨b_x0, 0, none⟩)), (1, .int .i64 x1), (5, .bool (decide (x1 < 0)))]) (by kernel_rfl)
  refine Vk.done (by kernel_rfl) ?_
  refine hK3 _ _ ?_
  clear hK3
  refine Vk.condS (b := decide (x1 < 0)) hs (by kernel_rfl) (by kernel_rfl) (fun hb => ?_) (fun hb => ?_)
  · replace hm := bif_t hm hb
    refine Vk.seq fun K4 hK4 => ?_
    refine Vk.region ?_
    refine Vk.pures 1 [(4, .int .i64 1)] hs (by kernel_rfl) fun a hs => ?_
    replace hs := hs.pick [4] (L' := [(4, .int .i64 1)]) (by kernel_rfl)
    refine Vk.done (by kernel_rfl) ?_
    refine hK4 _ _ ?_
    clear hK4
    refine wp_ret ?_
    exact Vk.ret1 (P := Try.prog) (fn := Try.f56) (R := tape_Tape_Reserve.R κ S x0 x1 b_x0 A_x0owords c_x0owords r) (.int .i64 1) hs rfl (by kernel_rfl) (by obtain rfl := Option.some.inj hm; exact ⟨A_x0owords, c_x0owords, rfl, (Own.to hs.own [0, 1] 2 (by kernel_rfl) (by kernel_rfl))⟩)
  · replace hm := bif_f hm hb
    refine Vk.seq fun K5 hK5 => ?_
    refine Vk.region ?_
    refine Vk.pures 2 [(14, .pointer (some ⟨b_x0, 0, none⟩)), (13, .int .i64 x1)] hs (by kernel_rfl) fun a hs => ?_
    obtain ⟨v_8, h_7, hm⟩ := bind_t hm
    refine Vk.step (Vk.call (some 15) 91 #[.pointer (some ⟨b_x0, 0, none⟩)] hs (by kernel_rfl) (by kernel_rfl) (by kernel_rfl) ?_)
    refine (tape_Tape_Left.ok k x0 v_8 h_7 κ w (S) b_x0 A_x0owords c_x0owords (Own.to hs.own [0, 1] 2 (by kernel_rfl) (by kernel_rfl))).mono ?_
    rintro _ w ⟨rfl, how⟩
    refine ⟨_, _, _, rfl, how, fun a hs => ?_⟩
    refine Vk.pures 2 [(12, .bool (decide (x1 > v_8))), (16, .bool (decide (x1 > v_8)))] hs (by kernel_rfl) fun a hs => ?_
    replace hs := hs.pick [0, 1, 12] (L' := [(0, .pointer (some ⟨b_x0, 0, none⟩)), (1, .int .i64 x1), (12, .bool (decide (x1 > v_8)))]) (by kernel_rfl)
    refine Vk.done (by kernel_rfl) ?_
    refine hK5 _ _ ?_
    clear hK5
    refine Vk.condS (b := decide (x1 > v_8)) hs (by kernel_rfl) (by kernel_rfl) (fun hb => ?_) (fun hb => ?_)
    · replace hm := bif_t hm hb
      refine Vk.seq fun K9 hK9 => ?_
      refine Vk.region ?_
      refine Vk.pures 1 [(4, .int .i64 2)] hs (by kernel_rfl) fun a hs => ?_
      replace hs := hs.pick [4] (L' := [(4, .int .i64 2)]) (by kernel_rfl)
      refine Vk.done (by kernel_rfl) ?_
      refine hK9 _ _ ?_
      clear hK9
      refine wp_ret ?_
      exact Vk.ret1 (P := Try.prog) (fn := Try.f56) (R := tape_Tape_Reserve.R κ S x0 x1 b_x0 A_x0owords c_x0owords r) (.int .i64 2) hs rfl (by kernel_rfl) (by obtain rfl := Option.some.inj hm; exact ⟨A_x0owords, c_x0owords, rfl, (Own.to hs.own [0, 1] 2 (by kernel_rfl) (by kernel_rfl))⟩)
    · replace hm := bif_f hm hb
      refine wp_skip ?_
      refine hK2 _ _ ?_
      clear hK2
      refine Vk.seq fun K10 hK10 => ?_
      refine Vk.region ?_
      refine Vk.pures 4 [(20, .pointer (some ⟨b_x0, 2, none⟩)), (19, .pointer (some ⟨b_x0, 0, none⟩)), (18, .int .i64 x1), (17, .pointer (some ⟨b_x0, 0, none⟩))] hs (by kernel_rfl) fun a hs => ?_
      refine Vk.step (Vk.store1 (b := b_x0) (ty := 3) (x := (.tmp 20)) (y := (.tmp 18)) (off := 2) (C.int .i64 x1) 0 hs (by kernel_rfl) (by kernel_rfl) (by kernel_rfl) (by kernel_rfl) (by kernel_rfl) (by kernel_rfl) rfl (Nat.le_of_ble_eq_true (by kernel_rfl)) fun a w hs => ?_)
      replace hs := hs.pick [] (L' := []) (by kernel_rfl)
      refine Vk.done (by kernel_rfl) ?_
      refine hK10 _ _ ?_
      clear hK10
      refine Vk.seq fun K11 hK11 => ?_
      refine Vk.region ?_
      refine Vk.pures 1 [(4, .int .i64 0)] hs (by kernel_rfl) fun a hs => ?_
      replace hs := hs.pick [4] (L' := [(4, .int .i64 0)]) (by kernel_rfl)
      refine Vk.done (by kernel_rfl) ?_
      refine hK11 _ _ ?_
      clear hK11
      refine wp_ret ?_
      exact Vk.ret1 (P := Try.prog) (fn := Try.f56) (R := tape_Tape_Reserve.R κ S x0 x1 b_x0 A_x0owords c_x0owords r) (.int .i64 0) hs rfl (by kernel_rfl) (by obtain rfl := Option.some.inj hm; exact ⟨A_x0owords, c_x0owords, rfl, (Own.to hs.own [0, 1] 2 (by kernel_rfl) (by kernel_rfl))⟩)

structure Tapi_Op where
  kind : Int
  dom : Int
  a : Int
  b : Int
  d : Int
  c : Int
  deriving Inhabited
def Tapi_Op.cells (x : Tapi_Op) : Cells := [C.int .i64 x.kind, C.int .i64 x.dom, C.int .i64 x.a, C.int .i64 x.b, C.int .i64 x.d, C.int .u64 x.c]

structure Tapi_Span where
  kind : Int
  fromF : Int
  to : Int
  deriving Inhabited
def Tapi_Span.cells (x : Tapi_Span) : Cells := [C.int .i64 x.kind, C.int .i64 x.fromF, C.int .i64 x.to]

structure Twire_Machine where
  n : Int
  most : Int
  base : Int
  words : Int
  draws : Int
  dry : Bool
  openF : Int
  fromF : Int
  bad : Int
  tape : Ttape_Tape
  ops : List Tapi_Op
  values : List Int
  blocks : List Tapi_Span
  deriving Inhabited
def Twire_Machine.obj (x : Twire_Machine) (btape : Nat) (Aops : Option Addr) (cops : Nat) (Avalues : Option Addr) (cvalues : Nat) (Ablocks : Option Addr) (cblocks : Nat) : Cells := [C.int .i64 x.n, C.int .i64 x.most, C.int .i64 x.base, C.int .i64 x.words, C.int .i64 x.draws, C.bool x.dry, C.int .i64 x.openF, C.int .i64 x.fromF, C.int .i64 x.bad, C.ptr (optA x.dry btape), C.slc Aops x.ops.length cops, C.slc Avalues x.values.length cvalues, C.slc Ablocks x.blocks.length cblocks]

abbrev wire_New.R (κ : Ctx) (S : List HP) (x0 : Int) (x1 : Ttape_Tape) (x2 : Int) (b_x1 : Nat) (A_x1owords : Option Addr) (c_x1owords : Nat) (r : (Sum (Int × Ttape_Tape) (Twire_Machine × Int))) : Ending → World → Prop := fun e w' => (∃ r', r = (Sum.inl r') ∧ ∃ (A_y0owords : Option Addr), ∃ (c_y0owords : Nat), e = .returned (.tuple #[.pointer none, .int .i64 r'.1]) ∧ Own κ w' (pt b_x1 (blk (Ttape_Tape.obj r'.2 A_y0owords c_y0owords) 158) :: rowp A_y0owords c_y0owords 23 1 (eI .u64) r'.2.words :: S)) ∨ (∃ r', r = (Sum.inr r') ∧ ∃ (b_r0 : Nat), ∃ (b_r0otape : Nat), ∃ (A_r0otapeowords : Option Addr), ∃ (c_r0otapeowords : Nat), ∃ (A_r0oops : Option Addr), ∃ (c_r0oops : Nat), ∃ (A_r0ovalues : Option Addr), ∃ (c_r0ovalues : Nat), ∃ (A_r0oblocks : Option Addr), ∃ (c_r0oblocks : Nat), e = .returned (.tuple #[.pointer (some ⟨b_r0, 0, none⟩), .int .i64 r'.2]) ∧ Own κ w' (pt b_r0 (blk (Twire_Machine.obj r'.1 b_r0otape A_r0oops c_r0oops A_r0ovalues c_r0ovalues A_r0oblocks c_r0oblocks) 151) :: pto r'.1.dry b_r0otape (blk (Ttape_Tape.obj r'.1.tape A_r0otapeowords c_r0otapeowords) 158) :: rowp A_r0otapeowords c_r0otapeowords 23 1 (eI .u64) r'.1.tape.words :: rowp A_r0oops c_r0oops 32 6 Tapi_Op.cells r'.1.ops :: rowp A_r0ovalues c_r0ovalues 23 1 (eI .u64) r'.1.values :: rowp A_r0oblocks c_r0oblocks 144 3 Tapi_Span.cells r'.1.blocks :: S))
def wire_New.m (k : Nat) (x0 : Int) (x1 : Ttape_Tape) (x2 : Int) : Option (Sum (Int × Ttape_Tape) (Twire_Machine × Int)) := (bif (((x0 != 2) && (x0 != 3)) || (decide (x2 < 0))) || (decide (x2 > 1048576)) then some (Sum.inl (1, x1)) else some (Sum.inr ((⟨x0, x2, 0, 0, 0, false, 0, 0, 0, x1, ([] : List Tapi_Op), ([] : List Int), ([] : List Tapi_Span)⟩ : Twire_Machine), 0)))

set_option maxRecDepth 100000 in
set_option maxHeartbeats 4000000 in
theorem wire_New.ok (k : Nat) (x0 : Int) (x1 : Ttape_Tape) (x2 : Int) (r : (Sum (Int × Ttape_Tape) (Twire_Machine × Int))) (hm : wire_New.m k x0 x1 x2 = some r) (κ : Ctx) (w : World) (S : List HP) (b_x1 : Nat) (A_x1owords : Option Addr) (c_x1owords : Nat) (ho : Own κ w (pt b_x1 (blk (Ttape_Tape.obj x1 A_x1owords c_x1owords) 158) :: rowp A_x1owords c_x1owords 23 1 (eI .u64) x1.words :: S)) :
    Calls Try.prog 57 #[.int .i64 x0, .pointer (some ⟨b_x1, 0, none⟩), .int .i64 x2] w (wire_New.R κ S x0 x1 x2 b_x1 A_x1owords c_x1owords r) := by
  unfold wire_New.m at hm
  refine Vk.enter [(0, .int .i64 x0), (1, .pointer (some ⟨b_x1, 0, none⟩)), (2, .int .i64 x2)] Try.func57 rfl Try.ntmps57 (by kernel_rfl) (Nat.le_of_ble_eq_true (by kernel_rfl)) ho fun a hs => ?_
  refine Vk.seq fun K1 hK1 => ?_
  refine Vk.region ?_
  refine Vk.pures 2 [(7, .int .i64 0), (6, .pointer none)] hs (by kernel_rfl) fun a hs => ?_
  replace hs := hs.pick [0, 1, 2] (L' := [(0, .int .i64 x0), (1, .pointer (some ⟨b_x1, 0, none⟩)), (2, .int .i64 x2)]) (by kernel_rfl)
  refine Vk.done (by kernel_rfl) ?_
  refine hK1 _ _ ?_
  clear hK1
  refine Vk.seq fun K2 hK2 => ?_
  refine Vk.seq fun K3 hK3 => ?_
  refine Vk.region ?_
  refine Vk.pures 3 [(10, .bool (x0 != 2)), (9, .bool (x0 != 2)), (8, .int .i64 x0)] hs (by kernel_rfl) fun a hs => ?_
  suffices hj_4 : ∀ a, St 31 a w κ [(0, .int .i64 x0), (1, .pointer (some ⟨b_x1, 0, none⟩)), (2, .int .i64 x2), (8, .int .i64 x0), (9, .bool (x0 != 2)), (10, .bool (x0 != 2)), (13, .bool ((x0 != 2) && (x0 != 3)))] (pt b_x1 (blk (Ttape_Tape.obj x1 A_x1owords c_x1owords) 158) :: rowp A_x1owords c_x1owords 23 1 (eI .u64) x1.words :: S) → wpFrom Try.prog _ _ 6 a w by
    rcases Bool.eq_false_or_eq_true (x0 != 2) with hb | hb
    · replace hs := hs.known (t := 10) hb (by kernel_rfl)
      refine Vk.pures 3 [(13, .bool (x0 != 3)), (12, .bool (x0 != 3)), (11, .int .i64 x0)] hs (by kernel_rfl) fun a hs => ?_
      have hq := hs.pick [0, 1, 2, 8, 9, 10, 13] (L' := [(0, .int .i64 x0), (1, .pointer (some ⟨b_x1, 0, none⟩)), (2, .int .i64 x2), (8, .int .i64 x0), (9, .bool (x0 != 2)), (10, .bool true), (13, .bool (x0 != 3))]) (by kernel_rfl)
      exact hj_4 _ (hq.conv (by first | (rw [hb] <;> rfl) | rfl))
    · replace hs := hs.known (t := 10) hb (by kernel_rfl)
      refine Vk.pures 3 [(13, .bool false), (12, undef), (11, undef)] hs (by kernel_rfl) fun a hs => ?_
      have hq := hs.pick [0, 1, 2, 8, 9, 10, 13] (L' := [(0, .int .i64 x0), (1, .pointer (some ⟨b_x1, 0, none⟩)), (2, .int .i64 x2), (8, .int .i64 x0), (9, .bool (x0 != 2)), (10, .bool false), (13, .bool false)]) (by kernel_rfl)
      exact hj_4 _ (hq.conv (by first | (rw [hb] <;> rfl) | rfl))
  intro a hs
  refine Vk.pures 1 [(14, .bool ((x0 != 2) && (x0 != 3)))] hs (by kernel_rfl) fun a hs => ?_
  suffices hj_5 : ∀ a, St 31 a w κ [(0, .int .i64 x0), (1, .pointer (some ⟨b_x1, 0, none⟩)), (2, .int .i64 x2), (8, .int .i64 x0), (9, .bool (x0 != 2)), (10, .bool (x0 != 2)), (13, .bool ((x0 != 2) && (x0 != 3))), (14, .bool ((x0 != 2) && (x0 != 3))), (17, .bool ((x0 != 2) && (x0 != 3)))] (pt b_x1 (blk (Ttape_Tape.obj x1 A_x1owords c_x1owords) 158) :: rowp A_x1owords c_x1owords 23 1 (eI .u64) x1.words :: S) → wpFrom Try.prog _ _ 10 a w by
    rcases Bool.eq_false_or_eq_true ((x0 != 2) && (x0 != 3)) with hb | hb
    · replace hs := hs.known (t := 14) hb (by kernel_rfl)
      refine Vk.pures 3 [(17, .bool true), (16, undef), (15, undef)] hs (by kernel_rfl) fun a hs => ?_
      have hq := hs.pick [0, 1, 2, 8, 9, 10, 13, 14, 17] (L' := [(0, .int .i64 x0), (1, .pointer (some ⟨b_x1, 0, none⟩)), (2, .int .i64 x2), (8, .int .i64 x0), (9, .bool (x0 != 2)), (10, .bool (x0 != 2)), (13, .bool ((x0 != 2) && (x0 != 3))), (14, .bool true), (17, .bool true)]) (by kernel_rfl)
      exact hj_5 _ (hq.conv (by first | (rw [hb] <;> rfl) | rfl))
    · replace hs := hs.known (t := 14) hb (by kernel_rfl)
      refine Vk.pures 3 [(17, .bool false), (16, .bool false), (15, .pointer (some ⟨b_x1, 0, none⟩))] hs (by kernel_rfl) fun a hs => ?_
      have hq := hs.pick [0, 1, 2, 8, 9, 10, 13, 14, 17] (L' := [(0, .int .i64 x0), (1, .pointer (some ⟨b_x1, 0, none⟩)), (2, .int .i64 x2), (8, .int .i64 x0), (9, .bool (x0 != 2)), (10, .bool (x0 != 2)), (13, .bool ((x0 != 2) && (x0 != 3))), (14, .bool false), (17, .bool false)]) (by kernel_rfl)
      exact hj_5 _ (hq.conv (by first | (rw [hb] <;> rfl) | rfl))
  intro a hs
  refine Vk.pures 1 [(18, .bool ((x0 != 2) && (x0 != 3)))] hs (by kernel_rfl) fun a hs => ?_
  suffices hj_6 : ∀ a, St 31 a w κ [(0, .int .i64 x0), (1, .pointer (some ⟨b_x1, 0, none⟩)), (2, .int .i64 x2), (8, .int .i64 x0), (9, .bool (x0 != 2)), (10, .bool (x0 != 2)), (13, .bool ((x0 != 2) && (x0 != 3))), (14, .bool ((x0 != 2) && (x0 != 3))), (17, .bool ((x0 != 2) && (x0 != 3))), (18, .bool ((x0 != 2) && (x0 != 3))), (21, .bool (((x0 != 2) && (x0 != 3)) || (decide (x2 < 0))))] (pt b_x1 (blk (Ttape_Tape.obj x1 A_x1owords c_x1owords) 158) :: rowp A_x1owords c_x1owords 23 1 (eI .u64) x1.words :: S) → wpFrom Try.prog _ _ 14 a w by
    rcases Bool.eq_false_or_eq_true ((x0 != 2) && (x0 != 3)) with hb | hb
    · replace hs := hs.known (t := 18) hb (by kernel_rfl)
      refine Vk.pures 3 [(21, .bool true), (20, undef), (19, undef)] hs (by kernel_rfl) fun a hs => ?_
      have hq := hs.pick [0, 1, 2, 8, 9, 10, 13, 14, 17, 18, 21] (L' := [(0, .int .i64 x0), (1, .pointer (some ⟨b_x1, 0, none⟩)), (2, .int .i64 x2), (8, .int .i64 x0), (9, .bool (x0 != 2)), (10, .bool (x0 != 2)), (13, .bool ((x0 != 2) && (x0 != 3))), (14, .bool ((x0 != 2) && (x0 != 3))), (17, .bool ((x0 != 2) && (x0 != 3))), (18, .bool true), (21, .bool true)]) (by kernel_rfl)
      exact hj_6 _ (hq.conv (by first | (rw [hb] <;> rfl) | rfl))
    · replace hs := hs.known (t := 18) hb (by kernel_rfl)
      refine Vk.pures 3 [(21, .bool (decide (x2 < 0))), (20, .bool (decide (x2 < 0))), (19, .int .i64 x2)] hs (by kernel_rfl) fun a hs => ?_
      have hq := hs.pick [0, 1, 2, 8, 9, 10, 13, 14, 17, 18, 21] (L' := [(0, .int .i64 x0), (1, .pointer (some ⟨b_x1, 0, none⟩)), (2, .int .i64 x2), (8, .int .i64 x0), (9, .bool (x0 != 2)), (10, .bool (x0 != 2)), (13, .bool ((x0 != 2) && (x0 != 3))), (14, .bool ((x0 != 2) && (x0 != 3))), (17, .bool ((x0 != 2) && (x0 != 3))), (18, .bool false), (21, .bool (decide (x2 < 0)))]) (by kernel_rfl)
      exact hj_6 _ (hq.conv (by first | (rw [hb] <;> rfl) | rfl))
  intro a hs
  refine Vk.pures 1 [(22, .bool (((x0 != 2) && (x0 != 3)) || (decide (x2 < 0))))] hs (by kernel_rfl) fun a hs => ?_
  suffices hj_7 : ∀ a, St 31 a w κ [(0, .int .i64 x0), (1, .pointer (some ⟨b_x1, 0, none⟩)), (2, .int .i64 x2), (8, .int .i64 x0), (9, .bool (x0 != 2)), (10, .bool (x0 != 2)), (13, .bool ((x0 != 2) && (x0 != 3))), (14, .bool ((x0 != 2) && (x0 != 3))), (17, .bool ((x0 != 2) && (x0 != 3))), (18, .bool ((x0 != 2) && (x0 != 3))), (21, .bool (((x0 != 2) && (x0 != 3)) || (decide (x2 < 0)))), (22, .bool (((x0 != 2) && (x0 != 3)) || (decide (x2 < 0)))), (25, .bool ((((x0 != 2) && (x0 != 3)) || (decide (x2 < 0))) || (decide (x2 > 1048576))))] (pt b_x1 (blk (Ttape_Tape.obj x1 A_x1owords c_x1owords) 158) :: rowp A_x1owords c_x1owords 23 1 (eI .u64) x1.words :: S) → wpFrom Try.prog _ _ 18 a w by
    rcases Bool.eq_false_or_eq_true (((x0 != 2) && (x0 != 3)) || (decide (x2 < 0))) with hb | hb
    · replace hs := hs.known (t := 22) hb (by kernel_rfl)
      refine Vk.pures 3 [(25, .bool true), (24, undef), (23, undef)] hs (by kernel_rfl) fun a hs => ?_
      have hq := hs.pick [0, 1, 2, 8, 9, 10, 13, 14, 17, 18, 21, 22, 25] (L' := [(0, .int .i64 x0), (1, .pointer (some ⟨b_x1, 0, none⟩)), (2, .int .i64 x2), (8, .int .i64 x0), (9, .bool (x0 != 2)), (10, .bool (x0 != 2)), (13, .bool ((x0 != 2) && (x0 != 3))), (14, .bool ((x0 != 2) && (x0 != 3))), (17, .bool ((x0 != 2) && (x0 != 3))), (18, .bool ((x0 != 2) && (x0 != 3))), (21, .bool (((x0 != 2) && (x0 != 3)) || (decide (x2 < 0)))), (22, .bool true), (25, .bool true)]) (by kernel_rfl)
      exact hj_7 _ (hq.conv (by first | (rw [hb] <;> rfl) | rfl))
    · replace hs := hs.known (t := 22) hb (by kernel_rfl)
      refine Vk.pures 3 [(25, .bool (decide (x2 > 1048576))), (24, .bool (decide (x2 > 1048576))), (23, .int .i64 x2)] hs (by kernel_rfl) fun a hs => ?_
      have hq := hs.pick [0, 1, 2, 8, 9, 10, 13, 14, 17, 18, 21, 22, 25] (L' := [(0, .int .i64 x0), (1, .pointer (some ⟨b_x1, 0, none⟩)), (2, .int .i64 x2), (8, .int .i64 x0), (9, .bool (x0 != 2)), (10, .bool (x0 != 2)), (13, .bool ((x0 != 2) && (x0 != 3))), (14, .bool ((x0 != 2) && (x0 != 3))), (17, .bool ((x0 != 2) && (x0 != 3))), (18, .bool ((x0 != 2) && (x0 != 3))), (21, .bool (((x0 != 2) && (x0 != 3)) || (decide (x2 < 0)))), (22, .bool false), (25, .bool (decide (x2 > 1048576)))]) (by kernel_rfl)
      exact hj_7 _ (hq.conv (by first | (rw [hb] <;> rfl) | rfl))
  intro a hs
  replace hs := hs.pick [0, 1, 2, 25] (L' := [(0, .int .i64 x0), (1, .pointer (some ⟨b_x1, 0, none⟩)), (2, .int .i64 x2), (25, .bool ((((x0 != 2) && (x0 != 3)) || (decide (x2 < 0))) || (decide (x2 > 1048576))))]) (by kernel_rfl)
  refine Vk.done (by kernel_rfl) ?_
  refine hK3 _ _ ?_
  clear hK3
  refine Vk.condS (b := (((x0 != 2) && (x0 != 3)) || (decide (x2 < 0))) || (decide (x2 > 1048576))) hs (by kernel_rfl) (by kernel_rfl) (fun hb => ?_) (fun hb => ?_)
  · replace hm := bif_t hm hb
    refine Vk.seq fun K8 hK8 => ?_
    refine Vk.region ?_
    refine Vk.pures 2 [(7, .int .i64 1), (6, .pointer none)] hs (by kernel_rfl) fun a hs => ?_
    replace hs := hs.pick [6, 7] (L' := [(6, .pointer none), (7, .int .i64 1)]) (by kernel_rfl)
    refine Vk.done (by kernel_rfl) ?_
    refine hK8 _ _ ?_
    clear hK8
    refine wp_ret ?_
    exact Vk.ret2 (P := Try.prog) (fn := Try.f57) (R := wire_New.R κ S x0 x1 x2 b_x1 A_x1owords c_x1owords r) (.pointer none) (.int .i64 1) hs rfl (by kernel_rfl) (by kernel_rfl) (by obtain rfl := Option.some.inj hm; exact (Or.inl ⟨_, rfl, A_x1owords, c_x1owords, rfl, (Own.to hs.own [0, 1] 2 (by kernel_rfl) (by kernel_rfl))⟩))
  · replace hm := bif_f hm hb
    refine wp_skip ?_
    refine hK2 _ _ ?_
    clear hK2
    refine Vk.seq fun K9 hK9 => ?_
    refine Vk.region ?_
    refine Vk.pures 4 [(29, .agg (vals [C.int .i64 x0, C.int .i64 x2, C.int .i64 0, C.int .i64 0, C.int .i64 0, C.bool false, C.int .i64 0, C.int .i64 0, C.int .i64 0, C.ptr (some ⟨b_x1, 0, none⟩), C.slc none 0 0, C.slc none 0 0, C.slc none 0 0])), (28, .pointer (some ⟨b_x1, 0, none⟩)), (27, .int .i64 x2), (26, .int .i64 x0)] hs (by kernel_rfl) fun a hs => ?_
    refine Vk.step (Vk.box (x := (.tmp 29)) 30 151 [C.int .i64 x0, C.int .i64 x2, C.int .i64 0, C.int .i64 0, C.int .i64 0, C.bool false, C.int .i64 0, C.int .i64 0, C.int .i64 0, C.ptr (some ⟨b_x1, 0, none⟩), C.slc none 0 0, C.slc none 0 0, C.slc none 0 0] hs (by kernel_rfl) (by kernel_rfl) (by kernel_rfl) fun b_10 w a hs => ?_)
    refine Vk.pures 2 [(7, .int .i64 0), (6, .pointer (some ⟨b_10, 0, none⟩))] hs (by kernel_rfl) fun a hs => ?_
    replace hs := hs.pick [6, 7] (L' := [(6, .pointer (some ⟨b_10, 0, none⟩)), (7, .int .i64 0)]) (by kernel_rfl)
    refine Vk.done (by kernel_rfl) ?_
    refine hK9 _ _ ?_
    clear hK9
    refine wp_ret ?_
    replace hs := hs.addRow none 32 6 Tapi_Op.cells
    replace hs := hs.addRow none 23 1 (eI .u64)
    replace hs := hs.addRow none 144 3 Tapi_Span.cells
    exact Vk.ret2 (P := Try.prog) (fn := Try.f57) (R := wire_New.R κ S x0 x1 x2 b_x1 A_x1owords c_x1owords r) (.pointer (some ⟨b_10, 0, none⟩)) (.int .i64 0) hs rfl (by kernel_rfl) (by kernel_rfl) (by obtain rfl := Option.some.inj hm; exact (Or.inr ⟨_, rfl, b_10, b_x1, A_x1owords, c_x1owords, none, 0, none, 0, none, 0, rfl, (Own.to hs.own [3, 4, 5, 2, 1, 0] 6 (by kernel_rfl) (by kernel_rfl))⟩))


def wire_Machine_fail.j1 (k : Nat) (p_4 : Twire_Machine) : Option ((Int × Twire_Machine)) := some ((-1), p_4)
abbrev wire_Machine_fail.R (κ : Ctx) (S : List HP) (x0 : Twire_Machine) (x1 : Int) (b_x0 : Nat) (b_x0otape : Nat) (A_x0otapeowords : Option Addr) (c_x0otapeowords : Nat) (A_x0oops : Option Addr) (c_x0oops : Nat) (A_x0ovalues : Option Addr) (c_x0ovalues : Nat) (A_x0oblocks : Option Addr) (c_x0oblocks : Nat) (r : (Int × Twire_Machine)) : Ending → World → Prop := fun e w' => ∃ (A_y0otapeowords : Option Addr), ∃ (c_y0otapeowords : Nat), ∃ (A_y0oops : Option Addr), ∃ (c_y0oops : Nat), ∃ (A_y0ovalues : Option Addr), ∃ (c_y0ovalues : Nat), ∃ (A_y0oblocks : Option Addr), ∃ (c_y0oblocks : Nat), e = .returned (.int .i64 r.1) ∧ Own κ w' (pt b_x0 (blk (Twire_Machine.obj r.2 b_x0otape A_y0oops c_y0oops A_y0ovalues c_y0ovalues A_y0oblocks c_y0oblocks) 151) :: pto r.2.dry b_x0otape (blk (Ttape_Tape.obj r.2.tape A_y0otapeowords c_y0otapeowords) 158) :: rowp A_y0otapeowords c_y0otapeowords 23 1 (eI .u64) r.2.tape.words :: rowp A_y0oops c_y0oops 32 6 Tapi_Op.cells r.2.ops :: rowp A_y0ovalues c_y0ovalues 23 1 (eI .u64) r.2.values :: rowp A_y0oblocks c_y0oblocks 144 3 Tapi_Span.cells r.2.blocks :: S)
def wire_Machine_fail.m (k : Nat) (x0 : Twire_Machine) (x1 : Int) : Option (Int × Twire_Machine) := (bif x0.bad == 0 then wire_Machine_fail.j1 k (⟨x0.n, x0.most, x0.base, x0.words, x0.draws, x0.dry, x0.openF, x0.fromF, x1, x0.tape, x0.ops, x0.values, x0.blocks⟩ : Twire_Machine) else wire_Machine_fail.j1 k x0)

set_option maxRecDepth 100000 in
set_option maxHeartbeats 4000000 in
theorem wire_Machine_fail.ok (k : Nat) (x0 : Twire_Machine) (x1 : Int) (r : (Int × Twire_Machine)) (hm : wire_Machine_fail.m k x0 x1 = some r) (κ : Ctx) (w : World) (S : List HP) (b_x0 : Nat) (b_x0otape : Nat) (A_x0otapeowords : Option Addr) (c_x0otapeowords : Nat) (A_x0oops : Option Addr) (c_x0oops : Nat) (A_x0ovalues : Option Addr) (c_x0ovalues : Nat) (A_x0oblocks : Option Addr) (c_x0oblocks : Nat) (ho : Own κ w (pt b_x0 (blk (Twire_Machine.obj x0 b_x0otape A_x0oops c_x0oops A_x0ovalues c_x0ovalues A_x0oblocks c_x0oblocks) 151) :: pto x0.dry b_x0otape (blk (Ttape_Tape.obj x0.tape A_x0otapeowords c_x0otapeowords) 158) :: rowp A_x0otapeowords c_x0otapeowords 23 1 (eI .u64) x0.tape.words :: rowp A_x0oops c_x0oops 32 6 Tapi_Op.cells x0.ops :: rowp A_x0ovalues c_x0ovalues 23 1 (eI .u64) x0.values :: rowp A_x0oblocks c_x0oblocks 144 3 Tapi_Span.cells x0.blocks :: S)) :
    Calls Try.prog 94 #[.pointer (some ⟨b_x0, 0, none⟩), .int .i64 x1] w (wire_Machine_fail.R κ S x0 x1 b_x0 b_x0otape A_x0otapeowords c_x0otapeowords A_x0oops c_x0oops A_x0ovalues c_x0ovalues A_x0oblocks c_x0oblocks r) := by
  unfold wire_Machine_fail.m at hm
  refine Vk.enter [(0, .pointer (some ⟨b_x0, 0, none⟩)), (1, .int .i64 x1)] Try.func94 rfl Try.ntmps94 (by kernel_rfl) (Nat.le_of_ble_eq_true (by kernel_rfl)) ho fun a hs => ?_
  refine Vk.seq fun K1 hK1 => ?_
  refine Vk.region ?_
  refine Vk.pures 1 [(4, .int .i64 0)] hs (by kernel_rfl) fun a hs => ?_
  replace hs := hs.pick [0, 1] (L' := [(0, .pointer (some ⟨b_x0, 0, none⟩)), (1, .int .i64 x1)]) (by kernel_rfl)
  refine Vk.done (by kernel_rfl) ?_
  refine hK1 _ _ ?_
  clear hK1
  refine Vk.seq fun K2 hK2 => ?_
  have hj2 : ∀ (p_4 : Twire_Machine), wire_Machine_fail.j1 k p_4 = some r → ∀ (a : Act) (w : World), St 14 a w κ [] (pt b_x0 (blk (Twire_Machine.obj p_4 b_x0otape A_x0oops c_x0oops A_x0ovalues c_x0ovalues A_x0oblocks c_x0oblocks) 151) :: pto p_4.dry b_x0otape (blk (Ttape_Tape.obj p_4.tape A_x0otapeowords c_x0otapeowords) 158) :: rowp A_x0otapeowords c_x0otapeowords 23 1 (eI .u64) p_4.tape.words :: rowp A_x0oops c_x0oops 32 6 Tapi_Op.cells p_4.ops :: rowp A_x0ovalues c_x0ovalues 23 1 (eI .u64) p_4.values :: rowp A_x0oblocks c_x0oblocks 144 3 Tapi_Span.cells p_4.blocks :: S) → K2 a w := by
    intro p_4 hm a w hs
    unfold wire_Machine_fail.j1 at hm
    refine hK2 _ _ ?_
    refine Vk.seq fun K5 hK5 => ?_
    refine Vk.region ?_
    refine Vk.pures 1 [(4, .int .i64 (-1))] hs (by kernel_rfl) fun a hs => ?_
    replace hs := hs.pick [4] (L' := [(4, .int .i64 (-1))]) (by kernel_rfl)
    refine Vk.done (by kernel_rfl) ?_
    refine hK5 _ _ ?_
    clear hK5
    refine wp_ret ?_
    exact Vk.ret1 (P := Try.prog) (fn := Try.f94) (R := wire_Machine_fail.R κ S x0 x1 b_x0 b_x0otape A_x0otapeowords c_x0otapeowords A_x0oops c_x0oops A_x0ovalues c_x0ovalues A_x0oblocks c_x0oblocks r) (.int .i64 (-1)) hs rfl (by kernel_rfl) (by obtain rfl := Option.some.inj hm; exact ⟨A_x0otapeowords, c_x0otapeowords, A_x0oops, c_x0oops, A_x0ovalues, c_x0ovalues, A_x0oblocks, c_x0oblocks, rfl, (Own.to hs.own [0, 1, 2, 3, 4, 5] 6 (by kernel_rfl) (by kernel_rfl))⟩)
  refine Vk.seq fun K3 hK3 => ?_
  refine Vk.region ?_
  refine Vk.pures 3 [(7, .pointer (some ⟨b_x0, 8, none⟩)), (6, .pointer (some ⟨b_x0, 0, none⟩)), (5, .pointer (some ⟨b_x0, 0, none⟩))] hs (by kernel_rfl) fun a hs => ?_
  refine Vk.step (Vk.value (some 8) (.int .i64 x0.bad) hs (by kernel_rfl) (op := (.load 43 (.tmp 7))) (by kernel_rfl) (fun o ho => run_load1 (b := b_x0) (off := 8) (c := C.int .i64 x0.bad) ho (by kernel_rfl) (by kernel_rfl) (Cell.own 0 rfl (by kernel_rfl)) _ hs.own) fun a hs => ?_)
  refine Vk.pures 1 [(9, .bool (x0.bad == 0))] hs (by kernel_rfl) fun a hs => ?_
  replace hs := hs.pick [0, 1, 9] (L' := [(0, .pointer (some ⟨b_x0, 0, none⟩)), (1, .int .i64 x1), (9, .bool (x0.bad == 0))]) (by kernel_rfl)
  refine Vk.done (by kernel_rfl) ?_
  refine hK3 _ _ ?_
  clear hK3
  refine Vk.condS (b := x0.bad == 0) hs (by kernel_rfl) (by kernel_rfl) (fun hb => ?_) (fun hb => ?_)
  · replace hm := bif_t hm hb
    refine Vk.region ?_
    refine Vk.pures 4 [(13, .pointer (some ⟨b_x0, 8, none⟩)), (12, .pointer (some ⟨b_x0, 0, none⟩)), (11, .int .i64 x1), (10, .pointer (some ⟨b_x0, 0, none⟩))] hs (by kernel_rfl) fun a hs => ?_
    refine Vk.step (Vk.store1 (b := b_x0) (ty := 43) (x := (.tmp 13)) (y := (.tmp 11)) (off := 8) (C.int .i64 x1) 0 hs (by kernel_rfl) (by kernel_rfl) (by kernel_rfl) (by kernel_rfl) (by kernel_rfl) (by kernel_rfl) rfl (Nat.le_of_ble_eq_true (by kernel_rfl)) fun a w hs => ?_)
    replace hs := hs.pick [] (L' := []) (by kernel_rfl)
    refine Vk.done (by kernel_rfl) ?_
    exact hj2 (⟨x0.n, x0.most, x0.base, x0.words, x0.draws, x0.dry, x0.openF, x0.fromF, x1, x0.tape, x0.ops, x0.values, x0.blocks⟩ : Twire_Machine) hm _ _ (hs.go [] [0, 1, 2, 3, 4, 5] 6 (by kernel_rfl) (by kernel_rfl) (by kernel_rfl))
  · replace hm := bif_f hm hb
    refine wp_skip ?_
    exact hj2 x0 hm _ _ (hs.go [] [0, 1, 2, 3, 4, 5] 6 (by kernel_rfl) (by kernel_rfl) (by kernel_rfl))


abbrev wire_Machine_Len.R (κ : Ctx) (S : List HP) (x0 : Twire_Machine) (b_x0 : Nat) (b_x0otape : Nat) (A_x0otapeowords : Option Addr) (c_x0otapeowords : Nat) (A_x0oops : Option Addr) (c_x0oops : Nat) (A_x0ovalues : Option Addr) (c_x0ovalues : Nat) (A_x0oblocks : Option Addr) (c_x0oblocks : Nat) (r : Int) : Ending → World → Prop := fun e w' => e = .returned (.int .i64 r) ∧ Own κ w' (pt b_x0 (blk (Twire_Machine.obj x0 b_x0otape A_x0oops c_x0oops A_x0ovalues c_x0ovalues A_x0oblocks c_x0oblocks) 151) :: pto x0.dry b_x0otape (blk (Ttape_Tape.obj x0.tape A_x0otapeowords c_x0otapeowords) 158) :: rowp A_x0otapeowords c_x0otapeowords 23 1 (eI .u64) x0.tape.words :: rowp A_x0oops c_x0oops 32 6 Tapi_Op.cells x0.ops :: rowp A_x0ovalues c_x0ovalues 23 1 (eI .u64) x0.values :: rowp A_x0oblocks c_x0oblocks 144 3 Tapi_Span.cells x0.blocks :: S)
def wire_Machine_Len.m (k : Nat) (x0 : Twire_Machine) : Option Int := some (IntKind.i64.wrap (x0.base + ((x0.ops.length : Nat) : Int)))

set_option maxRecDepth 100000 in
set_option maxHeartbeats 4000000 in
theorem wire_Machine_Len.ok (k : Nat) (x0 : Twire_Machine) (r : Int) (hm : wire_Machine_Len.m k x0 = some r) (κ : Ctx) (w : World) (S : List HP) (b_x0 : Nat) (b_x0otape : Nat) (A_x0otapeowords : Option Addr) (c_x0otapeowords : Nat) (A_x0oops : Option Addr) (c_x0oops : Nat) (A_x0ovalues : Option Addr) (c_x0ovalues : Nat) (A_x0oblocks : Option Addr) (c_x0oblocks : Nat) (ho : Own κ w (pt b_x0 (blk (Twire_Machine.obj x0 b_x0otape A_x0oops c_x0oops A_x0ovalues c_x0ovalues A_x0oblocks c_x0oblocks) 151) :: pto x0.dry b_x0otape (blk (Ttape_Tape.obj x0.tape A_x0otapeowords c_x0otapeowords) 158) :: rowp A_x0otapeowords c_x0otapeowords 23 1 (eI .u64) x0.tape.words :: rowp A_x0oops c_x0oops 32 6 Tapi_Op.cells x0.ops :: rowp A_x0ovalues c_x0ovalues 23 1 (eI .u64) x0.values :: rowp A_x0oblocks c_x0oblocks 144 3 Tapi_Span.cells x0.blocks :: S)) :
    Calls Try.prog 58 #[.pointer (some ⟨b_x0, 0, none⟩)] w (wire_Machine_Len.R κ S x0 b_x0 b_x0otape A_x0otapeowords c_x0otapeowords A_x0oops c_x0oops A_x0ovalues c_x0ovalues A_x0oblocks c_x0oblocks r) := by
  unfold wire_Machine_Len.m at hm
  refine Vk.enter [(0, .pointer (some ⟨b_x0, 0, none⟩))] Try.func58 rfl Try.ntmps58 (by kernel_rfl) (Nat.le_of_ble_eq_true (by kernel_rfl)) ho fun a hs => ?_
  refine Vk.seq fun K1 hK1 => ?_
  refine Vk.region ?_
  refine Vk.pures 1 [(2, .int .i64 0)] hs (by kernel_rfl) fun a hs => ?_
  replace hs := hs.pick [0] (L' := [(0, .pointer (some ⟨b_x0, 0, none⟩))]) (by kernel_rfl)
  refine Vk.done (by kernel_rfl) ?_
  refine hK1 _ _ ?_
  clear hK1
  refine Vk.seq fun K2 hK2 => ?_
  refine Vk.seq fun K3 hK3 => ?_
  refine Vk.region ?_
  refine Vk.pures 2 [(4, .bool false), (3, .pointer (some ⟨b_x0, 0, none⟩))] hs (by kernel_rfl) fun a hs => ?_
  replace hs := hs.pick [0, 4] (L' := [(0, .pointer (some ⟨b_x0, 0, none⟩)), (4, .bool false)]) (by kernel_rfl)
  refine Vk.done (by kernel_rfl) ?_
  refine hK3 _ _ ?_
  clear hK3
  refine Vk.condF hs (by kernel_rfl) (by kernel_rfl) ?_
  refine wp_skip ?_
  refine hK2 _ _ ?_
  clear hK2
  refine Vk.seq fun K4 hK4 => ?_
  obtain ⟨C_5, hC_5⟩ : ∃ X0 : List HP, X0 = (pt b_x0 (blk (Twire_Machine.obj x0 b_x0otape A_x0oops c_x0oops A_x0ovalues c_x0ovalues A_x0oblocks c_x0oblocks) 151) :: pto x0.dry b_x0otape (blk (Ttape_Tape.obj x0.tape A_x0otapeowords c_x0otapeowords) 158) :: rowp A_x0otapeowords c_x0otapeowords 23 1 (eI .u64) x0.tape.words :: rowp A_x0oops c_x0oops 32 6 Tapi_Op.cells x0.ops :: rowp A_x0ovalues c_x0ovalues 23 1 (eI .u64) x0.values :: rowp A_x0oblocks c_x0oblocks 144 3 Tapi_Span.cells x0.blocks :: S) := ⟨_, rfl⟩
  refine Vk.drawnT 11 κ C_5 hs (by kernel_rfl) fun w hs => ?_
  have hcz : Own κ w (pt b_x0 (blk (Twire_Machine.obj x0 b_x0otape A_x0oops c_x0oops A_x0ovalues c_x0ovalues A_x0oblocks c_x0oblocks) 151) :: pto x0.dry b_x0otape (blk (Ttape_Tape.obj x0.tape A_x0otapeowords c_x0otapeowords) 158) :: rowp A_x0otapeowords c_x0otapeowords 23 1 (eI .u64) x0.tape.words :: rowp A_x0oops c_x0oops 32 6 Tapi_Op.cells x0.ops :: rowp A_x0ovalues c_x0ovalues 23 1 (eI .u64) x0.values :: rowp A_x0oblocks c_x0oblocks 144 3 Tapi_Span.cells x0.blocks :: S) := (Own.to hs.own [0, 1, 2, 3, 4, 5] 6 (by kernel_rfl) (by kernel_rfl))
  have hcl : Own κ w C_5 := by rw [hC_5]; exact hcz
  refine Vk.dPuresT [0, 1, 2, 4, 5, 6] [(11, .pointer (some ⟨b_x0, 10, none⟩)), (10, .pointer (some ⟨b_x0, 0, none⟩)), (9, .pointer (some ⟨b_x0, 0, none⟩)), (7, .pointer (some ⟨b_x0, 2, none⟩)), (6, .pointer (some ⟨b_x0, 0, none⟩)), (5, .pointer (some ⟨b_x0, 0, none⟩))] hs (by kernel_rfl) (by repeat' (first | exact Vk.Calm.post | refine Vk.Calm.then ?_ | refine Vk.Calm.inBlock ?_)) hcl (by kernel_rfl) (by kernel_rfl) (fuel := 5) rfl fun a hs => ?_
  refine Vk.dTakeT (i := 3) (some 8) (.int .i64 x0.base) hs (by kernel_rfl) (by repeat' (first | exact Vk.Calm.post | refine Vk.Calm.then ?_ | refine Vk.Calm.inBlock ?_)) hcl (by kernel_rfl) (by kernel_rfl) (op := (.load 3 (.tmp 7))) (by kernel_rfl) (by kernel_rfl) (fun w hw o ho => by rw [hC_5] at hw; exact run_load1 (b := b_x0) (off := 2) (c := C.int .i64 x0.base) ho (by kernel_rfl) (by kernel_rfl) (Cell.own 0 rfl (by kernel_rfl)) _ hw) fun a hs => ?_
  refine Vk.dTakeT (i := 7) (some 12) (.slice A_x0oops x0.ops.length c_x0oops) hs (by kernel_rfl) (by repeat' (first | exact Vk.Calm.post | refine Vk.Calm.then ?_ | refine Vk.Calm.inBlock ?_)) hcl (by kernel_rfl) (by kernel_rfl) (op := (.load 69 (.tmp 11))) (by kernel_rfl) (by kernel_rfl) (fun w hw o ho => by rw [hC_5] at hw; exact run_load1 (b := b_x0) (off := 10) (c := C.slc A_x0oops x0.ops.length c_x0oops) ho (by kernel_rfl) (by kernel_rfl) (Cell.own 0 rfl (by kernel_rfl)) _ hw) fun a hs => ?_
  refine Vk.dPuresT [8, 9, 10] [(2, .int .i64 (IntKind.i64.wrap (x0.base + ((x0.ops.length : Nat) : Int)))), (14, .int .i64 (IntKind.i64.wrap (x0.base + ((x0.ops.length : Nat) : Int)))), (13, .int .i64 ((x0.ops.length : Nat) : Int))] hs (by kernel_rfl) (by repeat' (first | exact Vk.Calm.post | refine Vk.Calm.then ?_ | refine Vk.Calm.inBlock ?_)) hcl (by kernel_rfl) (by kernel_rfl) (fuel := 0) rfl fun a hs => ?_
  replace hs := hs.pick [2] (L' := [(2, .int .i64 (IntKind.i64.wrap (x0.base + ((x0.ops.length : Nat) : Int))))]) (by kernel_rfl)
  refine Vk.dDone (by kernel_rfl) ?_
  refine hK4 _ _ ?_
  clear hK4
  refine wp_ret ?_
  exact Vk.ret1 (P := Try.prog) (fn := Try.f58) (R := wire_Machine_Len.R κ S x0 b_x0 b_x0otape A_x0otapeowords c_x0otapeowords A_x0oops c_x0oops A_x0ovalues c_x0ovalues A_x0oblocks c_x0oblocks r) (.int .i64 (IntKind.i64.wrap (x0.base + ((x0.ops.length : Nat) : Int)))) hs rfl (by kernel_rfl) (by obtain rfl := Option.some.inj hm; exact ⟨rfl, (Own.to hs.own [0, 1, 2, 3, 4, 5] 6 (by kernel_rfl) (by kernel_rfl))⟩)


abbrev wire_Machine_Begin.R (κ : Ctx) (S : List HP) (x0 : Twire_Machine) (x1 : Int) (b_x0 : Nat) (b_x0otape : Nat) (A_x0otapeowords : Option Addr) (c_x0otapeowords : Nat) (A_x0oops : Option Addr) (c_x0oops : Nat) (A_x0ovalues : Option Addr) (c_x0ovalues : Nat) (A_x0oblocks : Option Addr) (c_x0oblocks : Nat) (r : Twire_Machine) : Ending → World → Prop := fun e w' => ∃ (A_y0otapeowords : Option Addr), ∃ (c_y0otapeowords : Nat), ∃ (A_y0oops : Option Addr), ∃ (c_y0oops : Nat), ∃ (A_y0ovalues : Option Addr), ∃ (c_y0ovalues : Nat), ∃ (A_y0oblocks : Option Addr), ∃ (c_y0oblocks : Nat), e = .returned (.tuple #[]) ∧ Own κ w' (pt b_x0 (blk (Twire_Machine.obj r b_x0otape A_y0oops c_y0oops A_y0ovalues c_y0ovalues A_y0oblocks c_y0oblocks) 151) :: pto r.dry b_x0otape (blk (Ttape_Tape.obj r.tape A_y0otapeowords c_y0otapeowords) 158) :: rowp A_y0otapeowords c_y0otapeowords 23 1 (eI .u64) r.tape.words :: rowp A_y0oops c_y0oops 32 6 Tapi_Op.cells r.ops :: rowp A_y0ovalues c_y0ovalues 23 1 (eI .u64) r.values :: rowp A_y0oblocks c_y0oblocks 144 3 Tapi_Span.cells r.blocks :: S)
def wire_Machine_Begin.m (k : Nat) (x0 : Twire_Machine) (x1 : Int) : Option Twire_Machine := (bif x0.bad != 0 then some x0 else (bif ((x0.openF != 0) || (decide (x1 < 1))) || (decide (x1 > 3)) then (wire_Machine_fail.m k x0 1).bind fun v_9 => some v_9.2 else (wire_Machine_Len.m k x0).bind fun v_20 => some (⟨x0.n, x0.most, x0.base, x0.words, x0.draws, x0.dry, x1, v_20, x0.bad, x0.tape, x0.ops, x0.values, x0.blocks⟩ : Twire_Machine)))

set_option maxRecDepth 100000 in
set_option maxHeartbeats 4000000 in
theorem wire_Machine_Begin.ok (k : Nat) (x0 : Twire_Machine) (x1 : Int) (r : Twire_Machine) (hm : wire_Machine_Begin.m k x0 x1 = some r) (κ : Ctx) (w : World) (S : List HP) (b_x0 : Nat) (b_x0otape : Nat) (A_x0otapeowords : Option Addr) (c_x0otapeowords : Nat) (A_x0oops : Option Addr) (c_x0oops : Nat) (A_x0ovalues : Option Addr) (c_x0ovalues : Nat) (A_x0oblocks : Option Addr) (c_x0oblocks : Nat) (ho : Own κ w (pt b_x0 (blk (Twire_Machine.obj x0 b_x0otape A_x0oops c_x0oops A_x0ovalues c_x0ovalues A_x0oblocks c_x0oblocks) 151) :: pto x0.dry b_x0otape (blk (Ttape_Tape.obj x0.tape A_x0otapeowords c_x0otapeowords) 158) :: rowp A_x0otapeowords c_x0otapeowords 23 1 (eI .u64) x0.tape.words :: rowp A_x0oops c_x0oops 32 6 Tapi_Op.cells x0.ops :: rowp A_x0ovalues c_x0ovalues 23 1 (eI .u64) x0.values :: rowp A_x0oblocks c_x0oblocks 144 3 Tapi_Span.cells x0.blocks :: S)) :
    Calls Try.prog 61 #[.pointer (some ⟨b_x0, 0, none⟩), .int .i64 x1] w (wire_Machine_Begin.R κ S x0 x1 b_x0 b_x0otape A_x0otapeowords c_x0otapeowords A_x0oops c_x0oops A_x0ovalues c_x0ovalues A_x0oblocks c_x0oblocks r) := by
  unfold wire_Machine_Begin.m at hm
  refine Vk.enter [(0, .pointer (some ⟨b_x0, 0, none⟩)), (1, .int .i64 x1)] Try.func61 rfl Try.ntmps61 (by kernel_rfl) (Nat.le_of_ble_eq_true (by kernel_rfl)) ho fun a hs => ?_
  refine Vk.seq fun K1 hK1 => ?_
  refine wp_block ?_
  refine Vk.seq fun K2 hK2 => ?_
  refine Vk.region ?_
  refine Vk.pures 6 [(10, .pointer (some ⟨b_x0, 8, none⟩)), (9, .pointer (some ⟨b_x0, 0, none⟩)), (8, .pointer (some ⟨b_x0, 0, none⟩)), (7, .bool false), (6, .bool false), (5, .pointer (some ⟨b_x0, 0, none⟩))] hs (by kernel_rfl) fun a hs => ?_
  refine Vk.step (Vk.value (some 11) (.int .i64 x0.bad) hs (by kernel_rfl) (op := (.load 43 (.tmp 10))) (by kernel_rfl) (fun o ho => run_load1 (b := b_x0) (off := 8) (c := C.int .i64 x0.bad) ho (by kernel_rfl) (by kernel_rfl) (Cell.own 0 rfl (by kernel_rfl)) _ hs.own) fun a hs => ?_)
  refine Vk.pures 3 [(4, .bool (x0.bad != 0)), (13, .bool (x0.bad != 0)), (12, .bool (x0.bad != 0))] hs (by kernel_rfl) fun a hs => ?_
  replace hs := hs.pick [0, 1, 4] (L' := [(0, .pointer (some ⟨b_x0, 0, none⟩)), (1, .int .i64 x1), (4, .bool (x0.bad != 0))]) (by kernel_rfl)
  refine Vk.done (by kernel_rfl) ?_
  refine hK2 _ _ ?_
  clear hK2
  refine Vk.condS (b := x0.bad != 0) hs (by kernel_rfl) (by kernel_rfl) (fun hb => ?_) (fun hb => ?_)
  · replace hm := bif_t hm hb
    refine wp_ret ?_
    exact Vk.ret0 (P := Try.prog) (fn := Try.f61) (R := wire_Machine_Begin.R κ S x0 x1 b_x0 b_x0otape A_x0otapeowords c_x0otapeowords A_x0oops c_x0oops A_x0ovalues c_x0ovalues A_x0oblocks c_x0oblocks r) hs rfl (by obtain rfl := Option.some.inj hm; exact ⟨A_x0otapeowords, c_x0otapeowords, A_x0oops, c_x0oops, A_x0ovalues, c_x0ovalues, A_x0oblocks, c_x0oblocks, rfl, (Own.to hs.own [0, 1, 2, 3, 4, 5] 6 (by kernel_rfl) (by kernel_rfl))⟩)
  · replace hm := bif_f hm hb
    refine Vk.seq fun K3 hK3 => ?_
    refine Vk.region ?_
    refine Vk.pures 3 [(17, .pointer (some ⟨b_x0, 6, none⟩)), (16, .pointer (some ⟨b_x0, 0, none⟩)), (15, .pointer (some ⟨b_x0, 0, none⟩))] hs (by kernel_rfl) fun a hs => ?_
    refine Vk.step (Vk.value (some 18) (.int .i64 x0.openF) hs (by kernel_rfl) (op := (.load 3 (.tmp 17))) (by kernel_rfl) (fun o ho => run_load1 (b := b_x0) (off := 6) (c := C.int .i64 x0.openF) ho (by kernel_rfl) (by kernel_rfl) (Cell.own 0 rfl (by kernel_rfl)) _ hs.own) fun a hs => ?_)
    refine Vk.pures 2 [(20, .bool (x0.openF != 0)), (19, .bool (x0.openF != 0))] hs (by kernel_rfl) fun a hs => ?_
    suffices hj_4 : ∀ a, St 39 a w κ [(0, .pointer (some ⟨b_x0, 0, none⟩)), (1, .int .i64 x1), (4, .bool (x0.bad != 0)), (15, .pointer (some ⟨b_x0, 0, none⟩)), (16, .pointer (some ⟨b_x0, 0, none⟩)), (17, .pointer (some ⟨b_x0, 6, none⟩)), (18, .int .i64 x0.openF), (19, .bool (x0.openF != 0)), (20, .bool (x0.openF != 0)), (23, .bool ((x0.openF != 0) || (decide (x1 < 1))))] (pt b_x0 (blk (Twire_Machine.obj x0 b_x0otape A_x0oops c_x0oops A_x0ovalues c_x0ovalues A_x0oblocks c_x0oblocks) 151) :: pto x0.dry b_x0otape (blk (Ttape_Tape.obj x0.tape A_x0otapeowords c_x0otapeowords) 158) :: rowp A_x0otapeowords c_x0otapeowords 23 1 (eI .u64) x0.tape.words :: rowp A_x0oops c_x0oops 32 6 Tapi_Op.cells x0.ops :: rowp A_x0ovalues c_x0ovalues 23 1 (eI .u64) x0.values :: rowp A_x0oblocks c_x0oblocks 144 3 Tapi_Span.cells x0.blocks :: S) → wpFrom Try.prog _ _ 9 a w by
      rcases Bool.eq_false_or_eq_true (x0.openF != 0) with hb | hb
      · replace hs := hs.known (t := 20) hb (by kernel_rfl)
        refine Vk.pures 3 [(23, .bool true), (22, undef), (21, undef)] hs (by kernel_rfl) fun a hs => ?_
        have hq := hs.pick [0, 1, 4, 15, 16, 17, 18, 19, 20, 23] (L' := [(0, .pointer (some ⟨b_x0, 0, none⟩)), (1, .int .i64 x1), (4, .bool (x0.bad != 0)), (15, .pointer (some ⟨b_x0, 0, none⟩)), (16, .pointer (some ⟨b_x0, 0, none⟩)), (17, .pointer (some ⟨b_x0, 6, none⟩)), (18, .int .i64 x0.openF), (19, .bool (x0.openF != 0)), (20, .bool true), (23, .bool true)]) (by kernel_rfl)
        exact hj_4 _ (hq.conv (by first | (rw [hb] <;> rfl) | rfl))
      · replace hs := hs.known (t := 20) hb (by kernel_rfl)
        refine Vk.pures 3 [(23, .bool (decide (x1 < 1))), (22, .bool (decide (x1 < 1))), (21, .int .i64 x1)] hs (by kernel_rfl) fun a hs => ?_
        have hq := hs.pick [0, 1, 4, 15, 16, 17, 18, 19, 20, 23] (L' := [(0, .pointer (some ⟨b_x0, 0, none⟩)), (1, .int .i64 x1), (4, .bool (x0.bad != 0)), (15, .pointer (some ⟨b_x0, 0, none⟩)), (16, .pointer (some ⟨b_x0, 0, none⟩)), (17, .pointer (some ⟨b_x0, 6, none⟩)), (18, .int .i64 x0.openF), (19, .bool (x0.openF != 0)), (20, .bool false), (23, .bool (decide (x1 < 1)))]) (by kernel_rfl)
        exact hj_4 _ (hq.conv (by first | (rw [hb] <;> rfl) | rfl))
    intro a hs
    refine Vk.pures 1 [(24, .bool ((x0.openF != 0) || (decide (x1 < 1))))] hs (by kernel_rfl) fun a hs => ?_
    suffices hj_5 : ∀ a, St 39 a w κ [(0, .pointer (some ⟨b_x0, 0, none⟩)), (1, .int .i64 x1), (4, .bool (x0.bad != 0)), (15, .pointer (some ⟨b_x0, 0, none⟩)), (16, .pointer (some ⟨b_x0, 0, none⟩)), (17, .pointer (some ⟨b_x0, 6, none⟩)), (18, .int .i64 x0.openF), (19, .bool (x0.openF != 0)), (20, .bool (x0.openF != 0)), (23, .bool ((x0.openF != 0) || (decide (x1 < 1)))), (24, .bool ((x0.openF != 0) || (decide (x1 < 1)))), (27, .bool (((x0.openF != 0) || (decide (x1 < 1))) || (decide (x1 > 3))))] (pt b_x0 (blk (Twire_Machine.obj x0 b_x0otape A_x0oops c_x0oops A_x0ovalues c_x0ovalues A_x0oblocks c_x0oblocks) 151) :: pto x0.dry b_x0otape (blk (Ttape_Tape.obj x0.tape A_x0otapeowords c_x0otapeowords) 158) :: rowp A_x0otapeowords c_x0otapeowords 23 1 (eI .u64) x0.tape.words :: rowp A_x0oops c_x0oops 32 6 Tapi_Op.cells x0.ops :: rowp A_x0ovalues c_x0ovalues 23 1 (eI .u64) x0.values :: rowp A_x0oblocks c_x0oblocks 144 3 Tapi_Span.cells x0.blocks :: S) → wpFrom Try.prog _ _ 13 a w by
      rcases Bool.eq_false_or_eq_true ((x0.openF != 0) || (decide (x1 < 1))) with hb | hb
      · replace hs := hs.known (t := 24) hb (by kernel_rfl)
        refine Vk.pures 3 [(27, .bool true), (26, undef), (25, undef)] hs (by kernel_rfl) fun a hs => ?_
        have hq := hs.pick [0, 1, 4, 15, 16, 17, 18, 19, 20, 23, 24, 27] (L' := [(0, .pointer (some ⟨b_x0, 0, none⟩)), (1, .int .i64 x1), (4, .bool (x0.bad != 0)), (15, .pointer (some ⟨b_x0, 0, none⟩)), (16, .pointer (some ⟨b_x0, 0, none⟩)), (17, .pointer (some ⟨b_x0, 6, none⟩)), (18, .int .i64 x0.openF), (19, .bool (x0.openF != 0)), (20, .bool (x0.openF != 0)), (23, .bool ((x0.openF != 0) || (decide (x1 < 1)))), (24, .bool true), (27, .bool true)]) (by kernel_rfl)
        exact hj_5 _ (hq.conv (by first | (rw [hb] <;> rfl) | rfl))
      · replace hs := hs.known (t := 24) hb (by kernel_rfl)
        refine Vk.pures 3 [(27, .bool (decide (x1 > 3))), (26, .bool (decide (x1 > 3))), (25, .int .i64 x1)] hs (by kernel_rfl) fun a hs => ?_
        have hq := hs.pick [0, 1, 4, 15, 16, 17, 18, 19, 20, 23, 24, 27] (L' := [(0, .pointer (some ⟨b_x0, 0, none⟩)), (1, .int .i64 x1), (4, .bool (x0.bad != 0)), (15, .pointer (some ⟨b_x0, 0, none⟩)), (16, .pointer (some ⟨b_x0, 0, none⟩)), (17, .pointer (some ⟨b_x0, 6, none⟩)), (18, .int .i64 x0.openF), (19, .bool (x0.openF != 0)), (20, .bool (x0.openF != 0)), (23, .bool ((x0.openF != 0) || (decide (x1 < 1)))), (24, .bool false), (27, .bool (decide (x1 > 3)))]) (by kernel_rfl)
        exact hj_5 _ (hq.conv (by first | (rw [hb] <;> rfl) | rfl))
    intro a hs
    refine Vk.pures 1 [(14, .bool (((x0.openF != 0) || (decide (x1 < 1))) || (decide (x1 > 3))))] hs (by kernel_rfl) fun a hs => ?_
    replace hs := hs.pick [0, 1, 14] (L' := [(0, .pointer (some ⟨b_x0, 0, none⟩)), (1, .int .i64 x1), (14, .bool (((x0.openF != 0) || (decide (x1 < 1))) || (decide (x1 > 3))))]) (by kernel_rfl)
    refine Vk.done (by kernel_rfl) ?_
    refine hK3 _ _ ?_
    clear hK3
    refine Vk.condS (b := ((x0.openF != 0) || (decide (x1 < 1))) || (decide (x1 > 3))) hs (by kernel_rfl) (by kernel_rfl) (fun hb => ?_) (fun hb => ?_)
    · replace hm := bif_t hm hb
      refine Vk.seq fun K6 hK6 => ?_
      refine Vk.region ?_
      refine Vk.pures 1 [(28, .pointer (some ⟨b_x0, 0, none⟩))] hs (by kernel_rfl) fun a hs => ?_
      obtain ⟨v_9, h_8, hm⟩ := bind_t hm
      refine Vk.step (Vk.call (some 29) 94 #[.pointer (some ⟨b_x0, 0, none⟩), .int .i64 1] hs (by kernel_rfl) (by kernel_rfl) (by kernel_rfl) ?_)
      refine (wire_Machine_fail.ok k x0 1 v_9 h_8 κ w (S) b_x0 b_x0otape A_x0otapeowords c_x0otapeowords A_x0oops c_x0oops A_x0ovalues c_x0ovalues A_x0oblocks c_x0oblocks (Own.to hs.own [0, 1, 2, 3, 4, 5] 6 (by kernel_rfl) (by kernel_rfl))).mono ?_
      rintro _ w ⟨Ar7o0otapeowords_10, cr7o0otapeowords_11, Ar7o0oops_12, cr7o0oops_13, Ar7o0ovalues_14, cr7o0ovalues_15, Ar7o0oblocks_16, cr7o0oblocks_17, rfl, how⟩
      refine ⟨_, _, _, rfl, how, fun a hs => ?_⟩
      replace hs := hs.pick [] (L' := []) (by kernel_rfl)
      refine Vk.done (by kernel_rfl) ?_
      refine hK6 _ _ ?_
      clear hK6
      refine wp_ret ?_
      exact Vk.ret0 (P := Try.prog) (fn := Try.f61) (R := wire_Machine_Begin.R κ S x0 x1 b_x0 b_x0otape A_x0otapeowords c_x0otapeowords A_x0oops c_x0oops A_x0ovalues c_x0ovalues A_x0oblocks c_x0oblocks r) hs rfl (by obtain rfl := Option.some.inj hm; exact ⟨Ar7o0otapeowords_10, cr7o0otapeowords_11, Ar7o0oops_12, cr7o0oops_13, Ar7o0ovalues_14, cr7o0ovalues_15, Ar7o0oblocks_16, cr7o0oblocks_17, rfl, (Own.to hs.own [0, 1, 2, 3, 4, 5] 6 (by kernel_rfl) (by kernel_rfl))⟩)
    · replace hm := bif_f hm hb
      refine wp_skip ?_
      refine hK1 _ _ ?_
      clear hK1
      refine Vk.region ?_
      refine Vk.pures 4 [(33, .pointer (some ⟨b_x0, 0, none⟩)), (32, .int .i64 x1), (31, .pointer (some ⟨b_x0, 0, none⟩)), (30, .pointer (some ⟨b_x0, 0, none⟩))] hs (by kernel_rfl) fun a hs => ?_
      obtain ⟨v_20, h_19, hm⟩ := bind_t hm
      refine Vk.step (Vk.call (some 34) 58 #[.pointer (some ⟨b_x0, 0, none⟩)] hs (by kernel_rfl) (by kernel_rfl) (by kernel_rfl) ?_)
      refine (wire_Machine_Len.ok k x0 v_20 h_19 κ w (S) b_x0 b_x0otape A_x0otapeowords c_x0otapeowords A_x0oops c_x0oops A_x0ovalues c_x0ovalues A_x0oblocks c_x0oblocks (Own.to hs.own [0, 1, 2, 3, 4, 5] 6 (by kernel_rfl) (by kernel_rfl))).mono ?_
      rintro _ w ⟨rfl, how⟩
      refine ⟨_, _, _, rfl, how, fun a hs => ?_⟩
      refine Vk.pures 2 [(36, .pointer (some ⟨b_x0, 6, none⟩)), (35, .pointer (some ⟨b_x0, 0, none⟩))] hs (by kernel_rfl) fun a hs => ?_
      refine Vk.step (Vk.store1 (b := b_x0) (ty := 3) (x := (.tmp 36)) (y := (.tmp 32)) (off := 6) (C.int .i64 x1) 0 hs (by kernel_rfl) (by kernel_rfl) (by kernel_rfl) (by kernel_rfl) (by kernel_rfl) (by kernel_rfl) rfl (Nat.le_of_ble_eq_true (by kernel_rfl)) fun a w hs => ?_)
      refine Vk.pures 2 [(38, .pointer (some ⟨b_x0, 7, none⟩)), (37, .pointer (some ⟨b_x0, 0, none⟩))] hs (by kernel_rfl) fun a hs => ?_
      refine Vk.step (Vk.store1 (b := b_x0) (ty := 3) (x := (.tmp 38)) (y := (.tmp 34)) (off := 7) (C.int .i64 v_20) 0 hs (by kernel_rfl) (by kernel_rfl) (by kernel_rfl) (by kernel_rfl) (by kernel_rfl) (by kernel_rfl) rfl (Nat.le_of_ble_eq_true (by kernel_rfl)) fun a w hs => ?_)
      replace hs := hs.pick [] (L' := []) (by kernel_rfl)
      refine Vk.done (by kernel_rfl) ?_
      exact Vk.end0 (P := Try.prog) (fn := Try.f61) (R := wire_Machine_Begin.R κ S x0 x1 b_x0 b_x0otape A_x0otapeowords c_x0otapeowords A_x0oops c_x0oops A_x0ovalues c_x0ovalues A_x0oblocks c_x0oblocks r) hs rfl (by obtain rfl := Option.some.inj hm; exact ⟨A_x0otapeowords, c_x0otapeowords, A_x0oops, c_x0oops, A_x0ovalues, c_x0ovalues, A_x0oblocks, c_x0oblocks, rfl, (Own.to hs.own [0, 1, 2, 3, 4, 5] 6 (by kernel_rfl) (by kernel_rfl))⟩)


def wire_Machine_End.j2 (k : Nat) (p_32 : Twire_Machine) : Option (Twire_Machine) := some (⟨p_32.n, p_32.most, p_32.base, p_32.words, p_32.draws, p_32.dry, 0, p_32.fromF, p_32.bad, p_32.tape, p_32.ops, p_32.values, p_32.blocks⟩ : Twire_Machine)
def wire_Machine_End.j1 (k : Nat) (x0 : Twire_Machine) (p_22 : Bool) : Option (Twire_Machine) := (bif p_22 then (wire_Machine_Len.m k x0).bind fun v_26 => (if (x0.blocks.length + ([(⟨x0.openF, x0.fromF, v_26⟩ : Tapi_Span)] : List Tapi_Span).length) * 24 ≤ 140737488355328 then wire_Machine_End.j2 k (⟨x0.n, x0.most, x0.base, x0.words, x0.draws, x0.dry, x0.openF, x0.fromF, x0.bad, x0.tape, x0.ops, x0.values, x0.blocks ++ ([(⟨x0.openF, x0.fromF, v_26⟩ : Tapi_Span)] : List Tapi_Span)⟩ : Twire_Machine) else none) else wire_Machine_End.j2 k x0)
abbrev wire_Machine_End.R (κ : Ctx) (S : List HP) (x0 : Twire_Machine) (b_x0 : Nat) (b_x0otape : Nat) (A_x0otapeowords : Option Addr) (c_x0otapeowords : Nat) (A_x0oops : Option Addr) (c_x0oops : Nat) (A_x0ovalues : Option Addr) (c_x0ovalues : Nat) (A_x0oblocks : Option Addr) (c_x0oblocks : Nat) (r : Twire_Machine) : Ending → World → Prop := fun e w' => ∃ (A_y0otapeowords : Option Addr), ∃ (c_y0otapeowords : Nat), ∃ (A_y0oops : Option Addr), ∃ (c_y0oops : Nat), ∃ (A_y0ovalues : Option Addr), ∃ (c_y0ovalues : Nat), ∃ (A_y0oblocks : Option Addr), ∃ (c_y0oblocks : Nat), e = .returned (.tuple #[]) ∧ Own κ w' (pt b_x0 (blk (Twire_Machine.obj r b_x0otape A_y0oops c_y0oops A_y0ovalues c_y0ovalues A_y0oblocks c_y0oblocks) 151) :: pto r.dry b_x0otape (blk (Ttape_Tape.obj r.tape A_y0otapeowords c_y0otapeowords) 158) :: rowp A_y0otapeowords c_y0otapeowords 23 1 (eI .u64) r.tape.words :: rowp A_y0oops c_y0oops 32 6 Tapi_Op.cells r.ops :: rowp A_y0ovalues c_y0ovalues 23 1 (eI .u64) r.values :: rowp A_y0oblocks c_y0oblocks 144 3 Tapi_Span.cells r.blocks :: S)
def wire_Machine_End.m (k : Nat) (x0 : Twire_Machine) : Option Twire_Machine := (bif x0.bad != 0 then some x0 else (bif x0.openF == 0 then (wire_Machine_fail.m k x0 1).bind fun v_7 => some v_7.2 else (wire_Machine_Len.m k x0).bind fun v_21 => (bif decide (v_21 > x0.fromF) then wire_Machine_End.j1 k x0 (!x0.dry) else wire_Machine_End.j1 k x0 false)))

set_option maxRecDepth 100000 in
set_option maxHeartbeats 4000000 in
theorem wire_Machine_End.ok (k : Nat) (x0 : Twire_Machine) (r : Twire_Machine) (hm : wire_Machine_End.m k x0 = some r) (κ : Ctx) (w : World) (S : List HP) (b_x0 : Nat) (b_x0otape : Nat) (A_x0otapeowords : Option Addr) (c_x0otapeowords : Nat) (A_x0oops : Option Addr) (c_x0oops : Nat) (A_x0ovalues : Option Addr) (c_x0ovalues : Nat) (A_x0oblocks : Option Addr) (c_x0oblocks : Nat) (ho : Own κ w (pt b_x0 (blk (Twire_Machine.obj x0 b_x0otape A_x0oops c_x0oops A_x0ovalues c_x0ovalues A_x0oblocks c_x0oblocks) 151) :: pto x0.dry b_x0otape (blk (Ttape_Tape.obj x0.tape A_x0otapeowords c_x0otapeowords) 158) :: rowp A_x0otapeowords c_x0otapeowords 23 1 (eI .u64) x0.tape.words :: rowp A_x0oops c_x0oops 32 6 Tapi_Op.cells x0.ops :: rowp A_x0ovalues c_x0ovalues 23 1 (eI .u64) x0.values :: rowp A_x0oblocks c_x0oblocks 144 3 Tapi_Span.cells x0.blocks :: S)) :
    Calls Try.prog 63 #[.pointer (some ⟨b_x0, 0, none⟩)] w (wire_Machine_End.R κ S x0 b_x0 b_x0otape A_x0otapeowords c_x0otapeowords A_x0oops c_x0oops A_x0ovalues c_x0ovalues A_x0oblocks c_x0oblocks r) := by
  unfold wire_Machine_End.m at hm
  refine Vk.enter [(0, .pointer (some ⟨b_x0, 0, none⟩))] Try.func63 rfl Try.ntmps63 (by kernel_rfl) (Nat.le_of_ble_eq_true (by kernel_rfl)) ho fun a hs => ?_
  refine Vk.seq fun K1 hK1 => ?_
  refine wp_block ?_
  refine Vk.seq fun K2 hK2 => ?_
  refine Vk.region ?_
  refine Vk.pures 6 [(8, .pointer (some ⟨b_x0, 8, none⟩)), (7, .pointer (some ⟨b_x0, 0, none⟩)), (6, .pointer (some ⟨b_x0, 0, none⟩)), (5, .bool false), (4, .bool false), (3, .pointer (some ⟨b_x0, 0, none⟩))] hs (by kernel_rfl) fun a hs => ?_
  refine Vk.step (Vk.value (some 9) (.int .i64 x0.bad) hs (by kernel_rfl) (op := (.load 43 (.tmp 8))) (by kernel_rfl) (fun o ho => run_load1 (b := b_x0) (off := 8) (c := C.int .i64 x0.bad) ho (by kernel_rfl) (by kernel_rfl) (Cell.own 0 rfl (by kernel_rfl)) _ hs.own) fun a hs => ?_)
  refine Vk.pures 3 [(2, .bool (x0.bad != 0)), (11, .bool (x0.bad != 0)), (10, .bool (x0.bad != 0))] hs (by kernel_rfl) fun a hs => ?_
  replace hs := hs.pick [0, 2] (L' := [(0, .pointer (some ⟨b_x0, 0, none⟩)), (2, .bool (x0.bad != 0))]) (by kernel_rfl)
  refine Vk.done (by kernel_rfl) ?_
  refine hK2 _ _ ?_
  clear hK2
  refine Vk.condS (b := x0.bad != 0) hs (by kernel_rfl) (by kernel_rfl) (fun hb => ?_) (fun hb => ?_)
  · replace hm := bif_t hm hb
    refine wp_ret ?_
    exact Vk.ret0 (P := Try.prog) (fn := Try.f63) (R := wire_Machine_End.R κ S x0 b_x0 b_x0otape A_x0otapeowords c_x0otapeowords A_x0oops c_x0oops A_x0ovalues c_x0ovalues A_x0oblocks c_x0oblocks r) hs rfl (by obtain rfl := Option.some.inj hm; exact ⟨A_x0otapeowords, c_x0otapeowords, A_x0oops, c_x0oops, A_x0ovalues, c_x0ovalues, A_x0oblocks, c_x0oblocks, rfl, (Own.to hs.own [0, 1, 2, 3, 4, 5] 6 (by kernel_rfl) (by kernel_rfl))⟩)
  · replace hm := bif_f hm hb
    refine Vk.seq fun K3 hK3 => ?_
    refine Vk.region ?_
    refine Vk.pures 3 [(15, .pointer (some ⟨b_x0, 6, none⟩)), (14, .pointer (some ⟨b_x0, 0, none⟩)), (13, .pointer (some ⟨b_x0, 0, none⟩))] hs (by kernel_rfl) fun a hs => ?_
    refine Vk.step (Vk.value (some 16) (.int .i64 x0.openF) hs (by kernel_rfl) (op := (.load 3 (.tmp 15))) (by kernel_rfl) (fun o ho => run_load1 (b := b_x0) (off := 6) (c := C.int .i64 x0.openF) ho (by kernel_rfl) (by kernel_rfl) (Cell.own 0 rfl (by kernel_rfl)) _ hs.own) fun a hs => ?_)
    refine Vk.pures 2 [(12, .bool (x0.openF == 0)), (17, .bool (x0.openF == 0))] hs (by kernel_rfl) fun a hs => ?_
    replace hs := hs.pick [0, 12] (L' := [(0, .pointer (some ⟨b_x0, 0, none⟩)), (12, .bool (x0.openF == 0))]) (by kernel_rfl)
    refine Vk.done (by kernel_rfl) ?_
    refine hK3 _ _ ?_
    clear hK3
    refine Vk.condS (b := x0.openF == 0) hs (by kernel_rfl) (by kernel_rfl) (fun hb => ?_) (fun hb => ?_)
    · replace hm := bif_t hm hb
      refine Vk.seq fun K4 hK4 => ?_
      refine Vk.region ?_
      refine Vk.pures 1 [(18, .pointer (some ⟨b_x0, 0, none⟩))] hs (by kernel_rfl) fun a hs => ?_
      obtain ⟨v_7, h_6, hm⟩ := bind_t hm
      refine Vk.step (Vk.call (some 19) 94 #[.pointer (some ⟨b_x0, 0, none⟩), .int .i64 1] hs (by kernel_rfl) (by kernel_rfl) (by kernel_rfl) ?_)
      refine (wire_Machine_fail.ok k x0 1 v_7 h_6 κ w (S) b_x0 b_x0otape A_x0otapeowords c_x0otapeowords A_x0oops c_x0oops A_x0ovalues c_x0ovalues A_x0oblocks c_x0oblocks (Own.to hs.own [0, 1, 2, 3, 4, 5] 6 (by kernel_rfl) (by kernel_rfl))).mono ?_
      rintro _ w ⟨Ar5o0otapeowords_8, cr5o0otapeowords_9, Ar5o0oops_10, cr5o0oops_11, Ar5o0ovalues_12, cr5o0ovalues_13, Ar5o0oblocks_14, cr5o0oblocks_15, rfl, how⟩
      refine ⟨_, _, _, rfl, how, fun a hs => ?_⟩
      replace hs := hs.pick [] (L' := []) (by kernel_rfl)
      refine Vk.done (by kernel_rfl) ?_
      refine hK4 _ _ ?_
      clear hK4
      refine wp_ret ?_
      exact Vk.ret0 (P := Try.prog) (fn := Try.f63) (R := wire_Machine_End.R κ S x0 b_x0 b_x0otape A_x0otapeowords c_x0otapeowords A_x0oops c_x0oops A_x0ovalues c_x0ovalues A_x0oblocks c_x0oblocks r) hs rfl (by obtain rfl := Option.some.inj hm; exact ⟨Ar5o0otapeowords_8, cr5o0otapeowords_9, Ar5o0oops_10, cr5o0oops_11, Ar5o0ovalues_12, cr5o0ovalues_13, Ar5o0oblocks_14, cr5o0oblocks_15, rfl, (Own.to hs.own [0, 1, 2, 3, 4, 5] 6 (by kernel_rfl) (by kernel_rfl))⟩)
    · replace hm := bif_f hm hb
      refine wp_skip ?_
      refine hK1 _ _ ?_
      clear hK1
      refine Vk.seq fun K16 hK16 => ?_
      have hj16 : ∀ (p_32 : Twire_Machine), wire_Machine_End.j2 k p_32 = some r → ∀ (A_33 : Option Addr) (c_34 : Nat) (a : Act) (w : World), St 57 a w κ [(0, .pointer (some ⟨b_x0, 0, none⟩))] (pt b_x0 (blk (Twire_Machine.obj p_32 b_x0otape A_x0oops c_x0oops A_x0ovalues c_x0ovalues A_33 c_34) 151) :: pto p_32.dry b_x0otape (blk (Ttape_Tape.obj p_32.tape A_x0otapeowords c_x0otapeowords) 158) :: rowp A_x0otapeowords c_x0otapeowords 23 1 (eI .u64) p_32.tape.words :: rowp A_x0oops c_x0oops 32 6 Tapi_Op.cells p_32.ops :: rowp A_x0ovalues c_x0ovalues 23 1 (eI .u64) p_32.values :: rowp A_33 c_34 144 3 Tapi_Span.cells p_32.blocks :: S) → K16 a w := by
        intro p_32 hm A_33 c_34 a w hs
        unfold wire_Machine_End.j2 at hm
        refine hK16 _ _ ?_
        refine Vk.region ?_
        refine Vk.pures 3 [(56, .pointer (some ⟨b_x0, 6, none⟩)), (55, .pointer (some ⟨b_x0, 0, none⟩)), (54, .pointer (some ⟨b_x0, 0, none⟩))] hs (by kernel_rfl) fun a hs => ?_
        refine Vk.step (Vk.store1 (b := b_x0) (ty := 3) (x := (.tmp 56)) (y := (.const (.int .i64 0))) (off := 6) (C.int .i64 0) 0 hs (by kernel_rfl) (by kernel_rfl) (by kernel_rfl) (by kernel_rfl) (by kernel_rfl) (by kernel_rfl) rfl (Nat.le_of_ble_eq_true (by kernel_rfl)) fun a w hs => ?_)
        replace hs := hs.pick [] (L' := []) (by kernel_rfl)
        refine Vk.done (by kernel_rfl) ?_
        exact Vk.end0 (P := Try.prog) (fn := Try.f63) (R := wire_Machine_End.R κ S x0 b_x0 b_x0otape A_x0otapeowords c_x0otapeowords A_x0oops c_x0oops A_x0ovalues c_x0ovalues A_x0oblocks c_x0oblocks r) hs rfl (by obtain rfl := Option.some.inj hm; exact ⟨A_x0otapeowords, c_x0otapeowords, A_x0oops, c_x0oops, A_x0ovalues, c_x0ovalues, A_33, c_34, rfl, (Own.to hs.own [0, 1, 2, 3, 4, 5] 6 (by kernel_rfl) (by kernel_rfl))⟩)
      refine Vk.seq fun K17 hK17 => ?_
      have hj17 : ∀ (p_22 : Bool), wire_Machine_End.j1 k x0 p_22 = some r → ∀ (a : Act) (w : World), St 57 a w κ [(0, .pointer (some ⟨b_x0, 0, none⟩)), (33, .bool p_22)] (pt b_x0 (blk (Twire_Machine.obj x0 b_x0otape A_x0oops c_x0oops A_x0ovalues c_x0ovalues A_x0oblocks c_x0oblocks) 151) :: pto x0.dry b_x0otape (blk (Ttape_Tape.obj x0.tape A_x0otapeowords c_x0otapeowords) 158) :: rowp A_x0otapeowords c_x0otapeowords 23 1 (eI .u64) x0.tape.words :: rowp A_x0oops c_x0oops 32 6 Tapi_Op.cells x0.ops :: rowp A_x0ovalues c_x0ovalues 23 1 (eI .u64) x0.values :: rowp A_x0oblocks c_x0oblocks 144 3 Tapi_Span.cells x0.blocks :: S) → K17 a w := by
        intro p_22 hm a w hs
        unfold wire_Machine_End.j1 at hm
        refine hK17 _ _ ?_
        refine Vk.condS (b := p_22) hs (by kernel_rfl) (by kernel_rfl) (fun hb => ?_) (fun hb => ?_)
        · replace hm := bif_t hm hb
          obtain ⟨C_23, hC_23⟩ : ∃ X0 : List HP, X0 = (pt b_x0 (blk (Twire_Machine.obj x0 b_x0otape A_x0oops c_x0oops A_x0ovalues c_x0ovalues A_x0oblocks c_x0oblocks) 151) :: pto x0.dry b_x0otape (blk (Ttape_Tape.obj x0.tape A_x0otapeowords c_x0otapeowords) 158) :: rowp A_x0otapeowords c_x0otapeowords 23 1 (eI .u64) x0.tape.words :: rowp A_x0oops c_x0oops 32 6 Tapi_Op.cells x0.ops :: rowp A_x0ovalues c_x0ovalues 23 1 (eI .u64) x0.values :: S) := ⟨_, rfl⟩
          refine Vk.drawnT 18 κ C_23 hs (by kernel_rfl) fun w hs => ?_
          have hcz : Own κ w (pt b_x0 (blk (Twire_Machine.obj x0 b_x0otape A_x0oops c_x0oops A_x0ovalues c_x0ovalues A_x0oblocks c_x0oblocks) 151) :: pto x0.dry b_x0otape (blk (Ttape_Tape.obj x0.tape A_x0otapeowords c_x0otapeowords) 158) :: rowp A_x0otapeowords c_x0otapeowords 23 1 (eI .u64) x0.tape.words :: rowp A_x0oops c_x0oops 32 6 Tapi_Op.cells x0.ops :: rowp A_x0ovalues c_x0ovalues 23 1 (eI .u64) x0.values :: S) := (Own.to hs.own [0, 1, 2, 3, 4] 6 (by kernel_rfl) (by kernel_rfl))
          have hcl : Own κ w C_23 := by rw [hC_23]; exact hcz
          refine Vk.dPuresT [0, 1, 2, 3, 5, 6, 7, 9, 10, 11, 13] [(47, .pointer (some ⟨b_x0, 0, none⟩)), (45, .pointer (some ⟨b_x0, 7, none⟩)), (44, .pointer (some ⟨b_x0, 0, none⟩)), (43, .pointer (some ⟨b_x0, 0, none⟩)), (41, .pointer (some ⟨b_x0, 6, none⟩)), (40, .pointer (some ⟨b_x0, 0, none⟩)), (39, .pointer (some ⟨b_x0, 0, none⟩)), (37, .pointer (some ⟨b_x0, 12, none⟩)), (36, .pointer (some ⟨b_x0, 0, none⟩)), (35, .pointer (some ⟨b_x0, 0, none⟩)), (34, .pointer (some ⟨b_x0, 0, none⟩))] hs (by kernel_rfl) (by repeat' (first | exact Vk.Calm.post | refine Vk.Calm.then ?_ | refine Vk.Calm.inBlock ?_)) hcl (by kernel_rfl) (by kernel_rfl) (fuel := 10) rfl fun a hs => ?_
          refine Vk.dTakeT (i := 4) (some 38) (.slice A_x0oblocks x0.blocks.length c_x0oblocks) hs (by kernel_rfl) (by repeat' (first | exact Vk.Calm.post | refine Vk.Calm.then ?_ | refine Vk.Calm.inBlock ?_)) hcl (by kernel_rfl) (by kernel_rfl) (op := (.load 70 (.tmp 37))) (by kernel_rfl) (by kernel_rfl) (fun w hw o ho => by rw [hC_23] at hw; exact run_load1 (b := b_x0) (off := 12) (c := C.slc A_x0oblocks x0.blocks.length c_x0oblocks) ho (by kernel_rfl) (by kernel_rfl) (Cell.own 0 rfl (by kernel_rfl)) _ hw) fun a hs => ?_
          refine Vk.dTakeT (i := 8) (some 42) (.int .i64 x0.openF) hs (by kernel_rfl) (by repeat' (first | exact Vk.Calm.post | refine Vk.Calm.then ?_ | refine Vk.Calm.inBlock ?_)) hcl (by kernel_rfl) (by kernel_rfl) (op := (.load 3 (.tmp 41))) (by kernel_rfl) (by kernel_rfl) (fun w hw o ho => by rw [hC_23] at hw; exact run_load1 (b := b_x0) (off := 6) (c := C.int .i64 x0.openF) ho (by kernel_rfl) (by kernel_rfl) (Cell.own 0 rfl (by kernel_rfl)) _ hw) fun a hs => ?_
          refine Vk.dTakeT (i := 12) (some 46) (.int .i64 x0.fromF) hs (by kernel_rfl) (by repeat' (first | exact Vk.Calm.post | refine Vk.Calm.then ?_ | refine Vk.Calm.inBlock ?_)) hcl (by kernel_rfl) (by kernel_rfl) (op := (.load 3 (.tmp 45))) (by kernel_rfl) (by kernel_rfl) (fun w hw o ho => by rw [hC_23] at hw; exact run_load1 (b := b_x0) (off := 7) (c := C.int .i64 x0.fromF) ho (by kernel_rfl) (by kernel_rfl) (Cell.own 0 rfl (by kernel_rfl)) _ hw) fun a hs => ?_
          obtain ⟨v_26, h_25, hm⟩ := bind_t hm
          refine Vk.dOnly (i := 14) (by kernel_rfl) (Vk.call (some 48) 58 #[.pointer (some ⟨b_x0, 0, none⟩)] hs (by kernel_rfl) (by kernel_rfl) (by kernel_rfl) ?_)
          refine (wire_Machine_Len.ok k x0 v_26 h_25 κ w (S) b_x0 b_x0otape A_x0otapeowords c_x0otapeowords A_x0oops c_x0oops A_x0ovalues c_x0ovalues A_x0oblocks c_x0oblocks (Own.to hs.own [0, 1, 2, 3, 4, 5] 6 (by kernel_rfl) (by kernel_rfl))).mono ?_
          rintro _ w ⟨rfl, how⟩
          refine ⟨_, _, _, rfl, how, fun a hs => ?_⟩
          replace hcl : Own κ w C_23 := by rw [hC_23]; exact (Own.to hs.own [0, 1, 2, 3, 4] 6 (by kernel_rfl) (by kernel_rfl))
          refine ⟨fun _ => hcl, ?_⟩
          refine Vk.dPuresT [15] [(49, .agg (vals [C.int .i64 x0.openF, C.int .i64 x0.fromF, C.int .i64 v_26]))] hs (by kernel_rfl) (by repeat' (first | exact Vk.Calm.post | refine Vk.Calm.then ?_ | refine Vk.Calm.inBlock ?_)) hcl (by kernel_rfl) (by kernel_rfl) (fuel := 5) rfl fun a hs => ?_
          refine Vk.dOnly (i := 16) (by kernel_rfl) (Vk.buildOp (sz := 3) (by_ := 24) (t := 70) (e := 144) (parts := #[(0, (.tmp 49))]) (zs := vals [C.int .i64 0, C.int .i64 0, C.int .i64 0]) ([(⟨x0.openF, x0.fromF, v_26⟩ : Tapi_Span)] : List Tapi_Span) Tapi_Span.cells (some 50) hs (by kernel_rfl) (by kernel_rfl) (by kernel_rfl) (by kernel_rfl) (by decide) rfl (fun x _ => rfl) (Nat.le_of_ble_eq_true (by kernel_rfl)) (by kernel_rfl) fun A_27 w a hs => ?_)
          replace hcl : Own κ w C_23 := by rw [hC_23]; exact (Own.to hs.own [1, 2, 3, 4, 5] 7 (by kernel_rfl) (by kernel_rfl))
          refine ⟨fun _ => hcl, ?_⟩
          obtain ⟨h_29, hm⟩ := ite_t hm
          refine Vk.dOnly (i := 17) (by kernel_rfl) (Vk.appendOp (x := (.tmp 38)) (y := (.tmp 50)) (e := 144) (t := 70) (by_ := 24) (sz := 3) (enc := Tapi_Span.cells) (A := A_x0oblocks) (cap := c_x0oblocks) (xs := x0.blocks) (ys := ([(⟨x0.openF, x0.fromF, v_26⟩ : Tapi_Span)] : List Tapi_Span)) (B := A_27) (c2 := 1) 6 (some 51) hs (by kernel_rfl) (by kernel_rfl) (by kernel_rfl) (by kernel_rfl) rfl (Sl.lift (fun w ho => (Own.to (S' := rowp A_27 1 144 3 Tapi_Span.cells ([(⟨x0.openF, x0.fromF, v_26⟩ : Tapi_Span)] : List Tapi_Span) :: S) ho [0] 7 (by kernel_rfl) (by kernel_rfl))) (Own.rowSl 0 (Own.to (S' := rowp A_27 1 144 3 Tapi_Span.cells ([(⟨x0.openF, x0.fromF, v_26⟩ : Tapi_Span)] : List Tapi_Span) :: S) hs.own [0] 7 (by kernel_rfl) (by kernel_rfl)) rfl)) (by kernel_rfl) (by kernel_rfl) (by decide) (by decide) h_29 fun A_30 c_31 w a hs => ?_)
          replace hcl : Own κ w C_23 := by rw [hC_23]; exact (Own.to hs.own [1, 2, 3, 4, 5] 7 (by kernel_rfl) (by kernel_rfl))
          refine ⟨fun _ => hcl, ?_⟩
          refine Vk.dOnly (i := 18) (by kernel_rfl) (Vk.dPure1 [(52, .pointer (some ⟨b_x0, 0, none⟩))] hs (by kernel_rfl) fun a hs => ?_)
          refine ⟨fun h => absurd h (by decide), ?_⟩
          refine Vk.dOnly (i := 19) (by kernel_rfl) (Vk.dPure1 [(53, .pointer (some ⟨b_x0, 12, none⟩))] hs (by kernel_rfl) fun a hs => ?_)
          refine ⟨fun h => absurd h (by decide), ?_⟩
          refine Vk.dOnly (i := 20) (by kernel_rfl) (Vk.store1 (b := b_x0) (ty := 70) (x := (.tmp 53)) (y := (.tmp 51)) (off := 12) (C.slc A_30 ((x0.blocks ++ ([(⟨x0.openF, x0.fromF, v_26⟩ : Tapi_Span)] : List Tapi_Span)).length) c_31) 1 hs (by kernel_rfl) (by kernel_rfl) (by kernel_rfl) (by kernel_rfl) (by kernel_rfl) (by kernel_rfl) rfl (Nat.le_of_ble_eq_true (by kernel_rfl)) fun a w hs => ?_)
          refine ⟨fun h => absurd h (by decide), ?_⟩
          replace hs := hs.pick [0] (L' := [(0, .pointer (some ⟨b_x0, 0, none⟩))]) (by kernel_rfl)
          refine Vk.dDone (by kernel_rfl) ?_
          exact hj16 (⟨x0.n, x0.most, x0.base, x0.words, x0.draws, x0.dry, x0.openF, x0.fromF, x0.bad, x0.tape, x0.ops, x0.values, x0.blocks ++ ([(⟨x0.openF, x0.fromF, v_26⟩ : Tapi_Span)] : List Tapi_Span)⟩ : Twire_Machine) hm A_30 c_31 _ _ (hs.go [0] [1, 2, 3, 4, 5, 6] 7 (by kernel_rfl) (by kernel_rfl) (by kernel_rfl))
        · replace hm := bif_f hm hb
          refine wp_skip ?_
          exact hj16 x0 hm A_x0oblocks c_x0oblocks _ _ (hs.go [0] [0, 1, 2, 3, 4, 5] 6 (by kernel_rfl) (by kernel_rfl) (by kernel_rfl))
      obtain ⟨C_18, hC_18⟩ : ∃ X0 : List HP, X0 = (pt b_x0 (blk (Twire_Machine.obj x0 b_x0otape A_x0oops c_x0oops A_x0ovalues c_x0ovalues A_x0oblocks c_x0oblocks) 151) :: pto x0.dry b_x0otape (blk (Ttape_Tape.obj x0.tape A_x0otapeowords c_x0otapeowords) 158) :: rowp A_x0otapeowords c_x0otapeowords 23 1 (eI .u64) x0.tape.words :: rowp A_x0oops c_x0oops 32 6 Tapi_Op.cells x0.ops :: rowp A_x0ovalues c_x0ovalues 23 1 (eI .u64) x0.values :: rowp A_x0oblocks c_x0oblocks 144 3 Tapi_Span.cells x0.blocks :: S) := ⟨_, rfl⟩
      refine Vk.drawnT 14 κ C_18 hs (by kernel_rfl) fun w hs => ?_
      have hcz : Own κ w (pt b_x0 (blk (Twire_Machine.obj x0 b_x0otape A_x0oops c_x0oops A_x0ovalues c_x0ovalues A_x0oblocks c_x0oblocks) 151) :: pto x0.dry b_x0otape (blk (Ttape_Tape.obj x0.tape A_x0otapeowords c_x0otapeowords) 158) :: rowp A_x0otapeowords c_x0otapeowords 23 1 (eI .u64) x0.tape.words :: rowp A_x0oops c_x0oops 32 6 Tapi_Op.cells x0.ops :: rowp A_x0ovalues c_x0ovalues 23 1 (eI .u64) x0.values :: rowp A_x0oblocks c_x0oblocks 144 3 Tapi_Span.cells x0.blocks :: S) := (Own.to hs.own [0, 1, 2, 3, 4, 5] 6 (by kernel_rfl) (by kernel_rfl))
      have hcl : Own κ w C_18 := by rw [hC_18]; exact hcz
      refine Vk.dPuresT [0, 2, 3, 4] [(24, .pointer (some ⟨b_x0, 7, none⟩)), (23, .pointer (some ⟨b_x0, 0, none⟩)), (22, .pointer (some ⟨b_x0, 0, none⟩)), (20, .pointer (some ⟨b_x0, 0, none⟩))] hs (by kernel_rfl) (by repeat' (first | exact Vk.Calm.post | refine Vk.Calm.then ?_ | refine Vk.Calm.inBlock ?_)) hcl (by kernel_rfl) (by kernel_rfl) (fuel := 10) rfl fun a hs => ?_
      refine Vk.dTakeT (i := 5) (some 25) (.int .i64 x0.fromF) hs (by kernel_rfl) (by repeat' (first | exact Vk.Calm.post | refine Vk.Calm.then ?_ | refine Vk.Calm.inBlock ?_)) hcl (by kernel_rfl) (by kernel_rfl) (op := (.load 3 (.tmp 24))) (by kernel_rfl) (by kernel_rfl) (fun w hw o ho => by rw [hC_18] at hw; exact run_load1 (b := b_x0) (off := 7) (c := C.int .i64 x0.fromF) ho (by kernel_rfl) (by kernel_rfl) (Cell.own 0 rfl (by kernel_rfl)) _ hw) fun a hs => ?_
      obtain ⟨v_21, h_20, hm⟩ := bind_t hm
      refine Vk.dOnly (i := 1) (by kernel_rfl) (Vk.call (some 21) 58 #[.pointer (some ⟨b_x0, 0, none⟩)] hs (by kernel_rfl) (by kernel_rfl) (by kernel_rfl) ?_)
      refine (wire_Machine_Len.ok k x0 v_21 h_20 κ w (S) b_x0 b_x0otape A_x0otapeowords c_x0otapeowords A_x0oops c_x0oops A_x0ovalues c_x0ovalues A_x0oblocks c_x0oblocks (Own.to hs.own [0, 1, 2, 3, 4, 5] 6 (by kernel_rfl) (by kernel_rfl))).mono ?_
      rintro _ w ⟨rfl, how⟩
      refine ⟨_, _, _, rfl, how, fun a hs => ?_⟩
      replace hcl : Own κ w C_18 := by rw [hC_18]; exact (Own.to hs.own [0, 1, 2, 3, 4, 5] 6 (by kernel_rfl) (by kernel_rfl))
      refine ⟨fun _ => hcl, ?_⟩
      refine Vk.dPuresT [6, 7] [(27, .bool (decide (v_21 > x0.fromF))), (26, .bool (decide (v_21 > x0.fromF)))] hs (by kernel_rfl) (by repeat' (first | exact Vk.Calm.post | refine Vk.Calm.then ?_ | refine Vk.Calm.inBlock ?_)) hcl (by kernel_rfl) (by kernel_rfl) (fuel := 6) rfl fun a hs => ?_
      rcases Bool.eq_false_or_eq_true (decide (v_21 > x0.fromF)) with hb | hb
      · replace hm := bif_t hm hb
        replace hs := hs.known (t := 27) hb (by kernel_rfl)
        refine Vk.dPuresT [8, 9, 10] [(30, .pointer (some ⟨b_x0, 5, none⟩)), (29, .pointer (some ⟨b_x0, 0, none⟩)), (28, .pointer (some ⟨b_x0, 0, none⟩))] hs (by kernel_rfl) (by repeat' (first | exact Vk.Calm.post | refine Vk.Calm.then ?_ | refine Vk.Calm.inBlock ?_)) hcl (by kernel_rfl) (by kernel_rfl) (fuel := 3) rfl fun a hs => ?_
        refine Vk.dTakeT (i := 11) (some 31) (.bool x0.dry) hs (by kernel_rfl) (by repeat' (first | exact Vk.Calm.post | refine Vk.Calm.then ?_ | refine Vk.Calm.inBlock ?_)) hcl (by kernel_rfl) (by kernel_rfl) (op := (.load 4 (.tmp 30))) (by kernel_rfl) (by kernel_rfl) (fun w hw o ho => by rw [hC_18] at hw; exact run_load1 (b := b_x0) (off := 5) (c := C.bool x0.dry) ho (by kernel_rfl) (by kernel_rfl) (Cell.own 0 rfl (by kernel_rfl)) _ hw) fun a hs => ?_
        refine Vk.dPuresT [12, 13] [(33, .bool (!x0.dry)), (32, .bool (!x0.dry))] hs (by kernel_rfl) (by repeat' (first | exact Vk.Calm.post | refine Vk.Calm.then ?_ | refine Vk.Calm.inBlock ?_)) hcl (by kernel_rfl) (by kernel_rfl) (fuel := 0) rfl fun a hs => ?_
        replace hs := hs.pick [0, 33] (L' := [(0, .pointer (some ⟨b_x0, 0, none⟩)), (33, .bool (!x0.dry))]) (by kernel_rfl)
        refine Vk.dDone (by kernel_rfl) ?_
        exact hj17 (!x0.dry) hm _ _ (hs.go [0, 33] [0, 1, 2, 3, 4, 5] 6 (by kernel_rfl) (by kernel_rfl) (by kernel_rfl))
      · replace hm := bif_f hm hb
        replace hs := hs.known (t := 27) hb (by kernel_rfl)
        refine Vk.dPuresT [8, 9, 10, 11, 12, 13] [(33, .bool false), (32, undef), (31, undef), (30, undef), (29, undef), (28, undef)] hs (by kernel_rfl) (by repeat' (first | exact Vk.Calm.post | refine Vk.Calm.then ?_ | refine Vk.Calm.inBlock ?_)) hcl (by kernel_rfl) (by kernel_rfl) (fuel := 0) rfl fun a hs => ?_
        replace hs := hs.pick [0, 33] (L' := [(0, .pointer (some ⟨b_x0, 0, none⟩)), (33, .bool false)]) (by kernel_rfl)
        refine Vk.dDone (by kernel_rfl) ?_
        exact hj17 false hm _ _ (hs.go [0, 33] [0, 1, 2, 3, 4, 5] 6 (by kernel_rfl) (by kernel_rfl) (by kernel_rfl))


abbrev op_is.R (κ : Ctx) (S : List HP) (x0 : Int) (r : Bool) : Ending → World → Prop := fun e w' => e = .returned (.bool r) ∧ Own κ w' (S)
def op_is.m (k : Nat) (x0 : Int) : Option Bool := some ((decide (x0 ≥ 1)) && (decide (x0 ≤ 12)))

set_option maxRecDepth 100000 in
set_option maxHeartbeats 4000000 in
theorem op_is.ok (k : Nat) (x0 : Int) (r : Bool) (hm : op_is.m k x0 = some r) (κ : Ctx) (w : World) (S : List HP) (ho : Own κ w (S)) :
    Calls Try.prog 112 #[.int .i64 x0] w (op_is.R κ S x0 r) := by
  unfold op_is.m at hm
  refine Vk.enter [(0, .int .i64 x0)] Try.func112 rfl Try.ntmps112 (by kernel_rfl) (Nat.le_of_ble_eq_true (by kernel_rfl)) ho fun a hs => ?_
  refine Vk.seq fun K1 hK1 => ?_
  refine Vk.region ?_
  refine Vk.pures 1 [(2, .bool false)] hs (by kernel_rfl) fun a hs => ?_
  replace hs := hs.pick [0] (L' := [(0, .int .i64 x0)]) (by kernel_rfl)
  refine Vk.done (by kernel_rfl) ?_
  refine hK1 _ _ ?_
  clear hK1
  refine Vk.seq fun K2 hK2 => ?_
  refine Vk.region ?_
  refine Vk.pures 3 [(5, .bool (decide (x0 ≥ 1))), (4, .bool (decide (x0 ≥ 1))), (3, .int .i64 x0)] hs (by kernel_rfl) fun a hs => ?_
  suffices hj_3 : ∀ a, St 9 a w κ [(0, .int .i64 x0), (3, .int .i64 x0), (4, .bool (decide (x0 ≥ 1))), (5, .bool (decide (x0 ≥ 1))), (8, .bool ((decide (x0 ≥ 1)) && (decide (x0 ≤ 12))))] (S) → wpFrom Try.prog _ _ 6 a w by
    rcases Bool.eq_false_or_eq_true (decide (x0 ≥ 1)) with hb | hb
    · replace hs := hs.known (t := 5) hb (by kernel_rfl)
      refine Vk.pures 3 [(8, .bool (decide (x0 ≤ 12))), (7, .bool (decide (x0 ≤ 12))), (6, .int .i64 x0)] hs (by kernel_rfl) fun a hs => ?_
      have hq := hs.pick [0, 3, 4, 5, 8] (L' := [(0, .int .i64 x0), (3, .int .i64 x0), (4, .bool (decide (x0 ≥ 1))), (5, .bool true), (8, .bool (decide (x0 ≤ 12)))]) (by kernel_rfl)
      exact hj_3 _ (hq.conv (by first | (rw [hb] <;> rfl) | rfl))
    · replace hs := hs.known (t := 5) hb (by kernel_rfl)
      refine Vk.pures 3 [(8, .bool false), (7, undef), (6, undef)] hs (by kernel_rfl) fun a hs => ?_
      have hq := hs.pick [0, 3, 4, 5, 8] (L' := [(0, .int .i64 x0), (3, .int .i64 x0), (4, .bool (decide (x0 ≥ 1))), (5, .bool false), (8, .bool false)]) (by kernel_rfl)
      exact hj_3 _ (hq.conv (by first | (rw [hb] <;> rfl) | rfl))
  intro a hs
  refine Vk.pures 1 [(2, .bool ((decide (x0 ≥ 1)) && (decide (x0 ≤ 12))))] hs (by kernel_rfl) fun a hs => ?_
  replace hs := hs.pick [2] (L' := [(2, .bool ((decide (x0 ≥ 1)) && (decide (x0 ≤ 12))))]) (by kernel_rfl)
  refine Vk.done (by kernel_rfl) ?_
  refine hK2 _ _ ?_
  clear hK2
  refine wp_ret ?_
  exact Vk.ret1 (P := Try.prog) (fn := Try.f112) (R := op_is.R κ S x0 r) (.bool ((decide (x0 ≥ 1)) && (decide (x0 ≤ 12)))) hs rfl (by kernel_rfl) (by obtain rfl := Option.some.inj hm; exact ⟨rfl, (Own.to hs.own [] 0 (by kernel_rfl) (by kernel_rfl))⟩)


def op_Regs.j2 (k : Nat) (x0 : Int) (x1 : Int) (p_19 : Bool) : Option (Int) := (bif p_19 then some 1 else (bif x0 == 12 then some x1 else some 0))
def op_Regs.j1 (k : Nat) (x0 : Int) (x1 : Int) (p_12 : Bool) : Option (Int) := (bif p_12 then some 2 else (bif x0 == 6 then op_Regs.j2 k x0 x1 (x0 == 6) else (bif x0 == 8 then op_Regs.j2 k x0 x1 (x0 == 8) else (bif x0 == 9 then op_Regs.j2 k x0 x1 (x0 == 9) else (bif x0 == 10 then op_Regs.j2 k x0 x1 (x0 == 10) else op_Regs.j2 k x0 x1 (x0 == 11))))))
abbrev op_Regs.R (κ : Ctx) (S : List HP) (x0 : Int) (x1 : Int) (r : Int) : Ending → World → Prop := fun e w' => e = .returned (.int .i64 r) ∧ Own κ w' (S)
def op_Regs.m (k : Nat) (x0 : Int) (x1 : Int) : Option Int := (bif (x1 != 2) && (x1 != 3) then some 0 else (bif x0 == 2 then some (IntKind.i64.wrap (x1 - 1)) else (bif x0 == 5 then op_Regs.j1 k x0 x1 (x0 == 5) else op_Regs.j1 k x0 x1 (x0 == 7))))

set_option maxRecDepth 100000 in
set_option maxHeartbeats 4000000 in
theorem op_Regs.ok (k : Nat) (x0 : Int) (x1 : Int) (r : Int) (hm : op_Regs.m k x0 x1 = some r) (κ : Ctx) (w : World) (S : List HP) (ho : Own κ w (S)) :
    Calls Try.prog 125 #[.int .i64 x0, .int .i64 x1] w (op_Regs.R κ S x0 x1 r) := by
  unfold op_Regs.m at hm
  refine Vk.enter [(0, .int .i64 x0), (1, .int .i64 x1)] Try.func125 rfl Try.ntmps125 (by kernel_rfl) (Nat.le_of_ble_eq_true (by kernel_rfl)) ho fun a hs => ?_
  refine Vk.seq fun K1 hK1 => ?_
  refine Vk.region ?_
  refine Vk.pures 1 [(4, .int .i64 0)] hs (by kernel_rfl) fun a hs => ?_
  replace hs := hs.pick [0, 1] (L' := [(0, .int .i64 x0), (1, .int .i64 x1)]) (by kernel_rfl)
  refine Vk.done (by kernel_rfl) ?_
  refine hK1 _ _ ?_
  clear hK1
  refine Vk.seq fun K2 hK2 => ?_
  refine Vk.seq fun K3 hK3 => ?_
  refine Vk.region ?_
  refine Vk.pures 3 [(7, .bool (x1 != 2)), (6, .bool (x1 != 2)), (5, .int .i64 x1)] hs (by kernel_rfl) fun a hs => ?_
  suffices hj_4 : ∀ a, St 28 a w κ [(0, .int .i64 x0), (1, .int .i64 x1), (5, .int .i64 x1), (6, .bool (x1 != 2)), (7, .bool (x1 != 2)), (10, .bool ((x1 != 2) && (x1 != 3)))] (S) → wpFrom Try.prog _ _ 6 a w by
    rcases Bool.eq_false_or_eq_true (x1 != 2) with hb | hb
    · replace hs := hs.known (t := 7) hb (by kernel_rfl)
      refine Vk.pures 3 [(10, .bool (x1 != 3)), (9, .bool (x1 != 3)), (8, .int .i64 x1)] hs (by kernel_rfl) fun a hs => ?_
      have hq := hs.pick [0, 1, 5, 6, 7, 10] (L' := [(0, .int .i64 x0), (1, .int .i64 x1), (5, .int .i64 x1), (6, .bool (x1 != 2)), (7, .bool true), (10, .bool (x1 != 3))]) (by kernel_rfl)
      exact hj_4 _ (hq.conv (by first | (rw [hb] <;> rfl) | rfl))
    · replace hs := hs.known (t := 7) hb (by kernel_rfl)
      refine Vk.pures 3 [(10, .bool false), (9, undef), (8, undef)] hs (by kernel_rfl) fun a hs => ?_
      have hq := hs.pick [0, 1, 5, 6, 7, 10] (L' := [(0, .int .i64 x0), (1, .int .i64 x1), (5, .int .i64 x1), (6, .bool (x1 != 2)), (7, .bool false), (10, .bool false)]) (by kernel_rfl)
      exact hj_4 _ (hq.conv (by first | (rw [hb] <;> rfl) | rfl))
  intro a hs
  replace hs := hs.pick [0, 1, 10] (L' := [(0, .int .i64 x0), (1, .int .i64 x1), (10, .bool ((x1 != 2) && (x1 != 3)))]) (by kernel_rfl)
  refine Vk.done (by kernel_rfl) ?_
  refine hK3 _ _ ?_
  clear hK3
  refine Vk.condS (b := (x1 != 2) && (x1 != 3)) hs (by kernel_rfl) (by kernel_rfl) (fun hb => ?_) (fun hb => ?_)
  · replace hm := bif_t hm hb
    refine Vk.seq fun K5 hK5 => ?_
    refine Vk.region ?_
    refine Vk.pures 1 [(4, .int .i64 0)] hs (by kernel_rfl) fun a hs => ?_
    replace hs := hs.pick [4] (L' := [(4, .int .i64 0)]) (by kernel_rfl)
    refine Vk.done (by kernel_rfl) ?_
    refine hK5 _ _ ?_
    clear hK5
    refine wp_ret ?_
    exact Vk.ret1 (P := Try.prog) (fn := Try.f125) (R := op_Regs.R κ S x0 x1 r) (.int .i64 0) hs rfl (by kernel_rfl) (by obtain rfl := Option.some.inj hm; exact ⟨rfl, (Own.to hs.own [] 0 (by kernel_rfl) (by kernel_rfl))⟩)
  · replace hm := bif_f hm hb
    refine wp_skip ?_
    refine hK2 _ _ ?_
    clear hK2
    refine Vk.seq fun K6 hK6 => ?_
    refine Vk.seq fun K7 hK7 => ?_
    refine Vk.region ?_
    refine Vk.pures 1 [(11, .int .i64 x0)] hs (by kernel_rfl) fun a hs => ?_
    replace hs := hs.pick [1, 11] (L' := [(1, .int .i64 x1), (11, .int .i64 x0)]) (by kernel_rfl)
    refine Vk.done (by kernel_rfl) ?_
    refine hK7 _ _ ?_
    clear hK7
    refine wp_block ?_
    refine Vk.seq fun K8 hK8 => ?_
    refine Vk.region ?_
    refine Vk.pures 2 [(12, .bool (x0 == 2)), (13, .bool (x0 == 2))] hs (by kernel_rfl) fun a hs => ?_
    replace hs := hs.pick [1, 11, 12] (L' := [(1, .int .i64 x1), (11, .int .i64 x0), (12, .bool (x0 == 2))]) (by kernel_rfl)
    refine Vk.done (by kernel_rfl) ?_
    refine hK8 _ _ ?_
    clear hK8
    refine Vk.condS (b := x0 == 2) hs (by kernel_rfl) (by kernel_rfl) (fun hb => ?_) (fun hb => ?_)
    · replace hm := bif_t hm hb
      refine Vk.seq fun K9 hK9 => ?_
      refine Vk.region ?_
      refine Vk.pures 3 [(4, .int .i64 (IntKind.i64.wrap (x1 - 1))), (15, .int .i64 (IntKind.i64.wrap (x1 - 1))), (14, .int .i64 x1)] hs (by kernel_rfl) fun a hs => ?_
      replace hs := hs.pick [4] (L' := [(4, .int .i64 (IntKind.i64.wrap (x1 - 1)))]) (by kernel_rfl)
      refine Vk.done (by kernel_rfl) ?_
      refine hK9 _ _ ?_
      clear hK9
      refine wp_ret ?_
      exact Vk.ret1 (P := Try.prog) (fn := Try.f125) (R := op_Regs.R κ S x0 x1 r) (.int .i64 (IntKind.i64.wrap (x1 - 1))) hs rfl (by kernel_rfl) (by obtain rfl := Option.some.inj hm; exact ⟨rfl, (Own.to hs.own [] 0 (by kernel_rfl) (by kernel_rfl))⟩)
    · replace hm := bif_f hm hb
      refine Vk.seq fun K10 hK10 => ?_
      have hj10 : ∀ (p_12 : Bool), op_Regs.j1 k x0 x1 p_12 = some r → ∀ (a : Act) (w : World), St 28 a w κ [(1, .int .i64 x1), (11, .int .i64 x0), (16, .bool p_12)] (S) → K10 a w := by
        intro p_12 hm a w hs
        unfold op_Regs.j1 at hm
        refine hK10 _ _ ?_
        refine Vk.condS (b := p_12) hs (by kernel_rfl) (by kernel_rfl) (fun hb => ?_) (fun hb => ?_)
        · replace hm := bif_t hm hb
          refine Vk.seq fun K13 hK13 => ?_
          refine Vk.region ?_
          refine Vk.pures 1 [(4, .int .i64 2)] hs (by kernel_rfl) fun a hs => ?_
          replace hs := hs.pick [4] (L' := [(4, .int .i64 2)]) (by kernel_rfl)
          refine Vk.done (by kernel_rfl) ?_
          refine hK13 _ _ ?_
          clear hK13
          refine wp_ret ?_
          exact Vk.ret1 (P := Try.prog) (fn := Try.f125) (R := op_Regs.R κ S x0 x1 r) (.int .i64 2) hs rfl (by kernel_rfl) (by obtain rfl := Option.some.inj hm; exact ⟨rfl, (Own.to hs.own [] 0 (by kernel_rfl) (by kernel_rfl))⟩)
        · replace hm := bif_f hm hb
          refine Vk.seq fun K14 hK14 => ?_
          have hj14 : ∀ (p_19 : Bool), op_Regs.j2 k x0 x1 p_19 = some r → ∀ (a : Act) (w : World), St 28 a w κ [(1, .int .i64 x1), (11, .int .i64 x0), (19, .bool p_19)] (S) → K14 a w := by
            intro p_19 hm a w hs
            unfold op_Regs.j2 at hm
            refine hK14 _ _ ?_
            refine Vk.condS (b := p_19) hs (by kernel_rfl) (by kernel_rfl) (fun hb => ?_) (fun hb => ?_)
            · replace hm := bif_t hm hb
              refine Vk.seq fun K20 hK20 => ?_
              refine Vk.region ?_
              refine Vk.pures 1 [(4, .int .i64 1)] hs (by kernel_rfl) fun a hs => ?_
              replace hs := hs.pick [4] (L' := [(4, .int .i64 1)]) (by kernel_rfl)
              refine Vk.done (by kernel_rfl) ?_
              refine hK20 _ _ ?_
              clear hK20
              refine wp_ret ?_
              exact Vk.ret1 (P := Try.prog) (fn := Try.f125) (R := op_Regs.R κ S x0 x1 r) (.int .i64 1) hs rfl (by kernel_rfl) (by obtain rfl := Option.some.inj hm; exact ⟨rfl, (Own.to hs.own [] 0 (by kernel_rfl) (by kernel_rfl))⟩)
            · replace hm := bif_f hm hb
              refine Vk.seq fun K21 hK21 => ?_
              refine Vk.region ?_
              refine Vk.pures 2 [(25, .bool (x0 == 12)), (26, .bool (x0 == 12))] hs (by kernel_rfl) fun a hs => ?_
              replace hs := hs.pick [1, 25] (L' := [(1, .int .i64 x1), (25, .bool (x0 == 12))]) (by kernel_rfl)
              refine Vk.done (by kernel_rfl) ?_
              refine hK21 _ _ ?_
              clear hK21
              refine Vk.condS (b := x0 == 12) hs (by kernel_rfl) (by kernel_rfl) (fun hb => ?_) (fun hb => ?_)
              · replace hm := bif_t hm hb
                refine Vk.seq fun K22 hK22 => ?_
                refine Vk.region ?_
                refine Vk.pures 2 [(4, .int .i64 x1), (27, .int .i64 x1)] hs (by kernel_rfl) fun a hs => ?_
                replace hs := hs.pick [4] (L' := [(4, .int .i64 x1)]) (by kernel_rfl)
                refine Vk.done (by kernel_rfl) ?_
                refine hK22 _ _ ?_
                clear hK22
                refine wp_ret ?_
                exact Vk.ret1 (P := Try.prog) (fn := Try.f125) (R := op_Regs.R κ S x0 x1 r) (.int .i64 x1) hs rfl (by kernel_rfl) (by obtain rfl := Option.some.inj hm; exact ⟨rfl, (Own.to hs.own [] 0 (by kernel_rfl) (by kernel_rfl))⟩)
              · replace hm := bif_f hm hb
                refine wp_skip ?_
                refine hK6 _ _ ?_
                clear hK6
                refine Vk.seq fun K23 hK23 => ?_
                refine Vk.region ?_
                refine Vk.pures 1 [(4, .int .i64 0)] hs (by kernel_rfl) fun a hs => ?_
                replace hs := hs.pick [4] (L' := [(4, .int .i64 0)]) (by kernel_rfl)
                refine Vk.done (by kernel_rfl) ?_
                refine hK23 _ _ ?_
                clear hK23
                refine wp_ret ?_
                exact Vk.ret1 (P := Try.prog) (fn := Try.f125) (R := op_Regs.R κ S x0 x1 r) (.int .i64 0) hs rfl (by kernel_rfl) (by obtain rfl := Option.some.inj hm; exact ⟨rfl, (Own.to hs.own [] 0 (by kernel_rfl) (by kernel_rfl))⟩)
          refine Vk.seq fun K15 hK15 => ?_
          refine Vk.region ?_
          refine Vk.pures 2 [(19, .bool (x0 == 6)), (20, .bool (x0 == 6))] hs (by kernel_rfl) fun a hs => ?_
          replace hs := hs.pick [1, 11, 19] (L' := [(1, .int .i64 x1), (11, .int .i64 x0), (19, .bool (x0 == 6))]) (by kernel_rfl)
          refine Vk.done (by kernel_rfl) ?_
          refine hK15 _ _ ?_
          clear hK15
          refine Vk.condS (b := x0 == 6) hs (by kernel_rfl) (by kernel_rfl) (fun hb => ?_) (fun hb => ?_)
          · replace hm := bif_t hm hb
            refine wp_skip ?_
            exact hj14 (x0 == 6) hm _ _ (hs.go [1, 11, 19] [] 0 (by kernel_rfl) (by kernel_rfl) (by kernel_rfl))
          · replace hm := bif_f hm hb
            refine Vk.seq fun K16 hK16 => ?_
            refine Vk.region ?_
            refine Vk.pures 2 [(19, .bool (x0 == 8)), (21, .bool (x0 == 8))] hs (by kernel_rfl) fun a hs => ?_
            replace hs := hs.pick [1, 11, 19] (L' := [(1, .int .i64 x1), (11, .int .i64 x0), (19, .bool (x0 == 8))]) (by kernel_rfl)
            refine Vk.done (by kernel_rfl) ?_
            refine hK16 _ _ ?_
            clear hK16
            refine Vk.condS (b := x0 == 8) hs (by kernel_rfl) (by kernel_rfl) (fun hb => ?_) (fun hb => ?_)
            · replace hm := bif_t hm hb
              refine wp_skip ?_
              exact hj14 (x0 == 8) hm _ _ (hs.go [1, 11, 19] [] 0 (by kernel_rfl) (by kernel_rfl) (by kernel_rfl))
            · replace hm := bif_f hm hb
              refine Vk.seq fun K17 hK17 => ?_
              refine Vk.region ?_
              refine Vk.pures 2 [(19, .bool (x0 == 9)), (22, .bool (x0 == 9))] hs (by kernel_rfl) fun a hs => ?_
              replace hs := hs.pick [1, 11, 19] (L' := [(1, .int .i64 x1), (11, .int .i64 x0), (19, .bool (x0 == 9))]) (by kernel_rfl)
              refine Vk.done (by kernel_rfl) ?_
              refine hK17 _ _ ?_
              clear hK17
              refine Vk.condS (b := x0 == 9) hs (by kernel_rfl) (by kernel_rfl) (fun hb => ?_) (fun hb => ?_)
              · replace hm := bif_t hm hb
                refine wp_skip ?_
                exact hj14 (x0 == 9) hm _ _ (hs.go [1, 11, 19] [] 0 (by kernel_rfl) (by kernel_rfl) (by kernel_rfl))
              · replace hm := bif_f hm hb
                refine Vk.seq fun K18 hK18 => ?_
                refine Vk.region ?_
                refine Vk.pures 2 [(19, .bool (x0 == 10)), (23, .bool (x0 == 10))] hs (by kernel_rfl) fun a hs => ?_
                replace hs := hs.pick [1, 11, 19] (L' := [(1, .int .i64 x1), (11, .int .i64 x0), (19, .bool (x0 == 10))]) (by kernel_rfl)
                refine Vk.done (by kernel_rfl) ?_
                refine hK18 _ _ ?_
                clear hK18
                refine Vk.condS (b := x0 == 10) hs (by kernel_rfl) (by kernel_rfl) (fun hb => ?_) (fun hb => ?_)
                · replace hm := bif_t hm hb
                  refine wp_skip ?_
                  exact hj14 (x0 == 10) hm _ _ (hs.go [1, 11, 19] [] 0 (by kernel_rfl) (by kernel_rfl) (by kernel_rfl))
                · replace hm := bif_f hm hb
                  refine Vk.region ?_
                  refine Vk.pures 2 [(19, .bool (x0 == 11)), (24, .bool (x0 == 11))] hs (by kernel_rfl) fun a hs => ?_
                  replace hs := hs.pick [1, 11, 19] (L' := [(1, .int .i64 x1), (11, .int .i64 x0), (19, .bool (x0 == 11))]) (by kernel_rfl)
                  refine Vk.done (by kernel_rfl) ?_
                  exact hj14 (x0 == 11) hm _ _ (hs.go [1, 11, 19] [] 0 (by kernel_rfl) (by kernel_rfl) (by kernel_rfl))
      refine Vk.seq fun K11 hK11 => ?_
      refine Vk.region ?_
      refine Vk.pures 2 [(16, .bool (x0 == 5)), (17, .bool (x0 == 5))] hs (by kernel_rfl) fun a hs => ?_
      replace hs := hs.pick [1, 11, 16] (L' := [(1, .int .i64 x1), (11, .int .i64 x0), (16, .bool (x0 == 5))]) (by kernel_rfl)
      refine Vk.done (by kernel_rfl) ?_
      refine hK11 _ _ ?_
      clear hK11
      refine Vk.condS (b := x0 == 5) hs (by kernel_rfl) (by kernel_rfl) (fun hb => ?_) (fun hb => ?_)
      · replace hm := bif_t hm hb
        refine wp_skip ?_
        exact hj10 (x0 == 5) hm _ _ (hs.go [1, 11, 16] [] 0 (by kernel_rfl) (by kernel_rfl) (by kernel_rfl))
      · replace hm := bif_f hm hb
        refine Vk.region ?_
        refine Vk.pures 2 [(16, .bool (x0 == 7)), (18, .bool (x0 == 7))] hs (by kernel_rfl) fun a hs => ?_
        replace hs := hs.pick [1, 11, 16] (L' := [(1, .int .i64 x1), (11, .int .i64 x0), (16, .bool (x0 == 7))]) (by kernel_rfl)
        refine Vk.done (by kernel_rfl) ?_
        exact hj10 (x0 == 7) hm _ _ (hs.go [1, 11, 16] [] 0 (by kernel_rfl) (by kernel_rfl) (by kernel_rfl))


def op_constant.j2 (k : Nat) (x0 : Tapi_Op) (p_15 : Bool) : Option (Bool) := (bif p_15 then some true else some (x0.c == 0))
def op_constant.j1 (k : Nat) (x0 : Tapi_Op) (p_8 : Bool) : Option (Bool) := (bif p_8 then some (decide (x0.c < 64)) else (bif x0.kind == 2 then some (decide (x0.c < 1048576)) else (bif x0.kind == 3 then op_constant.j2 k x0 (x0.kind == 3) else (bif x0.kind == 4 then op_constant.j2 k x0 (x0.kind == 4) else op_constant.j2 k x0 (x0.kind == 8)))))
abbrev op_constant.R (κ : Ctx) (S : List HP) (x0 : Tapi_Op) (r : Bool) : Ending → World → Prop := fun e w' => e = .returned (.bool r) ∧ Own κ w' (S)
def op_constant.m (k : Nat) (x0 : Tapi_Op) : Option Bool := (bif x0.kind == 9 then op_constant.j1 k x0 (x0.kind == 9) else (bif x0.kind == 10 then op_constant.j1 k x0 (x0.kind == 10) else op_constant.j1 k x0 (x0.kind == 11)))

set_option maxRecDepth 100000 in
set_option maxHeartbeats 4000000 in
theorem op_constant.ok (k : Nat) (x0 : Tapi_Op) (r : Bool) (hm : op_constant.m k x0 = some r) (κ : Ctx) (w : World) (S : List HP) (ho : Own κ w (S)) :
    Calls Try.prog 126 #[.agg (vals [C.int .i64 x0.kind, C.int .i64 x0.dom, C.int .i64 x0.a, C.int .i64 x0.b, C.int .i64 x0.d, C.int .u64 x0.c])] w (op_constant.R κ S x0 r) := by
  unfold op_constant.m at hm
  refine Vk.enter [(0, .agg (vals [C.int .i64 x0.kind, C.int .i64 x0.dom, C.int .i64 x0.a, C.int .i64 x0.b, C.int .i64 x0.d, C.int .u64 x0.c]))] Try.func126 rfl Try.ntmps126 (by kernel_rfl) (Nat.le_of_ble_eq_true (by kernel_rfl)) ho fun a hs => ?_
  refine Vk.seq fun K1 hK1 => ?_
  refine Vk.region ?_
  refine Vk.step (Vk.box (x := (.tmp 0)) 1 32 [C.int .i64 x0.kind, C.int .i64 x0.dom, C.int .i64 x0.a, C.int .i64 x0.b, C.int .i64 x0.d, C.int .u64 x0.c] hs (by kernel_rfl) (by kernel_rfl) (by kernel_rfl) fun b_2 w a hs => ?_)
  refine Vk.pures 1 [(2, .bool false)] hs (by kernel_rfl) fun a hs => ?_
  replace hs := hs.pick [1] (L' := [(1, .pointer (some ⟨b_2, 0, none⟩))]) (by kernel_rfl)
  refine Vk.done (by kernel_rfl) ?_
  refine hK1 _ _ ?_
  clear hK1
  refine Vk.seq fun K3 hK3 => ?_
  refine Vk.seq fun K4 hK4 => ?_
  refine Vk.region ?_
  refine Vk.pures 1 [(3, .pointer (some ⟨b_2, 0, none⟩))] hs (by kernel_rfl) fun a hs => ?_
  refine Vk.step (Vk.value (some 4) (.int .i64 x0.kind) hs (by kernel_rfl) (op := (.load 3 (.tmp 3))) (by kernel_rfl) (fun o ho => run_load1 (b := b_2) (off := 0) (c := C.int .i64 x0.kind) ho (by kernel_rfl) (by kernel_rfl) (Cell.own 0 rfl (by kernel_rfl)) _ hs.own) fun a hs => ?_)
  replace hs := hs.pick [1, 4] (L' := [(1, .pointer (some ⟨b_2, 0, none⟩)), (4, .int .i64 x0.kind)]) (by kernel_rfl)
  refine Vk.done (by kernel_rfl) ?_
  refine hK4 _ _ ?_
  clear hK4
  refine wp_block ?_
  refine Vk.seq fun K5 hK5 => ?_
  have hj5 : ∀ (p_8 : Bool), op_constant.j1 k x0 p_8 = some r → ∀ (a : Act) (w : World), St 24 a w κ [(1, .pointer (some ⟨b_2, 0, none⟩)), (4, .int .i64 x0.kind), (5, .bool p_8)] (pt b_2 (blk (Tapi_Op.cells x0) 32) :: S) → K5 a w := by
    intro p_8 hm a w hs
    unfold op_constant.j1 at hm
    refine hK5 _ _ ?_
    refine Vk.condS (b := p_8) hs (by kernel_rfl) (by kernel_rfl) (fun hb => ?_) (fun hb => ?_)
    · replace hm := bif_t hm hb
      refine Vk.seq fun K9 hK9 => ?_
      refine Vk.region ?_
      refine Vk.pures 1 [(9, .pointer (some ⟨b_2, 5, none⟩))] hs (by kernel_rfl) fun a hs => ?_
      refine Vk.step (Vk.value (some 10) (.int .u64 x0.c) hs (by kernel_rfl) (op := (.load 23 (.tmp 9))) (by kernel_rfl) (fun o ho => run_load1 (b := b_2) (off := 5) (c := C.int .u64 x0.c) ho (by kernel_rfl) (by kernel_rfl) (Cell.own 0 rfl (by kernel_rfl)) _ hs.own) fun a hs => ?_)
      refine Vk.pures 2 [(2, .bool (decide (x0.c < 64))), (11, .bool (decide (x0.c < 64)))] hs (by kernel_rfl) fun a hs => ?_
      replace hs := hs.pick [2] (L' := [(2, .bool (decide (x0.c < 64)))]) (by kernel_rfl)
      refine Vk.done (by kernel_rfl) ?_
      refine hK9 _ _ ?_
      clear hK9
      refine wp_ret ?_
      exact Vk.ret1 (P := Try.prog) (fn := Try.f126) (R := op_constant.R κ S x0 r) (.bool (decide (x0.c < 64))) hs rfl (by kernel_rfl) (by obtain rfl := Option.some.inj hm; exact ⟨rfl, (Own.to hs.own [] 1 (by kernel_rfl) (by kernel_rfl))⟩)
    · replace hm := bif_f hm hb
      refine Vk.seq fun K10 hK10 => ?_
      refine Vk.region ?_
      refine Vk.pures 2 [(12, .bool (x0.kind == 2)), (13, .bool (x0.kind == 2))] hs (by kernel_rfl) fun a hs => ?_
      replace hs := hs.pick [1, 4, 12] (L' := [(1, .pointer (some ⟨b_2, 0, none⟩)), (4, .int .i64 x0.kind), (12, .bool (x0.kind == 2))]) (by kernel_rfl)
      refine Vk.done (by kernel_rfl) ?_
      refine hK10 _ _ ?_
      clear hK10
      refine Vk.condS (b := x0.kind == 2) hs (by kernel_rfl) (by kernel_rfl) (fun hb => ?_) (fun hb => ?_)
      · replace hm := bif_t hm hb
        refine Vk.seq fun K11 hK11 => ?_
        refine Vk.region ?_
        refine Vk.pures 1 [(14, .pointer (some ⟨b_2, 5, none⟩))] hs (by kernel_rfl) fun a hs => ?_
        refine Vk.step (Vk.value (some 15) (.int .u64 x0.c) hs (by kernel_rfl) (op := (.load 23 (.tmp 14))) (by kernel_rfl) (fun o ho => run_load1 (b := b_2) (off := 5) (c := C.int .u64 x0.c) ho (by kernel_rfl) (by kernel_rfl) (Cell.own 0 rfl (by kernel_rfl)) _ hs.own) fun a hs => ?_)
        refine Vk.pures 2 [(2, .bool (decide (x0.c < 1048576))), (16, .bool (decide (x0.c < 1048576)))] hs (by kernel_rfl) fun a hs => ?_
        replace hs := hs.pick [2] (L' := [(2, .bool (decide (x0.c < 1048576)))]) (by kernel_rfl)
        refine Vk.done (by kernel_rfl) ?_
        refine hK11 _ _ ?_
        clear hK11
        refine wp_ret ?_
        exact Vk.ret1 (P := Try.prog) (fn := Try.f126) (R := op_constant.R κ S x0 r) (.bool (decide (x0.c < 1048576))) hs rfl (by kernel_rfl) (by obtain rfl := Option.some.inj hm; exact ⟨rfl, (Own.to hs.own [] 1 (by kernel_rfl) (by kernel_rfl))⟩)
      · replace hm := bif_f hm hb
        refine Vk.seq fun K12 hK12 => ?_
        have hj12 : ∀ (p_15 : Bool), op_constant.j2 k x0 p_15 = some r → ∀ (a : Act) (w : World), St 24 a w κ [(1, .pointer (some ⟨b_2, 0, none⟩)), (17, .bool p_15)] (pt b_2 (blk (Tapi_Op.cells x0) 32) :: S) → K12 a w := by
          intro p_15 hm a w hs
          unfold op_constant.j2 at hm
          refine hK12 _ _ ?_
          refine Vk.condS (b := p_15) hs (by kernel_rfl) (by kernel_rfl) (fun hb => ?_) (fun hb => ?_)
          · replace hm := bif_t hm hb
            refine Vk.seq fun K16 hK16 => ?_
            refine Vk.region ?_
            refine Vk.pures 1 [(2, .bool true)] hs (by kernel_rfl) fun a hs => ?_
            replace hs := hs.pick [2] (L' := [(2, .bool true)]) (by kernel_rfl)
            refine Vk.done (by kernel_rfl) ?_
            refine hK16 _ _ ?_
            clear hK16
            refine wp_ret ?_
            exact Vk.ret1 (P := Try.prog) (fn := Try.f126) (R := op_constant.R κ S x0 r) (.bool true) hs rfl (by kernel_rfl) (by obtain rfl := Option.some.inj hm; exact ⟨rfl, (Own.to hs.own [] 1 (by kernel_rfl) (by kernel_rfl))⟩)
          · replace hm := bif_f hm hb
            refine wp_skip ?_
            refine hK3 _ _ ?_
            clear hK3
            refine Vk.seq fun K17 hK17 => ?_
            refine Vk.region ?_
            refine Vk.pures 1 [(21, .pointer (some ⟨b_2, 5, none⟩))] hs (by kernel_rfl) fun a hs => ?_
            refine Vk.step (Vk.value (some 22) (.int .u64 x0.c) hs (by kernel_rfl) (op := (.load 23 (.tmp 21))) (by kernel_rfl) (fun o ho => run_load1 (b := b_2) (off := 5) (c := C.int .u64 x0.c) ho (by kernel_rfl) (by kernel_rfl) (Cell.own 0 rfl (by kernel_rfl)) _ hs.own) fun a hs => ?_)
            refine Vk.pures 2 [(2, .bool (x0.c == 0)), (23, .bool (x0.c == 0))] hs (by kernel_rfl) fun a hs => ?_
            replace hs := hs.pick [2] (L' := [(2, .bool (x0.c == 0))]) (by kernel_rfl)
            refine Vk.done (by kernel_rfl) ?_
            refine hK17 _ _ ?_
            clear hK17
            refine wp_ret ?_
            exact Vk.ret1 (P := Try.prog) (fn := Try.f126) (R := op_constant.R κ S x0 r) (.bool (x0.c == 0)) hs rfl (by kernel_rfl) (by obtain rfl := Option.some.inj hm; exact ⟨rfl, (Own.to hs.own [] 1 (by kernel_rfl) (by kernel_rfl))⟩)
        refine Vk.seq fun K13 hK13 => ?_
        refine Vk.region ?_
        refine Vk.pures 2 [(17, .bool (x0.kind == 3)), (18, .bool (x0.kind == 3))] hs (by kernel_rfl) fun a hs => ?_
        replace hs := hs.pick [1, 4, 17] (L' := [(1, .pointer (some ⟨b_2, 0, none⟩)), (4, .int .i64 x0.kind), (17, .bool (x0.kind == 3))]) (by kernel_rfl)
        refine Vk.done (by kernel_rfl) ?_
        refine hK13 _ _ ?_
        clear hK13
        refine Vk.condS (b := x0.kind == 3) hs (by kernel_rfl) (by kernel_rfl) (fun hb => ?_) (fun hb => ?_)
        · replace hm := bif_t hm hb
          refine wp_skip ?_
          exact hj12 (x0.kind == 3) hm _ _ (hs.go [1, 17] [0] 1 (by kernel_rfl) (by kernel_rfl) (by kernel_rfl))
        · replace hm := bif_f hm hb
          refine Vk.seq fun K14 hK14 => ?_
          refine Vk.region ?_
          refine Vk.pures 2 [(17, .bool (x0.kind == 4)), (19, .bool (x0.kind == 4))] hs (by kernel_rfl) fun a hs => ?_
          replace hs := hs.pick [1, 4, 17] (L' := [(1, .pointer (some ⟨b_2, 0, none⟩)), (4, .int .i64 x0.kind), (17, .bool (x0.kind == 4))]) (by kernel_rfl)
          refine Vk.done (by kernel_rfl) ?_
          refine hK14 _ _ ?_
          clear hK14
          refine Vk.condS (b := x0.kind == 4) hs (by kernel_rfl) (by kernel_rfl) (fun hb => ?_) (fun hb => ?_)
          · replace hm := bif_t hm hb
            refine wp_skip ?_
            exact hj12 (x0.kind == 4) hm _ _ (hs.go [1, 17] [0] 1 (by kernel_rfl) (by kernel_rfl) (by kernel_rfl))
          · replace hm := bif_f hm hb
            refine Vk.region ?_
            refine Vk.pures 2 [(17, .bool (x0.kind == 8)), (20, .bool (x0.kind == 8))] hs (by kernel_rfl) fun a hs => ?_
            replace hs := hs.pick [1, 17] (L' := [(1, .pointer (some ⟨b_2, 0, none⟩)), (17, .bool (x0.kind == 8))]) (by kernel_rfl)
            refine Vk.done (by kernel_rfl) ?_
            exact hj12 (x0.kind == 8) hm _ _ (hs.go [1, 17] [0] 1 (by kernel_rfl) (by kernel_rfl) (by kernel_rfl))
  refine Vk.seq fun K6 hK6 => ?_
  refine Vk.region ?_
  refine Vk.pures 2 [(5, .bool (x0.kind == 9)), (6, .bool (x0.kind == 9))] hs (by kernel_rfl) fun a hs => ?_
  replace hs := hs.pick [1, 4, 5] (L' := [(1, .pointer (some ⟨b_2, 0, none⟩)), (4, .int .i64 x0.kind), (5, .bool (x0.kind == 9))]) (by kernel_rfl)
  refine Vk.done (by kernel_rfl) ?_
  refine hK6 _ _ ?_
  clear hK6
  refine Vk.condS (b := x0.kind == 9) hs (by kernel_rfl) (by kernel_rfl) (fun hb => ?_) (fun hb => ?_)
  · replace hm := bif_t hm hb
    refine wp_skip ?_
    exact hj5 (x0.kind == 9) hm _ _ (hs.go [1, 4, 5] [0] 1 (by kernel_rfl) (by kernel_rfl) (by kernel_rfl))
  · replace hm := bif_f hm hb
    refine Vk.seq fun K7 hK7 => ?_
    refine Vk.region ?_
    refine Vk.pures 2 [(5, .bool (x0.kind == 10)), (7, .bool (x0.kind == 10))] hs (by kernel_rfl) fun a hs => ?_
    replace hs := hs.pick [1, 4, 5] (L' := [(1, .pointer (some ⟨b_2, 0, none⟩)), (4, .int .i64 x0.kind), (5, .bool (x0.kind == 10))]) (by kernel_rfl)
    refine Vk.done (by kernel_rfl) ?_
    refine hK7 _ _ ?_
    clear hK7
    refine Vk.condS (b := x0.kind == 10) hs (by kernel_rfl) (by kernel_rfl) (fun hb => ?_) (fun hb => ?_)
    · replace hm := bif_t hm hb
      refine wp_skip ?_
      exact hj5 (x0.kind == 10) hm _ _ (hs.go [1, 4, 5] [0] 1 (by kernel_rfl) (by kernel_rfl) (by kernel_rfl))
    · replace hm := bif_f hm hb
      refine Vk.region ?_
      refine Vk.pures 2 [(5, .bool (x0.kind == 11)), (8, .bool (x0.kind == 11))] hs (by kernel_rfl) fun a hs => ?_
      replace hs := hs.pick [1, 4, 5] (L' := [(1, .pointer (some ⟨b_2, 0, none⟩)), (4, .int .i64 x0.kind), (5, .bool (x0.kind == 11))]) (by kernel_rfl)
      refine Vk.done (by kernel_rfl) ?_
      exact hj5 (x0.kind == 11) hm _ _ (hs.go [1, 4, 5] [0] 1 (by kernel_rfl) (by kernel_rfl) (by kernel_rfl))


def op_Right.l1 (x0 : Tapi_Op) (x1 : Int) (v_16 : Int) : Nat → Int → Option (Sum (Bool) (Unit))
  | 0, _ => none
  | k + 1, q_20 => (bif decide (q_20 < 3) then (if 0 ≤ q_20 ∧ q_20 < 3 then (getI .i64 [C.int .i64 x0.a, C.int .i64 x0.b, C.int .i64 x0.d] q_20.toNat).bind fun v_27 => (bif decide (q_20 < v_16) then (bif decide (v_27 < 0) then some (.inl false) else (bif decide (v_27 ≥ x1) then some (.inl false) else (bif decide (q_20 ≥ v_16) then (bif v_27 != (-1) then some (.inl false) else op_Right.l1 x0 x1 v_16 k (IntKind.i64.wrap (q_20 + 1))) else op_Right.l1 x0 x1 v_16 k (IntKind.i64.wrap (q_20 + 1))))) else (bif decide (q_20 ≥ v_16) then (bif v_27 != (-1) then some (.inl false) else op_Right.l1 x0 x1 v_16 k (IntKind.i64.wrap (q_20 + 1))) else op_Right.l1 x0 x1 v_16 k (IntKind.i64.wrap (q_20 + 1)))) else none) else some (.inr ()))
def op_Right.j1 (k : Nat) (x0 : Tapi_Op) (x1 : Int) (x2 : Int) (p_11 : Bool) : Option (Bool) := (bif p_11 then some false else (op_Regs.m k x0.kind x2).bind fun v_16 => (op_Right.l1 x0 x1 v_16 k 0).bind fun x => match x with | .inl v => some v | .inr () => (op_constant.m k x0).bind fun v_40 => some v_40)
abbrev op_Right.R (κ : Ctx) (S : List HP) (x0 : Tapi_Op) (x1 : Int) (x2 : Int) (r : Bool) : Ending → World → Prop := fun e w' => e = .returned (.bool r) ∧ Own κ w' (S)
def op_Right.m (k : Nat) (x0 : Tapi_Op) (x1 : Int) (x2 : Int) : Option Bool := (bif (x2 != 2) && (x2 != 3) then op_Right.j1 k x0 x1 x2 true else (op_is.m k x0.kind).bind fun v_8 => (bif ((!v_8) || (decide (x0.dom < (-1)))) || (decide (x0.dom ≥ x2)) then op_Right.j1 k x0 x1 x2 true else (bif x0.kind == 12 then op_Right.j1 k x0 x1 x2 (decide (x0.dom ≥ 0)) else op_Right.j1 k x0 x1 x2 false)))

set_option maxRecDepth 100000 in
set_option maxHeartbeats 4000000 in
theorem op_Right.ok (k : Nat) (x0 : Tapi_Op) (x1 : Int) (x2 : Int) (r : Bool) (hm : op_Right.m k x0 x1 x2 = some r) (κ : Ctx) (w : World) (S : List HP) (ho : Own κ w (S)) :
    Calls Try.prog 115 #[.agg (vals [C.int .i64 x0.kind, C.int .i64 x0.dom, C.int .i64 x0.a, C.int .i64 x0.b, C.int .i64 x0.d, C.int .u64 x0.c]), .int .i64 x1, .int .i64 x2] w (op_Right.R κ S x0 x1 x2 r) := by
  unfold op_Right.m at hm
  refine Vk.enter [(0, .agg (vals [C.int .i64 x0.kind, C.int .i64 x0.dom, C.int .i64 x0.a, C.int .i64 x0.b, C.int .i64 x0.d, C.int .u64 x0.c])), (1, .int .i64 x1), (2, .int .i64 x2)] Try.func115 rfl Try.ntmps115 (by kernel_rfl) (Nat.le_of_ble_eq_true (by kernel_rfl)) ho fun a hs => ?_
  refine Vk.seq fun K1 hK1 => ?_
  refine Vk.region ?_
  refine Vk.step (Vk.box (x := (.tmp 0)) 3 32 [C.int .i64 x0.kind, C.int .i64 x0.dom, C.int .i64 x0.a, C.int .i64 x0.b, C.int .i64 x0.d, C.int .u64 x0.c] hs (by kernel_rfl) (by kernel_rfl) (by kernel_rfl) fun b_2 w a hs => ?_)
  refine Vk.pures 1 [(6, .bool false)] hs (by kernel_rfl) fun a hs => ?_
  replace hs := hs.pick [1, 2, 3] (L' := [(1, .int .i64 x1), (2, .int .i64 x2), (3, .pointer (some ⟨b_2, 0, none⟩))]) (by kernel_rfl)
  refine Vk.done (by kernel_rfl) ?_
  refine hK1 _ _ ?_
  clear hK1
  refine Vk.seq fun K3 hK3 => ?_
  refine Vk.seq fun K4 hK4 => ?_
  have hj4 : ∀ (p_11 : Bool), op_Right.j1 k x0 x1 x2 p_11 = some r → ∀ (a : Act) (w : World), St 82 a w κ [(1, .int .i64 x1), (2, .int .i64 x2), (3, .pointer (some ⟨b_2, 0, none⟩)), (42, .bool p_11)] (pt b_2 (blk (Tapi_Op.cells x0) 32) :: S) → K4 a w := by
    intro p_11 hm a w hs
    unfold op_Right.j1 at hm
    refine hK4 _ _ ?_
    refine Vk.condS (b := p_11) hs (by kernel_rfl) (by kernel_rfl) (fun hb => ?_) (fun hb => ?_)
    · replace hm := bif_t hm hb
      refine Vk.seq fun K12 hK12 => ?_
      refine Vk.region ?_
      refine Vk.pures 1 [(6, .bool false)] hs (by kernel_rfl) fun a hs => ?_
      replace hs := hs.pick [6] (L' := [(6, .bool false)]) (by kernel_rfl)
      refine Vk.done (by kernel_rfl) ?_
      refine hK12 _ _ ?_
      clear hK12
      refine wp_ret ?_
      exact Vk.ret1 (P := Try.prog) (fn := Try.f115) (R := op_Right.R κ S x0 x1 x2 r) (.bool false) hs rfl (by kernel_rfl) (by obtain rfl := Option.some.inj hm; exact ⟨rfl, (Own.to hs.own [] 1 (by kernel_rfl) (by kernel_rfl))⟩)
    · replace hm := bif_f hm hb
      refine wp_skip ?_
      refine hK3 _ _ ?_
      clear hK3
      refine Vk.seq fun K13 hK13 => ?_
      refine Vk.region ?_
      refine Vk.pures 1 [(43, .pointer (some ⟨b_2, 0, none⟩))] hs (by kernel_rfl) fun a hs => ?_
      refine Vk.step (Vk.value (some 44) (.int .i64 x0.kind) hs (by kernel_rfl) (op := (.load 3 (.tmp 43))) (by kernel_rfl) (fun o ho => run_load1 (b := b_2) (off := 0) (c := C.int .i64 x0.kind) ho (by kernel_rfl) (by kernel_rfl) (Cell.own 0 rfl (by kernel_rfl)) _ hs.own) fun a hs => ?_)
      refine Vk.pures 1 [(45, .int .i64 x2)] hs (by kernel_rfl) fun a hs => ?_
      obtain ⟨v_16, h_15, hm⟩ := bind_t hm
      refine Vk.step (Vk.call (some 46) 125 #[.int .i64 x0.kind, .int .i64 x2] hs (by kernel_rfl) (by kernel_rfl) (by kernel_rfl) ?_)
      refine (op_Regs.ok k x0.kind x2 v_16 h_15 κ w (pt b_2 (blk (Tapi_Op.cells x0) 32) :: S) hs.own).mono ?_
      rintro _ w ⟨rfl, how⟩
      refine ⟨_, _, _, rfl, how, fun a hs => ?_⟩
      refine Vk.pures 1 [(7, .int .i64 v_16)] hs (by kernel_rfl) fun a hs => ?_
      replace hs := hs.pick [1, 3, 7] (L' := [(1, .int .i64 x1), (3, .pointer (some ⟨b_2, 0, none⟩)), (7, .int .i64 v_16)]) (by kernel_rfl)
      refine Vk.done (by kernel_rfl) ?_
      refine hK13 _ _ ?_
      clear hK13
      refine Vk.seq fun K17 hK17 => ?_
      refine Vk.seq fun K18 hK18 => ?_
      refine Vk.region ?_
      refine Vk.pures 1 [(47, .pointer (some ⟨b_2, 2, none⟩))] hs (by kernel_rfl) fun a hs => ?_
      refine Vk.step (Vk.value (some 48) (.int .i64 x0.a) hs (by kernel_rfl) (op := (.load 3 (.tmp 47))) (by kernel_rfl) (fun o ho => run_load1 (b := b_2) (off := 2) (c := C.int .i64 x0.a) ho (by kernel_rfl) (by kernel_rfl) (Cell.own 0 rfl (by kernel_rfl)) _ hs.own) fun a hs => ?_)
      refine Vk.pures 1 [(49, .pointer (some ⟨b_2, 3, none⟩))] hs (by kernel_rfl) fun a hs => ?_
      refine Vk.step (Vk.value (some 50) (.int .i64 x0.b) hs (by kernel_rfl) (op := (.load 3 (.tmp 49))) (by kernel_rfl) (fun o ho => run_load1 (b := b_2) (off := 3) (c := C.int .i64 x0.b) ho (by kernel_rfl) (by kernel_rfl) (Cell.own 0 rfl (by kernel_rfl)) _ hs.own) fun a hs => ?_)
      refine Vk.pures 1 [(51, .pointer (some ⟨b_2, 4, none⟩))] hs (by kernel_rfl) fun a hs => ?_
      refine Vk.step (Vk.value (some 52) (.int .i64 x0.d) hs (by kernel_rfl) (op := (.load 3 (.tmp 51))) (by kernel_rfl) (fun o ho => run_load1 (b := b_2) (off := 4) (c := C.int .i64 x0.d) ho (by kernel_rfl) (by kernel_rfl) (Cell.own 0 rfl (by kernel_rfl)) _ hs.own) fun a hs => ?_)
      refine Vk.pures 2 [(54, .int .i64 0), (53, .agg (vals [C.int .i64 x0.a, C.int .i64 x0.b, C.int .i64 x0.d]))] hs (by kernel_rfl) fun a hs => ?_
      replace hs := hs.pick [1, 3, 7, 53, 54] (L' := [(1, .int .i64 x1), (3, .pointer (some ⟨b_2, 0, none⟩)), (7, .int .i64 v_16), (53, .agg (vals [C.int .i64 x0.a, C.int .i64 x0.b, C.int .i64 x0.d])), (54, .int .i64 0)]) (by kernel_rfl)
      refine Vk.done (by kernel_rfl) ?_
      refine hK18 _ _ ?_
      clear hK18
      refine wp_block ?_
      obtain ⟨r19, hl19, hm⟩ := bind_t hm
      have hx19 : r19 = Sum.inr () → ∀ (a : Act) (w : World), St 82 a w κ [(3, .pointer (some ⟨b_2, 0, none⟩))] (pt b_2 (blk (Tapi_Op.cells x0) 32) :: S) → K17 a w := by
        intro he a w hs
        subst r19
        refine hK17 _ _ ?_
        clear hK17
        refine Vk.seq fun K37 hK37 => ?_
        refine Vk.region ?_
        refine Vk.step (Vk.value (some 80) (.agg (vals [C.int .i64 x0.kind, C.int .i64 x0.dom, C.int .i64 x0.a, C.int .i64 x0.b, C.int .i64 x0.d, C.int .u64 x0.c])) hs (by kernel_rfl) (op := (.load 32 (.tmp 3))) (by kernel_rfl) (fun o ho => run_loadN (cs := [C.int .i64 x0.kind, C.int .i64 x0.dom, C.int .i64 x0.a, C.int .i64 x0.b, C.int .i64 x0.d, C.int .u64 x0.c]) ho (by kernel_rfl) (by kernel_rfl) rfl (CellsAt.all 0 rfl) _ hs.own) fun a hs => ?_)
        obtain ⟨v_40, h_39, hm⟩ := bind_t hm
        refine Vk.step (Vk.call (some 81) 126 #[.agg (vals [C.int .i64 x0.kind, C.int .i64 x0.dom, C.int .i64 x0.a, C.int .i64 x0.b, C.int .i64 x0.d, C.int .u64 x0.c])] hs (by kernel_rfl) (by kernel_rfl) (by kernel_rfl) ?_)
        refine (op_constant.ok k x0 v_40 h_39 κ w (pt b_2 (blk (Tapi_Op.cells x0) 32) :: S) hs.own).mono ?_
        rintro _ w ⟨rfl, how⟩
        refine ⟨_, _, _, rfl, how, fun a hs => ?_⟩
        refine Vk.pures 1 [(6, .bool v_40)] hs (by kernel_rfl) fun a hs => ?_
        replace hs := hs.pick [6] (L' := [(6, .bool v_40)]) (by kernel_rfl)
        refine Vk.done (by kernel_rfl) ?_
        refine hK37 _ _ ?_
        clear hK37
        refine wp_ret ?_
        exact Vk.ret1 (P := Try.prog) (fn := Try.f115) (R := op_Right.R κ S x0 x1 x2 r) (.bool v_40) hs rfl (by kernel_rfl) (by obtain rfl := Option.some.inj hm; exact ⟨rfl, (Own.to hs.own [] 1 (by kernel_rfl) (by kernel_rfl))⟩)
      have hret19 : ∀ v, r19 = Sum.inl v → v = r := by intro v he; subst r19; exact Option.some.inj hm
      refine Vk.loopBy (fun k (s : Int) a w => op_Right.l1 x0 x1 v_16 k s = some r19 ∧ St 82 a w κ [(1, .int .i64 x1), (3, .pointer (some ⟨b_2, 0, none⟩)), (7, .int .i64 v_16), (53, .agg (vals [C.int .i64 x0.a, C.int .i64 x0.b, C.int .i64 x0.d])), (54, .int .i64 s)] (pt b_2 (blk (Tapi_Op.cells x0) 32) :: S)) k 0 ⟨hl19, hs.go [1, 3, 7, 53, 54] [0] 1 (by kernel_rfl) (by kernel_rfl) (by kernel_rfl)⟩ (fun s a w h => by obtain ⟨h1, _⟩ := h; simp [op_Right.l1] at h1) (fun k KL19 ih q_20 a w h => ?_)
      obtain ⟨hm, hs⟩ := h
      try dsimp only at hm hs
      rw [op_Right.l1] at hm
      refine Vk.seq fun K21 hK21 => ?_
      refine Vk.region ?_
      refine Vk.pures 1 [(55, .bool (decide (q_20 < 3)))] hs (by kernel_rfl) fun a hs => ?_
      replace hs := hs.pick [1, 3, 7, 53, 54, 55] (L' := [(1, .int .i64 x1), (3, .pointer (some ⟨b_2, 0, none⟩)), (7, .int .i64 v_16), (53, .agg (vals [C.int .i64 x0.a, C.int .i64 x0.b, C.int .i64 x0.d])), (54, .int .i64 q_20), (55, .bool (decide (q_20 < 3)))]) (by kernel_rfl)
      refine Vk.done (by kernel_rfl) ?_
      refine hK21 _ _ ?_
      clear hK21
      refine Vk.seq fun K22 hK22 => ?_
      refine Vk.condS (b := decide (q_20 < 3)) hs (by kernel_rfl) (by kernel_rfl) (fun hb => ?_) (fun hb => ?_)
      · replace hm := bif_t hm hb
        refine wp_skip ?_
        refine hK22 _ _ ?_
        clear hK22
        refine Vk.seq fun K23 hK23 => ?_
        refine wp_block ?_
        refine Vk.seq fun K24 hK24 => ?_
        refine Vk.region ?_
        refine Vk.pures 1 [(56, .int .i64 q_20)] hs (by kernel_rfl) fun a hs => ?_
        obtain ⟨h_25, hm⟩ := ite_t hm
        obtain ⟨v_27, h_26, hm⟩ := bind_t hm
        refine Vk.step (Vk.value (some 57) (.int .i64 v_27) hs (by kernel_rfl) (op := (.index 63 (.tmp 53) (.tmp 54))) (by kernel_rfl) (fun o ho => run_idxVal (k := .i64) (cs := [C.int .i64 x0.a, C.int .i64 x0.b, C.int .i64 x0.d]) (c := C.int .i64 v_27) ho (by kernel_rfl) (by kernel_rfl) (len := 3) (et := 3) (by kernel_rfl) (by kernel_rfl) (by kernel_rfl) (by kernel_rfl) h_25 (getI_some h_26) _) fun a hs => ?_)
        refine Vk.pures 2 [(9, .int .i64 v_27), (8, .int .i64 q_20)] hs (by kernel_rfl) fun a hs => ?_
        replace hs := hs.pick [1, 3, 7, 8, 9, 53, 54] (L' := [(1, .int .i64 x1), (3, .pointer (some ⟨b_2, 0, none⟩)), (7, .int .i64 v_16), (8, .int .i64 q_20), (9, .int .i64 v_27), (53, .agg (vals [C.int .i64 x0.a, C.int .i64 x0.b, C.int .i64 x0.d])), (54, .int .i64 q_20)]) (by kernel_rfl)
        refine Vk.done (by kernel_rfl) ?_
        refine hK24 _ _ ?_
        clear hK24
        refine Vk.seq fun K28 hK28 => ?_
        refine Vk.region ?_
        refine Vk.pures 4 [(61, .bool (decide (q_20 < v_16))), (60, .bool (decide (q_20 < v_16))), (59, .int .i64 v_16), (58, .int .i64 q_20)] hs (by kernel_rfl) fun a hs => ?_
        rcases Bool.eq_false_or_eq_true (decide (q_20 < v_16)) with hb | hb
        · replace hm := bif_t hm hb
          replace hs := hs.known (t := 61) hb (by kernel_rfl)
          refine Vk.pures 3 [(64, .bool (decide (v_27 < 0))), (63, .bool (decide (v_27 < 0))), (62, .int .i64 v_27)] hs (by kernel_rfl) fun a hs => ?_
          rcases Bool.eq_false_or_eq_true (decide (v_27 < 0)) with hb | hb
          · replace hm := bif_t hm hb
            replace hs := hs.known (t := 64) hb (by kernel_rfl)
            refine Vk.pures 14 [(78, .bool true), (77, undef), (76, undef), (75, undef), (74, undef), (73, undef), (72, undef), (71, undef), (70, .bool true), (69, .bool true), (68, .bool true), (67, undef), (66, undef), (65, undef)] hs (by kernel_rfl) fun a hs => ?_
            replace hs := hs.pick [1, 3, 7, 53, 54, 62, 63, 64, 68, 78] (L' := [(1, .int .i64 x1), (3, .pointer (some ⟨b_2, 0, none⟩)), (7, .int .i64 v_16), (53, .agg (vals [C.int .i64 x0.a, C.int .i64 x0.b, C.int .i64 x0.d])), (54, .int .i64 q_20), (62, .int .i64 v_27), (63, .bool (decide (v_27 < 0))), (64, .bool true), (68, .bool true), (78, .bool true)]) (by kernel_rfl)
            refine Vk.done (by kernel_rfl) ?_
            refine hK28 _ _ ?_
            refine Vk.condT hs (by kernel_rfl) (by kernel_rfl) ?_
            refine Vk.seq fun K29 hK29 => ?_
            refine Vk.region ?_
            refine Vk.pures 1 [(6, .bool false)] hs (by kernel_rfl) fun a hs => ?_
            replace hs := hs.pick [6] (L' := [(6, .bool false)]) (by kernel_rfl)
            refine Vk.done (by kernel_rfl) ?_
            refine hK29 _ _ ?_
            clear hK29
            refine wp_ret ?_
            exact Vk.ret1 (P := Try.prog) (fn := Try.f115) (R := op_Right.R κ S x0 x1 x2 r) (.bool false) hs rfl (by kernel_rfl) (by obtain rfl := hret19 _ ((Option.some.inj hm).symm); exact ⟨rfl, (Own.to hs.own [] 1 (by kernel_rfl) (by kernel_rfl))⟩)
          · replace hm := bif_f hm hb
            replace hs := hs.known (t := 64) hb (by kernel_rfl)
            refine Vk.pures 6 [(70, .bool (decide (v_27 ≥ x1))), (69, .bool (decide (v_27 ≥ x1))), (68, .bool (decide (v_27 ≥ x1))), (67, .bool (decide (v_27 ≥ x1))), (66, .int .i64 x1), (65, .int .i64 v_27)] hs (by kernel_rfl) fun a hs => ?_
            rcases Bool.eq_false_or_eq_true (decide (v_27 ≥ x1)) with hb | hb
            · replace hm := bif_t hm hb
              replace hs := hs.known (t := 70) hb (by kernel_rfl)
              refine Vk.pures 8 [(78, .bool true), (77, undef), (76, undef), (75, undef), (74, undef), (73, undef), (72, undef), (71, undef)] hs (by kernel_rfl) fun a hs => ?_
              replace hs := hs.pick [1, 3, 7, 53, 54, 62, 63, 64, 65, 66, 67, 68, 78] (L' := [(1, .int .i64 x1), (3, .pointer (some ⟨b_2, 0, none⟩)), (7, .int .i64 v_16), (53, .agg (vals [C.int .i64 x0.a, C.int .i64 x0.b, C.int .i64 x0.d])), (54, .int .i64 q_20), (62, .int .i64 v_27), (63, .bool (decide (v_27 < 0))), (64, .bool false), (65, .int .i64 v_27), (66, .int .i64 x1), (67, .bool (decide (v_27 ≥ x1))), (68, .bool (decide (v_27 ≥ x1))), (78, .bool true)]) (by kernel_rfl)
              refine Vk.done (by kernel_rfl) ?_
              refine hK28 _ _ ?_
              refine Vk.condT hs (by kernel_rfl) (by kernel_rfl) ?_
              refine Vk.seq fun K30 hK30 => ?_
              refine Vk.region ?_
              refine Vk.pures 1 [(6, .bool false)] hs (by kernel_rfl) fun a hs => ?_
              replace hs := hs.pick [6] (L' := [(6, .bool false)]) (by kernel_rfl)
              refine Vk.done (by kernel_rfl) ?_
              refine hK30 _ _ ?_
              clear hK30
              refine wp_ret ?_
              exact Vk.ret1 (P := Try.prog) (fn := Try.f115) (R := op_Right.R κ S x0 x1 x2 r) (.bool false) hs rfl (by kernel_rfl) (by obtain rfl := hret19 _ ((Option.some.inj hm).symm); exact ⟨rfl, (Own.to hs.own [] 1 (by kernel_rfl) (by kernel_rfl))⟩)
            · replace hm := bif_f hm hb
              replace hs := hs.known (t := 70) hb (by kernel_rfl)
              refine Vk.pures 4 [(74, .bool (decide (q_20 ≥ v_16))), (73, .bool (decide (q_20 ≥ v_16))), (72, .int .i64 v_16), (71, .int .i64 q_20)] hs (by kernel_rfl) fun a hs => ?_
              rcases Bool.eq_false_or_eq_true (decide (q_20 ≥ v_16)) with hb | hb
              · replace hm := bif_t hm hb
                replace hs := hs.known (t := 74) hb (by kernel_rfl)
                refine Vk.pures 4 [(78, .bool (v_27 != (-1))), (77, .bool (v_27 != (-1))), (76, .bool (v_27 != (-1))), (75, .int .i64 v_27)] hs (by kernel_rfl) fun a hs => ?_
                replace hs := hs.pick [1, 3, 7, 53, 54, 62, 63, 64, 65, 66, 67, 68, 71, 72, 73, 74, 75, 76, 77, 78] (L' := [(1, .int .i64 x1), (3, .pointer (some ⟨b_2, 0, none⟩)), (7, .int .i64 v_16), (53, .agg (vals [C.int .i64 x0.a, C.int .i64 x0.b, C.int .i64 x0.d])), (54, .int .i64 q_20), (62, .int .i64 v_27), (63, .bool (decide (v_27 < 0))), (64, .bool false), (65, .int .i64 v_27), (66, .int .i64 x1), (67, .bool (decide (v_27 ≥ x1))), (68, .bool (decide (v_27 ≥ x1))), (71, .int .i64 q_20), (72, .int .i64 v_16), (73, .bool (decide (q_20 ≥ v_16))), (74, .bool true), (75, .int .i64 v_27), (76, .bool (v_27 != (-1))), (77, .bool (v_27 != (-1))), (78, .bool (v_27 != (-1)))]) (by kernel_rfl)
                refine Vk.done (by kernel_rfl) ?_
                refine hK28 _ _ ?_
                refine Vk.condS (b := v_27 != (-1)) hs (by kernel_rfl) (by kernel_rfl) (fun hb => ?_) (fun hb => ?_)
                · replace hm := bif_t hm hb
                  refine Vk.seq fun K31 hK31 => ?_
                  refine Vk.region ?_
                  refine Vk.pures 1 [(6, .bool false)] hs (by kernel_rfl) fun a hs => ?_
                  replace hs := hs.pick [6] (L' := [(6, .bool false)]) (by kernel_rfl)
                  refine Vk.done (by kernel_rfl) ?_
                  refine hK31 _ _ ?_
                  clear hK31
                  refine wp_ret ?_
                  exact Vk.ret1 (P := Try.prog) (fn := Try.f115) (R := op_Right.R κ S x0 x1 x2 r) (.bool false) hs rfl (by kernel_rfl) (by obtain rfl := hret19 _ ((Option.some.inj hm).symm); exact ⟨rfl, (Own.to hs.own [] 1 (by kernel_rfl) (by kernel_rfl))⟩)
                · replace hm := bif_f hm hb
                  refine wp_skip ?_
                  refine hK23 _ _ ?_
                  refine Vk.region ?_
                  refine Vk.pures 2 [(54, .int .i64 (IntKind.i64.wrap (q_20 + 1))), (79, .int .i64 (IntKind.i64.wrap (q_20 + 1)))] hs (by kernel_rfl) fun a hs => ?_
                  replace hs := hs.pick [1, 3, 7, 53, 54, 62, 63, 64, 65, 66, 67, 68, 71, 72, 73, 74, 75, 76, 77] (L' := [(1, .int .i64 x1), (3, .pointer (some ⟨b_2, 0, none⟩)), (7, .int .i64 v_16), (53, .agg (vals [C.int .i64 x0.a, C.int .i64 x0.b, C.int .i64 x0.d])), (54, .int .i64 (IntKind.i64.wrap (q_20 + 1))), (62, .int .i64 v_27), (63, .bool (decide (v_27 < 0))), (64, .bool false), (65, .int .i64 v_27), (66, .int .i64 x1), (67, .bool (decide (v_27 ≥ x1))), (68, .bool (decide (v_27 ≥ x1))), (71, .int .i64 q_20), (72, .int .i64 v_16), (73, .bool (decide (q_20 ≥ v_16))), (74, .bool true), (75, .int .i64 v_27), (76, .bool (v_27 != (-1))), (77, .bool (v_27 != (-1)))]) (by kernel_rfl)
                  refine Vk.done (by kernel_rfl) ?_
                  refine ih (IntKind.i64.wrap (q_20 + 1)) _ _ ⟨hm, hs.go [1, 3, 7, 53, 54] [0] 1 (by kernel_rfl) (by kernel_rfl) (by kernel_rfl)⟩
              · replace hm := bif_f hm hb
                replace hs := hs.known (t := 74) hb (by kernel_rfl)
                refine Vk.pures 4 [(78, .bool false), (77, .bool false), (76, undef), (75, undef)] hs (by kernel_rfl) fun a hs => ?_
                replace hs := hs.pick [1, 3, 7, 53, 54, 62, 63, 64, 65, 66, 67, 68, 71, 72, 73, 74, 77, 78] (L' := [(1, .int .i64 x1), (3, .pointer (some ⟨b_2, 0, none⟩)), (7, .int .i64 v_16), (53, .agg (vals [C.int .i64 x0.a, C.int .i64 x0.b, C.int .i64 x0.d])), (54, .int .i64 q_20), (62, .int .i64 v_27), (63, .bool (decide (v_27 < 0))), (64, .bool false), (65, .int .i64 v_27), (66, .int .i64 x1), (67, .bool (decide (v_27 ≥ x1))), (68, .bool (decide (v_27 ≥ x1))), (71, .int .i64 q_20), (72, .int .i64 v_16), (73, .bool (decide (q_20 ≥ v_16))), (74, .bool false), (77, .bool false), (78, .bool false)]) (by kernel_rfl)
                refine Vk.done (by kernel_rfl) ?_
                refine hK28 _ _ ?_
                refine Vk.condF hs (by kernel_rfl) (by kernel_rfl) ?_
                refine wp_skip ?_
                refine hK23 _ _ ?_
                refine Vk.region ?_
                refine Vk.pures 2 [(54, .int .i64 (IntKind.i64.wrap (q_20 + 1))), (79, .int .i64 (IntKind.i64.wrap (q_20 + 1)))] hs (by kernel_rfl) fun a hs => ?_
                replace hs := hs.pick [1, 3, 7, 53, 54, 62, 63, 64, 65, 66, 67, 68, 71, 72, 73, 74, 77] (L' := [(1, .int .i64 x1), (3, .pointer (some ⟨b_2, 0, none⟩)), (7, .int .i64 v_16), (53, .agg (vals [C.int .i64 x0.a, C.int .i64 x0.b, C.int .i64 x0.d])), (54, .int .i64 (IntKind.i64.wrap (q_20 + 1))), (62, .int .i64 v_27), (63, .bool (decide (v_27 < 0))), (64, .bool false), (65, .int .i64 v_27), (66, .int .i64 x1), (67, .bool (decide (v_27 ≥ x1))), (68, .bool (decide (v_27 ≥ x1))), (71, .int .i64 q_20), (72, .int .i64 v_16), (73, .bool (decide (q_20 ≥ v_16))), (74, .bool false), (77, .bool false)]) (by kernel_rfl)
                refine Vk.done (by kernel_rfl) ?_
                refine ih (IntKind.i64.wrap (q_20 + 1)) _ _ ⟨hm, hs.go [1, 3, 7, 53, 54] [0] 1 (by kernel_rfl) (by kernel_rfl) (by kernel_rfl)⟩
        · replace hm := bif_f hm hb
          replace hs := hs.known (t := 61) hb (by kernel_rfl)
          refine Vk.pures 13 [(74, .bool (decide (q_20 ≥ v_16))), (73, .bool (decide (q_20 ≥ v_16))), (72, .int .i64 v_16), (71, .int .i64 q_20), (70, .bool false), (69, .bool false), (68, undef), (67, undef), (66, undef), (65, undef), (64, undef), (63, undef), (62, undef)] hs (by kernel_rfl) fun a hs => ?_
          rcases Bool.eq_false_or_eq_true (decide (q_20 ≥ v_16)) with hb | hb
          · replace hm := bif_t hm hb
            replace hs := hs.known (t := 74) hb (by kernel_rfl)
            refine Vk.pures 4 [(78, .bool (v_27 != (-1))), (77, .bool (v_27 != (-1))), (76, .bool (v_27 != (-1))), (75, .int .i64 v_27)] hs (by kernel_rfl) fun a hs => ?_
            replace hs := hs.pick [1, 3, 7, 53, 54, 71, 72, 73, 74, 75, 76, 77, 78] (L' := [(1, .int .i64 x1), (3, .pointer (some ⟨b_2, 0, none⟩)), (7, .int .i64 v_16), (53, .agg (vals [C.int .i64 x0.a, C.int .i64 x0.b, C.int .i64 x0.d])), (54, .int .i64 q_20), (71, .int .i64 q_20), (72, .int .i64 v_16), (73, .bool (decide (q_20 ≥ v_16))), (74, .bool true), (75, .int .i64 v_27), (76, .bool (v_27 != (-1))), (77, .bool (v_27 != (-1))), (78, .bool (v_27 != (-1)))]) (by kernel_rfl)
            refine Vk.done (by kernel_rfl) ?_
            refine hK28 _ _ ?_
            refine Vk.condS (b := v_27 != (-1)) hs (by kernel_rfl) (by kernel_rfl) (fun hb => ?_) (fun hb => ?_)
            · replace hm := bif_t hm hb
              refine Vk.seq fun K32 hK32 => ?_
              refine Vk.region ?_
              refine Vk.pures 1 [(6, .bool false)] hs (by kernel_rfl) fun a hs => ?_
              replace hs := hs.pick [6] (L' := [(6, .bool false)]) (by kernel_rfl)
              refine Vk.done (by kernel_rfl) ?_
              refine hK32 _ _ ?_
              clear hK32
              refine wp_ret ?_
              exact Vk.ret1 (P := Try.prog) (fn := Try.f115) (R := op_Right.R κ S x0 x1 x2 r) (.bool false) hs rfl (by kernel_rfl) (by obtain rfl := hret19 _ ((Option.some.inj hm).symm); exact ⟨rfl, (Own.to hs.own [] 1 (by kernel_rfl) (by kernel_rfl))⟩)
            · replace hm := bif_f hm hb
              refine wp_skip ?_
              refine hK23 _ _ ?_
              refine Vk.region ?_
              refine Vk.pures 2 [(54, .int .i64 (IntKind.i64.wrap (q_20 + 1))), (79, .int .i64 (IntKind.i64.wrap (q_20 + 1)))] hs (by kernel_rfl) fun a hs => ?_
              replace hs := hs.pick [1, 3, 7, 53, 54, 71, 72, 73, 74, 75, 76, 77] (L' := [(1, .int .i64 x1), (3, .pointer (some ⟨b_2, 0, none⟩)), (7, .int .i64 v_16), (53, .agg (vals [C.int .i64 x0.a, C.int .i64 x0.b, C.int .i64 x0.d])), (54, .int .i64 (IntKind.i64.wrap (q_20 + 1))), (71, .int .i64 q_20), (72, .int .i64 v_16), (73, .bool (decide (q_20 ≥ v_16))), (74, .bool true), (75, .int .i64 v_27), (76, .bool (v_27 != (-1))), (77, .bool (v_27 != (-1)))]) (by kernel_rfl)
              refine Vk.done (by kernel_rfl) ?_
              refine ih (IntKind.i64.wrap (q_20 + 1)) _ _ ⟨hm, hs.go [1, 3, 7, 53, 54] [0] 1 (by kernel_rfl) (by kernel_rfl) (by kernel_rfl)⟩
          · replace hm := bif_f hm hb
            replace hs := hs.known (t := 74) hb (by kernel_rfl)
            refine Vk.pures 4 [(78, .bool false), (77, .bool false), (76, undef), (75, undef)] hs (by kernel_rfl) fun a hs => ?_
            replace hs := hs.pick [1, 3, 7, 53, 54, 71, 72, 73, 74, 77, 78] (L' := [(1, .int .i64 x1), (3, .pointer (some ⟨b_2, 0, none⟩)), (7, .int .i64 v_16), (53, .agg (vals [C.int .i64 x0.a, C.int .i64 x0.b, C.int .i64 x0.d])), (54, .int .i64 q_20), (71, .int .i64 q_20), (72, .int .i64 v_16), (73, .bool (decide (q_20 ≥ v_16))), (74, .bool false), (77, .bool false), (78, .bool false)]) (by kernel_rfl)
            refine Vk.done (by kernel_rfl) ?_
            refine hK28 _ _ ?_
            refine Vk.condF hs (by kernel_rfl) (by kernel_rfl) ?_
            refine wp_skip ?_
            refine hK23 _ _ ?_
            refine Vk.region ?_
            refine Vk.pures 2 [(54, .int .i64 (IntKind.i64.wrap (q_20 + 1))), (79, .int .i64 (IntKind.i64.wrap (q_20 + 1)))] hs (by kernel_rfl) fun a hs => ?_
            replace hs := hs.pick [1, 3, 7, 53, 54, 71, 72, 73, 74, 77] (L' := [(1, .int .i64 x1), (3, .pointer (some ⟨b_2, 0, none⟩)), (7, .int .i64 v_16), (53, .agg (vals [C.int .i64 x0.a, C.int .i64 x0.b, C.int .i64 x0.d])), (54, .int .i64 (IntKind.i64.wrap (q_20 + 1))), (71, .int .i64 q_20), (72, .int .i64 v_16), (73, .bool (decide (q_20 ≥ v_16))), (74, .bool false), (77, .bool false)]) (by kernel_rfl)
            refine Vk.done (by kernel_rfl) ?_
            refine ih (IntKind.i64.wrap (q_20 + 1)) _ _ ⟨hm, hs.go [1, 3, 7, 53, 54] [0] 1 (by kernel_rfl) (by kernel_rfl) (by kernel_rfl)⟩
      · replace hm := bif_f hm hb
        refine wp_exit ?_
        exact hx19 (Option.some.inj hm).symm _ _ (hs.go [3] [0] 1 (by kernel_rfl) (by kernel_rfl) (by kernel_rfl))
  refine Vk.region ?_
  refine Vk.pures 3 [(12, .bool (x2 != 2)), (11, .bool (x2 != 2)), (10, .int .i64 x2)] hs (by kernel_rfl) fun a hs => ?_
  suffices hj_5 : ∀ a, St 82 a w κ [(1, .int .i64 x1), (2, .int .i64 x2), (3, .pointer (some ⟨b_2, 0, none⟩)), (10, .int .i64 x2), (11, .bool (x2 != 2)), (12, .bool (x2 != 2)), (15, .bool ((x2 != 2) && (x2 != 3)))] (pt b_2 (blk (Tapi_Op.cells x0) 32) :: S) → wpFrom Try.prog _ _ 6 a w by
    rcases Bool.eq_false_or_eq_true (x2 != 2) with hb | hb
    · replace hs := hs.known (t := 12) hb (by kernel_rfl)
      refine Vk.pures 3 [(15, .bool (x2 != 3)), (14, .bool (x2 != 3)), (13, .int .i64 x2)] hs (by kernel_rfl) fun a hs => ?_
      have hq := hs.pick [1, 2, 3, 10, 11, 12, 15] (L' := [(1, .int .i64 x1), (2, .int .i64 x2), (3, .pointer (some ⟨b_2, 0, none⟩)), (10, .int .i64 x2), (11, .bool (x2 != 2)), (12, .bool true), (15, .bool (x2 != 3))]) (by kernel_rfl)
      exact hj_5 _ (hq.conv (by first | (rw [hb] <;> rfl) | rfl))
    · replace hs := hs.known (t := 12) hb (by kernel_rfl)
      refine Vk.pures 3 [(15, .bool false), (14, undef), (13, undef)] hs (by kernel_rfl) fun a hs => ?_
      have hq := hs.pick [1, 2, 3, 10, 11, 12, 15] (L' := [(1, .int .i64 x1), (2, .int .i64 x2), (3, .pointer (some ⟨b_2, 0, none⟩)), (10, .int .i64 x2), (11, .bool (x2 != 2)), (12, .bool false), (15, .bool false)]) (by kernel_rfl)
      exact hj_5 _ (hq.conv (by first | (rw [hb] <;> rfl) | rfl))
  intro a hs
  refine Vk.pures 1 [(16, .bool ((x2 != 2) && (x2 != 3)))] hs (by kernel_rfl) fun a hs => ?_
  rcases Bool.eq_false_or_eq_true ((x2 != 2) && (x2 != 3)) with hb | hb
  · replace hm := bif_t hm hb
    replace hs := hs.known (t := 16) hb (by kernel_rfl)
    refine Vk.pures 26 [(42, .bool true), (41, undef), (40, undef), (39, undef), (38, undef), (37, undef), (36, undef), (35, undef), (34, undef), (33, .bool true), (32, .bool true), (31, undef), (30, undef), (29, undef), (28, undef), (27, .bool true), (26, .bool true), (25, undef), (24, undef), (23, undef), (22, .bool true), (21, .bool true), (20, undef), (19, undef), (18, undef), (17, undef)] hs (by kernel_rfl) fun a hs => ?_
    replace hs := hs.pick [1, 2, 3, 42] (L' := [(1, .int .i64 x1), (2, .int .i64 x2), (3, .pointer (some ⟨b_2, 0, none⟩)), (42, .bool true)]) (by kernel_rfl)
    refine Vk.done (by kernel_rfl) ?_
    exact hj4 true hm _ _ (hs.go [1, 2, 3, 42] [0] 1 (by kernel_rfl) (by kernel_rfl) (by kernel_rfl))
  · replace hm := bif_f hm hb
    replace hs := hs.known (t := 16) hb (by kernel_rfl)
    refine Vk.pures 1 [(17, .pointer (some ⟨b_2, 0, none⟩))] hs (by kernel_rfl) fun a hs => ?_
    refine Vk.step (Vk.value (some 18) (.int .i64 x0.kind) hs (by kernel_rfl) (op := (.load 3 (.tmp 17))) (by kernel_rfl) (fun o ho => run_load1 (b := b_2) (off := 0) (c := C.int .i64 x0.kind) ho (by kernel_rfl) (by kernel_rfl) (Cell.own 0 rfl (by kernel_rfl)) _ hs.own) fun a hs => ?_)
    obtain ⟨v_8, h_7, hm⟩ := bind_t hm
    refine Vk.step (Vk.call (some 19) 112 #[.int .i64 x0.kind] hs (by kernel_rfl) (by kernel_rfl) (by kernel_rfl) ?_)
    refine (op_is.ok k x0.kind v_8 h_7 κ w (pt b_2 (blk (Tapi_Op.cells x0) 32) :: S) hs.own).mono ?_
    rintro _ w ⟨rfl, how⟩
    refine ⟨_, _, _, rfl, how, fun a hs => ?_⟩
    refine Vk.pures 3 [(22, .bool (!v_8)), (21, .bool (!v_8)), (20, .bool (!v_8))] hs (by kernel_rfl) fun a hs => ?_
    suffices hj_9 : ∀ a, St 82 a w κ [(1, .int .i64 x1), (2, .int .i64 x2), (3, .pointer (some ⟨b_2, 0, none⟩)), (10, .int .i64 x2), (11, .bool (x2 != 2)), (12, .bool (x2 != 2)), (15, .bool ((x2 != 2) && (x2 != 3))), (16, .bool false), (17, .pointer (some ⟨b_2, 0, none⟩)), (18, .int .i64 x0.kind), (19, .bool v_8), (20, .bool (!v_8)), (21, .bool (!v_8)), (22, .bool (!v_8)), (26, .bool ((!v_8) || (decide (x0.dom < (-1)))))] (pt b_2 (blk (Tapi_Op.cells x0) 32) :: S) → wpFrom Try.prog _ _ 17 a w by
      rcases Bool.eq_false_or_eq_true (!v_8) with hb | hb
      · replace hs := hs.known (t := 22) hb (by kernel_rfl)
        refine Vk.pures 4 [(26, .bool true), (25, undef), (24, undef), (23, undef)] hs (by kernel_rfl) fun a hs => ?_
        have hq := hs.pick [1, 2, 3, 10, 11, 12, 15, 16, 17, 18, 19, 20, 21, 22, 26] (L' := [(1, .int .i64 x1), (2, .int .i64 x2), (3, .pointer (some ⟨b_2, 0, none⟩)), (10, .int .i64 x2), (11, .bool (x2 != 2)), (12, .bool (x2 != 2)), (15, .bool ((x2 != 2) && (x2 != 3))), (16, .bool false), (17, .pointer (some ⟨b_2, 0, none⟩)), (18, .int .i64 x0.kind), (19, .bool v_8), (20, .bool (!v_8)), (21, .bool (!v_8)), (22, .bool true), (26, .bool true)]) (by kernel_rfl)
        exact hj_9 _ (hq.conv (by first | (rw [hb] <;> rfl) | rfl))
      · replace hs := hs.known (t := 22) hb (by kernel_rfl)
        refine Vk.pures 1 [(23, .pointer (some ⟨b_2, 1, none⟩))] hs (by kernel_rfl) fun a hs => ?_
        refine Vk.step (Vk.value (some 24) (.int .i64 x0.dom) hs (by kernel_rfl) (op := (.load 3 (.tmp 23))) (by kernel_rfl) (fun o ho => run_load1 (b := b_2) (off := 1) (c := C.int .i64 x0.dom) ho (by kernel_rfl) (by kernel_rfl) (Cell.own 0 rfl (by kernel_rfl)) _ hs.own) fun a hs => ?_)
        refine Vk.pures 2 [(26, .bool (decide (x0.dom < (-1)))), (25, .bool (decide (x0.dom < (-1))))] hs (by kernel_rfl) fun a hs => ?_
        have hq := hs.pick [1, 2, 3, 10, 11, 12, 15, 16, 17, 18, 19, 20, 21, 22, 26] (L' := [(1, .int .i64 x1), (2, .int .i64 x2), (3, .pointer (some ⟨b_2, 0, none⟩)), (10, .int .i64 x2), (11, .bool (x2 != 2)), (12, .bool (x2 != 2)), (15, .bool ((x2 != 2) && (x2 != 3))), (16, .bool false), (17, .pointer (some ⟨b_2, 0, none⟩)), (18, .int .i64 x0.kind), (19, .bool v_8), (20, .bool (!v_8)), (21, .bool (!v_8)), (22, .bool false), (26, .bool (decide (x0.dom < (-1))))]) (by kernel_rfl)
        exact hj_9 _ (hq.conv (by first | (rw [hb] <;> rfl) | rfl))
    intro a hs
    refine Vk.pures 1 [(27, .bool ((!v_8) || (decide (x0.dom < (-1)))))] hs (by kernel_rfl) fun a hs => ?_
    suffices hj_10 : ∀ a, St 82 a w κ [(1, .int .i64 x1), (2, .int .i64 x2), (3, .pointer (some ⟨b_2, 0, none⟩)), (10, .int .i64 x2), (11, .bool (x2 != 2)), (12, .bool (x2 != 2)), (15, .bool ((x2 != 2) && (x2 != 3))), (16, .bool false), (17, .pointer (some ⟨b_2, 0, none⟩)), (18, .int .i64 x0.kind), (19, .bool v_8), (20, .bool (!v_8)), (21, .bool (!v_8)), (22, .bool (!v_8)), (26, .bool ((!v_8) || (decide (x0.dom < (-1))))), (27, .bool ((!v_8) || (decide (x0.dom < (-1))))), (32, .bool (((!v_8) || (decide (x0.dom < (-1)))) || (decide (x0.dom ≥ x2))))] (pt b_2 (blk (Tapi_Op.cells x0) 32) :: S) → wpFrom Try.prog _ _ 23 a w by
      rcases Bool.eq_false_or_eq_true ((!v_8) || (decide (x0.dom < (-1)))) with hb | hb
      · replace hs := hs.known (t := 27) hb (by kernel_rfl)
        refine Vk.pures 5 [(32, .bool true), (31, undef), (30, undef), (29, undef), (28, undef)] hs (by kernel_rfl) fun a hs => ?_
        have hq := hs.pick [1, 2, 3, 10, 11, 12, 15, 16, 17, 18, 19, 20, 21, 22, 26, 27, 32] (L' := [(1, .int .i64 x1), (2, .int .i64 x2), (3, .pointer (some ⟨b_2, 0, none⟩)), (10, .int .i64 x2), (11, .bool (x2 != 2)), (12, .bool (x2 != 2)), (15, .bool ((x2 != 2) && (x2 != 3))), (16, .bool false), (17, .pointer (some ⟨b_2, 0, none⟩)), (18, .int .i64 x0.kind), (19, .bool v_8), (20, .bool (!v_8)), (21, .bool (!v_8)), (22, .bool (!v_8)), (26, .bool ((!v_8) || (decide (x0.dom < (-1))))), (27, .bool true), (32, .bool true)]) (by kernel_rfl)
        exact hj_10 _ (hq.conv (by first | (rw [hb] <;> rfl) | rfl))
      · replace hs := hs.known (t := 27) hb (by kernel_rfl)
        refine Vk.pures 1 [(28, .pointer (some ⟨b_2, 1, none⟩))] hs (by kernel_rfl) fun a hs => ?_
        refine Vk.step (Vk.value (some 29) (.int .i64 x0.dom) hs (by kernel_rfl) (op := (.load 3 (.tmp 28))) (by kernel_rfl) (fun o ho => run_load1 (b := b_2) (off := 1) (c := C.int .i64 x0.dom) ho (by kernel_rfl) (by kernel_rfl) (Cell.own 0 rfl (by kernel_rfl)) _ hs.own) fun a hs => ?_)
        refine Vk.pures 3 [(32, .bool (decide (x0.dom ≥ x2))), (31, .bool (decide (x0.dom ≥ x2))), (30, .int .i64 x2)] hs (by kernel_rfl) fun a hs => ?_
        have hq := hs.pick [1, 2, 3, 10, 11, 12, 15, 16, 17, 18, 19, 20, 21, 22, 26, 27, 32] (L' := [(1, .int .i64 x1), (2, .int .i64 x2), (3, .pointer (some ⟨b_2, 0, none⟩)), (10, .int .i64 x2), (11, .bool (x2 != 2)), (12, .bool (x2 != 2)), (15, .bool ((x2 != 2) && (x2 != 3))), (16, .bool false), (17, .pointer (some ⟨b_2, 0, none⟩)), (18, .int .i64 x0.kind), (19, .bool v_8), (20, .bool (!v_8)), (21, .bool (!v_8)), (22, .bool (!v_8)), (26, .bool ((!v_8) || (decide (x0.dom < (-1))))), (27, .bool false), (32, .bool (decide (x0.dom ≥ x2)))]) (by kernel_rfl)
        exact hj_10 _ (hq.conv (by first | (rw [hb] <;> rfl) | rfl))
    intro a hs
    refine Vk.pures 1 [(33, .bool (((!v_8) || (decide (x0.dom < (-1)))) || (decide (x0.dom ≥ x2))))] hs (by kernel_rfl) fun a hs => ?_
    rcases Bool.eq_false_or_eq_true (((!v_8) || (decide (x0.dom < (-1)))) || (decide (x0.dom ≥ x2))) with hb | hb
    · replace hm := bif_t hm hb
      replace hs := hs.known (t := 33) hb (by kernel_rfl)
      refine Vk.pures 9 [(42, .bool true), (41, undef), (40, undef), (39, undef), (38, undef), (37, undef), (36, undef), (35, undef), (34, undef)] hs (by kernel_rfl) fun a hs => ?_
      replace hs := hs.pick [1, 2, 3, 42] (L' := [(1, .int .i64 x1), (2, .int .i64 x2), (3, .pointer (some ⟨b_2, 0, none⟩)), (42, .bool true)]) (by kernel_rfl)
      refine Vk.done (by kernel_rfl) ?_
      exact hj4 true hm _ _ (hs.go [1, 2, 3, 42] [0] 1 (by kernel_rfl) (by kernel_rfl) (by kernel_rfl))
    · replace hm := bif_f hm hb
      replace hs := hs.known (t := 33) hb (by kernel_rfl)
      refine Vk.pures 1 [(34, .pointer (some ⟨b_2, 0, none⟩))] hs (by kernel_rfl) fun a hs => ?_
      refine Vk.step (Vk.value (some 35) (.int .i64 x0.kind) hs (by kernel_rfl) (op := (.load 3 (.tmp 34))) (by kernel_rfl) (fun o ho => run_load1 (b := b_2) (off := 0) (c := C.int .i64 x0.kind) ho (by kernel_rfl) (by kernel_rfl) (Cell.own 0 rfl (by kernel_rfl)) _ hs.own) fun a hs => ?_)
      refine Vk.pures 2 [(37, .bool (x0.kind == 12)), (36, .bool (x0.kind == 12))] hs (by kernel_rfl) fun a hs => ?_
      rcases Bool.eq_false_or_eq_true (x0.kind == 12) with hb | hb
      · replace hm := bif_t hm hb
        replace hs := hs.known (t := 37) hb (by kernel_rfl)
        refine Vk.pures 1 [(38, .pointer (some ⟨b_2, 1, none⟩))] hs (by kernel_rfl) fun a hs => ?_
        refine Vk.step (Vk.value (some 39) (.int .i64 x0.dom) hs (by kernel_rfl) (op := (.load 3 (.tmp 38))) (by kernel_rfl) (fun o ho => run_load1 (b := b_2) (off := 1) (c := C.int .i64 x0.dom) ho (by kernel_rfl) (by kernel_rfl) (Cell.own 0 rfl (by kernel_rfl)) _ hs.own) fun a hs => ?_)
        refine Vk.pures 3 [(42, .bool (decide (x0.dom ≥ 0))), (41, .bool (decide (x0.dom ≥ 0))), (40, .bool (decide (x0.dom ≥ 0)))] hs (by kernel_rfl) fun a hs => ?_
        replace hs := hs.pick [1, 2, 3, 42] (L' := [(1, .int .i64 x1), (2, .int .i64 x2), (3, .pointer (some ⟨b_2, 0, none⟩)), (42, .bool (decide (x0.dom ≥ 0)))]) (by kernel_rfl)
        refine Vk.done (by kernel_rfl) ?_
        exact hj4 (decide (x0.dom ≥ 0)) hm _ _ (hs.go [1, 2, 3, 42] [0] 1 (by kernel_rfl) (by kernel_rfl) (by kernel_rfl))
      · replace hm := bif_f hm hb
        replace hs := hs.known (t := 37) hb (by kernel_rfl)
        refine Vk.pures 5 [(42, .bool false), (41, .bool false), (40, undef), (39, undef), (38, undef)] hs (by kernel_rfl) fun a hs => ?_
        replace hs := hs.pick [1, 2, 3, 42] (L' := [(1, .int .i64 x1), (2, .int .i64 x2), (3, .pointer (some ⟨b_2, 0, none⟩)), (42, .bool false)]) (by kernel_rfl)
        refine Vk.done (by kernel_rfl) ?_
        exact hj4 false hm _ _ (hs.go [1, 2, 3, 42] [0] 1 (by kernel_rfl) (by kernel_rfl) (by kernel_rfl))


def wire_Machine_right.j1 (k : Nat) (p_11 : Bool) : Option (Bool) := some p_11
abbrev wire_Machine_right.R (κ : Ctx) (S : List HP) (x0 : Twire_Machine) (x1 : Tapi_Op) (b_x0 : Nat) (b_x0otape : Nat) (A_x0otapeowords : Option Addr) (c_x0otapeowords : Nat) (A_x0oops : Option Addr) (c_x0oops : Nat) (A_x0ovalues : Option Addr) (c_x0ovalues : Nat) (A_x0oblocks : Option Addr) (c_x0oblocks : Nat) (r : Bool) : Ending → World → Prop := fun e w' => e = .returned (.bool r) ∧ Own κ w' (pt b_x0 (blk (Twire_Machine.obj x0 b_x0otape A_x0oops c_x0oops A_x0ovalues c_x0ovalues A_x0oblocks c_x0oblocks) 151) :: pto x0.dry b_x0otape (blk (Ttape_Tape.obj x0.tape A_x0otapeowords c_x0otapeowords) 158) :: rowp A_x0otapeowords c_x0otapeowords 23 1 (eI .u64) x0.tape.words :: rowp A_x0oops c_x0oops 32 6 Tapi_Op.cells x0.ops :: rowp A_x0ovalues c_x0ovalues 23 1 (eI .u64) x0.values :: rowp A_x0oblocks c_x0oblocks 144 3 Tapi_Span.cells x0.blocks :: S)
def wire_Machine_right.m (k : Nat) (x0 : Twire_Machine) (x1 : Tapi_Op) : Option Bool := (wire_Machine_Len.m k x0).bind fun v_7 => (op_Right.m k x1 v_7 x0.n).bind fun v_10 => (bif v_10 then (bif x1.kind != 2 then wire_Machine_right.j1 k true else wire_Machine_right.j1 k (x1.c == (IntKind.u64.wrap x0.words))) else wire_Machine_right.j1 k false)

set_option maxRecDepth 100000 in
set_option maxHeartbeats 4000000 in
theorem wire_Machine_right.ok (k : Nat) (x0 : Twire_Machine) (x1 : Tapi_Op) (r : Bool) (hm : wire_Machine_right.m k x0 x1 = some r) (κ : Ctx) (w : World) (S : List HP) (b_x0 : Nat) (b_x0otape : Nat) (A_x0otapeowords : Option Addr) (c_x0otapeowords : Nat) (A_x0oops : Option Addr) (c_x0oops : Nat) (A_x0ovalues : Option Addr) (c_x0ovalues : Nat) (A_x0oblocks : Option Addr) (c_x0oblocks : Nat) (ho : Own κ w (pt b_x0 (blk (Twire_Machine.obj x0 b_x0otape A_x0oops c_x0oops A_x0ovalues c_x0ovalues A_x0oblocks c_x0oblocks) 151) :: pto x0.dry b_x0otape (blk (Ttape_Tape.obj x0.tape A_x0otapeowords c_x0otapeowords) 158) :: rowp A_x0otapeowords c_x0otapeowords 23 1 (eI .u64) x0.tape.words :: rowp A_x0oops c_x0oops 32 6 Tapi_Op.cells x0.ops :: rowp A_x0ovalues c_x0ovalues 23 1 (eI .u64) x0.values :: rowp A_x0oblocks c_x0oblocks 144 3 Tapi_Span.cells x0.blocks :: S)) :
    Calls Try.prog 93 #[.pointer (some ⟨b_x0, 0, none⟩), .agg (vals [C.int .i64 x1.kind, C.int .i64 x1.dom, C.int .i64 x1.a, C.int .i64 x1.b, C.int .i64 x1.d, C.int .u64 x1.c])] w (wire_Machine_right.R κ S x0 x1 b_x0 b_x0otape A_x0otapeowords c_x0otapeowords A_x0oops c_x0oops A_x0ovalues c_x0ovalues A_x0oblocks c_x0oblocks r) := by
  unfold wire_Machine_right.m at hm
  refine Vk.enter [(0, .pointer (some ⟨b_x0, 0, none⟩)), (1, .agg (vals [C.int .i64 x1.kind, C.int .i64 x1.dom, C.int .i64 x1.a, C.int .i64 x1.b, C.int .i64 x1.d, C.int .u64 x1.c]))] Try.func93 rfl Try.ntmps93 (by kernel_rfl) (Nat.le_of_ble_eq_true (by kernel_rfl)) ho fun a hs => ?_
  refine Vk.seq fun K1 hK1 => ?_
  refine Vk.region ?_
  refine Vk.step (Vk.box (x := (.tmp 1)) 3 32 [C.int .i64 x1.kind, C.int .i64 x1.dom, C.int .i64 x1.a, C.int .i64 x1.b, C.int .i64 x1.d, C.int .u64 x1.c] hs (by kernel_rfl) (by kernel_rfl) (by kernel_rfl) fun b_2 w a hs => ?_)
  refine Vk.pures 1 [(4, .bool false)] hs (by kernel_rfl) fun a hs => ?_
  replace hs := hs.pick [0, 3] (L' := [(0, .pointer (some ⟨b_x0, 0, none⟩)), (3, .pointer (some ⟨b_2, 0, none⟩))]) (by kernel_rfl)
  refine Vk.done (by kernel_rfl) ?_
  refine hK1 _ _ ?_
  clear hK1
  refine Vk.seq fun K3 hK3 => ?_
  have hj3 : ∀ (p_11 : Bool), wire_Machine_right.j1 k p_11 = some r → ∀ (a : Act) (w : World), St 28 a w κ [(4, .bool p_11)] (pt b_x0 (blk (Twire_Machine.obj x0 b_x0otape A_x0oops c_x0oops A_x0ovalues c_x0ovalues A_x0oblocks c_x0oblocks) 151) :: pto x0.dry b_x0otape (blk (Ttape_Tape.obj x0.tape A_x0otapeowords c_x0otapeowords) 158) :: rowp A_x0otapeowords c_x0otapeowords 23 1 (eI .u64) x0.tape.words :: rowp A_x0oops c_x0oops 32 6 Tapi_Op.cells x0.ops :: rowp A_x0ovalues c_x0ovalues 23 1 (eI .u64) x0.values :: rowp A_x0oblocks c_x0oblocks 144 3 Tapi_Span.cells x0.blocks :: S) → K3 a w := by
    intro p_11 hm a w hs
    unfold wire_Machine_right.j1 at hm
    refine hK3 _ _ ?_
    refine wp_ret ?_
    exact Vk.ret1 (P := Try.prog) (fn := Try.f93) (R := wire_Machine_right.R κ S x0 x1 b_x0 b_x0otape A_x0otapeowords c_x0otapeowords A_x0oops c_x0oops A_x0ovalues c_x0ovalues A_x0oblocks c_x0oblocks r) (.bool p_11) hs rfl (by kernel_rfl) (by obtain rfl := Option.some.inj hm; exact ⟨rfl, (Own.to hs.own [0, 1, 2, 3, 4, 5] 6 (by kernel_rfl) (by kernel_rfl))⟩)
  obtain ⟨C_4, hC_4⟩ : ∃ X0 : List HP, X0 = (pt b_2 (blk (Tapi_Op.cells x1) 32) :: pt b_x0 (blk (Twire_Machine.obj x0 b_x0otape A_x0oops c_x0oops A_x0ovalues c_x0ovalues A_x0oblocks c_x0oblocks) 151) :: pto x0.dry b_x0otape (blk (Ttape_Tape.obj x0.tape A_x0otapeowords c_x0otapeowords) 158) :: rowp A_x0otapeowords c_x0otapeowords 23 1 (eI .u64) x0.tape.words :: rowp A_x0oops c_x0oops 32 6 Tapi_Op.cells x0.ops :: rowp A_x0ovalues c_x0ovalues 23 1 (eI .u64) x0.values :: rowp A_x0oblocks c_x0oblocks 144 3 Tapi_Span.cells x0.blocks :: S) := ⟨_, rfl⟩
  refine Vk.drawnT 24 κ C_4 hs (by kernel_rfl) fun w hs => ?_
  have hcz : Own κ w (pt b_2 (blk (Tapi_Op.cells x1) 32) :: pt b_x0 (blk (Twire_Machine.obj x0 b_x0otape A_x0oops c_x0oops A_x0ovalues c_x0ovalues A_x0oblocks c_x0oblocks) 151) :: pto x0.dry b_x0otape (blk (Ttape_Tape.obj x0.tape A_x0otapeowords c_x0otapeowords) 158) :: rowp A_x0otapeowords c_x0otapeowords 23 1 (eI .u64) x0.tape.words :: rowp A_x0oops c_x0oops 32 6 Tapi_Op.cells x0.ops :: rowp A_x0ovalues c_x0ovalues 23 1 (eI .u64) x0.values :: rowp A_x0oblocks c_x0oblocks 144 3 Tapi_Span.cells x0.blocks :: S) := (Own.to hs.own [0, 1, 2, 3, 4, 5, 6] 7 (by kernel_rfl) (by kernel_rfl))
  have hcl : Own κ w C_4 := by rw [hC_4]; exact hcz
  refine Vk.dPuresT [1, 3, 4, 5] [(10, .pointer (some ⟨b_x0, 0, none⟩)), (9, .pointer (some ⟨b_x0, 0, none⟩)), (8, .pointer (some ⟨b_x0, 0, none⟩)), (6, .pointer (some ⟨b_x0, 0, none⟩))] hs (by kernel_rfl) (by repeat' (first | exact Vk.Calm.post | refine Vk.Calm.then ?_ | refine Vk.Calm.inBlock ?_)) hcl (by kernel_rfl) (by kernel_rfl) (fuel := 20) rfl fun a hs => ?_
  refine Vk.dTakeT (i := 0) (some 5) (.agg (vals [C.int .i64 x1.kind, C.int .i64 x1.dom, C.int .i64 x1.a, C.int .i64 x1.b, C.int .i64 x1.d, C.int .u64 x1.c])) hs (by kernel_rfl) (by repeat' (first | exact Vk.Calm.post | refine Vk.Calm.then ?_ | refine Vk.Calm.inBlock ?_)) hcl (by kernel_rfl) (by kernel_rfl) (op := (.load 32 (.tmp 3))) (by kernel_rfl) (by kernel_rfl) (fun w hw o ho => by rw [hC_4] at hw; exact run_loadN (cs := [C.int .i64 x1.kind, C.int .i64 x1.dom, C.int .i64 x1.a, C.int .i64 x1.b, C.int .i64 x1.d, C.int .u64 x1.c]) ho (by kernel_rfl) (by kernel_rfl) rfl (CellsAt.all 0 rfl) _ hw) fun a hs => ?_
  refine Vk.dTakeT (i := 6) (some 11) (.int .i64 x0.n) hs (by kernel_rfl) (by repeat' (first | exact Vk.Calm.post | refine Vk.Calm.then ?_ | refine Vk.Calm.inBlock ?_)) hcl (by kernel_rfl) (by kernel_rfl) (op := (.load 3 (.tmp 10))) (by kernel_rfl) (by kernel_rfl) (fun w hw o ho => by rw [hC_4] at hw; exact run_load1 (b := b_x0) (off := 0) (c := C.int .i64 x0.n) ho (by kernel_rfl) (by kernel_rfl) (Cell.own 1 rfl (by kernel_rfl)) _ hw) fun a hs => ?_
  obtain ⟨v_7, h_6, hm⟩ := bind_t hm
  refine Vk.dOnly (i := 2) (by kernel_rfl) (Vk.call (some 7) 58 #[.pointer (some ⟨b_x0, 0, none⟩)] hs (by kernel_rfl) (by kernel_rfl) (by kernel_rfl) ?_)
  refine (wire_Machine_Len.ok k x0 v_7 h_6 κ w (pt b_2 (blk (Tapi_Op.cells x1) 32) :: S) b_x0 b_x0otape A_x0otapeowords c_x0otapeowords A_x0oops c_x0oops A_x0ovalues c_x0ovalues A_x0oblocks c_x0oblocks (Own.to hs.own [1, 2, 3, 4, 5, 6, 0] 7 (by kernel_rfl) (by kernel_rfl))).mono ?_
  rintro _ w ⟨rfl, how⟩
  refine ⟨_, _, _, rfl, how, fun a hs => ?_⟩
  replace hcl : Own κ w C_4 := by rw [hC_4]; exact (Own.to hs.own [6, 0, 1, 2, 3, 4, 5] 7 (by kernel_rfl) (by kernel_rfl))
  refine ⟨fun _ => hcl, ?_⟩
  obtain ⟨v_10, h_9, hm⟩ := bind_t hm
  refine Vk.dOnly (i := 7) (by kernel_rfl) (Vk.call (some 12) 115 #[.agg (vals [C.int .i64 x1.kind, C.int .i64 x1.dom, C.int .i64 x1.a, C.int .i64 x1.b, C.int .i64 x1.d, C.int .u64 x1.c]), .int .i64 v_7, .int .i64 x0.n] hs (by kernel_rfl) (by kernel_rfl) (by kernel_rfl) ?_)
  refine (op_Right.ok k x1 v_7 x0.n v_10 h_9 κ w (pt b_x0 (blk (Twire_Machine.obj x0 b_x0otape A_x0oops c_x0oops A_x0ovalues c_x0ovalues A_x0oblocks c_x0oblocks) 151) :: pto x0.dry b_x0otape (blk (Ttape_Tape.obj x0.tape A_x0otapeowords c_x0otapeowords) 158) :: rowp A_x0otapeowords c_x0otapeowords 23 1 (eI .u64) x0.tape.words :: rowp A_x0oops c_x0oops 32 6 Tapi_Op.cells x0.ops :: rowp A_x0ovalues c_x0ovalues 23 1 (eI .u64) x0.values :: rowp A_x0oblocks c_x0oblocks 144 3 Tapi_Span.cells x0.blocks :: pt b_2 (blk (Tapi_Op.cells x1) 32) :: S) hs.own).mono ?_
  rintro _ w ⟨rfl, how⟩
  refine ⟨_, _, _, rfl, how, fun a hs => ?_⟩
  replace hcl : Own κ w C_4 := by rw [hC_4]; exact (Own.to hs.own [6, 0, 1, 2, 3, 4, 5] 7 (by kernel_rfl) (by kernel_rfl))
  refine ⟨fun _ => hcl, ?_⟩
  refine Vk.dPuresT [8] [(13, .bool v_10)] hs (by kernel_rfl) (by repeat' (first | exact Vk.Calm.post | refine Vk.Calm.then ?_ | refine Vk.Calm.inBlock ?_)) hcl (by kernel_rfl) (by kernel_rfl) (fuel := 15) rfl fun a hs => ?_
  rcases Bool.eq_false_or_eq_true (v_10) with hb | hb
  · replace hm := bif_t hm hb
    replace hs := hs.known (t := 13) hb (by kernel_rfl)
    refine Vk.dPuresT [9] [(14, .pointer (some ⟨b_2, 0, none⟩))] hs (by kernel_rfl) (by repeat' (first | exact Vk.Calm.post | refine Vk.Calm.then ?_ | refine Vk.Calm.inBlock ?_)) hcl (by kernel_rfl) (by kernel_rfl) (fuel := 14) rfl fun a hs => ?_
    refine Vk.dTakeT (i := 10) (some 15) (.int .i64 x1.kind) hs (by kernel_rfl) (by repeat' (first | exact Vk.Calm.post | refine Vk.Calm.then ?_ | refine Vk.Calm.inBlock ?_)) hcl (by kernel_rfl) (by kernel_rfl) (op := (.load 3 (.tmp 14))) (by kernel_rfl) (by kernel_rfl) (fun w hw o ho => by rw [hC_4] at hw; exact run_load1 (b := b_2) (off := 0) (c := C.int .i64 x1.kind) ho (by kernel_rfl) (by kernel_rfl) (Cell.own 0 rfl (by kernel_rfl)) _ hw) fun a hs => ?_
    refine Vk.dPuresT [11, 12] [(17, .bool (x1.kind != 2)), (16, .bool (x1.kind != 2))] hs (by kernel_rfl) (by repeat' (first | exact Vk.Calm.post | refine Vk.Calm.then ?_ | refine Vk.Calm.inBlock ?_)) hcl (by kernel_rfl) (by kernel_rfl) (fuel := 11) rfl fun a hs => ?_
    rcases Bool.eq_false_or_eq_true (x1.kind != 2) with hb | hb
    · replace hm := bif_t hm hb
      replace hs := hs.known (t := 17) hb (by kernel_rfl)
      refine Vk.dPuresT [13, 14, 15, 16, 17, 18, 19, 20, 21, 22, 23] [(4, .bool true), (27, .bool true), (26, .bool true), (25, undef), (24, undef), (23, undef), (22, undef), (21, undef), (20, undef), (19, undef), (18, undef)] hs (by kernel_rfl) (by repeat' (first | exact Vk.Calm.post | refine Vk.Calm.then ?_ | refine Vk.Calm.inBlock ?_)) hcl (by kernel_rfl) (by kernel_rfl) (fuel := 0) rfl fun a hs => ?_
      replace hs := hs.pick [4] (L' := [(4, .bool true)]) (by kernel_rfl)
      refine Vk.dDone (by kernel_rfl) ?_
      exact hj3 true hm _ _ (hs.go [4] [0, 1, 2, 3, 4, 5] 7 (by kernel_rfl) (by kernel_rfl) (by kernel_rfl))
    · replace hm := bif_f hm hb
      replace hs := hs.known (t := 17) hb (by kernel_rfl)
      refine Vk.dPuresT [13, 15, 16, 17] [(22, .pointer (some ⟨b_x0, 3, none⟩)), (21, .pointer (some ⟨b_x0, 0, none⟩)), (20, .pointer (some ⟨b_x0, 0, none⟩)), (18, .pointer (some ⟨b_2, 5, none⟩))] hs (by kernel_rfl) (by repeat' (first | exact Vk.Calm.post | refine Vk.Calm.then ?_ | refine Vk.Calm.inBlock ?_)) hcl (by kernel_rfl) (by kernel_rfl) (fuel := 7) rfl fun a hs => ?_
      refine Vk.dTakeT (i := 14) (some 19) (.int .u64 x1.c) hs (by kernel_rfl) (by repeat' (first | exact Vk.Calm.post | refine Vk.Calm.then ?_ | refine Vk.Calm.inBlock ?_)) hcl (by kernel_rfl) (by kernel_rfl) (op := (.load 23 (.tmp 18))) (by kernel_rfl) (by kernel_rfl) (fun w hw o ho => by rw [hC_4] at hw; exact run_load1 (b := b_2) (off := 5) (c := C.int .u64 x1.c) ho (by kernel_rfl) (by kernel_rfl) (Cell.own 0 rfl (by kernel_rfl)) _ hw) fun a hs => ?_
      refine Vk.dTakeT (i := 18) (some 23) (.int .i64 x0.words) hs (by kernel_rfl) (by repeat' (first | exact Vk.Calm.post | refine Vk.Calm.then ?_ | refine Vk.Calm.inBlock ?_)) hcl (by kernel_rfl) (by kernel_rfl) (op := (.load 3 (.tmp 22))) (by kernel_rfl) (by kernel_rfl) (fun w hw o ho => by rw [hC_4] at hw; exact run_load1 (b := b_x0) (off := 3) (c := C.int .i64 x0.words) ho (by kernel_rfl) (by kernel_rfl) (Cell.own 1 rfl (by kernel_rfl)) _ hw) fun a hs => ?_
      refine Vk.dPuresT [19, 20, 21, 22, 23] [(4, .bool (x1.c == (IntKind.u64.wrap x0.words))), (27, .bool (x1.c == (IntKind.u64.wrap x0.words))), (26, .bool (x1.c == (IntKind.u64.wrap x0.words))), (25, .bool (x1.c == (IntKind.u64.wrap x0.words))), (24, .int .u64 (IntKind.u64.wrap x0.words))] hs (by kernel_rfl) (by repeat' (first | exact Vk.Calm.post | refine Vk.Calm.then ?_ | refine Vk.Calm.inBlock ?_)) hcl (by kernel_rfl) (by kernel_rfl) (fuel := 0) rfl fun a hs => ?_
      replace hs := hs.pick [4] (L' := [(4, .bool (x1.c == (IntKind.u64.wrap x0.words)))]) (by kernel_rfl)
      refine Vk.dDone (by kernel_rfl) ?_
      exact hj3 (x1.c == (IntKind.u64.wrap x0.words)) hm _ _ (hs.go [4] [0, 1, 2, 3, 4, 5] 7 (by kernel_rfl) (by kernel_rfl) (by kernel_rfl))
  · replace hm := bif_f hm hb
    replace hs := hs.known (t := 13) hb (by kernel_rfl)
    refine Vk.dPuresT [9, 10, 11, 12, 13, 14, 15, 16, 17, 18, 19, 20, 21, 22, 23] [(4, .bool false), (27, .bool false), (26, undef), (25, undef), (24, undef), (23, undef), (22, undef), (21, undef), (20, undef), (19, undef), (18, undef), (17, undef), (16, undef), (15, undef), (14, undef)] hs (by kernel_rfl) (by repeat' (first | exact Vk.Calm.post | refine Vk.Calm.then ?_ | refine Vk.Calm.inBlock ?_)) hcl (by kernel_rfl) (by kernel_rfl) (fuel := 0) rfl fun a hs => ?_
    replace hs := hs.pick [4] (L' := [(4, .bool false)]) (by kernel_rfl)
    refine Vk.dDone (by kernel_rfl) ?_
    exact hj3 false hm _ _ (hs.go [4] [0, 1, 2, 3, 4, 5] 7 (by kernel_rfl) (by kernel_rfl) (by kernel_rfl))


abbrev sync_atomic_Int64_Add.R (κ : Ctx) (S : List HP) (x0 : Tatomic_Int64) (x1 : Int) (b_x0 : Nat) (r : (Int × Tatomic_Int64)) : Ending → World → Prop := fun e w' => e = .returned (.int .i64 r.1) ∧ Own κ w' (pt b_x0 (blk [C.int .i64 r.2.v] 156) :: S)
def sync_atomic_Int64_Add.m (k : Nat) (x0 : Tatomic_Int64) (x1 : Int) : Option (Int × Tatomic_Int64) := some (IntKind.i64.wrap (x0.v + x1), (⟨IntKind.i64.wrap (x0.v + x1)⟩ : Tatomic_Int64))

set_option maxRecDepth 100000 in
set_option maxHeartbeats 4000000 in
theorem sync_atomic_Int64_Add.ok (k : Nat) (x0 : Tatomic_Int64) (x1 : Int) (r : (Int × Tatomic_Int64)) (hm : sync_atomic_Int64_Add.m k x0 x1 = some r) (κ : Ctx) (w : World) (S : List HP) (b_x0 : Nat) (ho : Own κ w (pt b_x0 (blk [C.int .i64 x0.v] 156) :: S)) :
    Calls Try.prog 122 #[.pointer (some ⟨b_x0, 0, none⟩), .int .i64 x1] w (sync_atomic_Int64_Add.R κ S x0 x1 b_x0 r) := by
  unfold sync_atomic_Int64_Add.m at hm
  refine Vk.enter [(0, .pointer (some ⟨b_x0, 0, none⟩)), (1, .int .i64 x1)] Try.func122 rfl Try.ntmps122 (by kernel_rfl) (Nat.le_of_ble_eq_true (by kernel_rfl)) ho fun a hs => ?_
  refine Vk.seq fun K1 hK1 => ?_
  refine Vk.region ?_
  refine Vk.pures 1 [(4, .int .i64 0)] hs (by kernel_rfl) fun a hs => ?_
  replace hs := hs.pick [0, 1] (L' := [(0, .pointer (some ⟨b_x0, 0, none⟩)), (1, .int .i64 x1)]) (by kernel_rfl)
  refine Vk.done (by kernel_rfl) ?_
  refine hK1 _ _ ?_
  clear hK1
  refine Vk.seq fun K2 hK2 => ?_
  refine Vk.region ?_
  refine Vk.pures 4 [(8, .int .i64 x1), (7, .pointer (some ⟨b_x0, 0, none⟩)), (6, .pointer (some ⟨b_x0, 0, none⟩)), (5, .pointer (some ⟨b_x0, 0, none⟩))] hs (by kernel_rfl) fun a hs => ?_
  refine Vk.step (Vk.atomAdd (k := .i64) (b := b_x0) (off := 0) (x := x0.v) (y := x1) 0 (some 9) 132 Try.f132 hs (by kernel_rfl) (by kernel_rfl) Try.func132 (by kernel_rfl) (by kernel_rfl) rfl (by kernel_rfl) fun a w hs => ?_)
  refine Vk.pures 1 [(4, .int .i64 (IntKind.i64.wrap (x0.v + x1)))] hs (by kernel_rfl) fun a hs => ?_
  replace hs := hs.pick [4] (L' := [(4, .int .i64 (IntKind.i64.wrap (x0.v + x1)))]) (by kernel_rfl)
  refine Vk.done (by kernel_rfl) ?_
  refine hK2 _ _ ?_
  clear hK2
  refine wp_ret ?_
  exact Vk.ret1 (P := Try.prog) (fn := Try.f122) (R := sync_atomic_Int64_Add.R κ S x0 x1 b_x0 r) (.int .i64 (IntKind.i64.wrap (x0.v + x1))) hs rfl (by kernel_rfl) (by obtain rfl := Option.some.inj hm; exact ⟨rfl, (Own.to hs.own [0] 1 (by kernel_rfl) (by kernel_rfl))⟩)


def tape_Tape_Draw.j1 (k : Nat) (x0 : Ttape_Tape) (p_7 : Bool) : Option ((Int × Bool × Ttape_Tape)) := (bif p_7 then some (0, false, x0) else (if 0 ≤ IntKind.i64.wrap ((IntKind.i64.wrap (x0.used.v + 1)) - 1) then (x0.words[(IntKind.i64.wrap ((IntKind.i64.wrap (x0.used.v + 1)) - 1)).toNat]?).bind fun e_18 => some (e_18, true, (⟨x0.words, (⟨IntKind.i64.wrap (x0.used.v + 1)⟩ : Tatomic_Int64), IntKind.i64.wrap (x0.free - 1)⟩ : Ttape_Tape)) else none))
abbrev tape_Tape_Draw.R (κ : Ctx) (S : List HP) (x0 : Ttape_Tape) (b_x0 : Nat) (A_x0owords : Option Addr) (c_x0owords : Nat) (r : (Int × Bool × Ttape_Tape)) : Ending → World → Prop := fun e w' => ∃ (A_y0owords : Option Addr), ∃ (c_y0owords : Nat), e = .returned (.tuple #[.int .u64 r.1, .bool r.2.1]) ∧ Own κ w' (pt b_x0 (blk (Ttape_Tape.obj r.2.2 A_y0owords c_y0owords) 158) :: rowp A_y0owords c_y0owords 23 1 (eI .u64) r.2.2.words :: S)
def tape_Tape_Draw.m (k : Nat) (x0 : Ttape_Tape) : Option (Int × Bool × Ttape_Tape) := (bif decide (x0.free < 1) then tape_Tape_Draw.j1 k x0 true else (tape_Tape_Left.m k x0).bind fun v_6 => tape_Tape_Draw.j1 k x0 (decide (v_6 < 1)))

set_option maxRecDepth 100000 in
set_option maxHeartbeats 4000000 in
theorem tape_Tape_Draw.ok (k : Nat) (x0 : Ttape_Tape) (r : (Int × Bool × Ttape_Tape)) (hm : tape_Tape_Draw.m k x0 = some r) (κ : Ctx) (w : World) (S : List HP) (b_x0 : Nat) (A_x0owords : Option Addr) (c_x0owords : Nat) (ho : Own κ w (pt b_x0 (blk (Ttape_Tape.obj x0 A_x0owords c_x0owords) 158) :: rowp A_x0owords c_x0owords 23 1 (eI .u64) x0.words :: S)) :
    Calls Try.prog 95 #[.pointer (some ⟨b_x0, 0, none⟩)] w (tape_Tape_Draw.R κ S x0 b_x0 A_x0owords c_x0owords r) := by
  unfold tape_Tape_Draw.m at hm
  refine Vk.enter [(0, .pointer (some ⟨b_x0, 0, none⟩))] Try.func95 rfl Try.ntmps95 (by kernel_rfl) (Nat.le_of_ble_eq_true (by kernel_rfl)) ho fun a hs => ?_
  refine Vk.seq fun K1 hK1 => ?_
  refine Vk.region ?_
  refine Vk.pures 2 [(3, .bool false), (2, .int .u64 0)] hs (by kernel_rfl) fun a hs => ?_
  replace hs := hs.pick [0] (L' := [(0, .pointer (some ⟨b_x0, 0, none⟩))]) (by kernel_rfl)
  refine Vk.done (by kernel_rfl) ?_
  refine hK1 _ _ ?_
  clear hK1
  refine Vk.seq fun K2 hK2 => ?_
  refine Vk.seq fun K3 hK3 => ?_
  have hj3 : ∀ (p_7 : Bool), tape_Tape_Draw.j1 k x0 p_7 = some r → ∀ (a : Act) (w : World), St 36 a w κ [(0, .pointer (some ⟨b_x0, 0, none⟩)), (17, .bool p_7)] (pt b_x0 (blk (Ttape_Tape.obj x0 A_x0owords c_x0owords) 158) :: rowp A_x0owords c_x0owords 23 1 (eI .u64) x0.words :: S) → K3 a w := by
    intro p_7 hm a w hs
    unfold tape_Tape_Draw.j1 at hm
    refine hK3 _ _ ?_
    refine Vk.condS (b := p_7) hs (by kernel_rfl) (by kernel_rfl) (fun hb => ?_) (fun hb => ?_)
    · replace hm := bif_t hm hb
      refine Vk.seq fun K8 hK8 => ?_
      refine Vk.region ?_
      refine Vk.pures 2 [(3, .bool false), (2, .int .u64 0)] hs (by kernel_rfl) fun a hs => ?_
      replace hs := hs.pick [2, 3] (L' := [(2, .int .u64 0), (3, .bool false)]) (by kernel_rfl)
      refine Vk.done (by kernel_rfl) ?_
      refine hK8 _ _ ?_
      clear hK8
      refine wp_ret ?_
      exact Vk.ret2 (P := Try.prog) (fn := Try.f95) (R := tape_Tape_Draw.R κ S x0 b_x0 A_x0owords c_x0owords r) (.int .u64 0) (.bool false) hs rfl (by kernel_rfl) (by kernel_rfl) (by obtain rfl := Option.some.inj hm; exact ⟨A_x0owords, c_x0owords, rfl, (Own.to hs.own [0, 1] 2 (by kernel_rfl) (by kernel_rfl))⟩)
    · replace hm := bif_f hm hb
      refine wp_skip ?_
      refine hK2 _ _ ?_
      clear hK2
      refine Vk.seq fun K9 hK9 => ?_
      refine Vk.region ?_
      refine Vk.pures 3 [(20, .pointer (some ⟨b_x0, 2, none⟩)), (19, .pointer (some ⟨b_x0, 0, none⟩)), (18, .pointer (some ⟨b_x0, 0, none⟩))] hs (by kernel_rfl) fun a hs => ?_
      refine Vk.step (Vk.value (some 21) (.int .i64 x0.free) hs (by kernel_rfl) (op := (.load 3 (.tmp 20))) (by kernel_rfl) (fun o ho => run_load1 (b := b_x0) (off := 2) (c := C.int .i64 x0.free) ho (by kernel_rfl) (by kernel_rfl) (Cell.own 0 rfl (by kernel_rfl)) _ hs.own) fun a hs => ?_)
      refine Vk.pures 3 [(24, .pointer (some ⟨b_x0, 2, none⟩)), (23, .pointer (some ⟨b_x0, 0, none⟩)), (22, .int .i64 (IntKind.i64.wrap (x0.free - 1)))] hs (by kernel_rfl) fun a hs => ?_
      refine Vk.step (Vk.store1 (b := b_x0) (ty := 3) (x := (.tmp 24)) (y := (.tmp 22)) (off := 2) (C.int .i64 (IntKind.i64.wrap (x0.free - 1))) 0 hs (by kernel_rfl) (by kernel_rfl) (by kernel_rfl) (by kernel_rfl) (by kernel_rfl) (by kernel_rfl) rfl (Nat.le_of_ble_eq_true (by kernel_rfl)) fun a w hs => ?_)
      replace hs := hs.pick [0] (L' := [(0, .pointer (some ⟨b_x0, 0, none⟩))]) (by kernel_rfl)
      refine Vk.done (by kernel_rfl) ?_
      refine hK9 _ _ ?_
      clear hK9
      refine Vk.seq fun K10 hK10 => ?_
      obtain ⟨C_11, hC_11⟩ : ∃ X0 : List HP, X0 = (ptp b_x0 158 [C.slc A_x0owords x0.words.length c_x0owords, C.int .i64 x0.used.v, C.int .i64 (IntKind.i64.wrap (x0.free - 1))] [0, 2] :: rowp A_x0owords c_x0owords 23 1 (eI .u64) x0.words :: S) := ⟨_, rfl⟩
      refine Vk.drawnT 13 κ C_11 hs (by kernel_rfl) fun w hs => ?_
      have hcz : Own κ w (ptp b_x0 158 [C.slc A_x0owords x0.words.length c_x0owords, C.int .i64 x0.used.v, C.int .i64 (IntKind.i64.wrap (x0.free - 1))] [0, 2] :: rowp A_x0owords c_x0owords 23 1 (eI .u64) x0.words :: S) := Own.part (cs0 := [C.slc A_x0owords x0.words.length c_x0owords, C.int .i64 x0.used.v, C.int .i64 (IntKind.i64.wrap (x0.free - 1))]) (ks := [0, 2]) 0 ((Own.to (S' := pt b_x0 (blk ((Ttape_Tape.obj x0 A_x0owords c_x0owords).set 2 (C.int .i64 (IntKind.i64.wrap (x0.free - 1)))) 158) :: rowp A_x0owords c_x0owords 23 1 (eI .u64) x0.words :: S) hs.own [0, 1] 2 (by kernel_rfl) (by kernel_rfl))) rfl rfl
      have hcl : Own κ w C_11 := by rw [hC_11]; exact hcz
      refine Vk.dPuresT [0, 1, 2, 4, 5, 6] [(31, .pointer (some ⟨b_x0, 1, none⟩)), (30, .pointer (some ⟨b_x0, 0, none⟩)), (29, .pointer (some ⟨b_x0, 0, none⟩)), (27, .pointer (some ⟨b_x0, 0, none⟩)), (26, .pointer (some ⟨b_x0, 0, none⟩)), (25, .pointer (some ⟨b_x0, 0, none⟩))] hs (by kernel_rfl) (by repeat' (first | exact Vk.Calm.post | refine Vk.Calm.then ?_ | refine Vk.Calm.inBlock ?_)) hcl (by kernel_rfl) (by kernel_rfl) (fuel := 7) rfl fun a hs => ?_
      refine Vk.dTakeT (i := 3) (some 28) (.slice A_x0owords x0.words.length c_x0owords) hs (by kernel_rfl) (by repeat' (first | exact Vk.Calm.post | refine Vk.Calm.then ?_ | refine Vk.Calm.inBlock ?_)) hcl (by kernel_rfl) (by kernel_rfl) (op := (.load 73 (.tmp 27))) (by kernel_rfl) (by kernel_rfl) (fun w hw o ho => by rw [hC_11] at hw; exact run_load1 (b := b_x0) (off := 0) (c := C.slc A_x0owords x0.words.length c_x0owords) ho (by kernel_rfl) (by kernel_rfl) (Cell.ownp 0 rfl (by decide) (by kernel_rfl)) _ hw) fun a hs => ?_
      refine Vk.dOnly (i := 7) (by kernel_rfl) (Vk.call (some 32) 122 #[.pointer (some ⟨b_x0, 1, none⟩), .int .i64 1] hs (by kernel_rfl) (by kernel_rfl) (by kernel_rfl) ?_)
      refine Vk.enterI [(0, .pointer (some ⟨b_x0, 1, none⟩)), (1, .int .i64 1)] Try.func122 rfl Try.ntmps122 (by kernel_rfl) (Nat.le_of_ble_eq_true (by kernel_rfl)) hs.own fun KR12 hKR12 hKP12 a hs => ?_
      refine Vk.seq fun K13 hK13 => ?_
      refine Vk.region ?_
      refine Vk.pures 1 [(4, .int .i64 0)] hs (by kernel_rfl) fun a hs => ?_
      replace hs := hs.pick [0, 1] (L' := [(0, .pointer (some ⟨b_x0, 1, none⟩)), (1, .int .i64 1)]) (by kernel_rfl)
      refine Vk.done (by kernel_rfl) ?_
      refine hK13 _ _ ?_
      clear hK13
      refine Vk.seq fun K14 hK14 => ?_
      refine Vk.region ?_
      refine Vk.pures 4 [(8, .int .i64 1), (7, .pointer (some ⟨b_x0, 1, none⟩)), (6, .pointer (some ⟨b_x0, 1, none⟩)), (5, .pointer (some ⟨b_x0, 1, none⟩))] hs (by kernel_rfl) fun a hs => ?_
      refine Vk.step (Vk.atomAdd (k := .i64) (b := b_x0) (off := 1) (x := x0.used.v) (y := 1) 0 (some 9) 132 Try.f132 hs (by kernel_rfl) (by kernel_rfl) Try.func132 (by kernel_rfl) (by kernel_rfl) rfl (by kernel_rfl) fun a w hs => ?_)
      refine Vk.pures 1 [(4, .int .i64 (IntKind.i64.wrap (x0.used.v + 1)))] hs (by kernel_rfl) fun a hs => ?_
      replace hs := hs.pick [4] (L' := [(4, .int .i64 (IntKind.i64.wrap (x0.used.v + 1)))]) (by kernel_rfl)
      refine Vk.done (by kernel_rfl) ?_
      refine hK14 _ _ ?_
      clear hK14
      refine wp_ret ?_
      refine hKP12 _ _ ?_
      refine hKR12 _ _ ?_
      refine Vk.ret1 (P := Try.prog) (fn := Try.f122) (.int .i64 (IntKind.i64.wrap (x0.used.v + 1))) hs rfl (by kernel_rfl) ⟨_, _, _, rfl, hs.own, fun a hs => ?_⟩
      replace hcl : Own κ w C_11 := by rw [hC_11]; exact Own.part (cs0 := [C.slc A_x0owords x0.words.length c_x0owords, C.int .i64 x0.used.v, C.int .i64 (IntKind.i64.wrap (x0.free - 1))]) (ks := [0, 2]) 0 ((Own.to (S' := pt b_x0 (blk [C.slc A_x0owords x0.words.length c_x0owords, C.int .i64 (IntKind.i64.wrap (x0.used.v + 1)), C.int .i64 (IntKind.i64.wrap (x0.free - 1))] 158) :: rowp A_x0owords c_x0owords 23 1 (eI .u64) x0.words :: S) hs.own [0, 1] 2 (by kernel_rfl) (by kernel_rfl))) rfl rfl
      refine ⟨fun _ => hcl, ?_⟩
      refine Vk.dPuresT [8] [(33, .int .i64 (IntKind.i64.wrap ((IntKind.i64.wrap (x0.used.v + 1)) - 1)))] hs (by kernel_rfl) (by repeat' (first | exact Vk.Calm.post | refine Vk.Calm.then ?_ | refine Vk.Calm.inBlock ?_)) hcl (by kernel_rfl) (by kernel_rfl) (fuel := 4) rfl fun a hs => ?_
      obtain ⟨h_15, hm⟩ := ite_t hm
      obtain ⟨e_18, h_16, hm⟩ := bind_t hm
      obtain ⟨b_19, o_20, hA_21, h_17⟩ := Sl.elem (Own.rowSl 0 hcz.drop rfl) h_16
      refine Vk.dTakeT (i := 9) (some 34) (.pointer (some ⟨b_19, o_20 + (IntKind.i64.wrap ((IntKind.i64.wrap (x0.used.v + 1)) - 1)).toNat * 1, none⟩)) hs (by kernel_rfl) (by repeat' (first | exact Vk.Calm.post | refine Vk.Calm.then ?_ | refine Vk.Calm.inBlock ?_)) hcl (by kernel_rfl) (by kernel_rfl) (op := (.indexAddr 73 (.tmp 28) (.tmp 33))) (by kernel_rfl) (by kernel_rfl) (fun w hw o ho => by rw [hC_11] at hw; exact run_idxSlc (k := .i64) ho (cap := c_x0owords) (len := x0.words.length) ((congrArg (fun A => Value.slice A (x0.words.length) (c_x0owords)) hA_21) ▸ (by kernel_rfl)) (by kernel_rfl) (by kernel_rfl) (idx_ok h_15 h_16) _) fun a hs => ?_
      refine Vk.dTakeT (i := 10) (some 35) (.int .u64 e_18) hs (by kernel_rfl) (by repeat' (first | exact Vk.Calm.post | refine Vk.Calm.then ?_ | refine Vk.Calm.inBlock ?_)) hcl (by kernel_rfl) (by kernel_rfl) (op := (.load 23 (.tmp 34))) (by kernel_rfl) (by kernel_rfl) (fun w hw o ho => by rw [hC_11] at hw; exact run_load1 (c := C.int .u64 e_18) ho (by kernel_rfl) (by kernel_rfl) (fun w ho => h_17 w ho 0 _ rfl) _ hw.drop) fun a hs => ?_
      refine Vk.dPuresT [11, 12] [(3, .bool true), (2, .int .u64 e_18)] hs (by kernel_rfl) (by repeat' (first | exact Vk.Calm.post | refine Vk.Calm.then ?_ | refine Vk.Calm.inBlock ?_)) hcl (by kernel_rfl) (by kernel_rfl) (fuel := 0) rfl fun a hs => ?_
      replace hs := hs.pick [2, 3] (L' := [(2, .int .u64 e_18), (3, .bool true)]) (by kernel_rfl)
      refine Vk.dDone (by kernel_rfl) ?_
      refine hK10 _ _ ?_
      clear hK10
      refine wp_ret ?_
      exact Vk.ret2 (P := Try.prog) (fn := Try.f95) (R := tape_Tape_Draw.R κ S x0 b_x0 A_x0owords c_x0owords r) (.int .u64 e_18) (.bool true) hs rfl (by kernel_rfl) (by kernel_rfl) (by obtain rfl := Option.some.inj hm; exact ⟨A_x0owords, c_x0owords, rfl, (Own.to hs.own [0, 1] 2 (by kernel_rfl) (by kernel_rfl))⟩)
  refine Vk.region ?_
  refine Vk.pures 6 [(9, .pointer (some ⟨b_x0, 2, none⟩)), (8, .pointer (some ⟨b_x0, 0, none⟩)), (7, .pointer (some ⟨b_x0, 0, none⟩)), (6, .bool false), (5, .bool false), (4, .pointer (some ⟨b_x0, 0, none⟩))] hs (by kernel_rfl) fun a hs => ?_
  refine Vk.step (Vk.value (some 10) (.int .i64 x0.free) hs (by kernel_rfl) (op := (.load 3 (.tmp 9))) (by kernel_rfl) (fun o ho => run_load1 (b := b_x0) (off := 2) (c := C.int .i64 x0.free) ho (by kernel_rfl) (by kernel_rfl) (Cell.own 0 rfl (by kernel_rfl)) _ hs.own) fun a hs => ?_)
  refine Vk.pures 3 [(13, .bool (decide (x0.free < 1))), (12, .bool (decide (x0.free < 1))), (11, .bool (decide (x0.free < 1)))] hs (by kernel_rfl) fun a hs => ?_
  rcases Bool.eq_false_or_eq_true (decide (x0.free < 1)) with hb | hb
  · replace hm := bif_t hm hb
    replace hs := hs.known (t := 13) hb (by kernel_rfl)
    refine Vk.pures 4 [(17, .bool true), (16, undef), (15, undef), (14, undef)] hs (by kernel_rfl) fun a hs => ?_
    replace hs := hs.pick [0, 17] (L' := [(0, .pointer (some ⟨b_x0, 0, none⟩)), (17, .bool true)]) (by kernel_rfl)
    refine Vk.done (by kernel_rfl) ?_
    exact hj3 true hm _ _ (hs.go [0, 17] [0, 1] 2 (by kernel_rfl) (by kernel_rfl) (by kernel_rfl))
  · replace hm := bif_f hm hb
    replace hs := hs.known (t := 13) hb (by kernel_rfl)
    refine Vk.pures 1 [(14, .pointer (some ⟨b_x0, 0, none⟩))] hs (by kernel_rfl) fun a hs => ?_
    obtain ⟨v_6, h_5, hm⟩ := bind_t hm
    refine Vk.step (Vk.call (some 15) 91 #[.pointer (some ⟨b_x0, 0, none⟩)] hs (by kernel_rfl) (by kernel_rfl) (by kernel_rfl) ?_)
    refine (tape_Tape_Left.ok k x0 v_6 h_5 κ w (S) b_x0 A_x0owords c_x0owords (Own.to hs.own [0, 1] 2 (by kernel_rfl) (by kernel_rfl))).mono ?_
    rintro _ w ⟨rfl, how⟩
    refine ⟨_, _, _, rfl, how, fun a hs => ?_⟩
    refine Vk.pures 2 [(17, .bool (decide (v_6 < 1))), (16, .bool (decide (v_6 < 1)))] hs (by kernel_rfl) fun a hs => ?_
    replace hs := hs.pick [0, 17] (L' := [(0, .pointer (some ⟨b_x0, 0, none⟩)), (17, .bool (decide (v_6 < 1)))]) (by kernel_rfl)
    refine Vk.done (by kernel_rfl) ?_
    exact hj3 (decide (v_6 < 1)) hm _ _ (hs.go [0, 17] [0, 1] 2 (by kernel_rfl) (by kernel_rfl) (by kernel_rfl))


abbrev wire_Machine_value.R (κ : Ctx) (S : List HP) (x0 : Twire_Machine) (x1 : Int) (b_x0 : Nat) (b_x0otape : Nat) (A_x0otapeowords : Option Addr) (c_x0otapeowords : Nat) (A_x0oops : Option Addr) (c_x0oops : Nat) (A_x0ovalues : Option Addr) (c_x0ovalues : Nat) (A_x0oblocks : Option Addr) (c_x0oblocks : Nat) (r : Int) : Ending → World → Prop := fun e w' => e = .returned (.int .u64 r) ∧ Own κ w' (pt b_x0 (blk (Twire_Machine.obj x0 b_x0otape A_x0oops c_x0oops A_x0ovalues c_x0ovalues A_x0oblocks c_x0oblocks) 151) :: pto x0.dry b_x0otape (blk (Ttape_Tape.obj x0.tape A_x0otapeowords c_x0otapeowords) 158) :: rowp A_x0otapeowords c_x0otapeowords 23 1 (eI .u64) x0.tape.words :: rowp A_x0oops c_x0oops 32 6 Tapi_Op.cells x0.ops :: rowp A_x0ovalues c_x0ovalues 23 1 (eI .u64) x0.values :: rowp A_x0oblocks c_x0oblocks 144 3 Tapi_Span.cells x0.blocks :: S)
def wire_Machine_value.m (k : Nat) (x0 : Twire_Machine) (x1 : Int) : Option Int := (bif decide (x1 < 0) then some 0 else (if 0 ≤ x1 then (x0.values[x1.toNat]?).bind fun e_9 => some e_9 else none))

set_option maxRecDepth 100000 in
set_option maxHeartbeats 4000000 in
theorem wire_Machine_value.ok (k : Nat) (x0 : Twire_Machine) (x1 : Int) (r : Int) (hm : wire_Machine_value.m k x0 x1 = some r) (κ : Ctx) (w : World) (S : List HP) (b_x0 : Nat) (b_x0otape : Nat) (A_x0otapeowords : Option Addr) (c_x0otapeowords : Nat) (A_x0oops : Option Addr) (c_x0oops : Nat) (A_x0ovalues : Option Addr) (c_x0ovalues : Nat) (A_x0oblocks : Option Addr) (c_x0oblocks : Nat) (ho : Own κ w (pt b_x0 (blk (Twire_Machine.obj x0 b_x0otape A_x0oops c_x0oops A_x0ovalues c_x0ovalues A_x0oblocks c_x0oblocks) 151) :: pto x0.dry b_x0otape (blk (Ttape_Tape.obj x0.tape A_x0otapeowords c_x0otapeowords) 158) :: rowp A_x0otapeowords c_x0otapeowords 23 1 (eI .u64) x0.tape.words :: rowp A_x0oops c_x0oops 32 6 Tapi_Op.cells x0.ops :: rowp A_x0ovalues c_x0ovalues 23 1 (eI .u64) x0.values :: rowp A_x0oblocks c_x0oblocks 144 3 Tapi_Span.cells x0.blocks :: S)) :
    Calls Try.prog 96 #[.pointer (some ⟨b_x0, 0, none⟩), .int .i64 x1] w (wire_Machine_value.R κ S x0 x1 b_x0 b_x0otape A_x0otapeowords c_x0otapeowords A_x0oops c_x0oops A_x0ovalues c_x0ovalues A_x0oblocks c_x0oblocks r) := by
  unfold wire_Machine_value.m at hm
  refine Vk.enter [(0, .pointer (some ⟨b_x0, 0, none⟩)), (1, .int .i64 x1)] Try.func96 rfl Try.ntmps96 (by kernel_rfl) (Nat.le_of_ble_eq_true (by kernel_rfl)) ho fun a hs => ?_
  refine Vk.seq fun K1 hK1 => ?_
  refine Vk.region ?_
  refine Vk.pures 1 [(4, .int .u64 0)] hs (by kernel_rfl) fun a hs => ?_
  replace hs := hs.pick [0, 1] (L' := [(0, .pointer (some ⟨b_x0, 0, none⟩)), (1, .int .i64 x1)]) (by kernel_rfl)
  refine Vk.done (by kernel_rfl) ?_
  refine hK1 _ _ ?_
  clear hK1
  refine Vk.seq fun K2 hK2 => ?_
  refine Vk.seq fun K3 hK3 => ?_
  refine Vk.region ?_
  refine Vk.pures 2 [(6, .bool (decide (x1 < 0))), (5, .int .i64 x1)] hs (by kernel_rfl) fun a hs => ?_
  replace hs := hs.pick [0, 1, 6] (L' := [(0, .pointer (some ⟨b_x0, 0, none⟩)), (1, .int .i64 x1), (6, .bool (decide (x1 < 0)))]) (by kernel_rfl)
  refine Vk.done (by kernel_rfl) ?_
  refine hK3 _ _ ?_
  clear hK3
  refine Vk.condS (b := decide (x1 < 0)) hs (by kernel_rfl) (by kernel_rfl) (fun hb => ?_) (fun hb => ?_)
  · replace hm := bif_t hm hb
    refine Vk.seq fun K4 hK4 => ?_
    refine Vk.region ?_
    refine Vk.pures 1 [(4, .int .u64 0)] hs (by kernel_rfl) fun a hs => ?_
    replace hs := hs.pick [4] (L' := [(4, .int .u64 0)]) (by kernel_rfl)
    refine Vk.done (by kernel_rfl) ?_
    refine hK4 _ _ ?_
    clear hK4
    refine wp_ret ?_
    exact Vk.ret1 (P := Try.prog) (fn := Try.f96) (R := wire_Machine_value.R κ S x0 x1 b_x0 b_x0otape A_x0otapeowords c_x0otapeowords A_x0oops c_x0oops A_x0ovalues c_x0ovalues A_x0oblocks c_x0oblocks r) (.int .u64 0) hs rfl (by kernel_rfl) (by obtain rfl := Option.some.inj hm; exact ⟨rfl, (Own.to hs.own [0, 1, 2, 3, 4, 5] 6 (by kernel_rfl) (by kernel_rfl))⟩)
  · replace hm := bif_f hm hb
    refine wp_skip ?_
    refine hK2 _ _ ?_
    clear hK2
    refine Vk.seq fun K5 hK5 => ?_
    refine Vk.region ?_
    refine Vk.pures 3 [(9, .pointer (some ⟨b_x0, 11, none⟩)), (8, .pointer (some ⟨b_x0, 0, none⟩)), (7, .pointer (some ⟨b_x0, 0, none⟩))] hs (by kernel_rfl) fun a hs => ?_
    refine Vk.step (Vk.value (some 10) (.slice A_x0ovalues x0.values.length c_x0ovalues) hs (by kernel_rfl) (op := (.load 73 (.tmp 9))) (by kernel_rfl) (fun o ho => run_load1 (b := b_x0) (off := 11) (c := C.slc A_x0ovalues x0.values.length c_x0ovalues) ho (by kernel_rfl) (by kernel_rfl) (Cell.own 0 rfl (by kernel_rfl)) _ hs.own) fun a hs => ?_)
    refine Vk.pures 1 [(11, .int .i64 x1)] hs (by kernel_rfl) fun a hs => ?_
    obtain ⟨h_6, hm⟩ := ite_t hm
    obtain ⟨e_9, h_7, hm⟩ := bind_t hm
    obtain ⟨b_10, o_11, hA_12, h_8⟩ := Sl.elem (Own.rowSl 0 (Own.to (S' := rowp A_x0ovalues c_x0ovalues 23 1 (eI .u64) x0.values :: S) hs.own [4] 6 (by kernel_rfl) (by kernel_rfl)) rfl) h_7
    refine Vk.step (Vk.value (some 12) (.pointer (some ⟨b_10, o_11 + x1.toNat * 1, none⟩)) hs (by kernel_rfl) (op := (.indexAddr 73 (.tmp 10) (.tmp 11))) (by kernel_rfl) (fun o ho => run_idxSlc (k := .i64) ho (cap := c_x0ovalues) (len := x0.values.length) ((congrArg (fun A => Value.slice A (x0.values.length) (c_x0ovalues)) hA_12) ▸ (by kernel_rfl)) (by kernel_rfl) (by kernel_rfl) (idx_ok h_6 h_7) _) fun a hs => ?_)
    refine Vk.step (Vk.value (some 13) (.int .u64 e_9) hs (by kernel_rfl) (op := (.load 23 (.tmp 12))) (by kernel_rfl) (fun o ho => run_load1 (c := C.int .u64 e_9) ho (by kernel_rfl) (by kernel_rfl) (fun w ho => h_8 w ho 0 _ rfl) _ (Own.to (S' := rowp A_x0ovalues c_x0ovalues 23 1 (eI .u64) x0.values :: S) hs.own [4] 6 (by kernel_rfl) (by kernel_rfl))) fun a hs => ?_)
    refine Vk.pures 1 [(4, .int .u64 e_9)] hs (by kernel_rfl) fun a hs => ?_
    replace hs := hs.pick [4] (L' := [(4, .int .u64 e_9)]) (by kernel_rfl)
    refine Vk.done (by kernel_rfl) ?_
    refine hK5 _ _ ?_
    clear hK5
    refine wp_ret ?_
    exact Vk.ret1 (P := Try.prog) (fn := Try.f96) (R := wire_Machine_value.R κ S x0 x1 b_x0 b_x0otape A_x0otapeowords c_x0otapeowords A_x0oops c_x0oops A_x0ovalues c_x0ovalues A_x0oblocks c_x0oblocks r) (.int .u64 e_9) hs rfl (by kernel_rfl) (by obtain rfl := Option.some.inj hm; exact ⟨rfl, (Own.to hs.own [0, 1, 2, 3, 4, 5] 6 (by kernel_rfl) (by kernel_rfl))⟩)


abbrev octet_Rot.R (κ : Ctx) (S : List HP) (x0 : Int) (x1 : Int) (r : Int) : Ending → World → Prop := fun e w' => e = .returned (.int .u64 r) ∧ Own κ w' (S)
def octet_Rot.m (k : Nat) (x0 : Int) (x1 : Int) : Option Int := (if 0 ≤ band .i64 x1 63 then (if 0 ≤ IntKind.i64.wrap (64 - (band .i64 x1 63)) then some (bor .u64 (shl .u64 x0 (band .i64 x1 63)) (shr .u64 x0 (IntKind.i64.wrap (64 - (band .i64 x1 63))))) else none) else none)

set_option maxRecDepth 100000 in
set_option maxHeartbeats 4000000 in
theorem octet_Rot.ok (k : Nat) (x0 : Int) (x1 : Int) (r : Int) (hm : octet_Rot.m k x0 x1 = some r) (κ : Ctx) (w : World) (S : List HP) (ho : Own κ w (S)) :
    Calls Try.prog 72 #[.int .u64 x0, .int .i64 x1] w (octet_Rot.R κ S x0 x1 r) := by
  unfold octet_Rot.m at hm
  refine Vk.enter [(0, .int .u64 x0), (1, .int .i64 x1)] Try.func72 rfl Try.ntmps72 (by kernel_rfl) (Nat.le_of_ble_eq_true (by kernel_rfl)) ho fun a hs => ?_
  refine Vk.seq fun K1 hK1 => ?_
  refine Vk.region ?_
  refine Vk.pures 1 [(4, .int .u64 0)] hs (by kernel_rfl) fun a hs => ?_
  replace hs := hs.pick [0, 1] (L' := [(0, .int .u64 x0), (1, .int .i64 x1)]) (by kernel_rfl)
  refine Vk.done (by kernel_rfl) ?_
  refine hK1 _ _ ?_
  clear hK1
  refine Vk.seq fun K2 hK2 => ?_
  refine Vk.region ?_
  refine Vk.pures 3 [(1, .int .i64 (band .i64 x1 63)), (6, .int .i64 (band .i64 x1 63)), (5, .int .i64 x1)] hs (by kernel_rfl) fun a hs => ?_
  replace hs := hs.pick [0, 1] (L' := [(0, .int .u64 x0), (1, .int .i64 (band .i64 x1 63))]) (by kernel_rfl)
  refine Vk.done (by kernel_rfl) ?_
  refine hK2 _ _ ?_
  clear hK2
  refine Vk.seq fun K3 hK3 => ?_
  obtain ⟨C_4, hC_4⟩ : ∃ X0 : List HP, X0 = (S) := ⟨_, rfl⟩
  refine Vk.drawnT 9 κ C_4 hs (by kernel_rfl) fun w hs => ?_
  have hcz : Own κ w (S) := (Own.to hs.own [] 0 (by kernel_rfl) (by kernel_rfl))
  have hcl : Own κ w C_4 := by rw [hC_4]; exact hcz
  refine Vk.dPuresT [0, 1, 3, 4, 5] [(12, .int .i64 (IntKind.i64.wrap (64 - (band .i64 x1 63)))), (11, .int .i64 (band .i64 x1 63)), (10, .int .u64 x0), (8, .int .i64 (band .i64 x1 63)), (7, .int .u64 x0)] hs (by kernel_rfl) (by repeat' (first | exact Vk.Calm.post | refine Vk.Calm.then ?_ | refine Vk.Calm.inBlock ?_)) hcl (by kernel_rfl) (by kernel_rfl) (fuel := 4) rfl fun a hs => ?_
  obtain ⟨h_5, hm⟩ := ite_t hm
  refine Vk.dTakeT (i := 2) (some 9) (.int .u64 (shl .u64 x0 (band .i64 x1 63))) hs (by kernel_rfl) (by repeat' (first | exact Vk.Calm.post | refine Vk.Calm.then ?_ | refine Vk.Calm.inBlock ?_)) hcl (by kernel_rfl) (by kernel_rfl) (op := (.binOp .shl 23 (.tmp 7) (.tmp 8) 3)) (by kernel_rfl) (by kernel_rfl) (fun w hw o ho => by rw [hC_4] at hw; exact run_shl (k' := .i64) ho (by kernel_rfl) (by kernel_rfl) h_5 _) fun a hs => ?_
  obtain ⟨h_6, hm⟩ := ite_t hm
  refine Vk.dTakeT (i := 6) (some 13) (.int .u64 (shr .u64 x0 (IntKind.i64.wrap (64 - (band .i64 x1 63))))) hs (by kernel_rfl) (by repeat' (first | exact Vk.Calm.post | refine Vk.Calm.then ?_ | refine Vk.Calm.inBlock ?_)) hcl (by kernel_rfl) (by kernel_rfl) (op := (.binOp .shr 23 (.tmp 10) (.tmp 12) 3)) (by kernel_rfl) (by kernel_rfl) (fun w hw o ho => by rw [hC_4] at hw; exact run_shr (k' := .i64) ho (by kernel_rfl) (by kernel_rfl) h_6 _) fun a hs => ?_
  refine Vk.dPuresT [7, 8] [(4, .int .u64 (bor .u64 (shl .u64 x0 (band .i64 x1 63)) (shr .u64 x0 (IntKind.i64.wrap (64 - (band .i64 x1 63)))))), (14, .int .u64 (bor .u64 (shl .u64 x0 (band .i64 x1 63)) (shr .u64 x0 (IntKind.i64.wrap (64 - (band .i64 x1 63))))))] hs (by kernel_rfl) (by repeat' (first | exact Vk.Calm.post | refine Vk.Calm.then ?_ | refine Vk.Calm.inBlock ?_)) hcl (by kernel_rfl) (by kernel_rfl) (fuel := 0) rfl fun a hs => ?_
  replace hs := hs.pick [4] (L' := [(4, .int .u64 (bor .u64 (shl .u64 x0 (band .i64 x1 63)) (shr .u64 x0 (IntKind.i64.wrap (64 - (band .i64 x1 63))))))]) (by kernel_rfl)
  refine Vk.dDone (by kernel_rfl) ?_
  refine hK3 _ _ ?_
  clear hK3
  refine wp_ret ?_
  exact Vk.ret1 (P := Try.prog) (fn := Try.f72) (R := octet_Rot.R κ S x0 x1 r) (.int .u64 (bor .u64 (shl .u64 x0 (band .i64 x1 63)) (shr .u64 x0 (IntKind.i64.wrap (64 - (band .i64 x1 63)))))) hs rfl (by kernel_rfl) (by obtain rfl := Option.some.inj hm; exact ⟨rfl, (Own.to hs.own [] 0 (by kernel_rfl) (by kernel_rfl))⟩)


def op_Eval.j1 (k : Nat) (x0 : Tapi_Op) (x1 : Int) (x2 : Int) (x3 : Int) (p_12 : Bool) : Option (Int) := (bif p_12 then some x0.c else (bif x0.kind == 5 then some (bxor .u64 x1 x2) else (bif x0.kind == 6 then some (bnot .u64 x1) else (bif x0.kind == 7 then some (band .u64 x1 x2) else (bif x0.kind == 8 then some (band .u64 x1 x0.c) else (bif x0.kind == 9 then (if 0 ≤ Int.tmod x0.c 64 then some (shl .u64 x1 (Int.tmod x0.c 64)) else none) else (bif x0.kind == 10 then (if 0 ≤ Int.tmod x0.c 64 then some (shr .u64 x1 (Int.tmod x0.c 64)) else none) else (bif x0.kind == 11 then (octet_Rot.m k x1 (IntKind.i64.wrap (Int.tmod x0.c 64))).bind fun v_32 => some v_32 else (bif x0.kind == 12 then some (bxor .u64 (bxor .u64 x1 x2) x3) else some 0)))))))))
abbrev op_Eval.R (κ : Ctx) (S : List HP) (x0 : Tapi_Op) (x1 : Int) (x2 : Int) (x3 : Int) (x4 : Int) (r : Int) : Ending → World → Prop := fun e w' => e = .returned (.int .u64 r) ∧ Own κ w' (S)
def op_Eval.m (k : Nat) (x0 : Tapi_Op) (x1 : Int) (x2 : Int) (x3 : Int) (x4 : Int) : Option Int := (bif x0.kind == 1 then some x4 else (bif x0.kind == 2 then some (bxor .u64 (bxor .u64 x4 x1) x2) else (bif x0.kind == 3 then op_Eval.j1 k x0 x1 x2 x3 (x0.kind == 3) else op_Eval.j1 k x0 x1 x2 x3 (x0.kind == 4))))

set_option maxRecDepth 100000 in
set_option maxHeartbeats 4000000 in
theorem op_Eval.ok (k : Nat) (x0 : Tapi_Op) (x1 : Int) (x2 : Int) (x3 : Int) (x4 : Int) (r : Int) (hm : op_Eval.m k x0 x1 x2 x3 x4 = some r) (κ : Ctx) (w : World) (S : List HP) (ho : Own κ w (S)) :
    Calls Try.prog 21 #[.agg (vals [C.int .i64 x0.kind, C.int .i64 x0.dom, C.int .i64 x0.a, C.int .i64 x0.b, C.int .i64 x0.d, C.int .u64 x0.c]), .int .u64 x1, .int .u64 x2, .int .u64 x3, .int .u64 x4] w (op_Eval.R κ S x0 x1 x2 x3 x4 r) := by
  unfold op_Eval.m at hm
  refine Vk.enter [(0, .agg (vals [C.int .i64 x0.kind, C.int .i64 x0.dom, C.int .i64 x0.a, C.int .i64 x0.b, C.int .i64 x0.d, C.int .u64 x0.c])), (1, .int .u64 x1), (2, .int .u64 x2), (3, .int .u64 x3), (4, .int .u64 x4)] Try.func21 rfl Try.ntmps21 (by kernel_rfl) (Nat.le_of_ble_eq_true (by kernel_rfl)) ho fun a hs => ?_
  refine Vk.seq fun K1 hK1 => ?_
  refine Vk.region ?_
  refine Vk.step (Vk.box (x := (.tmp 0)) 5 32 [C.int .i64 x0.kind, C.int .i64 x0.dom, C.int .i64 x0.a, C.int .i64 x0.b, C.int .i64 x0.d, C.int .u64 x0.c] hs (by kernel_rfl) (by kernel_rfl) (by kernel_rfl) fun b_2 w a hs => ?_)
  refine Vk.pures 1 [(10, .int .u64 0)] hs (by kernel_rfl) fun a hs => ?_
  replace hs := hs.pick [1, 2, 3, 4, 5] (L' := [(1, .int .u64 x1), (2, .int .u64 x2), (3, .int .u64 x3), (4, .int .u64 x4), (5, .pointer (some ⟨b_2, 0, none⟩))]) (by kernel_rfl)
  refine Vk.done (by kernel_rfl) ?_
  refine hK1 _ _ ?_
  clear hK1
  refine Vk.seq fun K3 hK3 => ?_
  refine Vk.region ?_
  refine Vk.pures 1 [(12, .pointer (some ⟨b_2, 5, none⟩))] hs (by kernel_rfl) fun a hs => ?_
  refine Vk.step (Vk.value (some 13) (.int .u64 x0.c) hs (by kernel_rfl) (op := (.load 23 (.tmp 12))) (by kernel_rfl) (fun o ho => run_load1 (b := b_2) (off := 5) (c := C.int .u64 x0.c) ho (by kernel_rfl) (by kernel_rfl) (Cell.own 0 rfl (by kernel_rfl)) _ hs.own) fun a hs => ?_)
  refine Vk.pures 2 [(11, .int .u64 (Int.tmod x0.c 64)), (14, .int .u64 (Int.tmod x0.c 64))] hs (by kernel_rfl) fun a hs => ?_
  replace hs := hs.pick [1, 2, 3, 4, 5, 11] (L' := [(1, .int .u64 x1), (2, .int .u64 x2), (3, .int .u64 x3), (4, .int .u64 x4), (5, .pointer (some ⟨b_2, 0, none⟩)), (11, .int .u64 (Int.tmod x0.c 64))]) (by kernel_rfl)
  refine Vk.done (by kernel_rfl) ?_
  refine hK3 _ _ ?_
  clear hK3
  refine Vk.seq fun K4 hK4 => ?_
  refine Vk.seq fun K5 hK5 => ?_
  refine Vk.region ?_
  refine Vk.pures 1 [(15, .pointer (some ⟨b_2, 0, none⟩))] hs (by kernel_rfl) fun a hs => ?_
  refine Vk.step (Vk.value (some 16) (.int .i64 x0.kind) hs (by kernel_rfl) (op := (.load 3 (.tmp 15))) (by kernel_rfl) (fun o ho => run_load1 (b := b_2) (off := 0) (c := C.int .i64 x0.kind) ho (by kernel_rfl) (by kernel_rfl) (Cell.own 0 rfl (by kernel_rfl)) _ hs.own) fun a hs => ?_)
  replace hs := hs.pick [1, 2, 3, 4, 5, 11, 16] (L' := [(1, .int .u64 x1), (2, .int .u64 x2), (3, .int .u64 x3), (4, .int .u64 x4), (5, .pointer (some ⟨b_2, 0, none⟩)), (11, .int .u64 (Int.tmod x0.c 64)), (16, .int .i64 x0.kind)]) (by kernel_rfl)
  refine Vk.done (by kernel_rfl) ?_
  refine hK5 _ _ ?_
  clear hK5
  refine wp_block ?_
  refine Vk.seq fun K6 hK6 => ?_
  refine Vk.region ?_
  refine Vk.pures 2 [(17, .bool (x0.kind == 1)), (18, .bool (x0.kind == 1))] hs (by kernel_rfl) fun a hs => ?_
  replace hs := hs.pick [1, 2, 3, 4, 5, 11, 16, 17] (L' := [(1, .int .u64 x1), (2, .int .u64 x2), (3, .int .u64 x3), (4, .int .u64 x4), (5, .pointer (some ⟨b_2, 0, none⟩)), (11, .int .u64 (Int.tmod x0.c 64)), (16, .int .i64 x0.kind), (17, .bool (x0.kind == 1))]) (by kernel_rfl)
  refine Vk.done (by kernel_rfl) ?_
  refine hK6 _ _ ?_
  clear hK6
  refine Vk.condS (b := x0.kind == 1) hs (by kernel_rfl) (by kernel_rfl) (fun hb => ?_) (fun hb => ?_)
  · replace hm := bif_t hm hb
    refine Vk.seq fun K7 hK7 => ?_
    refine Vk.region ?_
    refine Vk.pures 2 [(10, .int .u64 x4), (19, .int .u64 x4)] hs (by kernel_rfl) fun a hs => ?_
    replace hs := hs.pick [10] (L' := [(10, .int .u64 x4)]) (by kernel_rfl)
    refine Vk.done (by kernel_rfl) ?_
    refine hK7 _ _ ?_
    clear hK7
    refine wp_ret ?_
    exact Vk.ret1 (P := Try.prog) (fn := Try.f21) (R := op_Eval.R κ S x0 x1 x2 x3 x4 r) (.int .u64 x4) hs rfl (by kernel_rfl) (by obtain rfl := Option.some.inj hm; exact ⟨rfl, (Own.to hs.own [] 1 (by kernel_rfl) (by kernel_rfl))⟩)
  · replace hm := bif_f hm hb
    refine Vk.seq fun K8 hK8 => ?_
    refine Vk.region ?_
    refine Vk.pures 2 [(20, .bool (x0.kind == 2)), (21, .bool (x0.kind == 2))] hs (by kernel_rfl) fun a hs => ?_
    replace hs := hs.pick [1, 2, 3, 4, 5, 11, 16, 20] (L' := [(1, .int .u64 x1), (2, .int .u64 x2), (3, .int .u64 x3), (4, .int .u64 x4), (5, .pointer (some ⟨b_2, 0, none⟩)), (11, .int .u64 (Int.tmod x0.c 64)), (16, .int .i64 x0.kind), (20, .bool (x0.kind == 2))]) (by kernel_rfl)
    refine Vk.done (by kernel_rfl) ?_
    refine hK8 _ _ ?_
    clear hK8
    refine Vk.condS (b := x0.kind == 2) hs (by kernel_rfl) (by kernel_rfl) (fun hb => ?_) (fun hb => ?_)
    · replace hm := bif_t hm hb
      refine Vk.seq fun K9 hK9 => ?_
      refine Vk.region ?_
      refine Vk.pures 6 [(10, .int .u64 (bxor .u64 (bxor .u64 x4 x1) x2)), (26, .int .u64 (bxor .u64 (bxor .u64 x4 x1) x2)), (25, .int .u64 x2), (24, .int .u64 (bxor .u64 x4 x1)), (23, .int .u64 x1), (22, .int .u64 x4)] hs (by kernel_rfl) fun a hs => ?_
      replace hs := hs.pick [10] (L' := [(10, .int .u64 (bxor .u64 (bxor .u64 x4 x1) x2))]) (by kernel_rfl)
      refine Vk.done (by kernel_rfl) ?_
      refine hK9 _ _ ?_
      clear hK9
      refine wp_ret ?_
      exact Vk.ret1 (P := Try.prog) (fn := Try.f21) (R := op_Eval.R κ S x0 x1 x2 x3 x4 r) (.int .u64 (bxor .u64 (bxor .u64 x4 x1) x2)) hs rfl (by kernel_rfl) (by obtain rfl := Option.some.inj hm; exact ⟨rfl, (Own.to hs.own [] 1 (by kernel_rfl) (by kernel_rfl))⟩)
    · replace hm := bif_f hm hb
      refine Vk.seq fun K10 hK10 => ?_
      have hj10 : ∀ (p_12 : Bool), op_Eval.j1 k x0 x1 x2 x3 p_12 = some r → ∀ (a : Act) (w : World), St 75 a w κ [(1, .int .u64 x1), (2, .int .u64 x2), (3, .int .u64 x3), (5, .pointer (some ⟨b_2, 0, none⟩)), (11, .int .u64 (Int.tmod x0.c 64)), (16, .int .i64 x0.kind), (27, .bool p_12)] (pt b_2 (blk (Tapi_Op.cells x0) 32) :: S) → K10 a w := by
        intro p_12 hm a w hs
        unfold op_Eval.j1 at hm
        refine hK10 _ _ ?_
        refine Vk.condS (b := p_12) hs (by kernel_rfl) (by kernel_rfl) (fun hb => ?_) (fun hb => ?_)
        · replace hm := bif_t hm hb
          refine Vk.seq fun K13 hK13 => ?_
          refine Vk.region ?_
          refine Vk.pures 1 [(30, .pointer (some ⟨b_2, 5, none⟩))] hs (by kernel_rfl) fun a hs => ?_
          refine Vk.step (Vk.value (some 31) (.int .u64 x0.c) hs (by kernel_rfl) (op := (.load 23 (.tmp 30))) (by kernel_rfl) (fun o ho => run_load1 (b := b_2) (off := 5) (c := C.int .u64 x0.c) ho (by kernel_rfl) (by kernel_rfl) (Cell.own 0 rfl (by kernel_rfl)) _ hs.own) fun a hs => ?_)
          refine Vk.pures 1 [(10, .int .u64 x0.c)] hs (by kernel_rfl) fun a hs => ?_
          replace hs := hs.pick [10] (L' := [(10, .int .u64 x0.c)]) (by kernel_rfl)
          refine Vk.done (by kernel_rfl) ?_
          refine hK13 _ _ ?_
          clear hK13
          refine wp_ret ?_
          exact Vk.ret1 (P := Try.prog) (fn := Try.f21) (R := op_Eval.R κ S x0 x1 x2 x3 x4 r) (.int .u64 x0.c) hs rfl (by kernel_rfl) (by obtain rfl := Option.some.inj hm; exact ⟨rfl, (Own.to hs.own [] 1 (by kernel_rfl) (by kernel_rfl))⟩)
        · replace hm := bif_f hm hb
          refine Vk.seq fun K14 hK14 => ?_
          refine Vk.region ?_
          refine Vk.pures 2 [(32, .bool (x0.kind == 5)), (33, .bool (x0.kind == 5))] hs (by kernel_rfl) fun a hs => ?_
          replace hs := hs.pick [1, 2, 3, 5, 11, 16, 32] (L' := [(1, .int .u64 x1), (2, .int .u64 x2), (3, .int .u64 x3), (5, .pointer (some ⟨b_2, 0, none⟩)), (11, .int .u64 (Int.tmod x0.c 64)), (16, .int .i64 x0.kind), (32, .bool (x0.kind == 5))]) (by kernel_rfl)
          refine Vk.done (by kernel_rfl) ?_
          refine hK14 _ _ ?_
          clear hK14
          refine Vk.condS (b := x0.kind == 5) hs (by kernel_rfl) (by kernel_rfl) (fun hb => ?_) (fun hb => ?_)
          · replace hm := bif_t hm hb
            refine Vk.seq fun K15 hK15 => ?_
            refine Vk.region ?_
            refine Vk.pures 4 [(10, .int .u64 (bxor .u64 x1 x2)), (36, .int .u64 (bxor .u64 x1 x2)), (35, .int .u64 x2), (34, .int .u64 x1)] hs (by kernel_rfl) fun a hs => ?_
            replace hs := hs.pick [10] (L' := [(10, .int .u64 (bxor .u64 x1 x2))]) (by kernel_rfl)
            refine Vk.done (by kernel_rfl) ?_
            refine hK15 _ _ ?_
            clear hK15
            refine wp_ret ?_
            exact Vk.ret1 (P := Try.prog) (fn := Try.f21) (R := op_Eval.R κ S x0 x1 x2 x3 x4 r) (.int .u64 (bxor .u64 x1 x2)) hs rfl (by kernel_rfl) (by obtain rfl := Option.some.inj hm; exact ⟨rfl, (Own.to hs.own [] 1 (by kernel_rfl) (by kernel_rfl))⟩)
          · replace hm := bif_f hm hb
            refine Vk.seq fun K16 hK16 => ?_
            refine Vk.region ?_
            refine Vk.pures 2 [(37, .bool (x0.kind == 6)), (38, .bool (x0.kind == 6))] hs (by kernel_rfl) fun a hs => ?_
            replace hs := hs.pick [1, 2, 3, 5, 11, 16, 37] (L' := [(1, .int .u64 x1), (2, .int .u64 x2), (3, .int .u64 x3), (5, .pointer (some ⟨b_2, 0, none⟩)), (11, .int .u64 (Int.tmod x0.c 64)), (16, .int .i64 x0.kind), (37, .bool (x0.kind == 6))]) (by kernel_rfl)
            refine Vk.done (by kernel_rfl) ?_
            refine hK16 _ _ ?_
            clear hK16
            refine Vk.condS (b := x0.kind == 6) hs (by kernel_rfl) (by kernel_rfl) (fun hb => ?_) (fun hb => ?_)
            · replace hm := bif_t hm hb
              refine Vk.seq fun K17 hK17 => ?_
              refine Vk.region ?_
              refine Vk.pures 3 [(10, .int .u64 (bnot .u64 x1)), (40, .int .u64 (bnot .u64 x1)), (39, .int .u64 x1)] hs (by kernel_rfl) fun a hs => ?_
              replace hs := hs.pick [10] (L' := [(10, .int .u64 (bnot .u64 x1))]) (by kernel_rfl)
              refine Vk.done (by kernel_rfl) ?_
              refine hK17 _ _ ?_
              clear hK17
              refine wp_ret ?_
              exact Vk.ret1 (P := Try.prog) (fn := Try.f21) (R := op_Eval.R κ S x0 x1 x2 x3 x4 r) (.int .u64 (bnot .u64 x1)) hs rfl (by kernel_rfl) (by obtain rfl := Option.some.inj hm; exact ⟨rfl, (Own.to hs.own [] 1 (by kernel_rfl) (by kernel_rfl))⟩)
            · replace hm := bif_f hm hb
              refine Vk.seq fun K18 hK18 => ?_
              refine Vk.region ?_
              refine Vk.pures 2 [(41, .bool (x0.kind == 7)), (42, .bool (x0.kind == 7))] hs (by kernel_rfl) fun a hs => ?_
              replace hs := hs.pick [1, 2, 3, 5, 11, 16, 41] (L' := [(1, .int .u64 x1), (2, .int .u64 x2), (3, .int .u64 x3), (5, .pointer (some ⟨b_2, 0, none⟩)), (11, .int .u64 (Int.tmod x0.c 64)), (16, .int .i64 x0.kind), (41, .bool (x0.kind == 7))]) (by kernel_rfl)
              refine Vk.done (by kernel_rfl) ?_
              refine hK18 _ _ ?_
              clear hK18
              refine Vk.condS (b := x0.kind == 7) hs (by kernel_rfl) (by kernel_rfl) (fun hb => ?_) (fun hb => ?_)
              · replace hm := bif_t hm hb
                refine Vk.seq fun K19 hK19 => ?_
                refine Vk.region ?_
                refine Vk.pures 4 [(10, .int .u64 (band .u64 x1 x2)), (45, .int .u64 (band .u64 x1 x2)), (44, .int .u64 x2), (43, .int .u64 x1)] hs (by kernel_rfl) fun a hs => ?_
                replace hs := hs.pick [10] (L' := [(10, .int .u64 (band .u64 x1 x2))]) (by kernel_rfl)
                refine Vk.done (by kernel_rfl) ?_
                refine hK19 _ _ ?_
                clear hK19
                refine wp_ret ?_
                exact Vk.ret1 (P := Try.prog) (fn := Try.f21) (R := op_Eval.R κ S x0 x1 x2 x3 x4 r) (.int .u64 (band .u64 x1 x2)) hs rfl (by kernel_rfl) (by obtain rfl := Option.some.inj hm; exact ⟨rfl, (Own.to hs.own [] 1 (by kernel_rfl) (by kernel_rfl))⟩)
              · replace hm := bif_f hm hb
                refine Vk.seq fun K20 hK20 => ?_
                refine Vk.region ?_
                refine Vk.pures 2 [(46, .bool (x0.kind == 8)), (47, .bool (x0.kind == 8))] hs (by kernel_rfl) fun a hs => ?_
                replace hs := hs.pick [1, 2, 3, 5, 11, 16, 46] (L' := [(1, .int .u64 x1), (2, .int .u64 x2), (3, .int .u64 x3), (5, .pointer (some ⟨b_2, 0, none⟩)), (11, .int .u64 (Int.tmod x0.c 64)), (16, .int .i64 x0.kind), (46, .bool (x0.kind == 8))]) (by kernel_rfl)
                refine Vk.done (by kernel_rfl) ?_
                refine hK20 _ _ ?_
                clear hK20
                refine Vk.condS (b := x0.kind == 8) hs (by kernel_rfl) (by kernel_rfl) (fun hb => ?_) (fun hb => ?_)
                · replace hm := bif_t hm hb
                  refine Vk.seq fun K21 hK21 => ?_
                  refine Vk.region ?_
                  refine Vk.pures 2 [(49, .pointer (some ⟨b_2, 5, none⟩)), (48, .int .u64 x1)] hs (by kernel_rfl) fun a hs => ?_
                  refine Vk.step (Vk.value (some 50) (.int .u64 x0.c) hs (by kernel_rfl) (op := (.load 23 (.tmp 49))) (by kernel_rfl) (fun o ho => run_load1 (b := b_2) (off := 5) (c := C.int .u64 x0.c) ho (by kernel_rfl) (by kernel_rfl) (Cell.own 0 rfl (by kernel_rfl)) _ hs.own) fun a hs => ?_)
                  refine Vk.pures 2 [(10, .int .u64 (band .u64 x1 x0.c)), (51, .int .u64 (band .u64 x1 x0.c))] hs (by kernel_rfl) fun a hs => ?_
                  replace hs := hs.pick [10] (L' := [(10, .int .u64 (band .u64 x1 x0.c))]) (by kernel_rfl)
                  refine Vk.done (by kernel_rfl) ?_
                  refine hK21 _ _ ?_
                  clear hK21
                  refine wp_ret ?_
                  exact Vk.ret1 (P := Try.prog) (fn := Try.f21) (R := op_Eval.R κ S x0 x1 x2 x3 x4 r) (.int .u64 (band .u64 x1 x0.c)) hs rfl (by kernel_rfl) (by obtain rfl := Option.some.inj hm; exact ⟨rfl, (Own.to hs.own [] 1 (by kernel_rfl) (by kernel_rfl))⟩)
                · replace hm := bif_f hm hb
                  refine Vk.seq fun K22 hK22 => ?_
                  refine Vk.region ?_
                  refine Vk.pures 2 [(52, .bool (x0.kind == 9)), (53, .bool (x0.kind == 9))] hs (by kernel_rfl) fun a hs => ?_
                  replace hs := hs.pick [1, 2, 3, 11, 16, 52] (L' := [(1, .int .u64 x1), (2, .int .u64 x2), (3, .int .u64 x3), (11, .int .u64 (Int.tmod x0.c 64)), (16, .int .i64 x0.kind), (52, .bool (x0.kind == 9))]) (by kernel_rfl)
                  refine Vk.done (by kernel_rfl) ?_
                  refine hK22 _ _ ?_
                  clear hK22
                  refine Vk.condS (b := x0.kind == 9) hs (by kernel_rfl) (by kernel_rfl) (fun hb => ?_) (fun hb => ?_)
                  · replace hm := bif_t hm hb
                    refine Vk.seq fun K23 hK23 => ?_
                    refine Vk.region ?_
                    refine Vk.pures 2 [(55, .int .u64 (Int.tmod x0.c 64)), (54, .int .u64 x1)] hs (by kernel_rfl) fun a hs => ?_
                    obtain ⟨h_24, hm⟩ := ite_t hm
                    refine Vk.step (Vk.value (some 56) (.int .u64 (shl .u64 x1 (Int.tmod x0.c 64))) hs (by kernel_rfl) (op := (.binOp .shl 23 (.tmp 54) (.tmp 55) 23)) (by kernel_rfl) (fun o ho => run_shl (k' := .u64) ho (by kernel_rfl) (by kernel_rfl) h_24 _) fun a hs => ?_)
                    refine Vk.pures 1 [(10, .int .u64 (shl .u64 x1 (Int.tmod x0.c 64)))] hs (by kernel_rfl) fun a hs => ?_
                    replace hs := hs.pick [10] (L' := [(10, .int .u64 (shl .u64 x1 (Int.tmod x0.c 64)))]) (by kernel_rfl)
                    refine Vk.done (by kernel_rfl) ?_
                    refine hK23 _ _ ?_
                    clear hK23
                    refine wp_ret ?_
                    exact Vk.ret1 (P := Try.prog) (fn := Try.f21) (R := op_Eval.R κ S x0 x1 x2 x3 x4 r) (.int .u64 (shl .u64 x1 (Int.tmod x0.c 64))) hs rfl (by kernel_rfl) (by obtain rfl := Option.some.inj hm; exact ⟨rfl, (Own.to hs.own [] 1 (by kernel_rfl) (by kernel_rfl))⟩)
                  · replace hm := bif_f hm hb
                    refine Vk.seq fun K25 hK25 => ?_
                    refine Vk.region ?_
                    refine Vk.pures 2 [(57, .bool (x0.kind == 10)), (58, .bool (x0.kind == 10))] hs (by kernel_rfl) fun a hs => ?_
                    replace hs := hs.pick [1, 2, 3, 11, 16, 57] (L' := [(1, .int .u64 x1), (2, .int .u64 x2), (3, .int .u64 x3), (11, .int .u64 (Int.tmod x0.c 64)), (16, .int .i64 x0.kind), (57, .bool (x0.kind == 10))]) (by kernel_rfl)
                    refine Vk.done (by kernel_rfl) ?_
                    refine hK25 _ _ ?_
                    clear hK25
                    refine Vk.condS (b := x0.kind == 10) hs (by kernel_rfl) (by kernel_rfl) (fun hb => ?_) (fun hb => ?_)
                    · replace hm := bif_t hm hb
                      refine Vk.seq fun K26 hK26 => ?_
                      refine Vk.region ?_
                      refine Vk.pures 2 [(60, .int .u64 (Int.tmod x0.c 64)), (59, .int .u64 x1)] hs (by kernel_rfl) fun a hs => ?_
                      obtain ⟨h_27, hm⟩ := ite_t hm
                      refine Vk.step (Vk.value (some 61) (.int .u64 (shr .u64 x1 (Int.tmod x0.c 64))) hs (by kernel_rfl) (op := (.binOp .shr 23 (.tmp 59) (.tmp 60) 23)) (by kernel_rfl) (fun o ho => run_shr (k' := .u64) ho (by kernel_rfl) (by kernel_rfl) h_27 _) fun a hs => ?_)
                      refine Vk.pures 1 [(10, .int .u64 (shr .u64 x1 (Int.tmod x0.c 64)))] hs (by kernel_rfl) fun a hs => ?_
                      replace hs := hs.pick [10] (L' := [(10, .int .u64 (shr .u64 x1 (Int.tmod x0.c 64)))]) (by kernel_rfl)
                      refine Vk.done (by kernel_rfl) ?_
                      refine hK26 _ _ ?_
                      clear hK26
                      refine wp_ret ?_
                      exact Vk.ret1 (P := Try.prog) (fn := Try.f21) (R := op_Eval.R κ S x0 x1 x2 x3 x4 r) (.int .u64 (shr .u64 x1 (Int.tmod x0.c 64))) hs rfl (by kernel_rfl) (by obtain rfl := Option.some.inj hm; exact ⟨rfl, (Own.to hs.own [] 1 (by kernel_rfl) (by kernel_rfl))⟩)
                    · replace hm := bif_f hm hb
                      refine Vk.seq fun K28 hK28 => ?_
                      refine Vk.region ?_
                      refine Vk.pures 2 [(62, .bool (x0.kind == 11)), (63, .bool (x0.kind == 11))] hs (by kernel_rfl) fun a hs => ?_
                      replace hs := hs.pick [1, 2, 3, 11, 16, 62] (L' := [(1, .int .u64 x1), (2, .int .u64 x2), (3, .int .u64 x3), (11, .int .u64 (Int.tmod x0.c 64)), (16, .int .i64 x0.kind), (62, .bool (x0.kind == 11))]) (by kernel_rfl)
                      refine Vk.done (by kernel_rfl) ?_
                      refine hK28 _ _ ?_
                      clear hK28
                      refine Vk.condS (b := x0.kind == 11) hs (by kernel_rfl) (by kernel_rfl) (fun hb => ?_) (fun hb => ?_)
                      · replace hm := bif_t hm hb
                        refine Vk.seq fun K29 hK29 => ?_
                        refine Vk.region ?_
                        refine Vk.pures 3 [(66, .int .i64 (IntKind.i64.wrap (Int.tmod x0.c 64))), (65, .int .u64 (Int.tmod x0.c 64)), (64, .int .u64 x1)] hs (by kernel_rfl) fun a hs => ?_
                        obtain ⟨v_32, h_31, hm⟩ := bind_t hm
                        refine Vk.step (Vk.call (some 67) 72 #[.int .u64 x1, .int .i64 (IntKind.i64.wrap (Int.tmod x0.c 64))] hs (by kernel_rfl) (by kernel_rfl) (by kernel_rfl) ?_)
                        refine (octet_Rot.ok k x1 (IntKind.i64.wrap (Int.tmod x0.c 64)) v_32 h_31 κ w (pt b_2 (blk (Tapi_Op.cells x0) 32) :: S) hs.own).mono ?_
                        rintro _ w ⟨rfl, how⟩
                        refine ⟨_, _, _, rfl, how, fun a hs => ?_⟩
                        refine Vk.pures 1 [(10, .int .u64 v_32)] hs (by kernel_rfl) fun a hs => ?_
                        replace hs := hs.pick [10] (L' := [(10, .int .u64 v_32)]) (by kernel_rfl)
                        refine Vk.done (by kernel_rfl) ?_
                        refine hK29 _ _ ?_
                        clear hK29
                        refine wp_ret ?_
                        exact Vk.ret1 (P := Try.prog) (fn := Try.f21) (R := op_Eval.R κ S x0 x1 x2 x3 x4 r) (.int .u64 v_32) hs rfl (by kernel_rfl) (by obtain rfl := Option.some.inj hm; exact ⟨rfl, (Own.to hs.own [] 1 (by kernel_rfl) (by kernel_rfl))⟩)
                      · replace hm := bif_f hm hb
                        refine Vk.seq fun K33 hK33 => ?_
                        refine Vk.region ?_
                        refine Vk.pures 2 [(68, .bool (x0.kind == 12)), (69, .bool (x0.kind == 12))] hs (by kernel_rfl) fun a hs => ?_
                        replace hs := hs.pick [1, 2, 3, 68] (L' := [(1, .int .u64 x1), (2, .int .u64 x2), (3, .int .u64 x3), (68, .bool (x0.kind == 12))]) (by kernel_rfl)
                        refine Vk.done (by kernel_rfl) ?_
                        refine hK33 _ _ ?_
                        clear hK33
                        refine Vk.condS (b := x0.kind == 12) hs (by kernel_rfl) (by kernel_rfl) (fun hb => ?_) (fun hb => ?_)
                        · replace hm := bif_t hm hb
                          refine Vk.seq fun K34 hK34 => ?_
                          refine Vk.region ?_
                          refine Vk.pures 6 [(10, .int .u64 (bxor .u64 (bxor .u64 x1 x2) x3)), (74, .int .u64 (bxor .u64 (bxor .u64 x1 x2) x3)), (73, .int .u64 x3), (72, .int .u64 (bxor .u64 x1 x2)), (71, .int .u64 x2), (70, .int .u64 x1)] hs (by kernel_rfl) fun a hs => ?_
                          replace hs := hs.pick [10] (L' := [(10, .int .u64 (bxor .u64 (bxor .u64 x1 x2) x3))]) (by kernel_rfl)
                          refine Vk.done (by kernel_rfl) ?_
                          refine hK34 _ _ ?_
                          clear hK34
                          refine wp_ret ?_
                          exact Vk.ret1 (P := Try.prog) (fn := Try.f21) (R := op_Eval.R κ S x0 x1 x2 x3 x4 r) (.int .u64 (bxor .u64 (bxor .u64 x1 x2) x3)) hs rfl (by kernel_rfl) (by obtain rfl := Option.some.inj hm; exact ⟨rfl, (Own.to hs.own [] 1 (by kernel_rfl) (by kernel_rfl))⟩)
                        · replace hm := bif_f hm hb
                          refine wp_skip ?_
                          refine hK4 _ _ ?_
                          clear hK4
                          refine Vk.seq fun K35 hK35 => ?_
                          refine Vk.region ?_
                          refine Vk.pures 1 [(10, .int .u64 0)] hs (by kernel_rfl) fun a hs => ?_
                          replace hs := hs.pick [10] (L' := [(10, .int .u64 0)]) (by kernel_rfl)
                          refine Vk.done (by kernel_rfl) ?_
                          refine hK35 _ _ ?_
                          clear hK35
                          refine wp_ret ?_
                          exact Vk.ret1 (P := Try.prog) (fn := Try.f21) (R := op_Eval.R κ S x0 x1 x2 x3 x4 r) (.int .u64 0) hs rfl (by kernel_rfl) (by obtain rfl := Option.some.inj hm; exact ⟨rfl, (Own.to hs.own [] 1 (by kernel_rfl) (by kernel_rfl))⟩)
      refine Vk.seq fun K11 hK11 => ?_
      refine Vk.region ?_
      refine Vk.pures 2 [(27, .bool (x0.kind == 3)), (28, .bool (x0.kind == 3))] hs (by kernel_rfl) fun a hs => ?_
      replace hs := hs.pick [1, 2, 3, 5, 11, 16, 27] (L' := [(1, .int .u64 x1), (2, .int .u64 x2), (3, .int .u64 x3), (5, .pointer (some ⟨b_2, 0, none⟩)), (11, .int .u64 (Int.tmod x0.c 64)), (16, .int .i64 x0.kind), (27, .bool (x0.kind == 3))]) (by kernel_rfl)
      refine Vk.done (by kernel_rfl) ?_
      refine hK11 _ _ ?_
      clear hK11
      refine Vk.condS (b := x0.kind == 3) hs (by kernel_rfl) (by kernel_rfl) (fun hb => ?_) (fun hb => ?_)
      · replace hm := bif_t hm hb
        refine wp_skip ?_
        exact hj10 (x0.kind == 3) hm _ _ (hs.go [1, 2, 3, 5, 11, 16, 27] [0] 1 (by kernel_rfl) (by kernel_rfl) (by kernel_rfl))
      · replace hm := bif_f hm hb
        refine Vk.region ?_
        refine Vk.pures 2 [(27, .bool (x0.kind == 4)), (29, .bool (x0.kind == 4))] hs (by kernel_rfl) fun a hs => ?_
        replace hs := hs.pick [1, 2, 3, 5, 11, 16, 27] (L' := [(1, .int .u64 x1), (2, .int .u64 x2), (3, .int .u64 x3), (5, .pointer (some ⟨b_2, 0, none⟩)), (11, .int .u64 (Int.tmod x0.c 64)), (16, .int .i64 x0.kind), (27, .bool (x0.kind == 4))]) (by kernel_rfl)
        refine Vk.done (by kernel_rfl) ?_
        exact hj10 (x0.kind == 4) hm _ _ (hs.go [1, 2, 3, 5, 11, 16, 27] [0] 1 (by kernel_rfl) (by kernel_rfl) (by kernel_rfl))

end Go.Proofs.Ytjjdlidjlepgeaa
