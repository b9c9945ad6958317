/- Of each Go function that SliceBack comes to: a model in plain Lean, and that the program's call does what the model says; no condition. -/
import Derived.Test.YtjjdlidjlepgeaaProg
import Derived.Test.YtjjdlidjlepgeaaVnbdmjfpn
namespace Go.Proofs.Ytjjdlidjlepgeaa
open Go Go.Vk
set_option linter.unusedVariables false


def slice_Cut.l2 (q_15 : Int) (e_23 : Int) : Nat → Cells → Int → Option (Cells)
  | 0, _, _ => none
  | k + 1, q_29, q_30 => (bif decide (q_30 < 8) then (if 0 ≤ q_30 ∧ q_30 < 8 then (getI .u64 q_29 (0 + q_30.toNat * 1)).bind fun v_37 => (if 0 ≤ q_30 then (if 0 ≤ q_15 then (if 0 ≤ q_30 ∧ q_30 < 8 then (if 0 + q_30.toNat * 1 < q_29.length then slice_Cut.l2 q_15 e_23 k (q_29.set (0 + q_30.toNat * 1) (C.int .u64 (bor .u64 v_37 (shl .u64 (IntKind.u64.wrap (band .u8 (shr .u8 e_23 q_30) 1)) q_15)))) (IntKind.i64.wrap (q_30 + 1)) else none) else none) else none) else none) else none) else some q_29)
def slice_Cut.l1 (x0 : List Int) : Nat → Cells → Int → Option (Cells)
  | 0, _, _ => none
  | k + 1, q_14, q_15 => (bif decide (q_15 < (((cut x0 (0) ((mn ((x0.length : Nat) : Int) 64).toNat)).length : Nat) : Int)) then (if 0 ≤ q_15 then ((cut x0 (0) ((mn ((x0.length : Nat) : Int) 64).toNat))[q_15.toNat]?).bind fun e_23 => (slice_Cut.l2 q_15 e_23 k q_14 0).bind fun p_42 => slice_Cut.l1 x0 k p_42 (IntKind.i64.wrap (q_15 + 1)) else none) else some q_14)
def slice_Cut.m (k : Nat) (x0 : List Int) : Option Cells := (if ((0 : Int) ≤ mn ((x0.length : Nat) : Int) 64) ∧ 0 ≤ (mn ((x0.length : Nat) : Int) 64).toNat ∧ (mn ((x0.length : Nat) : Int) 64).toNat ≤ x0.length then (slice_Cut.l1 x0 k [C.int .u64 0, C.int .u64 0, C.int .u64 0, C.int .u64 0, C.int .u64 0, C.int .u64 0, C.int .u64 0, C.int .u64 0] 0).bind fun p_45 => (if p_45.length = 8 then some p_45 else none) else none)

set_option maxRecDepth 100000 in
set_option maxHeartbeats 4000000 in
theorem slice_Cut.ok (k : Nat) (x0 : List Int) (r : Cells) (hm : slice_Cut.m k x0 = some r) (κ : Ctx) (w : World) (S : List HP) (A_x0 : Option Addr) (c_x0 : Nat) (hx_x0 : Sl κ S A_x0 c_x0 1 (eI .u8) x0) (ho : Own κ w (S)) :
    Calls Try.prog 15 #[.slice A_x0 x0.length c_x0] w (fun e w' => e = .returned (.agg (vals r)) ∧ Own κ w' (S)) := by
  unfold slice_Cut.m at hm
  refine Vk.enter [(0, .slice A_x0 x0.length c_x0)] Try.func15 rfl Try.ntmps15 (by kernel_rfl) (Nat.le_of_ble_eq_true (by kernel_rfl)) ho fun a hs => ?_
  refine Vk.seq fun K1 hK1 => ?_
  refine Vk.region ?_
  refine Vk.step (Vk.alloc 2 24 [C.int .u64 0, C.int .u64 0, C.int .u64 0, C.int .u64 0, C.int .u64 0, C.int .u64 0, C.int .u64 0, C.int .u64 0] hs (by kernel_rfl) (by kernel_rfl) (by kernel_rfl) fun b_2 w a hs => ?_)
  replace hs := hs.to (l := [pt b_2 (blk [C.int .u64 0, C.int .u64 0, C.int .u64 0, C.int .u64 0, C.int .u64 0, C.int .u64 0, C.int .u64 0, C.int .u64 0] 24)]) [0, 2] [0] (L' := [(0, .slice A_x0 x0.length c_x0), (2, .pointer (some ⟨b_2, 0, none⟩))]) (l' := [pt b_2 (blk [C.int .u64 0, C.int .u64 0, C.int .u64 0, C.int .u64 0, C.int .u64 0, C.int .u64 0, C.int .u64 0, C.int .u64 0] 24)]) (by kernel_rfl) (by kernel_rfl) (by kernel_rfl)
  refine Vk.done (by kernel_rfl) ?_
  refine hK1 _ _ ?_
  clear hK1
  refine Vk.seq fun K3 hK3 => ?_
  refine Vk.region ?_
  refine Vk.step (Vk.alloc 3 24 [C.int .u64 0, C.int .u64 0, C.int .u64 0, C.int .u64 0, C.int .u64 0, C.int .u64 0, C.int .u64 0, C.int .u64 0] hs (by kernel_rfl) (by kernel_rfl) (by kernel_rfl) fun b_4 w a hs => ?_)
  replace hs := hs.to (l := [pt b_4 (blk [C.int .u64 0, C.int .u64 0, C.int .u64 0, C.int .u64 0, C.int .u64 0, C.int .u64 0, C.int .u64 0, C.int .u64 0] 24), pt b_2 (blk [C.int .u64 0, C.int .u64 0, C.int .u64 0, C.int .u64 0, C.int .u64 0, C.int .u64 0, C.int .u64 0, C.int .u64 0] 24)]) [0, 2, 3] [0, 1] (L' := [(0, .slice A_x0 x0.length c_x0), (2, .pointer (some ⟨b_2, 0, none⟩)), (3, .pointer (some ⟨b_4, 0, none⟩))]) (l' := [pt b_4 (blk [C.int .u64 0, C.int .u64 0, C.int .u64 0, C.int .u64 0, C.int .u64 0, C.int .u64 0, C.int .u64 0, C.int .u64 0] 24), pt b_2 (blk [C.int .u64 0, C.int .u64 0, C.int .u64 0, C.int .u64 0, C.int .u64 0, C.int .u64 0, C.int .u64 0, C.int .u64 0] 24)]) (by kernel_rfl) (by kernel_rfl) (by kernel_rfl)
  refine Vk.done (by kernel_rfl) ?_
  refine hK3 _ _ ?_
  clear hK3
  refine Vk.seq fun K5 hK5 => ?_
  refine Vk.seq fun K6 hK6 => ?_
  refine Vk.region ?_
  refine Vk.pures 4 [(10, .int .i64 (mn ((x0.length : Nat) : Int) 64)), (9, .int .i64 ((x0.length : Nat) : Int)), (8, .slice A_x0 x0.length c_x0), (7, .slice A_x0 x0.length c_x0)] hs (by kernel_rfl) fun a hs => ?_
  obtain ⟨h_7, hm⟩ := ite_t hm
  obtain ⟨A_8, c_9, eA_10, ec_11, hx_12⟩ := Sl.sub hx_x0 h_7.2
  refine Vk.step (Vk.value (some 11) (.slice A_8 ((cut x0 (0) ((mn ((x0.length : Nat) : Int) 64).toNat)).length) c_9) hs (by kernel_rfl) (op := (.slice 22 (.tmp 7) none (some (.tmp 10)) none)) (by kernel_rfl) (fun o ho => run_sub (sz := 1) (e := 5) h_7.2 eA_10 ec_11 (Sl.le hx_x0) ho (by kernel_rfl) (by kernel_rfl) (by kernel_rfl) rfl ⟨.i64, (mn ((x0.length : Nat) : Int) 64), by kernel_rfl, h_7.1, rfl⟩ _) fun a hs => ?_)
  refine Vk.pures 2 [(13, .int .i64 0), (12, .int .i64 (((cut x0 (0) ((mn ((x0.length : Nat) : Int) 64).toNat)).length : Nat) : Int))] hs (by kernel_rfl) fun a hs => ?_
  replace hs := hs.to (l := [pt b_4 (blk [C.int .u64 0, C.int .u64 0, C.int .u64 0, C.int .u64 0, C.int .u64 0, C.int .u64 0, C.int .u64 0, C.int .u64 0] 24), pt b_2 (blk [C.int .u64 0, C.int .u64 0, C.int .u64 0, C.int .u64 0, C.int .u64 0, C.int .u64 0, C.int .u64 0, C.int .u64 0] 24)]) [2, 3, 11, 12, 13] [0, 1] (L' := [(2, .pointer (some ⟨b_2, 0, none⟩)), (3, .pointer (some ⟨b_4, 0, none⟩)), (11, .slice A_8 ((cut x0 (0) ((mn ((x0.length : Nat) : Int) 64).toNat)).length) c_9), (12, .int .i64 (((cut x0 (0) ((mn ((x0.length : Nat) : Int) 64).toNat)).length : Nat) : Int)), (13, .int .i64 0)]) (l' := [pt b_4 (blk [C.int .u64 0, C.int .u64 0, C.int .u64 0, C.int .u64 0, C.int .u64 0, C.int .u64 0, C.int .u64 0, C.int .u64 0] 24), pt b_2 (blk [C.int .u64 0, C.int .u64 0, C.int .u64 0, C.int .u64 0, C.int .u64 0, C.int .u64 0, C.int .u64 0, C.int .u64 0] 24)]) (by kernel_rfl) (by kernel_rfl) (by kernel_rfl)
  refine Vk.done (by kernel_rfl) ?_
  refine hK6 _ _ ?_
  clear hK6
  refine wp_block ?_
  obtain ⟨r13, hl13, hm⟩ := bind_t hm
  have hx13 : ∀ (p_45 : Cells), r13 = p_45 → ∀ (a : Act) (w : World), St 36 a w κ [(2, .pointer (some ⟨b_2, 0, none⟩)), (3, .pointer (some ⟨b_4, 0, none⟩))] (pt b_2 (blk [C.int .u64 0, C.int .u64 0, C.int .u64 0, C.int .u64 0, C.int .u64 0, C.int .u64 0, C.int .u64 0, C.int .u64 0] 24) :: pt b_4 (blk p_45 24) :: S) → K5 a w := by
    intro p_45 he a w hs
    subst r13
    refine hK5 _ _ ?_
    clear hK5
    refine Vk.seq fun K48 hK48 => ?_
    refine Vk.region ?_
    obtain ⟨h_49, hm⟩ := ite_t hm
    refine Vk.step (Vk.value (some 35) (.agg (vals p_45)) hs (by kernel_rfl) (op := (.load 24 (.tmp 3))) (by kernel_rfl) (fun o ho => run_loadN (cs := p_45) ho (by kernel_rfl) (by kernel_rfl) h_49 (CellsAt.all 1 rfl) _ hs.own) fun a hs => ?_)
    refine Vk.step (Vk.storeA (ty := 24) (x := (.tmp 2)) (y := (.tmp 35)) (sz := 8) p_45 0 hs (by kernel_rfl) (by kernel_rfl) (by kernel_rfl) (by kernel_rfl) (by kernel_rfl) h_49 (by kernel_rfl) rfl (Eq.trans (b := 8) h_49 (Eq.symm rfl)) fun a w hs => ?_)
    replace hs := hs.to (l := [pt b_2 (blk p_45 24), pt b_4 (blk p_45 24)]) [2] [0] (L' := [(2, .pointer (some ⟨b_2, 0, none⟩))]) (l' := [pt b_2 (blk p_45 24)]) (by kernel_rfl) (by kernel_rfl) (by kernel_rfl)
    refine Vk.done (by kernel_rfl) ?_
    refine hK48 _ _ ?_
    clear hK48
    refine wp_ret ?_
    replace hs := hs.to (l := [pt b_2 (blk p_45 24)]) [2] [0] (L' := [(2, .pointer (some ⟨b_2, 0, none⟩))]) (l' := [pt b_2 (blk p_45 24)]) (by kernel_rfl) (by kernel_rfl) (by kernel_rfl)
    exact Vk.retC (P := Try.prog) (fn := Try.f15) (R := fun e w' => e = .returned (.agg (vals r)) ∧ Own κ w' (S)) p_45 hs rfl (by kernel_rfl) (sz := 8) (by kernel_rfl) h_49 (CellsAt.all 0 rfl) (by obtain rfl := Option.some.inj hm; exact ⟨rfl, hs.own.drop⟩)
  refine Vk.loopBy (fun k (s : Cells × Int) a w => slice_Cut.l1 x0 k s.1 s.2 = some r13 ∧ St 36 a w κ [(2, .pointer (some ⟨b_2, 0, none⟩)), (3, .pointer (some ⟨b_4, 0, none⟩)), (11, .slice A_8 ((cut x0 (0) ((mn ((x0.length : Nat) : Int) 64).toNat)).length) c_9), (12, .int .i64 (((cut x0 (0) ((mn ((x0.length : Nat) : Int) 64).toNat)).length : Nat) : Int)), (13, .int .i64 s.2)] (pt b_2 (blk [C.int .u64 0, C.int .u64 0, C.int .u64 0, C.int .u64 0, C.int .u64 0, C.int .u64 0, C.int .u64 0, C.int .u64 0] 24) :: pt b_4 (blk s.1 24) :: S)) k ([C.int .u64 0, C.int .u64 0, C.int .u64 0, C.int .u64 0, C.int .u64 0, C.int .u64 0, C.int .u64 0, C.int .u64 0], 0) ⟨hl13, hs.to (l := [pt b_4 (blk [C.int .u64 0, C.int .u64 0, C.int .u64 0, C.int .u64 0, C.int .u64 0, C.int .u64 0, C.int .u64 0, C.int .u64 0] 24), pt b_2 (blk [C.int .u64 0, C.int .u64 0, C.int .u64 0, C.int .u64 0, C.int .u64 0, C.int .u64 0, C.int .u64 0, C.int .u64 0] 24)]) [2, 3, 11, 12, 13] [1, 0] (L' := [(2, .pointer (some ⟨b_2, 0, none⟩)), (3, .pointer (some ⟨b_4, 0, none⟩)), (11, .slice A_8 ((cut x0 (0) ((mn ((x0.length : Nat) : Int) 64).toNat)).length) c_9), (12, .int .i64 (((cut x0 (0) ((mn ((x0.length : Nat) : Int) 64).toNat)).length : Nat) : Int)), (13, .int .i64 0)]) (l' := [pt b_2 (blk [C.int .u64 0, C.int .u64 0, C.int .u64 0, C.int .u64 0, C.int .u64 0, C.int .u64 0, C.int .u64 0, C.int .u64 0] 24), pt b_4 (blk [C.int .u64 0, C.int .u64 0, C.int .u64 0, C.int .u64 0, C.int .u64 0, C.int .u64 0, C.int .u64 0, C.int .u64 0] 24)]) (by kernel_rfl) (by kernel_rfl) (by kernel_rfl)⟩ (fun s a w h => by obtain ⟨h1, _⟩ := h; simp [slice_Cut.l1] at h1) (fun k KL13 ih s a w h => ?_)
  obtain ⟨q_14, q_15⟩ := s
  obtain ⟨hm, hs⟩ := h
  try dsimp only at hm hs
  rw [slice_Cut.l1] at hm
  refine Vk.seq fun K16 hK16 => ?_
  refine Vk.region ?_
  refine Vk.pures 1 [(14, .bool (decide (q_15 < (((cut x0 (0) ((mn ((x0.length : Nat) : Int) 64).toNat)).length : Nat) : Int))))] hs (by kernel_rfl) fun a hs => ?_
  replace hs := hs.to (l := [pt b_2 (blk [C.int .u64 0, C.int .u64 0, C.int .u64 0, C.int .u64 0, C.int .u64 0, C.int .u64 0, C.int .u64 0, C.int .u64 0] 24), pt b_4 (blk q_14 24)]) [2, 3, 11, 12, 13, 14] [0, 1] (L' := [(2, .pointer (some ⟨b_2, 0, none⟩)), (3, .pointer (some ⟨b_4, 0, none⟩)), (11, .slice A_8 ((cut x0 (0) ((mn ((x0.length : Nat) : Int) 64).toNat)).length) c_9), (12, .int .i64 (((cut x0 (0) ((mn ((x0.length : Nat) : Int) 64).toNat)).length : Nat) : Int)), (13, .int .i64 q_15), (14, .bool (decide (q_15 < (((cut x0 (0) ((mn ((x0.length : Nat) : Int) 64).toNat)).length : Nat) : Int))))]) (l' := [pt b_2 (blk [C.int .u64 0, C.int .u64 0, C.int .u64 0, C.int .u64 0, C.int .u64 0, C.int .u64 0, C.int .u64 0, C.int .u64 0] 24), pt b_4 (blk q_14 24)]) (by kernel_rfl) (by kernel_rfl) (by kernel_rfl)
  refine Vk.done (by kernel_rfl) ?_
  refine hK16 _ _ ?_
  clear hK16
  refine Vk.seq fun K17 hK17 => ?_
  refine Vk.condS (b := decide (q_15 < (((cut x0 (0) ((mn ((x0.length : Nat) : Int) 64).toNat)).length : Nat) : Int))) hs (by kernel_rfl) (by kernel_rfl) (fun hb => ?_) (fun hb => ?_)
  · replace hm := bif_t hm hb
    refine wp_skip ?_
    refine hK17 _ _ ?_
    clear hK17
    refine Vk.seq fun K18 hK18 => ?_
    refine wp_block ?_
    refine Vk.seq fun K19 hK19 => ?_
    refine Vk.region ?_
    refine Vk.pures 1 [(15, .int .i64 q_15)] hs (by kernel_rfl) fun a hs => ?_
    obtain ⟨h_20, hm⟩ := ite_t hm
    obtain ⟨e_23, h_21, hm⟩ := bind_t hm
    obtain ⟨b_24, o_25, hA_26, h_22⟩ := Sl.elem hx_12 h_21
    refine Vk.step (Vk.value (some 16) (.pointer (some ⟨b_24, o_25 + q_15.toNat * 1, none⟩)) hs (by kernel_rfl) (op := (.indexAddr 22 (.tmp 11) (.tmp 13))) (by kernel_rfl) (fun o ho => run_idxSlc (k := .i64) ho (cap := c_9) (len := (cut x0 (0) ((mn ((x0.length : Nat) : Int) 64).toNat)).length) ((congrArg (fun A => Value.slice A ((cut x0 (0) ((mn ((x0.length : Nat) : Int) 64).toNat)).length) (c_9)) hA_26) ▸ (by kernel_rfl)) (by kernel_rfl) (by kernel_rfl) (idx_ok h_20 h_21) _) fun a hs => ?_)
    refine Vk.step (Vk.value (some 17) (.int .u8 e_23) hs (by kernel_rfl) (op := (.load 5 (.tmp 16))) (by kernel_rfl) (fun o ho => run_load1 (c := C.int .u8 e_23) ho (by kernel_rfl) (by kernel_rfl) (fun w ho => h_22 w ho 0 _ rfl) _ hs.own.drop.drop) fun a hs => ?_)
    refine Vk.pures 2 [(5, .int .u8 e_23), (4, .int .i64 q_15)] hs (by kernel_rfl) fun a hs => ?_
    replace hs := hs.to (l := [pt b_2 (blk [C.int .u64 0, C.int .u64 0, C.int .u64 0, C.int .u64 0, C.int .u64 0, C.int .u64 0, C.int .u64 0, C.int .u64 0] 24), pt b_4 (blk q_14 24)]) [2, 3, 4, 5, 11, 12, 13] [0, 1] (L' := [(2, .pointer (some ⟨b_2, 0, none⟩)), (3, .pointer (some ⟨b_4, 0, none⟩)), (4, .int .i64 q_15), (5, .int .u8 e_23), (11, .slice A_8 ((cut x0 (0) ((mn ((x0.length : Nat) : Int) 64).toNat)).length) c_9), (12, .int .i64 (((cut x0 (0) ((mn ((x0.length : Nat) : Int) 64).toNat)).length : Nat) : Int)), (13, .int .i64 q_15)]) (l' := [pt b_2 (blk [C.int .u64 0, C.int .u64 0, C.int .u64 0, C.int .u64 0, C.int .u64 0, C.int .u64 0, C.int .u64 0, C.int .u64 0] 24), pt b_4 (blk q_14 24)]) (by kernel_rfl) (by kernel_rfl) (by kernel_rfl)
    refine Vk.done (by kernel_rfl) ?_
    refine hK19 _ _ ?_
    clear hK19
    refine Vk.seq fun K27 hK27 => ?_
    refine Vk.region ?_
    refine Vk.pures 1 [(18, .int .i64 0)] hs (by kernel_rfl) fun a hs => ?_
    replace hs := hs.to (l := [pt b_2 (blk [C.int .u64 0, C.int .u64 0, C.int .u64 0, C.int .u64 0, C.int .u64 0, C.int .u64 0, C.int .u64 0, C.int .u64 0] 24), pt b_4 (blk q_14 24)]) [2, 3, 4, 5, 11, 12, 13, 18] [0, 1] (L' := [(2, .pointer (some ⟨b_2, 0, none⟩)), (3, .pointer (some ⟨b_4, 0, none⟩)), (4, .int .i64 q_15), (5, .int .u8 e_23), (11, .slice A_8 ((cut x0 (0) ((mn ((x0.length : Nat) : Int) 64).toNat)).length) c_9), (12, .int .i64 (((cut x0 (0) ((mn ((x0.length : Nat) : Int) 64).toNat)).length : Nat) : Int)), (13, .int .i64 q_15), (18, .int .i64 0)]) (l' := [pt b_2 (blk [C.int .u64 0, C.int .u64 0, C.int .u64 0, C.int .u64 0, C.int .u64 0, C.int .u64 0, C.int .u64 0, C.int .u64 0] 24), pt b_4 (blk q_14 24)]) (by kernel_rfl) (by kernel_rfl) (by kernel_rfl)
    refine Vk.done (by kernel_rfl) ?_
    refine hK27 _ _ ?_
    clear hK27
    refine wp_block ?_
    obtain ⟨r28, hl28, hm⟩ := bind_t hm
    have hx28 : ∀ (p_42 : Cells), r28 = p_42 → ∀ (a : Act) (w : World), St 36 a w κ [(2, .pointer (some ⟨b_2, 0, none⟩)), (3, .pointer (some ⟨b_4, 0, none⟩)), (11, .slice A_8 ((cut x0 (0) ((mn ((x0.length : Nat) : Int) 64).toNat)).length) c_9), (12, .int .i64 (((cut x0 (0) ((mn ((x0.length : Nat) : Int) 64).toNat)).length : Nat) : Int)), (13, .int .i64 q_15)] (pt b_2 (blk [C.int .u64 0, C.int .u64 0, C.int .u64 0, C.int .u64 0, C.int .u64 0, C.int .u64 0, C.int .u64 0, C.int .u64 0] 24) :: pt b_4 (blk p_42 24) :: S) → K18 a w := by
      intro p_42 he a w hs
      subst r28
      refine hK18 _ _ ?_
      clear hK18
      refine Vk.region ?_
      refine Vk.pures 2 [(13, .int .i64 (IntKind.i64.wrap (q_15 + 1))), (34, .int .i64 (IntKind.i64.wrap (q_15 + 1)))] hs (by kernel_rfl) fun a hs => ?_
      replace hs := hs.to (l := [pt b_2 (blk [C.int .u64 0, C.int .u64 0, C.int .u64 0, C.int .u64 0, C.int .u64 0, C.int .u64 0, C.int .u64 0, C.int .u64 0] 24), pt b_4 (blk p_42 24)]) [2, 3, 11, 12, 13] [0, 1] (L' := [(2, .pointer (some ⟨b_2, 0, none⟩)), (3, .pointer (some ⟨b_4, 0, none⟩)), (11, .slice A_8 ((cut x0 (0) ((mn ((x0.length : Nat) : Int) 64).toNat)).length) c_9), (12, .int .i64 (((cut x0 (0) ((mn ((x0.length : Nat) : Int) 64).toNat)).length : Nat) : Int)), (13, .int .i64 (IntKind.i64.wrap (q_15 + 1)))]) (l' := [pt b_2 (blk [C.int .u64 0, C.int .u64 0, C.int .u64 0, C.int .u64 0, C.int .u64 0, C.int .u64 0, C.int .u64 0, C.int .u64 0] 24), pt b_4 (blk p_42 24)]) (by kernel_rfl) (by kernel_rfl) (by kernel_rfl)
      refine Vk.done (by kernel_rfl) ?_
      refine ih (p_42, (IntKind.i64.wrap (q_15 + 1))) _ _ ⟨hm, hs.to (l := [pt b_2 (blk [C.int .u64 0, C.int .u64 0, C.int .u64 0, C.int .u64 0, C.int .u64 0, C.int .u64 0, C.int .u64 0, C.int .u64 0] 24), pt b_4 (blk p_42 24)]) [2, 3, 11, 12, 13] [0, 1] (L' := [(2, .pointer (some ⟨b_2, 0, none⟩)), (3, .pointer (some ⟨b_4, 0, none⟩)), (11, .slice A_8 ((cut x0 (0) ((mn ((x0.length : Nat) : Int) 64).toNat)).length) c_9), (12, .int .i64 (((cut x0 (0) ((mn ((x0.length : Nat) : Int) 64).toNat)).length : Nat) : Int)), (13, .int .i64 (IntKind.i64.wrap (q_15 + 1)))]) (l' := [pt b_2 (blk [C.int .u64 0, C.int .u64 0, C.int .u64 0, C.int .u64 0, C.int .u64 0, C.int .u64 0, C.int .u64 0, C.int .u64 0] 24), pt b_4 (blk p_42 24)]) (by kernel_rfl) (by kernel_rfl) (by kernel_rfl)⟩
    refine Vk.loopBy (fun k (s : Cells × Int) a w => slice_Cut.l2 q_15 e_23 k s.1 s.2 = some r28 ∧ St 36 a w κ [(2, .pointer (some ⟨b_2, 0, none⟩)), (3, .pointer (some ⟨b_4, 0, none⟩)), (4, .int .i64 q_15), (5, .int .u8 e_23), (11, .slice A_8 ((cut x0 (0) ((mn ((x0.length : Nat) : Int) 64).toNat)).length) c_9), (12, .int .i64 (((cut x0 (0) ((mn ((x0.length : Nat) : Int) 64).toNat)).length : Nat) : Int)), (13, .int .i64 q_15), (18, .int .i64 s.2)] (pt b_2 (blk [C.int .u64 0, C.int .u64 0, C.int .u64 0, C.int .u64 0, C.int .u64 0, C.int .u64 0, C.int .u64 0, C.int .u64 0] 24) :: pt b_4 (blk s.1 24) :: S)) k (q_14, 0) ⟨hl28, hs.to (l := [pt b_2 (blk [C.int .u64 0, C.int .u64 0, C.int .u64 0, C.int .u64 0, C.int .u64 0, C.int .u64 0, C.int .u64 0, C.int .u64 0] 24), pt b_4 (blk q_14 24)]) [2, 3, 4, 5, 11, 12, 13, 18] [0, 1] (L' := [(2, .pointer (some ⟨b_2, 0, none⟩)), (3, .pointer (some ⟨b_4, 0, none⟩)), (4, .int .i64 q_15), (5, .int .u8 e_23), (11, .slice A_8 ((cut x0 (0) ((mn ((x0.length : Nat) : Int) 64).toNat)).length) c_9), (12, .int .i64 (((cut x0 (0) ((mn ((x0.length : Nat) : Int) 64).toNat)).length : Nat) : Int)), (13, .int .i64 q_15), (18, .int .i64 0)]) (l' := [pt b_2 (blk [C.int .u64 0, C.int .u64 0, C.int .u64 0, C.int .u64 0, C.int .u64 0, C.int .u64 0, C.int .u64 0, C.int .u64 0] 24), pt b_4 (blk q_14 24)]) (by kernel_rfl) (by kernel_rfl) (by kernel_rfl)⟩ (fun s a w h => by obtain ⟨h1, _⟩ := h; simp [slice_Cut.l2] at h1) (fun k KL28 ih s a w h => ?_)
    obtain ⟨q_29, q_30⟩ := s
    obtain ⟨hm, hs⟩ := h
    try dsimp only at hm hs
    rw [slice_Cut.l2] at hm
    refine Vk.seq fun K31 hK31 => ?_
    refine Vk.region ?_
    refine Vk.pures 1 [(19, .bool (decide (q_30 < 8)))] hs (by kernel_rfl) fun a hs => ?_
    replace hs := hs.to (l := [pt b_2 (blk [C.int .u64 0, C.int .u64 0, C.int .u64 0, C.int .u64 0, C.int .u64 0, C.int .u64 0, C.int .u64 0, C.int .u64 0] 24), pt b_4 (blk q_29 24)]) [2, 3, 4, 5, 11, 12, 13, 18, 19] [0, 1] (L' := [(2, .pointer (some ⟨b_2, 0, none⟩)), (3, .pointer (some ⟨b_4, 0, none⟩)), (4, .int .i64 q_15), (5, .int .u8 e_23), (11, .slice A_8 ((cut x0 (0) ((mn ((x0.length : Nat) : Int) 64).toNat)).length) c_9), (12, .int .i64 (((cut x0 (0) ((mn ((x0.length : Nat) : Int) 64).toNat)).length : Nat) : Int)), (13, .int .i64 q_15), (18, .int .i64 q_30), (19, .bool (decide (q_30 < 8)))]) (l' := [pt b_2 (blk [C.int .u64 0, C.int .u64 0, C.int .u64 0, C.int .u64 0, C.int .u64 0, C.int .u64 0, C.int .u64 0, C.int .u64 0] 24), pt b_4 (blk q_29 24)]) (by kernel_rfl) (by kernel_rfl) (by kernel_rfl)
    refine Vk.done (by kernel_rfl) ?_
    refine hK31 _ _ ?_
    clear hK31
    refine Vk.seq fun K32 hK32 => ?_
    refine Vk.condS (b := decide (q_30 < 8)) hs (by kernel_rfl) (by kernel_rfl) (fun hb => ?_) (fun hb => ?_)
    · replace hm := bif_t hm hb
      refine wp_skip ?_
      refine hK32 _ _ ?_
      clear hK32
      refine Vk.seq fun K33 hK33 => ?_
      refine wp_block ?_
      refine Vk.seq fun K34 hK34 => ?_
      refine Vk.region ?_
      refine Vk.pures 2 [(6, .int .i64 q_30), (20, .int .i64 q_30)] hs (by kernel_rfl) fun a hs => ?_
      replace hs := hs.to (l := [pt b_2 (blk [C.int .u64 0, C.int .u64 0, C.int .u64 0, C.int .u64 0, C.int .u64 0, C.int .u64 0, C.int .u64 0, C.int .u64 0] 24), pt b_4 (blk q_29 24)]) [2, 3, 4, 5, 6, 11, 12, 13, 18] [0, 1] (L' := [(2, .pointer (some ⟨b_2, 0, none⟩)), (3, .pointer (some ⟨b_4, 0, none⟩)), (4, .int .i64 q_15), (5, .int .u8 e_23), (6, .int .i64 q_30), (11, .slice A_8 ((cut x0 (0) ((mn ((x0.length : Nat) : Int) 64).toNat)).length) c_9), (12, .int .i64 (((cut x0 (0) ((mn ((x0.length : Nat) : Int) 64).toNat)).length : Nat) : Int)), (13, .int .i64 q_15), (18, .int .i64 q_30)]) (l' := [pt b_2 (blk [C.int .u64 0, C.int .u64 0, C.int .u64 0, C.int .u64 0, C.int .u64 0, C.int .u64 0, C.int .u64 0, C.int .u64 0] 24), pt b_4 (blk q_29 24)]) (by kernel_rfl) (by kernel_rfl) (by kernel_rfl)
      refine Vk.done (by kernel_rfl) ?_
      refine hK34 _ _ ?_
      clear hK34
      refine Vk.drawnT 12 κ (pt b_2 (blk [C.int .u64 0, C.int .u64 0, C.int .u64 0, C.int .u64 0, C.int .u64 0, C.int .u64 0, C.int .u64 0, C.int .u64 0] 24) :: pt b_4 (blk q_29 24) :: S) hs (by kernel_rfl) fun w hs => ?_
      have hcl := Own.pickS (l := [pt b_2 (blk [C.int .u64 0, C.int .u64 0, C.int .u64 0, C.int .u64 0, C.int .u64 0, C.int .u64 0, C.int .u64 0, C.int .u64 0] 24), pt b_4 (blk q_29 24)]) (l' := [pt b_2 (blk [C.int .u64 0, C.int .u64 0, C.int .u64 0, C.int .u64 0, C.int .u64 0, C.int .u64 0, C.int .u64 0, C.int .u64 0] 24), pt b_4 (blk q_29 24)]) hs.own [0, 1] (by kernel_rfl) (by kernel_rfl)
      refine Vk.dPures [0, 3, 4, 8] [(29, .int .i64 q_15), (25, .int .i64 q_30), (24, .int .u8 e_23), (21, .int .i64 q_30)] hs (by kernel_rfl) (by repeat' (first | exact Vk.Calm.post | refine Vk.Calm.then ?_ | refine Vk.Calm.inBlock ?_)) hcl (by kernel_rfl) (fuel := 9) rfl fun a hs => ?_
      obtain ⟨h_35, hm⟩ := ite_t hm
      refine Vk.dTake (i := 1) (some 22) (.pointer (some ⟨b_4, 0 + q_30.toNat * 1, none⟩)) hs (by kernel_rfl) (by repeat' (first | exact Vk.Calm.post | refine Vk.Calm.then ?_ | refine Vk.Calm.inBlock ?_)) hcl (by kernel_rfl) (op := (.indexAddr 24 (.tmp 3) (.tmp 21))) (by kernel_rfl) (by kernel_rfl) (fun w hw o ho => run_idxArr (k := .i64) ho (by kernel_rfl) (by kernel_rfl) (by kernel_rfl) h_35 _) fun a hs => ?_
      obtain ⟨v_37, h_36, hm⟩ := bind_t hm
      refine Vk.dTake (i := 2) (some 23) (.int .u64 v_37) hs (by kernel_rfl) (by repeat' (first | exact Vk.Calm.post | refine Vk.Calm.then ?_ | refine Vk.Calm.inBlock ?_)) hcl (by kernel_rfl) (op := (.load 23 (.tmp 22))) (by kernel_rfl) (by kernel_rfl) (fun w hw o ho => run_load1 (c := C.int .u64 v_37) ho (by kernel_rfl) (by kernel_rfl) (Cell.own 1 rfl (getI_some h_36)) _ hw) fun a hs => ?_
      obtain ⟨h_38, hm⟩ := ite_t hm
      refine Vk.dTake (i := 5) (some 26) (.int .u8 (shr .u8 e_23 q_30)) hs (by kernel_rfl) (by repeat' (first | exact Vk.Calm.post | refine Vk.Calm.then ?_ | refine Vk.Calm.inBlock ?_)) hcl (by kernel_rfl) (op := (.binOp .shr 5 (.tmp 24) (.tmp 25) 3)) (by kernel_rfl) (by kernel_rfl) (fun w hw o ho => run_shr (k' := .i64) ho (by kernel_rfl) (by kernel_rfl) h_38 _) fun a hs => ?_
      refine Vk.dPures [6, 7] [(28, .int .u64 (IntKind.u64.wrap (band .u8 (shr .u8 e_23 q_30) 1))), (27, .int .u8 (band .u8 (shr .u8 e_23 q_30) 1))] hs (by kernel_rfl) (by repeat' (first | exact Vk.Calm.post | refine Vk.Calm.then ?_ | refine Vk.Calm.inBlock ?_)) hcl (by kernel_rfl) (fuel := 4) rfl fun a hs => ?_
      obtain ⟨h_39, hm⟩ := ite_t hm
      refine Vk.dTake (i := 9) (some 30) (.int .u64 (shl .u64 (IntKind.u64.wrap (band .u8 (shr .u8 e_23 q_30) 1)) q_15)) hs (by kernel_rfl) (by repeat' (first | exact Vk.Calm.post | refine Vk.Calm.then ?_ | refine Vk.Calm.inBlock ?_)) hcl (by kernel_rfl) (op := (.binOp .shl 23 (.tmp 28) (.tmp 29) 3)) (by kernel_rfl) (by kernel_rfl) (fun w hw o ho => run_shl (k' := .i64) ho (by kernel_rfl) (by kernel_rfl) h_39 _) fun a hs => ?_
      refine Vk.dPures [10] [(31, .int .u64 (bor .u64 v_37 (shl .u64 (IntKind.u64.wrap (band .u8 (shr .u8 e_23 q_30) 1)) q_15)))] hs (by kernel_rfl) (by repeat' (first | exact Vk.Calm.post | refine Vk.Calm.then ?_ | refine Vk.Calm.inBlock ?_)) hcl (by kernel_rfl) (fuel := 2) rfl fun a hs => ?_
      obtain ⟨h_40, hm⟩ := ite_t hm
      refine Vk.dTake (i := 11) (some 32) (.pointer (some ⟨b_4, 0 + q_30.toNat * 1, none⟩)) hs (by kernel_rfl) (by repeat' (first | exact Vk.Calm.post | refine Vk.Calm.then ?_ | refine Vk.Calm.inBlock ?_)) hcl (by kernel_rfl) (op := (.indexAddr 24 (.tmp 3) (.tmp 21))) (by kernel_rfl) (by kernel_rfl) (fun w hw o ho => run_idxArr (k := .i64) ho (by kernel_rfl) (by kernel_rfl) (by kernel_rfl) h_40 _) fun a hs => ?_
      obtain ⟨h_41, hm⟩ := ite_t hm
      refine Vk.dOnly (i := 12) (by kernel_rfl) (Vk.store1 (ty := 23) (x := (.tmp 32)) (y := (.tmp 31)) (C.int .u64 (bor .u64 v_37 (shl .u64 (IntKind.u64.wrap (band .u8 (shr .u8 e_23 q_30) 1)) q_15))) 1 hs (by kernel_rfl) (by kernel_rfl) (by kernel_rfl) (by kernel_rfl) (by kernel_rfl) (by kernel_rfl) rfl h_41 fun a w hs => ?_)
      refine ⟨fun h => absurd h (by decide), ?_⟩
      replace hs := hs.to (l := [pt b_2 (blk [C.int .u64 0, C.int .u64 0, C.int .u64 0, C.int .u64 0, C.int .u64 0, C.int .u64 0, C.int .u64 0, C.int .u64 0] 24), pt b_4 (blk (q_29.set (0 + q_30.toNat * 1) (C.int .u64 (bor .u64 v_37 (shl .u64 (IntKind.u64.wrap (band .u8 (shr .u8 e_23 q_30) 1)) q_15)))) 24)]) [2, 3, 4, 5, 11, 12, 13, 18] [0, 1] (L' := [(2, .pointer (some ⟨b_2, 0, none⟩)), (3, .pointer (some ⟨b_4, 0, none⟩)), (4, .int .i64 q_15), (5, .int .u8 e_23), (11, .slice A_8 ((cut x0 (0) ((mn ((x0.length : Nat) : Int) 64).toNat)).length) c_9), (12, .int .i64 (((cut x0 (0) ((mn ((x0.length : Nat) : Int) 64).toNat)).length : Nat) : Int)), (13, .int .i64 q_15), (18, .int .i64 q_30)]) (l' := [pt b_2 (blk [C.int .u64 0, C.int .u64 0, C.int .u64 0, C.int .u64 0, C.int .u64 0, C.int .u64 0, C.int .u64 0, C.int .u64 0] 24), pt b_4 (blk (q_29.set (0 + q_30.toNat * 1) (C.int .u64 (bor .u64 v_37 (shl .u64 (IntKind.u64.wrap (band .u8 (shr .u8 e_23 q_30) 1)) q_15)))) 24)]) (by kernel_rfl) (by kernel_rfl) (by kernel_rfl)
      refine Vk.dDone (by kernel_rfl) ?_
      refine hK33 _ _ ?_
      clear hK33
      refine Vk.region ?_
      refine Vk.pures 2 [(18, .int .i64 (IntKind.i64.wrap (q_30 + 1))), (33, .int .i64 (IntKind.i64.wrap (q_30 + 1)))] hs (by kernel_rfl) fun a hs => ?_
      replace hs := hs.to (l := [pt b_2 (blk [C.int .u64 0, C.int .u64 0, C.int .u64 0, C.int .u64 0, C.int .u64 0, C.int .u64 0, C.int .u64 0, C.int .u64 0] 24), pt b_4 (blk (q_29.set (0 + q_30.toNat * 1) (C.int .u64 (bor .u64 v_37 (shl .u64 (IntKind.u64.wrap (band .u8 (shr .u8 e_23 q_30) 1)) q_15)))) 24)]) [2, 3, 4, 5, 11, 12, 13, 18] [0, 1] (L' := [(2, .pointer (some ⟨b_2, 0, none⟩)), (3, .pointer (some ⟨b_4, 0, none⟩)), (4, .int .i64 q_15), (5, .int .u8 e_23), (11, .slice A_8 ((cut x0 (0) ((mn ((x0.length : Nat) : Int) 64).toNat)).length) c_9), (12, .int .i64 (((cut x0 (0) ((mn ((x0.length : Nat) : Int) 64).toNat)).length : Nat) : Int)), (13, .int .i64 q_15), (18, .int .i64 (IntKind.i64.wrap (q_30 + 1)))]) (l' := [pt b_2 (blk [C.int .u64 0, C.int .u64 0, C.int .u64 0, C.int .u64 0, C.int .u64 0, C.int .u64 0, C.int .u64 0, C.int .u64 0] 24), pt b_4 (blk (q_29.set (0 + q_30.toNat * 1) (C.int .u64 (bor .u64 v_37 (shl .u64 (IntKind.u64.wrap (band .u8 (shr .u8 e_23 q_30) 1)) q_15)))) 24)]) (by kernel_rfl) (by kernel_rfl) (by kernel_rfl)
      refine Vk.done (by kernel_rfl) ?_
      refine ih ((q_29.set (0 + q_30.toNat * 1) (C.int .u64 (bor .u64 v_37 (shl .u64 (IntKind.u64.wrap (band .u8 (shr .u8 e_23 q_30) 1)) q_15)))), (IntKind.i64.wrap (q_30 + 1))) _ _ ⟨hm, hs.to (l := [pt b_2 (blk [C.int .u64 0, C.int .u64 0, C.int .u64 0, C.int .u64 0, C.int .u64 0, C.int .u64 0, C.int .u64 0, C.int .u64 0] 24), pt b_4 (blk (q_29.set (0 + q_30.toNat * 1) (C.int .u64 (bor .u64 v_37 (shl .u64 (IntKind.u64.wrap (band .u8 (shr .u8 e_23 q_30) 1)) q_15)))) 24)]) [2, 3, 4, 5, 11, 12, 13, 18] [0, 1] (L' := [(2, .pointer (some ⟨b_2, 0, none⟩)), (3, .pointer (some ⟨b_4, 0, none⟩)), (4, .int .i64 q_15), (5, .int .u8 e_23), (11, .slice A_8 ((cut x0 (0) ((mn ((x0.length : Nat) : Int) 64).toNat)).length) c_9), (12, .int .i64 (((cut x0 (0) ((mn ((x0.length : Nat) : Int) 64).toNat)).length : Nat) : Int)), (13, .int .i64 q_15), (18, .int .i64 (IntKind.i64.wrap (q_30 + 1)))]) (l' := [pt b_2 (blk [C.int .u64 0, C.int .u64 0, C.int .u64 0, C.int .u64 0, C.int .u64 0, C.int .u64 0, C.int .u64 0, C.int .u64 0] 24), pt b_4 (blk (q_29.set (0 + q_30.toNat * 1) (C.int .u64 (bor .u64 v_37 (shl .u64 (IntKind.u64.wrap (band .u8 (shr .u8 e_23 q_30) 1)) q_15)))) 24)]) (by kernel_rfl) (by kernel_rfl) (by kernel_rfl)⟩
    · replace hm := bif_f hm hb
      refine wp_exit ?_
      exact hx28 q_29 (Option.some.inj hm).symm _ _ (hs.to (l := [pt b_2 (blk [C.int .u64 0, C.int .u64 0, C.int .u64 0, C.int .u64 0, C.int .u64 0, C.int .u64 0, C.int .u64 0, C.int .u64 0] 24), pt b_4 (blk q_29 24)]) [2, 3, 11, 12, 13] [0, 1] (L' := [(2, .pointer (some ⟨b_2, 0, none⟩)), (3, .pointer (some ⟨b_4, 0, none⟩)), (11, .slice A_8 ((cut x0 (0) ((mn ((x0.length : Nat) : Int) 64).toNat)).length) c_9), (12, .int .i64 (((cut x0 (0) ((mn ((x0.length : Nat) : Int) 64).toNat)).length : Nat) : Int)), (13, .int .i64 q_15)]) (l' := [pt b_2 (blk [C.int .u64 0, C.int .u64 0, C.int .u64 0, C.int .u64 0, C.int .u64 0, C.int .u64 0, C.int .u64 0, C.int .u64 0] 24), pt b_4 (blk q_29 24)]) (by kernel_rfl) (by kernel_rfl) (by kernel_rfl))
  · replace hm := bif_f hm hb
    refine wp_exit ?_
    exact hx13 q_14 (Option.some.inj hm).symm _ _ (hs.to (l := [pt b_2 (blk [C.int .u64 0, C.int .u64 0, C.int .u64 0, C.int .u64 0, C.int .u64 0, C.int .u64 0, C.int .u64 0, C.int .u64 0] 24), pt b_4 (blk q_14 24)]) [2, 3] [0, 1] (L' := [(2, .pointer (some ⟨b_2, 0, none⟩)), (3, .pointer (some ⟨b_4, 0, none⟩))]) (l' := [pt b_2 (blk [C.int .u64 0, C.int .u64 0, C.int .u64 0, C.int .u64 0, C.int .u64 0, C.int .u64 0, C.int .u64 0, C.int .u64 0] 24), pt b_4 (blk q_14 24)]) (by kernel_rfl) (by kernel_rfl) (by kernel_rfl))


def visorref33_Cut.l2 (x0 : List Int) (q_9 : Int) : Nat → Cells → Int → Option (Cells)
  | 0, _, _ => none
  | k + 1, q_16, q_17 => (bif decide (q_17 < 8) then (if 0 ≤ q_17 ∧ q_17 < 8 then (getI .u64 q_16 (0 + q_17.toNat * 1)).bind fun v_23 => (if 0 ≤ q_9 then (x0[q_9.toNat]?).bind fun e_27 => (if 0 ≤ IntKind.u64.wrap q_17 then (if 0 ≤ IntKind.u64.wrap q_9 then (if 0 ≤ q_17 ∧ q_17 < 8 then (if 0 + q_17.toNat * 1 < q_16.length then visorref33_Cut.l2 x0 q_9 k (q_16.set (0 + q_17.toNat * 1) (C.int .u64 (IntKind.u64.wrap (v_23 + (shl .u64 (IntKind.u64.wrap (Int.tmod (shr .u8 e_27 (IntKind.u64.wrap q_17)) 2)) (IntKind.u64.wrap q_9)))))) (IntKind.i64.wrap (q_17 + 1)) else none) else none) else none) else none) else none) else none) else some q_16)
def visorref33_Cut.l1 (x0 : List Int) : Nat → Cells → Int → Option (Cells)
  | 0, _, _ => none
  | k + 1, q_8, q_9 => (bif (decide (q_9 < ((x0.length : Nat) : Int))) && (decide (q_9 < 64)) then (visorref33_Cut.l2 x0 q_9 k q_8 0).bind fun p_35 => visorref33_Cut.l1 x0 k p_35 (IntKind.i64.wrap (q_9 + 1)) else some q_8)
def visorref33_Cut.m (k : Nat) (x0 : List Int) : Option Cells := (visorref33_Cut.l1 x0 k [C.int .u64 0, C.int .u64 0, C.int .u64 0, C.int .u64 0, C.int .u64 0, C.int .u64 0, C.int .u64 0, C.int .u64 0] 0).bind fun p_38 => (if p_38.length = 8 then some p_38 else none)

set_option maxRecDepth 100000 in
set_option maxHeartbeats 4000000 in
theorem visorref33_Cut.ok (k : Nat) (x0 : List Int) (r : Cells) (hm : visorref33_Cut.m k x0 = some r) (κ : Ctx) (w : World) (S : List HP) (A_x0 : Option Addr) (c_x0 : Nat) (hx_x0 : Sl κ S A_x0 c_x0 1 (eI .u8) x0) (ho : Own κ w (S)) :
    Calls Try.prog 16 #[.slice A_x0 x0.length c_x0] w (fun e w' => e = .returned (.agg (vals r)) ∧ Own κ w' (S)) := by
  unfold visorref33_Cut.m at hm
  refine Vk.enter [(0, .slice A_x0 x0.length c_x0)] Try.func16 rfl Try.ntmps16 (by kernel_rfl) (Nat.le_of_ble_eq_true (by kernel_rfl)) ho fun a hs => ?_
  refine Vk.seq fun K1 hK1 => ?_
  refine Vk.region ?_
  refine Vk.step (Vk.alloc 2 24 [C.int .u64 0, C.int .u64 0, C.int .u64 0, C.int .u64 0, C.int .u64 0, C.int .u64 0, C.int .u64 0, C.int .u64 0] hs (by kernel_rfl) (by kernel_rfl) (by kernel_rfl) fun b_2 w a hs => ?_)
  replace hs := hs.to (l := [pt b_2 (blk [C.int .u64 0, C.int .u64 0, C.int .u64 0, C.int .u64 0, C.int .u64 0, C.int .u64 0, C.int .u64 0, C.int .u64 0] 24)]) [0, 2] [0] (L' := [(0, .slice A_x0 x0.length c_x0), (2, .pointer (some ⟨b_2, 0, none⟩))]) (l' := [pt b_2 (blk [C.int .u64 0, C.int .u64 0, C.int .u64 0, C.int .u64 0, C.int .u64 0, C.int .u64 0, C.int .u64 0, C.int .u64 0] 24)]) (by kernel_rfl) (by kernel_rfl) (by kernel_rfl)
  refine Vk.done (by kernel_rfl) ?_
  refine hK1 _ _ ?_
  clear hK1
  refine Vk.seq fun K3 hK3 => ?_
  refine Vk.region ?_
  refine Vk.pures 1 [(6, .agg (vals [C.int .u64 0, C.int .u64 0, C.int .u64 0, C.int .u64 0, C.int .u64 0, C.int .u64 0, C.int .u64 0, C.int .u64 0]))] hs (by kernel_rfl) fun a hs => ?_
  refine Vk.step (Vk.alloc 3 24 [C.int .u64 0, C.int .u64 0, C.int .u64 0, C.int .u64 0, C.int .u64 0, C.int .u64 0, C.int .u64 0, C.int .u64 0] hs (by kernel_rfl) (by kernel_rfl) (by kernel_rfl) fun b_4 w a hs => ?_)
  refine Vk.step (Vk.storeA (ty := 24) (x := (.tmp 3)) (y := (.tmp 6)) (sz := 8) [C.int .u64 0, C.int .u64 0, C.int .u64 0, C.int .u64 0, C.int .u64 0, C.int .u64 0, C.int .u64 0, C.int .u64 0] 0 hs (by kernel_rfl) (by kernel_rfl) (by kernel_rfl) (by kernel_rfl) (by kernel_rfl) rfl (by kernel_rfl) rfl (Eq.trans (b := 8) rfl (Eq.symm rfl)) fun a w hs => ?_)
  replace hs := hs.to (l := [pt b_4 (blk [C.int .u64 0, C.int .u64 0, C.int .u64 0, C.int .u64 0, C.int .u64 0, C.int .u64 0, C.int .u64 0, C.int .u64 0] 24), pt b_2 (blk [C.int .u64 0, C.int .u64 0, C.int .u64 0, C.int .u64 0, C.int .u64 0, C.int .u64 0, C.int .u64 0, C.int .u64 0] 24)]) [0, 2, 3] [0, 1] (L' := [(0, .slice A_x0 x0.length c_x0), (2, .pointer (some ⟨b_2, 0, none⟩)), (3, .pointer (some ⟨b_4, 0, none⟩))]) (l' := [pt b_4 (blk [C.int .u64 0, C.int .u64 0, C.int .u64 0, C.int .u64 0, C.int .u64 0, C.int .u64 0, C.int .u64 0, C.int .u64 0] 24), pt b_2 (blk [C.int .u64 0, C.int .u64 0, C.int .u64 0, C.int .u64 0, C.int .u64 0, C.int .u64 0, C.int .u64 0, C.int .u64 0] 24)]) (by kernel_rfl) (by kernel_rfl) (by kernel_rfl)
  refine Vk.done (by kernel_rfl) ?_
  refine hK3 _ _ ?_
  clear hK3
  refine Vk.seq fun K5 hK5 => ?_
  refine Vk.seq fun K6 hK6 => ?_
  refine Vk.region ?_
  refine Vk.pures 1 [(4, .int .i64 0)] hs (by kernel_rfl) fun a hs => ?_
  replace hs := hs.to (l := [pt b_4 (blk [C.int .u64 0, C.int .u64 0, C.int .u64 0, C.int .u64 0, C.int .u64 0, C.int .u64 0, C.int .u64 0, C.int .u64 0] 24), pt b_2 (blk [C.int .u64 0, C.int .u64 0, C.int .u64 0, C.int .u64 0, C.int .u64 0, C.int .u64 0, C.int .u64 0, C.int .u64 0] 24)]) [0, 2, 3, 4] [0, 1] (L' := [(0, .slice A_x0 x0.length c_x0), (2, .pointer (some ⟨b_2, 0, none⟩)), (3, .pointer (some ⟨b_4, 0, none⟩)), (4, .int .i64 0)]) (l' := [pt b_4 (blk [C.int .u64 0, C.int .u64 0, C.int .u64 0, C.int .u64 0, C.int .u64 0, C.int .u64 0, C.int .u64 0, C.int .u64 0] 24), pt b_2 (blk [C.int .u64 0, C.int .u64 0, C.int .u64 0, C.int .u64 0, C.int .u64 0, C.int .u64 0, C.int .u64 0, C.int .u64 0] 24)]) (by kernel_rfl) (by kernel_rfl) (by kernel_rfl)
  refine Vk.done (by kernel_rfl) ?_
  refine hK6 _ _ ?_
  clear hK6
  refine wp_block ?_
  obtain ⟨r7, hl7, hm⟩ := bind_t hm
  have hx7 : ∀ (p_38 : Cells), r7 = p_38 → ∀ (a : Act) (w : World), St 40 a w κ [(2, .pointer (some ⟨b_2, 0, none⟩)), (3, .pointer (some ⟨b_4, 0, none⟩))] (pt b_2 (blk [C.int .u64 0, C.int .u64 0, C.int .u64 0, C.int .u64 0, C.int .u64 0, C.int .u64 0, C.int .u64 0, C.int .u64 0] 24) :: pt b_4 (blk p_38 24) :: S) → K5 a w := by
    intro p_38 he a w hs
    subst r7
    refine hK5 _ _ ?_
    clear hK5
    refine Vk.seq fun K41 hK41 => ?_
    refine Vk.region ?_
    obtain ⟨h_42, hm⟩ := ite_t hm
    refine Vk.step (Vk.value (some 39) (.agg (vals p_38)) hs (by kernel_rfl) (op := (.load 24 (.tmp 3))) (by kernel_rfl) (fun o ho => run_loadN (cs := p_38) ho (by kernel_rfl) (by kernel_rfl) h_42 (CellsAt.all 1 rfl) _ hs.own) fun a hs => ?_)
    refine Vk.step (Vk.storeA (ty := 24) (x := (.tmp 2)) (y := (.tmp 39)) (sz := 8) p_38 0 hs (by kernel_rfl) (by kernel_rfl) (by kernel_rfl) (by kernel_rfl) (by kernel_rfl) h_42 (by kernel_rfl) rfl (Eq.trans (b := 8) h_42 (Eq.symm rfl)) fun a w hs => ?_)
    replace hs := hs.to (l := [pt b_2 (blk p_38 24), pt b_4 (blk p_38 24)]) [2] [0] (L' := [(2, .pointer (some ⟨b_2, 0, none⟩))]) (l' := [pt b_2 (blk p_38 24)]) (by kernel_rfl) (by kernel_rfl) (by kernel_rfl)
    refine Vk.done (by kernel_rfl) ?_
    refine hK41 _ _ ?_
    clear hK41
    refine wp_ret ?_
    replace hs := hs.to (l := [pt b_2 (blk p_38 24)]) [2] [0] (L' := [(2, .pointer (some ⟨b_2, 0, none⟩))]) (l' := [pt b_2 (blk p_38 24)]) (by kernel_rfl) (by kernel_rfl) (by kernel_rfl)
    exact Vk.retC (P := Try.prog) (fn := Try.f16) (R := fun e w' => e = .returned (.agg (vals r)) ∧ Own κ w' (S)) p_38 hs rfl (by kernel_rfl) (sz := 8) (by kernel_rfl) h_42 (CellsAt.all 0 rfl) (by obtain rfl := Option.some.inj hm; exact ⟨rfl, hs.own.drop⟩)
  refine Vk.loopBy (fun k (s : Cells × Int) a w => visorref33_Cut.l1 x0 k s.1 s.2 = some r7 ∧ St 40 a w κ [(0, .slice A_x0 x0.length c_x0), (2, .pointer (some ⟨b_2, 0, none⟩)), (3, .pointer (some ⟨b_4, 0, none⟩)), (4, .int .i64 s.2)] (pt b_2 (blk [C.int .u64 0, C.int .u64 0, C.int .u64 0, C.int .u64 0, C.int .u64 0, C.int .u64 0, C.int .u64 0, C.int .u64 0] 24) :: pt b_4 (blk s.1 24) :: S)) k ([C.int .u64 0, C.int .u64 0, C.int .u64 0, C.int .u64 0, C.int .u64 0, C.int .u64 0, C.int .u64 0, C.int .u64 0], 0) ⟨hl7, hs.to (l := [pt b_4 (blk [C.int .u64 0, C.int .u64 0, C.int .u64 0, C.int .u64 0, C.int .u64 0, C.int .u64 0, C.int .u64 0, C.int .u64 0] 24), pt b_2 (blk [C.int .u64 0, C.int .u64 0, C.int .u64 0, C.int .u64 0, C.int .u64 0, C.int .u64 0, C.int .u64 0, C.int .u64 0] 24)]) [0, 2, 3, 4] [1, 0] (L' := [(0, .slice A_x0 x0.length c_x0), (2, .pointer (some ⟨b_2, 0, none⟩)), (3, .pointer (some ⟨b_4, 0, none⟩)), (4, .int .i64 0)]) (l' := [pt b_2 (blk [C.int .u64 0, C.int .u64 0, C.int .u64 0, C.int .u64 0, C.int .u64 0, C.int .u64 0, C.int .u64 0, C.int .u64 0] 24), pt b_4 (blk [C.int .u64 0, C.int .u64 0, C.int .u64 0, C.int .u64 0, C.int .u64 0, C.int .u64 0, C.int .u64 0, C.int .u64 0] 24)]) (by kernel_rfl) (by kernel_rfl) (by kernel_rfl)⟩ (fun s a w h => by obtain ⟨h1, _⟩ := h; simp [visorref33_Cut.l1] at h1) (fun k KL7 ih s a w h => ?_)
  obtain ⟨q_8, q_9⟩ := s
  obtain ⟨hm, hs⟩ := h
  try dsimp only at hm hs
  rw [visorref33_Cut.l1] at hm
  refine Vk.seq fun K10 hK10 => ?_
  refine Vk.seq fun K11 hK11 => ?_
  refine Vk.region ?_
  refine Vk.pures 5 [(11, .bool (decide (q_9 < ((x0.length : Nat) : Int)))), (10, .bool (decide (q_9 < ((x0.length : Nat) : Int)))), (9, .int .i64 ((x0.length : Nat) : Int)), (8, .slice A_x0 x0.length c_x0), (7, .int .i64 q_9)] hs (by kernel_rfl) fun a hs => ?_
  suffices hj_12 : ∀ a, St 40 a w κ [(0, .slice A_x0 x0.length c_x0), (2, .pointer (some ⟨b_2, 0, none⟩)), (3, .pointer (some ⟨b_4, 0, none⟩)), (4, .int .i64 q_9), (7, .int .i64 q_9), (8, .slice A_x0 x0.length c_x0), (9, .int .i64 ((x0.length : Nat) : Int)), (10, .bool (decide (q_9 < ((x0.length : Nat) : Int)))), (11, .bool (decide (q_9 < ((x0.length : Nat) : Int)))), (14, .bool ((decide (q_9 < ((x0.length : Nat) : Int))) && (decide (q_9 < 64))))] (pt b_2 (blk [C.int .u64 0, C.int .u64 0, C.int .u64 0, C.int .u64 0, C.int .u64 0, C.int .u64 0, C.int .u64 0, C.int .u64 0] 24) :: pt b_4 (blk q_8 24) :: S) → wpFrom Try.prog _ _ 8 a w by
    rcases Bool.eq_false_or_eq_true (decide (q_9 < ((x0.length : Nat) : Int))) with hb | hb
    · replace hs := hs.known (t := 11) hb (by kernel_rfl)
      refine Vk.pures 3 [(14, .bool (decide (q_9 < 64))), (13, .bool (decide (q_9 < 64))), (12, .int .i64 q_9)] hs (by kernel_rfl) fun a hs => ?_
      have hq := hs.pick [0, 2, 3, 4, 7, 8, 9, 10, 11, 14] (L' := [(0, .slice A_x0 x0.length c_x0), (2, .pointer (some ⟨b_2, 0, none⟩)), (3, .pointer (some ⟨b_4, 0, none⟩)), (4, .int .i64 q_9), (7, .int .i64 q_9), (8, .slice A_x0 x0.length c_x0), (9, .int .i64 ((x0.length : Nat) : Int)), (10, .bool (decide (q_9 < ((x0.length : Nat) : Int)))), (11, .bool true), (14, .bool (decide (q_9 < 64)))]) (by kernel_rfl)
      exact hj_12 _ (hq.conv (by rw [hb]; rfl))
    · replace hs := hs.known (t := 11) hb (by kernel_rfl)
      refine Vk.pures 3 [(14, .bool false), (13, undef), (12, undef)] hs (by kernel_rfl) fun a hs => ?_
      have hq := hs.pick [0, 2, 3, 4, 7, 8, 9, 10, 11, 14] (L' := [(0, .slice A_x0 x0.length c_x0), (2, .pointer (some ⟨b_2, 0, none⟩)), (3, .pointer (some ⟨b_4, 0, none⟩)), (4, .int .i64 q_9), (7, .int .i64 q_9), (8, .slice A_x0 x0.length c_x0), (9, .int .i64 ((x0.length : Nat) : Int)), (10, .bool (decide (q_9 < ((x0.length : Nat) : Int)))), (11, .bool false), (14, .bool false)]) (by kernel_rfl)
      exact hj_12 _ (hq.conv (by rw [hb]; rfl))
  intro a hs
  replace hs := hs.to (l := [pt b_2 (blk [C.int .u64 0, C.int .u64 0, C.int .u64 0, C.int .u64 0, C.int .u64 0, C.int .u64 0, C.int .u64 0, C.int .u64 0] 24), pt b_4 (blk q_8 24)]) [0, 2, 3, 4, 14] [0, 1] (L' := [(0, .slice A_x0 x0.length c_x0), (2, .pointer (some ⟨b_2, 0, none⟩)), (3, .pointer (some ⟨b_4, 0, none⟩)), (4, .int .i64 q_9), (14, .bool ((decide (q_9 < ((x0.length : Nat) : Int))) && (decide (q_9 < 64))))]) (l' := [pt b_2 (blk [C.int .u64 0, C.int .u64 0, C.int .u64 0, C.int .u64 0, C.int .u64 0, C.int .u64 0, C.int .u64 0, C.int .u64 0] 24), pt b_4 (blk q_8 24)]) (by kernel_rfl) (by kernel_rfl) (by kernel_rfl)
  refine Vk.done (by kernel_rfl) ?_
  refine hK11 _ _ ?_
  clear hK11
  refine Vk.condS (b := (decide (q_9 < ((x0.length : Nat) : Int))) && (decide (q_9 < 64))) hs (by kernel_rfl) (by kernel_rfl) (fun hb => ?_) (fun hb => ?_)
  · replace hm := bif_t hm hb
    refine wp_skip ?_
    refine hK10 _ _ ?_
    clear hK10
    refine Vk.seq fun K13 hK13 => ?_
    refine wp_block ?_
    refine Vk.seq fun K14 hK14 => ?_
    refine Vk.region ?_
    refine Vk.pures 1 [(5, .int .i64 0)] hs (by kernel_rfl) fun a hs => ?_
    replace hs := hs.to (l := [pt b_2 (blk [C.int .u64 0, C.int .u64 0, C.int .u64 0, C.int .u64 0, C.int .u64 0, C.int .u64 0, C.int .u64 0, C.int .u64 0] 24), pt b_4 (blk q_8 24)]) [0, 2, 3, 4, 5] [0, 1] (L' := [(0, .slice A_x0 x0.length c_x0), (2, .pointer (some ⟨b_2, 0, none⟩)), (3, .pointer (some ⟨b_4, 0, none⟩)), (4, .int .i64 q_9), (5, .int .i64 0)]) (l' := [pt b_2 (blk [C.int .u64 0, C.int .u64 0, C.int .u64 0, C.int .u64 0, C.int .u64 0, C.int .u64 0, C.int .u64 0, C.int .u64 0] 24), pt b_4 (blk q_8 24)]) (by kernel_rfl) (by kernel_rfl) (by kernel_rfl)
    refine Vk.done (by kernel_rfl) ?_
    refine hK14 _ _ ?_
    clear hK14
    refine wp_block ?_
    obtain ⟨r15, hl15, hm⟩ := bind_t hm
    have hx15 : ∀ (p_35 : Cells), r15 = p_35 → ∀ (a : Act) (w : World), St 40 a w κ [(0, .slice A_x0 x0.length c_x0), (2, .pointer (some ⟨b_2, 0, none⟩)), (3, .pointer (some ⟨b_4, 0, none⟩)), (4, .int .i64 q_9)] (pt b_2 (blk [C.int .u64 0, C.int .u64 0, C.int .u64 0, C.int .u64 0, C.int .u64 0, C.int .u64 0, C.int .u64 0, C.int .u64 0] 24) :: pt b_4 (blk p_35 24) :: S) → K13 a w := by
      intro p_35 he a w hs
      subst r15
      refine hK13 _ _ ?_
      clear hK13
      refine Vk.region ?_
      refine Vk.pures 3 [(4, .int .i64 (IntKind.i64.wrap (q_9 + 1))), (16, .int .i64 (IntKind.i64.wrap (q_9 + 1))), (15, .int .i64 q_9)] hs (by kernel_rfl) fun a hs => ?_
      replace hs := hs.to (l := [pt b_2 (blk [C.int .u64 0, C.int .u64 0, C.int .u64 0, C.int .u64 0, C.int .u64 0, C.int .u64 0, C.int .u64 0, C.int .u64 0] 24), pt b_4 (blk p_35 24)]) [0, 2, 3, 4] [0, 1] (L' := [(0, .slice A_x0 x0.length c_x0), (2, .pointer (some ⟨b_2, 0, none⟩)), (3, .pointer (some ⟨b_4, 0, none⟩)), (4, .int .i64 (IntKind.i64.wrap (q_9 + 1)))]) (l' := [pt b_2 (blk [C.int .u64 0, C.int .u64 0, C.int .u64 0, C.int .u64 0, C.int .u64 0, C.int .u64 0, C.int .u64 0, C.int .u64 0] 24), pt b_4 (blk p_35 24)]) (by kernel_rfl) (by kernel_rfl) (by kernel_rfl)
      refine Vk.done (by kernel_rfl) ?_
      refine ih (p_35, (IntKind.i64.wrap (q_9 + 1))) _ _ ⟨hm, hs.to (l := [pt b_2 (blk [C.int .u64 0, C.int .u64 0, C.int .u64 0, C.int .u64 0, C.int .u64 0, C.int .u64 0, C.int .u64 0, C.int .u64 0] 24), pt b_4 (blk p_35 24)]) [0, 2, 3, 4] [0, 1] (L' := [(0, .slice A_x0 x0.length c_x0), (2, .pointer (some ⟨b_2, 0, none⟩)), (3, .pointer (some ⟨b_4, 0, none⟩)), (4, .int .i64 (IntKind.i64.wrap (q_9 + 1)))]) (l' := [pt b_2 (blk [C.int .u64 0, C.int .u64 0, C.int .u64 0, C.int .u64 0, C.int .u64 0, C.int .u64 0, C.int .u64 0, C.int .u64 0] 24), pt b_4 (blk p_35 24)]) (by kernel_rfl) (by kernel_rfl) (by kernel_rfl)⟩
    refine Vk.loopBy (fun k (s : Cells × Int) a w => visorref33_Cut.l2 x0 q_9 k s.1 s.2 = some r15 ∧ St 40 a w κ [(0, .slice A_x0 x0.length c_x0), (2, .pointer (some ⟨b_2, 0, none⟩)), (3, .pointer (some ⟨b_4, 0, none⟩)), (4, .int .i64 q_9), (5, .int .i64 s.2)] (pt b_2 (blk [C.int .u64 0, C.int .u64 0, C.int .u64 0, C.int .u64 0, C.int .u64 0, C.int .u64 0, C.int .u64 0, C.int .u64 0] 24) :: pt b_4 (blk s.1 24) :: S)) k (q_8, 0) ⟨hl15, hs.to (l := [pt b_2 (blk [C.int .u64 0, C.int .u64 0, C.int .u64 0, C.int .u64 0, C.int .u64 0, C.int .u64 0, C.int .u64 0, C.int .u64 0] 24), pt b_4 (blk q_8 24)]) [0, 2, 3, 4, 5] [0, 1] (L' := [(0, .slice A_x0 x0.length c_x0), (2, .pointer (some ⟨b_2, 0, none⟩)), (3, .pointer (some ⟨b_4, 0, none⟩)), (4, .int .i64 q_9), (5, .int .i64 0)]) (l' := [pt b_2 (blk [C.int .u64 0, C.int .u64 0, C.int .u64 0, C.int .u64 0, C.int .u64 0, C.int .u64 0, C.int .u64 0, C.int .u64 0] 24), pt b_4 (blk q_8 24)]) (by kernel_rfl) (by kernel_rfl) (by kernel_rfl)⟩ (fun s a w h => by obtain ⟨h1, _⟩ := h; simp [visorref33_Cut.l2] at h1) (fun k KL15 ih s a w h => ?_)
    obtain ⟨q_16, q_17⟩ := s
    obtain ⟨hm, hs⟩ := h
    try dsimp only at hm hs
    rw [visorref33_Cut.l2] at hm
    refine Vk.seq fun K18 hK18 => ?_
    refine Vk.seq fun K19 hK19 => ?_
    refine Vk.region ?_
    refine Vk.pures 2 [(18, .bool (decide (q_17 < 8))), (17, .int .i64 q_17)] hs (by kernel_rfl) fun a hs => ?_
    replace hs := hs.to (l := [pt b_2 (blk [C.int .u64 0, C.int .u64 0, C.int .u64 0, C.int .u64 0, C.int .u64 0, C.int .u64 0, C.int .u64 0, C.int .u64 0] 24), pt b_4 (blk q_16 24)]) [0, 2, 3, 4, 5, 18] [0, 1] (L' := [(0, .slice A_x0 x0.length c_x0), (2, .pointer (some ⟨b_2, 0, none⟩)), (3, .pointer (some ⟨b_4, 0, none⟩)), (4, .int .i64 q_9), (5, .int .i64 q_17), (18, .bool (decide (q_17 < 8)))]) (l' := [pt b_2 (blk [C.int .u64 0, C.int .u64 0, C.int .u64 0, C.int .u64 0, C.int .u64 0, C.int .u64 0, C.int .u64 0, C.int .u64 0] 24), pt b_4 (blk q_16 24)]) (by kernel_rfl) (by kernel_rfl) (by kernel_rfl)
    refine Vk.done (by kernel_rfl) ?_
    refine hK19 _ _ ?_
    clear hK19
    refine Vk.condS (b := decide (q_17 < 8)) hs (by kernel_rfl) (by kernel_rfl) (fun hb => ?_) (fun hb => ?_)
    · replace hm := bif_t hm hb
      refine wp_skip ?_
      refine hK18 _ _ ?_
      clear hK18
      refine Vk.seq fun K20 hK20 => ?_
      refine wp_block ?_
      refine Vk.drawnT 18 κ (pt b_2 (blk [C.int .u64 0, C.int .u64 0, C.int .u64 0, C.int .u64 0, C.int .u64 0, C.int .u64 0, C.int .u64 0, C.int .u64 0] 24) :: pt b_4 (blk q_16 24) :: S) hs (by kernel_rfl) fun w hs => ?_
      have hcl := Own.pickS (l := [pt b_2 (blk [C.int .u64 0, C.int .u64 0, C.int .u64 0, C.int .u64 0, C.int .u64 0, C.int .u64 0, C.int .u64 0, C.int .u64 0] 24), pt b_4 (blk q_16 24)]) (l' := [pt b_2 (blk [C.int .u64 0, C.int .u64 0, C.int .u64 0, C.int .u64 0, C.int .u64 0, C.int .u64 0, C.int .u64 0, C.int .u64 0] 24), pt b_4 (blk q_16 24)]) hs.own [0, 1] (by kernel_rfl) (by kernel_rfl)
      refine Vk.dPures [0, 1, 4, 5, 8, 9, 13, 14] [(35, .int .u64 (IntKind.u64.wrap q_9)), (34, .int .i64 q_9), (30, .int .u64 (IntKind.u64.wrap q_17)), (29, .int .i64 q_17), (26, .int .i64 q_9), (25, .slice A_x0 x0.length c_x0), (22, .int .i64 q_17), (21, .int .i64 q_17)] hs (by kernel_rfl) (by repeat' (first | exact Vk.Calm.post | refine Vk.Calm.then ?_ | refine Vk.Calm.inBlock ?_)) hcl (by kernel_rfl) (fuel := 11) rfl fun a hs => ?_
      obtain ⟨h_21, hm⟩ := ite_t hm
      refine Vk.dTake (i := 2) (some 23) (.pointer (some ⟨b_4, 0 + q_17.toNat * 1, none⟩)) hs (by kernel_rfl) (by repeat' (first | exact Vk.Calm.post | refine Vk.Calm.then ?_ | refine Vk.Calm.inBlock ?_)) hcl (by kernel_rfl) (op := (.indexAddr 24 (.tmp 3) (.tmp 22))) (by kernel_rfl) (by kernel_rfl) (fun w hw o ho => run_idxArr (k := .i64) ho (by kernel_rfl) (by kernel_rfl) (by kernel_rfl) h_21 _) fun a hs => ?_
      obtain ⟨v_23, h_22, hm⟩ := bind_t hm
      refine Vk.dTake (i := 3) (some 24) (.int .u64 v_23) hs (by kernel_rfl) (by repeat' (first | exact Vk.Calm.post | refine Vk.Calm.then ?_ | refine Vk.Calm.inBlock ?_)) hcl (by kernel_rfl) (op := (.load 23 (.tmp 23))) (by kernel_rfl) (by kernel_rfl) (fun w hw o ho => run_load1 (c := C.int .u64 v_23) ho (by kernel_rfl) (by kernel_rfl) (Cell.own 1 rfl (getI_some h_22)) _ hw) fun a hs => ?_
      obtain ⟨h_24, hm⟩ := ite_t hm
      obtain ⟨e_27, h_25, hm⟩ := bind_t hm
      obtain ⟨b_28, o_29, hA_30, h_26⟩ := Sl.elem hx_x0 h_25
      refine Vk.dTake (i := 6) (some 27) (.pointer (some ⟨b_28, o_29 + q_9.toNat * 1, none⟩)) hs (by kernel_rfl) (by repeat' (first | exact Vk.Calm.post | refine Vk.Calm.then ?_ | refine Vk.Calm.inBlock ?_)) hcl (by kernel_rfl) (op := (.indexAddr 22 (.tmp 25) (.tmp 26))) (by kernel_rfl) (by kernel_rfl) (fun w hw o ho => run_idxSlc (k := .i64) ho (cap := c_x0) (len := x0.length) ((congrArg (fun A => Value.slice A (x0.length) (c_x0)) hA_30) ▸ (by kernel_rfl)) (by kernel_rfl) (by kernel_rfl) (idx_ok h_24 h_25) _) fun a hs => ?_
      refine Vk.dTake (i := 7) (some 28) (.int .u8 e_27) hs (by kernel_rfl) (by repeat' (first | exact Vk.Calm.post | refine Vk.Calm.then ?_ | refine Vk.Calm.inBlock ?_)) hcl (by kernel_rfl) (op := (.load 5 (.tmp 27))) (by kernel_rfl) (by kernel_rfl) (fun w hw o ho => run_load1 (c := C.int .u8 e_27) ho (by kernel_rfl) (by kernel_rfl) (fun w ho => h_26 w ho 0 _ rfl) _ hw.drop.drop) fun a hs => ?_
      obtain ⟨h_31, hm⟩ := ite_t hm
      refine Vk.dTake (i := 10) (some 31) (.int .u8 (shr .u8 e_27 (IntKind.u64.wrap q_17))) hs (by kernel_rfl) (by repeat' (first | exact Vk.Calm.post | refine Vk.Calm.then ?_ | refine Vk.Calm.inBlock ?_)) hcl (by kernel_rfl) (op := (.binOp .shr 5 (.tmp 28) (.tmp 30) 128)) (by kernel_rfl) (by kernel_rfl) (fun w hw o ho => run_shr (k' := .u64) ho (by kernel_rfl) (by kernel_rfl) h_31 _) fun a hs => ?_
      refine Vk.dPures [11, 12] [(33, .int .u64 (IntKind.u64.wrap (Int.tmod (shr .u8 e_27 (IntKind.u64.wrap q_17)) 2))), (32, .int .u8 (Int.tmod (shr .u8 e_27 (IntKind.u64.wrap q_17)) 2))] hs (by kernel_rfl) (by repeat' (first | exact Vk.Calm.post | refine Vk.Calm.then ?_ | refine Vk.Calm.inBlock ?_)) hcl (by kernel_rfl) (fuel := 4) rfl fun a hs => ?_
      obtain ⟨h_32, hm⟩ := ite_t hm
      refine Vk.dTake (i := 15) (some 36) (.int .u64 (shl .u64 (IntKind.u64.wrap (Int.tmod (shr .u8 e_27 (IntKind.u64.wrap q_17)) 2)) (IntKind.u64.wrap q_9))) hs (by kernel_rfl) (by repeat' (first | exact Vk.Calm.post | refine Vk.Calm.then ?_ | refine Vk.Calm.inBlock ?_)) hcl (by kernel_rfl) (op := (.binOp .shl 23 (.tmp 33) (.tmp 35) 128)) (by kernel_rfl) (by kernel_rfl) (fun w hw o ho => run_shl (k' := .u64) ho (by kernel_rfl) (by kernel_rfl) h_32 _) fun a hs => ?_
      refine Vk.dPures [16] [(37, .int .u64 (IntKind.u64.wrap (v_23 + (shl .u64 (IntKind.u64.wrap (Int.tmod (shr .u8 e_27 (IntKind.u64.wrap q_17)) 2)) (IntKind.u64.wrap q_9)))))] hs (by kernel_rfl) (by repeat' (first | exact Vk.Calm.post | refine Vk.Calm.then ?_ | refine Vk.Calm.inBlock ?_)) hcl (by kernel_rfl) (fuel := 2) rfl fun a hs => ?_
      obtain ⟨h_33, hm⟩ := ite_t hm
      refine Vk.dTake (i := 17) (some 38) (.pointer (some ⟨b_4, 0 + q_17.toNat * 1, none⟩)) hs (by kernel_rfl) (by repeat' (first | exact Vk.Calm.post | refine Vk.Calm.then ?_ | refine Vk.Calm.inBlock ?_)) hcl (by kernel_rfl) (op := (.indexAddr 24 (.tmp 3) (.tmp 21))) (by kernel_rfl) (by kernel_rfl) (fun w hw o ho => run_idxArr (k := .i64) ho (by kernel_rfl) (by kernel_rfl) (by kernel_rfl) h_33 _) fun a hs => ?_
      obtain ⟨h_34, hm⟩ := ite_t hm
      refine Vk.dOnly (i := 18) (by kernel_rfl) (Vk.store1 (ty := 23) (x := (.tmp 38)) (y := (.tmp 37)) (C.int .u64 (IntKind.u64.wrap (v_23 + (shl .u64 (IntKind.u64.wrap (Int.tmod (shr .u8 e_27 (IntKind.u64.wrap q_17)) 2)) (IntKind.u64.wrap q_9))))) 1 hs (by kernel_rfl) (by kernel_rfl) (by kernel_rfl) (by kernel_rfl) (by kernel_rfl) (by kernel_rfl) rfl h_34 fun a w hs => ?_)
      refine ⟨fun h => absurd h (by decide), ?_⟩
      replace hs := hs.to (l := [pt b_2 (blk [C.int .u64 0, C.int .u64 0, C.int .u64 0, C.int .u64 0, C.int .u64 0, C.int .u64 0, C.int .u64 0, C.int .u64 0] 24), pt b_4 (blk (q_16.set (0 + q_17.toNat * 1) (C.int .u64 (IntKind.u64.wrap (v_23 + (shl .u64 (IntKind.u64.wrap (Int.tmod (shr .u8 e_27 (IntKind.u64.wrap q_17)) 2)) (IntKind.u64.wrap q_9)))))) 24)]) [0, 2, 3, 4, 5] [0, 1] (L' := [(0, .slice A_x0 x0.length c_x0), (2, .pointer (some ⟨b_2, 0, none⟩)), (3, .pointer (some ⟨b_4, 0, none⟩)), (4, .int .i64 q_9), (5, .int .i64 q_17)]) (l' := [pt b_2 (blk [C.int .u64 0, C.int .u64 0, C.int .u64 0, C.int .u64 0, C.int .u64 0, C.int .u64 0, C.int .u64 0, C.int .u64 0] 24), pt b_4 (blk (q_16.set (0 + q_17.toNat * 1) (C.int .u64 (IntKind.u64.wrap (v_23 + (shl .u64 (IntKind.u64.wrap (Int.tmod (shr .u8 e_27 (IntKind.u64.wrap q_17)) 2)) (IntKind.u64.wrap q_9)))))) 24)]) (by kernel_rfl) (by kernel_rfl) (by kernel_rfl)
      refine Vk.dDone (by kernel_rfl) ?_
      refine hK20 _ _ ?_
      clear hK20
      refine Vk.region ?_
      refine Vk.pures 3 [(5, .int .i64 (IntKind.i64.wrap (q_17 + 1))), (20, .int .i64 (IntKind.i64.wrap (q_17 + 1))), (19, .int .i64 q_17)] hs (by kernel_rfl) fun a hs => ?_
      replace hs := hs.to (l := [pt b_2 (blk [C.int .u64 0, C.int .u64 0, C.int .u64 0, C.int .u64 0, C.int .u64 0, C.int .u64 0, C.int .u64 0, C.int .u64 0] 24), pt b_4 (blk (q_16.set (0 + q_17.toNat * 1) (C.int .u64 (IntKind.u64.wrap (v_23 + (shl .u64 (IntKind.u64.wrap (Int.tmod (shr .u8 e_27 (IntKind.u64.wrap q_17)) 2)) (IntKind.u64.wrap q_9)))))) 24)]) [0, 2, 3, 4, 5] [0, 1] (L' := [(0, .slice A_x0 x0.length c_x0), (2, .pointer (some ⟨b_2, 0, none⟩)), (3, .pointer (some ⟨b_4, 0, none⟩)), (4, .int .i64 q_9), (5, .int .i64 (IntKind.i64.wrap (q_17 + 1)))]) (l' := [pt b_2 (blk [C.int .u64 0, C.int .u64 0, C.int .u64 0, C.int .u64 0, C.int .u64 0, C.int .u64 0, C.int .u64 0, C.int .u64 0] 24), pt b_4 (blk (q_16.set (0 + q_17.toNat * 1) (C.int .u64 (IntKind.u64.wrap (v_23 + (shl .u64 (IntKind.u64.wrap (Int.tmod (shr .u8 e_27 (IntKind.u64.wrap q_17)) 2)) (IntKind.u64.wrap q_9)))))) 24)]) (by kernel_rfl) (by kernel_rfl) (by kernel_rfl)
      refine Vk.done (by kernel_rfl) ?_
      refine ih ((q_16.set (0 + q_17.toNat * 1) (C.int .u64 (IntKind.u64.wrap (v_23 + (shl .u64 (IntKind.u64.wrap (Int.tmod (shr .u8 e_27 (IntKind.u64.wrap q_17)) 2)) (IntKind.u64.wrap q_9)))))), (IntKind.i64.wrap (q_17 + 1))) _ _ ⟨hm, hs.to (l := [pt b_2 (blk [C.int .u64 0, C.int .u64 0, C.int .u64 0, C.int .u64 0, C.int .u64 0, C.int .u64 0, C.int .u64 0, C.int .u64 0] 24), pt b_4 (blk (q_16.set (0 + q_17.toNat * 1) (C.int .u64 (IntKind.u64.wrap (v_23 + (shl .u64 (IntKind.u64.wrap (Int.tmod (shr .u8 e_27 (IntKind.u64.wrap q_17)) 2)) (IntKind.u64.wrap q_9)))))) 24)]) [0, 2, 3, 4, 5] [0, 1] (L' := [(0, .slice A_x0 x0.length c_x0), (2, .pointer (some ⟨b_2, 0, none⟩)), (3, .pointer (some ⟨b_4, 0, none⟩)), (4, .int .i64 q_9), (5, .int .i64 (IntKind.i64.wrap (q_17 + 1)))]) (l' := [pt b_2 (blk [C.int .u64 0, C.int .u64 0, C.int .u64 0, C.int .u64 0, C.int .u64 0, C.int .u64 0, C.int .u64 0, C.int .u64 0] 24), pt b_4 (blk (q_16.set (0 + q_17.toNat * 1) (C.int .u64 (IntKind.u64.wrap (v_23 + (shl .u64 (IntKind.u64.wrap (Int.tmod (shr .u8 e_27 (IntKind.u64.wrap q_17)) 2)) (IntKind.u64.wrap q_9)))))) 24)]) (by kernel_rfl) (by kernel_rfl) (by kernel_rfl)⟩
    · replace hm := bif_f hm hb
      refine wp_exit ?_
      exact hx15 q_16 (Option.some.inj hm).symm _ _ (hs.to (l := [pt b_2 (blk [C.int .u64 0, C.int .u64 0, C.int .u64 0, C.int .u64 0, C.int .u64 0, C.int .u64 0, C.int .u64 0, C.int .u64 0] 24), pt b_4 (blk q_16 24)]) [0, 2, 3, 4] [0, 1] (L' := [(0, .slice A_x0 x0.length c_x0), (2, .pointer (some ⟨b_2, 0, none⟩)), (3, .pointer (some ⟨b_4, 0, none⟩)), (4, .int .i64 q_9)]) (l' := [pt b_2 (blk [C.int .u64 0, C.int .u64 0, C.int .u64 0, C.int .u64 0, C.int .u64 0, C.int .u64 0, C.int .u64 0, C.int .u64 0] 24), pt b_4 (blk q_16 24)]) (by kernel_rfl) (by kernel_rfl) (by kernel_rfl))
  · replace hm := bif_f hm hb
    refine wp_exit ?_
    exact hx7 q_8 (Option.some.inj hm).symm _ _ (hs.to (l := [pt b_2 (blk [C.int .u64 0, C.int .u64 0, C.int .u64 0, C.int .u64 0, C.int .u64 0, C.int .u64 0, C.int .u64 0, C.int .u64 0] 24), pt b_4 (blk q_8 24)]) [2, 3] [0, 1] (L' := [(2, .pointer (some ⟨b_2, 0, none⟩)), (3, .pointer (some ⟨b_4, 0, none⟩))]) (l' := [pt b_2 (blk [C.int .u64 0, C.int .u64 0, C.int .u64 0, C.int .u64 0, C.int .u64 0, C.int .u64 0, C.int .u64 0, C.int .u64 0] 24), pt b_4 (blk q_8 24)]) (by kernel_rfl) (by kernel_rfl) (by kernel_rfl))


def visorref01_Same.m (k : Nat) (x0 : List Int) (x1 : List Int) : Option Bool := some ((strOfNums x0).toList == (strOfNums x1).toList)

set_option maxRecDepth 100000 in
set_option maxHeartbeats 4000000 in
theorem visorref01_Same.ok (k : Nat) (x0 : List Int) (x1 : List Int) (r : Bool) (hm : visorref01_Same.m k x0 x1 = some r) (κ : Ctx) (w : World) (S : List HP) (A_x0 : Option Addr) (c_x0 : Nat) (hx_x0 : Sl κ S A_x0 c_x0 1 (eI .u8) x0) (A_x1 : Option Addr) (c_x1 : Nat) (hx_x1 : Sl κ S A_x1 c_x1 1 (eI .u8) x1) (ho : Own κ w (S)) :
    Calls Try.prog 17 #[.slice A_x0 x0.length c_x0, .slice A_x1 x1.length c_x1] w (fun e w' => e = .returned (.bool r) ∧ Own κ w' (S)) := by
  unfold visorref01_Same.m at hm
  refine Vk.enter [(0, .slice A_x0 x0.length c_x0), (1, .slice A_x1 x1.length c_x1)] Try.func17 rfl Try.ntmps17 (by kernel_rfl) (Nat.le_of_ble_eq_true (by kernel_rfl)) ho fun a hs => ?_
  refine Vk.seq fun K1 hK1 => ?_
  refine Vk.region ?_
  refine Vk.pures 1 [(4, .bool false)] hs (by kernel_rfl) fun a hs => ?_
  replace hs := hs.to (l := []) [0, 1] [] (L' := [(0, .slice A_x0 x0.length c_x0), (1, .slice A_x1 x1.length c_x1)]) (l' := []) (by kernel_rfl) (by kernel_rfl) (by kernel_rfl)
  refine Vk.done (by kernel_rfl) ?_
  refine hK1 _ _ ?_
  clear hK1
  refine Vk.seq fun K2 hK2 => ?_
  refine Vk.region ?_
  refine Vk.pures 1 [(5, .slice A_x0 x0.length c_x0)] hs (by kernel_rfl) fun a hs => ?_
  refine Vk.step (Vk.value (some 6) (.string (strOfNums x0)) hs (by kernel_rfl) (op := (.convert 22 9 (.tmp 5))) (by kernel_rfl) (fun o ho => run_toStr (e := 5) (cap := c_x0) hx_x0 ho (by kernel_rfl) (by kernel_rfl) (by kernel_rfl) (by kernel_rfl) _ hs.own) fun a hs => ?_)
  refine Vk.pures 1 [(7, .slice A_x1 x1.length c_x1)] hs (by kernel_rfl) fun a hs => ?_
  refine Vk.step (Vk.value (some 8) (.string (strOfNums x1)) hs (by kernel_rfl) (op := (.convert 22 9 (.tmp 7))) (by kernel_rfl) (fun o ho => run_toStr (e := 5) (cap := c_x1) hx_x1 ho (by kernel_rfl) (by kernel_rfl) (by kernel_rfl) (by kernel_rfl) _ hs.own) fun a hs => ?_)
  refine Vk.pures 2 [(4, .bool ((strOfNums x0).toList == (strOfNums x1).toList)), (9, .bool ((strOfNums x0).toList == (strOfNums x1).toList))] hs (by kernel_rfl) fun a hs => ?_
  replace hs := hs.to (l := []) [4] [] (L' := [(4, .bool ((strOfNums x0).toList == (strOfNums x1).toList))]) (l' := []) (by kernel_rfl) (by kernel_rfl) (by kernel_rfl)
  refine Vk.done (by kernel_rfl) ?_
  refine hK2 _ _ ?_
  clear hK2
  refine wp_ret ?_
  replace hs := hs.to (l := []) [4] [] (L' := [(4, .bool ((strOfNums x0).toList == (strOfNums x1).toList))]) (l' := []) (by kernel_rfl) (by kernel_rfl) (by kernel_rfl)
  exact Vk.ret1 (P := Try.prog) (fn := Try.f17) (R := fun e w' => e = .returned (.bool r) ∧ Own κ w' (S)) (.bool ((strOfNums x0).toList == (strOfNums x1).toList)) hs rfl (by kernel_rfl) (by obtain rfl := Option.some.inj hm; exact ⟨rfl, hs.own⟩)


def slice_Join.l2 (x0 : Cells) (q_11 : Int) : Nat → (List Int) → Int → Option (List Int)
  | 0, _, _ => none
  | k + 1, q_19, q_20 => (bif decide (q_20 < 8) then (if 0 ≤ q_20 ∧ q_20 < 8 then (getI .u64 x0 q_20.toNat).bind fun v_27 => (if 0 ≤ q_11 then (q_19[q_11.toNat]?).bind fun e_31 => (if 0 ≤ q_11 then (if 0 ≤ q_20 then (if 0 ≤ q_11 then (q_19[q_11.toNat]?).bind fun e_40 => slice_Join.l2 x0 q_11 k (q_19.set q_11.toNat (bor .u8 e_31 (shl .u8 (IntKind.u8.wrap (band .u64 (shr .u64 v_27 q_11) 1)) q_20))) (IntKind.i64.wrap (q_20 + 1)) else none) else none) else none) else none) else none) else some q_19)
def slice_Join.l1 (x0 : Cells) (x1 : Int) : Nat → (List Int) → Int → Option (List Int)
  | 0, _, _ => none
  | k + 1, q_10, q_11 => (bif decide (q_11 < (((List.replicate (mx 0 (mn x1 64)).toNat 0 : List Int).length : Nat) : Int)) then (if x0.length = 8 then (slice_Join.l2 x0 q_11 k q_10 0).bind fun p_44 => slice_Join.l1 x0 x1 k p_44 (IntKind.i64.wrap (q_11 + 1)) else none) else some q_10)
def slice_Join.m (k : Nat) (x0 : Cells) (x1 : Int) : Option (List Int) := (if 0 ≤ mx 0 (mn x1 64) ∧ mx 0 (mn x1 64) ≤ (mx 0 (mn x1 64)) ∧ (1 : Int) * (mx 0 (mn x1 64)) ≤ 281474976710656 then (slice_Join.l1 x0 x1 k (List.replicate (mx 0 (mn x1 64)).toNat 0 : List Int) 0).bind fun p_47 => some p_47 else none)

set_option maxRecDepth 100000 in
set_option maxHeartbeats 4000000 in
theorem slice_Join.ok (k : Nat) (x0 : Cells) (x1 : Int) (r : List Int) (hm : slice_Join.m k x0 x1 = some r) (κ : Ctx) (w : World) (S : List HP) (ho : Own κ w (S)) :
    Calls Try.prog 18 #[.agg (vals x0), .int .i64 x1] w (fun e w' => ∃ (A_r0 : Option Addr), ∃ (c_r0 : Nat), e = .returned (.slice A_r0 r.length c_r0) ∧ Own κ w' (rowp A_r0 c_r0 5 1 (eI .u8) r :: S)) := by
  unfold slice_Join.m at hm
  refine Vk.enter [(0, .agg (vals x0)), (1, .int .i64 x1)] Try.func18 rfl Try.ntmps18 (by kernel_rfl) (Nat.le_of_ble_eq_true (by kernel_rfl)) ho fun a hs => ?_
  refine Vk.seq fun K1 hK1 => ?_
  refine Vk.region ?_
  refine Vk.step (Vk.box (x := (.tmp 0)) 2 24 x0 hs (by kernel_rfl) (by kernel_rfl) (by kernel_rfl) fun b_2 w a hs => ?_)
  refine Vk.pures 1 [(4, .slice none 0 0)] hs (by kernel_rfl) fun a hs => ?_
  replace hs := hs.to (l := [pt b_2 (blk x0 24)]) [1, 2] [0] (L' := [(1, .int .i64 x1), (2, .pointer (some ⟨b_2, 0, none⟩))]) (l' := [pt b_2 (blk x0 24)]) (by kernel_rfl) (by kernel_rfl) (by kernel_rfl)
  refine Vk.done (by kernel_rfl) ?_
  refine hK1 _ _ ?_
  clear hK1
  refine Vk.seq fun K3 hK3 => ?_
  refine Vk.region ?_
  refine Vk.pures 3 [(11, .int .i64 (mx 0 (mn x1 64))), (10, .int .i64 (mn x1 64)), (9, .int .i64 x1)] hs (by kernel_rfl) fun a hs => ?_
  obtain ⟨h_4, hm⟩ := ite_t hm
  refine Vk.step (Vk.makeOp (x := (.tmp 11)) (y := (.tmp 11)) (kl := .i64) (kc := .i64) (enc := (eI .u8)) (sz := 1) (by_ := 1) (t := 22) (e := 5) (0) (some 12) hs (by kernel_rfl) (by kernel_rfl) (by kernel_rfl) (by kernel_rfl) (by kernel_rfl) (by kernel_rfl) rfl (by decide) h_4 (by decide) fun A_5 w a hs => ?_)
  refine Vk.pures 1 [(5, .slice A_5 ((List.replicate (mx 0 (mn x1 64)).toNat 0 : List Int).length) ((mx 0 (mn x1 64)).toNat))] hs (by kernel_rfl) fun a hs => ?_
  replace hs := hs.to (l := [rowp A_5 ((mx 0 (mn x1 64)).toNat) 5 1 (eI .u8) (List.replicate (mx 0 (mn x1 64)).toNat 0 : List Int), pt b_2 (blk x0 24)]) [2, 5] [0, 1] (L' := [(2, .pointer (some ⟨b_2, 0, none⟩)), (5, .slice A_5 ((List.replicate (mx 0 (mn x1 64)).toNat 0 : List Int).length) ((mx 0 (mn x1 64)).toNat))]) (l' := [rowp A_5 ((mx 0 (mn x1 64)).toNat) 5 1 (eI .u8) (List.replicate (mx 0 (mn x1 64)).toNat 0 : List Int), pt b_2 (blk x0 24)]) (by kernel_rfl) (by kernel_rfl) (by kernel_rfl)
  refine Vk.done (by kernel_rfl) ?_
  refine hK3 _ _ ?_
  clear hK3
  refine Vk.seq fun K7 hK7 => ?_
  refine Vk.seq fun K8 hK8 => ?_
  refine Vk.region ?_
  refine Vk.pures 3 [(15, .int .i64 0), (14, .int .i64 (((List.replicate (mx 0 (mn x1 64)).toNat 0 : List Int).length : Nat) : Int)), (13, .slice A_5 ((List.replicate (mx 0 (mn x1 64)).toNat 0 : List Int).length) ((mx 0 (mn x1 64)).toNat))] hs (by kernel_rfl) fun a hs => ?_
  replace hs := hs.to (l := [rowp A_5 ((mx 0 (mn x1 64)).toNat) 5 1 (eI .u8) (List.replicate (mx 0 (mn x1 64)).toNat 0 : List Int), pt b_2 (blk x0 24)]) [2, 5, 14, 15] [0, 1] (L' := [(2, .pointer (some ⟨b_2, 0, none⟩)), (5, .slice A_5 ((List.replicate (mx 0 (mn x1 64)).toNat 0 : List Int).length) ((mx 0 (mn x1 64)).toNat)), (14, .int .i64 (((List.replicate (mx 0 (mn x1 64)).toNat 0 : List Int).length : Nat) : Int)), (15, .int .i64 0)]) (l' := [rowp A_5 ((mx 0 (mn x1 64)).toNat) 5 1 (eI .u8) (List.replicate (mx 0 (mn x1 64)).toNat 0 : List Int), pt b_2 (blk x0 24)]) (by kernel_rfl) (by kernel_rfl) (by kernel_rfl)
  refine Vk.done (by kernel_rfl) ?_
  refine hK8 _ _ ?_
  clear hK8
  refine wp_block ?_
  obtain ⟨r9, hl9, hm⟩ := bind_t hm
  have hx9 : ∀ (p_47 : List Int), r9 = p_47 → ∀ (a : Act) (w : World), St 39 a w κ [(5, .slice A_5 p_47.length ((mx 0 (mn x1 64)).toNat))] (rowp A_5 ((mx 0 (mn x1 64)).toNat) 5 1 (eI .u8) p_47 :: S) → K7 a w := by
    intro p_47 he a w hs
    subst r9
    refine hK7 _ _ ?_
    clear hK7
    refine Vk.seq fun K50 hK50 => ?_
    refine Vk.region ?_
    refine Vk.pures 2 [(4, .slice A_5 p_47.length ((mx 0 (mn x1 64)).toNat)), (38, .slice A_5 p_47.length ((mx 0 (mn x1 64)).toNat))] hs (by kernel_rfl) fun a hs => ?_
    replace hs := hs.to (l := [rowp A_5 ((mx 0 (mn x1 64)).toNat) 5 1 (eI .u8) p_47]) [4] [0] (L' := [(4, .slice A_5 p_47.length ((mx 0 (mn x1 64)).toNat))]) (l' := [rowp A_5 ((mx 0 (mn x1 64)).toNat) 5 1 (eI .u8) p_47]) (by kernel_rfl) (by kernel_rfl) (by kernel_rfl)
    refine Vk.done (by kernel_rfl) ?_
    refine hK50 _ _ ?_
    clear hK50
    refine wp_ret ?_
    replace hs := hs.to (l := [rowp A_5 ((mx 0 (mn x1 64)).toNat) 5 1 (eI .u8) p_47]) [4] [0] (L' := [(4, .slice A_5 p_47.length ((mx 0 (mn x1 64)).toNat))]) (l' := [rowp A_5 ((mx 0 (mn x1 64)).toNat) 5 1 (eI .u8) p_47]) (by kernel_rfl) (by kernel_rfl) (by kernel_rfl)
    exact Vk.ret1 (P := Try.prog) (fn := Try.f18) (R := fun e w' => ∃ (A_r0 : Option Addr), ∃ (c_r0 : Nat), e = .returned (.slice A_r0 r.length c_r0) ∧ Own κ w' (rowp A_r0 c_r0 5 1 (eI .u8) r :: S)) (.slice A_5 p_47.length ((mx 0 (mn x1 64)).toNat)) hs rfl (by kernel_rfl) (by obtain rfl := Option.some.inj hm; exact ⟨A_5, (mx 0 (mn x1 64)).toNat, rfl, hs.own⟩)
  refine Vk.loopBy (fun k (s : List Int × Int) a w => slice_Join.l1 x0 x1 k s.1 s.2 = some r9 ∧ St 39 a w κ [(2, .pointer (some ⟨b_2, 0, none⟩)), (5, .slice A_5 s.1.length ((mx 0 (mn x1 64)).toNat)), (14, .int .i64 (((List.replicate (mx 0 (mn x1 64)).toNat 0 : List Int).length : Nat) : Int)), (15, .int .i64 s.2)] (pt b_2 (blk x0 24) :: rowp A_5 ((mx 0 (mn x1 64)).toNat) 5 1 (eI .u8) s.1 :: S)) k ((List.replicate (mx 0 (mn x1 64)).toNat 0 : List Int), 0) ⟨hl9, hs.to (l := [rowp A_5 ((mx 0 (mn x1 64)).toNat) 5 1 (eI .u8) (List.replicate (mx 0 (mn x1 64)).toNat 0 : List Int), pt b_2 (blk x0 24)]) [2, 5, 14, 15] [1, 0] (L' := [(2, .pointer (some ⟨b_2, 0, none⟩)), (5, .slice A_5 ((List.replicate (mx 0 (mn x1 64)).toNat 0 : List Int).length) ((mx 0 (mn x1 64)).toNat)), (14, .int .i64 (((List.replicate (mx 0 (mn x1 64)).toNat 0 : List Int).length : Nat) : Int)), (15, .int .i64 0)]) (l' := [pt b_2 (blk x0 24), rowp A_5 ((mx 0 (mn x1 64)).toNat) 5 1 (eI .u8) (List.replicate (mx 0 (mn x1 64)).toNat 0 : List Int)]) (by kernel_rfl) (by kernel_rfl) (by kernel_rfl)⟩ (fun s a w h => by obtain ⟨h1, _⟩ := h; simp [slice_Join.l1] at h1) (fun k KL9 ih s a w h => ?_)
  obtain ⟨q_10, q_11⟩ := s
  obtain ⟨hm, hs⟩ := h
  try dsimp only at hm hs
  rw [slice_Join.l1] at hm
  refine Vk.seq fun K12 hK12 => ?_
  refine Vk.region ?_
  refine Vk.pures 1 [(16, .bool (decide (q_11 < (((List.replicate (mx 0 (mn x1 64)).toNat 0 : List Int).length : Nat) : Int))))] hs (by kernel_rfl) fun a hs => ?_
  replace hs := hs.to (l := [pt b_2 (blk x0 24), rowp A_5 ((mx 0 (mn x1 64)).toNat) 5 1 (eI .u8) q_10]) [2, 5, 14, 15, 16] [0, 1] (L' := [(2, .pointer (some ⟨b_2, 0, none⟩)), (5, .slice A_5 q_10.length ((mx 0 (mn x1 64)).toNat)), (14, .int .i64 (((List.replicate (mx 0 (mn x1 64)).toNat 0 : List Int).length : Nat) : Int)), (15, .int .i64 q_11), (16, .bool (decide (q_11 < (((List.replicate (mx 0 (mn x1 64)).toNat 0 : List Int).length : Nat) : Int))))]) (l' := [pt b_2 (blk x0 24), rowp A_5 ((mx 0 (mn x1 64)).toNat) 5 1 (eI .u8) q_10]) (by kernel_rfl) (by kernel_rfl) (by kernel_rfl)
  refine Vk.done (by kernel_rfl) ?_
  refine hK12 _ _ ?_
  clear hK12
  refine Vk.seq fun K13 hK13 => ?_
  refine Vk.condS (b := decide (q_11 < (((List.replicate (mx 0 (mn x1 64)).toNat 0 : List Int).length : Nat) : Int))) hs (by kernel_rfl) (by kernel_rfl) (fun hb => ?_) (fun hb => ?_)
  · replace hm := bif_t hm hb
    refine wp_skip ?_
    refine hK13 _ _ ?_
    clear hK13
    refine Vk.seq fun K14 hK14 => ?_
    refine wp_block ?_
    refine Vk.seq fun K15 hK15 => ?_
    refine Vk.region ?_
    refine Vk.pures 2 [(6, .int .i64 q_11), (17, .int .i64 q_11)] hs (by kernel_rfl) fun a hs => ?_
    replace hs := hs.to (l := [pt b_2 (blk x0 24), rowp A_5 ((mx 0 (mn x1 64)).toNat) 5 1 (eI .u8) q_10]) [2, 5, 6, 14, 15] [0, 1] (L' := [(2, .pointer (some ⟨b_2, 0, none⟩)), (5, .slice A_5 q_10.length ((mx 0 (mn x1 64)).toNat)), (6, .int .i64 q_11), (14, .int .i64 (((List.replicate (mx 0 (mn x1 64)).toNat 0 : List Int).length : Nat) : Int)), (15, .int .i64 q_11)]) (l' := [pt b_2 (blk x0 24), rowp A_5 ((mx 0 (mn x1 64)).toNat) 5 1 (eI .u8) q_10]) (by kernel_rfl) (by kernel_rfl) (by kernel_rfl)
    refine Vk.done (by kernel_rfl) ?_
    refine hK15 _ _ ?_
    clear hK15
    refine Vk.seq fun K16 hK16 => ?_
    refine Vk.region ?_
    obtain ⟨h_17, hm⟩ := ite_t hm
    refine Vk.step (Vk.value (some 18) (.agg (vals x0)) hs (by kernel_rfl) (op := (.load 24 (.tmp 2))) (by kernel_rfl) (fun o ho => run_loadN (cs := x0) ho (by kernel_rfl) (by kernel_rfl) h_17 (CellsAt.all 0 rfl) _ hs.own) fun a hs => ?_)
    refine Vk.pures 1 [(19, .int .i64 0)] hs (by kernel_rfl) fun a hs => ?_
    replace hs := hs.to (l := [pt b_2 (blk x0 24), rowp A_5 ((mx 0 (mn x1 64)).toNat) 5 1 (eI .u8) q_10]) [2, 5, 6, 14, 15, 18, 19] [0, 1] (L' := [(2, .pointer (some ⟨b_2, 0, none⟩)), (5, .slice A_5 q_10.length ((mx 0 (mn x1 64)).toNat)), (6, .int .i64 q_11), (14, .int .i64 (((List.replicate (mx 0 (mn x1 64)).toNat 0 : List Int).length : Nat) : Int)), (15, .int .i64 q_11), (18, .agg (vals x0)), (19, .int .i64 0)]) (l' := [pt b_2 (blk x0 24), rowp A_5 ((mx 0 (mn x1 64)).toNat) 5 1 (eI .u8) q_10]) (by kernel_rfl) (by kernel_rfl) (by kernel_rfl)
    refine Vk.done (by kernel_rfl) ?_
    refine hK16 _ _ ?_
    clear hK16
    refine wp_block ?_
    obtain ⟨r18, hl18, hm⟩ := bind_t hm
    have hx18 : ∀ (p_44 : List Int), r18 = p_44 → ∀ (a : Act) (w : World), St 39 a w κ [(2, .pointer (some ⟨b_2, 0, none⟩)), (5, .slice A_5 p_44.length ((mx 0 (mn x1 64)).toNat)), (14, .int .i64 (((List.replicate (mx 0 (mn x1 64)).toNat 0 : List Int).length : Nat) : Int)), (15, .int .i64 q_11)] (pt b_2 (blk x0 24) :: rowp A_5 ((mx 0 (mn x1 64)).toNat) 5 1 (eI .u8) p_44 :: S) → K14 a w := by
      intro p_44 he a w hs
      subst r18
      refine hK14 _ _ ?_
      clear hK14
      refine Vk.region ?_
      refine Vk.pures 2 [(15, .int .i64 (IntKind.i64.wrap (q_11 + 1))), (37, .int .i64 (IntKind.i64.wrap (q_11 + 1)))] hs (by kernel_rfl) fun a hs => ?_
      replace hs := hs.to (l := [pt b_2 (blk x0 24), rowp A_5 ((mx 0 (mn x1 64)).toNat) 5 1 (eI .u8) p_44]) [2, 5, 14, 15] [0, 1] (L' := [(2, .pointer (some ⟨b_2, 0, none⟩)), (5, .slice A_5 p_44.length ((mx 0 (mn x1 64)).toNat)), (14, .int .i64 (((List.replicate (mx 0 (mn x1 64)).toNat 0 : List Int).length : Nat) : Int)), (15, .int .i64 (IntKind.i64.wrap (q_11 + 1)))]) (l' := [pt b_2 (blk x0 24), rowp A_5 ((mx 0 (mn x1 64)).toNat) 5 1 (eI .u8) p_44]) (by kernel_rfl) (by kernel_rfl) (by kernel_rfl)
      refine Vk.done (by kernel_rfl) ?_
      refine ih (p_44, (IntKind.i64.wrap (q_11 + 1))) _ _ ⟨hm, hs.to (l := [pt b_2 (blk x0 24), rowp A_5 ((mx 0 (mn x1 64)).toNat) 5 1 (eI .u8) p_44]) [2, 5, 14, 15] [0, 1] (L' := [(2, .pointer (some ⟨b_2, 0, none⟩)), (5, .slice A_5 p_44.length ((mx 0 (mn x1 64)).toNat)), (14, .int .i64 (((List.replicate (mx 0 (mn x1 64)).toNat 0 : List Int).length : Nat) : Int)), (15, .int .i64 (IntKind.i64.wrap (q_11 + 1)))]) (l' := [pt b_2 (blk x0 24), rowp A_5 ((mx 0 (mn x1 64)).toNat) 5 1 (eI .u8) p_44]) (by kernel_rfl) (by kernel_rfl) (by kernel_rfl)⟩
    refine Vk.loopBy (fun k (s : List Int × Int) a w => slice_Join.l2 x0 q_11 k s.1 s.2 = some r18 ∧ St 39 a w κ [(2, .pointer (some ⟨b_2, 0, none⟩)), (5, .slice A_5 s.1.length ((mx 0 (mn x1 64)).toNat)), (6, .int .i64 q_11), (14, .int .i64 (((List.replicate (mx 0 (mn x1 64)).toNat 0 : List Int).length : Nat) : Int)), (15, .int .i64 q_11), (18, .agg (vals x0)), (19, .int .i64 s.2)] (pt b_2 (blk x0 24) :: rowp A_5 ((mx 0 (mn x1 64)).toNat) 5 1 (eI .u8) s.1 :: S)) k (q_10, 0) ⟨hl18, hs.to (l := [pt b_2 (blk x0 24), rowp A_5 ((mx 0 (mn x1 64)).toNat) 5 1 (eI .u8) q_10]) [2, 5, 6, 14, 15, 18, 19] [0, 1] (L' := [(2, .pointer (some ⟨b_2, 0, none⟩)), (5, .slice A_5 q_10.length ((mx 0 (mn x1 64)).toNat)), (6, .int .i64 q_11), (14, .int .i64 (((List.replicate (mx 0 (mn x1 64)).toNat 0 : List Int).length : Nat) : Int)), (15, .int .i64 q_11), (18, .agg (vals x0)), (19, .int .i64 0)]) (l' := [pt b_2 (blk x0 24), rowp A_5 ((mx 0 (mn x1 64)).toNat) 5 1 (eI .u8) q_10]) (by kernel_rfl) (by kernel_rfl) (by kernel_rfl)⟩ (fun s a w h => by obtain ⟨h1, _⟩ := h; simp [slice_Join.l2] at h1) (fun k KL18 ih s a w h => ?_)
    obtain ⟨q_19, q_20⟩ := s
    obtain ⟨hm, hs⟩ := h
    try dsimp only at hm hs
    rw [slice_Join.l2] at hm
    refine Vk.seq fun K21 hK21 => ?_
    refine Vk.region ?_
    refine Vk.pures 1 [(20, .bool (decide (q_20 < 8)))] hs (by kernel_rfl) fun a hs => ?_
    replace hs := hs.to (l := [pt b_2 (blk x0 24), rowp A_5 ((mx 0 (mn x1 64)).toNat) 5 1 (eI .u8) q_19]) [2, 5, 6, 14, 15, 18, 19, 20] [0, 1] (L' := [(2, .pointer (some ⟨b_2, 0, none⟩)), (5, .slice A_5 q_19.length ((mx 0 (mn x1 64)).toNat)), (6, .int .i64 q_11), (14, .int .i64 (((List.replicate (mx 0 (mn x1 64)).toNat 0 : List Int).length : Nat) : Int)), (15, .int .i64 q_11), (18, .agg (vals x0)), (19, .int .i64 q_20), (20, .bool (decide (q_20 < 8)))]) (l' := [pt b_2 (blk x0 24), rowp A_5 ((mx 0 (mn x1 64)).toNat) 5 1 (eI .u8) q_19]) (by kernel_rfl) (by kernel_rfl) (by kernel_rfl)
    refine Vk.done (by kernel_rfl) ?_
    refine hK21 _ _ ?_
    clear hK21
    refine Vk.seq fun K22 hK22 => ?_
    refine Vk.condS (b := decide (q_20 < 8)) hs (by kernel_rfl) (by kernel_rfl) (fun hb => ?_) (fun hb => ?_)
    · replace hm := bif_t hm hb
      refine wp_skip ?_
      refine hK22 _ _ ?_
      clear hK22
      refine Vk.seq fun K23 hK23 => ?_
      refine wp_block ?_
      refine Vk.seq fun K24 hK24 => ?_
      refine Vk.region ?_
      refine Vk.pures 1 [(21, .int .i64 q_20)] hs (by kernel_rfl) fun a hs => ?_
      obtain ⟨h_25, hm⟩ := ite_t hm
      obtain ⟨v_27, h_26, hm⟩ := bind_t hm
      refine Vk.step (Vk.value (some 22) (.int .u64 v_27) hs (by kernel_rfl) (op := (.index 24 (.tmp 18) (.tmp 19))) (by kernel_rfl) (fun o ho => run_idxVal (k := .i64) (cs := x0) (c := C.int .u64 v_27) ho (by kernel_rfl) (by kernel_rfl) (len := 8) (et := 23) (by kernel_rfl) (by kernel_rfl) (by kernel_rfl) (by kernel_rfl) h_25 (getI_some h_26) _) fun a hs => ?_)
      refine Vk.pures 2 [(8, .int .u64 v_27), (7, .int .i64 q_20)] hs (by kernel_rfl) fun a hs => ?_
      replace hs := hs.to (l := [pt b_2 (blk x0 24), rowp A_5 ((mx 0 (mn x1 64)).toNat) 5 1 (eI .u8) q_19]) [2, 5, 6, 7, 8, 14, 15, 18, 19] [0, 1] (L' := [(2, .pointer (some ⟨b_2, 0, none⟩)), (5, .slice A_5 q_19.length ((mx 0 (mn x1 64)).toNat)), (6, .int .i64 q_11), (7, .int .i64 q_20), (8, .int .u64 v_27), (14, .int .i64 (((List.replicate (mx 0 (mn x1 64)).toNat 0 : List Int).length : Nat) : Int)), (15, .int .i64 q_11), (18, .agg (vals x0)), (19, .int .i64 q_20)]) (l' := [pt b_2 (blk x0 24), rowp A_5 ((mx 0 (mn x1 64)).toNat) 5 1 (eI .u8) q_19]) (by kernel_rfl) (by kernel_rfl) (by kernel_rfl)
      refine Vk.done (by kernel_rfl) ?_
      refine hK24 _ _ ?_
      clear hK24
      refine Vk.drawnT 13 κ (pt b_2 (blk x0 24) :: rowp A_5 ((mx 0 (mn x1 64)).toNat) 5 1 (eI .u8) q_19 :: S) hs (by kernel_rfl) fun w hs => ?_
      have hcl := Own.pickS (l := [pt b_2 (blk x0 24), rowp A_5 ((mx 0 (mn x1 64)).toNat) 5 1 (eI .u8) q_19]) (l' := [pt b_2 (blk x0 24), rowp A_5 ((mx 0 (mn x1 64)).toNat) 5 1 (eI .u8) q_19]) hs.own [0, 1] (by kernel_rfl) (by kernel_rfl)
      refine Vk.dPures [0, 1, 4, 5, 9] [(32, .int .i64 q_20), (28, .int .i64 q_11), (27, .int .u64 v_27), (24, .int .i64 q_11), (23, .slice A_5 q_19.length ((mx 0 (mn x1 64)).toNat))] hs (by kernel_rfl) (by repeat' (first | exact Vk.Calm.post | refine Vk.Calm.then ?_ | refine Vk.Calm.inBlock ?_)) hcl (by kernel_rfl) (fuel := 9) rfl fun a hs => ?_
      obtain ⟨h_28, hm⟩ := ite_t hm
      obtain ⟨e_31, h_29, hm⟩ := bind_t hm
      obtain ⟨b_32, o_33, hA_34, h_30⟩ := Sl.elem (Own.rowSl 1 hcl rfl) h_29
      refine Vk.dTake (i := 2) (some 25) (.pointer (some ⟨b_32, o_33 + q_11.toNat * 1, none⟩)) hs (by kernel_rfl) (by repeat' (first | exact Vk.Calm.post | refine Vk.Calm.then ?_ | refine Vk.Calm.inBlock ?_)) hcl (by kernel_rfl) (op := (.indexAddr 22 (.tmp 23) (.tmp 24))) (by kernel_rfl) (by kernel_rfl) (fun w hw o ho => run_idxSlc (k := .i64) ho (cap := (mx 0 (mn x1 64)).toNat) (len := q_19.length) ((congrArg (fun A => Value.slice A (q_19.length) ((mx 0 (mn x1 64)).toNat)) hA_34) ▸ (by kernel_rfl)) (by kernel_rfl) (by kernel_rfl) (idx_ok h_28 h_29) _) fun a hs => ?_
      refine Vk.dTake (i := 3) (some 26) (.int .u8 e_31) hs (by kernel_rfl) (by repeat' (first | exact Vk.Calm.post | refine Vk.Calm.then ?_ | refine Vk.Calm.inBlock ?_)) hcl (by kernel_rfl) (op := (.load 5 (.tmp 25))) (by kernel_rfl) (by kernel_rfl) (fun w hw o ho => run_load1 (c := C.int .u8 e_31) ho (by kernel_rfl) (by kernel_rfl) (fun w ho => h_30 w ho 0 _ rfl) _ hw) fun a hs => ?_
      obtain ⟨h_35, hm⟩ := ite_t hm
      refine Vk.dTake (i := 6) (some 29) (.int .u64 (shr .u64 v_27 q_11)) hs (by kernel_rfl) (by repeat' (first | exact Vk.Calm.post | refine Vk.Calm.then ?_ | refine Vk.Calm.inBlock ?_)) hcl (by kernel_rfl) (op := (.binOp .shr 23 (.tmp 27) (.tmp 28) 3)) (by kernel_rfl) (by kernel_rfl) (fun w hw o ho => run_shr (k' := .i64) ho (by kernel_rfl) (by kernel_rfl) h_35 _) fun a hs => ?_
      refine Vk.dPures [7, 8] [(31, .int .u8 (IntKind.u8.wrap (band .u64 (shr .u64 v_27 q_11) 1))), (30, .int .u64 (band .u64 (shr .u64 v_27 q_11) 1))] hs (by kernel_rfl) (by repeat' (first | exact Vk.Calm.post | refine Vk.Calm.then ?_ | refine Vk.Calm.inBlock ?_)) hcl (by kernel_rfl) (fuel := 4) rfl fun a hs => ?_
      obtain ⟨h_36, hm⟩ := ite_t hm
      refine Vk.dTake (i := 10) (some 33) (.int .u8 (shl .u8 (IntKind.u8.wrap (band .u64 (shr .u64 v_27 q_11) 1)) q_20)) hs (by kernel_rfl) (by repeat' (first | exact Vk.Calm.post | refine Vk.Calm.then ?_ | refine Vk.Calm.inBlock ?_)) hcl (by kernel_rfl) (op := (.binOp .shl 5 (.tmp 31) (.tmp 32) 3)) (by kernel_rfl) (by kernel_rfl) (fun w hw o ho => run_shl (k' := .i64) ho (by kernel_rfl) (by kernel_rfl) h_36 _) fun a hs => ?_
      refine Vk.dPures [11] [(34, .int .u8 (bor .u8 e_31 (shl .u8 (IntKind.u8.wrap (band .u64 (shr .u64 v_27 q_11) 1)) q_20)))] hs (by kernel_rfl) (by repeat' (first | exact Vk.Calm.post | refine Vk.Calm.then ?_ | refine Vk.Calm.inBlock ?_)) hcl (by kernel_rfl) (fuel := 2) rfl fun a hs => ?_
      obtain ⟨h_37, hm⟩ := ite_t hm
      obtain ⟨e_40, h_38, hm⟩ := bind_t hm
      obtain ⟨b_41, o_42, hA_43, h_39⟩ := Sl.elem (Own.rowSl 1 hcl rfl) h_38
      refine Vk.dTake (i := 12) (some 35) (.pointer (some ⟨b_41, o_42 + q_11.toNat * 1, none⟩)) hs (by kernel_rfl) (by repeat' (first | exact Vk.Calm.post | refine Vk.Calm.then ?_ | refine Vk.Calm.inBlock ?_)) hcl (by kernel_rfl) (op := (.indexAddr 22 (.tmp 23) (.tmp 24))) (by kernel_rfl) (by kernel_rfl) (fun w hw o ho => run_idxSlc (k := .i64) ho (cap := (mx 0 (mn x1 64)).toNat) (len := q_19.length) ((congrArg (fun A => Value.slice A (q_19.length) ((mx 0 (mn x1 64)).toNat)) hA_43) ▸ (by kernel_rfl)) (by kernel_rfl) (by kernel_rfl) (idx_ok h_37 h_38) _) fun a hs => ?_
      refine Vk.dOnly (i := 13) (by kernel_rfl) (Vk.storeRow (T := 5) (ty := 5) (x := (.tmp 35)) (y := (.tmp 34)) (o := o_42) (m := q_11.toNat) (bor .u8 e_31 (shl .u8 (IntKind.u8.wrap (band .u64 (shr .u64 v_27 q_11) 1)) q_20)) 1 hs (by kernel_rfl) (by kernel_rfl) (by kernel_rfl) hA_43 rfl (by kernel_rfl) (by kernel_rfl) rfl (by kernel_rfl) rfl (lt_of_get h_38) fun a w hs => ?_)
      replace hs := hs.to (l := [pt b_2 (blk x0 24), rowp A_5 ((mx 0 (mn x1 64)).toNat) 5 1 (eI .u8) (q_19.set q_11.toNat (bor .u8 e_31 (shl .u8 (IntKind.u8.wrap (band .u64 (shr .u64 v_27 q_11) 1)) q_20)))]) [2, 5, 6, 7, 8, 14, 15, 18, 19, 23, 24, 25, 26, 27, 28, 29, 30, 31, 32, 33, 34, 35] [0, 1] (L' := [(2, .pointer (some ⟨b_2, 0, none⟩)), (5, .slice A_5 q_19.length ((mx 0 (mn x1 64)).toNat)), (6, .int .i64 q_11), (7, .int .i64 q_20), (8, .int .u64 v_27), (14, .int .i64 (((List.replicate (mx 0 (mn x1 64)).toNat 0 : List Int).length : Nat) : Int)), (15, .int .i64 q_11), (18, .agg (vals x0)), (19, .int .i64 q_20), (23, .slice A_5 q_19.length ((mx 0 (mn x1 64)).toNat)), (24, .int .i64 q_11), (25, .pointer (some ⟨b_32, o_33 + q_11.toNat * 1, none⟩)), (26, .int .u8 e_31), (27, .int .u64 v_27), (28, .int .i64 q_11), (29, .int .u64 (shr .u64 v_27 q_11)), (30, .int .u64 (band .u64 (shr .u64 v_27 q_11) 1)), (31, .int .u8 (IntKind.u8.wrap (band .u64 (shr .u64 v_27 q_11) 1))), (32, .int .i64 q_20), (33, .int .u8 (shl .u8 (IntKind.u8.wrap (band .u64 (shr .u64 v_27 q_11) 1)) q_20)), (34, .int .u8 (bor .u8 e_31 (shl .u8 (IntKind.u8.wrap (band .u64 (shr .u64 v_27 q_11) 1)) q_20))), (35, .pointer (some ⟨b_41, o_42 + q_11.toNat * 1, none⟩))]) (l' := [pt b_2 (blk x0 24), rowp A_5 ((mx 0 (mn x1 64)).toNat) 5 1 (eI .u8) (q_19.set q_11.toNat (bor .u8 e_31 (shl .u8 (IntKind.u8.wrap (band .u64 (shr .u64 v_27 q_11) 1)) q_20)))]) (by kernel_rfl) (by kernel_rfl) (by kernel_rfl)
      replace hs := hs.conv2 (L' := [(2, .pointer (some ⟨b_2, 0, none⟩)), (5, .slice A_5 ((q_19.set q_11.toNat (bor .u8 e_31 (shl .u8 (IntKind.u8.wrap (band .u64 (shr .u64 v_27 q_11) 1)) q_20))).length) ((mx 0 (mn x1 64)).toNat)), (6, .int .i64 q_11), (7, .int .i64 q_20), (8, .int .u64 v_27), (14, .int .i64 (((List.replicate (mx 0 (mn x1 64)).toNat 0 : List Int).length : Nat) : Int)), (15, .int .i64 q_11), (18, .agg (vals x0)), (19, .int .i64 q_20), (23, .slice A_5 ((q_19.set q_11.toNat (bor .u8 e_31 (shl .u8 (IntKind.u8.wrap (band .u64 (shr .u64 v_27 q_11) 1)) q_20))).length) ((mx 0 (mn x1 64)).toNat)), (24, .int .i64 q_11), (25, .pointer (some ⟨b_32, o_33 + q_11.toNat * 1, none⟩)), (26, .int .u8 e_31), (27, .int .u64 v_27), (28, .int .i64 q_11), (29, .int .u64 (shr .u64 v_27 q_11)), (30, .int .u64 (band .u64 (shr .u64 v_27 q_11) 1)), (31, .int .u8 (IntKind.u8.wrap (band .u64 (shr .u64 v_27 q_11) 1))), (32, .int .i64 q_20), (33, .int .u8 (shl .u8 (IntKind.u8.wrap (band .u64 (shr .u64 v_27 q_11) 1)) q_20)), (34, .int .u8 (bor .u8 e_31 (shl .u8 (IntKind.u8.wrap (band .u64 (shr .u64 v_27 q_11) 1)) q_20))), (35, .pointer (some ⟨b_41, o_42 + q_11.toNat * 1, none⟩))]) (S' := pt b_2 (blk x0 24) :: rowp A_5 ((mx 0 (mn x1 64)).toNat) 5 1 (eI .u8) (q_19.set q_11.toNat (bor .u8 e_31 (shl .u8 (IntKind.u8.wrap (band .u64 (shr .u64 v_27 q_11) 1)) q_20))) :: S) (by simp only [List.length_set]) (rfl)
      refine ⟨fun h => absurd h (by decide), ?_⟩
      replace hs := hs.to (l := [pt b_2 (blk x0 24), rowp A_5 ((mx 0 (mn x1 64)).toNat) 5 1 (eI .u8) (q_19.set q_11.toNat (bor .u8 e_31 (shl .u8 (IntKind.u8.wrap (band .u64 (shr .u64 v_27 q_11) 1)) q_20)))]) [2, 5, 6, 14, 15, 18, 19] [0, 1] (L' := [(2, .pointer (some ⟨b_2, 0, none⟩)), (5, .slice A_5 ((q_19.set q_11.toNat (bor .u8 e_31 (shl .u8 (IntKind.u8.wrap (band .u64 (shr .u64 v_27 q_11) 1)) q_20))).length) ((mx 0 (mn x1 64)).toNat)), (6, .int .i64 q_11), (14, .int .i64 (((List.replicate (mx 0 (mn x1 64)).toNat 0 : List Int).length : Nat) : Int)), (15, .int .i64 q_11), (18, .agg (vals x0)), (19, .int .i64 q_20)]) (l' := [pt b_2 (blk x0 24), rowp A_5 ((mx 0 (mn x1 64)).toNat) 5 1 (eI .u8) (q_19.set q_11.toNat (bor .u8 e_31 (shl .u8 (IntKind.u8.wrap (band .u64 (shr .u64 v_27 q_11) 1)) q_20)))]) (by kernel_rfl) (by kernel_rfl) (by kernel_rfl)
      refine Vk.dDone (by kernel_rfl) ?_
      refine hK23 _ _ ?_
      clear hK23
      refine Vk.region ?_
      refine Vk.pures 2 [(19, .int .i64 (IntKind.i64.wrap (q_20 + 1))), (36, .int .i64 (IntKind.i64.wrap (q_20 + 1)))] hs (by kernel_rfl) fun a hs => ?_
      replace hs := hs.to (l := [pt b_2 (blk x0 24), rowp A_5 ((mx 0 (mn x1 64)).toNat) 5 1 (eI .u8) (q_19.set q_11.toNat (bor .u8 e_31 (shl .u8 (IntKind.u8.wrap (band .u64 (shr .u64 v_27 q_11) 1)) q_20)))]) [2, 5, 6, 14, 15, 18, 19] [0, 1] (L' := [(2, .pointer (some ⟨b_2, 0, none⟩)), (5, .slice A_5 ((q_19.set q_11.toNat (bor .u8 e_31 (shl .u8 (IntKind.u8.wrap (band .u64 (shr .u64 v_27 q_11) 1)) q_20))).length) ((mx 0 (mn x1 64)).toNat)), (6, .int .i64 q_11), (14, .int .i64 (((List.replicate (mx 0 (mn x1 64)).toNat 0 : List Int).length : Nat) : Int)), (15, .int .i64 q_11), (18, .agg (vals x0)), (19, .int .i64 (IntKind.i64.wrap (q_20 + 1)))]) (l' := [pt b_2 (blk x0 24), rowp A_5 ((mx 0 (mn x1 64)).toNat) 5 1 (eI .u8) (q_19.set q_11.toNat (bor .u8 e_31 (shl .u8 (IntKind.u8.wrap (band .u64 (shr .u64 v_27 q_11) 1)) q_20)))]) (by kernel_rfl) (by kernel_rfl) (by kernel_rfl)
      refine Vk.done (by kernel_rfl) ?_
      refine ih ((q_19.set q_11.toNat (bor .u8 e_31 (shl .u8 (IntKind.u8.wrap (band .u64 (shr .u64 v_27 q_11) 1)) q_20))), (IntKind.i64.wrap (q_20 + 1))) _ _ ⟨hm, hs.to (l := [pt b_2 (blk x0 24), rowp A_5 ((mx 0 (mn x1 64)).toNat) 5 1 (eI .u8) (q_19.set q_11.toNat (bor .u8 e_31 (shl .u8 (IntKind.u8.wrap (band .u64 (shr .u64 v_27 q_11) 1)) q_20)))]) [2, 5, 6, 14, 15, 18, 19] [0, 1] (L' := [(2, .pointer (some ⟨b_2, 0, none⟩)), (5, .slice A_5 ((q_19.set q_11.toNat (bor .u8 e_31 (shl .u8 (IntKind.u8.wrap (band .u64 (shr .u64 v_27 q_11) 1)) q_20))).length) ((mx 0 (mn x1 64)).toNat)), (6, .int .i64 q_11), (14, .int .i64 (((List.replicate (mx 0 (mn x1 64)).toNat 0 : List Int).length : Nat) : Int)), (15, .int .i64 q_11), (18, .agg (vals x0)), (19, .int .i64 (IntKind.i64.wrap (q_20 + 1)))]) (l' := [pt b_2 (blk x0 24), rowp A_5 ((mx 0 (mn x1 64)).toNat) 5 1 (eI .u8) (q_19.set q_11.toNat (bor .u8 e_31 (shl .u8 (IntKind.u8.wrap (band .u64 (shr .u64 v_27 q_11) 1)) q_20)))]) (by kernel_rfl) (by kernel_rfl) (by kernel_rfl)⟩
    · replace hm := bif_f hm hb
      refine wp_exit ?_
      exact hx18 q_19 (Option.some.inj hm).symm _ _ (hs.to (l := [pt b_2 (blk x0 24), rowp A_5 ((mx 0 (mn x1 64)).toNat) 5 1 (eI .u8) q_19]) [2, 5, 14, 15] [0, 1] (L' := [(2, .pointer (some ⟨b_2, 0, none⟩)), (5, .slice A_5 q_19.length ((mx 0 (mn x1 64)).toNat)), (14, .int .i64 (((List.replicate (mx 0 (mn x1 64)).toNat 0 : List Int).length : Nat) : Int)), (15, .int .i64 q_11)]) (l' := [pt b_2 (blk x0 24), rowp A_5 ((mx 0 (mn x1 64)).toNat) 5 1 (eI .u8) q_19]) (by kernel_rfl) (by kernel_rfl) (by kernel_rfl))
  · replace hm := bif_f hm hb
    refine wp_exit ?_
    exact hx9 q_10 (Option.some.inj hm).symm _ _ (hs.to (l := [pt b_2 (blk x0 24), rowp A_5 ((mx 0 (mn x1 64)).toNat) 5 1 (eI .u8) q_10]) [5] [1] (L' := [(5, .slice A_5 q_10.length ((mx 0 (mn x1 64)).toNat))]) (l' := [rowp A_5 ((mx 0 (mn x1 64)).toNat) 5 1 (eI .u8) q_10]) (by kernel_rfl) (by kernel_rfl) (by kernel_rfl))


def visorref33_Join.l2 (x0 : Cells) (q_12 : Int) : Nat → Int → Int → Option (Int)
  | 0, _, _ => none
  | k + 1, q_21, q_22 => (bif decide (q_22 < 8) then (if 0 ≤ q_22 ∧ q_22 < 8 then (getI .u64 x0 (0 + q_22.toNat * 1)).bind fun v_28 => (if 0 ≤ IntKind.u64.wrap q_12 then (if 0 ≤ IntKind.u64.wrap q_22 then visorref33_Join.l2 x0 q_12 k (IntKind.u8.wrap (q_21 + (shl .u8 (IntKind.u8.wrap (Int.tmod (shr .u64 v_28 (IntKind.u64.wrap q_12)) 2)) (IntKind.u64.wrap q_22)))) (IntKind.i64.wrap (q_22 + 1)) else none) else none) else none) else some q_21)
def visorref33_Join.l1 (x0 : Cells) (x1 : Int) : Nat → (List Int) → Int → Option (List Int)
  | 0, _, _ => none
  | k + 1, q_11, q_12 => (bif (decide (q_12 < x1)) && (decide (q_12 < 64)) then (visorref33_Join.l2 x0 q_12 k 0 0).bind fun p_31 => (if (q_11.length + ([p_31] : List Int).length) * 1 ≤ 140737488355328 then visorref33_Join.l1 x0 x1 k (q_11 ++ ([p_31] : List Int)) (IntKind.i64.wrap (q_12 + 1)) else none) else some q_11)
def visorref33_Join.m (k : Nat) (x0 : Cells) (x1 : Int) : Option (List Int) := (visorref33_Join.l1 x0 x1 k ([] : List Int) 0).bind fun p_41 => some p_41

set_option maxRecDepth 100000 in
set_option maxHeartbeats 4000000 in
theorem visorref33_Join.ok (k : Nat) (x0 : Cells) (x1 : Int) (r : List Int) (hm : visorref33_Join.m k x0 x1 = some r) (κ : Ctx) (w : World) (S : List HP) (ho : Own κ w (S)) :
    Calls Try.prog 19 #[.agg (vals x0), .int .i64 x1] w (fun e w' => ∃ (A_r0 : Option Addr), ∃ (c_r0 : Nat), e = .returned (.slice A_r0 r.length c_r0) ∧ Own κ w' (rowp A_r0 c_r0 5 1 (eI .u8) r :: S)) := by
  unfold visorref33_Join.m at hm
  refine Vk.enter [(0, .agg (vals x0)), (1, .int .i64 x1)] Try.func19 rfl Try.ntmps19 (by kernel_rfl) (Nat.le_of_ble_eq_true (by kernel_rfl)) ho fun a hs => ?_
  refine Vk.seq fun K1 hK1 => ?_
  refine Vk.region ?_
  refine Vk.step (Vk.box (x := (.tmp 0)) 2 24 x0 hs (by kernel_rfl) (by kernel_rfl) (by kernel_rfl) fun b_2 w a hs => ?_)
  refine Vk.pures 1 [(4, .slice none 0 0)] hs (by kernel_rfl) fun a hs => ?_
  replace hs := hs.to (l := [pt b_2 (blk x0 24)]) [1, 2] [0] (L' := [(1, .int .i64 x1), (2, .pointer (some ⟨b_2, 0, none⟩))]) (l' := [pt b_2 (blk x0 24)]) (by kernel_rfl) (by kernel_rfl) (by kernel_rfl)
  refine Vk.done (by kernel_rfl) ?_
  refine hK1 _ _ ?_
  clear hK1
  refine Vk.seq fun K3 hK3 => ?_
  refine Vk.region ?_
  refine Vk.step (Vk.buildOp (sz := 1) (by_ := 1) (t := 22) (e := 5) (parts := #[]) (zs := vals [C.int .u8 0]) ([] : List Int) (eI .u8) (some 9) hs (by kernel_rfl) (by kernel_rfl) (by kernel_rfl) (by kernel_rfl) (by decide) rfl (fun x _ => rfl) (Nat.le_of_ble_eq_true (by kernel_rfl)) (by kernel_rfl) fun A_4 w a hs => ?_)
  refine Vk.pures 1 [(5, .slice A_4 (([] : List Int).length) 0)] hs (by kernel_rfl) fun a hs => ?_
  replace hs := hs.to (l := [rowp A_4 0 5 1 (eI .u8) ([] : List Int), pt b_2 (blk x0 24)]) [1, 2, 5] [0, 1] (L' := [(1, .int .i64 x1), (2, .pointer (some ⟨b_2, 0, none⟩)), (5, .slice A_4 (([] : List Int).length) 0)]) (l' := [rowp A_4 0 5 1 (eI .u8) ([] : List Int), pt b_2 (blk x0 24)]) (by kernel_rfl) (by kernel_rfl) (by kernel_rfl)
  refine Vk.done (by kernel_rfl) ?_
  refine hK3 _ _ ?_
  clear hK3
  refine Vk.seq fun K6 hK6 => ?_
  refine Vk.seq fun K7 hK7 => ?_
  refine Vk.region ?_
  refine Vk.pures 1 [(6, .int .i64 0)] hs (by kernel_rfl) fun a hs => ?_
  replace hs := hs.to (l := [rowp A_4 0 5 1 (eI .u8) ([] : List Int), pt b_2 (blk x0 24)]) [1, 2, 5, 6] [0, 1] (L' := [(1, .int .i64 x1), (2, .pointer (some ⟨b_2, 0, none⟩)), (5, .slice A_4 (([] : List Int).length) 0), (6, .int .i64 0)]) (l' := [rowp A_4 0 5 1 (eI .u8) ([] : List Int), pt b_2 (blk x0 24)]) (by kernel_rfl) (by kernel_rfl) (by kernel_rfl)
  refine Vk.done (by kernel_rfl) ?_
  refine hK7 _ _ ?_
  clear hK7
  refine wp_block ?_
  obtain ⟨r8, hl8, hm⟩ := bind_t hm
  have hx8 : ∀ (p_41 : List Int), r8 = p_41 → ∀ (A_39 : Option Addr) (c_40 : Nat) (a : Act) (w : World), St 41 a w κ [(5, .slice A_39 p_41.length c_40)] (rowp A_39 c_40 5 1 (eI .u8) p_41 :: S) → K6 a w := by
    intro p_41 he A_39 c_40 a w hs
    subst r8
    refine hK6 _ _ ?_
    clear hK6
    refine Vk.seq fun K46 hK46 => ?_
    refine Vk.region ?_
    refine Vk.pures 2 [(4, .slice A_39 p_41.length c_40), (40, .slice A_39 p_41.length c_40)] hs (by kernel_rfl) fun a hs => ?_
    replace hs := hs.to (l := [rowp A_39 c_40 5 1 (eI .u8) p_41]) [4] [0] (L' := [(4, .slice A_39 p_41.length c_40)]) (l' := [rowp A_39 c_40 5 1 (eI .u8) p_41]) (by kernel_rfl) (by kernel_rfl) (by kernel_rfl)
    refine Vk.done (by kernel_rfl) ?_
    refine hK46 _ _ ?_
    clear hK46
    refine wp_ret ?_
    replace hs := hs.to (l := [rowp A_39 c_40 5 1 (eI .u8) p_41]) [4] [0] (L' := [(4, .slice A_39 p_41.length c_40)]) (l' := [rowp A_39 c_40 5 1 (eI .u8) p_41]) (by kernel_rfl) (by kernel_rfl) (by kernel_rfl)
    exact Vk.ret1 (P := Try.prog) (fn := Try.f19) (R := fun e w' => ∃ (A_r0 : Option Addr), ∃ (c_r0 : Nat), e = .returned (.slice A_r0 r.length c_r0) ∧ Own κ w' (rowp A_r0 c_r0 5 1 (eI .u8) r :: S)) (.slice A_39 p_41.length c_40) hs rfl (by kernel_rfl) (by obtain rfl := Option.some.inj hm; exact ⟨A_39, c_40, rfl, hs.own⟩)
  refine Vk.loopBy (fun k (s : List Int × Int) a w => ∃ (A_9 : Option Addr), ∃ (c_10 : Nat), visorref33_Join.l1 x0 x1 k s.1 s.2 = some r8 ∧ St 41 a w κ [(1, .int .i64 x1), (2, .pointer (some ⟨b_2, 0, none⟩)), (5, .slice A_9 s.1.length c_10), (6, .int .i64 s.2)] (pt b_2 (blk x0 24) :: rowp A_9 c_10 5 1 (eI .u8) s.1 :: S)) k (([] : List Int), 0) ⟨A_4, 0, hl8, hs.to (l := [rowp A_4 0 5 1 (eI .u8) ([] : List Int), pt b_2 (blk x0 24)]) [1, 2, 5, 6] [1, 0] (L' := [(1, .int .i64 x1), (2, .pointer (some ⟨b_2, 0, none⟩)), (5, .slice A_4 (([] : List Int).length) 0), (6, .int .i64 0)]) (l' := [pt b_2 (blk x0 24), rowp A_4 0 5 1 (eI .u8) ([] : List Int)]) (by kernel_rfl) (by kernel_rfl) (by kernel_rfl)⟩ (fun s a w h => by obtain ⟨_, _, h1, _⟩ := h; simp [visorref33_Join.l1] at h1) (fun k KL8 ih s a w h => ?_)
  obtain ⟨q_11, q_12⟩ := s
  obtain ⟨A_9, c_10, hm, hs⟩ := h
  try dsimp only at hm hs
  rw [visorref33_Join.l1] at hm
  refine Vk.seq fun K13 hK13 => ?_
  refine Vk.seq fun K14 hK14 => ?_
  refine Vk.region ?_
  refine Vk.pures 4 [(13, .bool (decide (q_12 < x1))), (12, .bool (decide (q_12 < x1))), (11, .int .i64 x1), (10, .int .i64 q_12)] hs (by kernel_rfl) fun a hs => ?_
  suffices hj_15 : ∀ a, St 41 a w κ [(1, .int .i64 x1), (2, .pointer (some ⟨b_2, 0, none⟩)), (5, .slice A_9 q_11.length c_10), (6, .int .i64 q_12), (10, .int .i64 q_12), (11, .int .i64 x1), (12, .bool (decide (q_12 < x1))), (13, .bool (decide (q_12 < x1))), (16, .bool ((decide (q_12 < x1)) && (decide (q_12 < 64))))] (pt b_2 (blk x0 24) :: rowp A_9 c_10 5 1 (eI .u8) q_11 :: S) → wpFrom Try.prog _ _ 7 a w by
    rcases Bool.eq_false_or_eq_true (decide (q_12 < x1)) with hb | hb
    · replace hs := hs.known (t := 13) hb (by kernel_rfl)
      refine Vk.pures 3 [(16, .bool (decide (q_12 < 64))), (15, .bool (decide (q_12 < 64))), (14, .int .i64 q_12)] hs (by kernel_rfl) fun a hs => ?_
      have hq := hs.pick [1, 2, 5, 6, 10, 11, 12, 13, 16] (L' := [(1, .int .i64 x1), (2, .pointer (some ⟨b_2, 0, none⟩)), (5, .slice A_9 q_11.length c_10), (6, .int .i64 q_12), (10, .int .i64 q_12), (11, .int .i64 x1), (12, .bool (decide (q_12 < x1))), (13, .bool true), (16, .bool (decide (q_12 < 64)))]) (by kernel_rfl)
      exact hj_15 _ (hq.conv (by rw [hb]; rfl))
    · replace hs := hs.known (t := 13) hb (by kernel_rfl)
      refine Vk.pures 3 [(16, .bool false), (15, undef), (14, undef)] hs (by kernel_rfl) fun a hs => ?_
      have hq := hs.pick [1, 2, 5, 6, 10, 11, 12, 13, 16] (L' := [(1, .int .i64 x1), (2, .pointer (some ⟨b_2, 0, none⟩)), (5, .slice A_9 q_11.length c_10), (6, .int .i64 q_12), (10, .int .i64 q_12), (11, .int .i64 x1), (12, .bool (decide (q_12 < x1))), (13, .bool false), (16, .bool false)]) (by kernel_rfl)
      exact hj_15 _ (hq.conv (by rw [hb]; rfl))
  intro a hs
  replace hs := hs.to (l := [pt b_2 (blk x0 24), rowp A_9 c_10 5 1 (eI .u8) q_11]) [1, 2, 5, 6, 16] [0, 1] (L' := [(1, .int .i64 x1), (2, .pointer (some ⟨b_2, 0, none⟩)), (5, .slice A_9 q_11.length c_10), (6, .int .i64 q_12), (16, .bool ((decide (q_12 < x1)) && (decide (q_12 < 64))))]) (l' := [pt b_2 (blk x0 24), rowp A_9 c_10 5 1 (eI .u8) q_11]) (by kernel_rfl) (by kernel_rfl) (by kernel_rfl)
  refine Vk.done (by kernel_rfl) ?_
  refine hK14 _ _ ?_
  clear hK14
  refine Vk.condS (b := (decide (q_12 < x1)) && (decide (q_12 < 64))) hs (by kernel_rfl) (by kernel_rfl) (fun hb => ?_) (fun hb => ?_)
  · replace hm := bif_t hm hb
    refine wp_skip ?_
    refine hK13 _ _ ?_
    clear hK13
    refine Vk.seq fun K16 hK16 => ?_
    refine wp_block ?_
    refine Vk.seq fun K17 hK17 => ?_
    refine Vk.region ?_
    refine Vk.pures 1 [(7, .int .u8 0)] hs (by kernel_rfl) fun a hs => ?_
    replace hs := hs.to (l := [pt b_2 (blk x0 24), rowp A_9 c_10 5 1 (eI .u8) q_11]) [1, 2, 5, 6, 7] [0, 1] (L' := [(1, .int .i64 x1), (2, .pointer (some ⟨b_2, 0, none⟩)), (5, .slice A_9 q_11.length c_10), (6, .int .i64 q_12), (7, .int .u8 0)]) (l' := [pt b_2 (blk x0 24), rowp A_9 c_10 5 1 (eI .u8) q_11]) (by kernel_rfl) (by kernel_rfl) (by kernel_rfl)
    refine Vk.done (by kernel_rfl) ?_
    refine hK17 _ _ ?_
    clear hK17
    refine Vk.seq fun K18 hK18 => ?_
    refine Vk.seq fun K19 hK19 => ?_
    refine Vk.region ?_
    refine Vk.pures 1 [(8, .int .i64 0)] hs (by kernel_rfl) fun a hs => ?_
    replace hs := hs.to (l := [pt b_2 (blk x0 24), rowp A_9 c_10 5 1 (eI .u8) q_11]) [1, 2, 5, 6, 7, 8] [0, 1] (L' := [(1, .int .i64 x1), (2, .pointer (some ⟨b_2, 0, none⟩)), (5, .slice A_9 q_11.length c_10), (6, .int .i64 q_12), (7, .int .u8 0), (8, .int .i64 0)]) (l' := [pt b_2 (blk x0 24), rowp A_9 c_10 5 1 (eI .u8) q_11]) (by kernel_rfl) (by kernel_rfl) (by kernel_rfl)
    refine Vk.done (by kernel_rfl) ?_
    refine hK19 _ _ ?_
    clear hK19
    refine wp_block ?_
    obtain ⟨r20, hl20, hm⟩ := bind_t hm
    have hx20 : ∀ (p_31 : Int), r20 = p_31 → ∀ (a : Act) (w : World), St 41 a w κ [(1, .int .i64 x1), (2, .pointer (some ⟨b_2, 0, none⟩)), (5, .slice A_9 q_11.length c_10), (6, .int .i64 q_12), (7, .int .u8 p_31)] (pt b_2 (blk x0 24) :: rowp A_9 c_10 5 1 (eI .u8) q_11 :: S) → K18 a w := by
      intro p_31 he a w hs
      subst r20
      refine hK18 _ _ ?_
      clear hK18
      refine Vk.region ?_
      refine Vk.pures 2 [(37, .int .u8 p_31), (36, .slice A_9 q_11.length c_10)] hs (by kernel_rfl) fun a hs => ?_
      refine Vk.step (Vk.buildOp (sz := 1) (by_ := 1) (t := 22) (e := 5) (parts := #[(0, (.tmp 37))]) (zs := vals [C.int .u8 0]) ([p_31] : List Int) (eI .u8) (some 38) hs (by kernel_rfl) (by kernel_rfl) (by kernel_rfl) (by kernel_rfl) (by decide) rfl (fun x _ => rfl) (Nat.le_of_ble_eq_true (by kernel_rfl)) (by kernel_rfl) fun A_34 w a hs => ?_)
      obtain ⟨h_36, hm⟩ := ite_t hm
      refine Vk.step (Vk.appendOp (x := (.tmp 36)) (y := (.tmp 38)) (e := 5) (t := 22) (by_ := 1) (sz := 1) (enc := (eI .u8)) (A := A_9) (cap := c_10) (xs := q_11) (ys := ([p_31] : List Int)) (B := A_34) (c2 := 1) 2 (some 39) hs (by kernel_rfl) (by kernel_rfl) (by kernel_rfl) (by kernel_rfl) rfl (Own.rowSl 0 hs.own rfl) (by kernel_rfl) (by kernel_rfl) (by decide) (by decide) h_36 fun A_37 c_38 w a hs => ?_)
      refine Vk.pures 1 [(5, .slice A_37 ((q_11 ++ ([p_31] : List Int)).length) c_38)] hs (by kernel_rfl) fun a hs => ?_
      replace hs := hs.to (l := [rowp A_34 1 5 1 (eI .u8) ([p_31] : List Int), pt b_2 (blk x0 24), rowp A_37 c_38 5 1 (eI .u8) (q_11 ++ ([p_31] : List Int))]) [1, 2, 5, 6] [1, 2] (L' := [(1, .int .i64 x1), (2, .pointer (some ⟨b_2, 0, none⟩)), (5, .slice A_37 ((q_11 ++ ([p_31] : List Int)).length) c_38), (6, .int .i64 q_12)]) (l' := [pt b_2 (blk x0 24), rowp A_37 c_38 5 1 (eI .u8) (q_11 ++ ([p_31] : List Int))]) (by kernel_rfl) (by kernel_rfl) (by kernel_rfl)
      refine Vk.done (by kernel_rfl) ?_
      refine hK16 _ _ ?_
      clear hK16
      refine Vk.region ?_
      refine Vk.pures 3 [(6, .int .i64 (IntKind.i64.wrap (q_12 + 1))), (18, .int .i64 (IntKind.i64.wrap (q_12 + 1))), (17, .int .i64 q_12)] hs (by kernel_rfl) fun a hs => ?_
      replace hs := hs.to (l := [pt b_2 (blk x0 24), rowp A_37 c_38 5 1 (eI .u8) (q_11 ++ ([p_31] : List Int))]) [1, 2, 5, 6] [0, 1] (L' := [(1, .int .i64 x1), (2, .pointer (some ⟨b_2, 0, none⟩)), (5, .slice A_37 ((q_11 ++ ([p_31] : List Int)).length) c_38), (6, .int .i64 (IntKind.i64.wrap (q_12 + 1)))]) (l' := [pt b_2 (blk x0 24), rowp A_37 c_38 5 1 (eI .u8) (q_11 ++ ([p_31] : List Int))]) (by kernel_rfl) (by kernel_rfl) (by kernel_rfl)
      refine Vk.done (by kernel_rfl) ?_
      refine ih ((q_11 ++ ([p_31] : List Int)), (IntKind.i64.wrap (q_12 + 1))) _ _ ⟨A_37, c_38, hm, hs.to (l := [pt b_2 (blk x0 24), rowp A_37 c_38 5 1 (eI .u8) (q_11 ++ ([p_31] : List Int))]) [1, 2, 5, 6] [0, 1] (L' := [(1, .int .i64 x1), (2, .pointer (some ⟨b_2, 0, none⟩)), (5, .slice A_37 ((q_11 ++ ([p_31] : List Int)).length) c_38), (6, .int .i64 (IntKind.i64.wrap (q_12 + 1)))]) (l' := [pt b_2 (blk x0 24), rowp A_37 c_38 5 1 (eI .u8) (q_11 ++ ([p_31] : List Int))]) (by kernel_rfl) (by kernel_rfl) (by kernel_rfl)⟩
    refine Vk.loopBy (fun k (s : Int × Int) a w => visorref33_Join.l2 x0 q_12 k s.1 s.2 = some r20 ∧ St 41 a w κ [(1, .int .i64 x1), (2, .pointer (some ⟨b_2, 0, none⟩)), (5, .slice A_9 q_11.length c_10), (6, .int .i64 q_12), (7, .int .u8 s.1), (8, .int .i64 s.2)] (pt b_2 (blk x0 24) :: rowp A_9 c_10 5 1 (eI .u8) q_11 :: S)) k (0, 0) ⟨hl20, hs.to (l := [pt b_2 (blk x0 24), rowp A_9 c_10 5 1 (eI .u8) q_11]) [1, 2, 5, 6, 7, 8] [0, 1] (L' := [(1, .int .i64 x1), (2, .pointer (some ⟨b_2, 0, none⟩)), (5, .slice A_9 q_11.length c_10), (6, .int .i64 q_12), (7, .int .u8 0), (8, .int .i64 0)]) (l' := [pt b_2 (blk x0 24), rowp A_9 c_10 5 1 (eI .u8) q_11]) (by kernel_rfl) (by kernel_rfl) (by kernel_rfl)⟩ (fun s a w h => by obtain ⟨h1, _⟩ := h; simp [visorref33_Join.l2] at h1) (fun k KL20 ih s a w h => ?_)
    obtain ⟨q_21, q_22⟩ := s
    obtain ⟨hm, hs⟩ := h
    try dsimp only at hm hs
    rw [visorref33_Join.l2] at hm
    refine Vk.seq fun K23 hK23 => ?_
    refine Vk.seq fun K24 hK24 => ?_
    refine Vk.region ?_
    refine Vk.pures 2 [(20, .bool (decide (q_22 < 8))), (19, .int .i64 q_22)] hs (by kernel_rfl) fun a hs => ?_
    replace hs := hs.to (l := [pt b_2 (blk x0 24), rowp A_9 c_10 5 1 (eI .u8) q_11]) [1, 2, 5, 6, 7, 8, 20] [0, 1] (L' := [(1, .int .i64 x1), (2, .pointer (some ⟨b_2, 0, none⟩)), (5, .slice A_9 q_11.length c_10), (6, .int .i64 q_12), (7, .int .u8 q_21), (8, .int .i64 q_22), (20, .bool (decide (q_22 < 8)))]) (l' := [pt b_2 (blk x0 24), rowp A_9 c_10 5 1 (eI .u8) q_11]) (by kernel_rfl) (by kernel_rfl) (by kernel_rfl)
    refine Vk.done (by kernel_rfl) ?_
    refine hK24 _ _ ?_
    clear hK24
    refine Vk.condS (b := decide (q_22 < 8)) hs (by kernel_rfl) (by kernel_rfl) (fun hb => ?_) (fun hb => ?_)
    · replace hm := bif_t hm hb
      refine wp_skip ?_
      refine hK23 _ _ ?_
      clear hK23
      refine Vk.seq fun K25 hK25 => ?_
      refine wp_block ?_
      refine Vk.region ?_
      refine Vk.pures 2 [(24, .int .i64 q_22), (23, .int .u8 q_21)] hs (by kernel_rfl) fun a hs => ?_
      obtain ⟨h_26, hm⟩ := ite_t hm
      refine Vk.step (Vk.value (some 25) (.pointer (some ⟨b_2, 0 + q_22.toNat * 1, none⟩)) hs (by kernel_rfl) (op := (.indexAddr 24 (.tmp 2) (.tmp 24))) (by kernel_rfl) (fun o ho => run_idxArr (k := .i64) ho (by kernel_rfl) (by kernel_rfl) (by kernel_rfl) h_26 _) fun a hs => ?_)
      obtain ⟨v_28, h_27, hm⟩ := bind_t hm
      refine Vk.step (Vk.value (some 26) (.int .u64 v_28) hs (by kernel_rfl) (op := (.load 23 (.tmp 25))) (by kernel_rfl) (fun o ho => run_load1 (c := C.int .u64 v_28) ho (by kernel_rfl) (by kernel_rfl) (Cell.own 0 rfl (getI_some h_27)) _ hs.own) fun a hs => ?_)
      refine Vk.pures 2 [(28, .int .u64 (IntKind.u64.wrap q_12)), (27, .int .i64 q_12)] hs (by kernel_rfl) fun a hs => ?_
      obtain ⟨h_29, hm⟩ := ite_t hm
      refine Vk.step (Vk.value (some 29) (.int .u64 (shr .u64 v_28 (IntKind.u64.wrap q_12))) hs (by kernel_rfl) (op := (.binOp .shr 23 (.tmp 26) (.tmp 28) 128)) (by kernel_rfl) (fun o ho => run_shr (k' := .u64) ho (by kernel_rfl) (by kernel_rfl) h_29 _) fun a hs => ?_)
      refine Vk.pures 4 [(33, .int .u64 (IntKind.u64.wrap q_22)), (32, .int .i64 q_22), (31, .int .u8 (IntKind.u8.wrap (Int.tmod (shr .u64 v_28 (IntKind.u64.wrap q_12)) 2))), (30, .int .u64 (Int.tmod (shr .u64 v_28 (IntKind.u64.wrap q_12)) 2))] hs (by kernel_rfl) fun a hs => ?_
      obtain ⟨h_30, hm⟩ := ite_t hm
      refine Vk.step (Vk.value (some 34) (.int .u8 (shl .u8 (IntKind.u8.wrap (Int.tmod (shr .u64 v_28 (IntKind.u64.wrap q_12)) 2)) (IntKind.u64.wrap q_22))) hs (by kernel_rfl) (op := (.binOp .shl 5 (.tmp 31) (.tmp 33) 128)) (by kernel_rfl) (fun o ho => run_shl (k' := .u64) ho (by kernel_rfl) (by kernel_rfl) h_30 _) fun a hs => ?_)
      refine Vk.pures 2 [(7, .int .u8 (IntKind.u8.wrap (q_21 + (shl .u8 (IntKind.u8.wrap (Int.tmod (shr .u64 v_28 (IntKind.u64.wrap q_12)) 2)) (IntKind.u64.wrap q_22))))), (35, .int .u8 (IntKind.u8.wrap (q_21 + (shl .u8 (IntKind.u8.wrap (Int.tmod (shr .u64 v_28 (IntKind.u64.wrap q_12)) 2)) (IntKind.u64.wrap q_22)))))] hs (by kernel_rfl) fun a hs => ?_
      replace hs := hs.to (l := [pt b_2 (blk x0 24), rowp A_9 c_10 5 1 (eI .u8) q_11]) [1, 2, 5, 6, 7, 8] [0, 1] (L' := [(1, .int .i64 x1), (2, .pointer (some ⟨b_2, 0, none⟩)), (5, .slice A_9 q_11.length c_10), (6, .int .i64 q_12), (7, .int .u8 (IntKind.u8.wrap (q_21 + (shl .u8 (IntKind.u8.wrap (Int.tmod (shr .u64 v_28 (IntKind.u64.wrap q_12)) 2)) (IntKind.u64.wrap q_22))))), (8, .int .i64 q_22)]) (l' := [pt b_2 (blk x0 24), rowp A_9 c_10 5 1 (eI .u8) q_11]) (by kernel_rfl) (by kernel_rfl) (by kernel_rfl)
      refine Vk.done (by kernel_rfl) ?_
      refine hK25 _ _ ?_
      clear hK25
      refine Vk.region ?_
      refine Vk.pures 3 [(8, .int .i64 (IntKind.i64.wrap (q_22 + 1))), (22, .int .i64 (IntKind.i64.wrap (q_22 + 1))), (21, .int .i64 q_22)] hs (by kernel_rfl) fun a hs => ?_
      replace hs := hs.to (l := [pt b_2 (blk x0 24), rowp A_9 c_10 5 1 (eI .u8) q_11]) [1, 2, 5, 6, 7, 8] [0, 1] (L' := [(1, .int .i64 x1), (2, .pointer (some ⟨b_2, 0, none⟩)), (5, .slice A_9 q_11.length c_10), (6, .int .i64 q_12), (7, .int .u8 (IntKind.u8.wrap (q_21 + (shl .u8 (IntKind.u8.wrap (Int.tmod (shr .u64 v_28 (IntKind.u64.wrap q_12)) 2)) (IntKind.u64.wrap q_22))))), (8, .int .i64 (IntKind.i64.wrap (q_22 + 1)))]) (l' := [pt b_2 (blk x0 24), rowp A_9 c_10 5 1 (eI .u8) q_11]) (by kernel_rfl) (by kernel_rfl) (by kernel_rfl)
      refine Vk.done (by kernel_rfl) ?_
      refine ih ((IntKind.u8.wrap (q_21 + (shl .u8 (IntKind.u8.wrap (Int.tmod (shr .u64 v_28 (IntKind.u64.wrap q_12)) 2)) (IntKind.u64.wrap q_22)))), (IntKind.i64.wrap (q_22 + 1))) _ _ ⟨hm, hs.to (l := [pt b_2 (blk x0 24), rowp A_9 c_10 5 1 (eI .u8) q_11]) [1, 2, 5, 6, 7, 8] [0, 1] (L' := [(1, .int .i64 x1), (2, .pointer (some ⟨b_2, 0, none⟩)), (5, .slice A_9 q_11.length c_10), (6, .int .i64 q_12), (7, .int .u8 (IntKind.u8.wrap (q_21 + (shl .u8 (IntKind.u8.wrap (Int.tmod (shr .u64 v_28 (IntKind.u64.wrap q_12)) 2)) (IntKind.u64.wrap q_22))))), (8, .int .i64 (IntKind.i64.wrap (q_22 + 1)))]) (l' := [pt b_2 (blk x0 24), rowp A_9 c_10 5 1 (eI .u8) q_11]) (by kernel_rfl) (by kernel_rfl) (by kernel_rfl)⟩
    · replace hm := bif_f hm hb
      refine wp_exit ?_
      exact hx20 q_21 (Option.some.inj hm).symm _ _ (hs.to (l := [pt b_2 (blk x0 24), rowp A_9 c_10 5 1 (eI .u8) q_11]) [1, 2, 5, 6, 7] [0, 1] (L' := [(1, .int .i64 x1), (2, .pointer (some ⟨b_2, 0, none⟩)), (5, .slice A_9 q_11.length c_10), (6, .int .i64 q_12), (7, .int .u8 q_21)]) (l' := [pt b_2 (blk x0 24), rowp A_9 c_10 5 1 (eI .u8) q_11]) (by kernel_rfl) (by kernel_rfl) (by kernel_rfl))
  · replace hm := bif_f hm hb
    refine wp_exit ?_
    exact hx8 q_11 (Option.some.inj hm).symm A_9 c_10 _ _ (hs.to (l := [pt b_2 (blk x0 24), rowp A_9 c_10 5 1 (eI .u8) q_11]) [5] [1] (L' := [(5, .slice A_9 q_11.length c_10)]) (l' := [rowp A_9 c_10 5 1 (eI .u8) q_11]) (by kernel_rfl) (by kernel_rfl) (by kernel_rfl))


def visorlaw33_awake.m (k : Nat) : Option Bool := (slice_Cut.m k ([5] : List Int)).bind fun v_7 => (if Kinds ((List.replicate 8 [LK.int .u64]).flatten) v_7 then some (ceq v_7 [C.int .u64 1, C.int .u64 0, C.int .u64 1, C.int .u64 0, C.int .u64 0, C.int .u64 0, C.int .u64 0, C.int .u64 0]) else none)

set_option maxRecDepth 100000 in
set_option maxHeartbeats 4000000 in
theorem visorlaw33_awake.ok (k : Nat) (r : Bool) (hm : visorlaw33_awake.m k = some r) (κ : Ctx) (w : World) (S : List HP) (ho : Own κ w (S)) :
    Calls Try.prog 20 #[] w (fun e w' => e = .returned (.bool r) ∧ Own κ w' (S)) := by
  unfold visorlaw33_awake.m at hm
  refine Vk.enter [] Try.func20 rfl Try.ntmps20 (by kernel_rfl) (Nat.le_of_ble_eq_true (by kernel_rfl)) ho fun a hs => ?_
  refine Vk.seq fun K1 hK1 => ?_
  refine Vk.region ?_
  refine Vk.pures 1 [(0, .bool false)] hs (by kernel_rfl) fun a hs => ?_
  replace hs := hs.to (l := []) [] [] (L' := []) (l' := []) (by kernel_rfl) (by kernel_rfl) (by kernel_rfl)
  refine Vk.done (by kernel_rfl) ?_
  refine hK1 _ _ ?_
  clear hK1
  refine Vk.seq fun K2 hK2 => ?_
  refine Vk.region ?_
  refine Vk.step (Vk.buildOp (sz := 1) (by_ := 1) (t := 22) (e := 5) (parts := #[(0, (.const (.int .u8 5)))]) (zs := vals [C.int .u8 0]) ([5] : List Int) (eI .u8) (some 1) hs (by kernel_rfl) (by kernel_rfl) (by kernel_rfl) (by kernel_rfl) (by decide) rfl (fun x _ => rfl) (Nat.le_of_ble_eq_true (by kernel_rfl)) (by kernel_rfl) fun A_3 w a hs => ?_)
  obtain ⟨v_7, h_6, hm⟩ := bind_t hm
  refine Vk.step (Vk.call (some 2) 15 #[.slice A_3 (([5] : List Int).length) 1] hs (by kernel_rfl) (by kernel_rfl) (by kernel_rfl) ?_)
  refine (slice_Cut.ok k ([5] : List Int) v_7 h_6 κ w (rowp A_3 1 5 1 (eI .u8) ([5] : List Int) :: S) A_3 1 (Own.rowSl 0 hs.own rfl) hs.own).mono ?_
  rintro _ w ⟨rfl, how⟩
  refine ⟨_, _, _, rfl, how, fun a hs => ?_⟩
  refine Vk.pures 1 [(3, .agg (vals [C.int .u64 1, C.int .u64 0, C.int .u64 1, C.int .u64 0, C.int .u64 0, C.int .u64 0, C.int .u64 0, C.int .u64 0]))] hs (by kernel_rfl) fun a hs => ?_
  obtain ⟨h_9, hm⟩ := ite_t hm
  refine Vk.step (Vk.value (some 4) (.bool (ceq v_7 [C.int .u64 1, C.int .u64 0, C.int .u64 1, C.int .u64 0, C.int .u64 0, C.int .u64 0, C.int .u64 0, C.int .u64 0])) hs (by kernel_rfl) (op := (.binOp .eql 24 (.tmp 2) (.tmp 3) 24)) (by kernel_rfl) (fun o ho => run_eqV (ks := (List.replicate 8 [LK.int .u64]).flatten) (cs := v_7) (us := [C.int .u64 1, C.int .u64 0, C.int .u64 1, C.int .u64 0, C.int .u64 0, C.int .u64 0, C.int .u64 0, C.int .u64 0]) ho (by kernel_rfl) (by kernel_rfl) (by kernel_rfl) h_9 rfl _) fun a hs => ?_)
  refine Vk.pures 1 [(0, .bool (ceq v_7 [C.int .u64 1, C.int .u64 0, C.int .u64 1, C.int .u64 0, C.int .u64 0, C.int .u64 0, C.int .u64 0, C.int .u64 0]))] hs (by kernel_rfl) fun a hs => ?_
  replace hs := hs.to (l := [rowp A_3 1 5 1 (eI .u8) ([5] : List Int)]) [0] [] (L' := [(0, .bool (ceq v_7 [C.int .u64 1, C.int .u64 0, C.int .u64 1, C.int .u64 0, C.int .u64 0, C.int .u64 0, C.int .u64 0, C.int .u64 0]))]) (l' := []) (by kernel_rfl) (by kernel_rfl) (by kernel_rfl)
  refine Vk.done (by kernel_rfl) ?_
  refine hK2 _ _ ?_
  clear hK2
  refine wp_ret ?_
  replace hs := hs.to (l := []) [0] [] (L' := [(0, .bool (ceq v_7 [C.int .u64 1, C.int .u64 0, C.int .u64 1, C.int .u64 0, C.int .u64 0, C.int .u64 0, C.int .u64 0, C.int .u64 0]))]) (l' := []) (by kernel_rfl) (by kernel_rfl) (by kernel_rfl)
  exact Vk.ret1 (P := Try.prog) (fn := Try.f20) (R := fun e w' => e = .returned (.bool r) ∧ Own κ w' (S)) (.bool (ceq v_7 [C.int .u64 1, C.int .u64 0, C.int .u64 1, C.int .u64 0, C.int .u64 0, C.int .u64 0, C.int .u64 0, C.int .u64 0])) hs rfl (by kernel_rfl) (by obtain rfl := Option.some.inj hm; exact ⟨rfl, hs.own⟩)


def visorlaw33_SliceBack.j2 (k : Nat) (p_53 : Bool) : Option Bool := some p_53
def visorlaw33_SliceBack.j1 (k : Nat) (p_12 : List Int) : Option Bool := (slice_Cut.m k p_12).bind fun v_17 => (if v_17.length = 8 then (slice_Join.m k v_17 ((p_12.length : Nat) : Int)).bind fun v_24 => (slice_Cut.m k v_24).bind fun v_30 => (if v_30.length = 8 then (slice_Join.m k v_17 ((p_12.length : Nat) : Int)).bind fun v_37 => (visorref01_Same.m k v_37 p_12).bind fun v_43 => (bif v_43 then (if Kinds ((List.replicate 8 [LK.int .u64]).flatten) v_17 then (if Kinds ((List.replicate 8 [LK.int .u64]).flatten) v_30 then (bif ceq v_17 v_30 then (visorlaw33_awake.m k).bind fun v_51 => visorlaw33_SliceBack.j2 k v_51 else visorlaw33_SliceBack.j2 k false) else none) else none) else visorlaw33_SliceBack.j2 k false) else none) else none)
def visorlaw33_SliceBack.m (k : Nat) (x0 : List Int) : Option Bool := (bif decide (((x0.length : Nat) : Int) > 64) then (if ((0 : Int) ≤ 64) ∧ 0 ≤ 64 ∧ 64 ≤ x0.length then visorlaw33_SliceBack.j1 k (cut x0 (0) (64)) else none) else visorlaw33_SliceBack.j1 k x0)

set_option maxRecDepth 100000 in
set_option maxHeartbeats 4000000 in
theorem visorlaw33_SliceBack.ok (k : Nat) (x0 : List Int) (r : Bool) (hm : visorlaw33_SliceBack.m k x0 = some r) (κ : Ctx) (w : World) (S : List HP) (A_x0 : Option Addr) (c_x0 : Nat) (hx_x0 : Sl κ S A_x0 c_x0 1 (eI .u8) x0) (ho : Own κ w (S)) :
    Calls Try.prog 4 #[.slice A_x0 x0.length c_x0] w (fun e w' => e = .returned (.bool r) ∧ Own κ w' (S)) := by
  unfold visorlaw33_SliceBack.m at hm
  refine Vk.enter [(0, .slice A_x0 x0.length c_x0)] Try.func4 rfl Try.ntmps4 (by kernel_rfl) (Nat.le_of_ble_eq_true (by kernel_rfl)) ho fun a hs => ?_
  refine Vk.seq fun K1 hK1 => ?_
  refine Vk.region ?_
  refine Vk.pures 1 [(2, .bool false)] hs (by kernel_rfl) fun a hs => ?_
  replace hs := hs.to (l := []) [0] [] (L' := [(0, .slice A_x0 x0.length c_x0)]) (l' := []) (by kernel_rfl) (by kernel_rfl) (by kernel_rfl)
  refine Vk.done (by kernel_rfl) ?_
  refine hK1 _ _ ?_
  clear hK1
  refine Vk.seq fun K2 hK2 => ?_
  have hj2 : ∀ (p_12 : List Int), visorlaw33_SliceBack.j1 k p_12 = some r → ∀ (A_10 : Option Addr) (c_11 : Nat) (hx_13 : Sl κ S A_10 c_11 1 (eI .u8) p_12) (a : Act) (w : World), St 31 a w κ [(0, .slice A_10 p_12.length c_11)] (S) → K2 a w := by
    intro p_12 hm A_10 c_11 hx_13 a w hs
    unfold visorlaw33_SliceBack.j1 at hm
    refine hK2 _ _ ?_
    refine Vk.seq fun K14 hK14 => ?_
    refine Vk.region ?_
    refine Vk.pures 1 [(10, .slice A_10 p_12.length c_11)] hs (by kernel_rfl) fun a hs => ?_
    obtain ⟨v_17, h_16, hm⟩ := bind_t hm
    refine Vk.step (Vk.call (some 11) 15 #[.slice A_10 p_12.length c_11] hs (by kernel_rfl) (by kernel_rfl) (by kernel_rfl) ?_)
    refine (slice_Cut.ok k p_12 v_17 h_16 κ w (S) A_10 c_11 hx_13 hs.own).mono ?_
    rintro _ w ⟨rfl, how⟩
    refine ⟨_, _, _, rfl, how, fun a hs => ?_⟩
    refine Vk.step (Vk.alloc 3 24 [C.int .u64 0, C.int .u64 0, C.int .u64 0, C.int .u64 0, C.int .u64 0, C.int .u64 0, C.int .u64 0, C.int .u64 0] hs (by kernel_rfl) (by kernel_rfl) (by kernel_rfl) fun b_19 w a hs => ?_)
    obtain ⟨h_20, hm⟩ := ite_t hm
    refine Vk.step (Vk.storeA (ty := 24) (x := (.tmp 3)) (y := (.tmp 11)) (sz := 8) v_17 0 hs (by kernel_rfl) (by kernel_rfl) (by kernel_rfl) (by kernel_rfl) (by kernel_rfl) h_20 (by kernel_rfl) rfl (Eq.trans (b := 8) h_20 (Eq.symm rfl)) fun a w hs => ?_)
    replace hs := hs.to (l := [pt b_19 (blk v_17 24)]) [0, 3] [0] (L' := [(0, .slice A_10 p_12.length c_11), (3, .pointer (some ⟨b_19, 0, none⟩))]) (l' := [pt b_19 (blk v_17 24)]) (by kernel_rfl) (by kernel_rfl) (by kernel_rfl)
    refine Vk.done (by kernel_rfl) ?_
    refine hK14 _ _ ?_
    clear hK14
    refine Vk.seq fun K21 hK21 => ?_
    refine Vk.region ?_
    refine Vk.step (Vk.value (some 12) (.agg (vals v_17)) hs (by kernel_rfl) (op := (.load 24 (.tmp 3))) (by kernel_rfl) (fun o ho => run_loadN (cs := v_17) ho (by kernel_rfl) (by kernel_rfl) h_20 (CellsAt.all 0 rfl) _ hs.own) fun a hs => ?_)
    refine Vk.pures 2 [(14, .int .i64 ((p_12.length : Nat) : Int)), (13, .slice A_10 p_12.length c_11)] hs (by kernel_rfl) fun a hs => ?_
    obtain ⟨v_24, h_23, hm⟩ := bind_t hm
    refine Vk.step (Vk.call (some 15) 18 #[.agg (vals v_17), .int .i64 ((p_12.length : Nat) : Int)] hs (by kernel_rfl) (by kernel_rfl) (by kernel_rfl) ?_)
    refine (slice_Join.ok k v_17 ((p_12.length : Nat) : Int) v_24 h_23 κ w (pt b_19 (blk v_17 24) :: S) hs.own).mono ?_
    rintro _ w ⟨Ar22x0_26, cr22x0_27, rfl, how⟩
    refine ⟨_, _, _, rfl, how, fun a hs => ?_⟩
    obtain ⟨v_30, h_29, hm⟩ := bind_t hm
    refine Vk.step (Vk.call (some 16) 15 #[.slice Ar22x0_26 v_24.length cr22x0_27] hs (by kernel_rfl) (by kernel_rfl) (by kernel_rfl) ?_)
    refine (slice_Cut.ok k v_24 v_30 h_29 κ w (rowp Ar22x0_26 cr22x0_27 5 1 (eI .u8) v_24 :: pt b_19 (blk v_17 24) :: S) Ar22x0_26 cr22x0_27 (Own.rowSl 0 hs.own rfl) hs.own).mono ?_
    rintro _ w ⟨rfl, how⟩
    refine ⟨_, _, _, rfl, how, fun a hs => ?_⟩
    refine Vk.step (Vk.alloc 4 24 [C.int .u64 0, C.int .u64 0, C.int .u64 0, C.int .u64 0, C.int .u64 0, C.int .u64 0, C.int .u64 0, C.int .u64 0] hs (by kernel_rfl) (by kernel_rfl) (by kernel_rfl) fun b_32 w a hs => ?_)
    obtain ⟨h_33, hm⟩ := ite_t hm
    refine Vk.step (Vk.storeA (ty := 24) (x := (.tmp 4)) (y := (.tmp 16)) (sz := 8) v_30 0 hs (by kernel_rfl) (by kernel_rfl) (by kernel_rfl) (by kernel_rfl) (by kernel_rfl) h_33 (by kernel_rfl) rfl (Eq.trans (b := 8) h_33 (Eq.symm rfl)) fun a w hs => ?_)
    replace hs := hs.to (l := [pt b_32 (blk v_30 24), rowp Ar22x0_26 cr22x0_27 5 1 (eI .u8) v_24, pt b_19 (blk v_17 24)]) [0, 3, 4] [0, 2] (L' := [(0, .slice A_10 p_12.length c_11), (3, .pointer (some ⟨b_19, 0, none⟩)), (4, .pointer (some ⟨b_32, 0, none⟩))]) (l' := [pt b_32 (blk v_30 24), pt b_19 (blk v_17 24)]) (by kernel_rfl) (by kernel_rfl) (by kernel_rfl)
    refine Vk.done (by kernel_rfl) ?_
    refine hK21 _ _ ?_
    clear hK21
    refine Vk.seq fun K34 hK34 => ?_
    have hj34 : ∀ (p_53 : Bool), visorlaw33_SliceBack.j2 k p_53 = some r → ∀ (a : Act) (w : World), St 31 a w κ [(2, .bool p_53)] (S) → K34 a w := by
      intro p_53 hm a w hs
      unfold visorlaw33_SliceBack.j2 at hm
      refine hK34 _ _ ?_
      refine wp_ret ?_
      replace hs := hs.to (l := []) [2] [] (L' := [(2, .bool p_53)]) (l' := []) (by kernel_rfl) (by kernel_rfl) (by kernel_rfl)
      exact Vk.ret1 (P := Try.prog) (fn := Try.f4) (R := fun e w' => e = .returned (.bool r) ∧ Own κ w' (S)) (.bool p_53) hs rfl (by kernel_rfl) (by obtain rfl := Option.some.inj hm; exact ⟨rfl, hs.own⟩)
    refine Vk.region ?_
    refine Vk.step (Vk.value (some 17) (.agg (vals v_17)) hs (by kernel_rfl) (op := (.load 24 (.tmp 3))) (by kernel_rfl) (fun o ho => run_loadN (cs := v_17) ho (by kernel_rfl) (by kernel_rfl) h_20 (CellsAt.all 1 rfl) _ hs.own) fun a hs => ?_)
    refine Vk.pures 2 [(19, .int .i64 ((p_12.length : Nat) : Int)), (18, .slice A_10 p_12.length c_11)] hs (by kernel_rfl) fun a hs => ?_
    obtain ⟨v_37, h_36, hm⟩ := bind_t hm
    refine Vk.step (Vk.call (some 20) 18 #[.agg (vals v_17), .int .i64 ((p_12.length : Nat) : Int)] hs (by kernel_rfl) (by kernel_rfl) (by kernel_rfl) ?_)
    refine (slice_Join.ok k v_17 ((p_12.length : Nat) : Int) v_37 h_36 κ w (pt b_32 (blk v_30 24) :: pt b_19 (blk v_17 24) :: S) hs.own).mono ?_
    rintro _ w ⟨Ar35x0_39, cr35x0_40, rfl, how⟩
    refine ⟨_, _, _, rfl, how, fun a hs => ?_⟩
    refine Vk.pures 1 [(21, .slice A_10 p_12.length c_11)] hs (by kernel_rfl) fun a hs => ?_
    obtain ⟨v_43, h_42, hm⟩ := bind_t hm
    refine Vk.step (Vk.call (some 22) 17 #[.slice Ar35x0_39 v_37.length cr35x0_40, .slice A_10 p_12.length c_11] hs (by kernel_rfl) (by kernel_rfl) (by kernel_rfl) ?_)
    refine (visorref01_Same.ok k v_37 p_12 v_43 h_42 κ w (rowp Ar35x0_39 cr35x0_40 5 1 (eI .u8) v_37 :: pt b_32 (blk v_30 24) :: pt b_19 (blk v_17 24) :: S) Ar35x0_39 cr35x0_40 (Own.rowSl 0 hs.own rfl) A_10 c_11 hx_13.less.less.less hs.own).mono ?_
    rintro _ w ⟨rfl, how⟩
    refine ⟨_, _, _, rfl, how, fun a hs => ?_⟩
    refine Vk.pures 1 [(23, .bool v_43)] hs (by kernel_rfl) fun a hs => ?_
    rcases Bool.eq_false_or_eq_true (v_43) with hb | hb
    · replace hm := bif_t hm hb
      replace hs := hs.known (t := 23) hb (by kernel_rfl)
      refine Vk.step (Vk.value (some 24) (.agg (vals v_17)) hs (by kernel_rfl) (op := (.load 24 (.tmp 3))) (by kernel_rfl) (fun o ho => run_loadN (cs := v_17) ho (by kernel_rfl) (by kernel_rfl) h_20 (CellsAt.all 2 rfl) _ hs.own) fun a hs => ?_)
      refine Vk.step (Vk.value (some 25) (.agg (vals v_30)) hs (by kernel_rfl) (op := (.load 24 (.tmp 4))) (by kernel_rfl) (fun o ho => run_loadN (cs := v_30) ho (by kernel_rfl) (by kernel_rfl) h_33 (CellsAt.all 1 rfl) _ hs.own) fun a hs => ?_)
      obtain ⟨h_47, hm⟩ := ite_t hm
      obtain ⟨h_48, hm⟩ := ite_t hm
      refine Vk.step (Vk.value (some 26) (.bool (ceq v_17 v_30)) hs (by kernel_rfl) (op := (.binOp .eql 24 (.tmp 24) (.tmp 25) 24)) (by kernel_rfl) (fun o ho => run_eqV (ks := (List.replicate 8 [LK.int .u64]).flatten) (cs := v_17) (us := v_30) ho (by kernel_rfl) (by kernel_rfl) (by kernel_rfl) h_47 h_48 _) fun a hs => ?_)
      refine Vk.pures 2 [(28, .bool (ceq v_17 v_30)), (27, .bool (ceq v_17 v_30))] hs (by kernel_rfl) fun a hs => ?_
      rcases Bool.eq_false_or_eq_true (ceq v_17 v_30) with hb | hb
      · replace hm := bif_t hm hb
        replace hs := hs.known (t := 28) hb (by kernel_rfl)
        obtain ⟨v_51, h_50, hm⟩ := bind_t hm
        refine Vk.step (Vk.call (some 29) 20 #[] hs (by kernel_rfl) (by kernel_rfl) (by kernel_rfl) ?_)
        refine (visorlaw33_awake.ok k v_51 h_50 κ w (rowp Ar35x0_39 cr35x0_40 5 1 (eI .u8) v_37 :: pt b_32 (blk v_30 24) :: pt b_19 (blk v_17 24) :: S) hs.own).mono ?_
        rintro _ w ⟨rfl, how⟩
        refine ⟨_, _, _, rfl, how, fun a hs => ?_⟩
        refine Vk.pures 2 [(2, .bool v_51), (30, .bool v_51)] hs (by kernel_rfl) fun a hs => ?_
        replace hs := hs.to (l := [rowp Ar35x0_39 cr35x0_40 5 1 (eI .u8) v_37, pt b_32 (blk v_30 24), pt b_19 (blk v_17 24)]) [2] [] (L' := [(2, .bool v_51)]) (l' := []) (by kernel_rfl) (by kernel_rfl) (by kernel_rfl)
        refine Vk.done (by kernel_rfl) ?_
        exact hj34 v_51 hm _ _ (hs.to (l := []) [2] [] (L' := [(2, .bool v_51)]) (l' := []) (by kernel_rfl) (by kernel_rfl) (by kernel_rfl))
      · replace hm := bif_f hm hb
        replace hs := hs.known (t := 28) hb (by kernel_rfl)
        refine Vk.pures 3 [(2, .bool false), (30, .bool false), (29, undef)] hs (by kernel_rfl) fun a hs => ?_
        replace hs := hs.to (l := [rowp Ar35x0_39 cr35x0_40 5 1 (eI .u8) v_37, pt b_32 (blk v_30 24), pt b_19 (blk v_17 24)]) [2] [] (L' := [(2, .bool false)]) (l' := []) (by kernel_rfl) (by kernel_rfl) (by kernel_rfl)
        refine Vk.done (by kernel_rfl) ?_
        exact hj34 false hm _ _ (hs.to (l := []) [2] [] (L' := [(2, .bool false)]) (l' := []) (by kernel_rfl) (by kernel_rfl) (by kernel_rfl))
    · replace hm := bif_f hm hb
      replace hs := hs.known (t := 23) hb (by kernel_rfl)
      refine Vk.pures 8 [(2, .bool false), (30, .bool false), (29, undef), (28, .bool false), (27, .bool false), (26, undef), (25, undef), (24, undef)] hs (by kernel_rfl) fun a hs => ?_
      replace hs := hs.to (l := [rowp Ar35x0_39 cr35x0_40 5 1 (eI .u8) v_37, pt b_32 (blk v_30 24), pt b_19 (blk v_17 24)]) [2] [] (L' := [(2, .bool false)]) (l' := []) (by kernel_rfl) (by kernel_rfl) (by kernel_rfl)
      refine Vk.done (by kernel_rfl) ?_
      exact hj34 false hm _ _ (hs.to (l := []) [2] [] (L' := [(2, .bool false)]) (l' := []) (by kernel_rfl) (by kernel_rfl) (by kernel_rfl))
  refine Vk.seq fun K3 hK3 => ?_
  refine Vk.region ?_
  refine Vk.pures 3 [(7, .bool (decide (((x0.length : Nat) : Int) > 64))), (6, .int .i64 ((x0.length : Nat) : Int)), (5, .slice A_x0 x0.length c_x0)] hs (by kernel_rfl) fun a hs => ?_
  replace hs := hs.to (l := []) [0, 7] [] (L' := [(0, .slice A_x0 x0.length c_x0), (7, .bool (decide (((x0.length : Nat) : Int) > 64)))]) (l' := []) (by kernel_rfl) (by kernel_rfl) (by kernel_rfl)
  refine Vk.done (by kernel_rfl) ?_
  refine hK3 _ _ ?_
  clear hK3
  refine Vk.condS (b := decide (((x0.length : Nat) : Int) > 64)) hs (by kernel_rfl) (by kernel_rfl) (fun hb => ?_) (fun hb => ?_)
  · replace hm := bif_t hm hb
    refine Vk.region ?_
    refine Vk.pures 1 [(8, .slice A_x0 x0.length c_x0)] hs (by kernel_rfl) fun a hs => ?_
    obtain ⟨h_4, hm⟩ := ite_t hm
    obtain ⟨A_5, c_6, eA_7, ec_8, hx_9⟩ := Sl.sub hx_x0 h_4.2
    refine Vk.step (Vk.value (some 9) (.slice A_5 ((cut x0 (0) (64)).length) c_6) hs (by kernel_rfl) (op := (.slice 22 (.tmp 8) none (some (.const (.int .i64 64))) none)) (by kernel_rfl) (fun o ho => run_sub (sz := 1) (e := 5) h_4.2 eA_7 ec_8 (Sl.le hx_x0) ho (by kernel_rfl) (by kernel_rfl) (by kernel_rfl) rfl ⟨.i64, 64, by kernel_rfl, h_4.1, rfl⟩ _) fun a hs => ?_)
    refine Vk.pures 1 [(0, .slice A_5 ((cut x0 (0) (64)).length) c_6)] hs (by kernel_rfl) fun a hs => ?_
    replace hs := hs.to (l := []) [0] [] (L' := [(0, .slice A_5 ((cut x0 (0) (64)).length) c_6)]) (l' := []) (by kernel_rfl) (by kernel_rfl) (by kernel_rfl)
    refine Vk.done (by kernel_rfl) ?_
    exact hj2 (cut x0 (0) (64)) hm A_5 c_6 hx_9 _ _ (hs.to (l := []) [0] [] (L' := [(0, .slice A_5 ((cut x0 (0) (64)).length) c_6)]) (l' := []) (by kernel_rfl) (by kernel_rfl) (by kernel_rfl))
  · replace hm := bif_f hm hb
    refine wp_skip ?_
    exact hj2 x0 hm A_x0 c_x0 hx_x0 _ _ (hs.to (l := []) [0] [] (L' := [(0, .slice A_x0 x0.length c_x0)]) (l' := []) (by kernel_rfl) (by kernel_rfl) (by kernel_rfl))

end Go.Proofs.Ytjjdlidjlepgeaa
