/- Of each Go function that WireMakes comes to: a model in plain Lean, and that the program's call does what the model says; no condition. -/
import Derived.Test.YtjjdlidjlepgeaaProg
import Derived.Test.YtjjdlidjlepgeaaVollbmjpn
import Derived.Test.YtjjdlidjlepgeaaMWireMakes1
namespace Go.Proofs.Ytjjdlidjlepgeaa
open Go Go.Vk
set_option linter.unusedVariables false


def visorref18_Right.l2 (x0 : Tapi_Trace) : Nat → Int → Int → Option (Sum (Bool) (Unit))
  | 0, _, _ => none
  | k + 1, q_56, q_57 => (bif decide (q_57 < ((x0.blocks.length : Nat) : Int)) then (if 0 ≤ q_57 then (x0.blocks[q_57.toNat]?).bind fun e_65 => (bif ((((decide (e_65.kind < 1)) || (decide (e_65.kind > 3))) || (decide (e_65.fromF < q_56))) || (decide (e_65.to ≤ e_65.fromF))) || (decide (e_65.to > ((x0.ops.length : Nat) : Int))) then some (.inl false) else visorref18_Right.l2 x0 k e_65.to (IntKind.i64.wrap (q_57 + 1))) else none) else some (.inr ()))
def visorref18_Right.j1 (k : Nat) (rec11 : Int → Int → Option (Sum (Bool) (Unit))) (q_13 : Int) (p_49 : Int) : Option (Sum (Bool) (Unit)) := rec11 p_49 (IntKind.i64.wrap (q_13 + 1))
def visorref18_Right.l1 (x0 : Tapi_Trace) : Nat → Int → Int → Option (Sum (Bool) (Unit))
  | 0, _, _ => none
  | k + 1, q_12, q_13 => (bif decide (q_13 < ((x0.ops.length : Nat) : Int)) then (if 0 ≤ q_13 then (x0.ops[q_13.toNat]?).bind fun e_23 => (visorref17_Right.m k e_23 q_13 x0.n).bind fun v_29 => (bif !v_29 then some (.inl false) else (if 0 ≤ q_13 then (x0.ops[q_13.toNat]?).bind fun e_35 => (bif e_35.kind == 2 then (if 0 ≤ q_13 then (x0.ops[q_13.toNat]?).bind fun e_44 => (bif e_44.c != q_12 then some (.inl false) else visorref18_Right.j1 k (visorref18_Right.l1 x0 k) q_13 (IntKind.u64.wrap (q_12 + 1))) else none) else visorref18_Right.j1 k (visorref18_Right.l1 x0 k) q_13 q_12) else none)) else none) else some (.inr ()))
abbrev visorref18_Right.R (κ : Ctx) (S : List HP) (x0 : Tapi_Trace) (A_x0ops : Option Addr) (c_x0ops : Nat) (A_x0blocks : Option Addr) (c_x0blocks : Nat) (r : Bool) : Ending → World → Prop := fun e w' => e = .returned (.bool r) ∧ Own κ w' (S)
def visorref18_Right.m (k : Nat) (x0 : Tapi_Trace) : Option Bool := (bif ((x0.n != 2) && (x0.n != 3)) || (decide (((x0.ops.length : Nat) : Int) > 1048576)) then some false else (visorref18_Right.l1 x0 k 0 0).bind fun x => match x with | .inl v => some v | .inr () => (visorref18_Right.l2 x0 k 0 0).bind fun x => match x with | .inl v => some v | .inr () => some true)

set_option maxRecDepth 100000 in
set_option maxHeartbeats 4000000 in
theorem visorref18_Right.ok (k : Nat) (x0 : Tapi_Trace) (r : Bool) (hm : visorref18_Right.m k x0 = some r) (κ : Ctx) (w : World) (S : List HP) (A_x0ops : Option Addr) (c_x0ops : Nat) (hx_x0ops : Sl κ S A_x0ops c_x0ops 6 Tapi_Op.cells x0.ops) (A_x0blocks : Option Addr) (c_x0blocks : Nat) (hx_x0blocks : Sl κ S A_x0blocks c_x0blocks 3 Tapi_Span.cells x0.blocks) (ho : Own κ w (S)) :
    Calls Try.prog 46 #[.agg (vals [C.int .i64 x0.n, C.slc A_x0ops x0.ops.length c_x0ops, C.slc A_x0blocks x0.blocks.length c_x0blocks])] w (visorref18_Right.R κ S x0 A_x0ops c_x0ops A_x0blocks c_x0blocks r) := by
  unfold visorref18_Right.m at hm
  refine Vk.enter [(0, .agg (vals [C.int .i64 x0.n, C.slc A_x0ops x0.ops.length c_x0ops, C.slc A_x0blocks x0.blocks.length c_x0blocks]))] Try.func46 rfl Try.ntmps46 (by kernel_rfl) (Nat.le_of_ble_eq_true (by kernel_rfl)) ho fun a hs => ?_
  refine Vk.seq fun K1 hK1 => ?_
  refine Vk.region ?_
  refine Vk.step (Vk.box (x := (.tmp 0)) 1 72 [C.int .i64 x0.n, C.slc A_x0ops x0.ops.length c_x0ops, C.slc A_x0blocks x0.blocks.length c_x0blocks] hs (by kernel_rfl) (by kernel_rfl) (by kernel_rfl) fun b_2 w a hs => ?_)
  refine Vk.pures 1 [(2, .bool false)] hs (by kernel_rfl) fun a hs => ?_
  replace hs := hs.pick [1] (L' := [(1, .pointer (some ⟨b_2, 0, none⟩))]) (by kernel_rfl)
  refine Vk.done (by kernel_rfl) ?_
  refine hK1 _ _ ?_
  clear hK1
  refine Vk.seq fun K3 hK3 => ?_
  refine Vk.seq fun K4 hK4 => ?_
  refine Vk.region ?_
  refine Vk.pures 1 [(8, .pointer (some ⟨b_2, 0, none⟩))] hs (by kernel_rfl) fun a hs => ?_
  refine Vk.step (Vk.value (some 9) (.int .i64 x0.n) hs (by kernel_rfl) (op := (.load 3 (.tmp 8))) (by kernel_rfl) (fun o ho => run_load1 (b := b_2) (off := 0) (c := C.int .i64 x0.n) ho (by kernel_rfl) (by kernel_rfl) (Cell.own 0 rfl (by kernel_rfl)) _ hs.own) fun a hs => ?_)
  refine Vk.pures 2 [(11, .bool (x0.n != 2)), (10, .bool (x0.n != 2))] hs (by kernel_rfl) fun a hs => ?_
  suffices hj_5 : ∀ a, St 99 a w κ [(1, .pointer (some ⟨b_2, 0, none⟩)), (8, .pointer (some ⟨b_2, 0, none⟩)), (9, .int .i64 x0.n), (10, .bool (x0.n != 2)), (11, .bool (x0.n != 2)), (15, .bool ((x0.n != 2) && (x0.n != 3)))] (pt b_2 (blk (Tapi_Trace.obj x0 A_x0ops c_x0ops A_x0blocks c_x0blocks) 72) :: S) → wpFrom Try.prog _ _ 8 a w by
    rcases Bool.eq_false_or_eq_true (x0.n != 2) with hb | hb
    · replace hs := hs.known (t := 11) hb (by kernel_rfl)
      refine Vk.pures 1 [(12, .pointer (some ⟨b_2, 0, none⟩))] hs (by kernel_rfl) fun a hs => ?_
      refine Vk.step (Vk.value (some 13) (.int .i64 x0.n) hs (by kernel_rfl) (op := (.load 3 (.tmp 12))) (by kernel_rfl) (fun o ho => run_load1 (b := b_2) (off := 0) (c := C.int .i64 x0.n) ho (by kernel_rfl) (by kernel_rfl) (Cell.own 0 rfl (by kernel_rfl)) _ hs.own) fun a hs => ?_)
      refine Vk.pures 2 [(15, .bool (x0.n != 3)), (14, .bool (x0.n != 3))] hs (by kernel_rfl) fun a hs => ?_
      have hq := hs.pick [1, 8, 9, 10, 11, 15] (L' := [(1, .pointer (some ⟨b_2, 0, none⟩)), (8, .pointer (some ⟨b_2, 0, none⟩)), (9, .int .i64 x0.n), (10, .bool (x0.n != 2)), (11, .bool true), (15, .bool (x0.n != 3))]) (by kernel_rfl)
      exact hj_5 _ (hq.conv (by first | (rw [hb] <;> rfl) | rfl))
    · replace hs := hs.known (t := 11) hb (by kernel_rfl)
      refine Vk.pures 4 [(15, .bool false), (14, undef), (13, undef), (12, undef)] hs (by kernel_rfl) fun a hs => ?_
      have hq := hs.pick [1, 8, 9, 10, 11, 15] (L' := [(1, .pointer (some ⟨b_2, 0, none⟩)), (8, .pointer (some ⟨b_2, 0, none⟩)), (9, .int .i64 x0.n), (10, .bool (x0.n != 2)), (11, .bool false), (15, .bool false)]) (by kernel_rfl)
      exact hj_5 _ (hq.conv (by first | (rw [hb] <;> rfl) | rfl))
  intro a hs
  refine Vk.pures 1 [(16, .bool ((x0.n != 2) && (x0.n != 3)))] hs (by kernel_rfl) fun a hs => ?_
  suffices hj_6 : ∀ a, St 99 a w κ [(1, .pointer (some ⟨b_2, 0, none⟩)), (8, .pointer (some ⟨b_2, 0, none⟩)), (9, .int .i64 x0.n), (10, .bool (x0.n != 2)), (11, .bool (x0.n != 2)), (15, .bool ((x0.n != 2) && (x0.n != 3))), (16, .bool ((x0.n != 2) && (x0.n != 3))), (21, .bool (((x0.n != 2) && (x0.n != 3)) || (decide (((x0.ops.length : Nat) : Int) > 1048576))))] (pt b_2 (blk (Tapi_Trace.obj x0 A_x0ops c_x0ops A_x0blocks c_x0blocks) 72) :: S) → wpFrom Try.prog _ _ 14 a w by
    rcases Bool.eq_false_or_eq_true ((x0.n != 2) && (x0.n != 3)) with hb | hb
    · replace hs := hs.known (t := 16) hb (by kernel_rfl)
      refine Vk.pures 5 [(21, .bool true), (20, undef), (19, undef), (18, undef), (17, undef)] hs (by kernel_rfl) fun a hs => ?_
      have hq := hs.pick [1, 8, 9, 10, 11, 15, 16, 21] (L' := [(1, .pointer (some ⟨b_2, 0, none⟩)), (8, .pointer (some ⟨b_2, 0, none⟩)), (9, .int .i64 x0.n), (10, .bool (x0.n != 2)), (11, .bool (x0.n != 2)), (15, .bool ((x0.n != 2) && (x0.n != 3))), (16, .bool true), (21, .bool true)]) (by kernel_rfl)
      exact hj_6 _ (hq.conv (by first | (rw [hb] <;> rfl) | rfl))
    · replace hs := hs.known (t := 16) hb (by kernel_rfl)
      refine Vk.pures 1 [(17, .pointer (some ⟨b_2, 1, none⟩))] hs (by kernel_rfl) fun a hs => ?_
      refine Vk.step (Vk.value (some 18) (.slice A_x0ops x0.ops.length c_x0ops) hs (by kernel_rfl) (op := (.load 69 (.tmp 17))) (by kernel_rfl) (fun o ho => run_load1 (b := b_2) (off := 1) (c := C.slc A_x0ops x0.ops.length c_x0ops) ho (by kernel_rfl) (by kernel_rfl) (Cell.own 0 rfl (by kernel_rfl)) _ hs.own) fun a hs => ?_)
      refine Vk.pures 3 [(21, .bool (decide (((x0.ops.length : Nat) : Int) > 1048576))), (20, .bool (decide (((x0.ops.length : Nat) : Int) > 1048576))), (19, .int .i64 ((x0.ops.length : Nat) : Int))] hs (by kernel_rfl) fun a hs => ?_
      have hq := hs.pick [1, 8, 9, 10, 11, 15, 16, 21] (L' := [(1, .pointer (some ⟨b_2, 0, none⟩)), (8, .pointer (some ⟨b_2, 0, none⟩)), (9, .int .i64 x0.n), (10, .bool (x0.n != 2)), (11, .bool (x0.n != 2)), (15, .bool ((x0.n != 2) && (x0.n != 3))), (16, .bool false), (21, .bool (decide (((x0.ops.length : Nat) : Int) > 1048576)))]) (by kernel_rfl)
      exact hj_6 _ (hq.conv (by first | (rw [hb] <;> rfl) | rfl))
  intro a hs
  replace hs := hs.pick [1, 21] (L' := [(1, .pointer (some ⟨b_2, 0, none⟩)), (21, .bool (((x0.n != 2) && (x0.n != 3)) || (decide (((x0.ops.length : Nat) : Int) > 1048576))))]) (by kernel_rfl)
  refine Vk.done (by kernel_rfl) ?_
  refine hK4 _ _ ?_
  clear hK4
  refine Vk.condS (b := ((x0.n != 2) && (x0.n != 3)) || (decide (((x0.ops.length : Nat) : Int) > 1048576))) hs (by kernel_rfl) (by kernel_rfl) (fun hb => ?_) (fun hb => ?_)
  · replace hm := bif_t hm hb
    refine Vk.seq fun K7 hK7 => ?_
    refine Vk.region ?_
    refine Vk.pures 1 [(2, .bool false)] hs (by kernel_rfl) fun a hs => ?_
    replace hs := hs.pick [2] (L' := [(2, .bool false)]) (by kernel_rfl)
    refine Vk.done (by kernel_rfl) ?_
    refine hK7 _ _ ?_
    clear hK7
    refine wp_ret ?_
    exact Vk.ret1 (P := Try.prog) (fn := Try.f46) (R := visorref18_Right.R κ S x0 A_x0ops c_x0ops A_x0blocks c_x0blocks r) (.bool false) hs rfl (by kernel_rfl) (by obtain rfl := Option.some.inj hm; exact ⟨rfl, (Own.to hs.own [] 1 (by kernel_rfl) (by kernel_rfl))⟩)
  · replace hm := bif_f hm hb
    refine wp_skip ?_
    refine hK3 _ _ ?_
    clear hK3
    refine Vk.seq fun K8 hK8 => ?_
    refine Vk.region ?_
    refine Vk.pures 1 [(3, .int .u64 0)] hs (by kernel_rfl) fun a hs => ?_
    replace hs := hs.pick [1, 3] (L' := [(1, .pointer (some ⟨b_2, 0, none⟩)), (3, .int .u64 0)]) (by kernel_rfl)
    refine Vk.done (by kernel_rfl) ?_
    refine hK8 _ _ ?_
    clear hK8
    refine Vk.seq fun K9 hK9 => ?_
    refine Vk.seq fun K10 hK10 => ?_
    refine Vk.region ?_
    refine Vk.pures 1 [(4, .int .i64 0)] hs (by kernel_rfl) fun a hs => ?_
    replace hs := hs.pick [1, 3, 4] (L' := [(1, .pointer (some ⟨b_2, 0, none⟩)), (3, .int .u64 0), (4, .int .i64 0)]) (by kernel_rfl)
    refine Vk.done (by kernel_rfl) ?_
    refine hK10 _ _ ?_
    clear hK10
    refine wp_block ?_
    obtain ⟨r11, hl11, hm⟩ := bind_t hm
    have hx11 : r11 = Sum.inr () → ∀ (a : Act) (w : World), St 99 a w κ [(1, .pointer (some ⟨b_2, 0, none⟩))] (pt b_2 (blk (Tapi_Trace.obj x0 A_x0ops c_x0ops A_x0blocks c_x0blocks) 72) :: S) → K9 a w := by
      intro he a w hs
      subst r11
      refine hK9 _ _ ?_
      clear hK9
      refine Vk.seq fun K52 hK52 => ?_
      refine Vk.region ?_
      refine Vk.pures 1 [(5, .int .i64 0)] hs (by kernel_rfl) fun a hs => ?_
      replace hs := hs.pick [1, 5] (L' := [(1, .pointer (some ⟨b_2, 0, none⟩)), (5, .int .i64 0)]) (by kernel_rfl)
      refine Vk.done (by kernel_rfl) ?_
      refine hK52 _ _ ?_
      clear hK52
      refine Vk.seq fun K53 hK53 => ?_
      refine Vk.seq fun K54 hK54 => ?_
      refine Vk.region ?_
      refine Vk.pures 1 [(6, .int .i64 0)] hs (by kernel_rfl) fun a hs => ?_
      replace hs := hs.pick [1, 5, 6] (L' := [(1, .pointer (some ⟨b_2, 0, none⟩)), (5, .int .i64 0), (6, .int .i64 0)]) (by kernel_rfl)
      refine Vk.done (by kernel_rfl) ?_
      refine hK54 _ _ ?_
      clear hK54
      refine wp_block ?_
      obtain ⟨r55, hl55, hm⟩ := bind_t hm
      have hx55 : r55 = Sum.inr () → ∀ (a : Act) (w : World), St 99 a w κ [] (S) → K53 a w := by
        intro he a w hs
        subst r55
        refine hK53 _ _ ?_
        clear hK53
        refine Vk.seq fun K79 hK79 => ?_
        refine Vk.region ?_
        refine Vk.pures 1 [(2, .bool true)] hs (by kernel_rfl) fun a hs => ?_
        replace hs := hs.pick [2] (L' := [(2, .bool true)]) (by kernel_rfl)
        refine Vk.done (by kernel_rfl) ?_
        refine hK79 _ _ ?_
        clear hK79
        refine wp_ret ?_
        exact Vk.ret1 (P := Try.prog) (fn := Try.f46) (R := visorref18_Right.R κ S x0 A_x0ops c_x0ops A_x0blocks c_x0blocks r) (.bool true) hs rfl (by kernel_rfl) (by obtain rfl := Option.some.inj hm; exact ⟨rfl, (Own.to hs.own [] 0 (by kernel_rfl) (by kernel_rfl))⟩)
      have hret55 : ∀ v, r55 = Sum.inl v → v = r := by intro v he; subst r55; exact Option.some.inj hm
      refine Vk.loopBy (fun k (s : Int × Int) a w => visorref18_Right.l2 x0 k s.1 s.2 = some r55 ∧ St 99 a w κ [(1, .pointer (some ⟨b_2, 0, none⟩)), (5, .int .i64 s.1), (6, .int .i64 s.2)] (pt b_2 (blk (Tapi_Trace.obj x0 A_x0ops c_x0ops A_x0blocks c_x0blocks) 72) :: S)) k (0, 0) ⟨hl55, hs.go [1, 5, 6] [0] 1 (by kernel_rfl) (by kernel_rfl) (by kernel_rfl)⟩ (fun s a w h => by obtain ⟨h1, _⟩ := h; simp [visorref18_Right.l2] at h1) (fun k KL55 ih s a w h => ?_)
      obtain ⟨q_56, q_57⟩ := s
      obtain ⟨hm, hs⟩ := h
      try dsimp only at hm hs
      rw [visorref18_Right.l2] at hm
      refine Vk.seq fun K58 hK58 => ?_
      refine Vk.seq fun K59 hK59 => ?_
      refine Vk.region ?_
      refine Vk.pures 2 [(57, .pointer (some ⟨b_2, 2, none⟩)), (56, .int .i64 q_57)] hs (by kernel_rfl) fun a hs => ?_
      refine Vk.step (Vk.value (some 58) (.slice A_x0blocks x0.blocks.length c_x0blocks) hs (by kernel_rfl) (op := (.load 70 (.tmp 57))) (by kernel_rfl) (fun o ho => run_load1 (b := b_2) (off := 2) (c := C.slc A_x0blocks x0.blocks.length c_x0blocks) ho (by kernel_rfl) (by kernel_rfl) (Cell.own 0 rfl (by kernel_rfl)) _ hs.own) fun a hs => ?_)
      refine Vk.pures 2 [(60, .bool (decide (q_57 < ((x0.blocks.length : Nat) : Int)))), (59, .int .i64 ((x0.blocks.length : Nat) : Int))] hs (by kernel_rfl) fun a hs => ?_
      replace hs := hs.pick [1, 5, 6, 60] (L' := [(1, .pointer (some ⟨b_2, 0, none⟩)), (5, .int .i64 q_56), (6, .int .i64 q_57), (60, .bool (decide (q_57 < ((x0.blocks.length : Nat) : Int))))]) (by kernel_rfl)
      refine Vk.done (by kernel_rfl) ?_
      refine hK59 _ _ ?_
      clear hK59
      refine Vk.condS (b := decide (q_57 < ((x0.blocks.length : Nat) : Int))) hs (by kernel_rfl) (by kernel_rfl) (fun hb => ?_) (fun hb => ?_)
      · replace hm := bif_t hm hb
        refine wp_skip ?_
        refine hK58 _ _ ?_
        clear hK58
        refine Vk.seq fun K60 hK60 => ?_
        refine wp_block ?_
        refine Vk.seq fun K61 hK61 => ?_
        refine Vk.region ?_
        refine Vk.pures 1 [(63, .pointer (some ⟨b_2, 2, none⟩))] hs (by kernel_rfl) fun a hs => ?_
        refine Vk.step (Vk.value (some 64) (.slice A_x0blocks x0.blocks.length c_x0blocks) hs (by kernel_rfl) (op := (.load 70 (.tmp 63))) (by kernel_rfl) (fun o ho => run_load1 (b := b_2) (off := 2) (c := C.slc A_x0blocks x0.blocks.length c_x0blocks) ho (by kernel_rfl) (by kernel_rfl) (Cell.own 0 rfl (by kernel_rfl)) _ hs.own) fun a hs => ?_)
        refine Vk.pures 1 [(65, .int .i64 q_57)] hs (by kernel_rfl) fun a hs => ?_
        obtain ⟨h_62, hm⟩ := ite_t hm
        obtain ⟨e_65, h_63, hm⟩ := bind_t hm
        obtain ⟨b_66, o_67, hA_68, h_64⟩ := Sl.elem hx_x0blocks h_63
        refine Vk.step (Vk.value (some 66) (.pointer (some ⟨b_66, o_67 + q_57.toNat * 3, none⟩)) hs (by kernel_rfl) (op := (.indexAddr 70 (.tmp 64) (.tmp 65))) (by kernel_rfl) (fun o ho => run_idxSlc (k := .i64) ho (cap := c_x0blocks) (len := x0.blocks.length) ((congrArg (fun A => Value.slice A (x0.blocks.length) (c_x0blocks)) hA_68) ▸ (by kernel_rfl)) (by kernel_rfl) (by kernel_rfl) (idx_ok h_62 h_63) _) fun a hs => ?_)
        refine Vk.step (Vk.value (some 67) (.agg (vals [C.int .i64 e_65.kind, C.int .i64 e_65.fromF, C.int .i64 e_65.to])) hs (by kernel_rfl) (op := (.load 144 (.tmp 66))) (by kernel_rfl) (fun o ho => run_loadN (cs := [C.int .i64 e_65.kind, C.int .i64 e_65.fromF, C.int .i64 e_65.to]) ho (by kernel_rfl) (by kernel_rfl) rfl h_64 _ hs.own.drop) fun a hs => ?_)
        refine Vk.step (Vk.alloc 7 144 [C.int .i64 0, C.int .i64 0, C.int .i64 0] hs (by kernel_rfl) (by kernel_rfl) (by kernel_rfl) fun b_69 w a hs => ?_)
        refine Vk.step (Vk.storeA (b := b_69) (ty := 144) (x := (.tmp 7)) (y := (.tmp 67)) (sz := 3) [C.int .i64 e_65.kind, C.int .i64 e_65.fromF, C.int .i64 e_65.to] 0 hs (by kernel_rfl) (by kernel_rfl) (by kernel_rfl) (by kernel_rfl) (by kernel_rfl) rfl (by kernel_rfl) rfl (Eq.trans (b := 3) rfl (Eq.symm rfl)) fun a w hs => ?_)
        replace hs := hs.pick [1, 5, 6, 7] (L' := [(1, .pointer (some ⟨b_2, 0, none⟩)), (5, .int .i64 q_56), (6, .int .i64 q_57), (7, .pointer (some ⟨b_69, 0, none⟩))]) (by kernel_rfl)
        refine Vk.done (by kernel_rfl) ?_
        refine hK61 _ _ ?_
        clear hK61
        refine Vk.seq fun K70 hK70 => ?_
        refine Vk.seq fun K71 hK71 => ?_
        refine Vk.region ?_
        refine Vk.pures 1 [(68, .pointer (some ⟨b_69, 0, none⟩))] hs (by kernel_rfl) fun a hs => ?_
        refine Vk.step (Vk.value (some 69) (.int .i64 e_65.kind) hs (by kernel_rfl) (op := (.load 3 (.tmp 68))) (by kernel_rfl) (fun o ho => run_load1 (b := b_69) (off := 0) (c := C.int .i64 e_65.kind) ho (by kernel_rfl) (by kernel_rfl) (Cell.own 0 rfl (by kernel_rfl)) _ hs.own) fun a hs => ?_)
        refine Vk.pures 2 [(71, .bool (decide (e_65.kind < 1))), (70, .bool (decide (e_65.kind < 1)))] hs (by kernel_rfl) fun a hs => ?_
        suffices hj_72 : ∀ a, St 99 a w κ [(1, .pointer (some ⟨b_2, 0, none⟩)), (5, .int .i64 q_56), (6, .int .i64 q_57), (7, .pointer (some ⟨b_69, 0, none⟩)), (68, .pointer (some ⟨b_69, 0, none⟩)), (69, .int .i64 e_65.kind), (70, .bool (decide (e_65.kind < 1))), (71, .bool (decide (e_65.kind < 1))), (75, .bool ((decide (e_65.kind < 1)) || (decide (e_65.kind > 3))))] (pt b_69 (blk (Tapi_Span.cells e_65) 144) :: pt b_2 (blk (Tapi_Trace.obj x0 A_x0ops c_x0ops A_x0blocks c_x0blocks) 72) :: S) → wpFrom Try.prog _ _ 8 a w by
          rcases Bool.eq_false_or_eq_true (decide (e_65.kind < 1)) with hb | hb
          · replace hs := hs.known (t := 71) hb (by kernel_rfl)
            refine Vk.pures 4 [(75, .bool true), (74, undef), (73, undef), (72, undef)] hs (by kernel_rfl) fun a hs => ?_
            have hq := hs.pick [1, 5, 6, 7, 68, 69, 70, 71, 75] (L' := [(1, .pointer (some ⟨b_2, 0, none⟩)), (5, .int .i64 q_56), (6, .int .i64 q_57), (7, .pointer (some ⟨b_69, 0, none⟩)), (68, .pointer (some ⟨b_69, 0, none⟩)), (69, .int .i64 e_65.kind), (70, .bool (decide (e_65.kind < 1))), (71, .bool true), (75, .bool true)]) (by kernel_rfl)
            exact hj_72 _ (hq.conv (by first | (rw [hb] <;> rfl) | rfl))
          · replace hs := hs.known (t := 71) hb (by kernel_rfl)
            refine Vk.pures 1 [(72, .pointer (some ⟨b_69, 0, none⟩))] hs (by kernel_rfl) fun a hs => ?_
            refine Vk.step (Vk.value (some 73) (.int .i64 e_65.kind) hs (by kernel_rfl) (op := (.load 3 (.tmp 72))) (by kernel_rfl) (fun o ho => run_load1 (b := b_69) (off := 0) (c := C.int .i64 e_65.kind) ho (by kernel_rfl) (by kernel_rfl) (Cell.own 0 rfl (by kernel_rfl)) _ hs.own) fun a hs => ?_)
            refine Vk.pures 2 [(75, .bool (decide (e_65.kind > 3))), (74, .bool (decide (e_65.kind > 3)))] hs (by kernel_rfl) fun a hs => ?_
            have hq := hs.pick [1, 5, 6, 7, 68, 69, 70, 71, 75] (L' := [(1, .pointer (some ⟨b_2, 0, none⟩)), (5, .int .i64 q_56), (6, .int .i64 q_57), (7, .pointer (some ⟨b_69, 0, none⟩)), (68, .pointer (some ⟨b_69, 0, none⟩)), (69, .int .i64 e_65.kind), (70, .bool (decide (e_65.kind < 1))), (71, .bool false), (75, .bool (decide (e_65.kind > 3)))]) (by kernel_rfl)
            exact hj_72 _ (hq.conv (by first | (rw [hb] <;> rfl) | rfl))
        intro a hs
        refine Vk.pures 1 [(76, .bool ((decide (e_65.kind < 1)) || (decide (e_65.kind > 3))))] hs (by kernel_rfl) fun a hs => ?_
        suffices hj_73 : ∀ a, St 99 a w κ [(1, .pointer (some ⟨b_2, 0, none⟩)), (5, .int .i64 q_56), (6, .int .i64 q_57), (7, .pointer (some ⟨b_69, 0, none⟩)), (68, .pointer (some ⟨b_69, 0, none⟩)), (69, .int .i64 e_65.kind), (70, .bool (decide (e_65.kind < 1))), (71, .bool (decide (e_65.kind < 1))), (75, .bool ((decide (e_65.kind < 1)) || (decide (e_65.kind > 3)))), (76, .bool ((decide (e_65.kind < 1)) || (decide (e_65.kind > 3)))), (81, .bool (((decide (e_65.kind < 1)) || (decide (e_65.kind > 3))) || (decide (e_65.fromF < q_56))))] (pt b_69 (blk (Tapi_Span.cells e_65) 144) :: pt b_2 (blk (Tapi_Trace.obj x0 A_x0ops c_x0ops A_x0blocks c_x0blocks) 72) :: S) → wpFrom Try.prog _ _ 14 a w by
          rcases Bool.eq_false_or_eq_true ((decide (e_65.kind < 1)) || (decide (e_65.kind > 3))) with hb | hb
          · replace hs := hs.known (t := 76) hb (by kernel_rfl)
            refine Vk.pures 5 [(81, .bool true), (80, undef), (79, undef), (78, undef), (77, undef)] hs (by kernel_rfl) fun a hs => ?_
            have hq := hs.pick [1, 5, 6, 7, 68, 69, 70, 71, 75, 76, 81] (L' := [(1, .pointer (some ⟨b_2, 0, none⟩)), (5, .int .i64 q_56), (6, .int .i64 q_57), (7, .pointer (some ⟨b_69, 0, none⟩)), (68, .pointer (some ⟨b_69, 0, none⟩)), (69, .int .i64 e_65.kind), (70, .bool (decide (e_65.kind < 1))), (71, .bool (decide (e_65.kind < 1))), (75, .bool ((decide (e_65.kind < 1)) || (decide (e_65.kind > 3)))), (76, .bool true), (81, .bool true)]) (by kernel_rfl)
            exact hj_73 _ (hq.conv (by first | (rw [hb] <;> rfl) | rfl))
          · replace hs := hs.known (t := 76) hb (by kernel_rfl)
            refine Vk.pures 1 [(77, .pointer (some ⟨b_69, 1, none⟩))] hs (by kernel_rfl) fun a hs => ?_
            refine Vk.step (Vk.value (some 78) (.int .i64 e_65.fromF) hs (by kernel_rfl) (op := (.load 3 (.tmp 77))) (by kernel_rfl) (fun o ho => run_load1 (b := b_69) (off := 1) (c := C.int .i64 e_65.fromF) ho (by kernel_rfl) (by kernel_rfl) (Cell.own 0 rfl (by kernel_rfl)) _ hs.own) fun a hs => ?_)
            refine Vk.pures 3 [(81, .bool (decide (e_65.fromF < q_56))), (80, .bool (decide (e_65.fromF < q_56))), (79, .int .i64 q_56)] hs (by kernel_rfl) fun a hs => ?_
            have hq := hs.pick [1, 5, 6, 7, 68, 69, 70, 71, 75, 76, 81] (L' := [(1, .pointer (some ⟨b_2, 0, none⟩)), (5, .int .i64 q_56), (6, .int .i64 q_57), (7, .pointer (some ⟨b_69, 0, none⟩)), (68, .pointer (some ⟨b_69, 0, none⟩)), (69, .int .i64 e_65.kind), (70, .bool (decide (e_65.kind < 1))), (71, .bool (decide (e_65.kind < 1))), (75, .bool ((decide (e_65.kind < 1)) || (decide (e_65.kind > 3)))), (76, .bool false), (81, .bool (decide (e_65.fromF < q_56)))]) (by kernel_rfl)
            exact hj_73 _ (hq.conv (by first | (rw [hb] <;> rfl) | rfl))
        intro a hs
        refine Vk.pures 1 [(82, .bool (((decide (e_65.kind < 1)) || (decide (e_65.kind > 3))) || (decide (e_65.fromF < q_56))))] hs (by kernel_rfl) fun a hs => ?_
        suffices hj_74 : ∀ a, St 99 a w κ [(1, .pointer (some ⟨b_2, 0, none⟩)), (5, .int .i64 q_56), (6, .int .i64 q_57), (7, .pointer (some ⟨b_69, 0, none⟩)), (68, .pointer (some ⟨b_69, 0, none⟩)), (69, .int .i64 e_65.kind), (70, .bool (decide (e_65.kind < 1))), (71, .bool (decide (e_65.kind < 1))), (75, .bool ((decide (e_65.kind < 1)) || (decide (e_65.kind > 3)))), (76, .bool ((decide (e_65.kind < 1)) || (decide (e_65.kind > 3)))), (81, .bool (((decide (e_65.kind < 1)) || (decide (e_65.kind > 3))) || (decide (e_65.fromF < q_56)))), (82, .bool (((decide (e_65.kind < 1)) || (decide (e_65.kind > 3))) || (decide (e_65.fromF < q_56)))), (88, .bool ((((decide (e_65.kind < 1)) || (decide (e_65.kind > 3))) || (decide (e_65.fromF < q_56))) || (decide (e_65.to ≤ e_65.fromF))))] (pt b_69 (blk (Tapi_Span.cells e_65) 144) :: pt b_2 (blk (Tapi_Trace.obj x0 A_x0ops c_x0ops A_x0blocks c_x0blocks) 72) :: S) → wpFrom Try.prog _ _ 21 a w by
          rcases Bool.eq_false_or_eq_true (((decide (e_65.kind < 1)) || (decide (e_65.kind > 3))) || (decide (e_65.fromF < q_56))) with hb | hb
          · replace hs := hs.known (t := 82) hb (by kernel_rfl)
            refine Vk.pures 6 [(88, .bool true), (87, undef), (86, undef), (85, undef), (84, undef), (83, undef)] hs (by kernel_rfl) fun a hs => ?_
            have hq := hs.pick [1, 5, 6, 7, 68, 69, 70, 71, 75, 76, 81, 82, 88] (L' := [(1, .pointer (some ⟨b_2, 0, none⟩)), (5, .int .i64 q_56), (6, .int .i64 q_57), (7, .pointer (some ⟨b_69, 0, none⟩)), (68, .pointer (some ⟨b_69, 0, none⟩)), (69, .int .i64 e_65.kind), (70, .bool (decide (e_65.kind < 1))), (71, .bool (decide (e_65.kind < 1))), (75, .bool ((decide (e_65.kind < 1)) || (decide (e_65.kind > 3)))), (76, .bool ((decide (e_65.kind < 1)) || (decide (e_65.kind > 3)))), (81, .bool (((decide (e_65.kind < 1)) || (decide (e_65.kind > 3))) || (decide (e_65.fromF < q_56)))), (82, .bool true), (88, .bool true)]) (by kernel_rfl)
            exact hj_74 _ (hq.conv (by first | (rw [hb] <;> rfl) | rfl))
          · replace hs := hs.known (t := 82) hb (by kernel_rfl)
            refine Vk.pures 1 [(83, .pointer (some ⟨b_69, 2, none⟩))] hs (by kernel_rfl) fun a hs => ?_
            refine Vk.step (Vk.value (some 84) (.int .i64 e_65.to) hs (by kernel_rfl) (op := (.load 3 (.tmp 83))) (by kernel_rfl) (fun o ho => run_load1 (b := b_69) (off := 2) (c := C.int .i64 e_65.to) ho (by kernel_rfl) (by kernel_rfl) (Cell.own 0 rfl (by kernel_rfl)) _ hs.own) fun a hs => ?_)
            refine Vk.pures 1 [(85, .pointer (some ⟨b_69, 1, none⟩))] hs (by kernel_rfl) fun a hs => ?_
            refine Vk.step (Vk.value (some 86) (.int .i64 e_65.fromF) hs (by kernel_rfl) (op := (.load 3 (.tmp 85))) (by kernel_rfl) (fun o ho => run_load1 (b := b_69) (off := 1) (c := C.int .i64 e_65.fromF) ho (by kernel_rfl) (by kernel_rfl) (Cell.own 0 rfl (by kernel_rfl)) _ hs.own) fun a hs => ?_)
            refine Vk.pures 2 [(88, .bool (decide (e_65.to ≤ e_65.fromF))), (87, .bool (decide (e_65.to ≤ e_65.fromF)))] hs (by kernel_rfl) fun a hs => ?_
            have hq := hs.pick [1, 5, 6, 7, 68, 69, 70, 71, 75, 76, 81, 82, 88] (L' := [(1, .pointer (some ⟨b_2, 0, none⟩)), (5, .int .i64 q_56), (6, .int .i64 q_57), (7, .pointer (some ⟨b_69, 0, none⟩)), (68, .pointer (some ⟨b_69, 0, none⟩)), (69, .int .i64 e_65.kind), (70, .bool (decide (e_65.kind < 1))), (71, .bool (decide (e_65.kind < 1))), (75, .bool ((decide (e_65.kind < 1)) || (decide (e_65.kind > 3)))), (76, .bool ((decide (e_65.kind < 1)) || (decide (e_65.kind > 3)))), (81, .bool (((decide (e_65.kind < 1)) || (decide (e_65.kind > 3))) || (decide (e_65.fromF < q_56)))), (82, .bool false), (88, .bool (decide (e_65.to ≤ e_65.fromF)))]) (by kernel_rfl)
            exact hj_74 _ (hq.conv (by first | (rw [hb] <;> rfl) | rfl))
        intro a hs
        refine Vk.pures 1 [(89, .bool ((((decide (e_65.kind < 1)) || (decide (e_65.kind > 3))) || (decide (e_65.fromF < q_56))) || (decide (e_65.to ≤ e_65.fromF))))] hs (by kernel_rfl) fun a hs => ?_
        suffices hj_75 : ∀ a, St 99 a w κ [(1, .pointer (some ⟨b_2, 0, none⟩)), (5, .int .i64 q_56), (6, .int .i64 q_57), (7, .pointer (some ⟨b_69, 0, none⟩)), (68, .pointer (some ⟨b_69, 0, none⟩)), (69, .int .i64 e_65.kind), (70, .bool (decide (e_65.kind < 1))), (71, .bool (decide (e_65.kind < 1))), (75, .bool ((decide (e_65.kind < 1)) || (decide (e_65.kind > 3)))), (76, .bool ((decide (e_65.kind < 1)) || (decide (e_65.kind > 3)))), (81, .bool (((decide (e_65.kind < 1)) || (decide (e_65.kind > 3))) || (decide (e_65.fromF < q_56)))), (82, .bool (((decide (e_65.kind < 1)) || (decide (e_65.kind > 3))) || (decide (e_65.fromF < q_56)))), (88, .bool ((((decide (e_65.kind < 1)) || (decide (e_65.kind > 3))) || (decide (e_65.fromF < q_56))) || (decide (e_65.to ≤ e_65.fromF)))), (89, .bool ((((decide (e_65.kind < 1)) || (decide (e_65.kind > 3))) || (decide (e_65.fromF < q_56))) || (decide (e_65.to ≤ e_65.fromF)))), (96, .bool (((((decide (e_65.kind < 1)) || (decide (e_65.kind > 3))) || (decide (e_65.fromF < q_56))) || (decide (e_65.to ≤ e_65.fromF))) || (decide (e_65.to > ((x0.ops.length : Nat) : Int)))))] (pt b_69 (blk (Tapi_Span.cells e_65) 144) :: pt b_2 (blk (Tapi_Trace.obj x0 A_x0ops c_x0ops A_x0blocks c_x0blocks) 72) :: S) → wpFrom Try.prog _ _ 29 a w by
          rcases Bool.eq_false_or_eq_true ((((decide (e_65.kind < 1)) || (decide (e_65.kind > 3))) || (decide (e_65.fromF < q_56))) || (decide (e_65.to ≤ e_65.fromF))) with hb | hb
          · replace hs := hs.known (t := 89) hb (by kernel_rfl)
            refine Vk.pures 7 [(96, .bool true), (95, undef), (94, undef), (93, undef), (92, undef), (91, undef), (90, undef)] hs (by kernel_rfl) fun a hs => ?_
            have hq := hs.pick [1, 5, 6, 7, 68, 69, 70, 71, 75, 76, 81, 82, 88, 89, 96] (L' := [(1, .pointer (some ⟨b_2, 0, none⟩)), (5, .int .i64 q_56), (6, .int .i64 q_57), (7, .pointer (some ⟨b_69, 0, none⟩)), (68, .pointer (some ⟨b_69, 0, none⟩)), (69, .int .i64 e_65.kind), (70, .bool (decide (e_65.kind < 1))), (71, .bool (decide (e_65.kind < 1))), (75, .bool ((decide (e_65.kind < 1)) || (decide (e_65.kind > 3)))), (76, .bool ((decide (e_65.kind < 1)) || (decide (e_65.kind > 3)))), (81, .bool (((decide (e_65.kind < 1)) || (decide (e_65.kind > 3))) || (decide (e_65.fromF < q_56)))), (82, .bool (((decide (e_65.kind < 1)) || (decide (e_65.kind > 3))) || (decide (e_65.fromF < q_56)))), (88, .bool ((((decide (e_65.kind < 1)) || (decide (e_65.kind > 3))) || (decide (e_65.fromF < q_56))) || (decide (e_65.to ≤ e_65.fromF)))), (89, .bool true), (96, .bool true)]) (by kernel_rfl)
            exact hj_75 _ (hq.conv (by first | (rw [hb] <;> rfl) | rfl))
          · replace hs := hs.known (t := 89) hb (by kernel_rfl)
            refine Vk.pures 1 [(90, .pointer (some ⟨b_69, 2, none⟩))] hs (by kernel_rfl) fun a hs => ?_
            refine Vk.step (Vk.value (some 91) (.int .i64 e_65.to) hs (by kernel_rfl) (op := (.load 3 (.tmp 90))) (by kernel_rfl) (fun o ho => run_load1 (b := b_69) (off := 2) (c := C.int .i64 e_65.to) ho (by kernel_rfl) (by kernel_rfl) (Cell.own 0 rfl (by kernel_rfl)) _ hs.own) fun a hs => ?_)
            refine Vk.pures 1 [(92, .pointer (some ⟨b_2, 1, none⟩))] hs (by kernel_rfl) fun a hs => ?_
            refine Vk.step (Vk.value (some 93) (.slice A_x0ops x0.ops.length c_x0ops) hs (by kernel_rfl) (op := (.load 69 (.tmp 92))) (by kernel_rfl) (fun o ho => run_load1 (b := b_2) (off := 1) (c := C.slc A_x0ops x0.ops.length c_x0ops) ho (by kernel_rfl) (by kernel_rfl) (Cell.own 1 rfl (by kernel_rfl)) _ hs.own) fun a hs => ?_)
            refine Vk.pures 3 [(96, .bool (decide (e_65.to > ((x0.ops.length : Nat) : Int)))), (95, .bool (decide (e_65.to > ((x0.ops.length : Nat) : Int)))), (94, .int .i64 ((x0.ops.length : Nat) : Int))] hs (by kernel_rfl) fun a hs => ?_
            have hq := hs.pick [1, 5, 6, 7, 68, 69, 70, 71, 75, 76, 81, 82, 88, 89, 96] (L' := [(1, .pointer (some ⟨b_2, 0, none⟩)), (5, .int .i64 q_56), (6, .int .i64 q_57), (7, .pointer (some ⟨b_69, 0, none⟩)), (68, .pointer (some ⟨b_69, 0, none⟩)), (69, .int .i64 e_65.kind), (70, .bool (decide (e_65.kind < 1))), (71, .bool (decide (e_65.kind < 1))), (75, .bool ((decide (e_65.kind < 1)) || (decide (e_65.kind > 3)))), (76, .bool ((decide (e_65.kind < 1)) || (decide (e_65.kind > 3)))), (81, .bool (((decide (e_65.kind < 1)) || (decide (e_65.kind > 3))) || (decide (e_65.fromF < q_56)))), (82, .bool (((decide (e_65.kind < 1)) || (decide (e_65.kind > 3))) || (decide (e_65.fromF < q_56)))), (88, .bool ((((decide (e_65.kind < 1)) || (decide (e_65.kind > 3))) || (decide (e_65.fromF < q_56))) || (decide (e_65.to ≤ e_65.fromF)))), (89, .bool false), (96, .bool (decide (e_65.to > ((x0.ops.length : Nat) : Int))))]) (by kernel_rfl)
            exact hj_75 _ (hq.conv (by first | (rw [hb] <;> rfl) | rfl))
        intro a hs
        replace hs := hs.pick [1, 6, 7, 96] (L' := [(1, .pointer (some ⟨b_2, 0, none⟩)), (6, .int .i64 q_57), (7, .pointer (some ⟨b_69, 0, none⟩)), (96, .bool (((((decide (e_65.kind < 1)) || (decide (e_65.kind > 3))) || (decide (e_65.fromF < q_56))) || (decide (e_65.to ≤ e_65.fromF))) || (decide (e_65.to > ((x0.ops.length : Nat) : Int)))))]) (by kernel_rfl)
        refine Vk.done (by kernel_rfl) ?_
        refine hK71 _ _ ?_
        clear hK71
        refine Vk.condS (b := ((((decide (e_65.kind < 1)) || (decide (e_65.kind > 3))) || (decide (e_65.fromF < q_56))) || (decide (e_65.to ≤ e_65.fromF))) || (decide (e_65.to > ((x0.ops.length : Nat) : Int)))) hs (by kernel_rfl) (by kernel_rfl) (fun hb => ?_) (fun hb => ?_)
        · replace hm := bif_t hm hb
          refine Vk.seq fun K76 hK76 => ?_
          refine Vk.region ?_
          refine Vk.pures 1 [(2, .bool false)] hs (by kernel_rfl) fun a hs => ?_
          replace hs := hs.pick [2] (L' := [(2, .bool false)]) (by kernel_rfl)
          refine Vk.done (by kernel_rfl) ?_
          refine hK76 _ _ ?_
          clear hK76
          refine wp_ret ?_
          exact Vk.ret1 (P := Try.prog) (fn := Try.f46) (R := visorref18_Right.R κ S x0 A_x0ops c_x0ops A_x0blocks c_x0blocks r) (.bool false) hs rfl (by kernel_rfl) (by obtain rfl := hret55 _ ((Option.some.inj hm).symm); exact ⟨rfl, (Own.to hs.own [] 2 (by kernel_rfl) (by kernel_rfl))⟩)
        · replace hm := bif_f hm hb
          refine wp_skip ?_
          refine hK70 _ _ ?_
          clear hK70
          refine Vk.region ?_
          refine Vk.pures 1 [(97, .pointer (some ⟨b_69, 2, none⟩))] hs (by kernel_rfl) fun a hs => ?_
          refine Vk.step (Vk.value (some 98) (.int .i64 e_65.to) hs (by kernel_rfl) (op := (.load 3 (.tmp 97))) (by kernel_rfl) (fun o ho => run_load1 (b := b_69) (off := 2) (c := C.int .i64 e_65.to) ho (by kernel_rfl) (by kernel_rfl) (Cell.own 0 rfl (by kernel_rfl)) _ hs.own) fun a hs => ?_)
          refine Vk.pures 1 [(5, .int .i64 e_65.to)] hs (by kernel_rfl) fun a hs => ?_
          replace hs := hs.pick [1, 5, 6] (L' := [(1, .pointer (some ⟨b_2, 0, none⟩)), (5, .int .i64 e_65.to), (6, .int .i64 q_57)]) (by kernel_rfl)
          refine Vk.done (by kernel_rfl) ?_
          refine hK60 _ _ ?_
          clear hK60
          refine Vk.region ?_
          refine Vk.pures 3 [(6, .int .i64 (IntKind.i64.wrap (q_57 + 1))), (62, .int .i64 (IntKind.i64.wrap (q_57 + 1))), (61, .int .i64 q_57)] hs (by kernel_rfl) fun a hs => ?_
          replace hs := hs.pick [1, 5, 6] (L' := [(1, .pointer (some ⟨b_2, 0, none⟩)), (5, .int .i64 e_65.to), (6, .int .i64 (IntKind.i64.wrap (q_57 + 1)))]) (by kernel_rfl)
          refine Vk.done (by kernel_rfl) ?_
          refine ih (e_65.to, (IntKind.i64.wrap (q_57 + 1))) _ _ ⟨hm, hs.go [1, 5, 6] [1] 2 (by kernel_rfl) (by kernel_rfl) (by kernel_rfl)⟩
      · replace hm := bif_f hm hb
        refine wp_exit ?_
        exact hx55 (Option.some.inj hm).symm _ _ (hs.go [] [] 1 (by kernel_rfl) (by kernel_rfl) (by kernel_rfl))
    have hret11 : ∀ v, r11 = Sum.inl v → v = r := by intro v he; subst r11; exact Option.some.inj hm
    refine Vk.loopBy (fun k (s : Int × Int) a w => visorref18_Right.l1 x0 k s.1 s.2 = some r11 ∧ St 99 a w κ [(1, .pointer (some ⟨b_2, 0, none⟩)), (3, .int .u64 s.1), (4, .int .i64 s.2)] (pt b_2 (blk (Tapi_Trace.obj x0 A_x0ops c_x0ops A_x0blocks c_x0blocks) 72) :: S)) k (0, 0) ⟨hl11, hs.go [1, 3, 4] [0] 1 (by kernel_rfl) (by kernel_rfl) (by kernel_rfl)⟩ (fun s a w h => by obtain ⟨h1, _⟩ := h; simp [visorref18_Right.l1] at h1) (fun k KL11 ih s a w h => ?_)
    obtain ⟨q_12, q_13⟩ := s
    obtain ⟨hm, hs⟩ := h
    try dsimp only at hm hs
    rw [visorref18_Right.l1] at hm
    refine Vk.seq fun K14 hK14 => ?_
    refine Vk.seq fun K15 hK15 => ?_
    refine Vk.region ?_
    refine Vk.pures 2 [(23, .pointer (some ⟨b_2, 1, none⟩)), (22, .int .i64 q_13)] hs (by kernel_rfl) fun a hs => ?_
    refine Vk.step (Vk.value (some 24) (.slice A_x0ops x0.ops.length c_x0ops) hs (by kernel_rfl) (op := (.load 69 (.tmp 23))) (by kernel_rfl) (fun o ho => run_load1 (b := b_2) (off := 1) (c := C.slc A_x0ops x0.ops.length c_x0ops) ho (by kernel_rfl) (by kernel_rfl) (Cell.own 0 rfl (by kernel_rfl)) _ hs.own) fun a hs => ?_)
    refine Vk.pures 2 [(26, .bool (decide (q_13 < ((x0.ops.length : Nat) : Int)))), (25, .int .i64 ((x0.ops.length : Nat) : Int))] hs (by kernel_rfl) fun a hs => ?_
    replace hs := hs.pick [1, 3, 4, 26] (L' := [(1, .pointer (some ⟨b_2, 0, none⟩)), (3, .int .u64 q_12), (4, .int .i64 q_13), (26, .bool (decide (q_13 < ((x0.ops.length : Nat) : Int))))]) (by kernel_rfl)
    refine Vk.done (by kernel_rfl) ?_
    refine hK15 _ _ ?_
    clear hK15
    refine Vk.condS (b := decide (q_13 < ((x0.ops.length : Nat) : Int))) hs (by kernel_rfl) (by kernel_rfl) (fun hb => ?_) (fun hb => ?_)
    · replace hm := bif_t hm hb
      refine wp_skip ?_
      refine hK14 _ _ ?_
      clear hK14
      refine Vk.seq fun K16 hK16 => ?_
      have hj16 : ∀ (p_49 : Int), visorref18_Right.j1 k (visorref18_Right.l1 x0 k) q_13 p_49 = some r11 → ∀ (a : Act) (w : World), St 99 a w κ [(1, .pointer (some ⟨b_2, 0, none⟩)), (3, .int .u64 p_49), (4, .int .i64 q_13)] (pt b_2 (blk (Tapi_Trace.obj x0 A_x0ops c_x0ops A_x0blocks c_x0blocks) 72) :: S) → K16 a w := by
        intro p_49 hm a w hs
        unfold visorref18_Right.j1 at hm
        refine hK16 _ _ ?_
        refine Vk.region ?_
        refine Vk.pures 3 [(4, .int .i64 (IntKind.i64.wrap (q_13 + 1))), (28, .int .i64 (IntKind.i64.wrap (q_13 + 1))), (27, .int .i64 q_13)] hs (by kernel_rfl) fun a hs => ?_
        replace hs := hs.pick [1, 3, 4] (L' := [(1, .pointer (some ⟨b_2, 0, none⟩)), (3, .int .u64 p_49), (4, .int .i64 (IntKind.i64.wrap (q_13 + 1)))]) (by kernel_rfl)
        refine Vk.done (by kernel_rfl) ?_
        refine ih (p_49, (IntKind.i64.wrap (q_13 + 1))) _ _ ⟨hm, hs.go [1, 3, 4] [0] 1 (by kernel_rfl) (by kernel_rfl) (by kernel_rfl)⟩
      refine wp_block ?_
      refine Vk.seq fun K17 hK17 => ?_
      refine Vk.seq fun K18 hK18 => ?_
      obtain ⟨C_19, hC_19⟩ : ∃ X0 : List HP, X0 = (pt b_2 (blk (Tapi_Trace.obj x0 A_x0ops c_x0ops A_x0blocks c_x0blocks) 72) :: S) := ⟨_, rfl⟩
      refine Vk.drawnT 10 κ C_19 hs (by kernel_rfl) fun w hs => ?_
      have hcz : Own κ w (pt b_2 (blk (Tapi_Trace.obj x0 A_x0ops c_x0ops A_x0blocks c_x0blocks) 72) :: S) := (Own.to hs.own [0] 1 (by kernel_rfl) (by kernel_rfl))
      have hcl : Own κ w C_19 := by rw [hC_19]; exact hcz
      refine Vk.dPuresT [0, 2, 5, 6] [(35, .pointer (some ⟨b_2, 0, none⟩)), (34, .int .i64 q_13), (31, .int .i64 q_13), (29, .pointer (some ⟨b_2, 1, none⟩))] hs (by kernel_rfl) (by repeat' (first | exact Vk.Calm.post | refine Vk.Calm.then ?_ | refine Vk.Calm.inBlock ?_)) hcl (by kernel_rfl) (by kernel_rfl) (fuel := 6) rfl fun a hs => ?_
      refine Vk.dTakeT (i := 1) (some 30) (.slice A_x0ops x0.ops.length c_x0ops) hs (by kernel_rfl) (by repeat' (first | exact Vk.Calm.post | refine Vk.Calm.then ?_ | refine Vk.Calm.inBlock ?_)) hcl (by kernel_rfl) (by kernel_rfl) (op := (.load 69 (.tmp 29))) (by kernel_rfl) (by kernel_rfl) (fun w hw o ho => by rw [hC_19] at hw; exact run_load1 (b := b_2) (off := 1) (c := C.slc A_x0ops x0.ops.length c_x0ops) ho (by kernel_rfl) (by kernel_rfl) (Cell.own 0 rfl (by kernel_rfl)) _ hw) fun a hs => ?_
      obtain ⟨h_20, hm⟩ := ite_t hm
      obtain ⟨e_23, h_21, hm⟩ := bind_t hm
      obtain ⟨b_24, o_25, hA_26, h_22⟩ := Sl.elem hx_x0ops h_21
      refine Vk.dTakeT (i := 3) (some 32) (.pointer (some ⟨b_24, o_25 + q_13.toNat * 6, none⟩)) hs (by kernel_rfl) (by repeat' (first | exact Vk.Calm.post | refine Vk.Calm.then ?_ | refine Vk.Calm.inBlock ?_)) hcl (by kernel_rfl) (by kernel_rfl) (op := (.indexAddr 69 (.tmp 30) (.tmp 31))) (by kernel_rfl) (by kernel_rfl) (fun w hw o ho => by rw [hC_19] at hw; exact run_idxSlc (k := .i64) ho (cap := c_x0ops) (len := x0.ops.length) ((congrArg (fun A => Value.slice A (x0.ops.length) (c_x0ops)) hA_26) ▸ (by kernel_rfl)) (by kernel_rfl) (by kernel_rfl) (idx_ok h_20 h_21) _) fun a hs => ?_
      refine Vk.dTakeT (i := 4) (some 33) (.agg (vals [C.int .i64 e_23.kind, C.int .i64 e_23.dom, C.int .i64 e_23.a, C.int .i64 e_23.b, C.int .i64 e_23.d, C.int .u64 e_23.c])) hs (by kernel_rfl) (by repeat' (first | exact Vk.Calm.post | refine Vk.Calm.then ?_ | refine Vk.Calm.inBlock ?_)) hcl (by kernel_rfl) (by kernel_rfl) (op := (.load 32 (.tmp 32))) (by kernel_rfl) (by kernel_rfl) (fun w hw o ho => by rw [hC_19] at hw; exact run_loadN (cs := [C.int .i64 e_23.kind, C.int .i64 e_23.dom, C.int .i64 e_23.a, C.int .i64 e_23.b, C.int .i64 e_23.d, C.int .u64 e_23.c]) ho (by kernel_rfl) (by kernel_rfl) rfl h_22 _ hw.drop) fun a hs => ?_
      refine Vk.dTakeT (i := 7) (some 36) (.int .i64 x0.n) hs (by kernel_rfl) (by repeat' (first | exact Vk.Calm.post | refine Vk.Calm.then ?_ | refine Vk.Calm.inBlock ?_)) hcl (by kernel_rfl) (by kernel_rfl) (op := (.load 3 (.tmp 35))) (by kernel_rfl) (by kernel_rfl) (fun w hw o ho => by rw [hC_19] at hw; exact run_load1 (b := b_2) (off := 0) (c := C.int .i64 x0.n) ho (by kernel_rfl) (by kernel_rfl) (Cell.own 0 rfl (by kernel_rfl)) _ hw) fun a hs => ?_
      obtain ⟨v_29, h_28, hm⟩ := bind_t hm
      refine Vk.dOnly (i := 8) (by kernel_rfl) (Vk.call (some 37) 85 #[.agg (vals [C.int .i64 e_23.kind, C.int .i64 e_23.dom, C.int .i64 e_23.a, C.int .i64 e_23.b, C.int .i64 e_23.d, C.int .u64 e_23.c]), .int .i64 q_13, .int .i64 x0.n] hs (by kernel_rfl) (by kernel_rfl) (by kernel_rfl) ?_)
      refine (visorref17_Right.ok k e_23 q_13 x0.n v_29 h_28 κ w (pt b_2 (blk (Tapi_Trace.obj x0 A_x0ops c_x0ops A_x0blocks c_x0blocks) 72) :: S) hs.own).mono ?_
      rintro _ w ⟨rfl, how⟩
      refine ⟨_, _, _, rfl, how, fun a hs => ?_⟩
      replace hcl : Own κ w C_19 := by rw [hC_19]; exact (Own.to hs.own [0] 1 (by kernel_rfl) (by kernel_rfl))
      refine ⟨fun _ => hcl, ?_⟩
      refine Vk.dPuresT [9] [(38, .bool (!v_29))] hs (by kernel_rfl) (by repeat' (first | exact Vk.Calm.post | refine Vk.Calm.then ?_ | refine Vk.Calm.inBlock ?_)) hcl (by kernel_rfl) (by kernel_rfl) (fuel := 0) rfl fun a hs => ?_
      replace hs := hs.pick [1, 3, 4, 38] (L' := [(1, .pointer (some ⟨b_2, 0, none⟩)), (3, .int .u64 q_12), (4, .int .i64 q_13), (38, .bool (!v_29))]) (by kernel_rfl)
      refine Vk.dDone (by kernel_rfl) ?_
      refine hK18 _ _ ?_
      clear hK18
      refine Vk.condS (b := !v_29) hs (by kernel_rfl) (by kernel_rfl) (fun hb => ?_) (fun hb => ?_)
      · replace hm := bif_t hm hb
        refine Vk.seq fun K30 hK30 => ?_
        refine Vk.region ?_
        refine Vk.pures 1 [(2, .bool false)] hs (by kernel_rfl) fun a hs => ?_
        replace hs := hs.pick [2] (L' := [(2, .bool false)]) (by kernel_rfl)
        refine Vk.done (by kernel_rfl) ?_
        refine hK30 _ _ ?_
        clear hK30
        refine wp_ret ?_
        exact Vk.ret1 (P := Try.prog) (fn := Try.f46) (R := visorref18_Right.R κ S x0 A_x0ops c_x0ops A_x0blocks c_x0blocks r) (.bool false) hs rfl (by kernel_rfl) (by obtain rfl := hret11 _ ((Option.some.inj hm).symm); exact ⟨rfl, (Own.to hs.own [] 1 (by kernel_rfl) (by kernel_rfl))⟩)
      · replace hm := bif_f hm hb
        refine wp_skip ?_
        refine hK17 _ _ ?_
        clear hK17
        refine Vk.seq fun K31 hK31 => ?_
        refine Vk.region ?_
        refine Vk.pures 1 [(39, .pointer (some ⟨b_2, 1, none⟩))] hs (by kernel_rfl) fun a hs => ?_
        refine Vk.step (Vk.value (some 40) (.slice A_x0ops x0.ops.length c_x0ops) hs (by kernel_rfl) (op := (.load 69 (.tmp 39))) (by kernel_rfl) (fun o ho => run_load1 (b := b_2) (off := 1) (c := C.slc A_x0ops x0.ops.length c_x0ops) ho (by kernel_rfl) (by kernel_rfl) (Cell.own 0 rfl (by kernel_rfl)) _ hs.own) fun a hs => ?_)
        refine Vk.pures 1 [(41, .int .i64 q_13)] hs (by kernel_rfl) fun a hs => ?_
        obtain ⟨h_32, hm⟩ := ite_t hm
        obtain ⟨e_35, h_33, hm⟩ := bind_t hm
        obtain ⟨b_36, o_37, hA_38, h_34⟩ := Sl.elem hx_x0ops h_33
        refine Vk.step (Vk.value (some 42) (.pointer (some ⟨b_36, o_37 + q_13.toNat * 6, none⟩)) hs (by kernel_rfl) (op := (.indexAddr 69 (.tmp 40) (.tmp 41))) (by kernel_rfl) (fun o ho => run_idxSlc (k := .i64) ho (cap := c_x0ops) (len := x0.ops.length) ((congrArg (fun A => Value.slice A (x0.ops.length) (c_x0ops)) hA_38) ▸ (by kernel_rfl)) (by kernel_rfl) (by kernel_rfl) (idx_ok h_32 h_33) _) fun a hs => ?_)
        refine Vk.pures 1 [(43, .pointer (some ⟨b_36, o_37 + q_13.toNat * 6, none⟩))] hs (by kernel_rfl) fun a hs => ?_
        refine Vk.step (Vk.value (some 44) (.int .i64 e_35.kind) hs (by kernel_rfl) (op := (.load 3 (.tmp 43))) (by kernel_rfl) (fun o ho => run_load1 (b := b_36) (off := o_37 + q_13.toNat * 6) (c := C.int .i64 e_35.kind) ho (by kernel_rfl) (by kernel_rfl) (CellsAt.cell h_34 (i := 0) (by kernel_rfl)) _ hs.own.drop) fun a hs => ?_)
        refine Vk.pures 1 [(45, .bool (e_35.kind == 2))] hs (by kernel_rfl) fun a hs => ?_
        replace hs := hs.pick [1, 3, 4, 45] (L' := [(1, .pointer (some ⟨b_2, 0, none⟩)), (3, .int .u64 q_12), (4, .int .i64 q_13), (45, .bool (e_35.kind == 2))]) (by kernel_rfl)
        refine Vk.done (by kernel_rfl) ?_
        refine hK31 _ _ ?_
        clear hK31
        refine Vk.condS (b := e_35.kind == 2) hs (by kernel_rfl) (by kernel_rfl) (fun hb => ?_) (fun hb => ?_)
        · replace hm := bif_t hm hb
          refine Vk.seq fun K39 hK39 => ?_
          refine Vk.seq fun K40 hK40 => ?_
          refine Vk.region ?_
          refine Vk.pures 1 [(46, .pointer (some ⟨b_2, 1, none⟩))] hs (by kernel_rfl) fun a hs => ?_
          refine Vk.step (Vk.value (some 47) (.slice A_x0ops x0.ops.length c_x0ops) hs (by kernel_rfl) (op := (.load 69 (.tmp 46))) (by kernel_rfl) (fun o ho => run_load1 (b := b_2) (off := 1) (c := C.slc A_x0ops x0.ops.length c_x0ops) ho (by kernel_rfl) (by kernel_rfl) (Cell.own 0 rfl (by kernel_rfl)) _ hs.own) fun a hs => ?_)
          refine Vk.pures 1 [(48, .int .i64 q_13)] hs (by kernel_rfl) fun a hs => ?_
          obtain ⟨h_41, hm⟩ := ite_t hm
          obtain ⟨e_44, h_42, hm⟩ := bind_t hm
          obtain ⟨b_45, o_46, hA_47, h_43⟩ := Sl.elem hx_x0ops h_42
          refine Vk.step (Vk.value (some 49) (.pointer (some ⟨b_45, o_46 + q_13.toNat * 6, none⟩)) hs (by kernel_rfl) (op := (.indexAddr 69 (.tmp 47) (.tmp 48))) (by kernel_rfl) (fun o ho => run_idxSlc (k := .i64) ho (cap := c_x0ops) (len := x0.ops.length) ((congrArg (fun A => Value.slice A (x0.ops.length) (c_x0ops)) hA_47) ▸ (by kernel_rfl)) (by kernel_rfl) (by kernel_rfl) (idx_ok h_41 h_42) _) fun a hs => ?_)
          refine Vk.pures 1 [(50, .pointer (some ⟨b_45, o_46 + q_13.toNat * 6 + 5, none⟩))] hs (by kernel_rfl) fun a hs => ?_
          refine Vk.step (Vk.value (some 51) (.int .u64 e_44.c) hs (by kernel_rfl) (op := (.load 23 (.tmp 50))) (by kernel_rfl) (fun o ho => run_load1 (b := b_45) (off := o_46 + q_13.toNat * 6 + 5) (c := C.int .u64 e_44.c) ho (by kernel_rfl) (by kernel_rfl) (CellsAt.cell h_43 (i := 5) (by kernel_rfl)) _ hs.own.drop) fun a hs => ?_)
          refine Vk.pures 2 [(53, .bool (e_44.c != q_12)), (52, .int .u64 q_12)] hs (by kernel_rfl) fun a hs => ?_
          replace hs := hs.pick [1, 3, 4, 53] (L' := [(1, .pointer (some ⟨b_2, 0, none⟩)), (3, .int .u64 q_12), (4, .int .i64 q_13), (53, .bool (e_44.c != q_12))]) (by kernel_rfl)
          refine Vk.done (by kernel_rfl) ?_
          refine hK40 _ _ ?_
          clear hK40
          refine Vk.condS (b := e_44.c != q_12) hs (by kernel_rfl) (by kernel_rfl) (fun hb => ?_) (fun hb => ?_)
          · replace hm := bif_t hm hb
            refine Vk.seq fun K48 hK48 => ?_
            refine Vk.region ?_
            refine Vk.pures 1 [(2, .bool false)] hs (by kernel_rfl) fun a hs => ?_
            replace hs := hs.pick [2] (L' := [(2, .bool false)]) (by kernel_rfl)
            refine Vk.done (by kernel_rfl) ?_
            refine hK48 _ _ ?_
            clear hK48
            refine wp_ret ?_
            exact Vk.ret1 (P := Try.prog) (fn := Try.f46) (R := visorref18_Right.R κ S x0 A_x0ops c_x0ops A_x0blocks c_x0blocks r) (.bool false) hs rfl (by kernel_rfl) (by obtain rfl := hret11 _ ((Option.some.inj hm).symm); exact ⟨rfl, (Own.to hs.own [] 1 (by kernel_rfl) (by kernel_rfl))⟩)
          · replace hm := bif_f hm hb
            refine wp_skip ?_
            refine hK39 _ _ ?_
            clear hK39
            refine Vk.region ?_
            refine Vk.pures 3 [(3, .int .u64 (IntKind.u64.wrap (q_12 + 1))), (55, .int .u64 (IntKind.u64.wrap (q_12 + 1))), (54, .int .u64 q_12)] hs (by kernel_rfl) fun a hs => ?_
            replace hs := hs.pick [1, 3, 4] (L' := [(1, .pointer (some ⟨b_2, 0, none⟩)), (3, .int .u64 (IntKind.u64.wrap (q_12 + 1))), (4, .int .i64 q_13)]) (by kernel_rfl)
            refine Vk.done (by kernel_rfl) ?_
            exact hj16 (IntKind.u64.wrap (q_12 + 1)) hm _ _ (hs.go [1, 3, 4] [0] 1 (by kernel_rfl) (by kernel_rfl) (by kernel_rfl))
        · replace hm := bif_f hm hb
          refine wp_skip ?_
          exact hj16 q_12 hm _ _ (hs.go [1, 3, 4] [0] 1 (by kernel_rfl) (by kernel_rfl) (by kernel_rfl))
    · replace hm := bif_f hm hb
      refine wp_exit ?_
      exact hx11 (Option.some.inj hm).symm _ _ (hs.go [1] [0] 1 (by kernel_rfl) (by kernel_rfl) (by kernel_rfl))

structure Tvisorref02_T where
  l : List Int
  used : Int
  free : Int
  deriving Inhabited
def Tvisorref02_T.obj (x : Tvisorref02_T) (Al : Option Addr) (cl : Nat) : Cells := [C.slc Al x.l.length cl, C.int .i64 x.used, C.int .i64 x.free]

structure Tvisorref19_M where
  n : Int
  most : Int
  words : Int
  draws : Int
  fromF : Int
  skip : Int
  kind : Int
  e : Int
  ops : List Tapi_Op
  blocks : List Tapi_Span
  val : List Int
  tape : Tvisorref02_T
  dry : Bool
  deriving Inhabited
def Tvisorref19_M.obj (x : Tvisorref19_M) (Aops : Option Addr) (cops : Nat) (Ablocks : Option Addr) (cblocks : Nat) (Aval : Option Addr) (cval : Nat) (Atapel : Option Addr) (ctapel : Nat) : Cells := [C.int .i64 x.n, C.int .i64 x.most, C.int .i64 x.words, C.int .i64 x.draws, C.int .i64 x.fromF, C.int .i64 x.skip, C.int .i64 x.kind, C.int .i64 x.e, C.slc Aops x.ops.length cops, C.slc Ablocks x.blocks.length cblocks, C.slc Aval x.val.length cval, C.slc Atapel x.tape.l.length ctapel, C.int .i64 x.tape.used, C.int .i64 x.tape.free, C.bool x.dry]

abbrev visorref19_M_At.R (κ : Ctx) (S : List HP) (x0 : Tvisorref19_M) (x1 : Int) (b_x0 : Nat) (A_x0oops : Option Addr) (c_x0oops : Nat) (A_x0oblocks : Option Addr) (c_x0oblocks : Nat) (A_x0oval : Option Addr) (c_x0oval : Nat) (A_x0otapel : Option Addr) (c_x0otapel : Nat) (r : Int) : Ending → World → Prop := fun e w' => e = .returned (.int .u64 r) ∧ Own κ w' (pt b_x0 (blk (Tvisorref19_M.obj x0 A_x0oops c_x0oops A_x0oblocks c_x0oblocks A_x0oval c_x0oval A_x0otapel c_x0otapel) 123) :: rowp A_x0oops c_x0oops 32 6 Tapi_Op.cells x0.ops :: rowp A_x0oblocks c_x0oblocks 144 3 Tapi_Span.cells x0.blocks :: rowp A_x0oval c_x0oval 23 1 (eI .u64) x0.val :: rdp κ A_x0otapel c_x0otapel 1 (eI .u64) x0.tape.l :: S)
def visorref19_M_At.m (k : Nat) (x0 : Tvisorref19_M) (x1 : Int) : Option Int := (bif (decide (x1 < 0)) || (decide (x1 ≥ ((x0.val.length : Nat) : Int))) then some 0 else (if 0 ≤ x1 then (x0.val[x1.toNat]?).bind fun e_10 => some e_10 else none))

set_option maxRecDepth 100000 in
set_option maxHeartbeats 4000000 in
theorem visorref19_M_At.ok (k : Nat) (x0 : Tvisorref19_M) (x1 : Int) (r : Int) (hm : visorref19_M_At.m k x0 x1 = some r) (κ : Ctx) (w : World) (S : List HP) (b_x0 : Nat) (A_x0oops : Option Addr) (c_x0oops : Nat) (A_x0oblocks : Option Addr) (c_x0oblocks : Nat) (A_x0oval : Option Addr) (c_x0oval : Nat) (A_x0otapel : Option Addr) (c_x0otapel : Nat) (ho : Own κ w (pt b_x0 (blk (Tvisorref19_M.obj x0 A_x0oops c_x0oops A_x0oblocks c_x0oblocks A_x0oval c_x0oval A_x0otapel c_x0otapel) 123) :: rowp A_x0oops c_x0oops 32 6 Tapi_Op.cells x0.ops :: rowp A_x0oblocks c_x0oblocks 144 3 Tapi_Span.cells x0.blocks :: rowp A_x0oval c_x0oval 23 1 (eI .u64) x0.val :: rdp κ A_x0otapel c_x0otapel 1 (eI .u64) x0.tape.l :: S)) :
    Calls Try.prog 97 #[.pointer (some ⟨b_x0, 0, none⟩), .int .i64 x1] w (visorref19_M_At.R κ S x0 x1 b_x0 A_x0oops c_x0oops A_x0oblocks c_x0oblocks A_x0oval c_x0oval A_x0otapel c_x0otapel r) := by
  unfold visorref19_M_At.m at hm
  refine Vk.enter [(0, .pointer (some ⟨b_x0, 0, none⟩)), (1, .int .i64 x1)] Try.func97 rfl Try.ntmps97 (by kernel_rfl) (Nat.le_of_ble_eq_true (by kernel_rfl)) ho fun a hs => ?_
  refine Vk.seq fun K1 hK1 => ?_
  refine Vk.region ?_
  refine Vk.pures 1 [(4, .int .u64 0)] hs (by kernel_rfl) fun a hs => ?_
  replace hs := hs.pick [0, 1] (L' := [(0, .pointer (some ⟨b_x0, 0, none⟩)), (1, .int .i64 x1)]) (by kernel_rfl)
  refine Vk.done (by kernel_rfl) ?_
  refine hK1 _ _ ?_
  clear hK1
  refine Vk.seq fun K2 hK2 => ?_
  refine Vk.seq fun K3 hK3 => ?_
  refine Vk.region ?_
  refine Vk.pures 3 [(7, .bool (decide (x1 < 0))), (6, .bool (decide (x1 < 0))), (5, .int .i64 x1)] hs (by kernel_rfl) fun a hs => ?_
  suffices hj_4 : ∀ a, St 23 a w κ [(0, .pointer (some ⟨b_x0, 0, none⟩)), (1, .int .i64 x1), (5, .int .i64 x1), (6, .bool (decide (x1 < 0))), (7, .bool (decide (x1 < 0))), (15, .bool ((decide (x1 < 0)) || (decide (x1 ≥ ((x0.val.length : Nat) : Int)))))] (pt b_x0 (blk (Tvisorref19_M.obj x0 A_x0oops c_x0oops A_x0oblocks c_x0oblocks A_x0oval c_x0oval A_x0otapel c_x0otapel) 123) :: rowp A_x0oops c_x0oops 32 6 Tapi_Op.cells x0.ops :: rowp A_x0oblocks c_x0oblocks 144 3 Tapi_Span.cells x0.blocks :: rowp A_x0oval c_x0oval 23 1 (eI .u64) x0.val :: rdp κ A_x0otapel c_x0otapel 1 (eI .u64) x0.tape.l :: S) → wpFrom Try.prog _ _ 11 a w by
    rcases Bool.eq_false_or_eq_true (decide (x1 < 0)) with hb | hb
    · replace hs := hs.known (t := 7) hb (by kernel_rfl)
      refine Vk.pures 8 [(15, .bool true), (14, undef), (13, undef), (12, undef), (11, undef), (10, undef), (9, undef), (8, undef)] hs (by kernel_rfl) fun a hs => ?_
      have hq := hs.pick [0, 1, 5, 6, 7, 15] (L' := [(0, .pointer (some ⟨b_x0, 0, none⟩)), (1, .int .i64 x1), (5, .int .i64 x1), (6, .bool (decide (x1 < 0))), (7, .bool true), (15, .bool true)]) (by kernel_rfl)
      exact hj_4 _ (hq.conv (by first | (rw [hb] <;> rfl) | rfl))
    · replace hs := hs.known (t := 7) hb (by kernel_rfl)
      refine Vk.pures 4 [(11, .pointer (some ⟨b_x0, 10, none⟩)), (10, .pointer (some ⟨b_x0, 0, none⟩)), (9, .pointer (some ⟨b_x0, 0, none⟩)), (8, .int .i64 x1)] hs (by kernel_rfl) fun a hs => ?_
      refine Vk.step (Vk.value (some 12) (.slice A_x0oval x0.val.length c_x0oval) hs (by kernel_rfl) (op := (.load 73 (.tmp 11))) (by kernel_rfl) (fun o ho => run_load1 (b := b_x0) (off := 10) (c := C.slc A_x0oval x0.val.length c_x0oval) ho (by kernel_rfl) (by kernel_rfl) (Cell.own 0 rfl (by kernel_rfl)) _ hs.own) fun a hs => ?_)
      refine Vk.pures 3 [(15, .bool (decide (x1 ≥ ((x0.val.length : Nat) : Int)))), (14, .bool (decide (x1 ≥ ((x0.val.length : Nat) : Int)))), (13, .int .i64 ((x0.val.length : Nat) : Int))] hs (by kernel_rfl) fun a hs => ?_
      have hq := hs.pick [0, 1, 5, 6, 7, 15] (L' := [(0, .pointer (some ⟨b_x0, 0, none⟩)), (1, .int .i64 x1), (5, .int .i64 x1), (6, .bool (decide (x1 < 0))), (7, .bool false), (15, .bool (decide (x1 ≥ ((x0.val.length : Nat) : Int))))]) (by kernel_rfl)
      exact hj_4 _ (hq.conv (by first | (rw [hb] <;> rfl) | rfl))
  intro a hs
  replace hs := hs.pick [0, 1, 15] (L' := [(0, .pointer (some ⟨b_x0, 0, none⟩)), (1, .int .i64 x1), (15, .bool ((decide (x1 < 0)) || (decide (x1 ≥ ((x0.val.length : Nat) : Int)))))]) (by kernel_rfl)
  refine Vk.done (by kernel_rfl) ?_
  refine hK3 _ _ ?_
  clear hK3
  refine Vk.condS (b := (decide (x1 < 0)) || (decide (x1 ≥ ((x0.val.length : Nat) : Int)))) hs (by kernel_rfl) (by kernel_rfl) (fun hb => ?_) (fun hb => ?_)
  · replace hm := bif_t hm hb
    refine Vk.seq fun K5 hK5 => ?_
    refine Vk.region ?_
    refine Vk.pures 1 [(4, .int .u64 0)] hs (by kernel_rfl) fun a hs => ?_
    replace hs := hs.pick [4] (L' := [(4, .int .u64 0)]) (by kernel_rfl)
    refine Vk.done (by kernel_rfl) ?_
    refine hK5 _ _ ?_
    clear hK5
    refine wp_ret ?_
    exact Vk.ret1 (P := Try.prog) (fn := Try.f97) (R := visorref19_M_At.R κ S x0 x1 b_x0 A_x0oops c_x0oops A_x0oblocks c_x0oblocks A_x0oval c_x0oval A_x0otapel c_x0otapel r) (.int .u64 0) hs rfl (by kernel_rfl) (by obtain rfl := Option.some.inj hm; exact ⟨rfl, (Own.to hs.own [0, 1, 2, 3, 4] 5 (by kernel_rfl) (by kernel_rfl))⟩)
  · replace hm := bif_f hm hb
    refine wp_skip ?_
    refine hK2 _ _ ?_
    clear hK2
    refine Vk.seq fun K6 hK6 => ?_
    refine Vk.region ?_
    refine Vk.pures 3 [(18, .pointer (some ⟨b_x0, 10, none⟩)), (17, .pointer (some ⟨b_x0, 0, none⟩)), (16, .pointer (some ⟨b_x0, 0, none⟩))] hs (by kernel_rfl) fun a hs => ?_
    refine Vk.step (Vk.value (some 19) (.slice A_x0oval x0.val.length c_x0oval) hs (by kernel_rfl) (op := (.load 73 (.tmp 18))) (by kernel_rfl) (fun o ho => run_load1 (b := b_x0) (off := 10) (c := C.slc A_x0oval x0.val.length c_x0oval) ho (by kernel_rfl) (by kernel_rfl) (Cell.own 0 rfl (by kernel_rfl)) _ hs.own) fun a hs => ?_)
    refine Vk.pures 1 [(20, .int .i64 x1)] hs (by kernel_rfl) fun a hs => ?_
    obtain ⟨h_7, hm⟩ := ite_t hm
    obtain ⟨e_10, h_8, hm⟩ := bind_t hm
    obtain ⟨b_11, o_12, hA_13, h_9⟩ := Sl.elem (Own.rowSl 0 (Own.to (S' := rowp A_x0oval c_x0oval 23 1 (eI .u64) x0.val :: S) hs.own [3] 5 (by kernel_rfl) (by kernel_rfl)) rfl) h_8
    refine Vk.step (Vk.value (some 21) (.pointer (some ⟨b_11, o_12 + x1.toNat * 1, none⟩)) hs (by kernel_rfl) (op := (.indexAddr 73 (.tmp 19) (.tmp 20))) (by kernel_rfl) (fun o ho => run_idxSlc (k := .i64) ho (cap := c_x0oval) (len := x0.val.length) ((congrArg (fun A => Value.slice A (x0.val.length) (c_x0oval)) hA_13) ▸ (by kernel_rfl)) (by kernel_rfl) (by kernel_rfl) (idx_ok h_7 h_8) _) fun a hs => ?_)
    refine Vk.step (Vk.value (some 22) (.int .u64 e_10) hs (by kernel_rfl) (op := (.load 23 (.tmp 21))) (by kernel_rfl) (fun o ho => run_load1 (c := C.int .u64 e_10) ho (by kernel_rfl) (by kernel_rfl) (fun w ho => h_9 w ho 0 _ rfl) _ (Own.to (S' := rowp A_x0oval c_x0oval 23 1 (eI .u64) x0.val :: S) hs.own [3] 5 (by kernel_rfl) (by kernel_rfl))) fun a hs => ?_)
    refine Vk.pures 1 [(4, .int .u64 e_10)] hs (by kernel_rfl) fun a hs => ?_
    replace hs := hs.pick [4] (L' := [(4, .int .u64 e_10)]) (by kernel_rfl)
    refine Vk.done (by kernel_rfl) ?_
    refine hK6 _ _ ?_
    clear hK6
    refine wp_ret ?_
    exact Vk.ret1 (P := Try.prog) (fn := Try.f97) (R := visorref19_M_At.R κ S x0 x1 b_x0 A_x0oops c_x0oops A_x0oblocks c_x0oblocks A_x0oval c_x0oval A_x0otapel c_x0otapel r) (.int .u64 e_10) hs rfl (by kernel_rfl) (by obtain rfl := Option.some.inj hm; exact ⟨rfl, (Own.to hs.own [0, 1, 2, 3, 4] 5 (by kernel_rfl) (by kernel_rfl))⟩)


def visorref01_Low.l1 (x0 : Int) : Nat → Int → Int → Option (Int)
  | 0, _, _ => none
  | k + 1, q_6, q_7 => (bif (decide (q_7 < x0)) && (decide (q_7 < 64)) then visorref01_Low.l1 x0 k (IntKind.u64.wrap ((IntKind.u64.wrap (q_6 * 2)) + 1)) (IntKind.i64.wrap (q_7 + 1)) else some q_6)
abbrev visorref01_Low.R (κ : Ctx) (S : List HP) (x0 : Int) (r : Int) : Ending → World → Prop := fun e w' => e = .returned (.int .u64 r) ∧ Own κ w' (S)
def visorref01_Low.m (k : Nat) (x0 : Int) : Option Int := (visorref01_Low.l1 x0 k 0 0).bind fun p_12 => some p_12

set_option maxRecDepth 100000 in
set_option maxHeartbeats 4000000 in
theorem visorref01_Low.ok (k : Nat) (x0 : Int) (r : Int) (hm : visorref01_Low.m k x0 = some r) (κ : Ctx) (w : World) (S : List HP) (ho : Own κ w (S)) :
    Calls Try.prog 74 #[.int .i64 x0] w (visorref01_Low.R κ S x0 r) := by
  unfold visorref01_Low.m at hm
  refine Vk.enter [(0, .int .i64 x0)] Try.func74 rfl Try.ntmps74 (by kernel_rfl) (Nat.le_of_ble_eq_true (by kernel_rfl)) ho fun a hs => ?_
  refine Vk.seq fun K1 hK1 => ?_
  refine Vk.region ?_
  refine Vk.pures 1 [(2, .int .u64 0)] hs (by kernel_rfl) fun a hs => ?_
  replace hs := hs.pick [0] (L' := [(0, .int .i64 x0)]) (by kernel_rfl)
  refine Vk.done (by kernel_rfl) ?_
  refine hK1 _ _ ?_
  clear hK1
  refine Vk.seq fun K2 hK2 => ?_
  refine Vk.region ?_
  refine Vk.pures 1 [(3, .int .u64 0)] hs (by kernel_rfl) fun a hs => ?_
  replace hs := hs.pick [0, 3] (L' := [(0, .int .i64 x0), (3, .int .u64 0)]) (by kernel_rfl)
  refine Vk.done (by kernel_rfl) ?_
  refine hK2 _ _ ?_
  clear hK2
  refine Vk.seq fun K3 hK3 => ?_
  refine Vk.seq fun K4 hK4 => ?_
  refine Vk.region ?_
  refine Vk.pures 1 [(4, .int .i64 0)] hs (by kernel_rfl) fun a hs => ?_
  replace hs := hs.pick [0, 3, 4] (L' := [(0, .int .i64 x0), (3, .int .u64 0), (4, .int .i64 0)]) (by kernel_rfl)
  refine Vk.done (by kernel_rfl) ?_
  refine hK4 _ _ ?_
  clear hK4
  refine wp_block ?_
  obtain ⟨r5, hl5, hm⟩ := bind_t hm
  have hx5 : ∀ (p_12 : Int), r5 = p_12 → ∀ (a : Act) (w : World), St 18 a w κ [(3, .int .u64 p_12)] (S) → K3 a w := by
    intro p_12 he a w hs
    subst r5
    refine hK3 _ _ ?_
    clear hK3
    refine Vk.seq fun K15 hK15 => ?_
    refine Vk.region ?_
    refine Vk.pures 2 [(2, .int .u64 p_12), (17, .int .u64 p_12)] hs (by kernel_rfl) fun a hs => ?_
    replace hs := hs.pick [2] (L' := [(2, .int .u64 p_12)]) (by kernel_rfl)
    refine Vk.done (by kernel_rfl) ?_
    refine hK15 _ _ ?_
    clear hK15
    refine wp_ret ?_
    exact Vk.ret1 (P := Try.prog) (fn := Try.f74) (R := visorref01_Low.R κ S x0 r) (.int .u64 p_12) hs rfl (by kernel_rfl) (by obtain rfl := Option.some.inj hm; exact ⟨rfl, (Own.to hs.own [] 0 (by kernel_rfl) (by kernel_rfl))⟩)
  refine Vk.loopBy (fun k (s : Int × Int) a w => visorref01_Low.l1 x0 k s.1 s.2 = some r5 ∧ St 18 a w κ [(0, .int .i64 x0), (3, .int .u64 s.1), (4, .int .i64 s.2)] (S)) k (0, 0) ⟨hl5, hs.go [0, 3, 4] [] 0 (by kernel_rfl) (by kernel_rfl) (by kernel_rfl)⟩ (fun s a w h => by obtain ⟨h1, _⟩ := h; simp [visorref01_Low.l1] at h1) (fun k KL5 ih s a w h => ?_)
  obtain ⟨q_6, q_7⟩ := s
  obtain ⟨hm, hs⟩ := h
  try dsimp only at hm hs
  rw [visorref01_Low.l1] at hm
  refine Vk.seq fun K8 hK8 => ?_
  refine Vk.seq fun K9 hK9 => ?_
  refine Vk.region ?_
  refine Vk.pures 4 [(8, .bool (decide (q_7 < x0))), (7, .bool (decide (q_7 < x0))), (6, .int .i64 x0), (5, .int .i64 q_7)] hs (by kernel_rfl) fun a hs => ?_
  suffices hj_10 : ∀ a, St 18 a w κ [(0, .int .i64 x0), (3, .int .u64 q_6), (4, .int .i64 q_7), (5, .int .i64 q_7), (6, .int .i64 x0), (7, .bool (decide (q_7 < x0))), (8, .bool (decide (q_7 < x0))), (11, .bool ((decide (q_7 < x0)) && (decide (q_7 < 64))))] (S) → wpFrom Try.prog _ _ 7 a w by
    rcases Bool.eq_false_or_eq_true (decide (q_7 < x0)) with hb | hb
    · replace hs := hs.known (t := 8) hb (by kernel_rfl)
      refine Vk.pures 3 [(11, .bool (decide (q_7 < 64))), (10, .bool (decide (q_7 < 64))), (9, .int .i64 q_7)] hs (by kernel_rfl) fun a hs => ?_
      have hq := hs.pick [0, 3, 4, 5, 6, 7, 8, 11] (L' := [(0, .int .i64 x0), (3, .int .u64 q_6), (4, .int .i64 q_7), (5, .int .i64 q_7), (6, .int .i64 x0), (7, .bool (decide (q_7 < x0))), (8, .bool true), (11, .bool (decide (q_7 < 64)))]) (by kernel_rfl)
      exact hj_10 _ (hq.conv (by first | (rw [hb] <;> rfl) | rfl))
    · replace hs := hs.known (t := 8) hb (by kernel_rfl)
      refine Vk.pures 3 [(11, .bool false), (10, undef), (9, undef)] hs (by kernel_rfl) fun a hs => ?_
      have hq := hs.pick [0, 3, 4, 5, 6, 7, 8, 11] (L' := [(0, .int .i64 x0), (3, .int .u64 q_6), (4, .int .i64 q_7), (5, .int .i64 q_7), (6, .int .i64 x0), (7, .bool (decide (q_7 < x0))), (8, .bool false), (11, .bool false)]) (by kernel_rfl)
      exact hj_10 _ (hq.conv (by first | (rw [hb] <;> rfl) | rfl))
  intro a hs
  replace hs := hs.pick [0, 3, 4, 11] (L' := [(0, .int .i64 x0), (3, .int .u64 q_6), (4, .int .i64 q_7), (11, .bool ((decide (q_7 < x0)) && (decide (q_7 < 64))))]) (by kernel_rfl)
  refine Vk.done (by kernel_rfl) ?_
  refine hK9 _ _ ?_
  clear hK9
  refine Vk.condS (b := (decide (q_7 < x0)) && (decide (q_7 < 64))) hs (by kernel_rfl) (by kernel_rfl) (fun hb => ?_) (fun hb => ?_)
  · replace hm := bif_t hm hb
    refine wp_skip ?_
    refine hK8 _ _ ?_
    clear hK8
    refine Vk.seq fun K11 hK11 => ?_
    refine wp_block ?_
    refine Vk.region ?_
    refine Vk.pures 4 [(3, .int .u64 (IntKind.u64.wrap ((IntKind.u64.wrap (q_6 * 2)) + 1))), (16, .int .u64 (IntKind.u64.wrap ((IntKind.u64.wrap (q_6 * 2)) + 1))), (15, .int .u64 (IntKind.u64.wrap (q_6 * 2))), (14, .int .u64 q_6)] hs (by kernel_rfl) fun a hs => ?_
    replace hs := hs.pick [0, 3, 4] (L' := [(0, .int .i64 x0), (3, .int .u64 (IntKind.u64.wrap ((IntKind.u64.wrap (q_6 * 2)) + 1))), (4, .int .i64 q_7)]) (by kernel_rfl)
    refine Vk.done (by kernel_rfl) ?_
    refine hK11 _ _ ?_
    clear hK11
    refine Vk.region ?_
    refine Vk.pures 3 [(4, .int .i64 (IntKind.i64.wrap (q_7 + 1))), (13, .int .i64 (IntKind.i64.wrap (q_7 + 1))), (12, .int .i64 q_7)] hs (by kernel_rfl) fun a hs => ?_
    replace hs := hs.pick [0, 3, 4] (L' := [(0, .int .i64 x0), (3, .int .u64 (IntKind.u64.wrap ((IntKind.u64.wrap (q_6 * 2)) + 1))), (4, .int .i64 (IntKind.i64.wrap (q_7 + 1)))]) (by kernel_rfl)
    refine Vk.done (by kernel_rfl) ?_
    refine ih ((IntKind.u64.wrap ((IntKind.u64.wrap (q_6 * 2)) + 1)), (IntKind.i64.wrap (q_7 + 1))) _ _ ⟨hm, hs.go [0, 3, 4] [] 0 (by kernel_rfl) (by kernel_rfl) (by kernel_rfl)⟩
  · replace hm := bif_f hm hb
    refine wp_exit ?_
    exact hx5 q_6 (Option.some.inj hm).symm _ _ (hs.go [3] [] 0 (by kernel_rfl) (by kernel_rfl) (by kernel_rfl))


abbrev visorref01_Mod.R (κ : Ctx) (S : List HP) (x0 : Int) (x1 : Int) (r : Int) : Ending → World → Prop := fun e w' => e = .returned (.int .i64 r) ∧ Own κ w' (S)
def visorref01_Mod.m (k : Nat) (x0 : Int) (x1 : Int) : Option Int := (if x1 ≠ 0 then (bif decide ((Int.tmod x0 x1) < 0) then (if x1 ≠ 0 then some (IntKind.i64.wrap ((Int.tmod x0 x1) + x1)) else none) else (if x1 ≠ 0 then some (Int.tmod x0 x1) else none)) else none)

set_option maxRecDepth 100000 in
set_option maxHeartbeats 4000000 in
theorem visorref01_Mod.ok (k : Nat) (x0 : Int) (x1 : Int) (r : Int) (hm : visorref01_Mod.m k x0 x1 = some r) (κ : Ctx) (w : World) (S : List HP) (ho : Own κ w (S)) :
    Calls Try.prog 111 #[.int .i64 x0, .int .i64 x1] w (visorref01_Mod.R κ S x0 x1 r) := by
  unfold visorref01_Mod.m at hm
  refine Vk.enter [(0, .int .i64 x0), (1, .int .i64 x1)] Try.func111 rfl Try.ntmps111 (by kernel_rfl) (Nat.le_of_ble_eq_true (by kernel_rfl)) ho fun a hs => ?_
  refine Vk.seq fun K1 hK1 => ?_
  refine Vk.region ?_
  refine Vk.pures 1 [(4, .int .i64 0)] hs (by kernel_rfl) fun a hs => ?_
  replace hs := hs.pick [0, 1] (L' := [(0, .int .i64 x0), (1, .int .i64 x1)]) (by kernel_rfl)
  refine Vk.done (by kernel_rfl) ?_
  refine hK1 _ _ ?_
  clear hK1
  refine Vk.seq fun K2 hK2 => ?_
  refine Vk.seq fun K3 hK3 => ?_
  refine Vk.region ?_
  refine Vk.pures 2 [(6, .int .i64 x1), (5, .int .i64 x0)] hs (by kernel_rfl) fun a hs => ?_
  obtain ⟨h_4, hm⟩ := ite_t hm
  refine Vk.step (Vk.value (some 7) (.int .i64 (Int.tmod x0 x1)) hs (by kernel_rfl) (op := (.binOp .rem 3 (.tmp 5) (.tmp 6) 3)) (by kernel_rfl) (fun o ho => run_rem ho (by kernel_rfl) (by kernel_rfl) h_4 _) fun a hs => ?_)
  refine Vk.pures 1 [(8, .bool (decide ((Int.tmod x0 x1) < 0)))] hs (by kernel_rfl) fun a hs => ?_
  replace hs := hs.pick [0, 1, 8] (L' := [(0, .int .i64 x0), (1, .int .i64 x1), (8, .bool (decide ((Int.tmod x0 x1) < 0)))]) (by kernel_rfl)
  refine Vk.done (by kernel_rfl) ?_
  refine hK3 _ _ ?_
  clear hK3
  refine Vk.condS (b := decide ((Int.tmod x0 x1) < 0)) hs (by kernel_rfl) (by kernel_rfl) (fun hb => ?_) (fun hb => ?_)
  · replace hm := bif_t hm hb
    refine Vk.seq fun K5 hK5 => ?_
    refine Vk.region ?_
    refine Vk.pures 2 [(10, .int .i64 x1), (9, .int .i64 x0)] hs (by kernel_rfl) fun a hs => ?_
    obtain ⟨h_6, hm⟩ := ite_t hm
    refine Vk.step (Vk.value (some 11) (.int .i64 (Int.tmod x0 x1)) hs (by kernel_rfl) (op := (.binOp .rem 3 (.tmp 9) (.tmp 10) 3)) (by kernel_rfl) (fun o ho => run_rem ho (by kernel_rfl) (by kernel_rfl) h_6 _) fun a hs => ?_)
    refine Vk.pures 3 [(4, .int .i64 (IntKind.i64.wrap ((Int.tmod x0 x1) + x1))), (13, .int .i64 (IntKind.i64.wrap ((Int.tmod x0 x1) + x1))), (12, .int .i64 x1)] hs (by kernel_rfl) fun a hs => ?_
    replace hs := hs.pick [4] (L' := [(4, .int .i64 (IntKind.i64.wrap ((Int.tmod x0 x1) + x1)))]) (by kernel_rfl)
    refine Vk.done (by kernel_rfl) ?_
    refine hK5 _ _ ?_
    clear hK5
    refine wp_ret ?_
    exact Vk.ret1 (P := Try.prog) (fn := Try.f111) (R := visorref01_Mod.R κ S x0 x1 r) (.int .i64 (IntKind.i64.wrap ((Int.tmod x0 x1) + x1))) hs rfl (by kernel_rfl) (by obtain rfl := Option.some.inj hm; exact ⟨rfl, (Own.to hs.own [] 0 (by kernel_rfl) (by kernel_rfl))⟩)
  · replace hm := bif_f hm hb
    refine wp_skip ?_
    refine hK2 _ _ ?_
    clear hK2
    refine Vk.seq fun K7 hK7 => ?_
    refine Vk.region ?_
    refine Vk.pures 2 [(15, .int .i64 x1), (14, .int .i64 x0)] hs (by kernel_rfl) fun a hs => ?_
    obtain ⟨h_8, hm⟩ := ite_t hm
    refine Vk.step (Vk.value (some 16) (.int .i64 (Int.tmod x0 x1)) hs (by kernel_rfl) (op := (.binOp .rem 3 (.tmp 14) (.tmp 15) 3)) (by kernel_rfl) (fun o ho => run_rem ho (by kernel_rfl) (by kernel_rfl) h_8 _) fun a hs => ?_)
    refine Vk.pures 1 [(4, .int .i64 (Int.tmod x0 x1))] hs (by kernel_rfl) fun a hs => ?_
    replace hs := hs.pick [4] (L' := [(4, .int .i64 (Int.tmod x0 x1))]) (by kernel_rfl)
    refine Vk.done (by kernel_rfl) ?_
    refine hK7 _ _ ?_
    clear hK7
    refine wp_ret ?_
    exact Vk.ret1 (P := Try.prog) (fn := Try.f111) (R := visorref01_Mod.R κ S x0 x1 r) (.int .i64 (Int.tmod x0 x1)) hs rfl (by kernel_rfl) (by obtain rfl := Option.some.inj hm; exact ⟨rfl, (Own.to hs.own [] 0 (by kernel_rfl) (by kernel_rfl))⟩)


def visorref01_Rot.l1 (x1 : Int) : Nat → Int → Int → Option (Int)
  | 0, _, _ => none
  | k + 1, q_5, q_6 => (visorref01_Mod.m k x1 64).bind fun v_11 => (bif decide (q_6 < v_11) then visorref01_Rot.l1 x1 k (IntKind.u64.wrap ((IntKind.u64.wrap (q_5 * 2)) + (IntKind.u64.wrap (Int.tdiv q_5 9223372036854775808)))) (IntKind.i64.wrap (q_6 + 1)) else some q_5)
abbrev visorref01_Rot.R (κ : Ctx) (S : List HP) (x0 : Int) (x1 : Int) (r : Int) : Ending → World → Prop := fun e w' => e = .returned (.int .u64 r) ∧ Own κ w' (S)
def visorref01_Rot.m (k : Nat) (x0 : Int) (x1 : Int) : Option Int := (visorref01_Rot.l1 x1 k x0 0).bind fun p_13 => some p_13

set_option maxRecDepth 100000 in
set_option maxHeartbeats 4000000 in
theorem visorref01_Rot.ok (k : Nat) (x0 : Int) (x1 : Int) (r : Int) (hm : visorref01_Rot.m k x0 x1 = some r) (κ : Ctx) (w : World) (S : List HP) (ho : Own κ w (S)) :
    Calls Try.prog 73 #[.int .u64 x0, .int .i64 x1] w (visorref01_Rot.R κ S x0 x1 r) := by
  unfold visorref01_Rot.m at hm
  refine Vk.enter [(0, .int .u64 x0), (1, .int .i64 x1)] Try.func73 rfl Try.ntmps73 (by kernel_rfl) (Nat.le_of_ble_eq_true (by kernel_rfl)) ho fun a hs => ?_
  refine Vk.seq fun K1 hK1 => ?_
  refine Vk.region ?_
  refine Vk.pures 1 [(4, .int .u64 0)] hs (by kernel_rfl) fun a hs => ?_
  replace hs := hs.pick [0, 1] (L' := [(0, .int .u64 x0), (1, .int .i64 x1)]) (by kernel_rfl)
  refine Vk.done (by kernel_rfl) ?_
  refine hK1 _ _ ?_
  clear hK1
  refine Vk.seq fun K2 hK2 => ?_
  refine Vk.seq fun K3 hK3 => ?_
  refine Vk.region ?_
  refine Vk.pures 1 [(5, .int .i64 0)] hs (by kernel_rfl) fun a hs => ?_
  replace hs := hs.pick [0, 1, 5] (L' := [(0, .int .u64 x0), (1, .int .i64 x1), (5, .int .i64 0)]) (by kernel_rfl)
  refine Vk.done (by kernel_rfl) ?_
  refine hK3 _ _ ?_
  clear hK3
  refine wp_block ?_
  obtain ⟨r4, hl4, hm⟩ := bind_t hm
  have hx4 : ∀ (p_13 : Int), r4 = p_13 → ∀ (a : Act) (w : World), St 18 a w κ [(0, .int .u64 p_13)] (S) → K2 a w := by
    intro p_13 he a w hs
    subst r4
    refine hK2 _ _ ?_
    clear hK2
    refine Vk.seq fun K16 hK16 => ?_
    refine Vk.region ?_
    refine Vk.pures 2 [(4, .int .u64 p_13), (17, .int .u64 p_13)] hs (by kernel_rfl) fun a hs => ?_
    replace hs := hs.pick [4] (L' := [(4, .int .u64 p_13)]) (by kernel_rfl)
    refine Vk.done (by kernel_rfl) ?_
    refine hK16 _ _ ?_
    clear hK16
    refine wp_ret ?_
    exact Vk.ret1 (P := Try.prog) (fn := Try.f73) (R := visorref01_Rot.R κ S x0 x1 r) (.int .u64 p_13) hs rfl (by kernel_rfl) (by obtain rfl := Option.some.inj hm; exact ⟨rfl, (Own.to hs.own [] 0 (by kernel_rfl) (by kernel_rfl))⟩)
  refine Vk.loopBy (fun k (s : Int × Int) a w => visorref01_Rot.l1 x1 k s.1 s.2 = some r4 ∧ St 18 a w κ [(0, .int .u64 s.1), (1, .int .i64 x1), (5, .int .i64 s.2)] (S)) k (x0, 0) ⟨hl4, hs.go [0, 1, 5] [] 0 (by kernel_rfl) (by kernel_rfl) (by kernel_rfl)⟩ (fun s a w h => by obtain ⟨h1, _⟩ := h; simp [visorref01_Rot.l1] at h1) (fun k KL4 ih s a w h => ?_)
  obtain ⟨q_5, q_6⟩ := s
  obtain ⟨hm, hs⟩ := h
  try dsimp only at hm hs
  rw [visorref01_Rot.l1] at hm
  refine Vk.seq fun K7 hK7 => ?_
  refine Vk.seq fun K8 hK8 => ?_
  refine Vk.region ?_
  refine Vk.pures 2 [(7, .int .i64 x1), (6, .int .i64 q_6)] hs (by kernel_rfl) fun a hs => ?_
  obtain ⟨v_11, h_10, hm⟩ := bind_t hm
  refine Vk.step (Vk.call (some 8) 111 #[.int .i64 x1, .int .i64 64] hs (by kernel_rfl) (by kernel_rfl) (by kernel_rfl) ?_)
  refine (visorref01_Mod.ok k x1 64 v_11 h_10 κ w (S) hs.own).mono ?_
  rintro _ w ⟨rfl, how⟩
  refine ⟨_, _, _, rfl, how, fun a hs => ?_⟩
  refine Vk.pures 1 [(9, .bool (decide (q_6 < v_11)))] hs (by kernel_rfl) fun a hs => ?_
  replace hs := hs.pick [0, 1, 5, 9] (L' := [(0, .int .u64 q_5), (1, .int .i64 x1), (5, .int .i64 q_6), (9, .bool (decide (q_6 < v_11)))]) (by kernel_rfl)
  refine Vk.done (by kernel_rfl) ?_
  refine hK8 _ _ ?_
  clear hK8
  refine Vk.condS (b := decide (q_6 < v_11)) hs (by kernel_rfl) (by kernel_rfl) (fun hb => ?_) (fun hb => ?_)
  · replace hm := bif_t hm hb
    refine wp_skip ?_
    refine hK7 _ _ ?_
    clear hK7
    refine Vk.seq fun K12 hK12 => ?_
    refine wp_block ?_
    refine Vk.region ?_
    refine Vk.pures 6 [(0, .int .u64 (IntKind.u64.wrap ((IntKind.u64.wrap (q_5 * 2)) + (IntKind.u64.wrap (Int.tdiv q_5 9223372036854775808))))), (16, .int .u64 (IntKind.u64.wrap ((IntKind.u64.wrap (q_5 * 2)) + (IntKind.u64.wrap (Int.tdiv q_5 9223372036854775808))))), (15, .int .u64 (IntKind.u64.wrap (Int.tdiv q_5 9223372036854775808))), (14, .int .u64 q_5), (13, .int .u64 (IntKind.u64.wrap (q_5 * 2))), (12, .int .u64 q_5)] hs (by kernel_rfl) fun a hs => ?_
    replace hs := hs.pick [0, 1, 5] (L' := [(0, .int .u64 (IntKind.u64.wrap ((IntKind.u64.wrap (q_5 * 2)) + (IntKind.u64.wrap (Int.tdiv q_5 9223372036854775808))))), (1, .int .i64 x1), (5, .int .i64 q_6)]) (by kernel_rfl)
    refine Vk.done (by kernel_rfl) ?_
    refine hK12 _ _ ?_
    clear hK12
    refine Vk.region ?_
    refine Vk.pures 3 [(5, .int .i64 (IntKind.i64.wrap (q_6 + 1))), (11, .int .i64 (IntKind.i64.wrap (q_6 + 1))), (10, .int .i64 q_6)] hs (by kernel_rfl) fun a hs => ?_
    replace hs := hs.pick [0, 1, 5] (L' := [(0, .int .u64 (IntKind.u64.wrap ((IntKind.u64.wrap (q_5 * 2)) + (IntKind.u64.wrap (Int.tdiv q_5 9223372036854775808))))), (1, .int .i64 x1), (5, .int .i64 (IntKind.i64.wrap (q_6 + 1)))]) (by kernel_rfl)
    refine Vk.done (by kernel_rfl) ?_
    refine ih ((IntKind.u64.wrap ((IntKind.u64.wrap (q_5 * 2)) + (IntKind.u64.wrap (Int.tdiv q_5 9223372036854775808)))), (IntKind.i64.wrap (q_6 + 1))) _ _ ⟨hm, hs.go [0, 1, 5] [] 0 (by kernel_rfl) (by kernel_rfl) (by kernel_rfl)⟩
  · replace hm := bif_f hm hb
    refine wp_exit ?_
    exact hx4 q_5 (Option.some.inj hm).symm _ _ (hs.go [0] [] 0 (by kernel_rfl) (by kernel_rfl) (by kernel_rfl))


def visorref17_Eval.j1 (k : Nat) (x0 : Tapi_Op) (x1 : Int) (x2 : Int) (x3 : Int) (p_12 : Bool) : Option (Int) := (bif p_12 then some x0.c else (bif x0.kind == 5 then some (bxor .u64 x1 x2) else (bif x0.kind == 6 then some (IntKind.u64.wrap (18446744073709551615 - x1)) else (bif x0.kind == 7 then some (band .u64 x1 x2) else (bif x0.kind == 8 then some (band .u64 x1 x0.c) else (bif x0.kind == 9 then (visorref01_Low.m k (IntKind.i64.wrap (64 - (IntKind.i64.wrap (Int.tmod x0.c 64))))).bind fun v_26 => (visorref01_Rot.m k (band .u64 x1 v_26) (IntKind.i64.wrap (Int.tmod x0.c 64))).bind fun v_29 => some v_29 else (bif x0.kind == 10 then (visorref01_Rot.m k x1 (IntKind.i64.wrap (64 - (IntKind.i64.wrap (Int.tmod x0.c 64))))).bind fun v_34 => (visorref01_Low.m k (IntKind.i64.wrap (64 - (IntKind.i64.wrap (Int.tmod x0.c 64))))).bind fun v_37 => some (band .u64 v_34 v_37) else (bif x0.kind == 11 then (visorref01_Rot.m k x1 (IntKind.i64.wrap (Int.tmod x0.c 64))).bind fun v_42 => some v_42 else (bif x0.kind == 12 then some (bxor .u64 (bxor .u64 x1 x2) x3) else some 0)))))))))
abbrev visorref17_Eval.R (κ : Ctx) (S : List HP) (x0 : Tapi_Op) (x1 : Int) (x2 : Int) (x3 : Int) (x4 : Int) (r : Int) : Ending → World → Prop := fun e w' => e = .returned (.int .u64 r) ∧ Own κ w' (S)
def visorref17_Eval.m (k : Nat) (x0 : Tapi_Op) (x1 : Int) (x2 : Int) (x3 : Int) (x4 : Int) : Option Int := (bif x0.kind == 1 then some x4 else (bif x0.kind == 2 then some (bxor .u64 (bxor .u64 x4 x1) x2) else (bif x0.kind == 3 then visorref17_Eval.j1 k x0 x1 x2 x3 (x0.kind == 3) else visorref17_Eval.j1 k x0 x1 x2 x3 (x0.kind == 4))))

set_option maxRecDepth 100000 in
set_option maxHeartbeats 4000000 in
theorem visorref17_Eval.ok (k : Nat) (x0 : Tapi_Op) (x1 : Int) (x2 : Int) (x3 : Int) (x4 : Int) (r : Int) (hm : visorref17_Eval.m k x0 x1 x2 x3 x4 = some r) (κ : Ctx) (w : World) (S : List HP) (ho : Own κ w (S)) :
    Calls Try.prog 22 #[.agg (vals [C.int .i64 x0.kind, C.int .i64 x0.dom, C.int .i64 x0.a, C.int .i64 x0.b, C.int .i64 x0.d, C.int .u64 x0.c]), .int .u64 x1, .int .u64 x2, .int .u64 x3, .int .u64 x4] w (visorref17_Eval.R κ S x0 x1 x2 x3 x4 r) := by
  unfold visorref17_Eval.m at hm
  refine Vk.enter [(0, .agg (vals [C.int .i64 x0.kind, C.int .i64 x0.dom, C.int .i64 x0.a, C.int .i64 x0.b, C.int .i64 x0.d, C.int .u64 x0.c])), (1, .int .u64 x1), (2, .int .u64 x2), (3, .int .u64 x3), (4, .int .u64 x4)] Try.func22 rfl Try.ntmps22 (by kernel_rfl) (Nat.le_of_ble_eq_true (by kernel_rfl)) ho fun a hs => ?_
  refine Vk.seq fun K1 hK1 => ?_
  refine Vk.region ?_
  refine Vk.step (Vk.box (x := (.tmp 0)) 5 32 [C.int .i64 x0.kind, C.int .i64 x0.dom, C.int .i64 x0.a, C.int .i64 x0.b, C.int .i64 x0.d, C.int .u64 x0.c] hs (by kernel_rfl) (by kernel_rfl) (by kernel_rfl) fun b_2 w a hs => ?_)
  refine Vk.pures 1 [(10, .int .u64 0)] hs (by kernel_rfl) fun a hs => ?_
  replace hs := hs.pick [1, 2, 3, 4, 5] (L' := [(1, .int .u64 x1), (2, .int .u64 x2), (3, .int .u64 x3), (4, .int .u64 x4), (5, .pointer (some ⟨b_2, 0, none⟩))]) (by kernel_rfl)
  refine Vk.done (by kernel_rfl) ?_
  refine hK1 _ _ ?_
  clear hK1
  refine Vk.seq fun K3 hK3 => ?_
  refine Vk.region ?_
  refine Vk.pures 1 [(12, .pointer (some ⟨b_2, 5, none⟩))] hs (by kernel_rfl) fun a hs => ?_
  refine Vk.step (Vk.value (some 13) (.int .u64 x0.c) hs (by kernel_rfl) (op := (.load 23 (.tmp 12))) (by kernel_rfl) (fun o ho => run_load1 (b := b_2) (off := 5) (c := C.int .u64 x0.c) ho (by kernel_rfl) (by kernel_rfl) (Cell.own 0 rfl (by kernel_rfl)) _ hs.own) fun a hs => ?_)
  refine Vk.pures 3 [(11, .int .i64 (IntKind.i64.wrap (Int.tmod x0.c 64))), (15, .int .i64 (IntKind.i64.wrap (Int.tmod x0.c 64))), (14, .int .u64 (Int.tmod x0.c 64))] hs (by kernel_rfl) fun a hs => ?_
  replace hs := hs.pick [1, 2, 3, 4, 5, 11] (L' := [(1, .int .u64 x1), (2, .int .u64 x2), (3, .int .u64 x3), (4, .int .u64 x4), (5, .pointer (some ⟨b_2, 0, none⟩)), (11, .int .i64 (IntKind.i64.wrap (Int.tmod x0.c 64)))]) (by kernel_rfl)
  refine Vk.done (by kernel_rfl) ?_
  refine hK3 _ _ ?_
  clear hK3
  refine Vk.seq fun K4 hK4 => ?_
  refine Vk.seq fun K5 hK5 => ?_
  refine Vk.region ?_
  refine Vk.pures 1 [(16, .pointer (some ⟨b_2, 0, none⟩))] hs (by kernel_rfl) fun a hs => ?_
  refine Vk.step (Vk.value (some 17) (.int .i64 x0.kind) hs (by kernel_rfl) (op := (.load 3 (.tmp 16))) (by kernel_rfl) (fun o ho => run_load1 (b := b_2) (off := 0) (c := C.int .i64 x0.kind) ho (by kernel_rfl) (by kernel_rfl) (Cell.own 0 rfl (by kernel_rfl)) _ hs.own) fun a hs => ?_)
  replace hs := hs.pick [1, 2, 3, 4, 5, 11, 17] (L' := [(1, .int .u64 x1), (2, .int .u64 x2), (3, .int .u64 x3), (4, .int .u64 x4), (5, .pointer (some ⟨b_2, 0, none⟩)), (11, .int .i64 (IntKind.i64.wrap (Int.tmod x0.c 64))), (17, .int .i64 x0.kind)]) (by kernel_rfl)
  refine Vk.done (by kernel_rfl) ?_
  refine hK5 _ _ ?_
  clear hK5
  refine wp_block ?_
  refine Vk.seq fun K6 hK6 => ?_
  refine Vk.region ?_
  refine Vk.pures 2 [(18, .bool (x0.kind == 1)), (19, .bool (x0.kind == 1))] hs (by kernel_rfl) fun a hs => ?_
  replace hs := hs.pick [1, 2, 3, 4, 5, 11, 17, 18] (L' := [(1, .int .u64 x1), (2, .int .u64 x2), (3, .int .u64 x3), (4, .int .u64 x4), (5, .pointer (some ⟨b_2, 0, none⟩)), (11, .int .i64 (IntKind.i64.wrap (Int.tmod x0.c 64))), (17, .int .i64 x0.kind), (18, .bool (x0.kind == 1))]) (by kernel_rfl)
  refine Vk.done (by kernel_rfl) ?_
  refine hK6 _ _ ?_
  clear hK6
  refine Vk.condS (b := x0.kind == 1) hs (by kernel_rfl) (by kernel_rfl) (fun hb => ?_) (fun hb => ?_)
  · replace hm := bif_t hm hb
    refine Vk.seq fun K7 hK7 => ?_
    refine Vk.region ?_
    refine Vk.pures 2 [(10, .int .u64 x4), (20, .int .u64 x4)] hs (by kernel_rfl) fun a hs => ?_
    replace hs := hs.pick [10] (L' := [(10, .int .u64 x4)]) (by kernel_rfl)
    refine Vk.done (by kernel_rfl) ?_
    refine hK7 _ _ ?_
    clear hK7
    refine wp_ret ?_
    exact Vk.ret1 (P := Try.prog) (fn := Try.f22) (R := visorref17_Eval.R κ S x0 x1 x2 x3 x4 r) (.int .u64 x4) hs rfl (by kernel_rfl) (by obtain rfl := Option.some.inj hm; exact ⟨rfl, (Own.to hs.own [] 1 (by kernel_rfl) (by kernel_rfl))⟩)
  · replace hm := bif_f hm hb
    refine Vk.seq fun K8 hK8 => ?_
    refine Vk.region ?_
    refine Vk.pures 2 [(21, .bool (x0.kind == 2)), (22, .bool (x0.kind == 2))] hs (by kernel_rfl) fun a hs => ?_
    replace hs := hs.pick [1, 2, 3, 4, 5, 11, 17, 21] (L' := [(1, .int .u64 x1), (2, .int .u64 x2), (3, .int .u64 x3), (4, .int .u64 x4), (5, .pointer (some ⟨b_2, 0, none⟩)), (11, .int .i64 (IntKind.i64.wrap (Int.tmod x0.c 64))), (17, .int .i64 x0.kind), (21, .bool (x0.kind == 2))]) (by kernel_rfl)
    refine Vk.done (by kernel_rfl) ?_
    refine hK8 _ _ ?_
    clear hK8
    refine Vk.condS (b := x0.kind == 2) hs (by kernel_rfl) (by kernel_rfl) (fun hb => ?_) (fun hb => ?_)
    · replace hm := bif_t hm hb
      refine Vk.seq fun K9 hK9 => ?_
      refine Vk.region ?_
      refine Vk.pures 6 [(10, .int .u64 (bxor .u64 (bxor .u64 x4 x1) x2)), (27, .int .u64 (bxor .u64 (bxor .u64 x4 x1) x2)), (26, .int .u64 x2), (25, .int .u64 (bxor .u64 x4 x1)), (24, .int .u64 x1), (23, .int .u64 x4)] hs (by kernel_rfl) fun a hs => ?_
      replace hs := hs.pick [10] (L' := [(10, .int .u64 (bxor .u64 (bxor .u64 x4 x1) x2))]) (by kernel_rfl)
      refine Vk.done (by kernel_rfl) ?_
      refine hK9 _ _ ?_
      clear hK9
      refine wp_ret ?_
      exact Vk.ret1 (P := Try.prog) (fn := Try.f22) (R := visorref17_Eval.R κ S x0 x1 x2 x3 x4 r) (.int .u64 (bxor .u64 (bxor .u64 x4 x1) x2)) hs rfl (by kernel_rfl) (by obtain rfl := Option.some.inj hm; exact ⟨rfl, (Own.to hs.own [] 1 (by kernel_rfl) (by kernel_rfl))⟩)
    · replace hm := bif_f hm hb
      refine Vk.seq fun K10 hK10 => ?_
      have hj10 : ∀ (p_12 : Bool), visorref17_Eval.j1 k x0 x1 x2 x3 p_12 = some r → ∀ (a : Act) (w : World), St 84 a w κ [(1, .int .u64 x1), (2, .int .u64 x2), (3, .int .u64 x3), (5, .pointer (some ⟨b_2, 0, none⟩)), (11, .int .i64 (IntKind.i64.wrap (Int.tmod x0.c 64))), (17, .int .i64 x0.kind), (28, .bool p_12)] (pt b_2 (blk (Tapi_Op.cells x0) 32) :: S) → K10 a w := by
        intro p_12 hm a w hs
        unfold visorref17_Eval.j1 at hm
        refine hK10 _ _ ?_
        refine Vk.condS (b := p_12) hs (by kernel_rfl) (by kernel_rfl) (fun hb => ?_) (fun hb => ?_)
        · replace hm := bif_t hm hb
          refine Vk.seq fun K13 hK13 => ?_
          refine Vk.region ?_
          refine Vk.pures 1 [(31, .pointer (some ⟨b_2, 5, none⟩))] hs (by kernel_rfl) fun a hs => ?_
          refine Vk.step (Vk.value (some 32) (.int .u64 x0.c) hs (by kernel_rfl) (op := (.load 23 (.tmp 31))) (by kernel_rfl) (fun o ho => run_load1 (b := b_2) (off := 5) (c := C.int .u64 x0.c) ho (by kernel_rfl) (by kernel_rfl) (Cell.own 0 rfl (by kernel_rfl)) _ hs.own) fun a hs => ?_)
          refine Vk.pures 1 [(10, .int .u64 x0.c)] hs (by kernel_rfl) fun a hs => ?_
          replace hs := hs.pick [10] (L' := [(10, .int .u64 x0.c)]) (by kernel_rfl)
          refine Vk.done (by kernel_rfl) ?_
          refine hK13 _ _ ?_
          clear hK13
          refine wp_ret ?_
          exact Vk.ret1 (P := Try.prog) (fn := Try.f22) (R := visorref17_Eval.R κ S x0 x1 x2 x3 x4 r) (.int .u64 x0.c) hs rfl (by kernel_rfl) (by obtain rfl := Option.some.inj hm; exact ⟨rfl, (Own.to hs.own [] 1 (by kernel_rfl) (by kernel_rfl))⟩)
        · replace hm := bif_f hm hb
          refine Vk.seq fun K14 hK14 => ?_
          refine Vk.region ?_
          refine Vk.pures 2 [(33, .bool (x0.kind == 5)), (34, .bool (x0.kind == 5))] hs (by kernel_rfl) fun a hs => ?_
          replace hs := hs.pick [1, 2, 3, 5, 11, 17, 33] (L' := [(1, .int .u64 x1), (2, .int .u64 x2), (3, .int .u64 x3), (5, .pointer (some ⟨b_2, 0, none⟩)), (11, .int .i64 (IntKind.i64.wrap (Int.tmod x0.c 64))), (17, .int .i64 x0.kind), (33, .bool (x0.kind == 5))]) (by kernel_rfl)
          refine Vk.done (by kernel_rfl) ?_
          refine hK14 _ _ ?_
          clear hK14
          refine Vk.condS (b := x0.kind == 5) hs (by kernel_rfl) (by kernel_rfl) (fun hb => ?_) (fun hb => ?_)
          · replace hm := bif_t hm hb
            refine Vk.seq fun K15 hK15 => ?_
            refine Vk.region ?_
            refine Vk.pures 4 [(10, .int .u64 (bxor .u64 x1 x2)), (37, .int .u64 (bxor .u64 x1 x2)), (36, .int .u64 x2), (35, .int .u64 x1)] hs (by kernel_rfl) fun a hs => ?_
            replace hs := hs.pick [10] (L' := [(10, .int .u64 (bxor .u64 x1 x2))]) (by kernel_rfl)
            refine Vk.done (by kernel_rfl) ?_
            refine hK15 _ _ ?_
            clear hK15
            refine wp_ret ?_
            exact Vk.ret1 (P := Try.prog) (fn := Try.f22) (R := visorref17_Eval.R κ S x0 x1 x2 x3 x4 r) (.int .u64 (bxor .u64 x1 x2)) hs rfl (by kernel_rfl) (by obtain rfl := Option.some.inj hm; exact ⟨rfl, (Own.to hs.own [] 1 (by kernel_rfl) (by kernel_rfl))⟩)
          · replace hm := bif_f hm hb
            refine Vk.seq fun K16 hK16 => ?_
            refine Vk.region ?_
            refine Vk.pures 2 [(38, .bool (x0.kind == 6)), (39, .bool (x0.kind == 6))] hs (by kernel_rfl) fun a hs => ?_
            replace hs := hs.pick [1, 2, 3, 5, 11, 17, 38] (L' := [(1, .int .u64 x1), (2, .int .u64 x2), (3, .int .u64 x3), (5, .pointer (some ⟨b_2, 0, none⟩)), (11, .int .i64 (IntKind.i64.wrap (Int.tmod x0.c 64))), (17, .int .i64 x0.kind), (38, .bool (x0.kind == 6))]) (by kernel_rfl)
            refine Vk.done (by kernel_rfl) ?_
            refine hK16 _ _ ?_
            clear hK16
            refine Vk.condS (b := x0.kind == 6) hs (by kernel_rfl) (by kernel_rfl) (fun hb => ?_) (fun hb => ?_)
            · replace hm := bif_t hm hb
              refine Vk.seq fun K17 hK17 => ?_
              refine Vk.region ?_
              refine Vk.pures 3 [(10, .int .u64 (IntKind.u64.wrap (18446744073709551615 - x1))), (41, .int .u64 (IntKind.u64.wrap (18446744073709551615 - x1))), (40, .int .u64 x1)] hs (by kernel_rfl) fun a hs => ?_
              replace hs := hs.pick [10] (L' := [(10, .int .u64 (IntKind.u64.wrap (18446744073709551615 - x1)))]) (by kernel_rfl)
              refine Vk.done (by kernel_rfl) ?_
              refine hK17 _ _ ?_
              clear hK17
              refine wp_ret ?_
              exact Vk.ret1 (P := Try.prog) (fn := Try.f22) (R := visorref17_Eval.R κ S x0 x1 x2 x3 x4 r) (.int .u64 (IntKind.u64.wrap (18446744073709551615 - x1))) hs rfl (by kernel_rfl) (by obtain rfl := Option.some.inj hm; exact ⟨rfl, (Own.to hs.own [] 1 (by kernel_rfl) (by kernel_rfl))⟩)
            · replace hm := bif_f hm hb
              refine Vk.seq fun K18 hK18 => ?_
              refine Vk.region ?_
              refine Vk.pures 2 [(42, .bool (x0.kind == 7)), (43, .bool (x0.kind == 7))] hs (by kernel_rfl) fun a hs => ?_
              replace hs := hs.pick [1, 2, 3, 5, 11, 17, 42] (L' := [(1, .int .u64 x1), (2, .int .u64 x2), (3, .int .u64 x3), (5, .pointer (some ⟨b_2, 0, none⟩)), (11, .int .i64 (IntKind.i64.wrap (Int.tmod x0.c 64))), (17, .int .i64 x0.kind), (42, .bool (x0.kind == 7))]) (by kernel_rfl)
              refine Vk.done (by kernel_rfl) ?_
              refine hK18 _ _ ?_
              clear hK18
              refine Vk.condS (b := x0.kind == 7) hs (by kernel_rfl) (by kernel_rfl) (fun hb => ?_) (fun hb => ?_)
              · replace hm := bif_t hm hb
                refine Vk.seq fun K19 hK19 => ?_
                refine Vk.region ?_
                refine Vk.pures 4 [(10, .int .u64 (band .u64 x1 x2)), (46, .int .u64 (band .u64 x1 x2)), (45, .int .u64 x2), (44, .int .u64 x1)] hs (by kernel_rfl) fun a hs => ?_
                replace hs := hs.pick [10] (L' := [(10, .int .u64 (band .u64 x1 x2))]) (by kernel_rfl)
                refine Vk.done (by kernel_rfl) ?_
                refine hK19 _ _ ?_
                clear hK19
                refine wp_ret ?_
                exact Vk.ret1 (P := Try.prog) (fn := Try.f22) (R := visorref17_Eval.R κ S x0 x1 x2 x3 x4 r) (.int .u64 (band .u64 x1 x2)) hs rfl (by kernel_rfl) (by obtain rfl := Option.some.inj hm; exact ⟨rfl, (Own.to hs.own [] 1 (by kernel_rfl) (by kernel_rfl))⟩)
              · replace hm := bif_f hm hb
                refine Vk.seq fun K20 hK20 => ?_
                refine Vk.region ?_
                refine Vk.pures 2 [(47, .bool (x0.kind == 8)), (48, .bool (x0.kind == 8))] hs (by kernel_rfl) fun a hs => ?_
                replace hs := hs.pick [1, 2, 3, 5, 11, 17, 47] (L' := [(1, .int .u64 x1), (2, .int .u64 x2), (3, .int .u64 x3), (5, .pointer (some ⟨b_2, 0, none⟩)), (11, .int .i64 (IntKind.i64.wrap (Int.tmod x0.c 64))), (17, .int .i64 x0.kind), (47, .bool (x0.kind == 8))]) (by kernel_rfl)
                refine Vk.done (by kernel_rfl) ?_
                refine hK20 _ _ ?_
                clear hK20
                refine Vk.condS (b := x0.kind == 8) hs (by kernel_rfl) (by kernel_rfl) (fun hb => ?_) (fun hb => ?_)
                · replace hm := bif_t hm hb
                  refine Vk.seq fun K21 hK21 => ?_
                  refine Vk.region ?_
                  refine Vk.pures 2 [(50, .pointer (some ⟨b_2, 5, none⟩)), (49, .int .u64 x1)] hs (by kernel_rfl) fun a hs => ?_
                  refine Vk.step (Vk.value (some 51) (.int .u64 x0.c) hs (by kernel_rfl) (op := (.load 23 (.tmp 50))) (by kernel_rfl) (fun o ho => run_load1 (b := b_2) (off := 5) (c := C.int .u64 x0.c) ho (by kernel_rfl) (by kernel_rfl) (Cell.own 0 rfl (by kernel_rfl)) _ hs.own) fun a hs => ?_)
                  refine Vk.pures 2 [(10, .int .u64 (band .u64 x1 x0.c)), (52, .int .u64 (band .u64 x1 x0.c))] hs (by kernel_rfl) fun a hs => ?_
                  replace hs := hs.pick [10] (L' := [(10, .int .u64 (band .u64 x1 x0.c))]) (by kernel_rfl)
                  refine Vk.done (by kernel_rfl) ?_
                  refine hK21 _ _ ?_
                  clear hK21
                  refine wp_ret ?_
                  exact Vk.ret1 (P := Try.prog) (fn := Try.f22) (R := visorref17_Eval.R κ S x0 x1 x2 x3 x4 r) (.int .u64 (band .u64 x1 x0.c)) hs rfl (by kernel_rfl) (by obtain rfl := Option.some.inj hm; exact ⟨rfl, (Own.to hs.own [] 1 (by kernel_rfl) (by kernel_rfl))⟩)
                · replace hm := bif_f hm hb
                  refine Vk.seq fun K22 hK22 => ?_
                  refine Vk.region ?_
                  refine Vk.pures 2 [(53, .bool (x0.kind == 9)), (54, .bool (x0.kind == 9))] hs (by kernel_rfl) fun a hs => ?_
                  replace hs := hs.pick [1, 2, 3, 11, 17, 53] (L' := [(1, .int .u64 x1), (2, .int .u64 x2), (3, .int .u64 x3), (11, .int .i64 (IntKind.i64.wrap (Int.tmod x0.c 64))), (17, .int .i64 x0.kind), (53, .bool (x0.kind == 9))]) (by kernel_rfl)
                  refine Vk.done (by kernel_rfl) ?_
                  refine hK22 _ _ ?_
                  clear hK22
                  refine Vk.condS (b := x0.kind == 9) hs (by kernel_rfl) (by kernel_rfl) (fun hb => ?_) (fun hb => ?_)
                  · replace hm := bif_t hm hb
                    refine Vk.seq fun K23 hK23 => ?_
                    refine Vk.region ?_
                    refine Vk.pures 3 [(57, .int .i64 (IntKind.i64.wrap (64 - (IntKind.i64.wrap (Int.tmod x0.c 64))))), (56, .int .i64 (IntKind.i64.wrap (Int.tmod x0.c 64))), (55, .int .u64 x1)] hs (by kernel_rfl) fun a hs => ?_
                    obtain ⟨v_26, h_25, hm⟩ := bind_t hm
                    refine Vk.step (Vk.call (some 58) 74 #[.int .i64 (IntKind.i64.wrap (64 - (IntKind.i64.wrap (Int.tmod x0.c 64))))] hs (by kernel_rfl) (by kernel_rfl) (by kernel_rfl) ?_)
                    refine (visorref01_Low.ok k (IntKind.i64.wrap (64 - (IntKind.i64.wrap (Int.tmod x0.c 64)))) v_26 h_25 κ w (pt b_2 (blk (Tapi_Op.cells x0) 32) :: S) hs.own).mono ?_
                    rintro _ w ⟨rfl, how⟩
                    refine ⟨_, _, _, rfl, how, fun a hs => ?_⟩
                    refine Vk.pures 2 [(60, .int .i64 (IntKind.i64.wrap (Int.tmod x0.c 64))), (59, .int .u64 (band .u64 x1 v_26))] hs (by kernel_rfl) fun a hs => ?_
                    obtain ⟨v_29, h_28, hm⟩ := bind_t hm
                    refine Vk.step (Vk.call (some 61) 73 #[.int .u64 (band .u64 x1 v_26), .int .i64 (IntKind.i64.wrap (Int.tmod x0.c 64))] hs (by kernel_rfl) (by kernel_rfl) (by kernel_rfl) ?_)
                    refine (visorref01_Rot.ok k (band .u64 x1 v_26) (IntKind.i64.wrap (Int.tmod x0.c 64)) v_29 h_28 κ w (pt b_2 (blk (Tapi_Op.cells x0) 32) :: S) hs.own).mono ?_
                    rintro _ w ⟨rfl, how⟩
                    refine ⟨_, _, _, rfl, how, fun a hs => ?_⟩
                    refine Vk.pures 1 [(10, .int .u64 v_29)] hs (by kernel_rfl) fun a hs => ?_
                    replace hs := hs.pick [10] (L' := [(10, .int .u64 v_29)]) (by kernel_rfl)
                    refine Vk.done (by kernel_rfl) ?_
                    refine hK23 _ _ ?_
                    clear hK23
                    refine wp_ret ?_
                    exact Vk.ret1 (P := Try.prog) (fn := Try.f22) (R := visorref17_Eval.R κ S x0 x1 x2 x3 x4 r) (.int .u64 v_29) hs rfl (by kernel_rfl) (by obtain rfl := Option.some.inj hm; exact ⟨rfl, (Own.to hs.own [] 1 (by kernel_rfl) (by kernel_rfl))⟩)
                  · replace hm := bif_f hm hb
                    refine Vk.seq fun K30 hK30 => ?_
                    refine Vk.region ?_
                    refine Vk.pures 2 [(62, .bool (x0.kind == 10)), (63, .bool (x0.kind == 10))] hs (by kernel_rfl) fun a hs => ?_
                    replace hs := hs.pick [1, 2, 3, 11, 17, 62] (L' := [(1, .int .u64 x1), (2, .int .u64 x2), (3, .int .u64 x3), (11, .int .i64 (IntKind.i64.wrap (Int.tmod x0.c 64))), (17, .int .i64 x0.kind), (62, .bool (x0.kind == 10))]) (by kernel_rfl)
                    refine Vk.done (by kernel_rfl) ?_
                    refine hK30 _ _ ?_
                    clear hK30
                    refine Vk.condS (b := x0.kind == 10) hs (by kernel_rfl) (by kernel_rfl) (fun hb => ?_) (fun hb => ?_)
                    · replace hm := bif_t hm hb
                      refine Vk.seq fun K31 hK31 => ?_
                      refine Vk.region ?_
                      refine Vk.pures 3 [(66, .int .i64 (IntKind.i64.wrap (64 - (IntKind.i64.wrap (Int.tmod x0.c 64))))), (65, .int .i64 (IntKind.i64.wrap (Int.tmod x0.c 64))), (64, .int .u64 x1)] hs (by kernel_rfl) fun a hs => ?_
                      obtain ⟨v_34, h_33, hm⟩ := bind_t hm
                      refine Vk.step (Vk.call (some 67) 73 #[.int .u64 x1, .int .i64 (IntKind.i64.wrap (64 - (IntKind.i64.wrap (Int.tmod x0.c 64))))] hs (by kernel_rfl) (by kernel_rfl) (by kernel_rfl) ?_)
                      refine (visorref01_Rot.ok k x1 (IntKind.i64.wrap (64 - (IntKind.i64.wrap (Int.tmod x0.c 64)))) v_34 h_33 κ w (pt b_2 (blk (Tapi_Op.cells x0) 32) :: S) hs.own).mono ?_
                      rintro _ w ⟨rfl, how⟩
                      refine ⟨_, _, _, rfl, how, fun a hs => ?_⟩
                      refine Vk.pures 2 [(69, .int .i64 (IntKind.i64.wrap (64 - (IntKind.i64.wrap (Int.tmod x0.c 64))))), (68, .int .i64 (IntKind.i64.wrap (Int.tmod x0.c 64)))] hs (by kernel_rfl) fun a hs => ?_
                      obtain ⟨v_37, h_36, hm⟩ := bind_t hm
                      refine Vk.step (Vk.call (some 70) 74 #[.int .i64 (IntKind.i64.wrap (64 - (IntKind.i64.wrap (Int.tmod x0.c 64))))] hs (by kernel_rfl) (by kernel_rfl) (by kernel_rfl) ?_)
                      refine (visorref01_Low.ok k (IntKind.i64.wrap (64 - (IntKind.i64.wrap (Int.tmod x0.c 64)))) v_37 h_36 κ w (pt b_2 (blk (Tapi_Op.cells x0) 32) :: S) hs.own).mono ?_
                      rintro _ w ⟨rfl, how⟩
                      refine ⟨_, _, _, rfl, how, fun a hs => ?_⟩
                      refine Vk.pures 2 [(10, .int .u64 (band .u64 v_34 v_37)), (71, .int .u64 (band .u64 v_34 v_37))] hs (by kernel_rfl) fun a hs => ?_
                      replace hs := hs.pick [10] (L' := [(10, .int .u64 (band .u64 v_34 v_37))]) (by kernel_rfl)
                      refine Vk.done (by kernel_rfl) ?_
                      refine hK31 _ _ ?_
                      clear hK31
                      refine wp_ret ?_
                      exact Vk.ret1 (P := Try.prog) (fn := Try.f22) (R := visorref17_Eval.R κ S x0 x1 x2 x3 x4 r) (.int .u64 (band .u64 v_34 v_37)) hs rfl (by kernel_rfl) (by obtain rfl := Option.some.inj hm; exact ⟨rfl, (Own.to hs.own [] 1 (by kernel_rfl) (by kernel_rfl))⟩)
                    · replace hm := bif_f hm hb
                      refine Vk.seq fun K38 hK38 => ?_
                      refine Vk.region ?_
                      refine Vk.pures 2 [(72, .bool (x0.kind == 11)), (73, .bool (x0.kind == 11))] hs (by kernel_rfl) fun a hs => ?_
                      replace hs := hs.pick [1, 2, 3, 11, 17, 72] (L' := [(1, .int .u64 x1), (2, .int .u64 x2), (3, .int .u64 x3), (11, .int .i64 (IntKind.i64.wrap (Int.tmod x0.c 64))), (17, .int .i64 x0.kind), (72, .bool (x0.kind == 11))]) (by kernel_rfl)
                      refine Vk.done (by kernel_rfl) ?_
                      refine hK38 _ _ ?_
                      clear hK38
                      refine Vk.condS (b := x0.kind == 11) hs (by kernel_rfl) (by kernel_rfl) (fun hb => ?_) (fun hb => ?_)
                      · replace hm := bif_t hm hb
                        refine Vk.seq fun K39 hK39 => ?_
                        refine Vk.region ?_
                        refine Vk.pures 2 [(75, .int .i64 (IntKind.i64.wrap (Int.tmod x0.c 64))), (74, .int .u64 x1)] hs (by kernel_rfl) fun a hs => ?_
                        obtain ⟨v_42, h_41, hm⟩ := bind_t hm
                        refine Vk.step (Vk.call (some 76) 73 #[.int .u64 x1, .int .i64 (IntKind.i64.wrap (Int.tmod x0.c 64))] hs (by kernel_rfl) (by kernel_rfl) (by kernel_rfl) ?_)
                        refine (visorref01_Rot.ok k x1 (IntKind.i64.wrap (Int.tmod x0.c 64)) v_42 h_41 κ w (pt b_2 (blk (Tapi_Op.cells x0) 32) :: S) hs.own).mono ?_
                        rintro _ w ⟨rfl, how⟩
                        refine ⟨_, _, _, rfl, how, fun a hs => ?_⟩
                        refine Vk.pures 1 [(10, .int .u64 v_42)] hs (by kernel_rfl) fun a hs => ?_
                        replace hs := hs.pick [10] (L' := [(10, .int .u64 v_42)]) (by kernel_rfl)
                        refine Vk.done (by kernel_rfl) ?_
                        refine hK39 _ _ ?_
                        clear hK39
                        refine wp_ret ?_
                        exact Vk.ret1 (P := Try.prog) (fn := Try.f22) (R := visorref17_Eval.R κ S x0 x1 x2 x3 x4 r) (.int .u64 v_42) hs rfl (by kernel_rfl) (by obtain rfl := Option.some.inj hm; exact ⟨rfl, (Own.to hs.own [] 1 (by kernel_rfl) (by kernel_rfl))⟩)
                      · replace hm := bif_f hm hb
                        refine Vk.seq fun K43 hK43 => ?_
                        refine Vk.region ?_
                        refine Vk.pures 2 [(77, .bool (x0.kind == 12)), (78, .bool (x0.kind == 12))] hs (by kernel_rfl) fun a hs => ?_
                        replace hs := hs.pick [1, 2, 3, 77] (L' := [(1, .int .u64 x1), (2, .int .u64 x2), (3, .int .u64 x3), (77, .bool (x0.kind == 12))]) (by kernel_rfl)
                        refine Vk.done (by kernel_rfl) ?_
                        refine hK43 _ _ ?_
                        clear hK43
                        refine Vk.condS (b := x0.kind == 12) hs (by kernel_rfl) (by kernel_rfl) (fun hb => ?_) (fun hb => ?_)
                        · replace hm := bif_t hm hb
                          refine Vk.seq fun K44 hK44 => ?_
                          refine Vk.region ?_
                          refine Vk.pures 6 [(10, .int .u64 (bxor .u64 (bxor .u64 x1 x2) x3)), (83, .int .u64 (bxor .u64 (bxor .u64 x1 x2) x3)), (82, .int .u64 x3), (81, .int .u64 (bxor .u64 x1 x2)), (80, .int .u64 x2), (79, .int .u64 x1)] hs (by kernel_rfl) fun a hs => ?_
                          replace hs := hs.pick [10] (L' := [(10, .int .u64 (bxor .u64 (bxor .u64 x1 x2) x3))]) (by kernel_rfl)
                          refine Vk.done (by kernel_rfl) ?_
                          refine hK44 _ _ ?_
                          clear hK44
                          refine wp_ret ?_
                          exact Vk.ret1 (P := Try.prog) (fn := Try.f22) (R := visorref17_Eval.R κ S x0 x1 x2 x3 x4 r) (.int .u64 (bxor .u64 (bxor .u64 x1 x2) x3)) hs rfl (by kernel_rfl) (by obtain rfl := Option.some.inj hm; exact ⟨rfl, (Own.to hs.own [] 1 (by kernel_rfl) (by kernel_rfl))⟩)
                        · replace hm := bif_f hm hb
                          refine wp_skip ?_
                          refine hK4 _ _ ?_
                          clear hK4
                          refine Vk.seq fun K45 hK45 => ?_
                          refine Vk.region ?_
                          refine Vk.pures 1 [(10, .int .u64 0)] hs (by kernel_rfl) fun a hs => ?_
                          replace hs := hs.pick [10] (L' := [(10, .int .u64 0)]) (by kernel_rfl)
                          refine Vk.done (by kernel_rfl) ?_
                          refine hK45 _ _ ?_
                          clear hK45
                          refine wp_ret ?_
                          exact Vk.ret1 (P := Try.prog) (fn := Try.f22) (R := visorref17_Eval.R κ S x0 x1 x2 x3 x4 r) (.int .u64 0) hs rfl (by kernel_rfl) (by obtain rfl := Option.some.inj hm; exact ⟨rfl, (Own.to hs.own [] 1 (by kernel_rfl) (by kernel_rfl))⟩)
      refine Vk.seq fun K11 hK11 => ?_
      refine Vk.region ?_
      refine Vk.pures 2 [(28, .bool (x0.kind == 3)), (29, .bool (x0.kind == 3))] hs (by kernel_rfl) fun a hs => ?_
      replace hs := hs.pick [1, 2, 3, 5, 11, 17, 28] (L' := [(1, .int .u64 x1), (2, .int .u64 x2), (3, .int .u64 x3), (5, .pointer (some ⟨b_2, 0, none⟩)), (11, .int .i64 (IntKind.i64.wrap (Int.tmod x0.c 64))), (17, .int .i64 x0.kind), (28, .bool (x0.kind == 3))]) (by kernel_rfl)
      refine Vk.done (by kernel_rfl) ?_
      refine hK11 _ _ ?_
      clear hK11
      refine Vk.condS (b := x0.kind == 3) hs (by kernel_rfl) (by kernel_rfl) (fun hb => ?_) (fun hb => ?_)
      · replace hm := bif_t hm hb
        refine wp_skip ?_
        exact hj10 (x0.kind == 3) hm _ _ (hs.go [1, 2, 3, 5, 11, 17, 28] [0] 1 (by kernel_rfl) (by kernel_rfl) (by kernel_rfl))
      · replace hm := bif_f hm hb
        refine Vk.region ?_
        refine Vk.pures 2 [(28, .bool (x0.kind == 4)), (30, .bool (x0.kind == 4))] hs (by kernel_rfl) fun a hs => ?_
        replace hs := hs.pick [1, 2, 3, 5, 11, 17, 28] (L' := [(1, .int .u64 x1), (2, .int .u64 x2), (3, .int .u64 x3), (5, .pointer (some ⟨b_2, 0, none⟩)), (11, .int .i64 (IntKind.i64.wrap (Int.tmod x0.c 64))), (17, .int .i64 x0.kind), (28, .bool (x0.kind == 4))]) (by kernel_rfl)
        refine Vk.done (by kernel_rfl) ?_
        exact hj10 (x0.kind == 4) hm _ _ (hs.go [1, 2, 3, 5, 11, 17, 28] [0] 1 (by kernel_rfl) (by kernel_rfl) (by kernel_rfl))


def visorlaw19_holds.j3_3 (k : Nat) (rec18 : Int → Int → Option (Sum (Bool) (Unit))) (q_20 : Int) (e_28 : Tapi_Op) (p_45 : Int) (p_57 : Int) (e_63 : Int) (p_81 : Int) (p_96 : Int) (p_111 : Int) : Option (Sum (Bool) (Unit)) := (visorref17_Eval.m k e_28 p_81 p_96 p_111 p_57).bind fun v_114 => (bif e_63 != v_114 then some (.inl false) else rec18 p_45 (IntKind.i64.wrap (q_20 + 1)))
def visorlaw19_holds.j3_2 (k : Nat) (rec18 : Int → Int → Option (Sum (Bool) (Unit))) (x1 : List Int) (q_20 : Int) (e_28 : Tapi_Op) (p_45 : Int) (p_57 : Int) (e_63 : Int) (p_81 : Int) (p_96 : Int) : Option (Sum (Bool) (Unit)) := (bif (decide (e_28.d < 0)) || (decide (e_28.d ≥ ((x1.length : Nat) : Int))) then visorlaw19_holds.j3_3 k (rec18) q_20 e_28 p_45 p_57 e_63 p_81 p_96 0 else (if 0 ≤ e_28.d then (x1[e_28.d.toNat]?).bind fun e_107 => visorlaw19_holds.j3_3 k (rec18) q_20 e_28 p_45 p_57 e_63 p_81 p_96 e_107 else none))
def visorlaw19_holds.j3 (k : Nat) (rec18 : Int → Int → Option (Sum (Bool) (Unit))) (x1 : List Int) (q_20 : Int) (e_28 : Tapi_Op) (p_45 : Int) (p_57 : Int) (e_63 : Int) (p_81 : Int) : Option (Sum (Bool) (Unit)) := (bif (decide (e_28.b < 0)) || (decide (e_28.b ≥ ((x1.length : Nat) : Int))) then visorlaw19_holds.j3_2 k (rec18) x1 q_20 e_28 p_45 p_57 e_63 p_81 0 else (if 0 ≤ e_28.b then (x1[e_28.b.toNat]?).bind fun e_92 => visorlaw19_holds.j3_2 k (rec18) x1 q_20 e_28 p_45 p_57 e_63 p_81 e_92 else none))
def visorlaw19_holds.j2 (k : Nat) (rec18 : Int → Int → Option (Sum (Bool) (Unit))) (x1 : List Int) (q_20 : Int) (e_28 : Tapi_Op) (p_45 : Int) (p_57 : Int) : Option (Sum (Bool) (Unit)) := (if 0 ≤ q_20 then (x1[q_20.toNat]?).bind fun e_63 => (bif (decide (e_28.a < 0)) || (decide (e_28.a ≥ ((x1.length : Nat) : Int))) then visorlaw19_holds.j3 k (rec18) x1 q_20 e_28 p_45 p_57 e_63 0 else (if 0 ≤ e_28.a then (x1[e_28.a.toNat]?).bind fun e_77 => visorlaw19_holds.j3 k (rec18) x1 q_20 e_28 p_45 p_57 e_63 e_77 else none)) else none)
def visorlaw19_holds.j1 (k : Nat) (rec18 : Int → Int → Option (Sum (Bool) (Unit))) (x1 : List Int) (x3 : List Int) (q_20 : Int) (e_28 : Tapi_Op) (p_45 : Int) (p_46 : Int) : Option (Sum (Bool) (Unit)) := (bif (e_28.kind == 2) && (decide (e_28.c < (IntKind.u64.wrap ((x3.length : Nat) : Int)))) then (if 0 ≤ e_28.c then (x3[e_28.c.toNat]?).bind fun e_53 => visorlaw19_holds.j2 k (rec18) x1 q_20 e_28 p_45 e_53 else none) else visorlaw19_holds.j2 k (rec18) x1 q_20 e_28 p_45 p_46)
def visorlaw19_holds.l1 (x0 : Tapi_Trace) (x1 : List Int) (x2 : List Int) (x3 : List Int) : Nat → Int → Int → Option (Sum (Bool) (Unit))
  | 0, _, _ => none
  | k + 1, q_19, q_20 => (bif decide (q_20 < ((x0.ops.length : Nat) : Int)) then (if 0 ≤ q_20 then (x0.ops[q_20.toNat]?).bind fun e_28 => (bif (e_28.kind == 1) && (decide (q_19 < ((x2.length : Nat) : Int))) then (if 0 ≤ q_19 then (x2[q_19.toNat]?).bind fun e_41 => visorlaw19_holds.j1 k (visorlaw19_holds.l1 x0 x1 x2 x3 k) x1 x3 q_20 e_28 (IntKind.i64.wrap (q_19 + 1)) e_41 else none) else visorlaw19_holds.j1 k (visorlaw19_holds.l1 x0 x1 x2 x3 k) x1 x3 q_20 e_28 q_19 0) else none) else some (.inr ()))
abbrev visorlaw19_holds.R (κ : Ctx) (S : List HP) (x0 : Tapi_Trace) (x1 : List Int) (x2 : List Int) (x3 : List Int) (A_x0ops : Option Addr) (c_x0ops : Nat) (A_x0blocks : Option Addr) (c_x0blocks : Nat) (A_x1 : Option Addr) (c_x1 : Nat) (A_x2 : Option Addr) (c_x2 : Nat) (A_x3 : Option Addr) (c_x3 : Nat) (r : Bool) : Ending → World → Prop := fun e w' => e = .returned (.bool r) ∧ Own κ w' (S)
def visorlaw19_holds.m (k : Nat) (x0 : Tapi_Trace) (x1 : List Int) (x2 : List Int) (x3 : List Int) : Option Bool := (visorref18_Right.m k x0).bind fun v_7 => (bif (!v_7) || (((x1.length : Nat) : Int) != ((x0.ops.length : Nat) : Int)) then some false else (visorlaw19_holds.l1 x0 x1 x2 x3 k 0 0).bind fun x => match x with | .inl v => some v | .inr () => some true)

set_option maxRecDepth 100000 in
set_option maxHeartbeats 4000000 in
theorem visorlaw19_holds.ok (k : Nat) (x0 : Tapi_Trace) (x1 : List Int) (x2 : List Int) (x3 : List Int) (r : Bool) (hm : visorlaw19_holds.m k x0 x1 x2 x3 = some r) (κ : Ctx) (w : World) (S : List HP) (A_x0ops : Option Addr) (c_x0ops : Nat) (hx_x0ops : Sl κ S A_x0ops c_x0ops 6 Tapi_Op.cells x0.ops) (A_x0blocks : Option Addr) (c_x0blocks : Nat) (hx_x0blocks : Sl κ S A_x0blocks c_x0blocks 3 Tapi_Span.cells x0.blocks) (A_x1 : Option Addr) (c_x1 : Nat) (hx_x1 : Sl κ S A_x1 c_x1 1 (eI .u64) x1) (A_x2 : Option Addr) (c_x2 : Nat) (hx_x2 : Sl κ S A_x2 c_x2 1 (eI .u64) x2) (A_x3 : Option Addr) (c_x3 : Nat) (hx_x3 : Sl κ S A_x3 c_x3 1 (eI .u64) x3) (ho : Own κ w (S)) :
    Calls Try.prog 64 #[.agg (vals [C.int .i64 x0.n, C.slc A_x0ops x0.ops.length c_x0ops, C.slc A_x0blocks x0.blocks.length c_x0blocks]), .slice A_x1 x1.length c_x1, .slice A_x2 x2.length c_x2, .slice A_x3 x3.length c_x3] w (visorlaw19_holds.R κ S x0 x1 x2 x3 A_x0ops c_x0ops A_x0blocks c_x0blocks A_x1 c_x1 A_x2 c_x2 A_x3 c_x3 r) := by
  unfold visorlaw19_holds.m at hm
  refine Vk.enter [(0, .agg (vals [C.int .i64 x0.n, C.slc A_x0ops x0.ops.length c_x0ops, C.slc A_x0blocks x0.blocks.length c_x0blocks])), (1, .slice A_x1 x1.length c_x1), (2, .slice A_x2 x2.length c_x2), (3, .slice A_x3 x3.length c_x3)] Try.func64 rfl Try.ntmps64 (by kernel_rfl) (Nat.le_of_ble_eq_true (by kernel_rfl)) ho fun a hs => ?_
  refine Vk.seq fun K1 hK1 => ?_
  refine Vk.region ?_
  refine Vk.step (Vk.box (x := (.tmp 0)) 4 72 [C.int .i64 x0.n, C.slc A_x0ops x0.ops.length c_x0ops, C.slc A_x0blocks x0.blocks.length c_x0blocks] hs (by kernel_rfl) (by kernel_rfl) (by kernel_rfl) fun b_2 w a hs => ?_)
  refine Vk.pures 1 [(8, .bool false)] hs (by kernel_rfl) fun a hs => ?_
  replace hs := hs.pick [1, 2, 3, 4] (L' := [(1, .slice A_x1 x1.length c_x1), (2, .slice A_x2 x2.length c_x2), (3, .slice A_x3 x3.length c_x3), (4, .pointer (some ⟨b_2, 0, none⟩))]) (by kernel_rfl)
  refine Vk.done (by kernel_rfl) ?_
  refine hK1 _ _ ?_
  clear hK1
  refine Vk.seq fun K3 hK3 => ?_
  refine Vk.seq fun K4 hK4 => ?_
  refine Vk.region ?_
  refine Vk.step (Vk.value (some 14) (.agg (vals [C.int .i64 x0.n, C.slc A_x0ops x0.ops.length c_x0ops, C.slc A_x0blocks x0.blocks.length c_x0blocks])) hs (by kernel_rfl) (op := (.load 72 (.tmp 4))) (by kernel_rfl) (fun o ho => run_loadN (cs := [C.int .i64 x0.n, C.slc A_x0ops x0.ops.length c_x0ops, C.slc A_x0blocks x0.blocks.length c_x0blocks]) ho (by kernel_rfl) (by kernel_rfl) rfl (CellsAt.all 0 rfl) _ hs.own) fun a hs => ?_)
  obtain ⟨v_7, h_6, hm⟩ := bind_t hm
  refine Vk.step (Vk.call (some 15) 46 #[.agg (vals [C.int .i64 x0.n, C.slc A_x0ops x0.ops.length c_x0ops, C.slc A_x0blocks x0.blocks.length c_x0blocks])] hs (by kernel_rfl) (by kernel_rfl) (by kernel_rfl) ?_)
  refine (visorref18_Right.ok k x0 v_7 h_6 κ w (pt b_2 (blk (Tapi_Trace.obj x0 A_x0ops c_x0ops A_x0blocks c_x0blocks) 72) :: S) A_x0ops c_x0ops hx_x0ops.less A_x0blocks c_x0blocks hx_x0blocks.less hs.own).mono ?_
  rintro _ w ⟨rfl, how⟩
  refine ⟨_, _, _, rfl, how, fun a hs => ?_⟩
  refine Vk.pures 2 [(17, .bool (!v_7)), (16, .bool (!v_7))] hs (by kernel_rfl) fun a hs => ?_
  suffices hj_8 : ∀ a, St 87 a w κ [(1, .slice A_x1 x1.length c_x1), (2, .slice A_x2 x2.length c_x2), (3, .slice A_x3 x3.length c_x3), (4, .pointer (some ⟨b_2, 0, none⟩)), (14, .agg (vals [C.int .i64 x0.n, C.slc A_x0ops x0.ops.length c_x0ops, C.slc A_x0blocks x0.blocks.length c_x0blocks])), (15, .bool v_7), (16, .bool (!v_7)), (17, .bool (!v_7)), (24, .bool ((!v_7) || (((x1.length : Nat) : Int) != ((x0.ops.length : Nat) : Int))))] (pt b_2 (blk (Tapi_Trace.obj x0 A_x0ops c_x0ops A_x0blocks c_x0blocks) 72) :: S) → wpFrom Try.prog _ _ 11 a w by
    rcases Bool.eq_false_or_eq_true (!v_7) with hb | hb
    · replace hs := hs.known (t := 17) hb (by kernel_rfl)
      refine Vk.pures 7 [(24, .bool true), (23, undef), (22, undef), (21, undef), (20, undef), (19, undef), (18, undef)] hs (by kernel_rfl) fun a hs => ?_
      have hq := hs.pick [1, 2, 3, 4, 14, 15, 16, 17, 24] (L' := [(1, .slice A_x1 x1.length c_x1), (2, .slice A_x2 x2.length c_x2), (3, .slice A_x3 x3.length c_x3), (4, .pointer (some ⟨b_2, 0, none⟩)), (14, .agg (vals [C.int .i64 x0.n, C.slc A_x0ops x0.ops.length c_x0ops, C.slc A_x0blocks x0.blocks.length c_x0blocks])), (15, .bool v_7), (16, .bool (!v_7)), (17, .bool true), (24, .bool true)]) (by kernel_rfl)
      exact hj_8 _ (hq.conv (by first | (rw [hb] <;> rfl) | rfl))
    · replace hs := hs.known (t := 17) hb (by kernel_rfl)
      refine Vk.pures 3 [(20, .pointer (some ⟨b_2, 1, none⟩)), (19, .int .i64 ((x1.length : Nat) : Int)), (18, .slice A_x1 x1.length c_x1)] hs (by kernel_rfl) fun a hs => ?_
      refine Vk.step (Vk.value (some 21) (.slice A_x0ops x0.ops.length c_x0ops) hs (by kernel_rfl) (op := (.load 69 (.tmp 20))) (by kernel_rfl) (fun o ho => run_load1 (b := b_2) (off := 1) (c := C.slc A_x0ops x0.ops.length c_x0ops) ho (by kernel_rfl) (by kernel_rfl) (Cell.own 0 rfl (by kernel_rfl)) _ hs.own) fun a hs => ?_)
      refine Vk.pures 3 [(24, .bool (((x1.length : Nat) : Int) != ((x0.ops.length : Nat) : Int))), (23, .bool (((x1.length : Nat) : Int) != ((x0.ops.length : Nat) : Int))), (22, .int .i64 ((x0.ops.length : Nat) : Int))] hs (by kernel_rfl) fun a hs => ?_
      have hq := hs.pick [1, 2, 3, 4, 14, 15, 16, 17, 24] (L' := [(1, .slice A_x1 x1.length c_x1), (2, .slice A_x2 x2.length c_x2), (3, .slice A_x3 x3.length c_x3), (4, .pointer (some ⟨b_2, 0, none⟩)), (14, .agg (vals [C.int .i64 x0.n, C.slc A_x0ops x0.ops.length c_x0ops, C.slc A_x0blocks x0.blocks.length c_x0blocks])), (15, .bool v_7), (16, .bool (!v_7)), (17, .bool false), (24, .bool (((x1.length : Nat) : Int) != ((x0.ops.length : Nat) : Int)))]) (by kernel_rfl)
      exact hj_8 _ (hq.conv (by first | (rw [hb] <;> rfl) | rfl))
  intro a hs
  replace hs := hs.pick [1, 2, 3, 4, 24] (L' := [(1, .slice A_x1 x1.length c_x1), (2, .slice A_x2 x2.length c_x2), (3, .slice A_x3 x3.length c_x3), (4, .pointer (some ⟨b_2, 0, none⟩)), (24, .bool ((!v_7) || (((x1.length : Nat) : Int) != ((x0.ops.length : Nat) : Int))))]) (by kernel_rfl)
  refine Vk.done (by kernel_rfl) ?_
  refine hK4 _ _ ?_
  clear hK4
  refine Vk.condS (b := (!v_7) || (((x1.length : Nat) : Int) != ((x0.ops.length : Nat) : Int))) hs (by kernel_rfl) (by kernel_rfl) (fun hb => ?_) (fun hb => ?_)
  · replace hm := bif_t hm hb
    refine Vk.seq fun K9 hK9 => ?_
    refine Vk.region ?_
    refine Vk.pures 1 [(8, .bool false)] hs (by kernel_rfl) fun a hs => ?_
    replace hs := hs.pick [8] (L' := [(8, .bool false)]) (by kernel_rfl)
    refine Vk.done (by kernel_rfl) ?_
    refine hK9 _ _ ?_
    clear hK9
    refine wp_ret ?_
    exact Vk.ret1 (P := Try.prog) (fn := Try.f64) (R := visorlaw19_holds.R κ S x0 x1 x2 x3 A_x0ops c_x0ops A_x0blocks c_x0blocks A_x1 c_x1 A_x2 c_x2 A_x3 c_x3 r) (.bool false) hs rfl (by kernel_rfl) (by obtain rfl := Option.some.inj hm; exact ⟨rfl, (Own.to hs.own [] 1 (by kernel_rfl) (by kernel_rfl))⟩)
  · replace hm := bif_f hm hb
    refine wp_skip ?_
    refine hK3 _ _ ?_
    clear hK3
    refine Vk.seq fun K10 hK10 => ?_
    refine Vk.region ?_
    refine Vk.pures 2 [(26, .agg (vals [C.int .i64 0, C.int .i64 0, C.int .i64 0, C.int .i64 0, C.int .i64 0, C.int .i64 0, C.int .i64 0, C.int .i64 0, C.slc none 0 0, C.slc none 0 0, C.slc A_x1 x1.length c_x1, C.slc none 0 0, C.int .i64 0, C.int .i64 0, C.bool false])), (25, .slice A_x1 x1.length c_x1)] hs (by kernel_rfl) fun a hs => ?_
    refine Vk.step (Vk.alloc 9 123 [C.int .i64 0, C.int .i64 0, C.int .i64 0, C.int .i64 0, C.int .i64 0, C.int .i64 0, C.int .i64 0, C.int .i64 0, C.slc none 0 0, C.slc none 0 0, C.slc none 0 0, C.slc none 0 0, C.int .i64 0, C.int .i64 0, C.bool false] hs (by kernel_rfl) (by kernel_rfl) (by kernel_rfl) fun b_11 w a hs => ?_)
    refine Vk.step (Vk.storeA (b := b_11) (ty := 123) (x := (.tmp 9)) (y := (.tmp 26)) (sz := 15) [C.int .i64 0, C.int .i64 0, C.int .i64 0, C.int .i64 0, C.int .i64 0, C.int .i64 0, C.int .i64 0, C.int .i64 0, C.slc none 0 0, C.slc none 0 0, C.slc A_x1 x1.length c_x1, C.slc none 0 0, C.int .i64 0, C.int .i64 0, C.bool false] 0 hs (by kernel_rfl) (by kernel_rfl) (by kernel_rfl) (by kernel_rfl) (by kernel_rfl) rfl (by kernel_rfl) rfl (Eq.trans (b := 15) rfl (Eq.symm rfl)) fun a w hs => ?_)
    replace hs := hs.pick [1, 2, 3, 4, 9] (L' := [(1, .slice A_x1 x1.length c_x1), (2, .slice A_x2 x2.length c_x2), (3, .slice A_x3 x3.length c_x3), (4, .pointer (some ⟨b_2, 0, none⟩)), (9, .pointer (some ⟨b_11, 0, none⟩))]) (by kernel_rfl)
    refine Vk.done (by kernel_rfl) ?_
    refine hK10 _ _ ?_
    clear hK10
    refine Vk.seq fun K12 hK12 => ?_
    refine Vk.region ?_
    refine Vk.pures 1 [(10, .int .i64 0)] hs (by kernel_rfl) fun a hs => ?_
    replace hs := hs.pick [1, 2, 3, 4, 9, 10] (L' := [(1, .slice A_x1 x1.length c_x1), (2, .slice A_x2 x2.length c_x2), (3, .slice A_x3 x3.length c_x3), (4, .pointer (some ⟨b_2, 0, none⟩)), (9, .pointer (some ⟨b_11, 0, none⟩)), (10, .int .i64 0)]) (by kernel_rfl)
    refine Vk.done (by kernel_rfl) ?_
    refine hK12 _ _ ?_
    clear hK12
    refine Vk.seq fun K13 hK13 => ?_
    refine Vk.seq fun K14 hK14 => ?_
    refine Vk.region ?_
    refine Vk.pures 1 [(11, .int .i64 0)] hs (by kernel_rfl) fun a hs => ?_
    replace hs := hs.pick [1, 2, 3, 4, 9, 10, 11] (L' := [(1, .slice A_x1 x1.length c_x1), (2, .slice A_x2 x2.length c_x2), (3, .slice A_x3 x3.length c_x3), (4, .pointer (some ⟨b_2, 0, none⟩)), (9, .pointer (some ⟨b_11, 0, none⟩)), (10, .int .i64 0), (11, .int .i64 0)]) (by kernel_rfl)
    refine Vk.done (by kernel_rfl) ?_
    refine hK14 _ _ ?_
    clear hK14
    refine wp_block ?_
    replace hs := hs.addRow none 32 6 Tapi_Op.cells
    replace hs := hs.addRow none 144 3 Tapi_Span.cells
    replace hs := hs.addRd (A := none) (cap := 0) (sz := 1) (enc := (eI .u64)) (xs := ([] : List Int)) Sl.nil
    obtain ⟨r18, hl18, hm⟩ := bind_t hm
    have hx18 : r18 = Sum.inr () → ∀ (a : Act) (w : World), St 87 a w κ [] (S) → K13 a w := by
      intro he a w hs
      subst r18
      refine hK13 _ _ ?_
      clear hK13
      refine Vk.seq fun K118 hK118 => ?_
      refine Vk.region ?_
      refine Vk.pures 1 [(8, .bool true)] hs (by kernel_rfl) fun a hs => ?_
      replace hs := hs.pick [8] (L' := [(8, .bool true)]) (by kernel_rfl)
      refine Vk.done (by kernel_rfl) ?_
      refine hK118 _ _ ?_
      clear hK118
      refine wp_ret ?_
      exact Vk.ret1 (P := Try.prog) (fn := Try.f64) (R := visorlaw19_holds.R κ S x0 x1 x2 x3 A_x0ops c_x0ops A_x0blocks c_x0blocks A_x1 c_x1 A_x2 c_x2 A_x3 c_x3 r) (.bool true) hs rfl (by kernel_rfl) (by obtain rfl := Option.some.inj hm; exact ⟨rfl, (Own.to hs.own [] 0 (by kernel_rfl) (by kernel_rfl))⟩)
    have hret18 : ∀ v, r18 = Sum.inl v → v = r := by intro v he; subst r18; exact Option.some.inj hm
    refine Vk.loopBy (fun k (s : Int × Int) a w => visorlaw19_holds.l1 x0 x1 x2 x3 k s.1 s.2 = some r18 ∧ St 87 a w κ [(1, .slice A_x1 x1.length c_x1), (2, .slice A_x2 x2.length c_x2), (3, .slice A_x3 x3.length c_x3), (4, .pointer (some ⟨b_2, 0, none⟩)), (9, .pointer (some ⟨b_11, 0, none⟩)), (10, .int .i64 s.1), (11, .int .i64 s.2)] (pt b_2 (blk (Tapi_Trace.obj x0 A_x0ops c_x0ops A_x0blocks c_x0blocks) 72) :: pt b_11 (blk ([C.int .i64 0, C.int .i64 0, C.int .i64 0, C.int .i64 0, C.int .i64 0, C.int .i64 0, C.int .i64 0, C.int .i64 0, C.slc none (([] : List Tapi_Op).length) 0, C.slc none (([] : List Tapi_Span).length) 0, C.slc A_x1 x1.length c_x1, C.slc none (([] : List Int).length) 0, C.int .i64 0, C.int .i64 0, C.bool false]) 123) :: rowp none 0 32 6 Tapi_Op.cells ([] : List Tapi_Op) :: rowp none 0 144 3 Tapi_Span.cells ([] : List Tapi_Span) :: rdp κ none 0 1 (eI .u64) ([] : List Int) :: S)) k (0, 0) ⟨hl18, hs.go [1, 2, 3, 4, 9, 10, 11] [4, 3, 2, 1, 0] 5 (by kernel_rfl) (by kernel_rfl) (by kernel_rfl)⟩ (fun s a w h => by obtain ⟨h1, _⟩ := h; simp [visorlaw19_holds.l1] at h1) (fun k KL18 ih s a w h => ?_)
    obtain ⟨q_19, q_20⟩ := s
    obtain ⟨hm, hs⟩ := h
    try dsimp only at hm hs
    rw [visorlaw19_holds.l1] at hm
    refine Vk.seq fun K21 hK21 => ?_
    refine Vk.seq fun K22 hK22 => ?_
    refine Vk.region ?_
    refine Vk.pures 2 [(28, .pointer (some ⟨b_2, 1, none⟩)), (27, .int .i64 q_20)] hs (by kernel_rfl) fun a hs => ?_
    refine Vk.step (Vk.value (some 29) (.slice A_x0ops x0.ops.length c_x0ops) hs (by kernel_rfl) (op := (.load 69 (.tmp 28))) (by kernel_rfl) (fun o ho => run_load1 (b := b_2) (off := 1) (c := C.slc A_x0ops x0.ops.length c_x0ops) ho (by kernel_rfl) (by kernel_rfl) (Cell.own 0 rfl (by kernel_rfl)) _ hs.own) fun a hs => ?_)
    refine Vk.pures 2 [(31, .bool (decide (q_20 < ((x0.ops.length : Nat) : Int)))), (30, .int .i64 ((x0.ops.length : Nat) : Int))] hs (by kernel_rfl) fun a hs => ?_
    replace hs := hs.pick [1, 2, 3, 4, 9, 10, 11, 31] (L' := [(1, .slice A_x1 x1.length c_x1), (2, .slice A_x2 x2.length c_x2), (3, .slice A_x3 x3.length c_x3), (4, .pointer (some ⟨b_2, 0, none⟩)), (9, .pointer (some ⟨b_11, 0, none⟩)), (10, .int .i64 q_19), (11, .int .i64 q_20), (31, .bool (decide (q_20 < ((x0.ops.length : Nat) : Int))))]) (by kernel_rfl)
    refine Vk.done (by kernel_rfl) ?_
    refine hK22 _ _ ?_
    clear hK22
    refine Vk.condS (b := decide (q_20 < ((x0.ops.length : Nat) : Int))) hs (by kernel_rfl) (by kernel_rfl) (fun hb => ?_) (fun hb => ?_)
    · replace hm := bif_t hm hb
      refine wp_skip ?_
      refine hK21 _ _ ?_
      clear hK21
      refine Vk.seq fun K23 hK23 => ?_
      refine wp_block ?_
      refine Vk.seq fun K24 hK24 => ?_
      refine Vk.region ?_
      refine Vk.pures 1 [(34, .pointer (some ⟨b_2, 1, none⟩))] hs (by kernel_rfl) fun a hs => ?_
      refine Vk.step (Vk.value (some 35) (.slice A_x0ops x0.ops.length c_x0ops) hs (by kernel_rfl) (op := (.load 69 (.tmp 34))) (by kernel_rfl) (fun o ho => run_load1 (b := b_2) (off := 1) (c := C.slc A_x0ops x0.ops.length c_x0ops) ho (by kernel_rfl) (by kernel_rfl) (Cell.own 0 rfl (by kernel_rfl)) _ hs.own) fun a hs => ?_)
      refine Vk.pures 1 [(36, .int .i64 q_20)] hs (by kernel_rfl) fun a hs => ?_
      obtain ⟨h_25, hm⟩ := ite_t hm
      obtain ⟨e_28, h_26, hm⟩ := bind_t hm
      obtain ⟨b_29, o_30, hA_31, h_27⟩ := Sl.elem hx_x0ops h_26
      refine Vk.step (Vk.value (some 37) (.pointer (some ⟨b_29, o_30 + q_20.toNat * 6, none⟩)) hs (by kernel_rfl) (op := (.indexAddr 69 (.tmp 35) (.tmp 36))) (by kernel_rfl) (fun o ho => run_idxSlc (k := .i64) ho (cap := c_x0ops) (len := x0.ops.length) ((congrArg (fun A => Value.slice A (x0.ops.length) (c_x0ops)) hA_31) ▸ (by kernel_rfl)) (by kernel_rfl) (by kernel_rfl) (idx_ok h_25 h_26) _) fun a hs => ?_)
      refine Vk.step (Vk.value (some 38) (.agg (vals [C.int .i64 e_28.kind, C.int .i64 e_28.dom, C.int .i64 e_28.a, C.int .i64 e_28.b, C.int .i64 e_28.d, C.int .u64 e_28.c])) hs (by kernel_rfl) (op := (.load 32 (.tmp 37))) (by kernel_rfl) (fun o ho => run_loadN (cs := [C.int .i64 e_28.kind, C.int .i64 e_28.dom, C.int .i64 e_28.a, C.int .i64 e_28.b, C.int .i64 e_28.d, C.int .u64 e_28.c]) ho (by kernel_rfl) (by kernel_rfl) rfl h_27 _ hs.own.drop.drop.drop.drop.drop) fun a hs => ?_)
      refine Vk.step (Vk.alloc 12 32 [C.int .i64 0, C.int .i64 0, C.int .i64 0, C.int .i64 0, C.int .i64 0, C.int .u64 0] hs (by kernel_rfl) (by kernel_rfl) (by kernel_rfl) fun b_32 w a hs => ?_)
      refine Vk.step (Vk.storeA (b := b_32) (ty := 32) (x := (.tmp 12)) (y := (.tmp 38)) (sz := 6) [C.int .i64 e_28.kind, C.int .i64 e_28.dom, C.int .i64 e_28.a, C.int .i64 e_28.b, C.int .i64 e_28.d, C.int .u64 e_28.c] 0 hs (by kernel_rfl) (by kernel_rfl) (by kernel_rfl) (by kernel_rfl) (by kernel_rfl) rfl (by kernel_rfl) rfl (Eq.trans (b := 6) rfl (Eq.symm rfl)) fun a w hs => ?_)
      replace hs := hs.pick [1, 2, 3, 4, 9, 10, 11, 12] (L' := [(1, .slice A_x1 x1.length c_x1), (2, .slice A_x2 x2.length c_x2), (3, .slice A_x3 x3.length c_x3), (4, .pointer (some ⟨b_2, 0, none⟩)), (9, .pointer (some ⟨b_11, 0, none⟩)), (10, .int .i64 q_19), (11, .int .i64 q_20), (12, .pointer (some ⟨b_32, 0, none⟩))]) (by kernel_rfl)
      refine Vk.done (by kernel_rfl) ?_
      refine hK24 _ _ ?_
      clear hK24
      refine Vk.seq fun K33 hK33 => ?_
      refine Vk.region ?_
      refine Vk.pures 1 [(13, .int .u64 0)] hs (by kernel_rfl) fun a hs => ?_
      replace hs := hs.pick [1, 2, 3, 4, 9, 10, 11, 12, 13] (L' := [(1, .slice A_x1 x1.length c_x1), (2, .slice A_x2 x2.length c_x2), (3, .slice A_x3 x3.length c_x3), (4, .pointer (some ⟨b_2, 0, none⟩)), (9, .pointer (some ⟨b_11, 0, none⟩)), (10, .int .i64 q_19), (11, .int .i64 q_20), (12, .pointer (some ⟨b_32, 0, none⟩)), (13, .int .u64 0)]) (by kernel_rfl)
      refine Vk.done (by kernel_rfl) ?_
      refine hK33 _ _ ?_
      clear hK33
      refine Vk.seq fun K34 hK34 => ?_
      have hj34 : ∀ (p_45 : Int) (p_46 : Int), visorlaw19_holds.j1 k (visorlaw19_holds.l1 x0 x1 x2 x3 k) x1 x3 q_20 e_28 p_45 p_46 = some r18 → ∀ (a : Act) (w : World), St 87 a w κ [(1, .slice A_x1 x1.length c_x1), (2, .slice A_x2 x2.length c_x2), (3, .slice A_x3 x3.length c_x3), (4, .pointer (some ⟨b_2, 0, none⟩)), (9, .pointer (some ⟨b_11, 0, none⟩)), (10, .int .i64 p_45), (11, .int .i64 q_20), (12, .pointer (some ⟨b_32, 0, none⟩)), (13, .int .u64 p_46)] (pt b_2 (blk (Tapi_Trace.obj x0 A_x0ops c_x0ops A_x0blocks c_x0blocks) 72) :: pt b_11 (blk ([C.int .i64 0, C.int .i64 0, C.int .i64 0, C.int .i64 0, C.int .i64 0, C.int .i64 0, C.int .i64 0, C.int .i64 0, C.slc none (([] : List Tapi_Op).length) 0, C.slc none (([] : List Tapi_Span).length) 0, C.slc A_x1 x1.length c_x1, C.slc none (([] : List Int).length) 0, C.int .i64 0, C.int .i64 0, C.bool false]) 123) :: rowp none 0 32 6 Tapi_Op.cells ([] : List Tapi_Op) :: rowp none 0 144 3 Tapi_Span.cells ([] : List Tapi_Span) :: rdp κ none 0 1 (eI .u64) ([] : List Int) :: pt b_32 (blk (Tapi_Op.cells e_28) 32) :: S) → K34 a w := by
        intro p_45 p_46 hm a w hs
        unfold visorlaw19_holds.j1 at hm
        refine hK34 _ _ ?_
        refine Vk.seq fun K47 hK47 => ?_
        have hj47 : ∀ (p_57 : Int), visorlaw19_holds.j2 k (visorlaw19_holds.l1 x0 x1 x2 x3 k) x1 q_20 e_28 p_45 p_57 = some r18 → ∀ (a : Act) (w : World), St 87 a w κ [(1, .slice A_x1 x1.length c_x1), (2, .slice A_x2 x2.length c_x2), (3, .slice A_x3 x3.length c_x3), (4, .pointer (some ⟨b_2, 0, none⟩)), (9, .pointer (some ⟨b_11, 0, none⟩)), (10, .int .i64 p_45), (11, .int .i64 q_20), (12, .pointer (some ⟨b_32, 0, none⟩)), (13, .int .u64 p_57)] (pt b_2 (blk (Tapi_Trace.obj x0 A_x0ops c_x0ops A_x0blocks c_x0blocks) 72) :: pt b_11 (blk ([C.int .i64 0, C.int .i64 0, C.int .i64 0, C.int .i64 0, C.int .i64 0, C.int .i64 0, C.int .i64 0, C.int .i64 0, C.slc none (([] : List Tapi_Op).length) 0, C.slc none (([] : List Tapi_Span).length) 0, C.slc A_x1 x1.length c_x1, C.slc none (([] : List Int).length) 0, C.int .i64 0, C.int .i64 0, C.bool false]) 123) :: rowp none 0 32 6 Tapi_Op.cells ([] : List Tapi_Op) :: rowp none 0 144 3 Tapi_Span.cells ([] : List Tapi_Span) :: rdp κ none 0 1 (eI .u64) ([] : List Int) :: pt b_32 (blk (Tapi_Op.cells e_28) 32) :: S) → K47 a w := by
          intro p_57 hm a w hs
          unfold visorlaw19_holds.j2 at hm
          refine hK47 _ _ ?_
          refine Vk.seq fun K58 hK58 => ?_
          obtain ⟨C_59, hC_59⟩ : ∃ X0 : List HP, X0 = (pt b_2 (blk (Tapi_Trace.obj x0 A_x0ops c_x0ops A_x0blocks c_x0blocks) 72) :: pt b_11 (blk ([C.int .i64 0, C.int .i64 0, C.int .i64 0, C.int .i64 0, C.int .i64 0, C.int .i64 0, C.int .i64 0, C.int .i64 0, C.slc none (([] : List Tapi_Op).length) 0, C.slc none (([] : List Tapi_Span).length) 0, C.slc A_x1 x1.length c_x1, C.slc none (([] : List Int).length) 0, C.int .i64 0, C.int .i64 0, C.bool false]) 123) :: rowp none 0 32 6 Tapi_Op.cells ([] : List Tapi_Op) :: rowp none 0 144 3 Tapi_Span.cells ([] : List Tapi_Span) :: rdp κ none 0 1 (eI .u64) ([] : List Int) :: pt b_32 (blk (Tapi_Op.cells e_28) 32) :: S) := ⟨_, rfl⟩
          refine Vk.drawnT 17 κ C_59 hs (by kernel_rfl) fun w hs => ?_
          have hcz : Own κ w (pt b_2 (blk (Tapi_Trace.obj x0 A_x0ops c_x0ops A_x0blocks c_x0blocks) 72) :: pt b_11 (blk ([C.int .i64 0, C.int .i64 0, C.int .i64 0, C.int .i64 0, C.int .i64 0, C.int .i64 0, C.int .i64 0, C.int .i64 0, C.slc none (([] : List Tapi_Op).length) 0, C.slc none (([] : List Tapi_Span).length) 0, C.slc A_x1 x1.length c_x1, C.slc none (([] : List Int).length) 0, C.int .i64 0, C.int .i64 0, C.bool false]) 123) :: rowp none 0 32 6 Tapi_Op.cells ([] : List Tapi_Op) :: rowp none 0 144 3 Tapi_Span.cells ([] : List Tapi_Span) :: rdp κ none 0 1 (eI .u64) ([] : List Int) :: pt b_32 (blk (Tapi_Op.cells e_28) 32) :: S) := (Own.to hs.own [0, 1, 2, 3, 4, 5] 6 (by kernel_rfl) (by kernel_rfl))
          have hcl : Own κ w C_59 := by rw [hC_59]; exact hcz
          refine Vk.dPuresT [0, 1, 5, 8, 11, 14] [(84, .int .u64 p_57), (81, .pointer (some ⟨b_32, 4, none⟩)), (78, .pointer (some ⟨b_32, 3, none⟩)), (75, .pointer (some ⟨b_32, 2, none⟩)), (71, .int .i64 q_20), (70, .slice A_x1 x1.length c_x1)] hs (by kernel_rfl) (by repeat' (first | exact Vk.Calm.post | refine Vk.Calm.then ?_ | refine Vk.Calm.inBlock ?_)) hcl (by kernel_rfl) (by kernel_rfl) (fuel := 11) rfl fun a hs => ?_
          obtain ⟨h_60, hm⟩ := ite_t hm
          obtain ⟨e_63, h_61, hm⟩ := bind_t hm
          obtain ⟨b_64, o_65, hA_66, h_62⟩ := Sl.elem hx_x1 h_61
          refine Vk.dTakeT (i := 2) (some 72) (.pointer (some ⟨b_64, o_65 + q_20.toNat * 1, none⟩)) hs (by kernel_rfl) (by repeat' (first | exact Vk.Calm.post | refine Vk.Calm.then ?_ | refine Vk.Calm.inBlock ?_)) hcl (by kernel_rfl) (by kernel_rfl) (op := (.indexAddr 73 (.tmp 70) (.tmp 71))) (by kernel_rfl) (by kernel_rfl) (fun w hw o ho => by rw [hC_59] at hw; exact run_idxSlc (k := .i64) ho (cap := c_x1) (len := x1.length) ((congrArg (fun A => Value.slice A (x1.length) (c_x1)) hA_66) ▸ (by kernel_rfl)) (by kernel_rfl) (by kernel_rfl) (idx_ok h_60 h_61) _) fun a hs => ?_
          refine Vk.dTakeT (i := 3) (some 73) (.int .u64 e_63) hs (by kernel_rfl) (by repeat' (first | exact Vk.Calm.post | refine Vk.Calm.then ?_ | refine Vk.Calm.inBlock ?_)) hcl (by kernel_rfl) (by kernel_rfl) (op := (.load 23 (.tmp 72))) (by kernel_rfl) (by kernel_rfl) (fun w hw o ho => by rw [hC_59] at hw; exact run_load1 (c := C.int .u64 e_63) ho (by kernel_rfl) (by kernel_rfl) (fun w ho => h_62 w ho 0 _ rfl) _ hw.drop.drop.drop.drop.drop.drop) fun a hs => ?_
          refine Vk.dTakeT (i := 4) (some 74) (.agg (vals [C.int .i64 e_28.kind, C.int .i64 e_28.dom, C.int .i64 e_28.a, C.int .i64 e_28.b, C.int .i64 e_28.d, C.int .u64 e_28.c])) hs (by kernel_rfl) (by repeat' (first | exact Vk.Calm.post | refine Vk.Calm.then ?_ | refine Vk.Calm.inBlock ?_)) hcl (by kernel_rfl) (by kernel_rfl) (op := (.load 32 (.tmp 12))) (by kernel_rfl) (by kernel_rfl) (fun w hw o ho => by rw [hC_59] at hw; exact run_loadN (cs := [C.int .i64 e_28.kind, C.int .i64 e_28.dom, C.int .i64 e_28.a, C.int .i64 e_28.b, C.int .i64 e_28.d, C.int .u64 e_28.c]) ho (by kernel_rfl) (by kernel_rfl) rfl (CellsAt.all 5 rfl) _ hw) fun a hs => ?_
          refine Vk.dTakeT (i := 6) (some 76) (.int .i64 e_28.a) hs (by kernel_rfl) (by repeat' (first | exact Vk.Calm.post | refine Vk.Calm.then ?_ | refine Vk.Calm.inBlock ?_)) hcl (by kernel_rfl) (by kernel_rfl) (op := (.load 3 (.tmp 75))) (by kernel_rfl) (by kernel_rfl) (fun w hw o ho => by rw [hC_59] at hw; exact run_load1 (b := b_32) (off := 2) (c := C.int .i64 e_28.a) ho (by kernel_rfl) (by kernel_rfl) (Cell.own 5 rfl (by kernel_rfl)) _ hw) fun a hs => ?_
          refine Vk.dTakeT (i := 9) (some 79) (.int .i64 e_28.b) hs (by kernel_rfl) (by repeat' (first | exact Vk.Calm.post | refine Vk.Calm.then ?_ | refine Vk.Calm.inBlock ?_)) hcl (by kernel_rfl) (by kernel_rfl) (op := (.load 3 (.tmp 78))) (by kernel_rfl) (by kernel_rfl) (fun w hw o ho => by rw [hC_59] at hw; exact run_load1 (b := b_32) (off := 3) (c := C.int .i64 e_28.b) ho (by kernel_rfl) (by kernel_rfl) (Cell.own 5 rfl (by kernel_rfl)) _ hw) fun a hs => ?_
          refine Vk.dTakeT (i := 12) (some 82) (.int .i64 e_28.d) hs (by kernel_rfl) (by repeat' (first | exact Vk.Calm.post | refine Vk.Calm.then ?_ | refine Vk.Calm.inBlock ?_)) hcl (by kernel_rfl) (by kernel_rfl) (op := (.load 3 (.tmp 81))) (by kernel_rfl) (by kernel_rfl) (fun w hw o ho => by rw [hC_59] at hw; exact run_load1 (b := b_32) (off := 4) (c := C.int .i64 e_28.d) ho (by kernel_rfl) (by kernel_rfl) (Cell.own 5 rfl (by kernel_rfl)) _ hw) fun a hs => ?_
          refine Vk.dOnly (i := 7) (by kernel_rfl) (Vk.call (some 77) 97 #[.pointer (some ⟨b_11, 0, none⟩), .int .i64 e_28.a] hs (by kernel_rfl) (by kernel_rfl) (by kernel_rfl) ?_)
          refine Vk.enterI [(0, .pointer (some ⟨b_11, 0, none⟩)), (1, .int .i64 e_28.a)] Try.func97 rfl Try.ntmps97 (by kernel_rfl) (Nat.le_of_ble_eq_true (by kernel_rfl)) hs.own fun KR67 hKR67 hKP67 a hs => ?_
          have hj67 : ∀ (p_81 : Int), visorlaw19_holds.j3 k (visorlaw19_holds.l1 x0 x1 x2 x3 k) x1 q_20 e_28 p_45 p_57 e_63 p_81 = some r18 → ∀ (a : Act) (w : World), St 23 a w κ [(4, .int .u64 p_81)] (pt b_2 (blk (Tapi_Trace.obj x0 A_x0ops c_x0ops A_x0blocks c_x0blocks) 72) :: pt b_11 (blk ([C.int .i64 0, C.int .i64 0, C.int .i64 0, C.int .i64 0, C.int .i64 0, C.int .i64 0, C.int .i64 0, C.int .i64 0, C.slc none (([] : List Tapi_Op).length) 0, C.slc none (([] : List Tapi_Span).length) 0, C.slc A_x1 x1.length c_x1, C.slc none (([] : List Int).length) 0, C.int .i64 0, C.int .i64 0, C.bool false]) 123) :: rowp none 0 32 6 Tapi_Op.cells ([] : List Tapi_Op) :: rowp none 0 144 3 Tapi_Span.cells ([] : List Tapi_Span) :: rdp κ none 0 1 (eI .u64) ([] : List Int) :: pt b_32 (blk (Tapi_Op.cells e_28) 32) :: S) → KR67 a w := by
            intro p_81 hm a w hs
            unfold visorlaw19_holds.j3 at hm
            refine hKR67 _ _ ?_
            refine Vk.ret1 (P := Try.prog) (fn := Try.f97) (.int .u64 p_81) hs rfl (by kernel_rfl) ⟨_, _, _, rfl, hs.own, fun a hs => ?_⟩
            replace hcl : Own κ w C_59 := by rw [hC_59]; exact (Own.to hs.own [0, 1, 2, 3, 4, 5] 6 (by kernel_rfl) (by kernel_rfl))
            refine ⟨fun _ => hcl, ?_⟩
            refine Vk.dOnly (i := 10) (by kernel_rfl) (Vk.call (some 80) 97 #[.pointer (some ⟨b_11, 0, none⟩), .int .i64 e_28.b] hs (by kernel_rfl) (by kernel_rfl) (by kernel_rfl) ?_)
            refine Vk.enterI [(0, .pointer (some ⟨b_11, 0, none⟩)), (1, .int .i64 e_28.b)] Try.func97 rfl Try.ntmps97 (by kernel_rfl) (Nat.le_of_ble_eq_true (by kernel_rfl)) hs.own fun KR82 hKR82 hKP82 a hs => ?_
            have hj82 : ∀ (p_96 : Int), visorlaw19_holds.j3_2 k (visorlaw19_holds.l1 x0 x1 x2 x3 k) x1 q_20 e_28 p_45 p_57 e_63 p_81 p_96 = some r18 → ∀ (a : Act) (w : World), St 23 a w κ [(4, .int .u64 p_96)] (pt b_2 (blk (Tapi_Trace.obj x0 A_x0ops c_x0ops A_x0blocks c_x0blocks) 72) :: pt b_11 (blk ([C.int .i64 0, C.int .i64 0, C.int .i64 0, C.int .i64 0, C.int .i64 0, C.int .i64 0, C.int .i64 0, C.int .i64 0, C.slc none (([] : List Tapi_Op).length) 0, C.slc none (([] : List Tapi_Span).length) 0, C.slc A_x1 x1.length c_x1, C.slc none (([] : List Int).length) 0, C.int .i64 0, C.int .i64 0, C.bool false]) 123) :: rowp none 0 32 6 Tapi_Op.cells ([] : List Tapi_Op) :: rowp none 0 144 3 Tapi_Span.cells ([] : List Tapi_Span) :: rdp κ none 0 1 (eI .u64) ([] : List Int) :: pt b_32 (blk (Tapi_Op.cells e_28) 32) :: S) → KR82 a w := by
              intro p_96 hm a w hs
              unfold visorlaw19_holds.j3_2 at hm
              refine hKR82 _ _ ?_
              refine Vk.ret1 (P := Try.prog) (fn := Try.f97) (.int .u64 p_96) hs rfl (by kernel_rfl) ⟨_, _, _, rfl, hs.own, fun a hs => ?_⟩
              replace hcl : Own κ w C_59 := by rw [hC_59]; exact (Own.to hs.own [0, 1, 2, 3, 4, 5] 6 (by kernel_rfl) (by kernel_rfl))
              refine ⟨fun _ => hcl, ?_⟩
              refine Vk.dOnly (i := 13) (by kernel_rfl) (Vk.call (some 83) 97 #[.pointer (some ⟨b_11, 0, none⟩), .int .i64 e_28.d] hs (by kernel_rfl) (by kernel_rfl) (by kernel_rfl) ?_)
              refine Vk.enterI [(0, .pointer (some ⟨b_11, 0, none⟩)), (1, .int .i64 e_28.d)] Try.func97 rfl Try.ntmps97 (by kernel_rfl) (Nat.le_of_ble_eq_true (by kernel_rfl)) hs.own fun KR97 hKR97 hKP97 a hs => ?_
              have hj97 : ∀ (p_111 : Int), visorlaw19_holds.j3_3 k (visorlaw19_holds.l1 x0 x1 x2 x3 k) q_20 e_28 p_45 p_57 e_63 p_81 p_96 p_111 = some r18 → ∀ (a : Act) (w : World), St 23 a w κ [(4, .int .u64 p_111)] (pt b_2 (blk (Tapi_Trace.obj x0 A_x0ops c_x0ops A_x0blocks c_x0blocks) 72) :: pt b_11 (blk ([C.int .i64 0, C.int .i64 0, C.int .i64 0, C.int .i64 0, C.int .i64 0, C.int .i64 0, C.int .i64 0, C.int .i64 0, C.slc none (([] : List Tapi_Op).length) 0, C.slc none (([] : List Tapi_Span).length) 0, C.slc A_x1 x1.length c_x1, C.slc none (([] : List Int).length) 0, C.int .i64 0, C.int .i64 0, C.bool false]) 123) :: rowp none 0 32 6 Tapi_Op.cells ([] : List Tapi_Op) :: rowp none 0 144 3 Tapi_Span.cells ([] : List Tapi_Span) :: rdp κ none 0 1 (eI .u64) ([] : List Int) :: pt b_32 (blk (Tapi_Op.cells e_28) 32) :: S) → KR97 a w := by
                intro p_111 hm a w hs
                unfold visorlaw19_holds.j3_3 at hm
                refine hKR97 _ _ ?_
                refine Vk.ret1 (P := Try.prog) (fn := Try.f97) (.int .u64 p_111) hs rfl (by kernel_rfl) ⟨_, _, _, rfl, hs.own, fun a hs => ?_⟩
                replace hcl : Own κ w C_59 := by rw [hC_59]; exact (Own.to hs.own [0, 1, 2, 3, 4, 5] 6 (by kernel_rfl) (by kernel_rfl))
                refine ⟨fun _ => hcl, ?_⟩
                obtain ⟨v_114, h_113, hm⟩ := bind_t hm
                refine Vk.dOnly (i := 15) (by kernel_rfl) (Vk.call (some 85) 22 #[.agg (vals [C.int .i64 e_28.kind, C.int .i64 e_28.dom, C.int .i64 e_28.a, C.int .i64 e_28.b, C.int .i64 e_28.d, C.int .u64 e_28.c]), .int .u64 p_81, .int .u64 p_96, .int .u64 p_111, .int .u64 p_57] hs (by kernel_rfl) (by kernel_rfl) (by kernel_rfl) ?_)
                refine (visorref17_Eval.ok k e_28 p_81 p_96 p_111 p_57 v_114 h_113 κ w (pt b_2 (blk (Tapi_Trace.obj x0 A_x0ops c_x0ops A_x0blocks c_x0blocks) 72) :: pt b_11 (blk ([C.int .i64 0, C.int .i64 0, C.int .i64 0, C.int .i64 0, C.int .i64 0, C.int .i64 0, C.int .i64 0, C.int .i64 0, C.slc none (([] : List Tapi_Op).length) 0, C.slc none (([] : List Tapi_Span).length) 0, C.slc A_x1 x1.length c_x1, C.slc none (([] : List Int).length) 0, C.int .i64 0, C.int .i64 0, C.bool false]) 123) :: rowp none 0 32 6 Tapi_Op.cells ([] : List Tapi_Op) :: rowp none 0 144 3 Tapi_Span.cells ([] : List Tapi_Span) :: rdp κ none 0 1 (eI .u64) ([] : List Int) :: pt b_32 (blk (Tapi_Op.cells e_28) 32) :: S) hs.own).mono ?_
                rintro _ w ⟨rfl, how⟩
                refine ⟨_, _, _, rfl, how, fun a hs => ?_⟩
                replace hcl : Own κ w C_59 := by rw [hC_59]; exact (Own.to hs.own [0, 1, 2, 3, 4, 5] 6 (by kernel_rfl) (by kernel_rfl))
                refine ⟨fun _ => hcl, ?_⟩
                refine Vk.dPuresT [16] [(86, .bool (e_63 != v_114))] hs (by kernel_rfl) (by repeat' (first | exact Vk.Calm.post | refine Vk.Calm.then ?_ | refine Vk.Calm.inBlock ?_)) hcl (by kernel_rfl) (by kernel_rfl) (fuel := 0) rfl fun a hs => ?_
                replace hs := hs.pick [1, 2, 3, 4, 9, 10, 11, 86] (L' := [(1, .slice A_x1 x1.length c_x1), (2, .slice A_x2 x2.length c_x2), (3, .slice A_x3 x3.length c_x3), (4, .pointer (some ⟨b_2, 0, none⟩)), (9, .pointer (some ⟨b_11, 0, none⟩)), (10, .int .i64 p_45), (11, .int .i64 q_20), (86, .bool (e_63 != v_114))]) (by kernel_rfl)
                refine Vk.dDone (by kernel_rfl) ?_
                refine hK58 _ _ ?_
                clear hK58
                refine Vk.condS (b := e_63 != v_114) hs (by kernel_rfl) (by kernel_rfl) (fun hb => ?_) (fun hb => ?_)
                · replace hm := bif_t hm hb
                  refine Vk.seq fun K115 hK115 => ?_
                  refine Vk.region ?_
                  refine Vk.pures 1 [(8, .bool false)] hs (by kernel_rfl) fun a hs => ?_
                  replace hs := hs.pick [8] (L' := [(8, .bool false)]) (by kernel_rfl)
                  refine Vk.done (by kernel_rfl) ?_
                  refine hK115 _ _ ?_
                  clear hK115
                  refine wp_ret ?_
                  exact Vk.ret1 (P := Try.prog) (fn := Try.f64) (R := visorlaw19_holds.R κ S x0 x1 x2 x3 A_x0ops c_x0ops A_x0blocks c_x0blocks A_x1 c_x1 A_x2 c_x2 A_x3 c_x3 r) (.bool false) hs rfl (by kernel_rfl) (by obtain rfl := hret18 _ ((Option.some.inj hm).symm); exact ⟨rfl, (Own.to hs.own [] 6 (by kernel_rfl) (by kernel_rfl))⟩)
                · replace hm := bif_f hm hb
                  refine wp_skip ?_
                  refine hK23 _ _ ?_
                  clear hK23
                  refine Vk.region ?_
                  refine Vk.pures 3 [(11, .int .i64 (IntKind.i64.wrap (q_20 + 1))), (33, .int .i64 (IntKind.i64.wrap (q_20 + 1))), (32, .int .i64 q_20)] hs (by kernel_rfl) fun a hs => ?_
                  replace hs := hs.pick [1, 2, 3, 4, 9, 10, 11] (L' := [(1, .slice A_x1 x1.length c_x1), (2, .slice A_x2 x2.length c_x2), (3, .slice A_x3 x3.length c_x3), (4, .pointer (some ⟨b_2, 0, none⟩)), (9, .pointer (some ⟨b_11, 0, none⟩)), (10, .int .i64 p_45), (11, .int .i64 (IntKind.i64.wrap (q_20 + 1)))]) (by kernel_rfl)
                  refine Vk.done (by kernel_rfl) ?_
                  refine ih (p_45, (IntKind.i64.wrap (q_20 + 1))) _ _ ⟨hm, hs.go [1, 2, 3, 4, 9, 10, 11] [0, 1, 2, 3, 4] 6 (by kernel_rfl) (by kernel_rfl) (by kernel_rfl)⟩
              refine Vk.seq fun K98 hK98 => ?_
              refine Vk.region ?_
              refine Vk.pures 1 [(4, .int .u64 0)] hs (by kernel_rfl) fun a hs => ?_
              replace hs := hs.pick [0, 1] (L' := [(0, .pointer (some ⟨b_11, 0, none⟩)), (1, .int .i64 e_28.d)]) (by kernel_rfl)
              refine Vk.done (by kernel_rfl) ?_
              refine hK98 _ _ ?_
              clear hK98
              refine Vk.seq fun K99 hK99 => ?_
              refine Vk.seq fun K100 hK100 => ?_
              refine Vk.region ?_
              refine Vk.pures 3 [(7, .bool (decide (e_28.d < 0))), (6, .bool (decide (e_28.d < 0))), (5, .int .i64 e_28.d)] hs (by kernel_rfl) fun a hs => ?_
              suffices hj_101 : ∀ a, St 23 a w κ [(0, .pointer (some ⟨b_11, 0, none⟩)), (1, .int .i64 e_28.d), (5, .int .i64 e_28.d), (6, .bool (decide (e_28.d < 0))), (7, .bool (decide (e_28.d < 0))), (15, .bool ((decide (e_28.d < 0)) || (decide (e_28.d ≥ ((x1.length : Nat) : Int)))))] (pt b_2 (blk (Tapi_Trace.obj x0 A_x0ops c_x0ops A_x0blocks c_x0blocks) 72) :: pt b_11 (blk ([C.int .i64 0, C.int .i64 0, C.int .i64 0, C.int .i64 0, C.int .i64 0, C.int .i64 0, C.int .i64 0, C.int .i64 0, C.slc none (([] : List Tapi_Op).length) 0, C.slc none (([] : List Tapi_Span).length) 0, C.slc A_x1 x1.length c_x1, C.slc none (([] : List Int).length) 0, C.int .i64 0, C.int .i64 0, C.bool false]) 123) :: rowp none 0 32 6 Tapi_Op.cells ([] : List Tapi_Op) :: rowp none 0 144 3 Tapi_Span.cells ([] : List Tapi_Span) :: rdp κ none 0 1 (eI .u64) ([] : List Int) :: pt b_32 (blk (Tapi_Op.cells e_28) 32) :: S) → wpFrom Try.prog _ _ 11 a w by
                rcases Bool.eq_false_or_eq_true (decide (e_28.d < 0)) with hb | hb
                · replace hs := hs.known (t := 7) hb (by kernel_rfl)
                  refine Vk.pures 8 [(15, .bool true), (14, undef), (13, undef), (12, undef), (11, undef), (10, undef), (9, undef), (8, undef)] hs (by kernel_rfl) fun a hs => ?_
                  have hq := hs.pick [0, 1, 5, 6, 7, 15] (L' := [(0, .pointer (some ⟨b_11, 0, none⟩)), (1, .int .i64 e_28.d), (5, .int .i64 e_28.d), (6, .bool (decide (e_28.d < 0))), (7, .bool true), (15, .bool true)]) (by kernel_rfl)
                  exact hj_101 _ (hq.conv (by first | (rw [hb] <;> rfl) | rfl))
                · replace hs := hs.known (t := 7) hb (by kernel_rfl)
                  refine Vk.pures 4 [(11, .pointer (some ⟨b_11, 10, none⟩)), (10, .pointer (some ⟨b_11, 0, none⟩)), (9, .pointer (some ⟨b_11, 0, none⟩)), (8, .int .i64 e_28.d)] hs (by kernel_rfl) fun a hs => ?_
                  refine Vk.step (Vk.value (some 12) (.slice A_x1 x1.length c_x1) hs (by kernel_rfl) (op := (.load 73 (.tmp 11))) (by kernel_rfl) (fun o ho => run_load1 (b := b_11) (off := 10) (c := C.slc A_x1 x1.length c_x1) ho (by kernel_rfl) (by kernel_rfl) (Cell.own 1 rfl (by kernel_rfl)) _ hs.own) fun a hs => ?_)
                  refine Vk.pures 3 [(15, .bool (decide (e_28.d ≥ ((x1.length : Nat) : Int)))), (14, .bool (decide (e_28.d ≥ ((x1.length : Nat) : Int)))), (13, .int .i64 ((x1.length : Nat) : Int))] hs (by kernel_rfl) fun a hs => ?_
                  have hq := hs.pick [0, 1, 5, 6, 7, 15] (L' := [(0, .pointer (some ⟨b_11, 0, none⟩)), (1, .int .i64 e_28.d), (5, .int .i64 e_28.d), (6, .bool (decide (e_28.d < 0))), (7, .bool false), (15, .bool (decide (e_28.d ≥ ((x1.length : Nat) : Int))))]) (by kernel_rfl)
                  exact hj_101 _ (hq.conv (by first | (rw [hb] <;> rfl) | rfl))
              intro a hs
              replace hs := hs.pick [0, 1, 15] (L' := [(0, .pointer (some ⟨b_11, 0, none⟩)), (1, .int .i64 e_28.d), (15, .bool ((decide (e_28.d < 0)) || (decide (e_28.d ≥ ((x1.length : Nat) : Int)))))]) (by kernel_rfl)
              refine Vk.done (by kernel_rfl) ?_
              refine hK100 _ _ ?_
              clear hK100
              refine Vk.condS (b := (decide (e_28.d < 0)) || (decide (e_28.d ≥ ((x1.length : Nat) : Int)))) hs (by kernel_rfl) (by kernel_rfl) (fun hb => ?_) (fun hb => ?_)
              · replace hm := bif_t hm hb
                refine Vk.seq fun K102 hK102 => ?_
                refine Vk.region ?_
                refine Vk.pures 1 [(4, .int .u64 0)] hs (by kernel_rfl) fun a hs => ?_
                replace hs := hs.pick [4] (L' := [(4, .int .u64 0)]) (by kernel_rfl)
                refine Vk.done (by kernel_rfl) ?_
                refine hK102 _ _ ?_
                clear hK102
                refine wp_ret ?_
                refine hKP97 _ _ ?_
                exact hj97 0 hm _ _ (hs.go [4] [0, 1, 2, 3, 4, 5] 6 (by kernel_rfl) (by kernel_rfl) (by kernel_rfl))
              · replace hm := bif_f hm hb
                refine wp_skip ?_
                refine hK99 _ _ ?_
                clear hK99
                refine Vk.seq fun K103 hK103 => ?_
                refine Vk.region ?_
                refine Vk.pures 3 [(18, .pointer (some ⟨b_11, 10, none⟩)), (17, .pointer (some ⟨b_11, 0, none⟩)), (16, .pointer (some ⟨b_11, 0, none⟩))] hs (by kernel_rfl) fun a hs => ?_
                refine Vk.step (Vk.value (some 19) (.slice A_x1 x1.length c_x1) hs (by kernel_rfl) (op := (.load 73 (.tmp 18))) (by kernel_rfl) (fun o ho => run_load1 (b := b_11) (off := 10) (c := C.slc A_x1 x1.length c_x1) ho (by kernel_rfl) (by kernel_rfl) (Cell.own 1 rfl (by kernel_rfl)) _ hs.own) fun a hs => ?_)
                refine Vk.pures 1 [(20, .int .i64 e_28.d)] hs (by kernel_rfl) fun a hs => ?_
                obtain ⟨h_104, hm⟩ := ite_t hm
                obtain ⟨e_107, h_105, hm⟩ := bind_t hm
                obtain ⟨b_108, o_109, hA_110, h_106⟩ := Sl.elem hx_x1 h_105
                refine Vk.step (Vk.value (some 21) (.pointer (some ⟨b_108, o_109 + e_28.d.toNat * 1, none⟩)) hs (by kernel_rfl) (op := (.indexAddr 73 (.tmp 19) (.tmp 20))) (by kernel_rfl) (fun o ho => run_idxSlc (k := .i64) ho (cap := c_x1) (len := x1.length) ((congrArg (fun A => Value.slice A (x1.length) (c_x1)) hA_110) ▸ (by kernel_rfl)) (by kernel_rfl) (by kernel_rfl) (idx_ok h_104 h_105) _) fun a hs => ?_)
                refine Vk.step (Vk.value (some 22) (.int .u64 e_107) hs (by kernel_rfl) (op := (.load 23 (.tmp 21))) (by kernel_rfl) (fun o ho => run_load1 (c := C.int .u64 e_107) ho (by kernel_rfl) (by kernel_rfl) (fun w ho => h_106 w ho 0 _ rfl) _ hs.own.drop.drop.drop.drop.drop.drop) fun a hs => ?_)
                refine Vk.pures 1 [(4, .int .u64 e_107)] hs (by kernel_rfl) fun a hs => ?_
                replace hs := hs.pick [4] (L' := [(4, .int .u64 e_107)]) (by kernel_rfl)
                refine Vk.done (by kernel_rfl) ?_
                refine hK103 _ _ ?_
                clear hK103
                refine wp_ret ?_
                refine hKP97 _ _ ?_
                exact hj97 e_107 hm _ _ (hs.go [4] [0, 1, 2, 3, 4, 5] 6 (by kernel_rfl) (by kernel_rfl) (by kernel_rfl))
            refine Vk.seq fun K83 hK83 => ?_
            refine Vk.region ?_
            refine Vk.pures 1 [(4, .int .u64 0)] hs (by kernel_rfl) fun a hs => ?_
            replace hs := hs.pick [0, 1] (L' := [(0, .pointer (some ⟨b_11, 0, none⟩)), (1, .int .i64 e_28.b)]) (by kernel_rfl)
            refine Vk.done (by kernel_rfl) ?_
            refine hK83 _ _ ?_
            clear hK83
            refine Vk.seq fun K84 hK84 => ?_
            refine Vk.seq fun K85 hK85 => ?_
            refine Vk.region ?_
            refine Vk.pures 3 [(7, .bool (decide (e_28.b < 0))), (6, .bool (decide (e_28.b < 0))), (5, .int .i64 e_28.b)] hs (by kernel_rfl) fun a hs => ?_
            suffices hj_86 : ∀ a, St 23 a w κ [(0, .pointer (some ⟨b_11, 0, none⟩)), (1, .int .i64 e_28.b), (5, .int .i64 e_28.b), (6, .bool (decide (e_28.b < 0))), (7, .bool (decide (e_28.b < 0))), (15, .bool ((decide (e_28.b < 0)) || (decide (e_28.b ≥ ((x1.length : Nat) : Int)))))] (pt b_2 (blk (Tapi_Trace.obj x0 A_x0ops c_x0ops A_x0blocks c_x0blocks) 72) :: pt b_11 (blk ([C.int .i64 0, C.int .i64 0, C.int .i64 0, C.int .i64 0, C.int .i64 0, C.int .i64 0, C.int .i64 0, C.int .i64 0, C.slc none (([] : List Tapi_Op).length) 0, C.slc none (([] : List Tapi_Span).length) 0, C.slc A_x1 x1.length c_x1, C.slc none (([] : List Int).length) 0, C.int .i64 0, C.int .i64 0, C.bool false]) 123) :: rowp none 0 32 6 Tapi_Op.cells ([] : List Tapi_Op) :: rowp none 0 144 3 Tapi_Span.cells ([] : List Tapi_Span) :: rdp κ none 0 1 (eI .u64) ([] : List Int) :: pt b_32 (blk (Tapi_Op.cells e_28) 32) :: S) → wpFrom Try.prog _ _ 11 a w by
              rcases Bool.eq_false_or_eq_true (decide (e_28.b < 0)) with hb | hb
              · replace hs := hs.known (t := 7) hb (by kernel_rfl)
                refine Vk.pures 8 [(15, .bool true), (14, undef), (13, undef), (12, undef), (11, undef), (10, undef), (9, undef), (8, undef)] hs (by kernel_rfl) fun a hs => ?_
                have hq := hs.pick [0, 1, 5, 6, 7, 15] (L' := [(0, .pointer (some ⟨b_11, 0, none⟩)), (1, .int .i64 e_28.b), (5, .int .i64 e_28.b), (6, .bool (decide (e_28.b < 0))), (7, .bool true), (15, .bool true)]) (by kernel_rfl)
                exact hj_86 _ (hq.conv (by first | (rw [hb] <;> rfl) | rfl))
              · replace hs := hs.known (t := 7) hb (by kernel_rfl)
                refine Vk.pures 4 [(11, .pointer (some ⟨b_11, 10, none⟩)), (10, .pointer (some ⟨b_11, 0, none⟩)), (9, .pointer (some ⟨b_11, 0, none⟩)), (8, .int .i64 e_28.b)] hs (by kernel_rfl) fun a hs => ?_
                refine Vk.step (Vk.value (some 12) (.slice A_x1 x1.length c_x1) hs (by kernel_rfl) (op := (.load 73 (.tmp 11))) (by kernel_rfl) (fun o ho => run_load1 (b := b_11) (off := 10) (c := C.slc A_x1 x1.length c_x1) ho (by kernel_rfl) (by kernel_rfl) (Cell.own 1 rfl (by kernel_rfl)) _ hs.own) fun a hs => ?_)
                refine Vk.pures 3 [(15, .bool (decide (e_28.b ≥ ((x1.length : Nat) : Int)))), (14, .bool (decide (e_28.b ≥ ((x1.length : Nat) : Int)))), (13, .int .i64 ((x1.length : Nat) : Int))] hs (by kernel_rfl) fun a hs => ?_
                have hq := hs.pick [0, 1, 5, 6, 7, 15] (L' := [(0, .pointer (some ⟨b_11, 0, none⟩)), (1, .int .i64 e_28.b), (5, .int .i64 e_28.b), (6, .bool (decide (e_28.b < 0))), (7, .bool false), (15, .bool (decide (e_28.b ≥ ((x1.length : Nat) : Int))))]) (by kernel_rfl)
                exact hj_86 _ (hq.conv (by first | (rw [hb] <;> rfl) | rfl))
            intro a hs
            replace hs := hs.pick [0, 1, 15] (L' := [(0, .pointer (some ⟨b_11, 0, none⟩)), (1, .int .i64 e_28.b), (15, .bool ((decide (e_28.b < 0)) || (decide (e_28.b ≥ ((x1.length : Nat) : Int)))))]) (by kernel_rfl)
            refine Vk.done (by kernel_rfl) ?_
            refine hK85 _ _ ?_
            clear hK85
            refine Vk.condS (b := (decide (e_28.b < 0)) || (decide (e_28.b ≥ ((x1.length : Nat) : Int)))) hs (by kernel_rfl) (by kernel_rfl) (fun hb => ?_) (fun hb => ?_)
            · replace hm := bif_t hm hb
              refine Vk.seq fun K87 hK87 => ?_
              refine Vk.region ?_
              refine Vk.pures 1 [(4, .int .u64 0)] hs (by kernel_rfl) fun a hs => ?_
              replace hs := hs.pick [4] (L' := [(4, .int .u64 0)]) (by kernel_rfl)
              refine Vk.done (by kernel_rfl) ?_
              refine hK87 _ _ ?_
              clear hK87
              refine wp_ret ?_
              refine hKP82 _ _ ?_
              exact hj82 0 hm _ _ (hs.go [4] [0, 1, 2, 3, 4, 5] 6 (by kernel_rfl) (by kernel_rfl) (by kernel_rfl))
            · replace hm := bif_f hm hb
              refine wp_skip ?_
              refine hK84 _ _ ?_
              clear hK84
              refine Vk.seq fun K88 hK88 => ?_
              refine Vk.region ?_
              refine Vk.pures 3 [(18, .pointer (some ⟨b_11, 10, none⟩)), (17, .pointer (some ⟨b_11, 0, none⟩)), (16, .pointer (some ⟨b_11, 0, none⟩))] hs (by kernel_rfl) fun a hs => ?_
              refine Vk.step (Vk.value (some 19) (.slice A_x1 x1.length c_x1) hs (by kernel_rfl) (op := (.load 73 (.tmp 18))) (by kernel_rfl) (fun o ho => run_load1 (b := b_11) (off := 10) (c := C.slc A_x1 x1.length c_x1) ho (by kernel_rfl) (by kernel_rfl) (Cell.own 1 rfl (by kernel_rfl)) _ hs.own) fun a hs => ?_)
              refine Vk.pures 1 [(20, .int .i64 e_28.b)] hs (by kernel_rfl) fun a hs => ?_
              obtain ⟨h_89, hm⟩ := ite_t hm
              obtain ⟨e_92, h_90, hm⟩ := bind_t hm
              obtain ⟨b_93, o_94, hA_95, h_91⟩ := Sl.elem hx_x1 h_90
              refine Vk.step (Vk.value (some 21) (.pointer (some ⟨b_93, o_94 + e_28.b.toNat * 1, none⟩)) hs (by kernel_rfl) (op := (.indexAddr 73 (.tmp 19) (.tmp 20))) (by kernel_rfl) (fun o ho => run_idxSlc (k := .i64) ho (cap := c_x1) (len := x1.length) ((congrArg (fun A => Value.slice A (x1.length) (c_x1)) hA_95) ▸ (by kernel_rfl)) (by kernel_rfl) (by kernel_rfl) (idx_ok h_89 h_90) _) fun a hs => ?_)
              refine Vk.step (Vk.value (some 22) (.int .u64 e_92) hs (by kernel_rfl) (op := (.load 23 (.tmp 21))) (by kernel_rfl) (fun o ho => run_load1 (c := C.int .u64 e_92) ho (by kernel_rfl) (by kernel_rfl) (fun w ho => h_91 w ho 0 _ rfl) _ hs.own.drop.drop.drop.drop.drop.drop) fun a hs => ?_)
              refine Vk.pures 1 [(4, .int .u64 e_92)] hs (by kernel_rfl) fun a hs => ?_
              replace hs := hs.pick [4] (L' := [(4, .int .u64 e_92)]) (by kernel_rfl)
              refine Vk.done (by kernel_rfl) ?_
              refine hK88 _ _ ?_
              clear hK88
              refine wp_ret ?_
              refine hKP82 _ _ ?_
              exact hj82 e_92 hm _ _ (hs.go [4] [0, 1, 2, 3, 4, 5] 6 (by kernel_rfl) (by kernel_rfl) (by kernel_rfl))
          refine Vk.seq fun K68 hK68 => ?_
          refine Vk.region ?_
          refine Vk.pures 1 [(4, .int .u64 0)] hs (by kernel_rfl) fun a hs => ?_
          replace hs := hs.pick [0, 1] (L' := [(0, .pointer (some ⟨b_11, 0, none⟩)), (1, .int .i64 e_28.a)]) (by kernel_rfl)
          refine Vk.done (by kernel_rfl) ?_
          refine hK68 _ _ ?_
          clear hK68
          refine Vk.seq fun K69 hK69 => ?_
          refine Vk.seq fun K70 hK70 => ?_
          refine Vk.region ?_
          refine Vk.pures 3 [(7, .bool (decide (e_28.a < 0))), (6, .bool (decide (e_28.a < 0))), (5, .int .i64 e_28.a)] hs (by kernel_rfl) fun a hs => ?_
          suffices hj_71 : ∀ a, St 23 a w κ [(0, .pointer (some ⟨b_11, 0, none⟩)), (1, .int .i64 e_28.a), (5, .int .i64 e_28.a), (6, .bool (decide (e_28.a < 0))), (7, .bool (decide (e_28.a < 0))), (15, .bool ((decide (e_28.a < 0)) || (decide (e_28.a ≥ ((x1.length : Nat) : Int)))))] (pt b_2 (blk (Tapi_Trace.obj x0 A_x0ops c_x0ops A_x0blocks c_x0blocks) 72) :: pt b_11 (blk ([C.int .i64 0, C.int .i64 0, C.int .i64 0, C.int .i64 0, C.int .i64 0, C.int .i64 0, C.int .i64 0, C.int .i64 0, C.slc none (([] : List Tapi_Op).length) 0, C.slc none (([] : List Tapi_Span).length) 0, C.slc A_x1 x1.length c_x1, C.slc none (([] : List Int).length) 0, C.int .i64 0, C.int .i64 0, C.bool false]) 123) :: rowp none 0 32 6 Tapi_Op.cells ([] : List Tapi_Op) :: rowp none 0 144 3 Tapi_Span.cells ([] : List Tapi_Span) :: rdp κ none 0 1 (eI .u64) ([] : List Int) :: pt b_32 (blk (Tapi_Op.cells e_28) 32) :: S) → wpFrom Try.prog _ _ 11 a w by
            rcases Bool.eq_false_or_eq_true (decide (e_28.a < 0)) with hb | hb
            · replace hs := hs.known (t := 7) hb (by kernel_rfl)
              refine Vk.pures 8 [(15, .bool true), (14, undef), (13, undef), (12, undef), (11, undef), (10, undef), (9, undef), (8, undef)] hs (by kernel_rfl) fun a hs => ?_
              have hq := hs.pick [0, 1, 5, 6, 7, 15] (L' := [(0, .pointer (some ⟨b_11, 0, none⟩)), (1, .int .i64 e_28.a), (5, .int .i64 e_28.a), (6, .bool (decide (e_28.a < 0))), (7, .bool true), (15, .bool true)]) (by kernel_rfl)
              exact hj_71 _ (hq.conv (by first | (rw [hb] <;> rfl) | rfl))
            · replace hs := hs.known (t := 7) hb (by kernel_rfl)
              refine Vk.pures 4 [(11, .pointer (some ⟨b_11, 10, none⟩)), (10, .pointer (some ⟨b_11, 0, none⟩)), (9, .pointer (some ⟨b_11, 0, none⟩)), (8, .int .i64 e_28.a)] hs (by kernel_rfl) fun a hs => ?_
              refine Vk.step (Vk.value (some 12) (.slice A_x1 x1.length c_x1) hs (by kernel_rfl) (op := (.load 73 (.tmp 11))) (by kernel_rfl) (fun o ho => run_load1 (b := b_11) (off := 10) (c := C.slc A_x1 x1.length c_x1) ho (by kernel_rfl) (by kernel_rfl) (Cell.own 1 rfl (by kernel_rfl)) _ hs.own) fun a hs => ?_)
              refine Vk.pures 3 [(15, .bool (decide (e_28.a ≥ ((x1.length : Nat) : Int)))), (14, .bool (decide (e_28.a ≥ ((x1.length : Nat) : Int)))), (13, .int .i64 ((x1.length : Nat) : Int))] hs (by kernel_rfl) fun a hs => ?_
              have hq := hs.pick [0, 1, 5, 6, 7, 15] (L' := [(0, .pointer (some ⟨b_11, 0, none⟩)), (1, .int .i64 e_28.a), (5, .int .i64 e_28.a), (6, .bool (decide (e_28.a < 0))), (7, .bool false), (15, .bool (decide (e_28.a ≥ ((x1.length : Nat) : Int))))]) (by kernel_rfl)
              exact hj_71 _ (hq.conv (by first | (rw [hb] <;> rfl) | rfl))
          intro a hs
          replace hs := hs.pick [0, 1, 15] (L' := [(0, .pointer (some ⟨b_11, 0, none⟩)), (1, .int .i64 e_28.a), (15, .bool ((decide (e_28.a < 0)) || (decide (e_28.a ≥ ((x1.length : Nat) : Int)))))]) (by kernel_rfl)
          refine Vk.done (by kernel_rfl) ?_
          refine hK70 _ _ ?_
          clear hK70
          refine Vk.condS (b := (decide (e_28.a < 0)) || (decide (e_28.a ≥ ((x1.length : Nat) : Int)))) hs (by kernel_rfl) (by kernel_rfl) (fun hb => ?_) (fun hb => ?_)
          · replace hm := bif_t hm hb
            refine Vk.seq fun K72 hK72 => ?_
            refine Vk.region ?_
            refine Vk.pures 1 [(4, .int .u64 0)] hs (by kernel_rfl) fun a hs => ?_
            replace hs := hs.pick [4] (L' := [(4, .int .u64 0)]) (by kernel_rfl)
            refine Vk.done (by kernel_rfl) ?_
            refine hK72 _ _ ?_
            clear hK72
            refine wp_ret ?_
            refine hKP67 _ _ ?_
            exact hj67 0 hm _ _ (hs.go [4] [0, 1, 2, 3, 4, 5] 6 (by kernel_rfl) (by kernel_rfl) (by kernel_rfl))
          · replace hm := bif_f hm hb
            refine wp_skip ?_
            refine hK69 _ _ ?_
            clear hK69
            refine Vk.seq fun K73 hK73 => ?_
            refine Vk.region ?_
            refine Vk.pures 3 [(18, .pointer (some ⟨b_11, 10, none⟩)), (17, .pointer (some ⟨b_11, 0, none⟩)), (16, .pointer (some ⟨b_11, 0, none⟩))] hs (by kernel_rfl) fun a hs => ?_
            refine Vk.step (Vk.value (some 19) (.slice A_x1 x1.length c_x1) hs (by kernel_rfl) (op := (.load 73 (.tmp 18))) (by kernel_rfl) (fun o ho => run_load1 (b := b_11) (off := 10) (c := C.slc A_x1 x1.length c_x1) ho (by kernel_rfl) (by kernel_rfl) (Cell.own 1 rfl (by kernel_rfl)) _ hs.own) fun a hs => ?_)
            refine Vk.pures 1 [(20, .int .i64 e_28.a)] hs (by kernel_rfl) fun a hs => ?_
            obtain ⟨h_74, hm⟩ := ite_t hm
            obtain ⟨e_77, h_75, hm⟩ := bind_t hm
            obtain ⟨b_78, o_79, hA_80, h_76⟩ := Sl.elem hx_x1 h_75
            refine Vk.step (Vk.value (some 21) (.pointer (some ⟨b_78, o_79 + e_28.a.toNat * 1, none⟩)) hs (by kernel_rfl) (op := (.indexAddr 73 (.tmp 19) (.tmp 20))) (by kernel_rfl) (fun o ho => run_idxSlc (k := .i64) ho (cap := c_x1) (len := x1.length) ((congrArg (fun A => Value.slice A (x1.length) (c_x1)) hA_80) ▸ (by kernel_rfl)) (by kernel_rfl) (by kernel_rfl) (idx_ok h_74 h_75) _) fun a hs => ?_)
            refine Vk.step (Vk.value (some 22) (.int .u64 e_77) hs (by kernel_rfl) (op := (.load 23 (.tmp 21))) (by kernel_rfl) (fun o ho => run_load1 (c := C.int .u64 e_77) ho (by kernel_rfl) (by kernel_rfl) (fun w ho => h_76 w ho 0 _ rfl) _ hs.own.drop.drop.drop.drop.drop.drop) fun a hs => ?_)
            refine Vk.pures 1 [(4, .int .u64 e_77)] hs (by kernel_rfl) fun a hs => ?_
            replace hs := hs.pick [4] (L' := [(4, .int .u64 e_77)]) (by kernel_rfl)
            refine Vk.done (by kernel_rfl) ?_
            refine hK73 _ _ ?_
            clear hK73
            refine wp_ret ?_
            refine hKP67 _ _ ?_
            exact hj67 e_77 hm _ _ (hs.go [4] [0, 1, 2, 3, 4, 5] 6 (by kernel_rfl) (by kernel_rfl) (by kernel_rfl))
        refine Vk.seq fun K48 hK48 => ?_
        refine Vk.region ?_
        refine Vk.pures 1 [(54, .pointer (some ⟨b_32, 0, none⟩))] hs (by kernel_rfl) fun a hs => ?_
        refine Vk.step (Vk.value (some 55) (.int .i64 e_28.kind) hs (by kernel_rfl) (op := (.load 3 (.tmp 54))) (by kernel_rfl) (fun o ho => run_load1 (b := b_32) (off := 0) (c := C.int .i64 e_28.kind) ho (by kernel_rfl) (by kernel_rfl) (Cell.own 5 rfl (by kernel_rfl)) _ hs.own) fun a hs => ?_)
        refine Vk.pures 2 [(57, .bool (e_28.kind == 2)), (56, .bool (e_28.kind == 2))] hs (by kernel_rfl) fun a hs => ?_
        suffices hj_49 : ∀ a, St 87 a w κ [(1, .slice A_x1 x1.length c_x1), (2, .slice A_x2 x2.length c_x2), (3, .slice A_x3 x3.length c_x3), (4, .pointer (some ⟨b_2, 0, none⟩)), (9, .pointer (some ⟨b_11, 0, none⟩)), (10, .int .i64 p_45), (11, .int .i64 q_20), (12, .pointer (some ⟨b_32, 0, none⟩)), (13, .int .u64 p_46), (54, .pointer (some ⟨b_32, 0, none⟩)), (55, .int .i64 e_28.kind), (56, .bool (e_28.kind == 2)), (57, .bool (e_28.kind == 2)), (64, .bool ((e_28.kind == 2) && (decide (e_28.c < (IntKind.u64.wrap ((x3.length : Nat) : Int))))))] (pt b_2 (blk (Tapi_Trace.obj x0 A_x0ops c_x0ops A_x0blocks c_x0blocks) 72) :: pt b_11 (blk ([C.int .i64 0, C.int .i64 0, C.int .i64 0, C.int .i64 0, C.int .i64 0, C.int .i64 0, C.int .i64 0, C.int .i64 0, C.slc none (([] : List Tapi_Op).length) 0, C.slc none (([] : List Tapi_Span).length) 0, C.slc A_x1 x1.length c_x1, C.slc none (([] : List Int).length) 0, C.int .i64 0, C.int .i64 0, C.bool false]) 123) :: rowp none 0 32 6 Tapi_Op.cells ([] : List Tapi_Op) :: rowp none 0 144 3 Tapi_Span.cells ([] : List Tapi_Span) :: rdp κ none 0 1 (eI .u64) ([] : List Int) :: pt b_32 (blk (Tapi_Op.cells e_28) 32) :: S) → wpFrom Try.prog _ _ 11 a w by
          rcases Bool.eq_false_or_eq_true (e_28.kind == 2) with hb | hb
          · replace hs := hs.known (t := 57) hb (by kernel_rfl)
            refine Vk.pures 1 [(58, .pointer (some ⟨b_32, 5, none⟩))] hs (by kernel_rfl) fun a hs => ?_
            refine Vk.step (Vk.value (some 59) (.int .u64 e_28.c) hs (by kernel_rfl) (op := (.load 23 (.tmp 58))) (by kernel_rfl) (fun o ho => run_load1 (b := b_32) (off := 5) (c := C.int .u64 e_28.c) ho (by kernel_rfl) (by kernel_rfl) (Cell.own 5 rfl (by kernel_rfl)) _ hs.own) fun a hs => ?_)
            refine Vk.pures 5 [(64, .bool (decide (e_28.c < (IntKind.u64.wrap ((x3.length : Nat) : Int))))), (63, .bool (decide (e_28.c < (IntKind.u64.wrap ((x3.length : Nat) : Int))))), (62, .int .u64 (IntKind.u64.wrap ((x3.length : Nat) : Int))), (61, .int .i64 ((x3.length : Nat) : Int)), (60, .slice A_x3 x3.length c_x3)] hs (by kernel_rfl) fun a hs => ?_
            have hq := hs.pick [1, 2, 3, 4, 9, 10, 11, 12, 13, 54, 55, 56, 57, 64] (L' := [(1, .slice A_x1 x1.length c_x1), (2, .slice A_x2 x2.length c_x2), (3, .slice A_x3 x3.length c_x3), (4, .pointer (some ⟨b_2, 0, none⟩)), (9, .pointer (some ⟨b_11, 0, none⟩)), (10, .int .i64 p_45), (11, .int .i64 q_20), (12, .pointer (some ⟨b_32, 0, none⟩)), (13, .int .u64 p_46), (54, .pointer (some ⟨b_32, 0, none⟩)), (55, .int .i64 e_28.kind), (56, .bool (e_28.kind == 2)), (57, .bool true), (64, .bool (decide (e_28.c < (IntKind.u64.wrap ((x3.length : Nat) : Int)))))]) (by kernel_rfl)
            exact hj_49 _ (hq.conv (by first | (rw [hb] <;> rfl) | rfl))
          · replace hs := hs.known (t := 57) hb (by kernel_rfl)
            refine Vk.pures 7 [(64, .bool false), (63, undef), (62, undef), (61, undef), (60, undef), (59, undef), (58, undef)] hs (by kernel_rfl) fun a hs => ?_
            have hq := hs.pick [1, 2, 3, 4, 9, 10, 11, 12, 13, 54, 55, 56, 57, 64] (L' := [(1, .slice A_x1 x1.length c_x1), (2, .slice A_x2 x2.length c_x2), (3, .slice A_x3 x3.length c_x3), (4, .pointer (some ⟨b_2, 0, none⟩)), (9, .pointer (some ⟨b_11, 0, none⟩)), (10, .int .i64 p_45), (11, .int .i64 q_20), (12, .pointer (some ⟨b_32, 0, none⟩)), (13, .int .u64 p_46), (54, .pointer (some ⟨b_32, 0, none⟩)), (55, .int .i64 e_28.kind), (56, .bool (e_28.kind == 2)), (57, .bool false), (64, .bool false)]) (by kernel_rfl)
            exact hj_49 _ (hq.conv (by first | (rw [hb] <;> rfl) | rfl))
        intro a hs
        replace hs := hs.pick [1, 2, 3, 4, 9, 10, 11, 12, 13, 64] (L' := [(1, .slice A_x1 x1.length c_x1), (2, .slice A_x2 x2.length c_x2), (3, .slice A_x3 x3.length c_x3), (4, .pointer (some ⟨b_2, 0, none⟩)), (9, .pointer (some ⟨b_11, 0, none⟩)), (10, .int .i64 p_45), (11, .int .i64 q_20), (12, .pointer (some ⟨b_32, 0, none⟩)), (13, .int .u64 p_46), (64, .bool ((e_28.kind == 2) && (decide (e_28.c < (IntKind.u64.wrap ((x3.length : Nat) : Int))))))]) (by kernel_rfl)
        refine Vk.done (by kernel_rfl) ?_
        refine hK48 _ _ ?_
        clear hK48
        refine Vk.condS (b := (e_28.kind == 2) && (decide (e_28.c < (IntKind.u64.wrap ((x3.length : Nat) : Int))))) hs (by kernel_rfl) (by kernel_rfl) (fun hb => ?_) (fun hb => ?_)
        · replace hm := bif_t hm hb
          refine Vk.region ?_
          refine Vk.pures 2 [(66, .pointer (some ⟨b_32, 5, none⟩)), (65, .slice A_x3 x3.length c_x3)] hs (by kernel_rfl) fun a hs => ?_
          refine Vk.step (Vk.value (some 67) (.int .u64 e_28.c) hs (by kernel_rfl) (op := (.load 23 (.tmp 66))) (by kernel_rfl) (fun o ho => run_load1 (b := b_32) (off := 5) (c := C.int .u64 e_28.c) ho (by kernel_rfl) (by kernel_rfl) (Cell.own 5 rfl (by kernel_rfl)) _ hs.own) fun a hs => ?_)
          obtain ⟨h_50, hm⟩ := ite_t hm
          obtain ⟨e_53, h_51, hm⟩ := bind_t hm
          obtain ⟨b_54, o_55, hA_56, h_52⟩ := Sl.elem hx_x3 h_51
          refine Vk.step (Vk.value (some 68) (.pointer (some ⟨b_54, o_55 + e_28.c.toNat * 1, none⟩)) hs (by kernel_rfl) (op := (.indexAddr 73 (.tmp 65) (.tmp 67))) (by kernel_rfl) (fun o ho => run_idxSlc (k := .u64) ho (cap := c_x3) (len := x3.length) ((congrArg (fun A => Value.slice A (x3.length) (c_x3)) hA_56) ▸ (by kernel_rfl)) (by kernel_rfl) (by kernel_rfl) (idx_ok h_50 h_51) _) fun a hs => ?_)
          refine Vk.step (Vk.value (some 69) (.int .u64 e_53) hs (by kernel_rfl) (op := (.load 23 (.tmp 68))) (by kernel_rfl) (fun o ho => run_load1 (c := C.int .u64 e_53) ho (by kernel_rfl) (by kernel_rfl) (fun w ho => h_52 w ho 0 _ rfl) _ hs.own.drop.drop.drop.drop.drop.drop) fun a hs => ?_)
          refine Vk.pures 1 [(13, .int .u64 e_53)] hs (by kernel_rfl) fun a hs => ?_
          replace hs := hs.pick [1, 2, 3, 4, 9, 10, 11, 12, 13] (L' := [(1, .slice A_x1 x1.length c_x1), (2, .slice A_x2 x2.length c_x2), (3, .slice A_x3 x3.length c_x3), (4, .pointer (some ⟨b_2, 0, none⟩)), (9, .pointer (some ⟨b_11, 0, none⟩)), (10, .int .i64 p_45), (11, .int .i64 q_20), (12, .pointer (some ⟨b_32, 0, none⟩)), (13, .int .u64 e_53)]) (by kernel_rfl)
          refine Vk.done (by kernel_rfl) ?_
          exact hj47 e_53 hm _ _ (hs.go [1, 2, 3, 4, 9, 10, 11, 12, 13] [0, 1, 2, 3, 4, 5] 6 (by kernel_rfl) (by kernel_rfl) (by kernel_rfl))
        · replace hm := bif_f hm hb
          refine wp_skip ?_
          exact hj47 p_46 hm _ _ (hs.go [1, 2, 3, 4, 9, 10, 11, 12, 13] [0, 1, 2, 3, 4, 5] 6 (by kernel_rfl) (by kernel_rfl) (by kernel_rfl))
      refine Vk.seq fun K35 hK35 => ?_
      refine Vk.region ?_
      refine Vk.pures 1 [(39, .pointer (some ⟨b_32, 0, none⟩))] hs (by kernel_rfl) fun a hs => ?_
      refine Vk.step (Vk.value (some 40) (.int .i64 e_28.kind) hs (by kernel_rfl) (op := (.load 3 (.tmp 39))) (by kernel_rfl) (fun o ho => run_load1 (b := b_32) (off := 0) (c := C.int .i64 e_28.kind) ho (by kernel_rfl) (by kernel_rfl) (Cell.own 0 rfl (by kernel_rfl)) _ hs.own) fun a hs => ?_)
      refine Vk.pures 2 [(42, .bool (e_28.kind == 1)), (41, .bool (e_28.kind == 1))] hs (by kernel_rfl) fun a hs => ?_
      suffices hj_36 : ∀ a, St 87 a w κ [(1, .slice A_x1 x1.length c_x1), (2, .slice A_x2 x2.length c_x2), (3, .slice A_x3 x3.length c_x3), (4, .pointer (some ⟨b_2, 0, none⟩)), (9, .pointer (some ⟨b_11, 0, none⟩)), (10, .int .i64 q_19), (11, .int .i64 q_20), (12, .pointer (some ⟨b_32, 0, none⟩)), (13, .int .u64 0), (39, .pointer (some ⟨b_32, 0, none⟩)), (40, .int .i64 e_28.kind), (41, .bool (e_28.kind == 1)), (42, .bool (e_28.kind == 1)), (47, .bool ((e_28.kind == 1) && (decide (q_19 < ((x2.length : Nat) : Int)))))] (pt b_32 (blk (Tapi_Op.cells e_28) 32) :: pt b_2 (blk (Tapi_Trace.obj x0 A_x0ops c_x0ops A_x0blocks c_x0blocks) 72) :: pt b_11 (blk ([C.int .i64 0, C.int .i64 0, C.int .i64 0, C.int .i64 0, C.int .i64 0, C.int .i64 0, C.int .i64 0, C.int .i64 0, C.slc none (([] : List Tapi_Op).length) 0, C.slc none (([] : List Tapi_Span).length) 0, C.slc A_x1 x1.length c_x1, C.slc none (([] : List Int).length) 0, C.int .i64 0, C.int .i64 0, C.bool false]) 123) :: rowp none 0 32 6 Tapi_Op.cells ([] : List Tapi_Op) :: rowp none 0 144 3 Tapi_Span.cells ([] : List Tapi_Span) :: rdp κ none 0 1 (eI .u64) ([] : List Int) :: S) → wpFrom Try.prog _ _ 9 a w by
        rcases Bool.eq_false_or_eq_true (e_28.kind == 1) with hb | hb
        · replace hs := hs.known (t := 42) hb (by kernel_rfl)
          refine Vk.pures 5 [(47, .bool (decide (q_19 < ((x2.length : Nat) : Int)))), (46, .bool (decide (q_19 < ((x2.length : Nat) : Int)))), (45, .int .i64 ((x2.length : Nat) : Int)), (44, .slice A_x2 x2.length c_x2), (43, .int .i64 q_19)] hs (by kernel_rfl) fun a hs => ?_
          have hq := hs.pick [1, 2, 3, 4, 9, 10, 11, 12, 13, 39, 40, 41, 42, 47] (L' := [(1, .slice A_x1 x1.length c_x1), (2, .slice A_x2 x2.length c_x2), (3, .slice A_x3 x3.length c_x3), (4, .pointer (some ⟨b_2, 0, none⟩)), (9, .pointer (some ⟨b_11, 0, none⟩)), (10, .int .i64 q_19), (11, .int .i64 q_20), (12, .pointer (some ⟨b_32, 0, none⟩)), (13, .int .u64 0), (39, .pointer (some ⟨b_32, 0, none⟩)), (40, .int .i64 e_28.kind), (41, .bool (e_28.kind == 1)), (42, .bool true), (47, .bool (decide (q_19 < ((x2.length : Nat) : Int))))]) (by kernel_rfl)
          exact hj_36 _ (hq.conv (by first | (rw [hb] <;> rfl) | rfl))
        · replace hs := hs.known (t := 42) hb (by kernel_rfl)
          refine Vk.pures 5 [(47, .bool false), (46, undef), (45, undef), (44, undef), (43, undef)] hs (by kernel_rfl) fun a hs => ?_
          have hq := hs.pick [1, 2, 3, 4, 9, 10, 11, 12, 13, 39, 40, 41, 42, 47] (L' := [(1, .slice A_x1 x1.length c_x1), (2, .slice A_x2 x2.length c_x2), (3, .slice A_x3 x3.length c_x3), (4, .pointer (some ⟨b_2, 0, none⟩)), (9, .pointer (some ⟨b_11, 0, none⟩)), (10, .int .i64 q_19), (11, .int .i64 q_20), (12, .pointer (some ⟨b_32, 0, none⟩)), (13, .int .u64 0), (39, .pointer (some ⟨b_32, 0, none⟩)), (40, .int .i64 e_28.kind), (41, .bool (e_28.kind == 1)), (42, .bool false), (47, .bool false)]) (by kernel_rfl)
          exact hj_36 _ (hq.conv (by first | (rw [hb] <;> rfl) | rfl))
      intro a hs
      replace hs := hs.pick [1, 2, 3, 4, 9, 10, 11, 12, 13, 47] (L' := [(1, .slice A_x1 x1.length c_x1), (2, .slice A_x2 x2.length c_x2), (3, .slice A_x3 x3.length c_x3), (4, .pointer (some ⟨b_2, 0, none⟩)), (9, .pointer (some ⟨b_11, 0, none⟩)), (10, .int .i64 q_19), (11, .int .i64 q_20), (12, .pointer (some ⟨b_32, 0, none⟩)), (13, .int .u64 0), (47, .bool ((e_28.kind == 1) && (decide (q_19 < ((x2.length : Nat) : Int)))))]) (by kernel_rfl)
      refine Vk.done (by kernel_rfl) ?_
      refine hK35 _ _ ?_
      clear hK35
      refine Vk.condS (b := (e_28.kind == 1) && (decide (q_19 < ((x2.length : Nat) : Int)))) hs (by kernel_rfl) (by kernel_rfl) (fun hb => ?_) (fun hb => ?_)
      · replace hm := bif_t hm hb
        refine Vk.seq fun K37 hK37 => ?_
        refine Vk.region ?_
        refine Vk.pures 2 [(49, .int .i64 q_19), (48, .slice A_x2 x2.length c_x2)] hs (by kernel_rfl) fun a hs => ?_
        obtain ⟨h_38, hm⟩ := ite_t hm
        obtain ⟨e_41, h_39, hm⟩ := bind_t hm
        obtain ⟨b_42, o_43, hA_44, h_40⟩ := Sl.elem hx_x2 h_39
        refine Vk.step (Vk.value (some 50) (.pointer (some ⟨b_42, o_43 + q_19.toNat * 1, none⟩)) hs (by kernel_rfl) (op := (.indexAddr 73 (.tmp 48) (.tmp 49))) (by kernel_rfl) (fun o ho => run_idxSlc (k := .i64) ho (cap := c_x2) (len := x2.length) ((congrArg (fun A => Value.slice A (x2.length) (c_x2)) hA_44) ▸ (by kernel_rfl)) (by kernel_rfl) (by kernel_rfl) (idx_ok h_38 h_39) _) fun a hs => ?_)
        refine Vk.step (Vk.value (some 51) (.int .u64 e_41) hs (by kernel_rfl) (op := (.load 23 (.tmp 50))) (by kernel_rfl) (fun o ho => run_load1 (c := C.int .u64 e_41) ho (by kernel_rfl) (by kernel_rfl) (fun w ho => h_40 w ho 0 _ rfl) _ hs.own.drop.drop.drop.drop.drop.drop) fun a hs => ?_)
        refine Vk.pures 1 [(13, .int .u64 e_41)] hs (by kernel_rfl) fun a hs => ?_
        replace hs := hs.pick [1, 2, 3, 4, 9, 10, 11, 12, 13] (L' := [(1, .slice A_x1 x1.length c_x1), (2, .slice A_x2 x2.length c_x2), (3, .slice A_x3 x3.length c_x3), (4, .pointer (some ⟨b_2, 0, none⟩)), (9, .pointer (some ⟨b_11, 0, none⟩)), (10, .int .i64 q_19), (11, .int .i64 q_20), (12, .pointer (some ⟨b_32, 0, none⟩)), (13, .int .u64 e_41)]) (by kernel_rfl)
        refine Vk.done (by kernel_rfl) ?_
        refine hK37 _ _ ?_
        clear hK37
        refine Vk.region ?_
        refine Vk.pures 3 [(10, .int .i64 (IntKind.i64.wrap (q_19 + 1))), (53, .int .i64 (IntKind.i64.wrap (q_19 + 1))), (52, .int .i64 q_19)] hs (by kernel_rfl) fun a hs => ?_
        replace hs := hs.pick [1, 2, 3, 4, 9, 10, 11, 12, 13] (L' := [(1, .slice A_x1 x1.length c_x1), (2, .slice A_x2 x2.length c_x2), (3, .slice A_x3 x3.length c_x3), (4, .pointer (some ⟨b_2, 0, none⟩)), (9, .pointer (some ⟨b_11, 0, none⟩)), (10, .int .i64 (IntKind.i64.wrap (q_19 + 1))), (11, .int .i64 q_20), (12, .pointer (some ⟨b_32, 0, none⟩)), (13, .int .u64 e_41)]) (by kernel_rfl)
        refine Vk.done (by kernel_rfl) ?_
        exact hj34 (IntKind.i64.wrap (q_19 + 1)) e_41 hm _ _ (hs.go [1, 2, 3, 4, 9, 10, 11, 12, 13] [1, 2, 3, 4, 5, 0] 6 (by kernel_rfl) (by kernel_rfl) (by kernel_rfl))
      · replace hm := bif_f hm hb
        refine wp_skip ?_
        exact hj34 q_19 0 hm _ _ (hs.go [1, 2, 3, 4, 9, 10, 11, 12, 13] [1, 2, 3, 4, 5, 0] 6 (by kernel_rfl) (by kernel_rfl) (by kernel_rfl))
    · replace hm := bif_f hm hb
      refine wp_exit ?_
      exact hx18 (Option.some.inj hm).symm _ _ (hs.go [] [] 5 (by kernel_rfl) (by kernel_rfl) (by kernel_rfl))


abbrev wire_Machine_Rand.R (κ : Ctx) (S : List HP) (x0 : Twire_Machine) (x1 : Int) (b_x0 : Nat) (b_x0otape : Nat) (A_x0otapeowords : Option Addr) (c_x0otapeowords : Nat) (A_x0oops : Option Addr) (c_x0oops : Nat) (A_x0ovalues : Option Addr) (c_x0ovalues : Nat) (A_x0oblocks : Option Addr) (c_x0oblocks : Nat) (r : (Int × Twire_Machine)) : Ending → World → Prop := fun e w' => ∃ (A_y0otapeowords : Option Addr), ∃ (c_y0otapeowords : Nat), ∃ (A_y0oops : Option Addr), ∃ (c_y0oops : Nat), ∃ (A_y0ovalues : Option Addr), ∃ (c_y0ovalues : Nat), ∃ (A_y0oblocks : Option Addr), ∃ (c_y0oblocks : Nat), e = .returned (.int .i64 r.1) ∧ Own κ w' (pt b_x0 (blk (Twire_Machine.obj r.2 b_x0otape A_y0oops c_y0oops A_y0ovalues c_y0ovalues A_y0oblocks c_y0oblocks) 151) :: pt b_x0otape (blk (Ttape_Tape.obj r.2.tape A_y0otapeowords c_y0otapeowords) 158) :: rowp A_y0otapeowords c_y0otapeowords 23 1 (eI .u64) r.2.tape.words :: rowp A_y0oops c_y0oops 32 6 Tapi_Op.cells r.2.ops :: rowp A_y0ovalues c_y0ovalues 23 1 (eI .u64) r.2.values :: rowp A_y0oblocks c_y0oblocks 144 3 Tapi_Span.cells r.2.blocks :: S)
def wire_Machine_Rand.m (k : Nat) (x0 : Twire_Machine) (x1 : Int) : Option (Int × Twire_Machine) := (wire_Machine_Do.m k x0 (⟨1, x1, (-1), (-1), (-1), 0⟩ : Tapi_Op) 0).bind fun v_5 => some (v_5.1, v_5.2)

set_option maxRecDepth 100000 in
set_option maxHeartbeats 4000000 in
theorem wire_Machine_Rand.ok (k : Nat) (x0 : Twire_Machine) (x1 : Int) (r : (Int × Twire_Machine)) (hm : wire_Machine_Rand.m k x0 x1 = some r) (κ : Ctx) (w : World) (S : List HP) (b_x0 : Nat) (b_x0otape : Nat) (A_x0otapeowords : Option Addr) (c_x0otapeowords : Nat) (A_x0oops : Option Addr) (c_x0oops : Nat) (A_x0ovalues : Option Addr) (c_x0ovalues : Nat) (A_x0oblocks : Option Addr) (c_x0oblocks : Nat) (ho : Own κ w (pt b_x0 (blk (Twire_Machine.obj x0 b_x0otape A_x0oops c_x0oops A_x0ovalues c_x0ovalues A_x0oblocks c_x0oblocks) 151) :: pt b_x0otape (blk (Ttape_Tape.obj x0.tape A_x0otapeowords c_x0otapeowords) 158) :: rowp A_x0otapeowords c_x0otapeowords 23 1 (eI .u64) x0.tape.words :: rowp A_x0oops c_x0oops 32 6 Tapi_Op.cells x0.ops :: rowp A_x0ovalues c_x0ovalues 23 1 (eI .u64) x0.values :: rowp A_x0oblocks c_x0oblocks 144 3 Tapi_Span.cells x0.blocks :: S)) :
    Calls Try.prog 89 #[.pointer (some ⟨b_x0, 0, none⟩), .int .i64 x1] w (wire_Machine_Rand.R κ S x0 x1 b_x0 b_x0otape A_x0otapeowords c_x0otapeowords A_x0oops c_x0oops A_x0ovalues c_x0ovalues A_x0oblocks c_x0oblocks r) := by
  unfold wire_Machine_Rand.m at hm
  refine Vk.enter [(0, .pointer (some ⟨b_x0, 0, none⟩)), (1, .int .i64 x1)] Try.func89 rfl Try.ntmps89 (by kernel_rfl) (Nat.le_of_ble_eq_true (by kernel_rfl)) ho fun a hs => ?_
  refine Vk.seq fun K1 hK1 => ?_
  refine Vk.region ?_
  refine Vk.pures 1 [(4, .int .i64 0)] hs (by kernel_rfl) fun a hs => ?_
  replace hs := hs.pick [0, 1] (L' := [(0, .pointer (some ⟨b_x0, 0, none⟩)), (1, .int .i64 x1)]) (by kernel_rfl)
  refine Vk.done (by kernel_rfl) ?_
  refine hK1 _ _ ?_
  clear hK1
  refine Vk.seq fun K2 hK2 => ?_
  refine Vk.region ?_
  refine Vk.pures 3 [(7, .agg (vals [C.int .i64 1, C.int .i64 x1, C.int .i64 (-1), C.int .i64 (-1), C.int .i64 (-1), C.int .u64 0])), (6, .int .i64 x1), (5, .pointer (some ⟨b_x0, 0, none⟩))] hs (by kernel_rfl) fun a hs => ?_
  obtain ⟨v_5, h_4, hm⟩ := bind_t hm
  refine Vk.step (Vk.call (some 8) 60 #[.pointer (some ⟨b_x0, 0, none⟩), .agg (vals [C.int .i64 1, C.int .i64 x1, C.int .i64 (-1), C.int .i64 (-1), C.int .i64 (-1), C.int .u64 0]), .int .u64 0] hs (by kernel_rfl) (by kernel_rfl) (by kernel_rfl) ?_)
  refine (wire_Machine_Do.ok k x0 (⟨1, x1, (-1), (-1), (-1), 0⟩ : Tapi_Op) 0 v_5 h_4 κ w (S) b_x0 b_x0otape A_x0otapeowords c_x0otapeowords A_x0oops c_x0oops A_x0ovalues c_x0ovalues A_x0oblocks c_x0oblocks (Own.to hs.own [0, 1, 2, 3, 4, 5] 6 (by kernel_rfl) (by kernel_rfl))).mono ?_
  rintro _ w ⟨Ar3o0otapeowords_6, cr3o0otapeowords_7, Ar3o0oops_8, cr3o0oops_9, Ar3o0ovalues_10, cr3o0ovalues_11, Ar3o0oblocks_12, cr3o0oblocks_13, rfl, how⟩
  refine ⟨_, _, _, rfl, how, fun a hs => ?_⟩
  refine Vk.pures 1 [(4, .int .i64 v_5.1)] hs (by kernel_rfl) fun a hs => ?_
  replace hs := hs.pick [4] (L' := [(4, .int .i64 v_5.1)]) (by kernel_rfl)
  refine Vk.done (by kernel_rfl) ?_
  refine hK2 _ _ ?_
  clear hK2
  refine wp_ret ?_
  exact Vk.ret1 (P := Try.prog) (fn := Try.f89) (R := wire_Machine_Rand.R κ S x0 x1 b_x0 b_x0otape A_x0otapeowords c_x0otapeowords A_x0oops c_x0oops A_x0ovalues c_x0ovalues A_x0oblocks c_x0oblocks r) (.int .i64 v_5.1) hs rfl (by kernel_rfl) (by obtain rfl := Option.some.inj hm; exact ⟨Ar3o0otapeowords_6, cr3o0otapeowords_7, Ar3o0oops_8, cr3o0oops_9, Ar3o0ovalues_10, cr3o0ovalues_11, Ar3o0oblocks_12, cr3o0oblocks_13, rfl, (Own.to hs.own [0, 1, 2, 3, 4, 5] 6 (by kernel_rfl) (by kernel_rfl))⟩)


abbrev wire_Machine_Open.R (κ : Ctx) (S : List HP) (x0 : Twire_Machine) (x1 : Int) (x2 : Int) (x3 : Int) (b_x0 : Nat) (b_x0otape : Nat) (A_x0otapeowords : Option Addr) (c_x0otapeowords : Nat) (A_x0oops : Option Addr) (c_x0oops : Nat) (A_x0ovalues : Option Addr) (c_x0ovalues : Nat) (A_x0oblocks : Option Addr) (c_x0oblocks : Nat) (r : (Int × Twire_Machine)) : Ending → World → Prop := fun e w' => ∃ (A_y0otapeowords : Option Addr), ∃ (c_y0otapeowords : Nat), ∃ (A_y0oops : Option Addr), ∃ (c_y0oops : Nat), ∃ (A_y0ovalues : Option Addr), ∃ (c_y0ovalues : Nat), ∃ (A_y0oblocks : Option Addr), ∃ (c_y0oblocks : Nat), e = .returned (.int .u64 r.1) ∧ Own κ w' (pt b_x0 (blk (Twire_Machine.obj r.2 b_x0otape A_y0oops c_y0oops A_y0ovalues c_y0ovalues A_y0oblocks c_y0oblocks) 151) :: pt b_x0otape (blk (Ttape_Tape.obj r.2.tape A_y0otapeowords c_y0otapeowords) 158) :: rowp A_y0otapeowords c_y0otapeowords 23 1 (eI .u64) r.2.tape.words :: rowp A_y0oops c_y0oops 32 6 Tapi_Op.cells r.2.ops :: rowp A_y0ovalues c_y0ovalues 23 1 (eI .u64) r.2.values :: rowp A_y0oblocks c_y0oblocks 144 3 Tapi_Span.cells r.2.blocks :: S)
def wire_Machine_Open.m (k : Nat) (x0 : Twire_Machine) (x1 : Int) (x2 : Int) (x3 : Int) : Option (Int × Twire_Machine) := (wire_Machine_Do.m k x0 (⟨12, (-1), x1, x2, x3, 0⟩ : Tapi_Op) 0).bind fun v_5 => (bif decide (v_5.1 < 0) then some (0, v_5.2) else (bif v_5.2.dry then some (18446744073709551615, v_5.2) else (if 0 ≤ v_5.1 then (v_5.2.values[v_5.1.toNat]?).bind fun e_23 => some (e_23, v_5.2) else none)))

set_option maxRecDepth 100000 in
set_option maxHeartbeats 4000000 in
theorem wire_Machine_Open.ok (k : Nat) (x0 : Twire_Machine) (x1 : Int) (x2 : Int) (x3 : Int) (r : (Int × Twire_Machine)) (hm : wire_Machine_Open.m k x0 x1 x2 x3 = some r) (κ : Ctx) (w : World) (S : List HP) (b_x0 : Nat) (b_x0otape : Nat) (A_x0otapeowords : Option Addr) (c_x0otapeowords : Nat) (A_x0oops : Option Addr) (c_x0oops : Nat) (A_x0ovalues : Option Addr) (c_x0ovalues : Nat) (A_x0oblocks : Option Addr) (c_x0oblocks : Nat) (ho : Own κ w (pt b_x0 (blk (Twire_Machine.obj x0 b_x0otape A_x0oops c_x0oops A_x0ovalues c_x0ovalues A_x0oblocks c_x0oblocks) 151) :: pt b_x0otape (blk (Ttape_Tape.obj x0.tape A_x0otapeowords c_x0otapeowords) 158) :: rowp A_x0otapeowords c_x0otapeowords 23 1 (eI .u64) x0.tape.words :: rowp A_x0oops c_x0oops 32 6 Tapi_Op.cells x0.ops :: rowp A_x0ovalues c_x0ovalues 23 1 (eI .u64) x0.values :: rowp A_x0oblocks c_x0oblocks 144 3 Tapi_Span.cells x0.blocks :: S)) :
    Calls Try.prog 98 #[.pointer (some ⟨b_x0, 0, none⟩), .int .i64 x1, .int .i64 x2, .int .i64 x3] w (wire_Machine_Open.R κ S x0 x1 x2 x3 b_x0 b_x0otape A_x0otapeowords c_x0otapeowords A_x0oops c_x0oops A_x0ovalues c_x0ovalues A_x0oblocks c_x0oblocks r) := by
  unfold wire_Machine_Open.m at hm
  refine Vk.enter [(0, .pointer (some ⟨b_x0, 0, none⟩)), (1, .int .i64 x1), (2, .int .i64 x2), (3, .int .i64 x3)] Try.func98 rfl Try.ntmps98 (by kernel_rfl) (Nat.le_of_ble_eq_true (by kernel_rfl)) ho fun a hs => ?_
  refine Vk.seq fun K1 hK1 => ?_
  refine Vk.region ?_
  refine Vk.pures 1 [(8, .int .u64 0)] hs (by kernel_rfl) fun a hs => ?_
  replace hs := hs.pick [0, 1, 2, 3] (L' := [(0, .pointer (some ⟨b_x0, 0, none⟩)), (1, .int .i64 x1), (2, .int .i64 x2), (3, .int .i64 x3)]) (by kernel_rfl)
  refine Vk.done (by kernel_rfl) ?_
  refine hK1 _ _ ?_
  clear hK1
  refine Vk.seq fun K2 hK2 => ?_
  refine Vk.region ?_
  refine Vk.pures 5 [(14, .agg (vals [C.int .i64 12, C.int .i64 (-1), C.int .i64 x1, C.int .i64 x2, C.int .i64 x3, C.int .u64 0])), (13, .int .i64 x3), (12, .int .i64 x2), (11, .int .i64 x1), (10, .pointer (some ⟨b_x0, 0, none⟩))] hs (by kernel_rfl) fun a hs => ?_
  obtain ⟨v_5, h_4, hm⟩ := bind_t hm
  refine Vk.step (Vk.call (some 15) 60 #[.pointer (some ⟨b_x0, 0, none⟩), .agg (vals [C.int .i64 12, C.int .i64 (-1), C.int .i64 x1, C.int .i64 x2, C.int .i64 x3, C.int .u64 0]), .int .u64 0] hs (by kernel_rfl) (by kernel_rfl) (by kernel_rfl) ?_)
  refine (wire_Machine_Do.ok k x0 (⟨12, (-1), x1, x2, x3, 0⟩ : Tapi_Op) 0 v_5 h_4 κ w (S) b_x0 b_x0otape A_x0otapeowords c_x0otapeowords A_x0oops c_x0oops A_x0ovalues c_x0ovalues A_x0oblocks c_x0oblocks (Own.to hs.own [0, 1, 2, 3, 4, 5] 6 (by kernel_rfl) (by kernel_rfl))).mono ?_
  rintro _ w ⟨Ar3o0otapeowords_6, cr3o0otapeowords_7, Ar3o0oops_8, cr3o0oops_9, Ar3o0ovalues_10, cr3o0ovalues_11, Ar3o0oblocks_12, cr3o0oblocks_13, rfl, how⟩
  refine ⟨_, _, _, rfl, how, fun a hs => ?_⟩
  refine Vk.pures 1 [(9, .int .i64 v_5.1)] hs (by kernel_rfl) fun a hs => ?_
  replace hs := hs.pick [0, 9] (L' := [(0, .pointer (some ⟨b_x0, 0, none⟩)), (9, .int .i64 v_5.1)]) (by kernel_rfl)
  refine Vk.done (by kernel_rfl) ?_
  refine hK2 _ _ ?_
  clear hK2
  refine Vk.seq fun K14 hK14 => ?_
  refine wp_block ?_
  refine Vk.seq fun K15 hK15 => ?_
  refine Vk.region ?_
  refine Vk.pures 3 [(16, .bool (decide (v_5.1 < 0))), (18, .bool (decide (v_5.1 < 0))), (17, .int .i64 v_5.1)] hs (by kernel_rfl) fun a hs => ?_
  replace hs := hs.pick [0, 9, 16] (L' := [(0, .pointer (some ⟨b_x0, 0, none⟩)), (9, .int .i64 v_5.1), (16, .bool (decide (v_5.1 < 0)))]) (by kernel_rfl)
  refine Vk.done (by kernel_rfl) ?_
  refine hK15 _ _ ?_
  clear hK15
  refine Vk.condS (b := decide (v_5.1 < 0)) hs (by kernel_rfl) (by kernel_rfl) (fun hb => ?_) (fun hb => ?_)
  · replace hm := bif_t hm hb
    refine Vk.seq fun K16 hK16 => ?_
    refine Vk.region ?_
    refine Vk.pures 1 [(8, .int .u64 0)] hs (by kernel_rfl) fun a hs => ?_
    replace hs := hs.pick [8] (L' := [(8, .int .u64 0)]) (by kernel_rfl)
    refine Vk.done (by kernel_rfl) ?_
    refine hK16 _ _ ?_
    clear hK16
    refine wp_ret ?_
    exact Vk.ret1 (P := Try.prog) (fn := Try.f98) (R := wire_Machine_Open.R κ S x0 x1 x2 x3 b_x0 b_x0otape A_x0otapeowords c_x0otapeowords A_x0oops c_x0oops A_x0ovalues c_x0ovalues A_x0oblocks c_x0oblocks r) (.int .u64 0) hs rfl (by kernel_rfl) (by obtain rfl := Option.some.inj hm; exact ⟨Ar3o0otapeowords_6, cr3o0otapeowords_7, Ar3o0oops_8, cr3o0oops_9, Ar3o0ovalues_10, cr3o0ovalues_11, Ar3o0oblocks_12, cr3o0oblocks_13, rfl, (Own.to hs.own [0, 1, 2, 3, 4, 5] 6 (by kernel_rfl) (by kernel_rfl))⟩)
  · replace hm := bif_f hm hb
    refine Vk.seq fun K17 hK17 => ?_
    refine Vk.region ?_
    refine Vk.pures 3 [(22, .pointer (some ⟨b_x0, 5, none⟩)), (21, .pointer (some ⟨b_x0, 0, none⟩)), (20, .pointer (some ⟨b_x0, 0, none⟩))] hs (by kernel_rfl) fun a hs => ?_
    refine Vk.step (Vk.value (some 23) (.bool v_5.2.dry) hs (by kernel_rfl) (op := (.load 4 (.tmp 22))) (by kernel_rfl) (fun o ho => run_load1 (b := b_x0) (off := 5) (c := C.bool v_5.2.dry) ho (by kernel_rfl) (by kernel_rfl) (Cell.own 0 rfl (by kernel_rfl)) _ hs.own) fun a hs => ?_)
    refine Vk.pures 1 [(19, .bool v_5.2.dry)] hs (by kernel_rfl) fun a hs => ?_
    replace hs := hs.pick [0, 9, 19] (L' := [(0, .pointer (some ⟨b_x0, 0, none⟩)), (9, .int .i64 v_5.1), (19, .bool v_5.2.dry)]) (by kernel_rfl)
    refine Vk.done (by kernel_rfl) ?_
    refine hK17 _ _ ?_
    clear hK17
    refine Vk.condS (b := v_5.2.dry) hs (by kernel_rfl) (by kernel_rfl) (fun hb => ?_) (fun hb => ?_)
    · replace hm := bif_t hm hb
      refine Vk.seq fun K18 hK18 => ?_
      refine Vk.region ?_
      refine Vk.pures 1 [(8, .int .u64 18446744073709551615)] hs (by kernel_rfl) fun a hs => ?_
      replace hs := hs.pick [8] (L' := [(8, .int .u64 18446744073709551615)]) (by kernel_rfl)
      refine Vk.done (by kernel_rfl) ?_
      refine hK18 _ _ ?_
      clear hK18
      refine wp_ret ?_
      exact Vk.ret1 (P := Try.prog) (fn := Try.f98) (R := wire_Machine_Open.R κ S x0 x1 x2 x3 b_x0 b_x0otape A_x0otapeowords c_x0otapeowords A_x0oops c_x0oops A_x0ovalues c_x0ovalues A_x0oblocks c_x0oblocks r) (.int .u64 18446744073709551615) hs rfl (by kernel_rfl) (by obtain rfl := Option.some.inj hm; exact ⟨Ar3o0otapeowords_6, cr3o0otapeowords_7, Ar3o0oops_8, cr3o0oops_9, Ar3o0ovalues_10, cr3o0ovalues_11, Ar3o0oblocks_12, cr3o0oblocks_13, rfl, (Own.to hs.own [0, 1, 2, 3, 4, 5] 6 (by kernel_rfl) (by kernel_rfl))⟩)
    · replace hm := bif_f hm hb
      refine wp_skip ?_
      refine hK14 _ _ ?_
      clear hK14
      refine Vk.seq fun K19 hK19 => ?_
      refine Vk.region ?_
      refine Vk.pures 3 [(26, .pointer (some ⟨b_x0, 11, none⟩)), (25, .pointer (some ⟨b_x0, 0, none⟩)), (24, .pointer (some ⟨b_x0, 0, none⟩))] hs (by kernel_rfl) fun a hs => ?_
      refine Vk.step (Vk.value (some 27) (.slice Ar3o0ovalues_10 v_5.2.values.length cr3o0ovalues_11) hs (by kernel_rfl) (op := (.load 73 (.tmp 26))) (by kernel_rfl) (fun o ho => run_load1 (b := b_x0) (off := 11) (c := C.slc Ar3o0ovalues_10 v_5.2.values.length cr3o0ovalues_11) ho (by kernel_rfl) (by kernel_rfl) (Cell.own 0 rfl (by kernel_rfl)) _ hs.own) fun a hs => ?_)
      refine Vk.pures 1 [(28, .int .i64 v_5.1)] hs (by kernel_rfl) fun a hs => ?_
      obtain ⟨h_20, hm⟩ := ite_t hm
      obtain ⟨e_23, h_21, hm⟩ := bind_t hm
      obtain ⟨b_24, o_25, hA_26, h_22⟩ := Sl.elem (Own.rowSl 0 (Own.to (S' := rowp Ar3o0ovalues_10 cr3o0ovalues_11 23 1 (eI .u64) v_5.2.values :: S) hs.own [4] 6 (by kernel_rfl) (by kernel_rfl)) rfl) h_21
      refine Vk.step (Vk.value (some 29) (.pointer (some ⟨b_24, o_25 + v_5.1.toNat * 1, none⟩)) hs (by kernel_rfl) (op := (.indexAddr 73 (.tmp 27) (.tmp 28))) (by kernel_rfl) (fun o ho => run_idxSlc (k := .i64) ho (cap := cr3o0ovalues_11) (len := v_5.2.values.length) ((congrArg (fun A => Value.slice A (v_5.2.values.length) (cr3o0ovalues_11)) hA_26) ▸ (by kernel_rfl)) (by kernel_rfl) (by kernel_rfl) (idx_ok h_20 h_21) _) fun a hs => ?_)
      refine Vk.step (Vk.value (some 30) (.int .u64 e_23) hs (by kernel_rfl) (op := (.load 23 (.tmp 29))) (by kernel_rfl) (fun o ho => run_load1 (c := C.int .u64 e_23) ho (by kernel_rfl) (by kernel_rfl) (fun w ho => h_22 w ho 0 _ rfl) _ (Own.to (S' := rowp Ar3o0ovalues_10 cr3o0ovalues_11 23 1 (eI .u64) v_5.2.values :: S) hs.own [4] 6 (by kernel_rfl) (by kernel_rfl))) fun a hs => ?_)
      refine Vk.pures 1 [(8, .int .u64 e_23)] hs (by kernel_rfl) fun a hs => ?_
      replace hs := hs.pick [8] (L' := [(8, .int .u64 e_23)]) (by kernel_rfl)
      refine Vk.done (by kernel_rfl) ?_
      refine hK19 _ _ ?_
      clear hK19
      refine wp_ret ?_
      exact Vk.ret1 (P := Try.prog) (fn := Try.f98) (R := wire_Machine_Open.R κ S x0 x1 x2 x3 b_x0 b_x0otape A_x0otapeowords c_x0otapeowords A_x0oops c_x0oops A_x0ovalues c_x0ovalues A_x0oblocks c_x0oblocks r) (.int .u64 e_23) hs rfl (by kernel_rfl) (by obtain rfl := Option.some.inj hm; exact ⟨Ar3o0otapeowords_6, cr3o0otapeowords_7, Ar3o0oops_8, cr3o0oops_9, Ar3o0ovalues_10, cr3o0ovalues_11, Ar3o0oblocks_12, cr3o0oblocks_13, rfl, (Own.to hs.own [0, 1, 2, 3, 4, 5] 6 (by kernel_rfl) (by kernel_rfl))⟩)


abbrev wire_Machine_N.R (κ : Ctx) (S : List HP) (x0 : Twire_Machine) (b_x0 : Nat) (b_x0otape : Nat) (A_x0otapeowords : Option Addr) (c_x0otapeowords : Nat) (A_x0oops : Option Addr) (c_x0oops : Nat) (A_x0ovalues : Option Addr) (c_x0ovalues : Nat) (A_x0oblocks : Option Addr) (c_x0oblocks : Nat) (r : Int) : Ending → World → Prop := fun e w' => e = .returned (.int .i64 r) ∧ Own κ w' (pt b_x0 (blk (Twire_Machine.obj x0 b_x0otape A_x0oops c_x0oops A_x0ovalues c_x0ovalues A_x0oblocks c_x0oblocks) 151) :: pt b_x0otape (blk (Ttape_Tape.obj x0.tape A_x0otapeowords c_x0otapeowords) 158) :: rowp A_x0otapeowords c_x0otapeowords 23 1 (eI .u64) x0.tape.words :: rowp A_x0oops c_x0oops 32 6 Tapi_Op.cells x0.ops :: rowp A_x0ovalues c_x0ovalues 23 1 (eI .u64) x0.values :: rowp A_x0oblocks c_x0oblocks 144 3 Tapi_Span.cells x0.blocks :: S)
def wire_Machine_N.m (k : Nat) (x0 : Twire_Machine) : Option Int := some x0.n

set_option maxRecDepth 100000 in
set_option maxHeartbeats 4000000 in
theorem wire_Machine_N.ok (k : Nat) (x0 : Twire_Machine) (r : Int) (hm : wire_Machine_N.m k x0 = some r) (κ : Ctx) (w : World) (S : List HP) (b_x0 : Nat) (b_x0otape : Nat) (A_x0otapeowords : Option Addr) (c_x0otapeowords : Nat) (A_x0oops : Option Addr) (c_x0oops : Nat) (A_x0ovalues : Option Addr) (c_x0ovalues : Nat) (A_x0oblocks : Option Addr) (c_x0oblocks : Nat) (ho : Own κ w (pt b_x0 (blk (Twire_Machine.obj x0 b_x0otape A_x0oops c_x0oops A_x0ovalues c_x0ovalues A_x0oblocks c_x0oblocks) 151) :: pt b_x0otape (blk (Ttape_Tape.obj x0.tape A_x0otapeowords c_x0otapeowords) 158) :: rowp A_x0otapeowords c_x0otapeowords 23 1 (eI .u64) x0.tape.words :: rowp A_x0oops c_x0oops 32 6 Tapi_Op.cells x0.ops :: rowp A_x0ovalues c_x0ovalues 23 1 (eI .u64) x0.values :: rowp A_x0oblocks c_x0oblocks 144 3 Tapi_Span.cells x0.blocks :: S)) :
    Calls Try.prog 88 #[.pointer (some ⟨b_x0, 0, none⟩)] w (wire_Machine_N.R κ S x0 b_x0 b_x0otape A_x0otapeowords c_x0otapeowords A_x0oops c_x0oops A_x0ovalues c_x0ovalues A_x0oblocks c_x0oblocks r) := by
  unfold wire_Machine_N.m at hm
  refine Vk.enter [(0, .pointer (some ⟨b_x0, 0, none⟩))] Try.func88 rfl Try.ntmps88 (by kernel_rfl) (Nat.le_of_ble_eq_true (by kernel_rfl)) ho fun a hs => ?_
  refine Vk.seq fun K1 hK1 => ?_
  refine Vk.region ?_
  refine Vk.pures 1 [(2, .int .i64 0)] hs (by kernel_rfl) fun a hs => ?_
  replace hs := hs.pick [0] (L' := [(0, .pointer (some ⟨b_x0, 0, none⟩))]) (by kernel_rfl)
  refine Vk.done (by kernel_rfl) ?_
  refine hK1 _ _ ?_
  clear hK1
  refine Vk.seq fun K2 hK2 => ?_
  refine Vk.seq fun K3 hK3 => ?_
  refine Vk.region ?_
  refine Vk.pures 2 [(4, .bool false), (3, .pointer (some ⟨b_x0, 0, none⟩))] hs (by kernel_rfl) fun a hs => ?_
  replace hs := hs.pick [0, 4] (L' := [(0, .pointer (some ⟨b_x0, 0, none⟩)), (4, .bool false)]) (by kernel_rfl)
  refine Vk.done (by kernel_rfl) ?_
  refine hK3 _ _ ?_
  clear hK3
  refine Vk.condF hs (by kernel_rfl) (by kernel_rfl) ?_
  refine wp_skip ?_
  refine hK2 _ _ ?_
  clear hK2
  refine Vk.seq fun K4 hK4 => ?_
  refine Vk.region ?_
  refine Vk.pures 3 [(7, .pointer (some ⟨b_x0, 0, none⟩)), (6, .pointer (some ⟨b_x0, 0, none⟩)), (5, .pointer (some ⟨b_x0, 0, none⟩))] hs (by kernel_rfl) fun a hs => ?_
  refine Vk.step (Vk.value (some 8) (.int .i64 x0.n) hs (by kernel_rfl) (op := (.load 3 (.tmp 7))) (by kernel_rfl) (fun o ho => run_load1 (b := b_x0) (off := 0) (c := C.int .i64 x0.n) ho (by kernel_rfl) (by kernel_rfl) (Cell.own 0 rfl (by kernel_rfl)) _ hs.own) fun a hs => ?_)
  refine Vk.pures 1 [(2, .int .i64 x0.n)] hs (by kernel_rfl) fun a hs => ?_
  replace hs := hs.pick [2] (L' := [(2, .int .i64 x0.n)]) (by kernel_rfl)
  refine Vk.done (by kernel_rfl) ?_
  refine hK4 _ _ ?_
  clear hK4
  refine wp_ret ?_
  exact Vk.ret1 (P := Try.prog) (fn := Try.f88) (R := wire_Machine_N.R κ S x0 b_x0 b_x0otape A_x0otapeowords c_x0otapeowords A_x0oops c_x0oops A_x0ovalues c_x0ovalues A_x0oblocks c_x0oblocks r) (.int .i64 x0.n) hs rfl (by kernel_rfl) (by obtain rfl := Option.some.inj hm; exact ⟨rfl, (Own.to hs.own [0, 1, 2, 3, 4, 5] 6 (by kernel_rfl) (by kernel_rfl))⟩)


abbrev wire_Machine_Draws.R (κ : Ctx) (S : List HP) (x0 : Twire_Machine) (b_x0 : Nat) (b_x0otape : Nat) (A_x0otapeowords : Option Addr) (c_x0otapeowords : Nat) (A_x0oops : Option Addr) (c_x0oops : Nat) (A_x0ovalues : Option Addr) (c_x0ovalues : Nat) (A_x0oblocks : Option Addr) (c_x0oblocks : Nat) (r : Int) : Ending → World → Prop := fun e w' => e = .returned (.int .i64 r) ∧ Own κ w' (pt b_x0 (blk (Twire_Machine.obj x0 b_x0otape A_x0oops c_x0oops A_x0ovalues c_x0ovalues A_x0oblocks c_x0oblocks) 151) :: pt b_x0otape (blk (Ttape_Tape.obj x0.tape A_x0otapeowords c_x0otapeowords) 158) :: rowp A_x0otapeowords c_x0otapeowords 23 1 (eI .u64) x0.tape.words :: rowp A_x0oops c_x0oops 32 6 Tapi_Op.cells x0.ops :: rowp A_x0ovalues c_x0ovalues 23 1 (eI .u64) x0.values :: rowp A_x0oblocks c_x0oblocks 144 3 Tapi_Span.cells x0.blocks :: S)
def wire_Machine_Draws.m (k : Nat) (x0 : Twire_Machine) : Option Int := some x0.draws

set_option maxRecDepth 100000 in
set_option maxHeartbeats 4000000 in
theorem wire_Machine_Draws.ok (k : Nat) (x0 : Twire_Machine) (r : Int) (hm : wire_Machine_Draws.m k x0 = some r) (κ : Ctx) (w : World) (S : List HP) (b_x0 : Nat) (b_x0otape : Nat) (A_x0otapeowords : Option Addr) (c_x0otapeowords : Nat) (A_x0oops : Option Addr) (c_x0oops : Nat) (A_x0ovalues : Option Addr) (c_x0ovalues : Nat) (A_x0oblocks : Option Addr) (c_x0oblocks : Nat) (ho : Own κ w (pt b_x0 (blk (Twire_Machine.obj x0 b_x0otape A_x0oops c_x0oops A_x0ovalues c_x0ovalues A_x0oblocks c_x0oblocks) 151) :: pt b_x0otape (blk (Ttape_Tape.obj x0.tape A_x0otapeowords c_x0otapeowords) 158) :: rowp A_x0otapeowords c_x0otapeowords 23 1 (eI .u64) x0.tape.words :: rowp A_x0oops c_x0oops 32 6 Tapi_Op.cells x0.ops :: rowp A_x0ovalues c_x0ovalues 23 1 (eI .u64) x0.values :: rowp A_x0oblocks c_x0oblocks 144 3 Tapi_Span.cells x0.blocks :: S)) :
    Calls Try.prog 99 #[.pointer (some ⟨b_x0, 0, none⟩)] w (wire_Machine_Draws.R κ S x0 b_x0 b_x0otape A_x0otapeowords c_x0otapeowords A_x0oops c_x0oops A_x0ovalues c_x0ovalues A_x0oblocks c_x0oblocks r) := by
  unfold wire_Machine_Draws.m at hm
  refine Vk.enter [(0, .pointer (some ⟨b_x0, 0, none⟩))] Try.func99 rfl Try.ntmps99 (by kernel_rfl) (Nat.le_of_ble_eq_true (by kernel_rfl)) ho fun a hs => ?_
  refine Vk.seq fun K1 hK1 => ?_
  refine Vk.region ?_
  refine Vk.pures 1 [(2, .int .i64 0)] hs (by kernel_rfl) fun a hs => ?_
  replace hs := hs.pick [0] (L' := [(0, .pointer (some ⟨b_x0, 0, none⟩))]) (by kernel_rfl)
  refine Vk.done (by kernel_rfl) ?_
  refine hK1 _ _ ?_
  clear hK1
  refine Vk.seq fun K2 hK2 => ?_
  refine Vk.seq fun K3 hK3 => ?_
  refine Vk.region ?_
  refine Vk.pures 2 [(4, .bool false), (3, .pointer (some ⟨b_x0, 0, none⟩))] hs (by kernel_rfl) fun a hs => ?_
  replace hs := hs.pick [0, 4] (L' := [(0, .pointer (some ⟨b_x0, 0, none⟩)), (4, .bool false)]) (by kernel_rfl)
  refine Vk.done (by kernel_rfl) ?_
  refine hK3 _ _ ?_
  clear hK3
  refine Vk.condF hs (by kernel_rfl) (by kernel_rfl) ?_
  refine wp_skip ?_
  refine hK2 _ _ ?_
  clear hK2
  refine Vk.seq fun K4 hK4 => ?_
  refine Vk.region ?_
  refine Vk.pures 3 [(7, .pointer (some ⟨b_x0, 4, none⟩)), (6, .pointer (some ⟨b_x0, 0, none⟩)), (5, .pointer (some ⟨b_x0, 0, none⟩))] hs (by kernel_rfl) fun a hs => ?_
  refine Vk.step (Vk.value (some 8) (.int .i64 x0.draws) hs (by kernel_rfl) (op := (.load 3 (.tmp 7))) (by kernel_rfl) (fun o ho => run_load1 (b := b_x0) (off := 4) (c := C.int .i64 x0.draws) ho (by kernel_rfl) (by kernel_rfl) (Cell.own 0 rfl (by kernel_rfl)) _ hs.own) fun a hs => ?_)
  refine Vk.pures 1 [(2, .int .i64 x0.draws)] hs (by kernel_rfl) fun a hs => ?_
  replace hs := hs.pick [2] (L' := [(2, .int .i64 x0.draws)]) (by kernel_rfl)
  refine Vk.done (by kernel_rfl) ?_
  refine hK4 _ _ ?_
  clear hK4
  refine wp_ret ?_
  exact Vk.ret1 (P := Try.prog) (fn := Try.f99) (R := wire_Machine_Draws.R κ S x0 b_x0 b_x0otape A_x0otapeowords c_x0otapeowords A_x0oops c_x0oops A_x0ovalues c_x0ovalues A_x0oblocks c_x0oblocks r) (.int .i64 x0.draws) hs rfl (by kernel_rfl) (by obtain rfl := Option.some.inj hm; exact ⟨rfl, (Own.to hs.own [0, 1, 2, 3, 4, 5] 6 (by kernel_rfl) (by kernel_rfl))⟩)


abbrev wire_Machine_Const.R (κ : Ctx) (S : List HP) (x0 : Twire_Machine) (x1 : Int) (x2 : Int) (b_x0 : Nat) (b_x0otape : Nat) (A_x0otapeowords : Option Addr) (c_x0otapeowords : Nat) (A_x0oops : Option Addr) (c_x0oops : Nat) (A_x0ovalues : Option Addr) (c_x0ovalues : Nat) (A_x0oblocks : Option Addr) (c_x0oblocks : Nat) (r : (Int × Twire_Machine)) : Ending → World → Prop := fun e w' => ∃ (A_y0otapeowords : Option Addr), ∃ (c_y0otapeowords : Nat), ∃ (A_y0oops : Option Addr), ∃ (c_y0oops : Nat), ∃ (A_y0ovalues : Option Addr), ∃ (c_y0ovalues : Nat), ∃ (A_y0oblocks : Option Addr), ∃ (c_y0oblocks : Nat), e = .returned (.int .i64 r.1) ∧ Own κ w' (pt b_x0 (blk (Twire_Machine.obj r.2 b_x0otape A_y0oops c_y0oops A_y0ovalues c_y0ovalues A_y0oblocks c_y0oblocks) 151) :: pt b_x0otape (blk (Ttape_Tape.obj r.2.tape A_y0otapeowords c_y0otapeowords) 158) :: rowp A_y0otapeowords c_y0otapeowords 23 1 (eI .u64) r.2.tape.words :: rowp A_y0oops c_y0oops 32 6 Tapi_Op.cells r.2.ops :: rowp A_y0ovalues c_y0ovalues 23 1 (eI .u64) r.2.values :: rowp A_y0oblocks c_y0oblocks 144 3 Tapi_Span.cells r.2.blocks :: S)
def wire_Machine_Const.m (k : Nat) (x0 : Twire_Machine) (x1 : Int) (x2 : Int) : Option (Int × Twire_Machine) := (wire_Machine_Do.m k x0 (⟨3, x1, (-1), (-1), (-1), x2⟩ : Tapi_Op) 0).bind fun v_5 => some (v_5.1, v_5.2)

set_option maxRecDepth 100000 in
set_option maxHeartbeats 4000000 in
theorem wire_Machine_Const.ok (k : Nat) (x0 : Twire_Machine) (x1 : Int) (x2 : Int) (r : (Int × Twire_Machine)) (hm : wire_Machine_Const.m k x0 x1 x2 = some r) (κ : Ctx) (w : World) (S : List HP) (b_x0 : Nat) (b_x0otape : Nat) (A_x0otapeowords : Option Addr) (c_x0otapeowords : Nat) (A_x0oops : Option Addr) (c_x0oops : Nat) (A_x0ovalues : Option Addr) (c_x0ovalues : Nat) (A_x0oblocks : Option Addr) (c_x0oblocks : Nat) (ho : Own κ w (pt b_x0 (blk (Twire_Machine.obj x0 b_x0otape A_x0oops c_x0oops A_x0ovalues c_x0ovalues A_x0oblocks c_x0oblocks) 151) :: pt b_x0otape (blk (Ttape_Tape.obj x0.tape A_x0otapeowords c_x0otapeowords) 158) :: rowp A_x0otapeowords c_x0otapeowords 23 1 (eI .u64) x0.tape.words :: rowp A_x0oops c_x0oops 32 6 Tapi_Op.cells x0.ops :: rowp A_x0ovalues c_x0ovalues 23 1 (eI .u64) x0.values :: rowp A_x0oblocks c_x0oblocks 144 3 Tapi_Span.cells x0.blocks :: S)) :
    Calls Try.prog 100 #[.pointer (some ⟨b_x0, 0, none⟩), .int .i64 x1, .int .u64 x2] w (wire_Machine_Const.R κ S x0 x1 x2 b_x0 b_x0otape A_x0otapeowords c_x0otapeowords A_x0oops c_x0oops A_x0ovalues c_x0ovalues A_x0oblocks c_x0oblocks r) := by
  unfold wire_Machine_Const.m at hm
  refine Vk.enter [(0, .pointer (some ⟨b_x0, 0, none⟩)), (1, .int .i64 x1), (2, .int .u64 x2)] Try.func100 rfl Try.ntmps100 (by kernel_rfl) (Nat.le_of_ble_eq_true (by kernel_rfl)) ho fun a hs => ?_
  refine Vk.seq fun K1 hK1 => ?_
  refine Vk.region ?_
  refine Vk.pures 1 [(6, .int .i64 0)] hs (by kernel_rfl) fun a hs => ?_
  replace hs := hs.pick [0, 1, 2] (L' := [(0, .pointer (some ⟨b_x0, 0, none⟩)), (1, .int .i64 x1), (2, .int .u64 x2)]) (by kernel_rfl)
  refine Vk.done (by kernel_rfl) ?_
  refine hK1 _ _ ?_
  clear hK1
  refine Vk.seq fun K2 hK2 => ?_
  refine Vk.region ?_
  refine Vk.pures 4 [(10, .agg (vals [C.int .i64 3, C.int .i64 x1, C.int .i64 (-1), C.int .i64 (-1), C.int .i64 (-1), C.int .u64 x2])), (9, .int .u64 x2), (8, .int .i64 x1), (7, .pointer (some ⟨b_x0, 0, none⟩))] hs (by kernel_rfl) fun a hs => ?_
  obtain ⟨v_5, h_4, hm⟩ := bind_t hm
  refine Vk.step (Vk.call (some 11) 60 #[.pointer (some ⟨b_x0, 0, none⟩), .agg (vals [C.int .i64 3, C.int .i64 x1, C.int .i64 (-1), C.int .i64 (-1), C.int .i64 (-1), C.int .u64 x2]), .int .u64 0] hs (by kernel_rfl) (by kernel_rfl) (by kernel_rfl) ?_)
  refine (wire_Machine_Do.ok k x0 (⟨3, x1, (-1), (-1), (-1), x2⟩ : Tapi_Op) 0 v_5 h_4 κ w (S) b_x0 b_x0otape A_x0otapeowords c_x0otapeowords A_x0oops c_x0oops A_x0ovalues c_x0ovalues A_x0oblocks c_x0oblocks (Own.to hs.own [0, 1, 2, 3, 4, 5] 6 (by kernel_rfl) (by kernel_rfl))).mono ?_
  rintro _ w ⟨Ar3o0otapeowords_6, cr3o0otapeowords_7, Ar3o0oops_8, cr3o0oops_9, Ar3o0ovalues_10, cr3o0ovalues_11, Ar3o0oblocks_12, cr3o0oblocks_13, rfl, how⟩
  refine ⟨_, _, _, rfl, how, fun a hs => ?_⟩
  refine Vk.pures 1 [(6, .int .i64 v_5.1)] hs (by kernel_rfl) fun a hs => ?_
  replace hs := hs.pick [6] (L' := [(6, .int .i64 v_5.1)]) (by kernel_rfl)
  refine Vk.done (by kernel_rfl) ?_
  refine hK2 _ _ ?_
  clear hK2
  refine wp_ret ?_
  exact Vk.ret1 (P := Try.prog) (fn := Try.f100) (R := wire_Machine_Const.R κ S x0 x1 x2 b_x0 b_x0otape A_x0otapeowords c_x0otapeowords A_x0oops c_x0oops A_x0ovalues c_x0ovalues A_x0oblocks c_x0oblocks r) (.int .i64 v_5.1) hs rfl (by kernel_rfl) (by obtain rfl := Option.some.inj hm; exact ⟨Ar3o0otapeowords_6, cr3o0otapeowords_7, Ar3o0oops_8, cr3o0oops_9, Ar3o0ovalues_10, cr3o0ovalues_11, Ar3o0oblocks_12, cr3o0oblocks_13, rfl, (Own.to hs.own [0, 1, 2, 3, 4, 5] 6 (by kernel_rfl) (by kernel_rfl))⟩)


abbrev wire_Machine_Two.R (κ : Ctx) (S : List HP) (x0 : Twire_Machine) (x1 : Int) (x2 : Int) (x3 : Int) (x4 : Int) (b_x0 : Nat) (b_x0otape : Nat) (A_x0otapeowords : Option Addr) (c_x0otapeowords : Nat) (A_x0oops : Option Addr) (c_x0oops : Nat) (A_x0ovalues : Option Addr) (c_x0ovalues : Nat) (A_x0oblocks : Option Addr) (c_x0oblocks : Nat) (r : (Int × Twire_Machine)) : Ending → World → Prop := fun e w' => ∃ (A_y0otapeowords : Option Addr), ∃ (c_y0otapeowords : Nat), ∃ (A_y0oops : Option Addr), ∃ (c_y0oops : Nat), ∃ (A_y0ovalues : Option Addr), ∃ (c_y0ovalues : Nat), ∃ (A_y0oblocks : Option Addr), ∃ (c_y0oblocks : Nat), e = .returned (.int .i64 r.1) ∧ Own κ w' (pt b_x0 (blk (Twire_Machine.obj r.2 b_x0otape A_y0oops c_y0oops A_y0ovalues c_y0ovalues A_y0oblocks c_y0oblocks) 151) :: pt b_x0otape (blk (Ttape_Tape.obj r.2.tape A_y0otapeowords c_y0otapeowords) 158) :: rowp A_y0otapeowords c_y0otapeowords 23 1 (eI .u64) r.2.tape.words :: rowp A_y0oops c_y0oops 32 6 Tapi_Op.cells r.2.ops :: rowp A_y0ovalues c_y0ovalues 23 1 (eI .u64) r.2.values :: rowp A_y0oblocks c_y0oblocks 144 3 Tapi_Span.cells r.2.blocks :: S)
def wire_Machine_Two.m (k : Nat) (x0 : Twire_Machine) (x1 : Int) (x2 : Int) (x3 : Int) (x4 : Int) : Option (Int × Twire_Machine) := (wire_Machine_Do.m k x0 (⟨x1, x2, x3, x4, (-1), 0⟩ : Tapi_Op) 0).bind fun v_5 => some (v_5.1, v_5.2)

set_option maxRecDepth 100000 in
set_option maxHeartbeats 4000000 in
theorem wire_Machine_Two.ok (k : Nat) (x0 : Twire_Machine) (x1 : Int) (x2 : Int) (x3 : Int) (x4 : Int) (r : (Int × Twire_Machine)) (hm : wire_Machine_Two.m k x0 x1 x2 x3 x4 = some r) (κ : Ctx) (w : World) (S : List HP) (b_x0 : Nat) (b_x0otape : Nat) (A_x0otapeowords : Option Addr) (c_x0otapeowords : Nat) (A_x0oops : Option Addr) (c_x0oops : Nat) (A_x0ovalues : Option Addr) (c_x0ovalues : Nat) (A_x0oblocks : Option Addr) (c_x0oblocks : Nat) (ho : Own κ w (pt b_x0 (blk (Twire_Machine.obj x0 b_x0otape A_x0oops c_x0oops A_x0ovalues c_x0ovalues A_x0oblocks c_x0oblocks) 151) :: pt b_x0otape (blk (Ttape_Tape.obj x0.tape A_x0otapeowords c_x0otapeowords) 158) :: rowp A_x0otapeowords c_x0otapeowords 23 1 (eI .u64) x0.tape.words :: rowp A_x0oops c_x0oops 32 6 Tapi_Op.cells x0.ops :: rowp A_x0ovalues c_x0ovalues 23 1 (eI .u64) x0.values :: rowp A_x0oblocks c_x0oblocks 144 3 Tapi_Span.cells x0.blocks :: S)) :
    Calls Try.prog 101 #[.pointer (some ⟨b_x0, 0, none⟩), .int .i64 x1, .int .i64 x2, .int .i64 x3, .int .i64 x4] w (wire_Machine_Two.R κ S x0 x1 x2 x3 x4 b_x0 b_x0otape A_x0otapeowords c_x0otapeowords A_x0oops c_x0oops A_x0ovalues c_x0ovalues A_x0oblocks c_x0oblocks r) := by
  unfold wire_Machine_Two.m at hm
  refine Vk.enter [(0, .pointer (some ⟨b_x0, 0, none⟩)), (1, .int .i64 x1), (2, .int .i64 x2), (3, .int .i64 x3), (4, .int .i64 x4)] Try.func101 rfl Try.ntmps101 (by kernel_rfl) (Nat.le_of_ble_eq_true (by kernel_rfl)) ho fun a hs => ?_
  refine Vk.seq fun K1 hK1 => ?_
  refine Vk.region ?_
  refine Vk.pures 1 [(10, .int .i64 0)] hs (by kernel_rfl) fun a hs => ?_
  replace hs := hs.pick [0, 1, 2, 3, 4] (L' := [(0, .pointer (some ⟨b_x0, 0, none⟩)), (1, .int .i64 x1), (2, .int .i64 x2), (3, .int .i64 x3), (4, .int .i64 x4)]) (by kernel_rfl)
  refine Vk.done (by kernel_rfl) ?_
  refine hK1 _ _ ?_
  clear hK1
  refine Vk.seq fun K2 hK2 => ?_
  refine Vk.region ?_
  refine Vk.pures 6 [(16, .agg (vals [C.int .i64 x1, C.int .i64 x2, C.int .i64 x3, C.int .i64 x4, C.int .i64 (-1), C.int .u64 0])), (15, .int .i64 x4), (14, .int .i64 x3), (13, .int .i64 x2), (12, .int .i64 x1), (11, .pointer (some ⟨b_x0, 0, none⟩))] hs (by kernel_rfl) fun a hs => ?_
  obtain ⟨v_5, h_4, hm⟩ := bind_t hm
  refine Vk.step (Vk.call (some 17) 60 #[.pointer (some ⟨b_x0, 0, none⟩), .agg (vals [C.int .i64 x1, C.int .i64 x2, C.int .i64 x3, C.int .i64 x4, C.int .i64 (-1), C.int .u64 0]), .int .u64 0] hs (by kernel_rfl) (by kernel_rfl) (by kernel_rfl) ?_)
  refine (wire_Machine_Do.ok k x0 (⟨x1, x2, x3, x4, (-1), 0⟩ : Tapi_Op) 0 v_5 h_4 κ w (S) b_x0 b_x0otape A_x0otapeowords c_x0otapeowords A_x0oops c_x0oops A_x0ovalues c_x0ovalues A_x0oblocks c_x0oblocks (Own.to hs.own [0, 1, 2, 3, 4, 5] 6 (by kernel_rfl) (by kernel_rfl))).mono ?_
  rintro _ w ⟨Ar3o0otapeowords_6, cr3o0otapeowords_7, Ar3o0oops_8, cr3o0oops_9, Ar3o0ovalues_10, cr3o0ovalues_11, Ar3o0oblocks_12, cr3o0oblocks_13, rfl, how⟩
  refine ⟨_, _, _, rfl, how, fun a hs => ?_⟩
  refine Vk.pures 1 [(10, .int .i64 v_5.1)] hs (by kernel_rfl) fun a hs => ?_
  replace hs := hs.pick [10] (L' := [(10, .int .i64 v_5.1)]) (by kernel_rfl)
  refine Vk.done (by kernel_rfl) ?_
  refine hK2 _ _ ?_
  clear hK2
  refine wp_ret ?_
  exact Vk.ret1 (P := Try.prog) (fn := Try.f101) (R := wire_Machine_Two.R κ S x0 x1 x2 x3 x4 b_x0 b_x0otape A_x0otapeowords c_x0otapeowords A_x0oops c_x0oops A_x0ovalues c_x0ovalues A_x0oblocks c_x0oblocks r) (.int .i64 v_5.1) hs rfl (by kernel_rfl) (by obtain rfl := Option.some.inj hm; exact ⟨Ar3o0otapeowords_6, cr3o0otapeowords_7, Ar3o0oops_8, cr3o0oops_9, Ar3o0ovalues_10, cr3o0ovalues_11, Ar3o0oblocks_12, cr3o0oblocks_13, rfl, (Own.to hs.own [0, 1, 2, 3, 4, 5] 6 (by kernel_rfl) (by kernel_rfl))⟩)


def visorlaw19_words.l1 (x0 : List Int) (x1 : List Int) : Nat → Int → Option (Sum (Bool) (Unit))
  | 0, _ => none
  | k + 1, q_8 => (bif decide (q_8 < ((x0.length : Nat) : Int)) then (if 0 ≤ q_8 then (x0[q_8.toNat]?).bind fun e_17 => (if 0 ≤ q_8 then (x1[q_8.toNat]?).bind fun e_24 => (bif e_17 != e_24 then some (.inl false) else visorlaw19_words.l1 x0 x1 k (IntKind.i64.wrap (q_8 + 1))) else none) else none) else some (.inr ()))
abbrev visorlaw19_words.R (κ : Ctx) (S : List HP) (x0 : List Int) (x1 : List Int) (A_x0 : Option Addr) (c_x0 : Nat) (A_x1 : Option Addr) (c_x1 : Nat) (r : Bool) : Ending → World → Prop := fun e w' => e = .returned (.bool r) ∧ Own κ w' (S)
def visorlaw19_words.m (k : Nat) (x0 : List Int) (x1 : List Int) : Option Bool := (bif ((x0.length : Nat) : Int) != ((x1.length : Nat) : Int) then some false else (visorlaw19_words.l1 x0 x1 k 0).bind fun x => match x with | .inl v => some v | .inr () => some true)

set_option maxRecDepth 100000 in
set_option maxHeartbeats 4000000 in
theorem visorlaw19_words.ok (k : Nat) (x0 : List Int) (x1 : List Int) (r : Bool) (hm : visorlaw19_words.m k x0 x1 = some r) (κ : Ctx) (w : World) (S : List HP) (A_x0 : Option Addr) (c_x0 : Nat) (hx_x0 : Sl κ S A_x0 c_x0 1 (eI .u64) x0) (A_x1 : Option Addr) (c_x1 : Nat) (hx_x1 : Sl κ S A_x1 c_x1 1 (eI .u64) x1) (ho : Own κ w (S)) :
    Calls Try.prog 102 #[.slice A_x0 x0.length c_x0, .slice A_x1 x1.length c_x1] w (visorlaw19_words.R κ S x0 x1 A_x0 c_x0 A_x1 c_x1 r) := by
  unfold visorlaw19_words.m at hm
  refine Vk.enter [(0, .slice A_x0 x0.length c_x0), (1, .slice A_x1 x1.length c_x1)] Try.func102 rfl Try.ntmps102 (by kernel_rfl) (Nat.le_of_ble_eq_true (by kernel_rfl)) ho fun a hs => ?_
  refine Vk.seq fun K1 hK1 => ?_
  refine Vk.region ?_
  refine Vk.pures 1 [(4, .bool false)] hs (by kernel_rfl) fun a hs => ?_
  replace hs := hs.pick [0, 1] (L' := [(0, .slice A_x0 x0.length c_x0), (1, .slice A_x1 x1.length c_x1)]) (by kernel_rfl)
  refine Vk.done (by kernel_rfl) ?_
  refine hK1 _ _ ?_
  clear hK1
  refine Vk.seq fun K2 hK2 => ?_
  refine Vk.seq fun K3 hK3 => ?_
  refine Vk.region ?_
  refine Vk.pures 5 [(10, .bool (((x0.length : Nat) : Int) != ((x1.length : Nat) : Int))), (9, .int .i64 ((x1.length : Nat) : Int)), (8, .slice A_x1 x1.length c_x1), (7, .int .i64 ((x0.length : Nat) : Int)), (6, .slice A_x0 x0.length c_x0)] hs (by kernel_rfl) fun a hs => ?_
  replace hs := hs.pick [0, 1, 10] (L' := [(0, .slice A_x0 x0.length c_x0), (1, .slice A_x1 x1.length c_x1), (10, .bool (((x0.length : Nat) : Int) != ((x1.length : Nat) : Int)))]) (by kernel_rfl)
  refine Vk.done (by kernel_rfl) ?_
  refine hK3 _ _ ?_
  clear hK3
  refine Vk.condS (b := ((x0.length : Nat) : Int) != ((x1.length : Nat) : Int)) hs (by kernel_rfl) (by kernel_rfl) (fun hb => ?_) (fun hb => ?_)
  · replace hm := bif_t hm hb
    refine Vk.seq fun K4 hK4 => ?_
    refine Vk.region ?_
    refine Vk.pures 1 [(4, .bool false)] hs (by kernel_rfl) fun a hs => ?_
    replace hs := hs.pick [4] (L' := [(4, .bool false)]) (by kernel_rfl)
    refine Vk.done (by kernel_rfl) ?_
    refine hK4 _ _ ?_
    clear hK4
    refine wp_ret ?_
    exact Vk.ret1 (P := Try.prog) (fn := Try.f102) (R := visorlaw19_words.R κ S x0 x1 A_x0 c_x0 A_x1 c_x1 r) (.bool false) hs rfl (by kernel_rfl) (by obtain rfl := Option.some.inj hm; exact ⟨rfl, (Own.to hs.own [] 0 (by kernel_rfl) (by kernel_rfl))⟩)
  · replace hm := bif_f hm hb
    refine wp_skip ?_
    refine hK2 _ _ ?_
    clear hK2
    refine Vk.seq fun K5 hK5 => ?_
    refine Vk.seq fun K6 hK6 => ?_
    refine Vk.region ?_
    refine Vk.pures 1 [(5, .int .i64 0)] hs (by kernel_rfl) fun a hs => ?_
    replace hs := hs.pick [0, 1, 5] (L' := [(0, .slice A_x0 x0.length c_x0), (1, .slice A_x1 x1.length c_x1), (5, .int .i64 0)]) (by kernel_rfl)
    refine Vk.done (by kernel_rfl) ?_
    refine hK6 _ _ ?_
    clear hK6
    refine wp_block ?_
    obtain ⟨r7, hl7, hm⟩ := bind_t hm
    have hx7 : r7 = Sum.inr () → ∀ (a : Act) (w : World), St 26 a w κ [] (S) → K5 a w := by
      intro he a w hs
      subst r7
      refine hK5 _ _ ?_
      clear hK5
      refine Vk.seq fun K30 hK30 => ?_
      refine Vk.region ?_
      refine Vk.pures 1 [(4, .bool true)] hs (by kernel_rfl) fun a hs => ?_
      replace hs := hs.pick [4] (L' := [(4, .bool true)]) (by kernel_rfl)
      refine Vk.done (by kernel_rfl) ?_
      refine hK30 _ _ ?_
      clear hK30
      refine wp_ret ?_
      exact Vk.ret1 (P := Try.prog) (fn := Try.f102) (R := visorlaw19_words.R κ S x0 x1 A_x0 c_x0 A_x1 c_x1 r) (.bool true) hs rfl (by kernel_rfl) (by obtain rfl := Option.some.inj hm; exact ⟨rfl, (Own.to hs.own [] 0 (by kernel_rfl) (by kernel_rfl))⟩)
    have hret7 : ∀ v, r7 = Sum.inl v → v = r := by intro v he; subst r7; exact Option.some.inj hm
    refine Vk.loopBy (fun k (s : Int) a w => visorlaw19_words.l1 x0 x1 k s = some r7 ∧ St 26 a w κ [(0, .slice A_x0 x0.length c_x0), (1, .slice A_x1 x1.length c_x1), (5, .int .i64 s)] (S)) k 0 ⟨hl7, hs.go [0, 1, 5] [] 0 (by kernel_rfl) (by kernel_rfl) (by kernel_rfl)⟩ (fun s a w h => by obtain ⟨h1, _⟩ := h; simp [visorlaw19_words.l1] at h1) (fun k KL7 ih q_8 a w h => ?_)
    obtain ⟨hm, hs⟩ := h
    try dsimp only at hm hs
    rw [visorlaw19_words.l1] at hm
    refine Vk.seq fun K9 hK9 => ?_
    refine Vk.seq fun K10 hK10 => ?_
    refine Vk.region ?_
    refine Vk.pures 4 [(14, .bool (decide (q_8 < ((x0.length : Nat) : Int)))), (13, .int .i64 ((x0.length : Nat) : Int)), (12, .slice A_x0 x0.length c_x0), (11, .int .i64 q_8)] hs (by kernel_rfl) fun a hs => ?_
    replace hs := hs.pick [0, 1, 5, 14] (L' := [(0, .slice A_x0 x0.length c_x0), (1, .slice A_x1 x1.length c_x1), (5, .int .i64 q_8), (14, .bool (decide (q_8 < ((x0.length : Nat) : Int))))]) (by kernel_rfl)
    refine Vk.done (by kernel_rfl) ?_
    refine hK10 _ _ ?_
    clear hK10
    refine Vk.condS (b := decide (q_8 < ((x0.length : Nat) : Int))) hs (by kernel_rfl) (by kernel_rfl) (fun hb => ?_) (fun hb => ?_)
    · replace hm := bif_t hm hb
      refine wp_skip ?_
      refine hK9 _ _ ?_
      clear hK9
      refine Vk.seq fun K11 hK11 => ?_
      refine wp_block ?_
      refine Vk.seq fun K12 hK12 => ?_
      obtain ⟨C_13, hC_13⟩ : ∃ X0 : List HP, X0 = (S) := ⟨_, rfl⟩
      refine Vk.drawnT 9 κ C_13 hs (by kernel_rfl) fun w hs => ?_
      have hcz : Own κ w (S) := (Own.to hs.own [] 0 (by kernel_rfl) (by kernel_rfl))
      have hcl : Own κ w C_13 := by rw [hC_13]; exact hcz
      refine Vk.dPuresT [0, 1, 4, 5] [(22, .int .i64 q_8), (21, .slice A_x1 x1.length c_x1), (18, .int .i64 q_8), (17, .slice A_x0 x0.length c_x0)] hs (by kernel_rfl) (by repeat' (first | exact Vk.Calm.post | refine Vk.Calm.then ?_ | refine Vk.Calm.inBlock ?_)) hcl (by kernel_rfl) (by kernel_rfl) (fuel := 5) rfl fun a hs => ?_
      obtain ⟨h_14, hm⟩ := ite_t hm
      obtain ⟨e_17, h_15, hm⟩ := bind_t hm
      obtain ⟨b_18, o_19, hA_20, h_16⟩ := Sl.elem hx_x0 h_15
      refine Vk.dTakeT (i := 2) (some 19) (.pointer (some ⟨b_18, o_19 + q_8.toNat * 1, none⟩)) hs (by kernel_rfl) (by repeat' (first | exact Vk.Calm.post | refine Vk.Calm.then ?_ | refine Vk.Calm.inBlock ?_)) hcl (by kernel_rfl) (by kernel_rfl) (op := (.indexAddr 73 (.tmp 17) (.tmp 18))) (by kernel_rfl) (by kernel_rfl) (fun w hw o ho => by rw [hC_13] at hw; exact run_idxSlc (k := .i64) ho (cap := c_x0) (len := x0.length) ((congrArg (fun A => Value.slice A (x0.length) (c_x0)) hA_20) ▸ (by kernel_rfl)) (by kernel_rfl) (by kernel_rfl) (idx_ok h_14 h_15) _) fun a hs => ?_
      refine Vk.dTakeT (i := 3) (some 20) (.int .u64 e_17) hs (by kernel_rfl) (by repeat' (first | exact Vk.Calm.post | refine Vk.Calm.then ?_ | refine Vk.Calm.inBlock ?_)) hcl (by kernel_rfl) (by kernel_rfl) (op := (.load 23 (.tmp 19))) (by kernel_rfl) (by kernel_rfl) (fun w hw o ho => by rw [hC_13] at hw; exact run_load1 (c := C.int .u64 e_17) ho (by kernel_rfl) (by kernel_rfl) (fun w ho => h_16 w ho 0 _ rfl) _ hw) fun a hs => ?_
      obtain ⟨h_21, hm⟩ := ite_t hm
      obtain ⟨e_24, h_22, hm⟩ := bind_t hm
      obtain ⟨b_25, o_26, hA_27, h_23⟩ := Sl.elem hx_x1 h_22
      refine Vk.dTakeT (i := 6) (some 23) (.pointer (some ⟨b_25, o_26 + q_8.toNat * 1, none⟩)) hs (by kernel_rfl) (by repeat' (first | exact Vk.Calm.post | refine Vk.Calm.then ?_ | refine Vk.Calm.inBlock ?_)) hcl (by kernel_rfl) (by kernel_rfl) (op := (.indexAddr 73 (.tmp 21) (.tmp 22))) (by kernel_rfl) (by kernel_rfl) (fun w hw o ho => by rw [hC_13] at hw; exact run_idxSlc (k := .i64) ho (cap := c_x1) (len := x1.length) ((congrArg (fun A => Value.slice A (x1.length) (c_x1)) hA_27) ▸ (by kernel_rfl)) (by kernel_rfl) (by kernel_rfl) (idx_ok h_21 h_22) _) fun a hs => ?_
      refine Vk.dTakeT (i := 7) (some 24) (.int .u64 e_24) hs (by kernel_rfl) (by repeat' (first | exact Vk.Calm.post | refine Vk.Calm.then ?_ | refine Vk.Calm.inBlock ?_)) hcl (by kernel_rfl) (by kernel_rfl) (op := (.load 23 (.tmp 23))) (by kernel_rfl) (by kernel_rfl) (fun w hw o ho => by rw [hC_13] at hw; exact run_load1 (c := C.int .u64 e_24) ho (by kernel_rfl) (by kernel_rfl) (fun w ho => h_23 w ho 0 _ rfl) _ hw) fun a hs => ?_
      refine Vk.dPuresT [8] [(25, .bool (e_17 != e_24))] hs (by kernel_rfl) (by repeat' (first | exact Vk.Calm.post | refine Vk.Calm.then ?_ | refine Vk.Calm.inBlock ?_)) hcl (by kernel_rfl) (by kernel_rfl) (fuel := 0) rfl fun a hs => ?_
      replace hs := hs.pick [0, 1, 5, 25] (L' := [(0, .slice A_x0 x0.length c_x0), (1, .slice A_x1 x1.length c_x1), (5, .int .i64 q_8), (25, .bool (e_17 != e_24))]) (by kernel_rfl)
      refine Vk.dDone (by kernel_rfl) ?_
      refine hK12 _ _ ?_
      clear hK12
      refine Vk.condS (b := e_17 != e_24) hs (by kernel_rfl) (by kernel_rfl) (fun hb => ?_) (fun hb => ?_)
      · replace hm := bif_t hm hb
        refine Vk.seq fun K28 hK28 => ?_
        refine Vk.region ?_
        refine Vk.pures 1 [(4, .bool false)] hs (by kernel_rfl) fun a hs => ?_
        replace hs := hs.pick [4] (L' := [(4, .bool false)]) (by kernel_rfl)
        refine Vk.done (by kernel_rfl) ?_
        refine hK28 _ _ ?_
        clear hK28
        refine wp_ret ?_
        exact Vk.ret1 (P := Try.prog) (fn := Try.f102) (R := visorlaw19_words.R κ S x0 x1 A_x0 c_x0 A_x1 c_x1 r) (.bool false) hs rfl (by kernel_rfl) (by obtain rfl := hret7 _ ((Option.some.inj hm).symm); exact ⟨rfl, (Own.to hs.own [] 0 (by kernel_rfl) (by kernel_rfl))⟩)
      · replace hm := bif_f hm hb
        refine wp_skip ?_
        refine hK11 _ _ ?_
        clear hK11
        refine Vk.region ?_
        refine Vk.pures 3 [(5, .int .i64 (IntKind.i64.wrap (q_8 + 1))), (16, .int .i64 (IntKind.i64.wrap (q_8 + 1))), (15, .int .i64 q_8)] hs (by kernel_rfl) fun a hs => ?_
        replace hs := hs.pick [0, 1, 5] (L' := [(0, .slice A_x0 x0.length c_x0), (1, .slice A_x1 x1.length c_x1), (5, .int .i64 (IntKind.i64.wrap (q_8 + 1)))]) (by kernel_rfl)
        refine Vk.done (by kernel_rfl) ?_
        refine ih (IntKind.i64.wrap (q_8 + 1)) _ _ ⟨hm, hs.go [0, 1, 5] [] 0 (by kernel_rfl) (by kernel_rfl) (by kernel_rfl)⟩
    · replace hm := bif_f hm hb
      refine wp_exit ?_
      exact hx7 (Option.some.inj hm).symm _ _ (hs.go [] [] 0 (by kernel_rfl) (by kernel_rfl) (by kernel_rfl))

end Go.Proofs.Ytjjdlidjlepgeaa
