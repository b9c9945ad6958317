/- Of each Go function that ReplayJoins comes to: a model in plain Lean, and that the program's call does what the model says; no condition. -/
import Derived.Test.YtebgjmhkmmlpeaaProg
import Derived.Test.YtebgjmhkmmlpeaaViahficoj
import Derived.Test.YtebgjmhkmmlpeaaMReplayJoins0
namespace Go.Proofs.Ytebgjmhkmmlpeaa
open Go Go.Vk
set_option linter.unusedVariables false


def visorref18_Right.l2 (x0 : Tapi_Trace) : Nat → Int → Int → Option (Sum (Bool) (Unit))
 | 0, _, _ => none
 | k + 1, q_56, q_57 => (bif decide (q_57 < ((x0.blocks.length : Nat) : Int)) then (if 0 ≤ q_57 then (x0.blocks[q_57.toNat]?).bind fun e_65 => (bif ((((decide (e_65.kind < 1)) || (decide (e_65.kind > 3))) || (decide (e_65.fromF < q_56))) || (decide (e_65.to ≤ e_65.fromF))) || (decide (e_65.to > ((x0.ops.length : Nat) : Int))) then some (.inl false) else visorref18_Right.l2 x0 k e_65.to (IntKind.i64.wrap (q_57 + 1))) else none) else some (.inr ()))
def visorref18_Right.j1 (k : Nat) (rec11 : Int → Int → Option (Sum (Bool) (Unit))) (q_13 : Int) (p_49 : Int) : Option (Sum (Bool) (Unit)) := rec11 p_49 (IntKind.i64.wrap (q_13 + 1))
def visorref18_Right.l1 (x0 : Tapi_Trace) : Nat → Int → Int → Option (Sum (Bool) (Unit))
 | 0, _, _ => none
 | k + 1, q_12, q_13 => (bif decide (q_13 < ((x0.ops.length : Nat) : Int)) then (if 0 ≤ q_13 then (x0.ops[q_13.toNat]?).bind fun e_23 => (visorref17_Right.m k e_23 q_13 x0.n).bind fun v_29 => (bif !v_29 then some (.inl false) else (if 0 ≤ q_13 then (x0.ops[q_13.toNat]?).bind fun e_35 => (bif e_35.kind == 2 then (if 0 ≤ q_13 then (x0.ops[q_13.toNat]?).bind fun e_44 => (bif e_44.c != q_12 then some (.inl false) else visorref18_Right.j1 k (visorref18_Right.l1 x0 k) q_13 (IntKind.u64.wrap (q_12 + 1))) else none) else visorref18_Right.j1 k (visorref18_Right.l1 x0 k) q_13 q_12) else none)) else none) else some (.inr ()))
abbrev visorref18_Right.R (κ : Ctx) (S : List HP) (x0 : Tapi_Trace) (A_x0ops : Option Addr) (c_x0ops : Nat) (A_x0blocks : Option Addr) (c_x0blocks : Nat) (r : Bool) : Ending → World → Prop := fun e w' => e = .returned (.bool r) ∧ Ow κ w' (S)
def visorref18_Right.m (k : Nat) (x0 : Tapi_Trace) : Option Bool := (bif ((x0.n != 2) && (x0.n != 3)) || (decide (((x0.ops.length : Nat) : Int) > 1048576)) then some false else (visorref18_Right.l1 x0 k 0 0).bind fun x => match x with | .inl v => some v | .inr () => (visorref18_Right.l2 x0 k 0 0).bind fun x => match x with | .inl v => some v | .inr () => some true)

set_option maxRecDepth 100000 in
set_option maxHeartbeats 4000000 in
theorem visorref18_Right.ok (k : Nat) (x0 : Tapi_Trace) (r : Bool) (hm : visorref18_Right.m k x0 = some r) (κ : Ctx) (w : World) (S : List HP) (A_x0ops : Option Addr) (c_x0ops : Nat) (hx_x0ops : Sl κ S A_x0ops c_x0ops 6 Tapi_Op.cells x0.ops) (A_x0blocks : Option Addr) (c_x0blocks : Nat) (hx_x0blocks : Sl κ S A_x0blocks c_x0blocks 3 Tapi_Span.cells x0.blocks) (ho : Ow κ w (S)) :
  Calls Try.prog 29 #[.agg (vals [ci x0.n, C.slc A_x0ops x0.ops.length c_x0ops, C.slc A_x0blocks x0.blocks.length c_x0blocks])] w (visorref18_Right.R κ S x0 A_x0ops c_x0ops A_x0blocks c_x0blocks r) := by
 unfold visorref18_Right.m at hm
 generalize hRR : visorref18_Right.R κ S x0 A_x0ops c_x0ops A_x0blocks c_x0blocks r = RR
 refine qen [(0, .agg (vals [ci x0.n, C.slc A_x0ops x0.ops.length c_x0ops, C.slc A_x0blocks x0.blocks.length c_x0blocks]))] Try.func29 Try.ntmps29 ho fun a hs => ?_
 refine qsr fun K1 hK1 => ?_
 refine qbx 0 58 [ci x0.n, C.slc A_x0ops x0.ops.length c_x0ops, C.slc A_x0blocks x0.blocks.length c_x0blocks] 1 hs fun b_2 w a hs => ?_
 refine qpe 1 [(1, pp b_2)] hs fun a hs => hK1 _ _ ?_
 clear hK1
 refine Vk.seq fun K3 hK3 => ?_
 refine qsr fun K4 hK4 => ?_
 refine qpu 1 hs fun a hs => ?_
 refine qld 0 (ci x0.n) hs rfl fun a hs => ?_
 refine qpu 2 hs fun a hs => ?_
 suffices hj_5 : ∀ a, St 99 a w κ [(1, pp b_2), (8, pp b_2), (9, vi x0.n), (10, .bool (x0.n != 2)), (11, .bool (x0.n != 2)), (15, .bool ((x0.n != 2) && (x0.n != 3)))] (pt b_2 (blk (Tapi_Trace.obj x0 A_x0ops c_x0ops A_x0blocks c_x0blocks) 58) :: S) → wpFrom Try.prog _ _ 8 a w by
  rcases Bool.eq_false_or_eq_true (x0.n != 2) with hb | hb
  ·replace hs := hs.known (t := 11) hb (by kernel_rfl)
   refine qpu 1 hs fun a hs => ?_
   refine qld 0 (ci x0.n) hs rfl fun a hs => ?_
   refine qpu 2 hs fun a hs => ?_
   have hq := hs.pick [1, 8, 9, 10, 11, 15] (L' := [(1, pp b_2), (8, pp b_2), (9, vi x0.n), (10, .bool (x0.n != 2)), (11, .bool true), (15, .bool (x0.n != 3))]) (by kernel_rfl)
   exact hj_5 _ (hq.conv (by first | (rw [hb] <;> rfl) | rfl))
  ·replace hs := hs.known (t := 11) hb (by kernel_rfl)
   refine qpu 4 hs fun a hs => ?_
   have hq := hs.pick [1, 8, 9, 10, 11, 15] (L' := [(1, pp b_2), (8, pp b_2), (9, vi x0.n), (10, .bool (x0.n != 2)), (11, .bool false), (15, .bool false)]) (by kernel_rfl)
   exact hj_5 _ (hq.conv (by first | (rw [hb] <;> rfl) | rfl))
 intro a hs
 refine qpu 1 hs fun a hs => ?_
 suffices hj_6 : ∀ a, St 99 a w κ [(1, pp b_2), (8, pp b_2), (9, vi x0.n), (10, .bool (x0.n != 2)), (11, .bool (x0.n != 2)), (15, .bool ((x0.n != 2) && (x0.n != 3))), (16, .bool ((x0.n != 2) && (x0.n != 3))), (21, .bool (((x0.n != 2) && (x0.n != 3)) || (decide (((x0.ops.length : Nat) : Int) > 1048576))))] (pt b_2 (blk (Tapi_Trace.obj x0 A_x0ops c_x0ops A_x0blocks c_x0blocks) 58) :: S) → wpFrom Try.prog _ _ 14 a w by
  rcases Bool.eq_false_or_eq_true ((x0.n != 2) && (x0.n != 3)) with hb | hb
  ·replace hs := hs.known (t := 16) hb (by kernel_rfl)
   refine qpu 5 hs fun a hs => ?_
   have hq := hs.pick [1, 8, 9, 10, 11, 15, 16, 21] (L' := [(1, pp b_2), (8, pp b_2), (9, vi x0.n), (10, .bool (x0.n != 2)), (11, .bool (x0.n != 2)), (15, .bool ((x0.n != 2) && (x0.n != 3))), (16, .bool true), (21, .bool true)]) (by kernel_rfl)
   exact hj_6 _ (hq.conv (by first | (rw [hb] <;> rfl) | rfl))
  ·replace hs := hs.known (t := 16) hb (by kernel_rfl)
   refine qpu 1 hs fun a hs => ?_
   refine qld 0 (C.slc A_x0ops x0.ops.length c_x0ops) hs rfl fun a hs => ?_
   refine qpu 3 hs fun a hs => ?_
   have hq := hs.pick [1, 8, 9, 10, 11, 15, 16, 21] (L' := [(1, pp b_2), (8, pp b_2), (9, vi x0.n), (10, .bool (x0.n != 2)), (11, .bool (x0.n != 2)), (15, .bool ((x0.n != 2) && (x0.n != 3))), (16, .bool false), (21, .bool (decide (((x0.ops.length : Nat) : Int) > 1048576)))]) (by kernel_rfl)
   exact hj_6 _ (hq.conv (by first | (rw [hb] <;> rfl) | rfl))
 intro a hs
 refine qpk 0 [1, 21] hs fun a hs => hK4 _ _ ?_
 clear hK4
 refine qcs (((x0.n != 2) && (x0.n != 3)) || (decide (((x0.ops.length : Nat) : Int) > 1048576))) hs (fun hb => ?_) fun hb => ?_
 ·replace hm := bif_t hm hb
  refine qse 1 [(2, .bool false)] hs fun a hs => ?_
  refine wp_ret ?_
  exact qr1 (.bool false) hs rfl hRR (by cases hm; exact ⟨rfl, hs.own.drop⟩)
 ·replace hm := bif_f hm hb
  refine wp_skip ?_
  refine hK3 _ _ ?_
  clear hK3
  refine qse 1 [(1, pp b_2), (3, vw 0)] hs fun a hs => ?_
  refine Vk.seq fun K9 hK9 => ?_
  refine qsk 1 [1, 3, 4] hs fun a hs => ?_
  refine wp_block ?_
  obtain ⟨r11, hl11, hm⟩ := bind_t hm
  have hx11 : r11 = Sum.inr () → ∀ (a : Act) (w : World), St 99 a w κ [(1, pp b_2)] (pt b_2 (blk (Tapi_Trace.obj x0 A_x0ops c_x0ops A_x0blocks c_x0blocks) 58) :: S) → K9 a w := by
   intro he a w hs
   subst r11
   refine hK9 _ _ ?_
   clear hK9
   refine qse 1 [(1, pp b_2), (5, vi 0)] hs fun a hs => ?_
   refine Vk.seq fun K53 hK53 => ?_
   refine qsk 1 [1, 5, 6] hs fun a hs => ?_
   refine wp_block ?_
   obtain ⟨r55, hl55, hm⟩ := bind_t hm
   have hx55 : r55 = Sum.inr () → ∀ (a : Act) (w : World), St 99 a w κ [] (S) → K53 a w := by
    intro he a w hs
    subst r55
    refine hK53 _ _ ?_
    clear hK53
    refine qse 1 [(2, .bool true)] hs fun a hs => ?_
    refine wp_ret ?_
    exact qr1 (.bool true) hs rfl hRR (by cases hm; exact ⟨rfl, hs.own⟩)
   have hret55 : ∀ v, r55 = Sum.inl v → v = r := by intro v he; subst r55; exact Option.some.inj hm
   refine Vk.loopBy (fun k (s : Int × Int) a w => visorref18_Right.l2 x0 k s.1 s.2 = some r55 ∧ St 99 a w κ [(1, pp b_2), (5, vi s.1), (6, vi s.2)] (pt b_2 (blk (Tapi_Trace.obj x0 A_x0ops c_x0ops A_x0blocks c_x0blocks) 58) :: S)) k (0, 0) ⟨hl55, hs.go [1, 5, 6] [0] 1 (by kernel_rfl) (by kernel_rfl) (by kernel_rfl)⟩ (fun s a w h => by obtain ⟨h1, _⟩ := h; simp [visorref18_Right.l2] at h1) (fun k KL55 ih s a w h => ?_)
   obtain ⟨q_56, q_57⟩ := s
   obtain ⟨hm, hs⟩ := h
   try dsimp only at hm hs
   rw [visorref18_Right.l2] at hm
   refine Vk.seq fun K58 hK58 => ?_
   refine qsr fun K59 hK59 => ?_
   refine qpu 2 hs fun a hs => ?_
   refine qld 0 (C.slc A_x0blocks x0.blocks.length c_x0blocks) hs rfl fun a hs => ?_
   refine qpk 2 [1, 5, 6, 60] hs fun a hs => hK59 _ _ ?_
   clear hK59
   refine qcs (decide (q_57 < ((x0.blocks.length : Nat) : Int))) hs (fun hb => ?_) fun hb => ?_
   ·replace hm := bif_t hm hb
    refine wp_skip ?_
    refine hK58 _ _ ?_
    clear hK58
    refine Vk.seq fun K60 hK60 => ?_
    refine wp_block ?_
    refine qsr fun K61 hK61 => ?_
    refine qpu 1 hs fun a hs => ?_
    refine qld 0 (C.slc A_x0blocks x0.blocks.length c_x0blocks) hs rfl fun a hs => ?_
    refine qpu 1 hs fun a hs => ?_
    obtain ⟨h_62, hm⟩ := ite_t hm
    obtain ⟨e_65, h_63, hm⟩ := bind_t hm
    obtain ⟨b_66, o_67, hA_68, h_64⟩ := Sl.elem hx_x0blocks h_63
    refine qva (.pointer (some ⟨b_66, o_67 + q_57.toNat * 3, none⟩)) (op := (.indexAddr 56 (.tmp 64) (.tmp 65))) hs (fun o ho => run_idxSlc (k := .i64) ho (cap := c_x0blocks) (len := x0.blocks.length) ((congrArg (fun A => Value.slice A (x0.blocks.length) (c_x0blocks)) hA_68) ▸ (by kernel_rfl)) (by kernel_rfl) (by kernel_rfl) (idx_ok h_62 h_63) _) fun a hs => ?_
    refine qva (.agg (vals [ci e_65.kind, ci e_65.fromF, ci e_65.to])) (op := (.load 95 (.tmp 66))) hs (fun o ho => run_loadN (cs := [ci e_65.kind, ci e_65.fromF, ci e_65.to]) ho (by kernel_rfl) (by kernel_rfl) rfl h_64 _ hs.own.drop) fun a hs => ?_
    refine qal 95 [ci 0, ci 0, ci 0] 7 hs fun b_69 w a hs => ?_
    refine qsa 0 [ci e_65.kind, ci e_65.fromF, ci e_65.to] hs rfl fun a w hs => ?_
    refine qpe 0 [(1, pp b_2), (5, vi q_56), (6, vi q_57), (7, pp b_69)] hs fun a hs => hK61 _ _ ?_
    clear hK61
    refine Vk.seq fun K70 hK70 => ?_
    refine qsr fun K71 hK71 => ?_
    refine qpu 1 hs fun a hs => ?_
    refine qld 0 (ci e_65.kind) hs rfl fun a hs => ?_
    refine qpu 2 hs fun a hs => ?_
    suffices hj_72 : ∀ a, St 99 a w κ [(1, pp b_2), (5, vi q_56), (6, vi q_57), (7, pp b_69), (68, pp b_69), (69, vi e_65.kind), (70, .bool (decide (e_65.kind < 1))), (71, .bool (decide (e_65.kind < 1))), (75, .bool ((decide (e_65.kind < 1)) || (decide (e_65.kind > 3))))] (pt b_69 (blk (Tapi_Span.cells e_65) 95) :: pt b_2 (blk (Tapi_Trace.obj x0 A_x0ops c_x0ops A_x0blocks c_x0blocks) 58) :: S) → wpFrom Try.prog _ _ 8 a w by
     rcases Bool.eq_false_or_eq_true (decide (e_65.kind < 1)) with hb | hb
     ·replace hs := hs.known (t := 71) hb (by kernel_rfl)
      refine qpu 4 hs fun a hs => ?_
      have hq := hs.pick [1, 5, 6, 7, 68, 69, 70, 71, 75] (L' := [(1, pp b_2), (5, vi q_56), (6, vi q_57), (7, pp b_69), (68, pp b_69), (69, vi e_65.kind), (70, .bool (decide (e_65.kind < 1))), (71, .bool true), (75, .bool true)]) (by kernel_rfl)
      exact hj_72 _ (hq.conv (by first | (rw [hb] <;> rfl) | rfl))
     ·replace hs := hs.known (t := 71) hb (by kernel_rfl)
      refine qpu 1 hs fun a hs => ?_
      refine qld 0 (ci e_65.kind) hs rfl fun a hs => ?_
      refine qpu 2 hs fun a hs => ?_
      have hq := hs.pick [1, 5, 6, 7, 68, 69, 70, 71, 75] (L' := [(1, pp b_2), (5, vi q_56), (6, vi q_57), (7, pp b_69), (68, pp b_69), (69, vi e_65.kind), (70, .bool (decide (e_65.kind < 1))), (71, .bool false), (75, .bool (decide (e_65.kind > 3)))]) (by kernel_rfl)
      exact hj_72 _ (hq.conv (by first | (rw [hb] <;> rfl) | rfl))
    intro a hs
    refine qpu 1 hs fun a hs => ?_
    suffices hj_73 : ∀ a, St 99 a w κ [(1, pp b_2), (5, vi q_56), (6, vi q_57), (7, pp b_69), (68, pp b_69), (69, vi e_65.kind), (70, .bool (decide (e_65.kind < 1))), (71, .bool (decide (e_65.kind < 1))), (75, .bool ((decide (e_65.kind < 1)) || (decide (e_65.kind > 3)))), (76, .bool ((decide (e_65.kind < 1)) || (decide (e_65.kind > 3)))), (81, .bool (((decide (e_65.kind < 1)) || (decide (e_65.kind > 3))) || (decide (e_65.fromF < q_56))))] (pt b_69 (blk (Tapi_Span.cells e_65) 95) :: pt b_2 (blk (Tapi_Trace.obj x0 A_x0ops c_x0ops A_x0blocks c_x0blocks) 58) :: S) → wpFrom Try.prog _ _ 14 a w by
     rcases Bool.eq_false_or_eq_true ((decide (e_65.kind < 1)) || (decide (e_65.kind > 3))) with hb | hb
     ·replace hs := hs.known (t := 76) hb (by kernel_rfl)
      refine qpu 5 hs fun a hs => ?_
      have hq := hs.pick [1, 5, 6, 7, 68, 69, 70, 71, 75, 76, 81] (L' := [(1, pp b_2), (5, vi q_56), (6, vi q_57), (7, pp b_69), (68, pp b_69), (69, vi e_65.kind), (70, .bool (decide (e_65.kind < 1))), (71, .bool (decide (e_65.kind < 1))), (75, .bool ((decide (e_65.kind < 1)) || (decide (e_65.kind > 3)))), (76, .bool true), (81, .bool true)]) (by kernel_rfl)
      exact hj_73 _ (hq.conv (by first | (rw [hb] <;> rfl) | rfl))
     ·replace hs := hs.known (t := 76) hb (by kernel_rfl)
      refine qpu 1 hs fun a hs => ?_
      refine qld 0 (ci e_65.fromF) hs rfl fun a hs => ?_
      refine qpu 3 hs fun a hs => ?_
      have hq := hs.pick [1, 5, 6, 7, 68, 69, 70, 71, 75, 76, 81] (L' := [(1, pp b_2), (5, vi q_56), (6, vi q_57), (7, pp b_69), (68, pp b_69), (69, vi e_65.kind), (70, .bool (decide (e_65.kind < 1))), (71, .bool (decide (e_65.kind < 1))), (75, .bool ((decide (e_65.kind < 1)) || (decide (e_65.kind > 3)))), (76, .bool false), (81, .bool (decide (e_65.fromF < q_56)))]) (by kernel_rfl)
      exact hj_73 _ (hq.conv (by first | (rw [hb] <;> rfl) | rfl))
    intro a hs
    refine qpu 1 hs fun a hs => ?_
    suffices hj_74 : ∀ a, St 99 a w κ [(1, pp b_2), (5, vi q_56), (6, vi q_57), (7, pp b_69), (68, pp b_69), (69, vi e_65.kind), (70, .bool (decide (e_65.kind < 1))), (71, .bool (decide (e_65.kind < 1))), (75, .bool ((decide (e_65.kind < 1)) || (decide (e_65.kind > 3)))), (76, .bool ((decide (e_65.kind < 1)) || (decide (e_65.kind > 3)))), (81, .bool (((decide (e_65.kind < 1)) || (decide (e_65.kind > 3))) || (decide (e_65.fromF < q_56)))), (82, .bool (((decide (e_65.kind < 1)) || (decide (e_65.kind > 3))) || (decide (e_65.fromF < q_56)))), (88, .bool ((((decide (e_65.kind < 1)) || (decide (e_65.kind > 3))) || (decide (e_65.fromF < q_56))) || (decide (e_65.to ≤ e_65.fromF))))] (pt b_69 (blk (Tapi_Span.cells e_65) 95) :: pt b_2 (blk (Tapi_Trace.obj x0 A_x0ops c_x0ops A_x0blocks c_x0blocks) 58) :: S) → wpFrom Try.prog _ _ 21 a w by
     rcases Bool.eq_false_or_eq_true (((decide (e_65.kind < 1)) || (decide (e_65.kind > 3))) || (decide (e_65.fromF < q_56))) with hb | hb
     ·replace hs := hs.known (t := 82) hb (by kernel_rfl)
      refine qpu 6 hs fun a hs => ?_
      have hq := hs.pick [1, 5, 6, 7, 68, 69, 70, 71, 75, 76, 81, 82, 88] (L' := [(1, pp b_2), (5, vi q_56), (6, vi q_57), (7, pp b_69), (68, pp b_69), (69, vi e_65.kind), (70, .bool (decide (e_65.kind < 1))), (71, .bool (decide (e_65.kind < 1))), (75, .bool ((decide (e_65.kind < 1)) || (decide (e_65.kind > 3)))), (76, .bool ((decide (e_65.kind < 1)) || (decide (e_65.kind > 3)))), (81, .bool (((decide (e_65.kind < 1)) || (decide (e_65.kind > 3))) || (decide (e_65.fromF < q_56)))), (82, .bool true), (88, .bool true)]) (by kernel_rfl)
      exact hj_74 _ (hq.conv (by first | (rw [hb] <;> rfl) | rfl))
     ·replace hs := hs.known (t := 82) hb (by kernel_rfl)
      refine qpu 1 hs fun a hs => ?_
      refine qld 0 (ci e_65.to) hs rfl fun a hs => ?_
      refine qpu 1 hs fun a hs => ?_
      refine qld 0 (ci e_65.fromF) hs rfl fun a hs => ?_
      refine qpu 2 hs fun a hs => ?_
      have hq := hs.pick [1, 5, 6, 7, 68, 69, 70, 71, 75, 76, 81, 82, 88] (L' := [(1, pp b_2), (5, vi q_56), (6, vi q_57), (7, pp b_69), (68, pp b_69), (69, vi e_65.kind), (70, .bool (decide (e_65.kind < 1))), (71, .bool (decide (e_65.kind < 1))), (75, .bool ((decide (e_65.kind < 1)) || (decide (e_65.kind > 3)))), (76, .bool ((decide (e_65.kind < 1)) || (decide (e_65.kind > 3)))), (81, .bool (((decide (e_65.kind < 1)) || (decide (e_65.kind > 3))) || (decide (e_65.fromF < q_56)))), (82, .bool false), (88, .bool (decide (e_65.to ≤ e_65.fromF)))]) (by kernel_rfl)
      exact hj_74 _ (hq.conv (by first | (rw [hb] <;> rfl) | rfl))
    intro a hs
    refine qpu 1 hs fun a hs => ?_
    suffices hj_75 : ∀ a, St 99 a w κ [(1, pp b_2), (5, vi q_56), (6, vi q_57), (7, pp b_69), (68, pp b_69), (69, vi e_65.kind), (70, .bool (decide (e_65.kind < 1))), (71, .bool (decide (e_65.kind < 1))), (75, .bool ((decide (e_65.kind < 1)) || (decide (e_65.kind > 3)))), (76, .bool ((decide (e_65.kind < 1)) || (decide (e_65.kind > 3)))), (81, .bool (((decide (e_65.kind < 1)) || (decide (e_65.kind > 3))) || (decide (e_65.fromF < q_56)))), (82, .bool (((decide (e_65.kind < 1)) || (decide (e_65.kind > 3))) || (decide (e_65.fromF < q_56)))), (88, .bool ((((decide (e_65.kind < 1)) || (decide (e_65.kind > 3))) || (decide (e_65.fromF < q_56))) || (decide (e_65.to ≤ e_65.fromF)))), (89, .bool ((((decide (e_65.kind < 1)) || (decide (e_65.kind > 3))) || (decide (e_65.fromF < q_56))) || (decide (e_65.to ≤ e_65.fromF)))), (96, .bool (((((decide (e_65.kind < 1)) || (decide (e_65.kind > 3))) || (decide (e_65.fromF < q_56))) || (decide (e_65.to ≤ e_65.fromF))) || (decide (e_65.to > ((x0.ops.length : Nat) : Int)))))] (pt b_69 (blk (Tapi_Span.cells e_65) 95) :: pt b_2 (blk (Tapi_Trace.obj x0 A_x0ops c_x0ops A_x0blocks c_x0blocks) 58) :: S) → wpFrom Try.prog _ _ 29 a w by
     rcases Bool.eq_false_or_eq_true ((((decide (e_65.kind < 1)) || (decide (e_65.kind > 3))) || (decide (e_65.fromF < q_56))) || (decide (e_65.to ≤ e_65.fromF))) with hb | hb
     ·replace hs := hs.known (t := 89) hb (by kernel_rfl)
      refine qpu 7 hs fun a hs => ?_
      have hq := hs.pick [1, 5, 6, 7, 68, 69, 70, 71, 75, 76, 81, 82, 88, 89, 96] (L' := [(1, pp b_2), (5, vi q_56), (6, vi q_57), (7, pp b_69), (68, pp b_69), (69, vi e_65.kind), (70, .bool (decide (e_65.kind < 1))), (71, .bool (decide (e_65.kind < 1))), (75, .bool ((decide (e_65.kind < 1)) || (decide (e_65.kind > 3)))), (76, .bool ((decide (e_65.kind < 1)) || (decide (e_65.kind > 3)))), (81, .bool (((decide (e_65.kind < 1)) || (decide (e_65.kind > 3))) || (decide (e_65.fromF < q_56)))), (82, .bool (((decide (e_65.kind < 1)) || (decide (e_65.kind > 3))) || (decide (e_65.fromF < q_56)))), (88, .bool ((((decide (e_65.kind < 1)) || (decide (e_65.kind > 3))) || (decide (e_65.fromF < q_56))) || (decide (e_65.to ≤ e_65.fromF)))), (89, .bool true), (96, .bool true)]) (by kernel_rfl)
      exact hj_75 _ (hq.conv (by first | (rw [hb] <;> rfl) | rfl))
     ·replace hs := hs.known (t := 89) hb (by kernel_rfl)
      refine qpu 1 hs fun a hs => ?_
      refine qld 0 (ci e_65.to) hs rfl fun a hs => ?_
      refine qpu 1 hs fun a hs => ?_
      refine qld 1 (C.slc A_x0ops x0.ops.length c_x0ops) hs rfl fun a hs => ?_
      refine qpu 3 hs fun a hs => ?_
      have hq := hs.pick [1, 5, 6, 7, 68, 69, 70, 71, 75, 76, 81, 82, 88, 89, 96] (L' := [(1, pp b_2), (5, vi q_56), (6, vi q_57), (7, pp b_69), (68, pp b_69), (69, vi e_65.kind), (70, .bool (decide (e_65.kind < 1))), (71, .bool (decide (e_65.kind < 1))), (75, .bool ((decide (e_65.kind < 1)) || (decide (e_65.kind > 3)))), (76, .bool ((decide (e_65.kind < 1)) || (decide (e_65.kind > 3)))), (81, .bool (((decide (e_65.kind < 1)) || (decide (e_65.kind > 3))) || (decide (e_65.fromF < q_56)))), (82, .bool (((decide (e_65.kind < 1)) || (decide (e_65.kind > 3))) || (decide (e_65.fromF < q_56)))), (88, .bool ((((decide (e_65.kind < 1)) || (decide (e_65.kind > 3))) || (decide (e_65.fromF < q_56))) || (decide (e_65.to ≤ e_65.fromF)))), (89, .bool false), (96, .bool (decide (e_65.to > ((x0.ops.length : Nat) : Int))))]) (by kernel_rfl)
      exact hj_75 _ (hq.conv (by first | (rw [hb] <;> rfl) | rfl))
    intro a hs
    refine qpk 0 [1, 6, 7, 96] hs fun a hs => hK71 _ _ ?_
    clear hK71
    refine qcs (((((decide (e_65.kind < 1)) || (decide (e_65.kind > 3))) || (decide (e_65.fromF < q_56))) || (decide (e_65.to ≤ e_65.fromF))) || (decide (e_65.to > ((x0.ops.length : Nat) : Int)))) hs (fun hb => ?_) fun hb => ?_
    ·replace hm := bif_t hm hb
     refine qse 1 [(2, .bool false)] hs fun a hs => ?_
     refine wp_ret ?_
     exact Vk.ret1 (P := Try.prog) (fn := Try.f29) (R := RR) (.bool false) hs rfl (by kernel_rfl) (by obtain rfl := hret55 _ ((Option.some.inj hm).symm); subst hRR; exact ⟨rfl, hs.own.f1.drop.drop⟩)
    ·replace hm := bif_f hm hb
     refine wp_skip ?_
     refine hK70 _ _ ?_
     clear hK70
     refine Vk.region ?_
     refine qpu 1 hs fun a hs => ?_
     refine qld 0 (ci e_65.to) hs rfl fun a hs => ?_
     refine qpk 1 [1, 5, 6] hs fun a hs => hK60 _ _ ?_
     clear hK60
     refine Vk.region ?_
     refine qpe 3 [(1, pp b_2), (5, vi e_65.to), (6, vi (IntKind.i64.wrap (q_57 + 1)))] hs fun a hs => ?_
     refine ih (e_65.to, (IntKind.i64.wrap (q_57 + 1))) _ _ ⟨hm, hs.go [1, 5, 6] [1] 2 (by kernel_rfl) (by kernel_rfl) (by kernel_rfl)⟩
   ·replace hm := bif_f hm hb
    refine wp_exit ?_
    exact hx55 (Option.some.inj hm).symm _ _ (hs.go [] [] 1 (by kernel_rfl) (by kernel_rfl) (by kernel_rfl))
  have hret11 : ∀ v, r11 = Sum.inl v → v = r := by intro v he; subst r11; exact Option.some.inj hm
  refine Vk.loopBy (fun k (s : Int × Int) a w => visorref18_Right.l1 x0 k s.1 s.2 = some r11 ∧ St 99 a w κ [(1, pp b_2), (3, vw s.1), (4, vi s.2)] (pt b_2 (blk (Tapi_Trace.obj x0 A_x0ops c_x0ops A_x0blocks c_x0blocks) 58) :: S)) k (0, 0) ⟨hl11, hs.go [1, 3, 4] [0] 1 (by kernel_rfl) (by kernel_rfl) (by kernel_rfl)⟩ (fun s a w h => by obtain ⟨h1, _⟩ := h; simp [visorref18_Right.l1] at h1) (fun k KL11 ih s a w h => ?_)
  obtain ⟨q_12, q_13⟩ := s
  obtain ⟨hm, hs⟩ := h
  try dsimp only at hm hs
  rw [visorref18_Right.l1] at hm
  refine Vk.seq fun K14 hK14 => ?_
  refine qsr fun K15 hK15 => ?_
  refine qpu 2 hs fun a hs => ?_
  refine qld 0 (C.slc A_x0ops x0.ops.length c_x0ops) hs rfl fun a hs => ?_
  refine qpk 2 [1, 3, 4, 26] hs fun a hs => hK15 _ _ ?_
  clear hK15
  refine qcs (decide (q_13 < ((x0.ops.length : Nat) : Int))) hs (fun hb => ?_) fun hb => ?_
  ·replace hm := bif_t hm hb
   refine wp_skip ?_
   refine hK14 _ _ ?_
   clear hK14
   refine Vk.seq fun K16 hK16 => ?_
   have hj16 : ∀ (p_49 : Int), visorref18_Right.j1 k (visorref18_Right.l1 x0 k) q_13 p_49 = some r11 → ∀ (a : Act) (w : World), St 99 a w κ [(1, pp b_2), (3, vw p_49), (4, vi q_13)] (pt b_2 (blk (Tapi_Trace.obj x0 A_x0ops c_x0ops A_x0blocks c_x0blocks) 58) :: S) → K16 a w := by
    intro p_49 hm a w hs
    unfold visorref18_Right.j1 at hm
    refine hK16 _ _ ?_
    refine Vk.region ?_
    refine qpk 3 [1, 3, 4] hs fun a hs => ?_
    refine ih (p_49, (IntKind.i64.wrap (q_13 + 1))) _ _ ⟨hm, hs.go [1, 3, 4] [0] 1 (by kernel_rfl) (by kernel_rfl) (by kernel_rfl)⟩
   refine wp_block ?_
   refine Vk.seq fun K17 hK17 => ?_
   refine Vk.seq fun K18 hK18 => ?_
   obtain ⟨C_19, hC_19⟩ := qC hs.own
   refine qdr 10 κ C_19 hs fun w hs hqC_19 => ?_
   have hcl := qO hC_19 hs.own
   refine qdp (fuel := 6) [0, 2, 5, 6] hs hcl hqC_19 fun a hs => ?_
   refine qdl 1 0 (C.slc A_x0ops x0.ops.length c_x0ops) hs hcl hqC_19 hC_19 rfl fun a hs => ?_
   obtain ⟨h_20, hm⟩ := ite_t hm
   obtain ⟨e_23, h_21, hm⟩ := bind_t hm
   obtain ⟨b_24, o_25, hA_26, h_22⟩ := Sl.elem hx_x0ops h_21
   refine qdt 3 (.pointer (some ⟨b_24, o_25 + q_13.toNat * 6, none⟩)) (op := (.indexAddr 55 (.tmp 30) (.tmp 31))) hs hcl hqC_19 (fun w hw o ho => by rw [hC_19] at hw; exact run_idxSlc (k := .i64) ho (cap := c_x0ops) (len := x0.ops.length) ((congrArg (fun A => Value.slice A (x0.ops.length) (c_x0ops)) hA_26) ▸ (by kernel_rfl)) (by kernel_rfl) (by kernel_rfl) (idx_ok h_20 h_21) _) fun a hs => ?_
   refine qdt 4 (.agg (vals [ci e_23.kind, ci e_23.dom, ci e_23.a, ci e_23.b, ci e_23.d, cw e_23.c])) (op := (.load 85 (.tmp 32))) hs hcl hqC_19 (fun w hw o ho => by rw [hC_19] at hw; exact run_loadN (cs := [ci e_23.kind, ci e_23.dom, ci e_23.a, ci e_23.b, ci e_23.d, cw e_23.c]) ho (by kernel_rfl) (by kernel_rfl) rfl h_22 _ hw.drop) fun a hs => ?_
   refine qdl 7 0 (ci x0.n) hs hcl hqC_19 hC_19 rfl fun a hs => ?_
   obtain ⟨v_29, h_28, hm⟩ := bind_t hm
   refine qdc 8 (visorref17_Right.ok _ _ _ _ _ h_28 _ _ (pt b_2 (blk (Tapi_Trace.obj x0 A_x0ops c_x0ops A_x0blocks c_x0blocks) 58) :: S) hs.own) hs fun w a hs => ?_
   replace hcl := qO hC_19 hs.own
   refine ⟨fun _ => hcl, ?_⟩
   refine qdp (fuel := 0) [9] hs hcl hqC_19 fun a hs => ?_
   replace hs := hs.pick [1, 3, 4, 38] (L' := [(1, pp b_2), (3, vw q_12), (4, vi q_13), (38, .bool (!v_29))]) (by kernel_rfl)
   refine Vk.dDone (by kernel_rfl) ?_
   refine hK18 _ _ ?_
   clear hK18
   refine qcs (!v_29) hs (fun hb => ?_) fun hb => ?_
   ·replace hm := bif_t hm hb
    refine qse 1 [(2, .bool false)] hs fun a hs => ?_
    refine wp_ret ?_
    exact Vk.ret1 (P := Try.prog) (fn := Try.f29) (R := RR) (.bool false) hs rfl (by kernel_rfl) (by obtain rfl := hret11 _ ((Option.some.inj hm).symm); subst hRR; exact ⟨rfl, hs.own.drop⟩)
   ·replace hm := bif_f hm hb
    refine wp_skip ?_
    refine hK17 _ _ ?_
    clear hK17
    refine qsr fun K31 hK31 => ?_
    refine qpu 1 hs fun a hs => ?_
    refine qld 0 (C.slc A_x0ops x0.ops.length c_x0ops) hs rfl fun a hs => ?_
    refine qpu 1 hs fun a hs => ?_
    obtain ⟨h_32, hm⟩ := ite_t hm
    obtain ⟨e_35, h_33, hm⟩ := bind_t hm
    obtain ⟨b_36, o_37, hA_38, h_34⟩ := Sl.elem hx_x0ops h_33
    refine qva (.pointer (some ⟨b_36, o_37 + q_13.toNat * 6, none⟩)) (op := (.indexAddr 55 (.tmp 40) (.tmp 41))) hs (fun o ho => run_idxSlc (k := .i64) ho (cap := c_x0ops) (len := x0.ops.length) ((congrArg (fun A => Value.slice A (x0.ops.length) (c_x0ops)) hA_38) ▸ (by kernel_rfl)) (by kernel_rfl) (by kernel_rfl) (idx_ok h_32 h_33) _) fun a hs => ?_
    refine qpu 1 hs fun a hs => ?_
    refine qva (vi e_35.kind) (op := (.load 3 (.tmp 43))) hs (fun o ho => run_load1 (b := b_36) (off := o_37 + q_13.toNat * 6) (c := ci e_35.kind) ho (by kernel_rfl) (by kernel_rfl) (CellsAt.cell h_34 (i := 0) (by kernel_rfl)) _ hs.own.drop) fun a hs => ?_
    refine qpk 1 [1, 3, 4, 45] hs fun a hs => hK31 _ _ ?_
    clear hK31
    refine qcs (e_35.kind == 2) hs (fun hb => ?_) fun hb => ?_
    ·replace hm := bif_t hm hb
     refine Vk.seq fun K39 hK39 => ?_
     refine qsr fun K40 hK40 => ?_
     refine qpu 1 hs fun a hs => ?_
     refine qld 0 (C.slc A_x0ops x0.ops.length c_x0ops) hs rfl fun a hs => ?_
     refine qpu 1 hs fun a hs => ?_
     obtain ⟨h_41, hm⟩ := ite_t hm
     obtain ⟨e_44, h_42, hm⟩ := bind_t hm
     obtain ⟨b_45, o_46, hA_47, h_43⟩ := Sl.elem hx_x0ops h_42
     refine qva (.pointer (some ⟨b_45, o_46 + q_13.toNat * 6, none⟩)) (op := (.indexAddr 55 (.tmp 47) (.tmp 48))) hs (fun o ho => run_idxSlc (k := .i64) ho (cap := c_x0ops) (len := x0.ops.length) ((congrArg (fun A => Value.slice A (x0.ops.length) (c_x0ops)) hA_47) ▸ (by kernel_rfl)) (by kernel_rfl) (by kernel_rfl) (idx_ok h_41 h_42) _) fun a hs => ?_
     refine qpu 1 hs fun a hs => ?_
     refine qva (vw e_44.c) (op := (.load 71 (.tmp 50))) hs (fun o ho => run_load1 (b := b_45) (off := o_46 + q_13.toNat * 6 + 5) (c := cw e_44.c) ho (by kernel_rfl) (by kernel_rfl) (CellsAt.cell h_43 (i := 5) (by kernel_rfl)) _ hs.own.drop) fun a hs => ?_
     refine qpk 2 [1, 3, 4, 53] hs fun a hs => hK40 _ _ ?_
     clear hK40
     refine qcs (e_44.c != q_12) hs (fun hb => ?_) fun hb => ?_
     ·replace hm := bif_t hm hb
      refine qse 1 [(2, .bool false)] hs fun a hs => ?_
      refine wp_ret ?_
      exact Vk.ret1 (P := Try.prog) (fn := Try.f29) (R := RR) (.bool false) hs rfl (by kernel_rfl) (by obtain rfl := hret11 _ ((Option.some.inj hm).symm); subst hRR; exact ⟨rfl, hs.own.drop⟩)
     ·replace hm := bif_f hm hb
      refine wp_skip ?_
      refine hK39 _ _ ?_
      clear hK39
      refine Vk.region ?_
      refine qpe 3 [(1, pp b_2), (3, vw (IntKind.u64.wrap (q_12 + 1))), (4, vi q_13)] hs fun a hs => ?_
      exact hj16 (IntKind.u64.wrap (q_12 + 1)) hm _ _ (hs.go [1, 3, 4] [0] 1 (by kernel_rfl) (by kernel_rfl) (by kernel_rfl))
    ·replace hm := bif_f hm hb
     refine wp_skip ?_
     exact hj16 q_12 hm _ _ (hs.go [1, 3, 4] [0] 1 (by kernel_rfl) (by kernel_rfl) (by kernel_rfl))
  ·replace hm := bif_f hm hb
   refine wp_exit ?_
   exact hx11 (Option.some.inj hm).symm _ _ (hs.go [1] [0] 1 (by kernel_rfl) (by kernel_rfl) (by kernel_rfl))


def visorref18_Tally.j1 (k : Nat) (rec8 : Cells → Int → Option (Cells)) (q_9 : Cells) (q_10 : Int) (p_25 : Int) : Option (Cells) := (if 0 ≤ p_25 ∧ p_25 < 13 then (getI .i64 q_9 (0 + p_25.toNat * 1)).bind fun v_28 => (if 0 ≤ p_25 ∧ p_25 < 13 then (if 0 + p_25.toNat * 1 < q_9.length then rec8 (q_9.set (0 + p_25.toNat * 1) (ci (IntKind.i64.wrap (v_28 + 1)))) (IntKind.i64.wrap (q_10 + 1)) else none) else none) else none)
def visorref18_Tally.l1 (x0 : Tapi_Trace) : Nat → Cells → Int → Option (Cells)
 | 0, _, _ => none
 | k + 1, q_9, q_10 => (bif decide (q_10 < ((x0.ops.length : Nat) : Int)) then (if 0 ≤ q_10 then (x0.ops[q_10.toNat]?).bind fun e_18 => (bif (decide (e_18.kind < 1)) || (decide (e_18.kind > 12)) then visorref18_Tally.j1 k (visorref18_Tally.l1 x0 k) q_9 q_10 0 else visorref18_Tally.j1 k (visorref18_Tally.l1 x0 k) q_9 q_10 e_18.kind) else none) else some q_9)
abbrev visorref18_Tally.R (κ : Ctx) (S : List HP) (x0 : Tapi_Trace) (A_x0ops : Option Addr) (c_x0ops : Nat) (A_x0blocks : Option Addr) (c_x0blocks : Nat) (r : Cells) : Ending → World → Prop := fun e w' => e = .returned (.agg (vals r)) ∧ Ow κ w' (S)
def visorref18_Tally.m (k : Nat) (x0 : Tapi_Trace) : Option Cells := (visorref18_Tally.l1 x0 k [ci 0, ci 0, ci 0, ci 0, ci 0, ci 0, ci 0, ci 0, ci 0, ci 0, ci 0, ci 0, ci 0] 0).bind fun p_31 => (if p_31.length = 13 then some p_31 else none)

set_option maxRecDepth 100000 in
set_option maxHeartbeats 4000000 in
theorem visorref18_Tally.ok (k : Nat) (x0 : Tapi_Trace) (r : Cells) (hm : visorref18_Tally.m k x0 = some r) (κ : Ctx) (w : World) (S : List HP) (A_x0ops : Option Addr) (c_x0ops : Nat) (hx_x0ops : Sl κ S A_x0ops c_x0ops 6 Tapi_Op.cells x0.ops) (A_x0blocks : Option Addr) (c_x0blocks : Nat) (hx_x0blocks : Sl κ S A_x0blocks c_x0blocks 3 Tapi_Span.cells x0.blocks) (ho : Ow κ w (S)) :
  Calls Try.prog 30 #[.agg (vals [ci x0.n, C.slc A_x0ops x0.ops.length c_x0ops, C.slc A_x0blocks x0.blocks.length c_x0blocks])] w (visorref18_Tally.R κ S x0 A_x0ops c_x0ops A_x0blocks c_x0blocks r) := by
 unfold visorref18_Tally.m at hm
 generalize hRR : visorref18_Tally.R κ S x0 A_x0ops c_x0ops A_x0blocks c_x0blocks r = RR
 refine qen [(0, .agg (vals [ci x0.n, C.slc A_x0ops x0.ops.length c_x0ops, C.slc A_x0blocks x0.blocks.length c_x0blocks]))] Try.func30 Try.ntmps30 ho fun a hs => ?_
 refine qsr fun K1 hK1 => ?_
 refine qbx 0 58 [ci x0.n, C.slc A_x0ops x0.ops.length c_x0ops, C.slc A_x0blocks x0.blocks.length c_x0blocks] 1 hs fun b_2 w a hs => ?_
 refine qal 77 [ci 0, ci 0, ci 0, ci 0, ci 0, ci 0, ci 0, ci 0, ci 0, ci 0, ci 0, ci 0, ci 0] 2 hs fun b_3 w a hs => ?_
 refine qpe 0 [(1, pp b_2), (2, pp b_3)] hs fun a hs => hK1 _ _ ?_
 clear hK1
 refine qsr fun K4 hK4 => ?_
 refine qpu 1 hs fun a hs => ?_
 refine qal 77 [ci 0, ci 0, ci 0, ci 0, ci 0, ci 0, ci 0, ci 0, ci 0, ci 0, ci 0, ci 0, ci 0] 3 hs fun b_5 w a hs => ?_
 refine qsa 0 [ci 0, ci 0, ci 0, ci 0, ci 0, ci 0, ci 0, ci 0, ci 0, ci 0, ci 0, ci 0, ci 0] hs rfl fun a w hs => ?_
 refine qpk 0 [1, 2, 3] hs fun a hs => hK4 _ _ ?_
 clear hK4
 refine Vk.seq fun K6 hK6 => ?_
 refine qsk 1 [1, 2, 3, 4] hs fun a hs => ?_
 refine wp_block ?_
 obtain ⟨r8, hl8, hm⟩ := bind_t hm
 have hx8 : ∀ (p_31 : Cells), r8 = p_31 → ∀ (a : Act) (w : World), St 32 a w κ [(2, pp b_3), (3, pp b_5)] (pt b_3 (blk [ci 0, ci 0, ci 0, ci 0, ci 0, ci 0, ci 0, ci 0, ci 0, ci 0, ci 0, ci 0, ci 0] 77) :: pt b_5 (blk p_31 77) :: S) → K6 a w := by
  intro p_31 he a w hs
  subst r8
  refine hK6 _ _ ?_
  clear hK6
  refine qsr fun K34 hK34 => ?_
  obtain ⟨h_35, hm⟩ := ite_t hm
  refine qlw 1 hs rfl h_35 fun a hs => ?_
  refine qsb 0 p_31 hs rfl h_35 rfl fun a w hs => ?_
  refine qpe 0 [(2, pp b_3)] hs fun a hs => hK34 _ _ ?_
  clear hK34
  refine wp_ret ?_
  exact Vk.retC p_31 hs rfl (by kernel_rfl) (sz := 13) (by kernel_rfl) h_35 (CellsAt.all 0 rfl) (hRR ▸ by cases hm; exact ⟨rfl, hs.own.f1.drop.drop⟩)
 refine Vk.loopBy (fun k (s : Cells × Int) a w => visorref18_Tally.l1 x0 k s.1 s.2 = some r8 ∧ St 32 a w κ [(1, pp b_2), (2, pp b_3), (3, pp b_5), (4, vi s.2)] (pt b_2 (blk (Tapi_Trace.obj x0 A_x0ops c_x0ops A_x0blocks c_x0blocks) 58) :: pt b_3 (blk [ci 0, ci 0, ci 0, ci 0, ci 0, ci 0, ci 0, ci 0, ci 0, ci 0, ci 0, ci 0, ci 0] 77) :: pt b_5 (blk s.1 77) :: S)) k ([ci 0, ci 0, ci 0, ci 0, ci 0, ci 0, ci 0, ci 0, ci 0, ci 0, ci 0, ci 0, ci 0], 0) ⟨hl8, hs.go [1, 2, 3, 4] [2, 1, 0] 3 (by kernel_rfl) (by kernel_rfl) (by kernel_rfl)⟩ (fun s a w h => by obtain ⟨h1, _⟩ := h; simp [visorref18_Tally.l1] at h1) (fun k KL8 ih s a w h => ?_)
 obtain ⟨q_9, q_10⟩ := s
 obtain ⟨hm, hs⟩ := h
 try dsimp only at hm hs
 rw [visorref18_Tally.l1] at hm
 refine Vk.seq fun K11 hK11 => ?_
 refine qsr fun K12 hK12 => ?_
 refine qpu 2 hs fun a hs => ?_
 refine qld 0 (C.slc A_x0ops x0.ops.length c_x0ops) hs rfl fun a hs => ?_
 refine qpk 2 [1, 2, 3, 4, 11] hs fun a hs => hK12 _ _ ?_
 clear hK12
 refine qcs (decide (q_10 < ((x0.ops.length : Nat) : Int))) hs (fun hb => ?_) fun hb => ?_
 ·replace hm := bif_t hm hb
  refine wp_skip ?_
  refine hK11 _ _ ?_
  clear hK11
  refine Vk.seq fun K13 hK13 => ?_
  refine wp_block ?_
  refine qsr fun K14 hK14 => ?_
  refine qpu 1 hs fun a hs => ?_
  refine qld 0 (C.slc A_x0ops x0.ops.length c_x0ops) hs rfl fun a hs => ?_
  refine qpu 1 hs fun a hs => ?_
  obtain ⟨h_15, hm⟩ := ite_t hm
  obtain ⟨e_18, h_16, hm⟩ := bind_t hm
  obtain ⟨b_19, o_20, hA_21, h_17⟩ := Sl.elem hx_x0ops h_16
  refine qva (.pointer (some ⟨b_19, o_20 + q_10.toNat * 6, none⟩)) (op := (.indexAddr 55 (.tmp 15) (.tmp 16))) hs (fun o ho => run_idxSlc (k := .i64) ho (cap := c_x0ops) (len := x0.ops.length) ((congrArg (fun A => Value.slice A (x0.ops.length) (c_x0ops)) hA_21) ▸ (by kernel_rfl)) (by kernel_rfl) (by kernel_rfl) (idx_ok h_15 h_16) _) fun a hs => ?_
  refine qpu 1 hs fun a hs => ?_
  refine qva (vi e_18.kind) (op := (.load 3 (.tmp 18))) hs (fun o ho => run_load1 (b := b_19) (off := o_20 + q_10.toNat * 6) (c := ci e_18.kind) ho (by kernel_rfl) (by kernel_rfl) (CellsAt.cell h_17 (i := 0) (by kernel_rfl)) _ hs.own.drop.drop.drop) fun a hs => ?_
  refine qpk 1 [1, 2, 3, 4, 5] hs fun a hs => hK14 _ _ ?_
  clear hK14
  refine Vk.seq fun K22 hK22 => ?_
  have hj22 : ∀ (p_25 : Int), visorref18_Tally.j1 k (visorref18_Tally.l1 x0 k) q_9 q_10 p_25 = some r8 → ∀ (a : Act) (w : World), St 32 a w κ [(1, pp b_2), (2, pp b_3), (3, pp b_5), (4, vi q_10), (5, vi p_25)] (pt b_2 (blk (Tapi_Trace.obj x0 A_x0ops c_x0ops A_x0blocks c_x0blocks) 58) :: pt b_3 (blk [ci 0, ci 0, ci 0, ci 0, ci 0, ci 0, ci 0, ci 0, ci 0, ci 0, ci 0, ci 0, ci 0] 77) :: pt b_5 (blk q_9 77) :: S) → K22 a w := by
   intro p_25 hm a w hs
   unfold visorref18_Tally.j1 at hm
   refine hK22 _ _ ?_
   refine Vk.region ?_
   refine qpu 1 hs fun a hs => ?_
   obtain ⟨h_26, hm⟩ := ite_t hm
   refine qix b_5 0 1 hs h_26 fun a hs => ?_
   obtain ⟨v_28, h_27, hm⟩ := bind_t hm
   refine qli 2 hs rfl h_27 fun a hs => ?_
   refine qpu 1 hs fun a hs => ?_
   obtain ⟨h_29, hm⟩ := ite_t hm
   refine qix b_5 0 1 hs h_29 fun a hs => ?_
   obtain ⟨h_30, hm⟩ := ite_t hm
   refine Vk.step (Vk.store1 (b := b_5) (ty := 3) (x := (.tmp 30)) (y := (.tmp 29)) (off := 0 + p_25.toNat * 1) (ci (IntKind.i64.wrap (v_28 + 1))) 2 hs (by kernel_rfl) (by kernel_rfl) (by kernel_rfl) (by kernel_rfl) (by kernel_rfl) (by kernel_rfl) rfl h_30 fun a w hs => ?_)
   refine qpk 0 [1, 2, 3, 4] hs fun a hs => hK13 _ _ ?_
   clear hK13
   refine Vk.region ?_
   refine qpk 3 [1, 2, 3, 4] hs fun a hs => ?_
   refine ih ((q_9.set (0 + p_25.toNat * 1) (ci (IntKind.i64.wrap (v_28 + 1)))), (IntKind.i64.wrap (q_10 + 1))) _ _ ⟨hm, hs.go [1, 2, 3, 4] [0, 1, 2] 3 (by kernel_rfl) (by kernel_rfl) (by kernel_rfl)⟩
  refine qsr fun K23 hK23 => ?_
  refine qpu 3 hs fun a hs => ?_
  refine qsc 22 3 hs fun a hs => ?_
  refine qpk 0 [1, 2, 3, 4, 5, 25] hs fun a hs => hK23 _ _ ?_
  clear hK23
  refine qcs ((decide (e_18.kind < 1)) || (decide (e_18.kind > 12))) hs (fun hb => ?_) fun hb => ?_
  ·replace hm := bif_t hm hb
   refine Vk.region ?_
   refine qpe 1 [(1, pp b_2), (2, pp b_3), (3, pp b_5), (4, vi q_10), (5, vi 0)] hs fun a hs => ?_
   exact hj22 0 hm _ _ (hs.go [1, 2, 3, 4, 5] [0, 1, 2] 3 (by kernel_rfl) (by kernel_rfl) (by kernel_rfl))
  ·replace hm := bif_f hm hb
   refine wp_skip ?_
   exact hj22 e_18.kind hm _ _ (hs.go [1, 2, 3, 4, 5] [0, 1, 2] 3 (by kernel_rfl) (by kernel_rfl) (by kernel_rfl))
 ·replace hm := bif_f hm hb
  refine wp_exit ?_
  exact hx8 q_9 (Option.some.inj hm).symm _ _ (hs.go [2, 3] [1, 2] 3 (by kernel_rfl) (by kernel_rfl) (by kernel_rfl))


abbrev visorref29_Word.R (κ : Ctx) (S : List HP) (x0 : List Int) (x1 : Int) (A_x0 : Option Addr) (c_x0 : Nat) (r : Int) : Ending → World → Prop := fun e w' => e = .returned (vw r) ∧ Ow κ w' (S)
def visorref29_Word.m (k : Nat) (x0 : List Int) (x1 : Int) : Option Int := (bif (decide (x1 < 0)) || (decide (x1 ≥ ((x0.length : Nat) : Int))) then some 0 else (if 0 ≤ x1 then (x0[x1.toNat]?).bind fun e_10 => some e_10 else none))

set_option maxRecDepth 100000 in
set_option maxHeartbeats 4000000 in
theorem visorref29_Word.ok (k : Nat) (x0 : List Int) (x1 : Int) (r : Int) (hm : visorref29_Word.m k x0 x1 = some r) (κ : Ctx) (w : World) (S : List HP) (A_x0 : Option Addr) (c_x0 : Nat) (hx_x0 : Sl κ S A_x0 c_x0 1 (eI .u64) x0) (ho : Ow κ w (S)) :
  Calls Try.prog 27 #[.slice A_x0 x0.length c_x0, vi x1] w (visorref29_Word.R κ S x0 x1 A_x0 c_x0 r) := by
 unfold visorref29_Word.m at hm
 generalize hRR : visorref29_Word.R κ S x0 x1 A_x0 c_x0 r = RR
 refine qen [(0, .slice A_x0 x0.length c_x0), (1, vi x1)] Try.func27 Try.ntmps27 ho fun a hs => ?_
 refine qsk 1 [0, 1] hs fun a hs => ?_
 refine Vk.seq fun K2 hK2 => ?_
 refine qsr fun K3 hK3 => ?_
 refine qpu 3 hs fun a hs => ?_
 refine qsc 7 5 hs fun a hs => ?_
 refine qpk 0 [0, 1, 12] hs fun a hs => hK3 _ _ ?_
 clear hK3
 refine qcs ((decide (x1 < 0)) || (decide (x1 ≥ ((x0.length : Nat) : Int)))) hs (fun hb => ?_) fun hb => ?_
 ·replace hm := bif_t hm hb
  refine qse 1 [(4, vw 0)] hs fun a hs => ?_
  refine wp_ret ?_
  exact qr1 (vw 0) hs rfl hRR (by cases hm; exact ⟨rfl, hs.own⟩)
 ·replace hm := bif_f hm hb
  refine wp_skip ?_
  refine hK2 _ _ ?_
  clear hK2
  refine qsr fun K6 hK6 => ?_
  refine qpu 2 hs fun a hs => ?_
  obtain ⟨h_7, hm⟩ := ite_t hm
  obtain ⟨e_10, h_8, hm⟩ := bind_t hm
  obtain ⟨b_11, o_12, hA_13, h_9⟩ := Sl.elem hx_x0 h_8
  refine qva (.pointer (some ⟨b_11, o_12 + x1.toNat * 1, none⟩)) (op := (.indexAddr 59 (.tmp 13) (.tmp 14))) hs (fun o ho => run_idxSlc (k := .i64) ho (cap := c_x0) (len := x0.length) ((congrArg (fun A => Value.slice A (x0.length) (c_x0)) hA_13) ▸ (by kernel_rfl)) (by kernel_rfl) (by kernel_rfl) (idx_ok h_7 h_8) _) fun a hs => ?_
  refine qva (vw e_10) (op := (.load 71 (.tmp 15))) hs (fun o ho => run_load1 (c := cw e_10) ho (by kernel_rfl) (by kernel_rfl) (fun w ho => h_9 w ho 0 _ rfl) _ hs.own) fun a hs => ?_
  refine qpe 1 [(4, vw e_10)] hs fun a hs => hK6 _ _ ?_
  clear hK6
  refine wp_ret ?_
  exact qr1 (vw e_10) hs rfl hRR (by cases hm; exact ⟨rfl, hs.own⟩)


def visorref01_Low.l1 (x0 : Int) : Nat → Int → Int → Option (Int)
 | 0, _, _ => none
 | k + 1, q_6, q_7 => (bif (decide (q_7 < x0)) && (decide (q_7 < 64)) then visorref01_Low.l1 x0 k (IntKind.u64.wrap ((IntKind.u64.wrap (q_6 * 2)) + 1)) (IntKind.i64.wrap (q_7 + 1)) else some q_6)
abbrev visorref01_Low.R (κ : Ctx) (S : List HP) (x0 : Int) (r : Int) : Ending → World → Prop := fun e w' => e = .returned (vw r) ∧ Ow κ w' (S)
def visorref01_Low.m (k : Nat) (x0 : Int) : Option Int := (visorref01_Low.l1 x0 k 0 0).bind fun p_12 => some p_12

set_option maxRecDepth 100000 in
set_option maxHeartbeats 4000000 in
theorem visorref01_Low.ok (k : Nat) (x0 : Int) (r : Int) (hm : visorref01_Low.m k x0 = some r) (κ : Ctx) (w : World) (S : List HP) (ho : Ow κ w (S)) :
  Calls Try.prog 47 #[vi x0] w (visorref01_Low.R κ S x0 r) := by
 unfold visorref01_Low.m at hm
 generalize hRR : visorref01_Low.R κ S x0 r = RR
 refine qen [(0, vi x0)] Try.func47 Try.ntmps47 ho fun a hs => ?_
 refine qse 1 [(0, vi x0)] hs fun a hs => ?_
 refine qse 1 [(0, vi x0), (3, vw 0)] hs fun a hs => ?_
 refine Vk.seq fun K3 hK3 => ?_
 refine qsk 1 [0, 3, 4] hs fun a hs => ?_
 refine wp_block ?_
 obtain ⟨r5, hl5, hm⟩ := bind_t hm
 have hx5 : ∀ (p_12 : Int), r5 = p_12 → ∀ (a : Act) (w : World), St 18 a w κ [(3, vw p_12)] (S) → K3 a w := by
  intro p_12 he a w hs
  subst r5
  refine hK3 _ _ ?_
  clear hK3
  refine qse 2 [(2, vw p_12)] hs fun a hs => ?_
  refine wp_ret ?_
  exact qr1 (vw p_12) hs rfl hRR (by cases hm; exact ⟨rfl, hs.own⟩)
 refine Vk.loopBy (fun k (s : Int × Int) a w => visorref01_Low.l1 x0 k s.1 s.2 = some r5 ∧ St 18 a w κ [(0, vi x0), (3, vw s.1), (4, vi s.2)] (S)) k (0, 0) ⟨hl5, hs.go [0, 3, 4] [] 0 (by kernel_rfl) (by kernel_rfl) (by kernel_rfl)⟩ (fun s a w h => by obtain ⟨h1, _⟩ := h; simp [visorref01_Low.l1] at h1) (fun k KL5 ih s a w h => ?_)
 obtain ⟨q_6, q_7⟩ := s
 obtain ⟨hm, hs⟩ := h
 try dsimp only at hm hs
 rw [visorref01_Low.l1] at hm
 refine Vk.seq fun K8 hK8 => ?_
 refine qsr fun K9 hK9 => ?_
 refine qpu 4 hs fun a hs => ?_
 refine qsc 8 3 hs fun a hs => ?_
 refine qpk 0 [0, 3, 4, 11] hs fun a hs => hK9 _ _ ?_
 clear hK9
 refine qcs ((decide (q_7 < x0)) && (decide (q_7 < 64))) hs (fun hb => ?_) fun hb => ?_
 ·replace hm := bif_t hm hb
  refine wp_skip ?_
  refine hK8 _ _ ?_
  clear hK8
  refine Vk.seq fun K11 hK11 => ?_
  refine wp_block ?_
  refine Vk.region ?_
  refine qpk 4 [0, 3, 4] hs fun a hs => hK11 _ _ ?_
  clear hK11
  refine Vk.region ?_
  refine qpk 3 [0, 3, 4] hs fun a hs => ?_
  refine ih ((IntKind.u64.wrap ((IntKind.u64.wrap (q_6 * 2)) + 1)), (IntKind.i64.wrap (q_7 + 1))) _ _ ⟨hm, hs.go [0, 3, 4] [] 0 (by kernel_rfl) (by kernel_rfl) (by kernel_rfl)⟩
 ·replace hm := bif_f hm hb
  refine wp_exit ?_
  exact hx5 q_6 (Option.some.inj hm).symm _ _ (hs.go [3] [] 0 (by kernel_rfl) (by kernel_rfl) (by kernel_rfl))


abbrev visorref01_Mod.R (κ : Ctx) (S : List HP) (x0 : Int) (x1 : Int) (r : Int) : Ending → World → Prop := fun e w' => e = .returned (vi r) ∧ Ow κ w' (S)
def visorref01_Mod.m (k : Nat) (x0 : Int) (x1 : Int) : Option Int := (if x1 ≠ 0 then (bif decide ((Int.tmod x0 x1) < 0) then (if x1 ≠ 0 then some (IntKind.i64.wrap ((Int.tmod x0 x1) + x1)) else none) else (if x1 ≠ 0 then some (Int.tmod x0 x1) else none)) else none)

set_option maxRecDepth 100000 in
set_option maxHeartbeats 4000000 in
theorem visorref01_Mod.ok (k : Nat) (x0 : Int) (x1 : Int) (r : Int) (hm : visorref01_Mod.m k x0 x1 = some r) (κ : Ctx) (w : World) (S : List HP) (ho : Ow κ w (S)) :
  Calls Try.prog 57 #[vi x0, vi x1] w (visorref01_Mod.R κ S x0 x1 r) := by
 unfold visorref01_Mod.m at hm
 generalize hRR : visorref01_Mod.R κ S x0 x1 r = RR
 refine qen [(0, vi x0), (1, vi x1)] Try.func57 Try.ntmps57 ho fun a hs => ?_
 refine qse 1 [(0, vi x0), (1, vi x1)] hs fun a hs => ?_
 refine Vk.seq fun K2 hK2 => ?_
 refine qsr fun K3 hK3 => ?_
 refine qpu 2 hs fun a hs => ?_
 obtain ⟨h_4, hm⟩ := ite_t hm
 refine qva (vi (Int.tmod x0 x1)) (op := (.binOp .rem 3 (.tmp 5) (.tmp 6) 3)) hs (fun o ho => run_rem ho (by kernel_rfl) (by kernel_rfl) h_4 _) fun a hs => ?_
 refine qpk 1 [0, 1, 8] hs fun a hs => hK3 _ _ ?_
 clear hK3
 refine qcs (decide ((Int.tmod x0 x1) < 0)) hs (fun hb => ?_) fun hb => ?_
 ·replace hm := bif_t hm hb
  refine qsr fun K5 hK5 => ?_
  refine qpu 2 hs fun a hs => ?_
  obtain ⟨h_6, hm⟩ := ite_t hm
  refine qva (vi (Int.tmod x0 x1)) (op := (.binOp .rem 3 (.tmp 9) (.tmp 10) 3)) hs (fun o ho => run_rem ho (by kernel_rfl) (by kernel_rfl) h_6 _) fun a hs => ?_
  refine qpk 3 [4] hs fun a hs => hK5 _ _ ?_
  clear hK5
  refine wp_ret ?_
  exact qr1 (vi (IntKind.i64.wrap ((Int.tmod x0 x1) + x1))) hs rfl hRR (by cases hm; exact ⟨rfl, hs.own⟩)
 ·replace hm := bif_f hm hb
  refine wp_skip ?_
  refine hK2 _ _ ?_
  clear hK2
  refine qsr fun K7 hK7 => ?_
  refine qpu 2 hs fun a hs => ?_
  obtain ⟨h_8, hm⟩ := ite_t hm
  refine qva (vi (Int.tmod x0 x1)) (op := (.binOp .rem 3 (.tmp 14) (.tmp 15) 3)) hs (fun o ho => run_rem ho (by kernel_rfl) (by kernel_rfl) h_8 _) fun a hs => ?_
  refine qpk 1 [4] hs fun a hs => hK7 _ _ ?_
  clear hK7
  refine wp_ret ?_
  exact qr1 (vi (Int.tmod x0 x1)) hs rfl hRR (by cases hm; exact ⟨rfl, hs.own⟩)


def visorref01_Rot.l1 (x1 : Int) : Nat → Int → Int → Option (Int)
 | 0, _, _ => none
 | k + 1, q_5, q_6 => (visorref01_Mod.m k x1 64).bind fun v_11 => (bif decide (q_6 < v_11) then visorref01_Rot.l1 x1 k (IntKind.u64.wrap ((IntKind.u64.wrap (q_5 * 2)) + (IntKind.u64.wrap (Int.tdiv q_5 9223372036854775808)))) (IntKind.i64.wrap (q_6 + 1)) else some q_5)
abbrev visorref01_Rot.R (κ : Ctx) (S : List HP) (x0 : Int) (x1 : Int) (r : Int) : Ending → World → Prop := fun e w' => e = .returned (vw r) ∧ Ow κ w' (S)
def visorref01_Rot.m (k : Nat) (x0 : Int) (x1 : Int) : Option Int := (visorref01_Rot.l1 x1 k x0 0).bind fun p_13 => some p_13

set_option maxRecDepth 100000 in
set_option maxHeartbeats 4000000 in
theorem visorref01_Rot.ok (k : Nat) (x0 : Int) (x1 : Int) (r : Int) (hm : visorref01_Rot.m k x0 x1 = some r) (κ : Ctx) (w : World) (S : List HP) (ho : Ow κ w (S)) :
  Calls Try.prog 46 #[vw x0, vi x1] w (visorref01_Rot.R κ S x0 x1 r) := by
 unfold visorref01_Rot.m at hm
 generalize hRR : visorref01_Rot.R κ S x0 x1 r = RR
 refine qen [(0, vw x0), (1, vi x1)] Try.func46 Try.ntmps46 ho fun a hs => ?_
 refine qse 1 [(0, vw x0), (1, vi x1)] hs fun a hs => ?_
 refine Vk.seq fun K2 hK2 => ?_
 refine qsk 1 [0, 1, 5] hs fun a hs => ?_
 refine wp_block ?_
 obtain ⟨r4, hl4, hm⟩ := bind_t hm
 have hx4 : ∀ (p_13 : Int), r4 = p_13 → ∀ (a : Act) (w : World), St 18 a w κ [(0, vw p_13)] (S) → K2 a w := by
  intro p_13 he a w hs
  subst r4
  refine hK2 _ _ ?_
  clear hK2
  refine qse 2 [(4, vw p_13)] hs fun a hs => ?_
  refine wp_ret ?_
  exact qr1 (vw p_13) hs rfl hRR (by cases hm; exact ⟨rfl, hs.own⟩)
 refine Vk.loopBy (fun k (s : Int × Int) a w => visorref01_Rot.l1 x1 k s.1 s.2 = some r4 ∧ St 18 a w κ [(0, vw s.1), (1, vi x1), (5, vi s.2)] (S)) k (x0, 0) ⟨hl4, hs.go [0, 1, 5] [] 0 (by kernel_rfl) (by kernel_rfl) (by kernel_rfl)⟩ (fun s a w h => by obtain ⟨h1, _⟩ := h; simp [visorref01_Rot.l1] at h1) (fun k KL4 ih s a w h => ?_)
 obtain ⟨q_5, q_6⟩ := s
 obtain ⟨hm, hs⟩ := h
 try dsimp only at hm hs
 rw [visorref01_Rot.l1] at hm
 refine Vk.seq fun K7 hK7 => ?_
 refine qsr fun K8 hK8 => ?_
 refine qpu 2 hs fun a hs => ?_
 obtain ⟨v_11, h_10, hm⟩ := bind_t hm
 refine qcl (visorref01_Mod.ok _ _ _ _ h_10 _ _ (S) hs.own) hs fun w a hs => ?_
 refine qpk 1 [0, 1, 5, 9] hs fun a hs => hK8 _ _ ?_
 clear hK8
 refine qcs (decide (q_6 < v_11)) hs (fun hb => ?_) fun hb => ?_
 ·replace hm := bif_t hm hb
  refine wp_skip ?_
  refine hK7 _ _ ?_
  clear hK7
  refine Vk.seq fun K12 hK12 => ?_
  refine wp_block ?_
  refine Vk.region ?_
  refine qpk 6 [0, 1, 5] hs fun a hs => hK12 _ _ ?_
  clear hK12
  refine Vk.region ?_
  refine qpk 3 [0, 1, 5] hs fun a hs => ?_
  refine ih ((IntKind.u64.wrap ((IntKind.u64.wrap (q_5 * 2)) + (IntKind.u64.wrap (Int.tdiv q_5 9223372036854775808)))), (IntKind.i64.wrap (q_6 + 1))) _ _ ⟨hm, hs.go [0, 1, 5] [] 0 (by kernel_rfl) (by kernel_rfl) (by kernel_rfl)⟩
 ·replace hm := bif_f hm hb
  refine wp_exit ?_
  exact hx4 q_5 (Option.some.inj hm).symm _ _ (hs.go [0] [] 0 (by kernel_rfl) (by kernel_rfl) (by kernel_rfl))


def visorref17_Eval.j1 (k : Nat) (x0 : Tapi_Op) (x1 : Int) (x2 : Int) (x3 : Int) (p_12 : Bool) : Option (Int) := (bif p_12 then some x0.c else (bif x0.kind == 5 then some (bxor .u64 x1 x2) else (bif x0.kind == 6 then some (IntKind.u64.wrap (18446744073709551615 - x1)) else (bif x0.kind == 7 then some (band .u64 x1 x2) else (bif x0.kind == 8 then some (band .u64 x1 x0.c) else (bif x0.kind == 9 then (visorref01_Low.m k (IntKind.i64.wrap (64 - (IntKind.i64.wrap (Int.tmod x0.c 64))))).bind fun v_26 => (visorref01_Rot.m k (band .u64 x1 v_26) (IntKind.i64.wrap (Int.tmod x0.c 64))).bind fun v_29 => some v_29 else (bif x0.kind == 10 then (visorref01_Rot.m k x1 (IntKind.i64.wrap (64 - (IntKind.i64.wrap (Int.tmod x0.c 64))))).bind fun v_34 => (visorref01_Low.m k (IntKind.i64.wrap (64 - (IntKind.i64.wrap (Int.tmod x0.c 64))))).bind fun v_37 => some (band .u64 v_34 v_37) else (bif x0.kind == 11 then (visorref01_Rot.m k x1 (IntKind.i64.wrap (Int.tmod x0.c 64))).bind fun v_42 => some v_42 else (bif x0.kind == 12 then some (bxor .u64 (bxor .u64 x1 x2) x3) else some 0)))))))))
abbrev visorref17_Eval.R (κ : Ctx) (S : List HP) (x0 : Tapi_Op) (x1 : Int) (x2 : Int) (x3 : Int) (x4 : Int) (r : Int) : Ending → World → Prop := fun e w' => e = .returned (vw r) ∧ Ow κ w' (S)
def visorref17_Eval.m (k : Nat) (x0 : Tapi_Op) (x1 : Int) (x2 : Int) (x3 : Int) (x4 : Int) : Option Int := (bif x0.kind == 1 then some x4 else (bif x0.kind == 2 then some (bxor .u64 (bxor .u64 x4 x1) x2) else (bif x0.kind == 3 then visorref17_Eval.j1 k x0 x1 x2 x3 (x0.kind == 3) else visorref17_Eval.j1 k x0 x1 x2 x3 (x0.kind == 4))))

set_option maxRecDepth 100000 in
set_option maxHeartbeats 4000000 in
theorem visorref17_Eval.ok (k : Nat) (x0 : Tapi_Op) (x1 : Int) (x2 : Int) (x3 : Int) (x4 : Int) (r : Int) (hm : visorref17_Eval.m k x0 x1 x2 x3 x4 = some r) (κ : Ctx) (w : World) (S : List HP) (ho : Ow κ w (S)) :
  Calls Try.prog 37 #[.agg (vals [ci x0.kind, ci x0.dom, ci x0.a, ci x0.b, ci x0.d, cw x0.c]), vw x1, vw x2, vw x3, vw x4] w (visorref17_Eval.R κ S x0 x1 x2 x3 x4 r) := by
 unfold visorref17_Eval.m at hm
 generalize hRR : visorref17_Eval.R κ S x0 x1 x2 x3 x4 r = RR
 refine qen [(0, .agg (vals [ci x0.kind, ci x0.dom, ci x0.a, ci x0.b, ci x0.d, cw x0.c])), (1, vw x1), (2, vw x2), (3, vw x3), (4, vw x4)] Try.func37 Try.ntmps37 ho fun a hs => ?_
 refine qsr fun K1 hK1 => ?_
 refine qbx 0 85 [ci x0.kind, ci x0.dom, ci x0.a, ci x0.b, ci x0.d, cw x0.c] 5 hs fun b_2 w a hs => ?_
 refine qpk 1 [1, 2, 3, 4, 5] hs fun a hs => hK1 _ _ ?_
 clear hK1
 refine qsr fun K3 hK3 => ?_
 refine qpu 1 hs fun a hs => ?_
 refine qld 0 (cw x0.c) hs rfl fun a hs => ?_
 refine qpk 3 [1, 2, 3, 4, 5, 11] hs fun a hs => hK3 _ _ ?_
 clear hK3
 refine Vk.seq fun K4 hK4 => ?_
 refine qsr fun K5 hK5 => ?_
 refine qpu 1 hs fun a hs => ?_
 refine qld 0 (ci x0.kind) hs rfl fun a hs => ?_
 refine qpk 0 [1, 2, 3, 4, 5, 11, 17] hs fun a hs => hK5 _ _ ?_
 clear hK5
 refine wp_block ?_
 refine qsk 2 [1, 2, 3, 4, 5, 11, 17, 18] hs fun a hs => ?_
 refine qcs (x0.kind == 1) hs (fun hb => ?_) fun hb => ?_
 ·replace hm := bif_t hm hb
  refine qse 2 [(10, vw x4)] hs fun a hs => ?_
  refine wp_ret ?_
  exact qr1 (vw x4) hs rfl hRR (by cases hm; exact ⟨rfl, hs.own.drop⟩)
 ·replace hm := bif_f hm hb
  refine qsk 2 [1, 2, 3, 4, 5, 11, 17, 21] hs fun a hs => ?_
  refine qcs (x0.kind == 2) hs (fun hb => ?_) fun hb => ?_
  ·replace hm := bif_t hm hb
   refine qsk 6 [10] hs fun a hs => ?_
   refine wp_ret ?_
   exact qr1 (vw (bxor .u64 (bxor .u64 x4 x1) x2)) hs rfl hRR (by cases hm; exact ⟨rfl, hs.own.drop⟩)
  ·replace hm := bif_f hm hb
   refine Vk.seq fun K10 hK10 => ?_
   have hj10 : ∀ (p_12 : Bool), visorref17_Eval.j1 k x0 x1 x2 x3 p_12 = some r → ∀ (a : Act) (w : World), St 84 a w κ [(1, vw x1), (2, vw x2), (3, vw x3), (5, pp b_2), (11, vi (IntKind.i64.wrap (Int.tmod x0.c 64))), (17, vi x0.kind), (28, .bool p_12)] (pt b_2 (blk (Tapi_Op.cells x0) 85) :: S) → K10 a w := by
    intro p_12 hm a w hs
    unfold visorref17_Eval.j1 at hm
    refine hK10 _ _ ?_
    refine qcs (p_12) hs (fun hb => ?_) fun hb => ?_
    ·replace hm := bif_t hm hb
     refine qsr fun K13 hK13 => ?_
     refine qpu 1 hs fun a hs => ?_
     refine qld 0 (cw x0.c) hs rfl fun a hs => ?_
     refine qpe 1 [(10, vw x0.c)] hs fun a hs => hK13 _ _ ?_
     clear hK13
     refine wp_ret ?_
     exact qr1 (vw x0.c) hs rfl hRR (by cases hm; exact ⟨rfl, hs.own.drop⟩)
    ·replace hm := bif_f hm hb
     refine qsk 2 [1, 2, 3, 5, 11, 17, 33] hs fun a hs => ?_
     refine qcs (x0.kind == 5) hs (fun hb => ?_) fun hb => ?_
     ·replace hm := bif_t hm hb
      refine qsk 4 [10] hs fun a hs => ?_
      refine wp_ret ?_
      exact qr1 (vw (bxor .u64 x1 x2)) hs rfl hRR (by cases hm; exact ⟨rfl, hs.own.drop⟩)
     ·replace hm := bif_f hm hb
      refine qsk 2 [1, 2, 3, 5, 11, 17, 38] hs fun a hs => ?_
      refine qcs (x0.kind == 6) hs (fun hb => ?_) fun hb => ?_
      ·replace hm := bif_t hm hb
       refine qsk 3 [10] hs fun a hs => ?_
       refine wp_ret ?_
       exact qr1 (vw (IntKind.u64.wrap (18446744073709551615 - x1))) hs rfl hRR (by cases hm; exact ⟨rfl, hs.own.drop⟩)
      ·replace hm := bif_f hm hb
       refine qsk 2 [1, 2, 3, 5, 11, 17, 42] hs fun a hs => ?_
       refine qcs (x0.kind == 7) hs (fun hb => ?_) fun hb => ?_
       ·replace hm := bif_t hm hb
        refine qse 4 [(10, vw (band .u64 x1 x2))] hs fun a hs => ?_
        refine wp_ret ?_
        exact qr1 (vw (band .u64 x1 x2)) hs rfl hRR (by cases hm; exact ⟨rfl, hs.own.drop⟩)
       ·replace hm := bif_f hm hb
        refine qsk 2 [1, 2, 3, 5, 11, 17, 47] hs fun a hs => ?_
        refine qcs (x0.kind == 8) hs (fun hb => ?_) fun hb => ?_
        ·replace hm := bif_t hm hb
         refine qsr fun K21 hK21 => ?_
         refine qpu 2 hs fun a hs => ?_
         refine qld 0 (cw x0.c) hs rfl fun a hs => ?_
         refine qpk 2 [10] hs fun a hs => hK21 _ _ ?_
         clear hK21
         refine wp_ret ?_
         exact qr1 (vw (band .u64 x1 x0.c)) hs rfl hRR (by cases hm; exact ⟨rfl, hs.own.drop⟩)
        ·replace hm := bif_f hm hb
         refine qsk 2 [1, 2, 3, 11, 17, 53] hs fun a hs => ?_
         refine qcs (x0.kind == 9) hs (fun hb => ?_) fun hb => ?_
         ·replace hm := bif_t hm hb
          refine qsr fun K23 hK23 => ?_
          refine qpu 3 hs fun a hs => ?_
          obtain ⟨v_26, h_25, hm⟩ := bind_t hm
          refine qcl (visorref01_Low.ok _ _ _ h_25 _ _ (pt b_2 (blk (Tapi_Op.cells x0) 85) :: S) hs.own) hs fun w a hs => ?_
          refine qpu 2 hs fun a hs => ?_
          obtain ⟨v_29, h_28, hm⟩ := bind_t hm
          refine qcl (visorref01_Rot.ok _ _ _ _ h_28 _ _ (pt b_2 (blk (Tapi_Op.cells x0) 85) :: S) hs.own) hs fun w a hs => ?_
          refine qpe 1 [(10, vw v_29)] hs fun a hs => hK23 _ _ ?_
          clear hK23
          refine wp_ret ?_
          exact qr1 (vw v_29) hs rfl hRR (by cases hm; exact ⟨rfl, hs.own.drop⟩)
         ·replace hm := bif_f hm hb
          refine qsk 2 [1, 2, 3, 11, 17, 62] hs fun a hs => ?_
          refine qcs (x0.kind == 10) hs (fun hb => ?_) fun hb => ?_
          ·replace hm := bif_t hm hb
           refine qsr fun K31 hK31 => ?_
           refine qpu 3 hs fun a hs => ?_
           obtain ⟨v_34, h_33, hm⟩ := bind_t hm
           refine qcl (visorref01_Rot.ok _ _ _ _ h_33 _ _ (pt b_2 (blk (Tapi_Op.cells x0) 85) :: S) hs.own) hs fun w a hs => ?_
           refine qpu 2 hs fun a hs => ?_
           obtain ⟨v_37, h_36, hm⟩ := bind_t hm
           refine qcl (visorref01_Low.ok _ _ _ h_36 _ _ (pt b_2 (blk (Tapi_Op.cells x0) 85) :: S) hs.own) hs fun w a hs => ?_
           refine qpk 2 [10] hs fun a hs => hK31 _ _ ?_
           clear hK31
           refine wp_ret ?_
           exact qr1 (vw (band .u64 v_34 v_37)) hs rfl hRR (by cases hm; exact ⟨rfl, hs.own.drop⟩)
          ·replace hm := bif_f hm hb
           refine qsk 2 [1, 2, 3, 11, 17, 72] hs fun a hs => ?_
           refine qcs (x0.kind == 11) hs (fun hb => ?_) fun hb => ?_
           ·replace hm := bif_t hm hb
            refine qsr fun K39 hK39 => ?_
            refine qpu 2 hs fun a hs => ?_
            obtain ⟨v_42, h_41, hm⟩ := bind_t hm
            refine qcl (visorref01_Rot.ok _ _ _ _ h_41 _ _ (pt b_2 (blk (Tapi_Op.cells x0) 85) :: S) hs.own) hs fun w a hs => ?_
            refine qpe 1 [(10, vw v_42)] hs fun a hs => hK39 _ _ ?_
            clear hK39
            refine wp_ret ?_
            exact qr1 (vw v_42) hs rfl hRR (by cases hm; exact ⟨rfl, hs.own.drop⟩)
           ·replace hm := bif_f hm hb
            refine qsk 2 [1, 2, 3, 77] hs fun a hs => ?_
            refine qcs (x0.kind == 12) hs (fun hb => ?_) fun hb => ?_
            ·replace hm := bif_t hm hb
             refine qsk 6 [10] hs fun a hs => ?_
             refine wp_ret ?_
             exact qr1 (vw (bxor .u64 (bxor .u64 x1 x2) x3)) hs rfl hRR (by cases hm; exact ⟨rfl, hs.own.drop⟩)
            ·replace hm := bif_f hm hb
             refine wp_skip ?_
             refine hK4 _ _ ?_
             clear hK4
             refine qse 1 [(10, vw 0)] hs fun a hs => ?_
             refine wp_ret ?_
             exact qr1 (vw 0) hs rfl hRR (by cases hm; exact ⟨rfl, hs.own.drop⟩)
   refine qse 2 [(1, vw x1), (2, vw x2), (3, vw x3), (5, pp b_2), (11, vi (IntKind.i64.wrap (Int.tmod x0.c 64))), (17, vi x0.kind), (28, .bool (x0.kind == 3))] hs fun a hs => ?_
   refine qcs (x0.kind == 3) hs (fun hb => ?_) fun hb => ?_
   ·replace hm := bif_t hm hb
    refine wp_skip ?_
    exact hj10 (x0.kind == 3) hm _ _ (hs.go [1, 2, 3, 5, 11, 17, 28] [0] 1 (by kernel_rfl) (by kernel_rfl) (by kernel_rfl))
   ·replace hm := bif_f hm hb
    refine Vk.region ?_
    refine qpe 2 [(1, vw x1), (2, vw x2), (3, vw x3), (5, pp b_2), (11, vi (IntKind.i64.wrap (Int.tmod x0.c 64))), (17, vi x0.kind), (28, .bool (x0.kind == 4))] hs fun a hs => ?_
    exact hj10 (x0.kind == 4) hm _ _ (hs.go [1, 2, 3, 5, 11, 17, 28] [0] 1 (by kernel_rfl) (by kernel_rfl) (by kernel_rfl))


def visorref29_Play.j3 (k : Nat) (rec10 : (List Int) → Int → Int → Int → Option (List Int)) (q_14 : Int) (p_89 : List Int) (p_90 : Int) (p_91 : Int) : Option (List Int) := rec10 p_89 p_90 p_91 (IntKind.i64.wrap (q_14 + 1))
def visorref29_Play.j2 (k : Nat) (rec10 : (List Int) → Int → Int → Int → Option (List Int)) (x2 : List Int) (x4 : Bool) (q_11 : List Int) (q_13 : Int) (q_14 : Int) (e_22 : Tapi_Op) (p_38 : Int) (p_50 : Int) : Option (List Int) := (visorref29_Word.m k q_11 e_22.a).bind fun v_55 => (visorref29_Word.m k q_11 e_22.b).bind fun v_58 => (visorref29_Word.m k q_11 e_22.d).bind fun v_61 => (visorref17_Eval.m k e_22 v_55 v_58 v_61 p_50).bind fun v_64 => (if 0 ≤ q_14 then (q_11[q_14.toNat]?).bind fun e_68 => (bif (e_22.kind == 12) && x4 then (if 0 ≤ q_13 then (x2[q_13.toNat]?).bind fun e_78 => (if 0 ≤ q_14 then ((q_11.set q_14.toNat v_64)[q_14.toNat]?).bind fun e_85 => visorref29_Play.j3 k (rec10) q_14 ((q_11.set q_14.toNat v_64).set q_14.toNat e_78) p_38 (IntKind.i64.wrap (q_13 + 1)) else none) else none) else visorref29_Play.j3 k (rec10) q_14 (q_11.set q_14.toNat v_64) p_38 q_13) else none)
def visorref29_Play.j1 (k : Nat) (rec10 : (List Int) → Int → Int → Int → Option (List Int)) (x1 : List Int) (x2 : List Int) (x4 : Bool) (q_11 : List Int) (q_13 : Int) (q_14 : Int) (e_22 : Tapi_Op) (p_38 : Int) (p_39 : Int) : Option (List Int) := (bif (e_22.kind == 2) && (!x4) then (if 0 ≤ e_22.c then (x1[e_22.c.toNat]?).bind fun e_46 => visorref29_Play.j2 k (rec10) x2 x4 q_11 q_13 q_14 e_22 p_38 e_46 else none) else visorref29_Play.j2 k (rec10) x2 x4 q_11 q_13 q_14 e_22 p_38 p_39)
def visorref29_Play.l1 (x0 : Tapi_Trace) (x1 : List Int) (x2 : List Int) (x3 : List Int) (x4 : Bool) : Nat → (List Int) → Int → Int → Int → Option (List Int)
 | 0, _, _, _, _ => none
 | k + 1, q_11, q_12, q_13, q_14 => (bif decide (q_14 < ((x0.ops.length : Nat) : Int)) then (if 0 ≤ q_14 then (x0.ops[q_14.toNat]?).bind fun e_22 => (bif e_22.kind == 1 then (if 0 ≤ q_12 then (x3[q_12.toNat]?).bind fun e_34 => visorref29_Play.j1 k (visorref29_Play.l1 x0 x1 x2 x3 x4 k) x1 x2 x4 q_11 q_13 q_14 e_22 (IntKind.i64.wrap (q_12 + 1)) e_34 else none) else visorref29_Play.j1 k (visorref29_Play.l1 x0 x1 x2 x3 x4 k) x1 x2 x4 q_11 q_13 q_14 e_22 q_12 0) else none) else some q_11)
abbrev visorref29_Play.R (κ : Ctx) (S : List HP) (x0 : Tapi_Trace) (x1 : List Int) (x2 : List Int) (x3 : List Int) (x4 : Bool) (A_x0ops : Option Addr) (c_x0ops : Nat) (A_x0blocks : Option Addr) (c_x0blocks : Nat) (A_x1 : Option Addr) (c_x1 : Nat) (A_x2 : Option Addr) (c_x2 : Nat) (A_x3 : Option Addr) (c_x3 : Nat) (r : List Int) : Ending → World → Prop := fun e w' => ∃ (A_r0 : Option Addr), ∃ (c_r0 : Nat), e = .returned (.slice A_r0 r.length c_r0) ∧ Ow κ w' (rowp A_r0 c_r0 71 1 (eI .u64) r :: S)
def visorref29_Play.m (k : Nat) (x0 : Tapi_Trace) (x1 : List Int) (x2 : List Int) (x3 : List Int) (x4 : Bool) : Option (List Int) := (if (0 : Int) ≤ ((x0.ops.length : Nat) : Int) ∧ (((x0.ops.length : Nat) : Int) : Int) ≤ ((x0.ops.length : Nat) : Int) ∧ (8 : Int) * ((x0.ops.length : Nat) : Int) ≤ 281474976710656 then (visorref29_Play.l1 x0 x1 x2 x3 x4 k (List.replicate ((x0.ops.length : Nat) : Int).toNat 0 : List Int) 0 0 0).bind fun p_92 => some p_92 else none)

set_option maxRecDepth 100000 in
set_option maxHeartbeats 4000000 in
theorem visorref29_Play.ok (k : Nat) (x0 : Tapi_Trace) (x1 : List Int) (x2 : List Int) (x3 : List Int) (x4 : Bool) (r : List Int) (hm : visorref29_Play.m k x0 x1 x2 x3 x4 = some r) (κ : Ctx) (w : World) (S : List HP) (A_x0ops : Option Addr) (c_x0ops : Nat) (hx_x0ops : Sl κ S A_x0ops c_x0ops 6 Tapi_Op.cells x0.ops) (A_x0blocks : Option Addr) (c_x0blocks : Nat) (hx_x0blocks : Sl κ S A_x0blocks c_x0blocks 3 Tapi_Span.cells x0.blocks) (A_x1 : Option Addr) (c_x1 : Nat) (hx_x1 : Sl κ S A_x1 c_x1 1 (eI .u64) x1) (A_x2 : Option Addr) (c_x2 : Nat) (hx_x2 : Sl κ S A_x2 c_x2 1 (eI .u64) x2) (A_x3 : Option Addr) (c_x3 : Nat) (hx_x3 : Sl κ S A_x3 c_x3 1 (eI .u64) x3) (ho : Ow κ w (S)) :
  Calls Try.prog 23 #[.agg (vals [ci x0.n, C.slc A_x0ops x0.ops.length c_x0ops, C.slc A_x0blocks x0.blocks.length c_x0blocks]), .slice A_x1 x1.length c_x1, .slice A_x2 x2.length c_x2, .slice A_x3 x3.length c_x3, .bool x4] w (visorref29_Play.R κ S x0 x1 x2 x3 x4 A_x0ops c_x0ops A_x0blocks c_x0blocks A_x1 c_x1 A_x2 c_x2 A_x3 c_x3 r) := by
 unfold visorref29_Play.m at hm
 generalize hRR : visorref29_Play.R κ S x0 x1 x2 x3 x4 A_x0ops c_x0ops A_x0blocks c_x0blocks A_x1 c_x1 A_x2 c_x2 A_x3 c_x3 r = RR
 refine qen [(0, .agg (vals [ci x0.n, C.slc A_x0ops x0.ops.length c_x0ops, C.slc A_x0blocks x0.blocks.length c_x0blocks])), (1, .slice A_x1 x1.length c_x1), (2, .slice A_x2 x2.length c_x2), (3, .slice A_x3 x3.length c_x3), (4, .bool x4)] Try.func23 Try.ntmps23 ho fun a hs => ?_
 refine qsr fun K1 hK1 => ?_
 refine qbx 0 58 [ci x0.n, C.slc A_x0ops x0.ops.length c_x0ops, C.slc A_x0blocks x0.blocks.length c_x0blocks] 5 hs fun b_2 w a hs => ?_
 refine qpk 1 [1, 2, 3, 4, 5] hs fun a hs => hK1 _ _ ?_
 clear hK1
 refine qsr fun K3 hK3 => ?_
 refine qpu 1 hs fun a hs => ?_
 refine qld 0 (C.slc A_x0ops x0.ops.length c_x0ops) hs rfl fun a hs => ?_
 refine qpu 1 hs fun a hs => ?_
 obtain ⟨h_4, hm⟩ := ite_t hm
 refine Vk.step (Vk.makeOp (x := (.tmp 19)) (y := (.tmp 19)) (kl := .i64) (kc := .i64) (enc := (eI .u64)) (sz := 1) (by_ := 8) (t := 59) (e := 71) (0) (some 20) hs (by kernel_rfl) (by kernel_rfl) (by kernel_rfl) (by kernel_rfl) (by kernel_rfl) (by kernel_rfl) rfl (by decide) h_4 (by decide) fun A_5 w a hs => ?_)
 refine qpk 1 [1, 2, 3, 4, 5, 11] hs fun a hs => hK3 _ _ ?_
 clear hK3
 refine qsk 2 [1, 2, 3, 4, 5, 11, 12, 13] hs fun a hs => ?_
 refine Vk.seq fun K8 hK8 => ?_
 refine qsk 1 [1, 2, 3, 4, 5, 11, 12, 13, 14] hs fun a hs => ?_
 refine wp_block ?_
 obtain ⟨r10, hl10, hm⟩ := bind_t hm
 have hx10 : ∀ (p_92 : List Int), r10 = p_92 → ∀ (a : Act) (w : World), St 88 a w κ [(11, .slice A_5 p_92.length (((x0.ops.length : Nat) : Int).toNat))] (rowp A_5 (((x0.ops.length : Nat) : Int).toNat) 71 1 (eI .u64) p_92 :: S) → K8 a w := by
  intro p_92 he a w hs
  subst r10
  refine hK8 _ _ ?_
  clear hK8
  refine qse 2 [(10, .slice A_5 p_92.length (((x0.ops.length : Nat) : Int).toNat))] hs fun a hs => ?_
  refine wp_ret ?_
  exact qr1 (.slice A_5 p_92.length (((x0.ops.length : Nat) : Int).toNat)) hs rfl hRR (by cases hm; exact ⟨A_5, ((x0.ops.length : Nat) : Int).toNat, rfl, hs.own⟩)
 refine Vk.loopBy (fun k (s : List Int × Int × Int × Int) a w => visorref29_Play.l1 x0 x1 x2 x3 x4 k s.1 s.2.1 s.2.2.1 s.2.2.2 = some r10 ∧ St 88 a w κ [(1, .slice A_x1 x1.length c_x1), (2, .slice A_x2 x2.length c_x2), (3, .slice A_x3 x3.length c_x3), (4, .bool x4), (5, pp b_2), (11, .slice A_5 s.1.length (((x0.ops.length : Nat) : Int).toNat)), (12, vi s.2.1), (13, vi s.2.2.1), (14, vi s.2.2.2)] (pt b_2 (blk (Tapi_Trace.obj x0 A_x0ops c_x0ops A_x0blocks c_x0blocks) 58) :: rowp A_5 (((x0.ops.length : Nat) : Int).toNat) 71 1 (eI .u64) s.1 :: S)) k ((List.replicate ((x0.ops.length : Nat) : Int).toNat 0 : List Int), 0, 0, 0) ⟨hl10, hs.go [1, 2, 3, 4, 5, 11, 12, 13, 14] [1, 0] 2 (by kernel_rfl) (by kernel_rfl) (by kernel_rfl)⟩ (fun s a w h => by obtain ⟨h1, _⟩ := h; simp [visorref29_Play.l1] at h1) (fun k KL10 ih s a w h => ?_)
 obtain ⟨q_11, q_12, q_13, q_14⟩ := s
 obtain ⟨hm, hs⟩ := h
 try dsimp only at hm hs
 rw [visorref29_Play.l1] at hm
 refine Vk.seq fun K15 hK15 => ?_
 refine qsr fun K16 hK16 => ?_
 refine qpu 2 hs fun a hs => ?_
 refine qld 0 (C.slc A_x0ops x0.ops.length c_x0ops) hs rfl fun a hs => ?_
 refine qpk 2 [1, 2, 3, 4, 5, 11, 12, 13, 14, 25] hs fun a hs => hK16 _ _ ?_
 clear hK16
 refine qcs (decide (q_14 < ((x0.ops.length : Nat) : Int))) hs (fun hb => ?_) fun hb => ?_
 ·replace hm := bif_t hm hb
  refine wp_skip ?_
  refine hK15 _ _ ?_
  clear hK15
  refine Vk.seq fun K17 hK17 => ?_
  have hj17 : ∀ (p_89 : List Int) (p_90 : Int) (p_91 : Int), visorref29_Play.j3 k (visorref29_Play.l1 x0 x1 x2 x3 x4 k) q_14 p_89 p_90 p_91 = some r10 → ∀ (a : Act) (w : World), St 88 a w κ [(1, .slice A_x1 x1.length c_x1), (2, .slice A_x2 x2.length c_x2), (3, .slice A_x3 x3.length c_x3), (4, .bool x4), (5, pp b_2), (11, .slice A_5 p_89.length (((x0.ops.length : Nat) : Int).toNat)), (12, vi p_90), (13, vi p_91), (14, vi q_14)] (pt b_2 (blk (Tapi_Trace.obj x0 A_x0ops c_x0ops A_x0blocks c_x0blocks) 58) :: rowp A_5 (((x0.ops.length : Nat) : Int).toNat) 71 1 (eI .u64) p_89 :: S) → K17 a w := by
   intro p_89 p_90 p_91 hm a w hs
   unfold visorref29_Play.j3 at hm
   refine hK17 _ _ ?_
   refine Vk.region ?_
   refine qpk 3 [1, 2, 3, 4, 5, 11, 12, 13, 14] hs fun a hs => ?_
   refine ih (p_89, p_90, p_91, (IntKind.i64.wrap (q_14 + 1))) _ _ ⟨hm, hs.go [1, 2, 3, 4, 5, 11, 12, 13, 14] [0, 1] 2 (by kernel_rfl) (by kernel_rfl) (by kernel_rfl)⟩
  refine wp_block ?_
  refine qsr fun K18 hK18 => ?_
  refine qpu 1 hs fun a hs => ?_
  refine qld 0 (C.slc A_x0ops x0.ops.length c_x0ops) hs rfl fun a hs => ?_
  refine qpu 1 hs fun a hs => ?_
  obtain ⟨h_19, hm⟩ := ite_t hm
  obtain ⟨e_22, h_20, hm⟩ := bind_t hm
  obtain ⟨b_23, o_24, hA_25, h_21⟩ := Sl.elem hx_x0ops h_20
  refine qva (.pointer (some ⟨b_23, o_24 + q_14.toNat * 6, none⟩)) (op := (.indexAddr 55 (.tmp 29) (.tmp 30))) hs (fun o ho => run_idxSlc (k := .i64) ho (cap := c_x0ops) (len := x0.ops.length) ((congrArg (fun A => Value.slice A (x0.ops.length) (c_x0ops)) hA_25) ▸ (by kernel_rfl)) (by kernel_rfl) (by kernel_rfl) (idx_ok h_19 h_20) _) fun a hs => ?_
  refine qva (.agg (vals [ci e_22.kind, ci e_22.dom, ci e_22.a, ci e_22.b, ci e_22.d, cw e_22.c])) (op := (.load 85 (.tmp 31))) hs (fun o ho => run_loadN (cs := [ci e_22.kind, ci e_22.dom, ci e_22.a, ci e_22.b, ci e_22.d, cw e_22.c]) ho (by kernel_rfl) (by kernel_rfl) rfl h_21 _ hs.own.drop.drop) fun a hs => ?_
  refine qal 85 [ci 0, ci 0, ci 0, ci 0, ci 0, cw 0] 15 hs fun b_26 w a hs => ?_
  refine qsa 0 [ci e_22.kind, ci e_22.dom, ci e_22.a, ci e_22.b, ci e_22.d, cw e_22.c] hs rfl fun a w hs => ?_
  refine qpk 0 [1, 2, 3, 4, 5, 11, 12, 13, 14, 15] hs fun a hs => hK18 _ _ ?_
  clear hK18
  refine qse 1 [(1, .slice A_x1 x1.length c_x1), (2, .slice A_x2 x2.length c_x2), (3, .slice A_x3 x3.length c_x3), (4, .bool x4), (5, pp b_2), (11, .slice A_5 q_11.length (((x0.ops.length : Nat) : Int).toNat)), (12, vi q_12), (13, vi q_13), (14, vi q_14), (15, pp b_26), (16, vw 0)] hs fun a hs => ?_
  refine Vk.seq fun K28 hK28 => ?_
  have hj28 : ∀ (p_38 : Int) (p_39 : Int), visorref29_Play.j1 k (visorref29_Play.l1 x0 x1 x2 x3 x4 k) x1 x2 x4 q_11 q_13 q_14 e_22 p_38 p_39 = some r10 → ∀ (a : Act) (w : World), St 88 a w κ [(1, .slice A_x1 x1.length c_x1), (2, .slice A_x2 x2.length c_x2), (3, .slice A_x3 x3.length c_x3), (4, .bool x4), (5, pp b_2), (11, .slice A_5 q_11.length (((x0.ops.length : Nat) : Int).toNat)), (12, vi p_38), (13, vi q_13), (14, vi q_14), (15, pp b_26), (16, vw p_39)] (pt b_2 (blk (Tapi_Trace.obj x0 A_x0ops c_x0ops A_x0blocks c_x0blocks) 58) :: rowp A_5 (((x0.ops.length : Nat) : Int).toNat) 71 1 (eI .u64) q_11 :: pt b_26 (blk (Tapi_Op.cells e_22) 85) :: S) → K28 a w := by
   intro p_38 p_39 hm a w hs
   unfold visorref29_Play.j1 at hm
   refine hK28 _ _ ?_
   refine Vk.seq fun K40 hK40 => ?_
   have hj40 : ∀ (p_50 : Int), visorref29_Play.j2 k (visorref29_Play.l1 x0 x1 x2 x3 x4 k) x2 x4 q_11 q_13 q_14 e_22 p_38 p_50 = some r10 → ∀ (a : Act) (w : World), St 88 a w κ [(1, .slice A_x1 x1.length c_x1), (2, .slice A_x2 x2.length c_x2), (3, .slice A_x3 x3.length c_x3), (4, .bool x4), (5, pp b_2), (11, .slice A_5 q_11.length (((x0.ops.length : Nat) : Int).toNat)), (12, vi p_38), (13, vi q_13), (14, vi q_14), (15, pp b_26), (16, vw p_50)] (pt b_2 (blk (Tapi_Trace.obj x0 A_x0ops c_x0ops A_x0blocks c_x0blocks) 58) :: rowp A_5 (((x0.ops.length : Nat) : Int).toNat) 71 1 (eI .u64) q_11 :: pt b_26 (blk (Tapi_Op.cells e_22) 85) :: S) → K40 a w := by
    intro p_50 hm a w hs
    unfold visorref29_Play.j2 at hm
    refine hK40 _ _ ?_
    refine Vk.seq fun K51 hK51 => ?_
    obtain ⟨C_52, hC_52⟩ : ∃ X0 : List HP, X0 = (pt b_2 (blk (Tapi_Trace.obj x0 A_x0ops c_x0ops A_x0blocks c_x0blocks) 58) :: rowp A_5 (((x0.ops.length : Nat) : Int).toNat) 71 1 (eI .u64) q_11 :: pt b_26 (blk (Tapi_Op.cells e_22) 85) :: S) := ⟨_, rfl⟩
    refine qdr 18 κ C_52 hs fun w hs hqC_52 => ?_
    have hcz : Ow κ w (pt b_2 (blk (Tapi_Trace.obj x0 A_x0ops c_x0ops A_x0blocks c_x0blocks) 58) :: rowp A_5 (((x0.ops.length : Nat) : Int).toNat) 71 1 (eI .u64) q_11 :: pt b_26 (blk (Tapi_Op.cells e_22) 85) :: S) := hs.own
    have hcl : Ow κ w C_52 := by rw [hC_52]; exact hcz
    refine qdp (fuel := 10) [0, 1, 3, 4, 7, 8, 11, 12, 15] hs hcl hqC_52 fun a hs => ?_
    refine qdn 2 2 ([ci e_22.kind, ci e_22.dom, ci e_22.a, ci e_22.b, ci e_22.d, cw e_22.c]) hs hcl hqC_52 hC_52 rfl fun a hs => ?_
    refine qdl 5 2 (ci e_22.a) hs hcl hqC_52 hC_52 rfl fun a hs => ?_
    refine qdl 9 2 (ci e_22.b) hs hcl hqC_52 hC_52 rfl fun a hs => ?_
    refine qdl 13 2 (ci e_22.d) hs hcl hqC_52 hC_52 rfl fun a hs => ?_
    obtain ⟨v_55, h_54, hm⟩ := bind_t hm
    refine qdc 6 (visorref29_Word.ok _ _ _ _ h_54 _ _ (pt b_2 (blk (Tapi_Trace.obj x0 A_x0ops c_x0ops A_x0blocks c_x0blocks) 58) :: rowp A_5 (((x0.ops.length : Nat) : Int).toNat) 71 1 (eI .u64) q_11 :: pt b_26 (blk (Tapi_Op.cells e_22) 85) :: S) A_5 (((x0.ops.length : Nat) : Int).toNat) (Sl.lift (fun w ho => (Ow.to (S' := rowp A_5 (((x0.ops.length : Nat) : Int).toNat) 71 1 (eI .u64) q_11 :: S) ho [1] 3 (by kernel_rfl) (by kernel_rfl))) (Ow.rowSl 0 (Ow.to (S' := rowp A_5 (((x0.ops.length : Nat) : Int).toNat) 71 1 (eI .u64) q_11 :: S) hs.own [1] 3 (by kernel_rfl) (by kernel_rfl)) rfl)) hs.own) hs fun w a hs => ?_
    replace hcl := qO hC_52 hs.own
    refine ⟨fun _ => hcl, ?_⟩
    obtain ⟨v_58, h_57, hm⟩ := bind_t hm
    refine qdc 10 (visorref29_Word.ok _ _ _ _ h_57 _ _ (pt b_2 (blk (Tapi_Trace.obj x0 A_x0ops c_x0ops A_x0blocks c_x0blocks) 58) :: rowp A_5 (((x0.ops.length : Nat) : Int).toNat) 71 1 (eI .u64) q_11 :: pt b_26 (blk (Tapi_Op.cells e_22) 85) :: S) A_5 (((x0.ops.length : Nat) : Int).toNat) (Sl.lift (fun w ho => (Ow.to (S' := rowp A_5 (((x0.ops.length : Nat) : Int).toNat) 71 1 (eI .u64) q_11 :: S) ho [1] 3 (by kernel_rfl) (by kernel_rfl))) (Ow.rowSl 0 (Ow.to (S' := rowp A_5 (((x0.ops.length : Nat) : Int).toNat) 71 1 (eI .u64) q_11 :: S) hs.own [1] 3 (by kernel_rfl) (by kernel_rfl)) rfl)) hs.own) hs fun w a hs => ?_
    replace hcl := qO hC_52 hs.own
    refine ⟨fun _ => hcl, ?_⟩
    obtain ⟨v_61, h_60, hm⟩ := bind_t hm
    refine qdc 14 (visorref29_Word.ok _ _ _ _ h_60 _ _ (pt b_2 (blk (Tapi_Trace.obj x0 A_x0ops c_x0ops A_x0blocks c_x0blocks) 58) :: rowp A_5 (((x0.ops.length : Nat) : Int).toNat) 71 1 (eI .u64) q_11 :: pt b_26 (blk (Tapi_Op.cells e_22) 85) :: S) A_5 (((x0.ops.length : Nat) : Int).toNat) (Sl.lift (fun w ho => (Ow.to (S' := rowp A_5 (((x0.ops.length : Nat) : Int).toNat) 71 1 (eI .u64) q_11 :: S) ho [1] 3 (by kernel_rfl) (by kernel_rfl))) (Ow.rowSl 0 (Ow.to (S' := rowp A_5 (((x0.ops.length : Nat) : Int).toNat) 71 1 (eI .u64) q_11 :: S) hs.own [1] 3 (by kernel_rfl) (by kernel_rfl)) rfl)) hs.own) hs fun w a hs => ?_
    replace hcl := qO hC_52 hs.own
    refine ⟨fun _ => hcl, ?_⟩
    obtain ⟨v_64, h_63, hm⟩ := bind_t hm
    refine qdc 16 (visorref17_Eval.ok _ _ _ _ _ _ _ h_63 _ _ (pt b_2 (blk (Tapi_Trace.obj x0 A_x0ops c_x0ops A_x0blocks c_x0blocks) 58) :: rowp A_5 (((x0.ops.length : Nat) : Int).toNat) 71 1 (eI .u64) q_11 :: pt b_26 (blk (Tapi_Op.cells e_22) 85) :: S) hs.own) hs fun w a hs => ?_
    replace hcl := qO hC_52 hs.own
    refine ⟨fun _ => hcl, ?_⟩
    obtain ⟨h_65, hm⟩ := ite_t hm
    obtain ⟨e_68, h_66, hm⟩ := bind_t hm
    obtain ⟨b_69, o_70, hA_71, h_67⟩ := Sl.elem (Ow.rowSl 0 (Ow.to (S' := rowp A_5 (((x0.ops.length : Nat) : Int).toNat) 71 1 (eI .u64) q_11 :: S) hcz [1] 3 (by kernel_rfl) (by kernel_rfl)) rfl) h_66
    refine qdt 17 (.pointer (some ⟨b_69, o_70 + q_14.toNat * 1, none⟩)) (op := (.indexAddr 59 (.tmp 54) (.tmp 55))) hs hcl hqC_52 (fun w hw o ho => by rw [hC_52] at hw; exact run_idxSlc (k := .i64) ho (cap := ((x0.ops.length : Nat) : Int).toNat) (len := q_11.length) ((congrArg (fun A => Value.slice A (q_11.length) (((x0.ops.length : Nat) : Int).toNat)) hA_71) ▸ (by kernel_rfl)) (by kernel_rfl) (by kernel_rfl) (idx_ok h_65 h_66) _) fun a hs => ?_
    refine Vk.dOnly (i := 18) (by kernel_rfl) (Vk.storeRow (T := 71) (ty := 71) (x := (.tmp 71)) (y := (.tmp 70)) (o := o_70) (m := q_14.toNat) v_64 1 hs (by kernel_rfl) (by kernel_rfl) (by kernel_rfl) hA_71 rfl (by kernel_rfl) (by kernel_rfl) rfl (by kernel_rfl) rfl (lt_of_get h_66) fun a w hs => ?_)
    replace hs : St 88 a w κ [(1, .slice A_x1 x1.length c_x1), (2, .slice A_x2 x2.length c_x2), (3, .slice A_x3 x3.length c_x3), (4, .bool x4), (5, pp b_2), (11, .slice A_5 q_11.length (((x0.ops.length : Nat) : Int).toNat)), (12, vi p_38), (13, vi q_13), (14, vi q_14), (15, pp b_26), (16, vw p_50), (54, .slice A_5 q_11.length (((x0.ops.length : Nat) : Int).toNat)), (55, vi q_14), (56, .agg (vals [ci e_22.kind, ci e_22.dom, ci e_22.a, ci e_22.b, ci e_22.d, cw e_22.c])), (57, .slice A_5 q_11.length (((x0.ops.length : Nat) : Int).toNat)), (58, .pointer (some ⟨b_26, 2, none⟩)), (59, vi e_22.a), (60, vw v_55), (61, .slice A_5 q_11.length (((x0.ops.length : Nat) : Int).toNat)), (62, .pointer (some ⟨b_26, 3, none⟩)), (63, vi e_22.b), (64, vw v_58), (65, .slice A_5 q_11.length (((x0.ops.length : Nat) : Int).toNat)), (66, .pointer (some ⟨b_26, 4, none⟩)), (67, vi e_22.d), (68, vw v_61), (69, vw p_50), (70, vw v_64), (71, .pointer (some ⟨b_69, o_70 + q_14.toNat * 1, none⟩))] (pt b_2 (blk (Tapi_Trace.obj x0 A_x0ops c_x0ops A_x0blocks c_x0blocks) 58) :: rowp A_5 (((x0.ops.length : Nat) : Int).toNat) 71 1 (eI .u64) (q_11.set q_14.toNat v_64) :: pt b_26 (blk (Tapi_Op.cells e_22) 85) :: S) := hs.pick [1, 2, 3, 4, 5, 11, 12, 13, 14, 15, 16, 54, 55, 56, 57, 58, 59, 60, 61, 62, 63, 64, 65, 66, 67, 68, 69, 70, 71] (by kernel_rfl)
    replace hs := hs.conv2 (L' := [(1, .slice A_x1 x1.length c_x1), (2, .slice A_x2 x2.length c_x2), (3, .slice A_x3 x3.length c_x3), (4, .bool x4), (5, pp b_2), (11, .slice A_5 ((q_11.set q_14.toNat v_64).length) (((x0.ops.length : Nat) : Int).toNat)), (12, vi p_38), (13, vi q_13), (14, vi q_14), (15, pp b_26), (16, vw p_50), (54, .slice A_5 ((q_11.set q_14.toNat v_64).length) (((x0.ops.length : Nat) : Int).toNat)), (55, vi q_14), (56, .agg (vals [ci e_22.kind, ci e_22.dom, ci e_22.a, ci e_22.b, ci e_22.d, cw e_22.c])), (57, .slice A_5 ((q_11.set q_14.toNat v_64).length) (((x0.ops.length : Nat) : Int).toNat)), (58, .pointer (some ⟨b_26, 2, none⟩)), (59, vi e_22.a), (60, vw v_55), (61, .slice A_5 ((q_11.set q_14.toNat v_64).length) (((x0.ops.length : Nat) : Int).toNat)), (62, .pointer (some ⟨b_26, 3, none⟩)), (63, vi e_22.b), (64, vw v_58), (65, .slice A_5 ((q_11.set q_14.toNat v_64).length) (((x0.ops.length : Nat) : Int).toNat)), (66, .pointer (some ⟨b_26, 4, none⟩)), (67, vi e_22.d), (68, vw v_61), (69, vw p_50), (70, vw v_64), (71, .pointer (some ⟨b_69, o_70 + q_14.toNat * 1, none⟩))]) (S' := pt b_2 (blk (Tapi_Trace.obj x0 A_x0ops c_x0ops A_x0blocks c_x0blocks) 58) :: rowp A_5 (((x0.ops.length : Nat) : Int).toNat) 71 1 (eI .u64) (q_11.set q_14.toNat v_64) :: pt b_26 (blk (Tapi_Op.cells e_22) 85) :: S) (by simp only [List.length_set]) (rfl)
    refine ⟨fun h => absurd h (by decide), ?_⟩
    replace hs := hs.pick [1, 2, 3, 4, 5, 11, 12, 13, 14, 15] (L' := [(1, .slice A_x1 x1.length c_x1), (2, .slice A_x2 x2.length c_x2), (3, .slice A_x3 x3.length c_x3), (4, .bool x4), (5, pp b_2), (11, .slice A_5 ((q_11.set q_14.toNat v_64).length) (((x0.ops.length : Nat) : Int).toNat)), (12, vi p_38), (13, vi q_13), (14, vi q_14), (15, pp b_26)]) (by kernel_rfl)
    refine Vk.dDone (by kernel_rfl) ?_
    refine hK51 _ _ ?_
    clear hK51
    refine qsr fun K72 hK72 => ?_
    refine qpu 1 hs fun a hs => ?_
    refine qld 2 (ci e_22.kind) hs rfl fun a hs => ?_
    refine qpu 2 hs fun a hs => ?_
    refine qsc 75 2 hs fun a hs => ?_
    refine qpe 0 [(1, .slice A_x1 x1.length c_x1), (2, .slice A_x2 x2.length c_x2), (3, .slice A_x3 x3.length c_x3), (4, .bool x4), (5, pp b_2), (11, .slice A_5 ((q_11.set q_14.toNat v_64).length) (((x0.ops.length : Nat) : Int).toNat)), (12, vi p_38), (13, vi q_13), (14, vi q_14), (77, .bool ((e_22.kind == 12) && x4))] hs fun a hs => hK72 _ _ ?_
    clear hK72
    refine qcs ((e_22.kind == 12) && x4) hs (fun hb => ?_) fun hb => ?_
    ·replace hm := bif_t hm hb
     refine qsr fun K74 hK74 => ?_
     refine qpu 4 hs fun a hs => ?_
     obtain ⟨h_75, hm⟩ := ite_t hm
     obtain ⟨e_78, h_76, hm⟩ := bind_t hm
     obtain ⟨b_79, o_80, hA_81, h_77⟩ := Sl.elem hx_x2 h_76
     refine qva (.pointer (some ⟨b_79, o_80 + q_13.toNat * 1, none⟩)) (op := (.indexAddr 59 (.tmp 80) (.tmp 81))) hs (fun o ho => run_idxSlc (k := .i64) ho (cap := c_x2) (len := x2.length) ((congrArg (fun A => Value.slice A (x2.length) (c_x2)) hA_81) ▸ (by kernel_rfl)) (by kernel_rfl) (by kernel_rfl) (idx_ok h_75 h_76) _) fun a hs => ?_
     refine qva (vw e_78) (op := (.load 71 (.tmp 82))) hs (fun o ho => run_load1 (c := cw e_78) ho (by kernel_rfl) (by kernel_rfl) (fun w ho => h_77 w ho 0 _ rfl) _ hs.own.drop.drop.drop) fun a hs => ?_
     obtain ⟨h_82, hm⟩ := ite_t hm
     obtain ⟨e_85, h_83, hm⟩ := bind_t hm
     obtain ⟨b_86, o_87, hA_88, h_84⟩ := Sl.elem (Ow.rowSl 0 (Ow.to (S' := rowp A_5 (((x0.ops.length : Nat) : Int).toNat) 71 1 (eI .u64) (q_11.set q_14.toNat v_64) :: S) hs.own [1] 3 (by kernel_rfl) (by kernel_rfl)) rfl) h_83
     refine qva (.pointer (some ⟨b_86, o_87 + q_14.toNat * 1, none⟩)) (op := (.indexAddr 59 (.tmp 78) (.tmp 79))) hs (fun o ho => run_idxSlc (k := .i64) ho (cap := ((x0.ops.length : Nat) : Int).toNat) (len := (q_11.set q_14.toNat v_64).length) ((congrArg (fun A => Value.slice A ((q_11.set q_14.toNat v_64).length) (((x0.ops.length : Nat) : Int).toNat)) hA_88) ▸ (by kernel_rfl)) (by kernel_rfl) (by kernel_rfl) (idx_ok h_82 h_83) _) fun a hs => ?_
     refine Vk.step (Vk.storeRow (T := 71) (ty := 71) (x := (.tmp 84)) (y := (.tmp 83)) (o := o_87) (m := q_14.toNat) e_78 1 hs (by kernel_rfl) (by kernel_rfl) (by kernel_rfl) hA_88 rfl (by kernel_rfl) (by kernel_rfl) rfl (by kernel_rfl) rfl (lt_of_get h_83) fun a w hs => ?_)
     replace hs : St 88 a w κ [(1, .slice A_x1 x1.length c_x1), (2, .slice A_x2 x2.length c_x2), (3, .slice A_x3 x3.length c_x3), (4, .bool x4), (5, pp b_2), (11, .slice A_5 ((q_11.set q_14.toNat v_64).length) (((x0.ops.length : Nat) : Int).toNat)), (12, vi p_38), (13, vi q_13), (14, vi q_14), (77, .bool ((e_22.kind == 12) && x4)), (78, .slice A_5 ((q_11.set q_14.toNat v_64).length) (((x0.ops.length : Nat) : Int).toNat)), (79, vi q_14), (80, .slice A_x2 x2.length c_x2), (81, vi q_13), (82, .pointer (some ⟨b_79, o_80 + q_13.toNat * 1, none⟩)), (83, vw e_78), (84, .pointer (some ⟨b_86, o_87 + q_14.toNat * 1, none⟩))] (pt b_2 (blk (Tapi_Trace.obj x0 A_x0ops c_x0ops A_x0blocks c_x0blocks) 58) :: rowp A_5 (((x0.ops.length : Nat) : Int).toNat) 71 1 (eI .u64) ((q_11.set q_14.toNat v_64).set q_14.toNat e_78) :: pt b_26 (blk (Tapi_Op.cells e_22) 85) :: S) := hs.pick [1, 2, 3, 4, 5, 11, 12, 13, 14, 77, 78, 79, 80, 81, 82, 83, 84] (by kernel_rfl)
     replace hs := hs.conv2 (L' := [(1, .slice A_x1 x1.length c_x1), (2, .slice A_x2 x2.length c_x2), (3, .slice A_x3 x3.length c_x3), (4, .bool x4), (5, pp b_2), (11, .slice A_5 (((q_11.set q_14.toNat v_64).set q_14.toNat e_78).length) (((x0.ops.length : Nat) : Int).toNat)), (12, vi p_38), (13, vi q_13), (14, vi q_14), (77, .bool ((e_22.kind == 12) && x4)), (78, .slice A_5 (((q_11.set q_14.toNat v_64).set q_14.toNat e_78).length) (((x0.ops.length : Nat) : Int).toNat)), (79, vi q_14), (80, .slice A_x2 x2.length c_x2), (81, vi q_13), (82, .pointer (some ⟨b_79, o_80 + q_13.toNat * 1, none⟩)), (83, vw e_78), (84, .pointer (some ⟨b_86, o_87 + q_14.toNat * 1, none⟩))]) (S' := pt b_2 (blk (Tapi_Trace.obj x0 A_x0ops c_x0ops A_x0blocks c_x0blocks) 58) :: rowp A_5 (((x0.ops.length : Nat) : Int).toNat) 71 1 (eI .u64) ((q_11.set q_14.toNat v_64).set q_14.toNat e_78) :: pt b_26 (blk (Tapi_Op.cells e_22) 85) :: S) (by simp only [List.length_set]) (rfl)
     refine qpk 0 [1, 2, 3, 4, 5, 11, 12, 13, 14] hs fun a hs => hK74 _ _ ?_
     clear hK74
     refine Vk.region ?_
     refine qpe 3 [(1, .slice A_x1 x1.length c_x1), (2, .slice A_x2 x2.length c_x2), (3, .slice A_x3 x3.length c_x3), (4, .bool x4), (5, pp b_2), (11, .slice A_5 (((q_11.set q_14.toNat v_64).set q_14.toNat e_78).length) (((x0.ops.length : Nat) : Int).toNat)), (12, vi p_38), (13, vi (IntKind.i64.wrap (q_13 + 1))), (14, vi q_14)] hs fun a hs => ?_
     exact hj17 ((q_11.set q_14.toNat v_64).set q_14.toNat e_78) p_38 (IntKind.i64.wrap (q_13 + 1)) hm _ _ (hs.go [1, 2, 3, 4, 5, 11, 12, 13, 14] [0, 1] 3 (by kernel_rfl) (by kernel_rfl) (by kernel_rfl))
    ·replace hm := bif_f hm hb
     refine wp_skip ?_
     exact hj17 (q_11.set q_14.toNat v_64) p_38 q_13 hm _ _ (hs.go [1, 2, 3, 4, 5, 11, 12, 13, 14] [0, 1] 3 (by kernel_rfl) (by kernel_rfl) (by kernel_rfl))
   refine qsr fun K41 hK41 => ?_
   refine qpu 1 hs fun a hs => ?_
   refine qld 2 (ci e_22.kind) hs rfl fun a hs => ?_
   refine qpu 2 hs fun a hs => ?_
   refine qsc 45 3 hs fun a hs => ?_
   refine qpk 0 [1, 2, 3, 4, 5, 11, 12, 13, 14, 15, 16, 48] hs fun a hs => hK41 _ _ ?_
   clear hK41
   refine qcs ((e_22.kind == 2) && (!x4)) hs (fun hb => ?_) fun hb => ?_
   ·replace hm := bif_t hm hb
    refine Vk.region ?_
    refine qpu 2 hs fun a hs => ?_
    refine qld 2 (cw e_22.c) hs rfl fun a hs => ?_
    obtain ⟨h_43, hm⟩ := ite_t hm
    obtain ⟨e_46, h_44, hm⟩ := bind_t hm
    obtain ⟨b_47, o_48, hA_49, h_45⟩ := Sl.elem hx_x1 h_44
    refine qva (.pointer (some ⟨b_47, o_48 + e_22.c.toNat * 1, none⟩)) (op := (.indexAddr 59 (.tmp 49) (.tmp 51))) hs (fun o ho => run_idxSlc (k := .u64) ho (cap := c_x1) (len := x1.length) ((congrArg (fun A => Value.slice A (x1.length) (c_x1)) hA_49) ▸ (by kernel_rfl)) (by kernel_rfl) (by kernel_rfl) (idx_ok h_43 h_44) _) fun a hs => ?_
    refine qva (vw e_46) (op := (.load 71 (.tmp 52))) hs (fun o ho => run_load1 (c := cw e_46) ho (by kernel_rfl) (by kernel_rfl) (fun w ho => h_45 w ho 0 _ rfl) _ hs.own.drop.drop.drop) fun a hs => ?_
    refine qpe 1 [(1, .slice A_x1 x1.length c_x1), (2, .slice A_x2 x2.length c_x2), (3, .slice A_x3 x3.length c_x3), (4, .bool x4), (5, pp b_2), (11, .slice A_5 q_11.length (((x0.ops.length : Nat) : Int).toNat)), (12, vi p_38), (13, vi q_13), (14, vi q_14), (15, pp b_26), (16, vw e_46)] hs fun a hs => ?_
    exact hj40 e_46 hm _ _ (hs.go [1, 2, 3, 4, 5, 11, 12, 13, 14, 15, 16] [0, 1, 2] 3 (by kernel_rfl) (by kernel_rfl) (by kernel_rfl))
   ·replace hm := bif_f hm hb
    refine wp_skip ?_
    exact hj40 p_39 hm _ _ (hs.go [1, 2, 3, 4, 5, 11, 12, 13, 14, 15, 16] [0, 1, 2] 3 (by kernel_rfl) (by kernel_rfl) (by kernel_rfl))
  refine qsr fun K29 hK29 => ?_
  refine qpu 1 hs fun a hs => ?_
  refine qld 0 (ci e_22.kind) hs rfl fun a hs => ?_
  refine qpk 1 [1, 2, 3, 4, 5, 11, 12, 13, 14, 15, 16, 35] hs fun a hs => hK29 _ _ ?_
  clear hK29
  refine qcs (e_22.kind == 1) hs (fun hb => ?_) fun hb => ?_
  ·replace hm := bif_t hm hb
   refine qsr fun K30 hK30 => ?_
   refine qpu 2 hs fun a hs => ?_
   obtain ⟨h_31, hm⟩ := ite_t hm
   obtain ⟨e_34, h_32, hm⟩ := bind_t hm
   obtain ⟨b_35, o_36, hA_37, h_33⟩ := Sl.elem hx_x3 h_32
   refine qva (.pointer (some ⟨b_35, o_36 + q_12.toNat * 1, none⟩)) (op := (.indexAddr 59 (.tmp 36) (.tmp 37))) hs (fun o ho => run_idxSlc (k := .i64) ho (cap := c_x3) (len := x3.length) ((congrArg (fun A => Value.slice A (x3.length) (c_x3)) hA_37) ▸ (by kernel_rfl)) (by kernel_rfl) (by kernel_rfl) (idx_ok h_31 h_32) _) fun a hs => ?_
   refine qva (vw e_34) (op := (.load 71 (.tmp 38))) hs (fun o ho => run_load1 (c := cw e_34) ho (by kernel_rfl) (by kernel_rfl) (fun w ho => h_33 w ho 0 _ rfl) _ hs.own.drop.drop.drop) fun a hs => ?_
   refine qpk 1 [1, 2, 3, 4, 5, 11, 12, 13, 14, 15, 16] hs fun a hs => hK30 _ _ ?_
   clear hK30
   refine Vk.region ?_
   refine qpe 3 [(1, .slice A_x1 x1.length c_x1), (2, .slice A_x2 x2.length c_x2), (3, .slice A_x3 x3.length c_x3), (4, .bool x4), (5, pp b_2), (11, .slice A_5 q_11.length (((x0.ops.length : Nat) : Int).toNat)), (12, vi (IntKind.i64.wrap (q_12 + 1))), (13, vi q_13), (14, vi q_14), (15, pp b_26), (16, vw e_34)] hs fun a hs => ?_
   exact hj28 (IntKind.i64.wrap (q_12 + 1)) e_34 hm _ _ (hs.go [1, 2, 3, 4, 5, 11, 12, 13, 14, 15, 16] [1, 2, 0] 3 (by kernel_rfl) (by kernel_rfl) (by kernel_rfl))
  ·replace hm := bif_f hm hb
   refine wp_skip ?_
   exact hj28 q_12 0 hm _ _ (hs.go [1, 2, 3, 4, 5, 11, 12, 13, 14, 15, 16] [1, 2, 0] 3 (by kernel_rfl) (by kernel_rfl) (by kernel_rfl))
 ·replace hm := bif_f hm hb
  refine wp_exit ?_
  exact hx10 q_11 (Option.some.inj hm).symm _ _ (hs.go [11] [1] 2 (by kernel_rfl) (by kernel_rfl) (by kernel_rfl))


def visorref29_Same.l1 (x0 : List Int) (x1 : List Int) : Nat → Int → Option (Sum (Bool) (Unit))
 | 0, _ => none
 | k + 1, q_8 => (bif decide (q_8 < ((x0.length : Nat) : Int)) then (if 0 ≤ q_8 then (x0[q_8.toNat]?).bind fun e_17 => (if 0 ≤ q_8 then (x1[q_8.toNat]?).bind fun e_24 => (bif e_17 != e_24 then some (.inl false) else visorref29_Same.l1 x0 x1 k (IntKind.i64.wrap (q_8 + 1))) else none) else none) else some (.inr ()))
abbrev visorref29_Same.R (κ : Ctx) (S : List HP) (x0 : List Int) (x1 : List Int) (A_x0 : Option Addr) (c_x0 : Nat) (A_x1 : Option Addr) (c_x1 : Nat) (r : Bool) : Ending → World → Prop := fun e w' => e = .returned (.bool r) ∧ Ow κ w' (S)
def visorref29_Same.m (k : Nat) (x0 : List Int) (x1 : List Int) : Option Bool := (bif ((x0.length : Nat) : Int) != ((x1.length : Nat) : Int) then some false else (visorref29_Same.l1 x0 x1 k 0).bind fun x => match x with | .inl v => some v | .inr () => some true)

set_option maxRecDepth 100000 in
set_option maxHeartbeats 4000000 in
theorem visorref29_Same.ok (k : Nat) (x0 : List Int) (x1 : List Int) (r : Bool) (hm : visorref29_Same.m k x0 x1 = some r) (κ : Ctx) (w : World) (S : List HP) (A_x0 : Option Addr) (c_x0 : Nat) (hx_x0 : Sl κ S A_x0 c_x0 1 (eI .u64) x0) (A_x1 : Option Addr) (c_x1 : Nat) (hx_x1 : Sl κ S A_x1 c_x1 1 (eI .u64) x1) (ho : Ow κ w (S)) :
  Calls Try.prog 22 #[.slice A_x0 x0.length c_x0, .slice A_x1 x1.length c_x1] w (visorref29_Same.R κ S x0 x1 A_x0 c_x0 A_x1 c_x1 r) := by
 unfold visorref29_Same.m at hm
 generalize hRR : visorref29_Same.R κ S x0 x1 A_x0 c_x0 A_x1 c_x1 r = RR
 refine qen [(0, .slice A_x0 x0.length c_x0), (1, .slice A_x1 x1.length c_x1)] Try.func22 Try.ntmps22 ho fun a hs => ?_
 refine qsk 1 [0, 1] hs fun a hs => ?_
 refine Vk.seq fun K2 hK2 => ?_
 refine qsk 5 [0, 1, 10] hs fun a hs => ?_
 refine qcs (((x0.length : Nat) : Int) != ((x1.length : Nat) : Int)) hs (fun hb => ?_) fun hb => ?_
 ·replace hm := bif_t hm hb
  refine qse 1 [(4, .bool false)] hs fun a hs => ?_
  refine wp_ret ?_
  exact qr1 (.bool false) hs rfl hRR (by cases hm; exact ⟨rfl, hs.own⟩)
 ·replace hm := bif_f hm hb
  refine wp_skip ?_
  refine hK2 _ _ ?_
  clear hK2
  refine Vk.seq fun K5 hK5 => ?_
  refine qsk 1 [0, 1, 5] hs fun a hs => ?_
  refine wp_block ?_
  obtain ⟨r7, hl7, hm⟩ := bind_t hm
  have hx7 : r7 = Sum.inr () → ∀ (a : Act) (w : World), St 26 a w κ [] (S) → K5 a w := by
   intro he a w hs
   subst r7
   refine hK5 _ _ ?_
   clear hK5
   refine qse 1 [(4, .bool true)] hs fun a hs => ?_
   refine wp_ret ?_
   exact qr1 (.bool true) hs rfl hRR (by cases hm; exact ⟨rfl, hs.own⟩)
  have hret7 : ∀ v, r7 = Sum.inl v → v = r := by intro v he; subst r7; exact Option.some.inj hm
  refine Vk.loopBy (fun k (s : Int) a w => visorref29_Same.l1 x0 x1 k s = some r7 ∧ St 26 a w κ [(0, .slice A_x0 x0.length c_x0), (1, .slice A_x1 x1.length c_x1), (5, vi s)] (S)) k 0 ⟨hl7, hs.go [0, 1, 5] [] 0 (by kernel_rfl) (by kernel_rfl) (by kernel_rfl)⟩ (fun s a w h => by obtain ⟨h1, _⟩ := h; simp [visorref29_Same.l1] at h1) (fun k KL7 ih q_8 a w h => ?_)
  obtain ⟨hm, hs⟩ := h
  try dsimp only at hm hs
  rw [visorref29_Same.l1] at hm
  refine Vk.seq fun K9 hK9 => ?_
  refine qsk 4 [0, 1, 5, 14] hs fun a hs => ?_
  refine qcs (decide (q_8 < ((x0.length : Nat) : Int))) hs (fun hb => ?_) fun hb => ?_
  ·replace hm := bif_t hm hb
   refine wp_skip ?_
   refine hK9 _ _ ?_
   clear hK9
   refine Vk.seq fun K11 hK11 => ?_
   refine wp_block ?_
   refine Vk.seq fun K12 hK12 => ?_
   obtain ⟨C_13, hC_13⟩ := qC hs.own
   refine qdr 9 κ C_13 hs fun w hs hqC_13 => ?_
   have hcl := qO hC_13 hs.own
   refine qdp (fuel := 5) [0, 1, 4, 5] hs hcl hqC_13 fun a hs => ?_
   obtain ⟨h_14, hm⟩ := ite_t hm
   obtain ⟨e_17, h_15, hm⟩ := bind_t hm
   obtain ⟨b_18, o_19, hA_20, h_16⟩ := Sl.elem hx_x0 h_15
   refine qdt 2 (.pointer (some ⟨b_18, o_19 + q_8.toNat * 1, none⟩)) (op := (.indexAddr 59 (.tmp 17) (.tmp 18))) hs hcl hqC_13 (fun w hw o ho => by rw [hC_13] at hw; exact run_idxSlc (k := .i64) ho (cap := c_x0) (len := x0.length) ((congrArg (fun A => Value.slice A (x0.length) (c_x0)) hA_20) ▸ (by kernel_rfl)) (by kernel_rfl) (by kernel_rfl) (idx_ok h_14 h_15) _) fun a hs => ?_
   refine qdt 3 (vw e_17) (op := (.load 71 (.tmp 19))) hs hcl hqC_13 (fun w hw o ho => by rw [hC_13] at hw; exact run_load1 (c := cw e_17) ho (by kernel_rfl) (by kernel_rfl) (fun w ho => h_16 w ho 0 _ rfl) _ hw) fun a hs => ?_
   obtain ⟨h_21, hm⟩ := ite_t hm
   obtain ⟨e_24, h_22, hm⟩ := bind_t hm
   obtain ⟨b_25, o_26, hA_27, h_23⟩ := Sl.elem hx_x1 h_22
   refine qdt 6 (.pointer (some ⟨b_25, o_26 + q_8.toNat * 1, none⟩)) (op := (.indexAddr 59 (.tmp 21) (.tmp 22))) hs hcl hqC_13 (fun w hw o ho => by rw [hC_13] at hw; exact run_idxSlc (k := .i64) ho (cap := c_x1) (len := x1.length) ((congrArg (fun A => Value.slice A (x1.length) (c_x1)) hA_27) ▸ (by kernel_rfl)) (by kernel_rfl) (by kernel_rfl) (idx_ok h_21 h_22) _) fun a hs => ?_
   refine qdt 7 (vw e_24) (op := (.load 71 (.tmp 23))) hs hcl hqC_13 (fun w hw o ho => by rw [hC_13] at hw; exact run_load1 (c := cw e_24) ho (by kernel_rfl) (by kernel_rfl) (fun w ho => h_23 w ho 0 _ rfl) _ hw) fun a hs => ?_
   refine qdp (fuel := 0) [8] hs hcl hqC_13 fun a hs => ?_
   replace hs := hs.pick [0, 1, 5, 25] (L' := [(0, .slice A_x0 x0.length c_x0), (1, .slice A_x1 x1.length c_x1), (5, vi q_8), (25, .bool (e_17 != e_24))]) (by kernel_rfl)
   refine Vk.dDone (by kernel_rfl) ?_
   refine hK12 _ _ ?_
   clear hK12
   refine qcs (e_17 != e_24) hs (fun hb => ?_) fun hb => ?_
   ·replace hm := bif_t hm hb
    refine qse 1 [(4, .bool false)] hs fun a hs => ?_
    refine wp_ret ?_
    exact Vk.ret1 (P := Try.prog) (fn := Try.f22) (R := RR) (.bool false) hs rfl (by kernel_rfl) (by obtain rfl := hret7 _ ((Option.some.inj hm).symm); subst hRR; exact ⟨rfl, hs.own⟩)
   ·replace hm := bif_f hm hb
    refine wp_skip ?_
    refine hK11 _ _ ?_
    clear hK11
    refine Vk.region ?_
    refine qpk 3 [0, 1, 5] hs fun a hs => ?_
    refine ih (IntKind.i64.wrap (q_8 + 1)) _ _ ⟨hm, hs.go [0, 1, 5] [] 0 (by kernel_rfl) (by kernel_rfl) (by kernel_rfl)⟩
  ·replace hm := bif_f hm hb
   refine wp_exit ?_
   exact hx7 (Option.some.inj hm).symm _ _ (hs.go [] [] 0 (by kernel_rfl) (by kernel_rfl) (by kernel_rfl))


def visorlaw29_ReplayJoins.j2 (k : Nat) (p_35 : Bool) : Option (Bool) := some p_35
def visorlaw29_ReplayJoins.j4 (k : Nat) (p_154 : Bool) : Option (Bool) := some p_154
def visorlaw29_ReplayJoins.j3 (k : Nat) (x0 : Tapi_Trace) (x1 : Tapi_Trace) (x2 : List Int) (v_14 : Tapi_Trace × Int) (p_49 : Cells) (p_51 : Cells) : Option (Bool) := (getI .i64 p_49 (1)).bind fun v_54 => (getI .i64 p_49 (2)).bind fun v_56 => (getI .i64 p_51 (1)).bind fun v_58 => (getI .i64 p_51 (2)).bind fun v_60 => (if (0 : Int) ≤ (IntKind.i64.wrap ((IntKind.i64.wrap ((IntKind.i64.wrap (v_54 + v_56)) + v_58)) + v_60)) ∧ ((IntKind.i64.wrap ((IntKind.i64.wrap ((IntKind.i64.wrap (v_54 + v_56)) + v_58)) + v_60)) : Int) ≤ (IntKind.i64.wrap ((IntKind.i64.wrap ((IntKind.i64.wrap (v_54 + v_56)) + v_58)) + v_60)) ∧ (8 : Int) * (IntKind.i64.wrap ((IntKind.i64.wrap ((IntKind.i64.wrap (v_54 + v_56)) + v_58)) + v_60)) ≤ 281474976710656 then (getI .i64 p_49 (2)).bind fun v_68 => (getI .i64 p_51 (2)).bind fun v_70 => (if ((0 : Int) ≤ IntKind.i64.wrap (v_68 + v_70)) ∧ 0 ≤ (IntKind.i64.wrap (v_68 + v_70)).toNat ∧ (IntKind.i64.wrap (v_68 + v_70)).toNat ≤ (x2.take (min x2.length (List.replicate (IntKind.i64.wrap ((IntKind.i64.wrap ((IntKind.i64.wrap (v_54 + v_56)) + v_58)) + v_60)).toNat 0 : List Int).length) ++ (List.replicate (IntKind.i64.wrap ((IntKind.i64.wrap ((IntKind.i64.wrap (v_54 + v_56)) + v_58)) + v_60)).toNat 0 : List Int).drop (min x2.length (List.replicate (IntKind.i64.wrap ((IntKind.i64.wrap ((IntKind.i64.wrap (v_54 + v_56)) + v_58)) + v_60)).toNat 0 : List Int).length)).length then (getI .i64 p_49 (2)).bind fun v_78 => (getI .i64 p_51 (2)).bind fun v_80 => (if ((0 : Int) ≤ IntKind.i64.wrap (v_78 + v_80)) ∧ (IntKind.i64.wrap (v_78 + v_80)).toNat ≤ (x2.take (min x2.length (List.replicate (IntKind.i64.wrap ((IntKind.i64.wrap ((IntKind.i64.wrap (v_54 + v_56)) + v_58)) + v_60)).toNat 0 : List Int).length) ++ (List.replicate (IntKind.i64.wrap ((IntKind.i64.wrap ((IntKind.i64.wrap (v_54 + v_56)) + v_58)) + v_60)).toNat 0 : List Int).drop (min x2.length (List.replicate (IntKind.i64.wrap ((IntKind.i64.wrap ((IntKind.i64.wrap (v_54 + v_56)) + v_58)) + v_60)).toNat 0 : List Int).length)).length ∧ (x2.take (min x2.length (List.replicate (IntKind.i64.wrap ((IntKind.i64.wrap ((IntKind.i64.wrap (v_54 + v_56)) + v_58)) + v_60)).toNat 0 : List Int).length) ++ (List.replicate (IntKind.i64.wrap ((IntKind.i64.wrap ((IntKind.i64.wrap (v_54 + v_56)) + v_58)) + v_60)).toNat 0 : List Int).drop (min x2.length (List.replicate (IntKind.i64.wrap ((IntKind.i64.wrap ((IntKind.i64.wrap (v_54 + v_56)) + v_58)) + v_60)).toNat 0 : List Int).length)).length ≤ (x2.take (min x2.length (List.replicate (IntKind.i64.wrap ((IntKind.i64.wrap ((IntKind.i64.wrap (v_54 + v_56)) + v_58)) + v_60)).toNat 0 : List Int).length) ++ (List.replicate (IntKind.i64.wrap ((IntKind.i64.wrap ((IntKind.i64.wrap (v_54 + v_56)) + v_58)) + v_60)).toNat 0 : List Int).drop (min x2.length (List.replicate (IntKind.i64.wrap ((IntKind.i64.wrap ((IntKind.i64.wrap (v_54 + v_56)) + v_58)) + v_60)).toNat 0 : List Int).length)).length then (replay_Run.m k v_14.1 (cut (x2.take (min x2.length (List.replicate (IntKind.i64.wrap ((IntKind.i64.wrap ((IntKind.i64.wrap (v_54 + v_56)) + v_58)) + v_60)).toNat 0 : List Int).length) ++ (List.replicate (IntKind.i64.wrap ((IntKind.i64.wrap ((IntKind.i64.wrap (v_54 + v_56)) + v_58)) + v_60)).toNat 0 : List Int).drop (min x2.length (List.replicate (IntKind.i64.wrap ((IntKind.i64.wrap ((IntKind.i64.wrap (v_54 + v_56)) + v_58)) + v_60)).toNat 0 : List Int).length)) (0) ((IntKind.i64.wrap (v_68 + v_70)).toNat)) (cut (x2.take (min x2.length (List.replicate (IntKind.i64.wrap ((IntKind.i64.wrap ((IntKind.i64.wrap (v_54 + v_56)) + v_58)) + v_60)).toNat 0 : List Int).length) ++ (List.replicate (IntKind.i64.wrap ((IntKind.i64.wrap ((IntKind.i64.wrap (v_54 + v_56)) + v_58)) + v_60)).toNat 0 : List Int).drop (min x2.length (List.replicate (IntKind.i64.wrap ((IntKind.i64.wrap ((IntKind.i64.wrap (v_54 + v_56)) + v_58)) + v_60)).toNat 0 : List Int).length)) ((IntKind.i64.wrap (v_78 + v_80)).toNat) ((x2.take (min x2.length (List.replicate (IntKind.i64.wrap ((IntKind.i64.wrap ((IntKind.i64.wrap (v_54 + v_56)) + v_58)) + v_60)).toNat 0 : List Int).length) ++ (List.replicate (IntKind.i64.wrap ((IntKind.i64.wrap ((IntKind.i64.wrap (v_54 + v_56)) + v_58)) + v_60)).toNat 0 : List Int).drop (min x2.length (List.replicate (IntKind.i64.wrap ((IntKind.i64.wrap ((IntKind.i64.wrap (v_54 + v_56)) + v_58)) + v_60)).toNat 0 : List Int).length)).length))).bind fun v_90 => (getI .i64 p_49 (2)).bind fun v_96 => (if ((0 : Int) ≤ v_96) ∧ 0 ≤ v_96.toNat ∧ v_96.toNat ≤ (cut (x2.take (min x2.length (List.replicate (IntKind.i64.wrap ((IntKind.i64.wrap ((IntKind.i64.wrap (v_54 + v_56)) + v_58)) + v_60)).toNat 0 : List Int).length) ++ (List.replicate (IntKind.i64.wrap ((IntKind.i64.wrap ((IntKind.i64.wrap (v_54 + v_56)) + v_58)) + v_60)).toNat 0 : List Int).drop (min x2.length (List.replicate (IntKind.i64.wrap ((IntKind.i64.wrap ((IntKind.i64.wrap (v_54 + v_56)) + v_58)) + v_60)).toNat 0 : List Int).length)) (0) ((IntKind.i64.wrap (v_68 + v_70)).toNat)).length then (getI .i64 p_49 (1)).bind fun v_104 => (if ((0 : Int) ≤ v_104) ∧ 0 ≤ v_104.toNat ∧ v_104.toNat ≤ (cut (x2.take (min x2.length (List.replicate (IntKind.i64.wrap ((IntKind.i64.wrap ((IntKind.i64.wrap (v_54 + v_56)) + v_58)) + v_60)).toNat 0 : List Int).length) ++ (List.replicate (IntKind.i64.wrap ((IntKind.i64.wrap ((IntKind.i64.wrap (v_54 + v_56)) + v_58)) + v_60)).toNat 0 : List Int).drop (min x2.length (List.replicate (IntKind.i64.wrap ((IntKind.i64.wrap ((IntKind.i64.wrap (v_54 + v_56)) + v_58)) + v_60)).toNat 0 : List Int).length)) ((IntKind.i64.wrap (v_78 + v_80)).toNat) ((x2.take (min x2.length (List.replicate (IntKind.i64.wrap ((IntKind.i64.wrap ((IntKind.i64.wrap (v_54 + v_56)) + v_58)) + v_60)).toNat 0 : List Int).length) ++ (List.replicate (IntKind.i64.wrap ((IntKind.i64.wrap ((IntKind.i64.wrap (v_54 + v_56)) + v_58)) + v_60)).toNat 0 : List Int).drop (min x2.length (List.replicate (IntKind.i64.wrap ((IntKind.i64.wrap ((IntKind.i64.wrap (v_54 + v_56)) + v_58)) + v_60)).toNat 0 : List Int).length)).length)).length then (visorref29_Play.m k x0 (cut (cut (x2.take (min x2.length (List.replicate (IntKind.i64.wrap ((IntKind.i64.wrap ((IntKind.i64.wrap (v_54 + v_56)) + v_58)) + v_60)).toNat 0 : List Int).length) ++ (List.replicate (IntKind.i64.wrap ((IntKind.i64.wrap ((IntKind.i64.wrap (v_54 + v_56)) + v_58)) + v_60)).toNat 0 : List Int).drop (min x2.length (List.replicate (IntKind.i64.wrap ((IntKind.i64.wrap ((IntKind.i64.wrap (v_54 + v_56)) + v_58)) + v_60)).toNat 0 : List Int).length)) (0) ((IntKind.i64.wrap (v_68 + v_70)).toNat)) (0) (v_96.toNat)) [] (cut (cut (x2.take (min x2.length (List.replicate (IntKind.i64.wrap ((IntKind.i64.wrap ((IntKind.i64.wrap (v_54 + v_56)) + v_58)) + v_60)).toNat 0 : List Int).length) ++ (List.replicate (IntKind.i64.wrap ((IntKind.i64.wrap ((IntKind.i64.wrap (v_54 + v_56)) + v_58)) + v_60)).toNat 0 : List Int).drop (min x2.length (List.replicate (IntKind.i64.wrap ((IntKind.i64.wrap ((IntKind.i64.wrap (v_54 + v_56)) + v_58)) + v_60)).toNat 0 : List Int).length)) ((IntKind.i64.wrap (v_78 + v_80)).toNat) ((x2.take (min x2.length (List.replicate (IntKind.i64.wrap ((IntKind.i64.wrap ((IntKind.i64.wrap (v_54 + v_56)) + v_58)) + v_60)).toNat 0 : List Int).length) ++ (List.replicate (IntKind.i64.wrap ((IntKind.i64.wrap ((IntKind.i64.wrap (v_54 + v_56)) + v_58)) + v_60)).toNat 0 : List Int).drop (min x2.length (List.replicate (IntKind.i64.wrap ((IntKind.i64.wrap ((IntKind.i64.wrap (v_54 + v_56)) + v_58)) + v_60)).toNat 0 : List Int).length)).length)) (0) (v_104.toNat)) false).bind fun v_113 => (getI .i64 p_49 (2)).bind fun v_119 => (if ((0 : Int) ≤ v_119) ∧ v_119.toNat ≤ (cut (x2.take (min x2.length (List.replicate (IntKind.i64.wrap ((IntKind.i64.wrap ((IntKind.i64.wrap (v_54 + v_56)) + v_58)) + v_60)).toNat 0 : List Int).length) ++ (List.replicate (IntKind.i64.wrap ((IntKind.i64.wrap ((IntKind.i64.wrap (v_54 + v_56)) + v_58)) + v_60)).toNat 0 : List Int).drop (min x2.length (List.replicate (IntKind.i64.wrap ((IntKind.i64.wrap ((IntKind.i64.wrap (v_54 + v_56)) + v_58)) + v_60)).toNat 0 : List Int).length)) (0) ((IntKind.i64.wrap (v_68 + v_70)).toNat)).length ∧ (cut (x2.take (min x2.length (List.replicate (IntKind.i64.wrap ((IntKind.i64.wrap ((IntKind.i64.wrap (v_54 + v_56)) + v_58)) + v_60)).toNat 0 : List Int).length) ++ (List.replicate (IntKind.i64.wrap ((IntKind.i64.wrap ((IntKind.i64.wrap (v_54 + v_56)) + v_58)) + v_60)).toNat 0 : List Int).drop (min x2.length (List.replicate (IntKind.i64.wrap ((IntKind.i64.wrap ((IntKind.i64.wrap (v_54 + v_56)) + v_58)) + v_60)).toNat 0 : List Int).length)) (0) ((IntKind.i64.wrap (v_68 + v_70)).toNat)).length ≤ (cut (x2.take (min x2.length (List.replicate (IntKind.i64.wrap ((IntKind.i64.wrap ((IntKind.i64.wrap (v_54 + v_56)) + v_58)) + v_60)).toNat 0 : List Int).length) ++ (List.replicate (IntKind.i64.wrap ((IntKind.i64.wrap ((IntKind.i64.wrap (v_54 + v_56)) + v_58)) + v_60)).toNat 0 : List Int).drop (min x2.length (List.replicate (IntKind.i64.wrap ((IntKind.i64.wrap ((IntKind.i64.wrap (v_54 + v_56)) + v_58)) + v_60)).toNat 0 : List Int).length)) (0) ((IntKind.i64.wrap (v_68 + v_70)).toNat)).length then (getI .i64 p_49 (1)).bind fun v_127 => (if ((0 : Int) ≤ v_127) ∧ v_127.toNat ≤ (cut (x2.take (min x2.length (List.replicate (IntKind.i64.wrap ((IntKind.i64.wrap ((IntKind.i64.wrap (v_54 + v_56)) + v_58)) + v_60)).toNat 0 : List Int).length) ++ (List.replicate (IntKind.i64.wrap ((IntKind.i64.wrap ((IntKind.i64.wrap (v_54 + v_56)) + v_58)) + v_60)).toNat 0 : List Int).drop (min x2.length (List.replicate (IntKind.i64.wrap ((IntKind.i64.wrap ((IntKind.i64.wrap (v_54 + v_56)) + v_58)) + v_60)).toNat 0 : List Int).length)) ((IntKind.i64.wrap (v_78 + v_80)).toNat) ((x2.take (min x2.length (List.replicate (IntKind.i64.wrap ((IntKind.i64.wrap ((IntKind.i64.wrap (v_54 + v_56)) + v_58)) + v_60)).toNat 0 : List Int).length) ++ (List.replicate (IntKind.i64.wrap ((IntKind.i64.wrap ((IntKind.i64.wrap (v_54 + v_56)) + v_58)) + v_60)).toNat 0 : List Int).drop (min x2.length (List.replicate (IntKind.i64.wrap ((IntKind.i64.wrap ((IntKind.i64.wrap (v_54 + v_56)) + v_58)) + v_60)).toNat 0 : List Int).length)).length)).length ∧ (cut (x2.take (min x2.length (List.replicate (IntKind.i64.wrap ((IntKind.i64.wrap ((IntKind.i64.wrap (v_54 + v_56)) + v_58)) + v_60)).toNat 0 : List Int).length) ++ (List.replicate (IntKind.i64.wrap ((IntKind.i64.wrap ((IntKind.i64.wrap (v_54 + v_56)) + v_58)) + v_60)).toNat 0 : List Int).drop (min x2.length (List.replicate (IntKind.i64.wrap ((IntKind.i64.wrap ((IntKind.i64.wrap (v_54 + v_56)) + v_58)) + v_60)).toNat 0 : List Int).length)) ((IntKind.i64.wrap (v_78 + v_80)).toNat) ((x2.take (min x2.length (List.replicate (IntKind.i64.wrap ((IntKind.i64.wrap ((IntKind.i64.wrap (v_54 + v_56)) + v_58)) + v_60)).toNat 0 : List Int).length) ++ (List.replicate (IntKind.i64.wrap ((IntKind.i64.wrap ((IntKind.i64.wrap (v_54 + v_56)) + v_58)) + v_60)).toNat 0 : List Int).drop (min x2.length (List.replicate (IntKind.i64.wrap ((IntKind.i64.wrap ((IntKind.i64.wrap (v_54 + v_56)) + v_58)) + v_60)).toNat 0 : List Int).length)).length)).length ≤ (cut (x2.take (min x2.length (List.replicate (IntKind.i64.wrap ((IntKind.i64.wrap ((IntKind.i64.wrap (v_54 + v_56)) + v_58)) + v_60)).toNat 0 : List Int).length) ++ (List.replicate (IntKind.i64.wrap ((IntKind.i64.wrap ((IntKind.i64.wrap (v_54 + v_56)) + v_58)) + v_60)).toNat 0 : List Int).drop (min x2.length (List.replicate (IntKind.i64.wrap ((IntKind.i64.wrap ((IntKind.i64.wrap (v_54 + v_56)) + v_58)) + v_60)).toNat 0 : List Int).length)) ((IntKind.i64.wrap (v_78 + v_80)).toNat) ((x2.take (min x2.length (List.replicate (IntKind.i64.wrap ((IntKind.i64.wrap ((IntKind.i64.wrap (v_54 + v_56)) + v_58)) + v_60)).toNat 0 : List Int).length) ++ (List.replicate (IntKind.i64.wrap ((IntKind.i64.wrap ((IntKind.i64.wrap (v_54 + v_56)) + v_58)) + v_60)).toNat 0 : List Int).drop (min x2.length (List.replicate (IntKind.i64.wrap ((IntKind.i64.wrap ((IntKind.i64.wrap (v_54 + v_56)) + v_58)) + v_60)).toNat 0 : List Int).length)).length)).length then (visorref29_Play.m k x1 (cut (cut (x2.take (min x2.length (List.replicate (IntKind.i64.wrap ((IntKind.i64.wrap ((IntKind.i64.wrap (v_54 + v_56)) + v_58)) + v_60)).toNat 0 : List Int).length) ++ (List.replicate (IntKind.i64.wrap ((IntKind.i64.wrap ((IntKind.i64.wrap (v_54 + v_56)) + v_58)) + v_60)).toNat 0 : List Int).drop (min x2.length (List.replicate (IntKind.i64.wrap ((IntKind.i64.wrap ((IntKind.i64.wrap (v_54 + v_56)) + v_58)) + v_60)).toNat 0 : List Int).length)) (0) ((IntKind.i64.wrap (v_68 + v_70)).toNat)) (v_119.toNat) ((cut (x2.take (min x2.length (List.replicate (IntKind.i64.wrap ((IntKind.i64.wrap ((IntKind.i64.wrap (v_54 + v_56)) + v_58)) + v_60)).toNat 0 : List Int).length) ++ (List.replicate (IntKind.i64.wrap ((IntKind.i64.wrap ((IntKind.i64.wrap (v_54 + v_56)) + v_58)) + v_60)).toNat 0 : List Int).drop (min x2.length (List.replicate (IntKind.i64.wrap ((IntKind.i64.wrap ((IntKind.i64.wrap (v_54 + v_56)) + v_58)) + v_60)).toNat 0 : List Int).length)) (0) ((IntKind.i64.wrap (v_68 + v_70)).toNat)).length)) [] (cut (cut (x2.take (min x2.length (List.replicate (IntKind.i64.wrap ((IntKind.i64.wrap ((IntKind.i64.wrap (v_54 + v_56)) + v_58)) + v_60)).toNat 0 : List Int).length) ++ (List.replicate (IntKind.i64.wrap ((IntKind.i64.wrap ((IntKind.i64.wrap (v_54 + v_56)) + v_58)) + v_60)).toNat 0 : List Int).drop (min x2.length (List.replicate (IntKind.i64.wrap ((IntKind.i64.wrap ((IntKind.i64.wrap (v_54 + v_56)) + v_58)) + v_60)).toNat 0 : List Int).length)) ((IntKind.i64.wrap (v_78 + v_80)).toNat) ((x2.take (min x2.length (List.replicate (IntKind.i64.wrap ((IntKind.i64.wrap ((IntKind.i64.wrap (v_54 + v_56)) + v_58)) + v_60)).toNat 0 : List Int).length) ++ (List.replicate (IntKind.i64.wrap ((IntKind.i64.wrap ((IntKind.i64.wrap (v_54 + v_56)) + v_58)) + v_60)).toNat 0 : List Int).drop (min x2.length (List.replicate (IntKind.i64.wrap ((IntKind.i64.wrap ((IntKind.i64.wrap (v_54 + v_56)) + v_58)) + v_60)).toNat 0 : List Int).length)).length)) (v_127.toNat) ((cut (x2.take (min x2.length (List.replicate (IntKind.i64.wrap ((IntKind.i64.wrap ((IntKind.i64.wrap (v_54 + v_56)) + v_58)) + v_60)).toNat 0 : List Int).length) ++ (List.replicate (IntKind.i64.wrap ((IntKind.i64.wrap ((IntKind.i64.wrap (v_54 + v_56)) + v_58)) + v_60)).toNat 0 : List Int).drop (min x2.length (List.replicate (IntKind.i64.wrap ((IntKind.i64.wrap ((IntKind.i64.wrap (v_54 + v_56)) + v_58)) + v_60)).toNat 0 : List Int).length)) ((IntKind.i64.wrap (v_78 + v_80)).toNat) ((x2.take (min x2.length (List.replicate (IntKind.i64.wrap ((IntKind.i64.wrap ((IntKind.i64.wrap (v_54 + v_56)) + v_58)) + v_60)).toNat 0 : List Int).length) ++ (List.replicate (IntKind.i64.wrap ((IntKind.i64.wrap ((IntKind.i64.wrap (v_54 + v_56)) + v_58)) + v_60)).toNat 0 : List Int).drop (min x2.length (List.replicate (IntKind.i64.wrap ((IntKind.i64.wrap ((IntKind.i64.wrap (v_54 + v_56)) + v_58)) + v_60)).toNat 0 : List Int).length)).length)).length)) false).bind fun v_136 => (bif (v_14.2 == 0) && (v_90.2 == 0) then (visorref18_Right.m k v_14.1).bind fun v_143 => (bif v_143 && (((v_14.1.blocks.length : Nat) : Int) == (IntKind.i64.wrap (((x0.blocks.length : Nat) : Int) + ((x1.blocks.length : Nat) : Int)))) then (if (v_113.length + v_136.length) * 8 ≤ 140737488355328 then (visorref29_Same.m k v_90.1 (v_113 ++ v_136)).bind fun v_150 => (bif v_150 then (visorlaw29_awake.m k).bind fun v_153 => visorlaw29_ReplayJoins.j4 k v_153 else visorlaw29_ReplayJoins.j4 k false) else none) else visorlaw29_ReplayJoins.j4 k false) else visorlaw29_ReplayJoins.j4 k false) else none) else none) else none) else none) else none) else none) else none)
def visorlaw29_ReplayJoins.j1 (k : Nat) (x0 : Tapi_Trace) (x1 : Tapi_Trace) (x2 : List Int) (v_14 : Tapi_Trace × Int) (p_29 : Bool) : Option (Bool) := (bif p_29 then (bif (v_14.2 == 4) && (((v_14.1.ops.length : Nat) : Int) == 0) then (visorlaw29_awake.m k).bind fun v_34 => visorlaw29_ReplayJoins.j2 k v_34 else visorlaw29_ReplayJoins.j2 k false) else (visorref18_Tally.m k x0).bind fun v_40 => (visorref18_Tally.m k x1).bind fun v_43 => (if v_40.length = 13 then (if v_43.length = 13 then visorlaw29_ReplayJoins.j3 k x0 x1 x2 v_14 v_40 v_43 else none) else none))
abbrev visorlaw29_ReplayJoins.R (κ : Ctx) (S : List HP) (x0 : Tapi_Trace) (x1 : Tapi_Trace) (x2 : List Int) (A_x0ops : Option Addr) (c_x0ops : Nat) (A_x0blocks : Option Addr) (c_x0blocks : Nat) (A_x1ops : Option Addr) (c_x1ops : Nat) (A_x1blocks : Option Addr) (c_x1blocks : Nat) (A_x2 : Option Addr) (c_x2 : Nat) (r : Bool) : Ending → World → Prop := fun e w' => e = .returned (.bool r) ∧ Ow κ w' (S)
def visorlaw29_ReplayJoins.m (k : Nat) (x0 : Tapi_Trace) (x1 : Tapi_Trace) (x2 : List Int) : Option Bool := (bif (decide (((x0.ops.length : Nat) : Int) > 200)) || (decide (((x1.ops.length : Nat) : Int) > 200)) then (visorlaw29_awake.m k).bind fun v_10 => some v_10 else (replay_Join.m k x0 x1).bind fun v_14 => (visorref18_Right.m k x0).bind fun v_24 => (bif !v_24 then visorlaw29_ReplayJoins.j1 k x0 x1 x2 v_14 true else (visorref18_Right.m k x1).bind fun v_27 => visorlaw29_ReplayJoins.j1 k x0 x1 x2 v_14 ((!v_27) || (x0.n != x1.n))))

set_option maxRecDepth 100000 in
set_option maxHeartbeats 4000000 in
theorem visorlaw29_ReplayJoins.ok (k : Nat) (x0 : Tapi_Trace) (x1 : Tapi_Trace) (x2 : List Int) (r : Bool) (hm : visorlaw29_ReplayJoins.m k x0 x1 x2 = some r) (κ : Ctx) (w : World) (S : List HP) (A_x0ops : Option Addr) (c_x0ops : Nat) (hx_x0ops : Sl κ [] A_x0ops c_x0ops 6 Tapi_Op.cells x0.ops) (A_x0blocks : Option Addr) (c_x0blocks : Nat) (hx_x0blocks : Sl κ [] A_x0blocks c_x0blocks 3 Tapi_Span.cells x0.blocks) (A_x1ops : Option Addr) (c_x1ops : Nat) (hx_x1ops : Sl κ [] A_x1ops c_x1ops 6 Tapi_Op.cells x1.ops) (A_x1blocks : Option Addr) (c_x1blocks : Nat) (hx_x1blocks : Sl κ [] A_x1blocks c_x1blocks 3 Tapi_Span.cells x1.blocks) (A_x2 : Option Addr) (c_x2 : Nat) (hx_x2 : Sl κ [] A_x2 c_x2 1 (eI .u64) x2) (ho : Ow κ w (S)) :
  Calls Try.prog 6 #[.agg (vals [ci x0.n, C.slc A_x0ops x0.ops.length c_x0ops, C.slc A_x0blocks x0.blocks.length c_x0blocks]), .agg (vals [ci x1.n, C.slc A_x1ops x1.ops.length c_x1ops, C.slc A_x1blocks x1.blocks.length c_x1blocks]), .slice A_x2 x2.length c_x2] w (visorlaw29_ReplayJoins.R κ S x0 x1 x2 A_x0ops c_x0ops A_x0blocks c_x0blocks A_x1ops c_x1ops A_x1blocks c_x1blocks A_x2 c_x2 r) := by
 have ht_x0ops := hx_x0ops
 generalize hRR : visorlaw29_ReplayJoins.R κ S x0 x1 x2 A_x0ops c_x0ops A_x0blocks c_x0blocks A_x1ops c_x1ops A_x1blocks c_x1blocks A_x2 c_x2 r = RR
 replace hx_x0ops := Sl.top (S := S) hx_x0ops
 have ht_x0blocks := hx_x0blocks
 replace hx_x0blocks := Sl.top (S := S) hx_x0blocks
 have ht_x1ops := hx_x1ops
 replace hx_x1ops := Sl.top (S := S) hx_x1ops
 have ht_x1blocks := hx_x1blocks
 replace hx_x1blocks := Sl.top (S := S) hx_x1blocks
 have ht_x2 := hx_x2
 replace hx_x2 := Sl.top (S := S) hx_x2
 unfold visorlaw29_ReplayJoins.m at hm
 refine qen [(0, .agg (vals [ci x0.n, C.slc A_x0ops x0.ops.length c_x0ops, C.slc A_x0blocks x0.blocks.length c_x0blocks])), (1, .agg (vals [ci x1.n, C.slc A_x1ops x1.ops.length c_x1ops, C.slc A_x1blocks x1.blocks.length c_x1blocks])), (2, .slice A_x2 x2.length c_x2)] Try.func6 Try.ntmps6 ho fun a hs => ?_
 refine qsr fun K1 hK1 => ?_
 refine qbx 0 58 [ci x0.n, C.slc A_x0ops x0.ops.length c_x0ops, C.slc A_x0blocks x0.blocks.length c_x0blocks] 3 hs fun b_2 w a hs => ?_
 refine qbx 1 58 [ci x1.n, C.slc A_x1ops x1.ops.length c_x1ops, C.slc A_x1blocks x1.blocks.length c_x1blocks] 4 hs fun b_3 w a hs => ?_
 refine qpe 1 [(2, .slice A_x2 x2.length c_x2), (3, pp b_2), (4, pp b_3)] hs fun a hs => hK1 _ _ ?_
 clear hK1
 refine Vk.seq fun K4 hK4 => ?_
 refine qsr fun K5 hK5 => ?_
 refine qpu 1 hs fun a hs => ?_
 refine qld 1 (C.slc A_x0ops x0.ops.length c_x0ops) hs rfl fun a hs => ?_
 refine qpu 3 hs fun a hs => ?_
 suffices hj_6 : ∀ a, St 154 a w κ [(2, .slice A_x2 x2.length c_x2), (3, pp b_2), (4, pp b_3), (18, .pointer (some ⟨b_2, 1, none⟩)), (19, .slice A_x0ops x0.ops.length c_x0ops), (20, vi ((x0.ops.length : Nat) : Int)), (21, .bool (decide (((x0.ops.length : Nat) : Int) > 200))), (22, .bool (decide (((x0.ops.length : Nat) : Int) > 200))), (27, .bool ((decide (((x0.ops.length : Nat) : Int) > 200)) || (decide (((x1.ops.length : Nat) : Int) > 200))))] (pt b_3 (blk (Tapi_Trace.obj x1 A_x1ops c_x1ops A_x1blocks c_x1blocks) 58) :: pt b_2 (blk (Tapi_Trace.obj x0 A_x0ops c_x0ops A_x0blocks c_x0blocks) 58) :: S) → wpFrom Try.prog _ _ 10 a w by
  rcases Bool.eq_false_or_eq_true (decide (((x0.ops.length : Nat) : Int) > 200)) with hb | hb
  ·replace hs := hs.known (t := 22) hb (by kernel_rfl)
   refine qpu 5 hs fun a hs => ?_
   have hq := hs.pick [2, 3, 4, 18, 19, 20, 21, 22, 27] (L' := [(2, .slice A_x2 x2.length c_x2), (3, pp b_2), (4, pp b_3), (18, .pointer (some ⟨b_2, 1, none⟩)), (19, .slice A_x0ops x0.ops.length c_x0ops), (20, vi ((x0.ops.length : Nat) : Int)), (21, .bool (decide (((x0.ops.length : Nat) : Int) > 200))), (22, .bool true), (27, .bool true)]) (by kernel_rfl)
   exact hj_6 _ (hq.conv (by first | (rw [hb] <;> rfl) | rfl))
  ·replace hs := hs.known (t := 22) hb (by kernel_rfl)
   refine qpu 1 hs fun a hs => ?_
   refine qld 0 (C.slc A_x1ops x1.ops.length c_x1ops) hs rfl fun a hs => ?_
   refine qpu 3 hs fun a hs => ?_
   have hq := hs.pick [2, 3, 4, 18, 19, 20, 21, 22, 27] (L' := [(2, .slice A_x2 x2.length c_x2), (3, pp b_2), (4, pp b_3), (18, .pointer (some ⟨b_2, 1, none⟩)), (19, .slice A_x0ops x0.ops.length c_x0ops), (20, vi ((x0.ops.length : Nat) : Int)), (21, .bool (decide (((x0.ops.length : Nat) : Int) > 200))), (22, .bool false), (27, .bool (decide (((x1.ops.length : Nat) : Int) > 200)))]) (by kernel_rfl)
   exact hj_6 _ (hq.conv (by first | (rw [hb] <;> rfl) | rfl))
 intro a hs
 refine qpk 0 [2, 3, 4, 27] hs fun a hs => hK5 _ _ ?_
 clear hK5
 refine qcs ((decide (((x0.ops.length : Nat) : Int) > 200)) || (decide (((x1.ops.length : Nat) : Int) > 200))) hs (fun hb => ?_) fun hb => ?_
 ·replace hm := bif_t hm hb
  refine qsr fun K7 hK7 => ?_
  obtain ⟨v_10, h_9, hm⟩ := bind_t hm
  refine qcl (visorlaw29_awake.ok _ _ h_9 _ _ (pt b_3 (blk (Tapi_Trace.obj x1 A_x1ops c_x1ops A_x1blocks c_x1blocks) 58) :: pt b_2 (blk (Tapi_Trace.obj x0 A_x0ops c_x0ops A_x0blocks c_x0blocks) 58) :: S) hs.own) hs fun w a hs => ?_
  refine qpe 1 [(6, .bool v_10)] hs fun a hs => hK7 _ _ ?_
  clear hK7
  refine wp_ret ?_
  exact qr1 (.bool v_10) hs rfl hRR (by cases hm; exact ⟨rfl, hs.own.f1.drop.drop⟩)
 ·replace hm := bif_f hm hb
  refine wp_skip ?_
  refine hK4 _ _ ?_
  clear hK4
  refine qsr fun K11 hK11 => ?_
  refine qln 1 ([ci x0.n, C.slc A_x0ops x0.ops.length c_x0ops, C.slc A_x0blocks x0.blocks.length c_x0blocks]) hs rfl fun a hs => ?_
  refine qln 0 ([ci x1.n, C.slc A_x1ops x1.ops.length c_x1ops, C.slc A_x1blocks x1.blocks.length c_x1blocks]) hs rfl fun a hs => ?_
  obtain ⟨v_14, h_13, hm⟩ := bind_t hm
  refine Vk.step (Vk.call (some 32) 28 #[.agg (vals [ci x0.n, C.slc A_x0ops x0.ops.length c_x0ops, C.slc A_x0blocks x0.blocks.length c_x0blocks]), .agg (vals [ci x1.n, C.slc A_x1ops x1.ops.length c_x1ops, C.slc A_x1blocks x1.blocks.length c_x1blocks])] hs (by kernel_rfl) (by kernel_rfl) (by kernel_rfl) ?_)
  refine (replay_Join.ok k x0 x1 v_14 h_13 κ w (pt b_3 (blk (Tapi_Trace.obj x1 A_x1ops c_x1ops A_x1blocks c_x1blocks) 58) :: pt b_2 (blk (Tapi_Trace.obj x0 A_x0ops c_x0ops A_x0blocks c_x0blocks) 58) :: S) A_x0ops c_x0ops hx_x0ops.less.less A_x0blocks c_x0blocks hx_x0blocks.less.less A_x1ops c_x1ops hx_x1ops.less.less A_x1blocks c_x1blocks hx_x1blocks.less.less hs.own).mono ?_
  rintro _ w ⟨Ar12x0ops_15, cr12x0ops_16, Ar12x0blocks_17, cr12x0blocks_18, rfl, how⟩
  refine ⟨_, _, _, rfl, how, fun a hs => ?_⟩
  refine qpu 3 hs fun a hs => ?_
  refine qal 58 [ci 0, C.slc none 0 0, C.slc none 0 0] 7 hs fun b_19 w a hs => ?_
  refine qsa 0 [ci v_14.1.n, C.slc Ar12x0ops_15 v_14.1.ops.length cr12x0ops_16, C.slc Ar12x0blocks_17 v_14.1.blocks.length cr12x0blocks_18] hs rfl fun a w hs => ?_
  refine qpe 1 [(2, .slice A_x2 x2.length c_x2), (3, pp b_2), (4, pp b_3), (7, pp b_19), (8, vi v_14.2)] hs fun a hs => hK11 _ _ ?_
  clear hK11
  refine Vk.seq fun K20 hK20 => ?_
  refine Vk.seq fun K21 hK21 => ?_
  have hj21 : ∀ (p_29 : Bool), visorlaw29_ReplayJoins.j1 k x0 x1 x2 v_14 p_29 = some r → ∀ (a : Act) (w : World), St 154 a w κ [(2, .slice A_x2 x2.length c_x2), (3, pp b_2), (4, pp b_3), (7, pp b_19), (8, vi v_14.2), (49, .bool p_29)] (pt b_2 (blk (Tapi_Trace.obj x0 A_x0ops c_x0ops A_x0blocks c_x0blocks) 58) :: pt b_3 (blk (Tapi_Trace.obj x1 A_x1ops c_x1ops A_x1blocks c_x1blocks) 58) :: pt b_19 (blk (Tapi_Trace.obj v_14.1 Ar12x0ops_15 cr12x0ops_16 Ar12x0blocks_17 cr12x0blocks_18) 58) :: rowp Ar12x0ops_15 cr12x0ops_16 85 6 Tapi_Op.cells v_14.1.ops :: rowp Ar12x0blocks_17 cr12x0blocks_18 95 3 Tapi_Span.cells v_14.1.blocks :: S) → K21 a w := by
   intro p_29 hm a w hs
   unfold visorlaw29_ReplayJoins.j1 at hm
   refine hK21 _ _ ?_
   refine qcs (p_29) hs (fun hb => ?_) fun hb => ?_
   ·replace hm := bif_t hm hb
    refine Vk.seq fun K30 hK30 => ?_
    have hj30 : ∀ (p_35 : Bool), visorlaw29_ReplayJoins.j2 k p_35 = some r → ∀ (a : Act) (w : World), St 154 a w κ [(6, .bool p_35)] (S) → K30 a w := by
     intro p_35 hm a w hs
     unfold visorlaw29_ReplayJoins.j2 at hm
     refine hK30 _ _ ?_
     refine wp_ret ?_
     exact qr1 (.bool p_35) hs rfl hRR (by cases hm; exact ⟨rfl, hs.own⟩)
    refine Vk.region ?_
    refine qpu 3 hs fun a hs => ?_
    suffices hj_31 : ∀ a, St 154 a w κ [(2, .slice A_x2 x2.length c_x2), (3, pp b_2), (4, pp b_3), (7, pp b_19), (8, vi v_14.2), (49, .bool p_29), (50, vi v_14.2), (51, .bool (v_14.2 == 4)), (52, .bool (v_14.2 == 4)), (57, .bool ((v_14.2 == 4) && (((v_14.1.ops.length : Nat) : Int) == 0)))] (pt b_2 (blk (Tapi_Trace.obj x0 A_x0ops c_x0ops A_x0blocks c_x0blocks) 58) :: pt b_3 (blk (Tapi_Trace.obj x1 A_x1ops c_x1ops A_x1blocks c_x1blocks) 58) :: pt b_19 (blk (Tapi_Trace.obj v_14.1 Ar12x0ops_15 cr12x0ops_16 Ar12x0blocks_17 cr12x0blocks_18) 58) :: rowp Ar12x0ops_15 cr12x0ops_16 85 6 Tapi_Op.cells v_14.1.ops :: rowp Ar12x0blocks_17 cr12x0blocks_18 95 3 Tapi_Span.cells v_14.1.blocks :: S) → wpFrom Try.prog _ _ 8 a w by
     rcases Bool.eq_false_or_eq_true (v_14.2 == 4) with hb | hb
     ·replace hs := hs.known (t := 52) hb (by kernel_rfl)
      refine qpu 1 hs fun a hs => ?_
      refine qld 2 (C.slc Ar12x0ops_15 v_14.1.ops.length cr12x0ops_16) hs rfl fun a hs => ?_
      refine qpu 3 hs fun a hs => ?_
      have hq := hs.pick [2, 3, 4, 7, 8, 49, 50, 51, 52, 57] (L' := [(2, .slice A_x2 x2.length c_x2), (3, pp b_2), (4, pp b_3), (7, pp b_19), (8, vi v_14.2), (49, .bool p_29), (50, vi v_14.2), (51, .bool (v_14.2 == 4)), (52, .bool true), (57, .bool (((v_14.1.ops.length : Nat) : Int) == 0))]) (by kernel_rfl)
      exact hj_31 _ (hq.conv (by first | (rw [hb] <;> rfl) | rfl))
     ·replace hs := hs.known (t := 52) hb (by kernel_rfl)
      refine qpu 5 hs fun a hs => ?_
      have hq := hs.pick [2, 3, 4, 7, 8, 49, 50, 51, 52, 57] (L' := [(2, .slice A_x2 x2.length c_x2), (3, pp b_2), (4, pp b_3), (7, pp b_19), (8, vi v_14.2), (49, .bool p_29), (50, vi v_14.2), (51, .bool (v_14.2 == 4)), (52, .bool false), (57, .bool false)]) (by kernel_rfl)
      exact hj_31 _ (hq.conv (by first | (rw [hb] <;> rfl) | rfl))
    intro a hs
    refine qpu 1 hs fun a hs => ?_
    rcases Bool.eq_false_or_eq_true ((v_14.2 == 4) && (((v_14.1.ops.length : Nat) : Int) == 0)) with hb | hb
    ·replace hm := bif_t hm hb
     replace hs := hs.known (t := 58) hb (by kernel_rfl)
     obtain ⟨v_34, h_33, hm⟩ := bind_t hm
     refine qcl (visorlaw29_awake.ok _ _ h_33 _ _ (pt b_2 (blk (Tapi_Trace.obj x0 A_x0ops c_x0ops A_x0blocks c_x0blocks) 58) :: pt b_3 (blk (Tapi_Trace.obj x1 A_x1ops c_x1ops A_x1blocks c_x1blocks) 58) :: pt b_19 (blk (Tapi_Trace.obj v_14.1 Ar12x0ops_15 cr12x0ops_16 Ar12x0blocks_17 cr12x0blocks_18) 58) :: rowp Ar12x0ops_15 cr12x0ops_16 85 6 Tapi_Op.cells v_14.1.ops :: rowp Ar12x0blocks_17 cr12x0blocks_18 95 3 Tapi_Span.cells v_14.1.blocks :: S) hs.own) hs fun w a hs => ?_
     refine qpe 2 [(6, .bool v_34)] hs fun a hs => ?_
     exact hj30 v_34 hm _ _ (hs.go [6] [] 5 (by kernel_rfl) (by kernel_rfl) (by kernel_rfl))
    ·replace hm := bif_f hm hb
     replace hs := hs.known (t := 58) hb (by kernel_rfl)
     refine qpe 3 [(6, .bool false)] hs fun a hs => ?_
     exact hj30 false hm _ _ (hs.go [6] [] 5 (by kernel_rfl) (by kernel_rfl) (by kernel_rfl))
   ·replace hm := bif_f hm hb
    refine wp_skip ?_
    refine hK20 _ _ ?_
    clear hK20
    refine Vk.seq fun K36 hK36 => ?_
    have hj36 : ∀ (p_49 : Cells) (p_51 : Cells), visorlaw29_ReplayJoins.j3 k x0 x1 x2 v_14 p_49 p_51 = some r → ∀ (b_48 : Nat) (b_50 : Nat) (a : Act) (w : World), St 154 a w κ [(2, .slice A_x2 x2.length c_x2), (3, pp b_2), (4, pp b_3), (7, pp b_19), (8, vi v_14.2), (9, pp b_48), (10, pp b_50)] (pt b_2 (blk (Tapi_Trace.obj x0 A_x0ops c_x0ops A_x0blocks c_x0blocks) 58) :: pt b_3 (blk (Tapi_Trace.obj x1 A_x1ops c_x1ops A_x1blocks c_x1blocks) 58) :: pt b_19 (blk (Tapi_Trace.obj v_14.1 Ar12x0ops_15 cr12x0ops_16 Ar12x0blocks_17 cr12x0blocks_18) 58) :: rowp Ar12x0ops_15 cr12x0ops_16 85 6 Tapi_Op.cells v_14.1.ops :: rowp Ar12x0blocks_17 cr12x0blocks_18 95 3 Tapi_Span.cells v_14.1.blocks :: pt b_48 (blk p_49 77) :: pt b_50 (blk p_51 77) :: S) → K36 a w := by
     intro p_49 p_51 hm b_48 b_50 a w hs
     unfold visorlaw29_ReplayJoins.j3 at hm
     refine hK36 _ _ ?_
     refine qsr fun K52 hK52 => ?_
     refine qpu 1 hs fun a hs => ?_
     obtain ⟨v_54, h_53, hm⟩ := bind_t hm
     refine qli 5 hs rfl h_53 fun a hs => ?_
     refine qpu 1 hs fun a hs => ?_
     obtain ⟨v_56, h_55, hm⟩ := bind_t hm
     refine qli 5 hs rfl h_55 fun a hs => ?_
     refine qpu 2 hs fun a hs => ?_
     obtain ⟨v_58, h_57, hm⟩ := bind_t hm
     refine qli 6 hs rfl h_57 fun a hs => ?_
     refine qpu 2 hs fun a hs => ?_
     obtain ⟨v_60, h_59, hm⟩ := bind_t hm
     refine qli 6 hs rfl h_59 fun a hs => ?_
     refine qpu 1 hs fun a hs => ?_
     obtain ⟨h_61, hm⟩ := ite_t hm
     refine Vk.step (Vk.makeOp (x := (.tmp 75)) (y := (.tmp 75)) (kl := .i64) (kc := .i64) (enc := (eI .u64)) (sz := 1) (by_ := 8) (t := 59) (e := 71) (0) (some 76) hs (by kernel_rfl) (by kernel_rfl) (by kernel_rfl) (by kernel_rfl) (by kernel_rfl) (by kernel_rfl) rfl (by decide) h_61 (by decide) fun A_62 w a hs => ?_)
     refine qpe 1 [(2, .slice A_x2 x2.length c_x2), (3, pp b_2), (4, pp b_3), (7, pp b_19), (8, vi v_14.2), (9, pp b_48), (10, pp b_50), (11, .slice A_62 ((List.replicate (IntKind.i64.wrap ((IntKind.i64.wrap ((IntKind.i64.wrap (v_54 + v_56)) + v_58)) + v_60)).toNat 0 : List Int).length) ((IntKind.i64.wrap ((IntKind.i64.wrap ((IntKind.i64.wrap (v_54 + v_56)) + v_58)) + v_60)).toNat))] hs fun a hs => hK52 _ _ ?_
     clear hK52
     refine qsr fun K64 hK64 => ?_
     refine qpu 2 hs fun a hs => ?_
     refine Vk.step (Vk.copyRow (t := 59) (t' := 59) (e := 71) (x := (.tmp 77)) (y := (.tmp 78)) (A := A_62) (cap := ((IntKind.i64.wrap ((IntKind.i64.wrap ((IntKind.i64.wrap (v_54 + v_56)) + v_58)) + v_60)).toNat)) (B := A_x2) (c2 := c_x2) (xs := (List.replicate (IntKind.i64.wrap ((IntKind.i64.wrap ((IntKind.i64.wrap (v_54 + v_56)) + v_58)) + v_60)).toNat 0 : List Int)) (ys := x2) (enc := (eI .u64)) (sz := 1) 0 (some 79) hs rfl hx_x2.less.less.less.less.less.less.less.less (by decide) fun a w hs => ?_)
     replace hs : St 154 a w κ [(2, .slice A_x2 x2.length c_x2), (3, pp b_2), (4, pp b_3), (7, pp b_19), (8, vi v_14.2), (9, pp b_48), (10, pp b_50), (11, .slice A_62 ((List.replicate (IntKind.i64.wrap ((IntKind.i64.wrap ((IntKind.i64.wrap (v_54 + v_56)) + v_58)) + v_60)).toNat 0 : List Int).length) ((IntKind.i64.wrap ((IntKind.i64.wrap ((IntKind.i64.wrap (v_54 + v_56)) + v_58)) + v_60)).toNat)), (77, .slice A_62 ((List.replicate (IntKind.i64.wrap ((IntKind.i64.wrap ((IntKind.i64.wrap (v_54 + v_56)) + v_58)) + v_60)).toNat 0 : List Int).length) ((IntKind.i64.wrap ((IntKind.i64.wrap ((IntKind.i64.wrap (v_54 + v_56)) + v_58)) + v_60)).toNat)), (78, .slice A_x2 x2.length c_x2), (79, vi (((min x2.length (List.replicate (IntKind.i64.wrap ((IntKind.i64.wrap ((IntKind.i64.wrap (v_54 + v_56)) + v_58)) + v_60)).toNat 0 : List Int).length) : Nat) : Int))] (rowp A_62 ((IntKind.i64.wrap ((IntKind.i64.wrap ((IntKind.i64.wrap (v_54 + v_56)) + v_58)) + v_60)).toNat) 71 1 (eI .u64) (x2.take (min x2.length (List.replicate (IntKind.i64.wrap ((IntKind.i64.wrap ((IntKind.i64.wrap (v_54 + v_56)) + v_58)) + v_60)).toNat 0 : List Int).length) ++ (List.replicate (IntKind.i64.wrap ((IntKind.i64.wrap ((IntKind.i64.wrap (v_54 + v_56)) + v_58)) + v_60)).toNat 0 : List Int).drop (min x2.length (List.replicate (IntKind.i64.wrap ((IntKind.i64.wrap ((IntKind.i64.wrap (v_54 + v_56)) + v_58)) + v_60)).toNat 0 : List Int).length)) :: pt b_2 (blk (Tapi_Trace.obj x0 A_x0ops c_x0ops A_x0blocks c_x0blocks) 58) :: pt b_3 (blk (Tapi_Trace.obj x1 A_x1ops c_x1ops A_x1blocks c_x1blocks) 58) :: pt b_19 (blk (Tapi_Trace.obj v_14.1 Ar12x0ops_15 cr12x0ops_16 Ar12x0blocks_17 cr12x0blocks_18) 58) :: rowp Ar12x0ops_15 cr12x0ops_16 85 6 Tapi_Op.cells v_14.1.ops :: rowp Ar12x0blocks_17 cr12x0blocks_18 95 3 Tapi_Span.cells v_14.1.blocks :: pt b_48 (blk p_49 77) :: pt b_50 (blk p_51 77) :: S) := hs.pick [2, 3, 4, 7, 8, 9, 10, 11, 77, 78, 79] (by kernel_rfl)
     replace hs := hs.conv2 (L' := [(2, .slice A_x2 x2.length c_x2), (3, pp b_2), (4, pp b_3), (7, pp b_19), (8, vi v_14.2), (9, pp b_48), (10, pp b_50), (11, .slice A_62 ((x2.take (min x2.length (List.replicate (IntKind.i64.wrap ((IntKind.i64.wrap ((IntKind.i64.wrap (v_54 + v_56)) + v_58)) + v_60)).toNat 0 : List Int).length) ++ (List.replicate (IntKind.i64.wrap ((IntKind.i64.wrap ((IntKind.i64.wrap (v_54 + v_56)) + v_58)) + v_60)).toNat 0 : List Int).drop (min x2.length (List.replicate (IntKind.i64.wrap ((IntKind.i64.wrap ((IntKind.i64.wrap (v_54 + v_56)) + v_58)) + v_60)).toNat 0 : List Int).length)).length) ((IntKind.i64.wrap ((IntKind.i64.wrap ((IntKind.i64.wrap (v_54 + v_56)) + v_58)) + v_60)).toNat)), (77, .slice A_62 ((x2.take (min x2.length (List.replicate (IntKind.i64.wrap ((IntKind.i64.wrap ((IntKind.i64.wrap (v_54 + v_56)) + v_58)) + v_60)).toNat 0 : List Int).length) ++ (List.replicate (IntKind.i64.wrap ((IntKind.i64.wrap ((IntKind.i64.wrap (v_54 + v_56)) + v_58)) + v_60)).toNat 0 : List Int).drop (min x2.length (List.replicate (IntKind.i64.wrap ((IntKind.i64.wrap ((IntKind.i64.wrap (v_54 + v_56)) + v_58)) + v_60)).toNat 0 : List Int).length)).length) ((IntKind.i64.wrap ((IntKind.i64.wrap ((IntKind.i64.wrap (v_54 + v_56)) + v_58)) + v_60)).toNat)), (78, .slice A_x2 x2.length c_x2), (79, vi (((min x2.length (List.replicate (IntKind.i64.wrap ((IntKind.i64.wrap ((IntKind.i64.wrap (v_54 + v_56)) + v_58)) + v_60)).toNat 0 : List Int).length) : Nat) : Int))]) (S' := rowp A_62 ((IntKind.i64.wrap ((IntKind.i64.wrap ((IntKind.i64.wrap (v_54 + v_56)) + v_58)) + v_60)).toNat) 71 1 (eI .u64) (x2.take (min x2.length (List.replicate (IntKind.i64.wrap ((IntKind.i64.wrap ((IntKind.i64.wrap (v_54 + v_56)) + v_58)) + v_60)).toNat 0 : List Int).length) ++ (List.replicate (IntKind.i64.wrap ((IntKind.i64.wrap ((IntKind.i64.wrap (v_54 + v_56)) + v_58)) + v_60)).toNat 0 : List Int).drop (min x2.length (List.replicate (IntKind.i64.wrap ((IntKind.i64.wrap ((IntKind.i64.wrap (v_54 + v_56)) + v_58)) + v_60)).toNat 0 : List Int).length)) :: pt b_2 (blk (Tapi_Trace.obj x0 A_x0ops c_x0ops A_x0blocks c_x0blocks) 58) :: pt b_3 (blk (Tapi_Trace.obj x1 A_x1ops c_x1ops A_x1blocks c_x1blocks) 58) :: pt b_19 (blk (Tapi_Trace.obj v_14.1 Ar12x0ops_15 cr12x0ops_16 Ar12x0blocks_17 cr12x0blocks_18) 58) :: rowp Ar12x0ops_15 cr12x0ops_16 85 6 Tapi_Op.cells v_14.1.ops :: rowp Ar12x0blocks_17 cr12x0blocks_18 95 3 Tapi_Span.cells v_14.1.blocks :: pt b_48 (blk p_49 77) :: pt b_50 (blk p_51 77) :: S) (by simp only [copy_len]) (rfl)
     refine qpk 0 [3, 4, 7, 8, 9, 10, 11] hs fun a hs => hK64 _ _ ?_
     clear hK64
     refine Vk.seq fun K65 hK65 => ?_
     obtain ⟨C_66, hC_66⟩ : ∃ X0 : List HP, X0 = (rowp A_62 ((IntKind.i64.wrap ((IntKind.i64.wrap ((IntKind.i64.wrap (v_54 + v_56)) + v_58)) + v_60)).toNat) 71 1 (eI .u64) (x2.take (min x2.length (List.replicate (IntKind.i64.wrap ((IntKind.i64.wrap ((IntKind.i64.wrap (v_54 + v_56)) + v_58)) + v_60)).toNat 0 : List Int).length) ++ (List.replicate (IntKind.i64.wrap ((IntKind.i64.wrap ((IntKind.i64.wrap (v_54 + v_56)) + v_58)) + v_60)).toNat 0 : List Int).drop (min x2.length (List.replicate (IntKind.i64.wrap ((IntKind.i64.wrap ((IntKind.i64.wrap (v_54 + v_56)) + v_58)) + v_60)).toNat 0 : List Int).length)) :: pt b_2 (blk (Tapi_Trace.obj x0 A_x0ops c_x0ops A_x0blocks c_x0blocks) 58) :: pt b_3 (blk (Tapi_Trace.obj x1 A_x1ops c_x1ops A_x1blocks c_x1blocks) 58) :: pt b_19 (blk (Tapi_Trace.obj v_14.1 Ar12x0ops_15 cr12x0ops_16 Ar12x0blocks_17 cr12x0blocks_18) 58) :: rowp Ar12x0ops_15 cr12x0ops_16 85 6 Tapi_Op.cells v_14.1.ops :: rowp Ar12x0blocks_17 cr12x0blocks_18 95 3 Tapi_Span.cells v_14.1.blocks :: pt b_48 (blk p_49 77) :: pt b_50 (blk p_51 77) :: S) := ⟨_, rfl⟩
     refine qdr 16 κ C_66 hs fun w hs hqC_66 => ?_
     have hcz : Ow κ w (rowp A_62 ((IntKind.i64.wrap ((IntKind.i64.wrap ((IntKind.i64.wrap (v_54 + v_56)) + v_58)) + v_60)).toNat) 71 1 (eI .u64) (x2.take (min x2.length (List.replicate (IntKind.i64.wrap ((IntKind.i64.wrap ((IntKind.i64.wrap (v_54 + v_56)) + v_58)) + v_60)).toNat 0 : List Int).length) ++ (List.replicate (IntKind.i64.wrap ((IntKind.i64.wrap ((IntKind.i64.wrap (v_54 + v_56)) + v_58)) + v_60)).toNat 0 : List Int).drop (min x2.length (List.replicate (IntKind.i64.wrap ((IntKind.i64.wrap ((IntKind.i64.wrap (v_54 + v_56)) + v_58)) + v_60)).toNat 0 : List Int).length)) :: pt b_2 (blk (Tapi_Trace.obj x0 A_x0ops c_x0ops A_x0blocks c_x0blocks) 58) :: pt b_3 (blk (Tapi_Trace.obj x1 A_x1ops c_x1ops A_x1blocks c_x1blocks) 58) :: pt b_19 (blk (Tapi_Trace.obj v_14.1 Ar12x0ops_15 cr12x0ops_16 Ar12x0blocks_17 cr12x0blocks_18) 58) :: rowp Ar12x0ops_15 cr12x0ops_16 85 6 Tapi_Op.cells v_14.1.ops :: rowp Ar12x0blocks_17 cr12x0blocks_18 95 3 Tapi_Span.cells v_14.1.blocks :: pt b_48 (blk p_49 77) :: pt b_50 (blk p_51 77) :: S) := hs.own
     have hcl : Ow κ w C_66 := by rw [hC_66]; exact hcz
     refine qdp (fuel := 10) [0, 1, 3, 7, 8, 10] hs hcl hqC_66 fun a hs => ?_
     obtain ⟨v_68, h_67, hm⟩ := bind_t hm
     refine qdi 2 6 hs hcl hqC_66 hC_66 rfl h_67 fun a hs => ?_
     obtain ⟨v_70, h_69, hm⟩ := bind_t hm
     refine qdi 4 7 hs hcl hqC_66 hC_66 rfl h_69 fun a hs => ?_
     refine qdp (fuel := 7) [5] hs hcl hqC_66 fun a hs => ?_
     obtain ⟨h_71, hm⟩ := ite_t hm
     obtain ⟨A_72, c_73, eA_74, ec_75, hx_76⟩ := Sl.sub (Ow.rowSl 0 (Ow.to (S' := rowp A_62 ((IntKind.i64.wrap ((IntKind.i64.wrap ((IntKind.i64.wrap (v_54 + v_56)) + v_58)) + v_60)).toNat) 71 1 (eI .u64) (x2.take (min x2.length (List.replicate (IntKind.i64.wrap ((IntKind.i64.wrap ((IntKind.i64.wrap (v_54 + v_56)) + v_58)) + v_60)).toNat 0 : List Int).length) ++ (List.replicate (IntKind.i64.wrap ((IntKind.i64.wrap ((IntKind.i64.wrap (v_54 + v_56)) + v_58)) + v_60)).toNat 0 : List Int).drop (min x2.length (List.replicate (IntKind.i64.wrap ((IntKind.i64.wrap ((IntKind.i64.wrap (v_54 + v_56)) + v_58)) + v_60)).toNat 0 : List Int).length)) :: S) hcz [0] 8 (by kernel_rfl) (by kernel_rfl)) rfl) h_71.2
     refine qdt 6 (.slice A_72 ((cut (x2.take (min x2.length (List.replicate (IntKind.i64.wrap ((IntKind.i64.wrap ((IntKind.i64.wrap (v_54 + v_56)) + v_58)) + v_60)).toNat 0 : List Int).length) ++ (List.replicate (IntKind.i64.wrap ((IntKind.i64.wrap ((IntKind.i64.wrap (v_54 + v_56)) + v_58)) + v_60)).toNat 0 : List Int).drop (min x2.length (List.replicate (IntKind.i64.wrap ((IntKind.i64.wrap ((IntKind.i64.wrap (v_54 + v_56)) + v_58)) + v_60)).toNat 0 : List Int).length)) (0) ((IntKind.i64.wrap (v_68 + v_70)).toNat)).length) c_73) (op := (.slice 59 (.tmp 80) none (some (.tmp 85)) none)) hs hcl hqC_66 (fun w hw o ho => by rw [hC_66] at hw; exact run_sub (sz := 1) (e := 71) h_71.2 eA_74 ec_75 (Sl.le (Ow.rowSl 0 (Ow.to (S' := rowp A_62 ((IntKind.i64.wrap ((IntKind.i64.wrap ((IntKind.i64.wrap (v_54 + v_56)) + v_58)) + v_60)).toNat) 71 1 (eI .u64) (x2.take (min x2.length (List.replicate (IntKind.i64.wrap ((IntKind.i64.wrap ((IntKind.i64.wrap (v_54 + v_56)) + v_58)) + v_60)).toNat 0 : List Int).length) ++ (List.replicate (IntKind.i64.wrap ((IntKind.i64.wrap ((IntKind.i64.wrap (v_54 + v_56)) + v_58)) + v_60)).toNat 0 : List Int).drop (min x2.length (List.replicate (IntKind.i64.wrap ((IntKind.i64.wrap ((IntKind.i64.wrap (v_54 + v_56)) + v_58)) + v_60)).toNat 0 : List Int).length)) :: S) hcz [0] 8 (by kernel_rfl) (by kernel_rfl)) rfl)) ho (by kernel_rfl) (by kernel_rfl) (by kernel_rfl) rfl ⟨.i64, (IntKind.i64.wrap (v_68 + v_70)), by kernel_rfl, h_71.1, rfl⟩ _) fun a hs => ?_
     refine qdp (fuel := 5) [14] hs hcl hqC_66 fun a hs => ?_
     obtain ⟨v_78, h_77, hm⟩ := bind_t hm
     refine qdi 9 6 hs hcl hqC_66 hC_66 rfl h_77 fun a hs => ?_
     obtain ⟨v_80, h_79, hm⟩ := bind_t hm
     refine qdi 11 7 hs hcl hqC_66 hC_66 rfl h_79 fun a hs => ?_
     refine qdp (fuel := 2) [12] hs hcl hqC_66 fun a hs => ?_
     obtain ⟨h_81, hm⟩ := ite_t hm
     obtain ⟨A_82, c_83, eA_84, ec_85, hx_86⟩ := Sl.sub (Ow.rowSl 0 (Ow.to (S' := rowp A_62 ((IntKind.i64.wrap ((IntKind.i64.wrap ((IntKind.i64.wrap (v_54 + v_56)) + v_58)) + v_60)).toNat) 71 1 (eI .u64) (x2.take (min x2.length (List.replicate (IntKind.i64.wrap ((IntKind.i64.wrap ((IntKind.i64.wrap (v_54 + v_56)) + v_58)) + v_60)).toNat 0 : List Int).length) ++ (List.replicate (IntKind.i64.wrap ((IntKind.i64.wrap ((IntKind.i64.wrap (v_54 + v_56)) + v_58)) + v_60)).toNat 0 : List Int).drop (min x2.length (List.replicate (IntKind.i64.wrap ((IntKind.i64.wrap ((IntKind.i64.wrap (v_54 + v_56)) + v_58)) + v_60)).toNat 0 : List Int).length)) :: S) hcz [0] 8 (by kernel_rfl) (by kernel_rfl)) rfl) h_81.2
     refine qdt 13 (.slice A_82 ((cut (x2.take (min x2.length (List.replicate (IntKind.i64.wrap ((IntKind.i64.wrap ((IntKind.i64.wrap (v_54 + v_56)) + v_58)) + v_60)).toNat 0 : List Int).length) ++ (List.replicate (IntKind.i64.wrap ((IntKind.i64.wrap ((IntKind.i64.wrap (v_54 + v_56)) + v_58)) + v_60)).toNat 0 : List Int).drop (min x2.length (List.replicate (IntKind.i64.wrap ((IntKind.i64.wrap ((IntKind.i64.wrap (v_54 + v_56)) + v_58)) + v_60)).toNat 0 : List Int).length)) ((IntKind.i64.wrap (v_78 + v_80)).toNat) ((x2.take (min x2.length (List.replicate (IntKind.i64.wrap ((IntKind.i64.wrap ((IntKind.i64.wrap (v_54 + v_56)) + v_58)) + v_60)).toNat 0 : List Int).length) ++ (List.replicate (IntKind.i64.wrap ((IntKind.i64.wrap ((IntKind.i64.wrap (v_54 + v_56)) + v_58)) + v_60)).toNat 0 : List Int).drop (min x2.length (List.replicate (IntKind.i64.wrap ((IntKind.i64.wrap ((IntKind.i64.wrap (v_54 + v_56)) + v_58)) + v_60)).toNat 0 : List Int).length)).length)).length) c_83) (op := (.slice 59 (.tmp 87) (some (.tmp 92)) none none)) hs hcl hqC_66 (fun w hw o ho => by rw [hC_66] at hw; exact run_sub (sz := 1) (e := 71) h_81.2 eA_84 ec_85 (Sl.le (Ow.rowSl 0 (Ow.to (S' := rowp A_62 ((IntKind.i64.wrap ((IntKind.i64.wrap ((IntKind.i64.wrap (v_54 + v_56)) + v_58)) + v_60)).toNat) 71 1 (eI .u64) (x2.take (min x2.length (List.replicate (IntKind.i64.wrap ((IntKind.i64.wrap ((IntKind.i64.wrap (v_54 + v_56)) + v_58)) + v_60)).toNat 0 : List Int).length) ++ (List.replicate (IntKind.i64.wrap ((IntKind.i64.wrap ((IntKind.i64.wrap (v_54 + v_56)) + v_58)) + v_60)).toNat 0 : List Int).drop (min x2.length (List.replicate (IntKind.i64.wrap ((IntKind.i64.wrap ((IntKind.i64.wrap (v_54 + v_56)) + v_58)) + v_60)).toNat 0 : List Int).length)) :: S) hcz [0] 8 (by kernel_rfl) (by kernel_rfl)) rfl)) ho (by kernel_rfl) (by kernel_rfl) (by kernel_rfl) ⟨.i64, (IntKind.i64.wrap (v_78 + v_80)), by kernel_rfl, h_81.1, rfl⟩ rfl _) fun a hs => ?_
     refine qdp (fuel := 0) [15] hs hcl hqC_66 fun a hs => ?_
     replace hs := hs.pick [3, 4, 7, 8, 9, 12, 13] (L' := [(3, pp b_2), (4, pp b_3), (7, pp b_19), (8, vi v_14.2), (9, pp b_48), (12, .slice A_72 ((cut (x2.take (min x2.length (List.replicate (IntKind.i64.wrap ((IntKind.i64.wrap ((IntKind.i64.wrap (v_54 + v_56)) + v_58)) + v_60)).toNat 0 : List Int).length) ++ (List.replicate (IntKind.i64.wrap ((IntKind.i64.wrap ((IntKind.i64.wrap (v_54 + v_56)) + v_58)) + v_60)).toNat 0 : List Int).drop (min x2.length (List.replicate (IntKind.i64.wrap ((IntKind.i64.wrap ((IntKind.i64.wrap (v_54 + v_56)) + v_58)) + v_60)).toNat 0 : List Int).length)) (0) ((IntKind.i64.wrap (v_68 + v_70)).toNat)).length) c_73), (13, .slice A_82 ((cut (x2.take (min x2.length (List.replicate (IntKind.i64.wrap ((IntKind.i64.wrap ((IntKind.i64.wrap (v_54 + v_56)) + v_58)) + v_60)).toNat 0 : List Int).length) ++ (List.replicate (IntKind.i64.wrap ((IntKind.i64.wrap ((IntKind.i64.wrap (v_54 + v_56)) + v_58)) + v_60)).toNat 0 : List Int).drop (min x2.length (List.replicate (IntKind.i64.wrap ((IntKind.i64.wrap ((IntKind.i64.wrap (v_54 + v_56)) + v_58)) + v_60)).toNat 0 : List Int).length)) ((IntKind.i64.wrap (v_78 + v_80)).toNat) ((x2.take (min x2.length (List.replicate (IntKind.i64.wrap ((IntKind.i64.wrap ((IntKind.i64.wrap (v_54 + v_56)) + v_58)) + v_60)).toNat 0 : List Int).length) ++ (List.replicate (IntKind.i64.wrap ((IntKind.i64.wrap ((IntKind.i64.wrap (v_54 + v_56)) + v_58)) + v_60)).toNat 0 : List Int).drop (min x2.length (List.replicate (IntKind.i64.wrap ((IntKind.i64.wrap ((IntKind.i64.wrap (v_54 + v_56)) + v_58)) + v_60)).toNat 0 : List Int).length)).length)).length) c_83)]) (by kernel_rfl)
     refine Vk.dDone (by kernel_rfl) ?_
     refine hK65 _ _ ?_
     clear hK65
     refine qsr fun K87 hK87 => ?_
     refine qln 3 ([ci v_14.1.n, C.slc Ar12x0ops_15 v_14.1.ops.length cr12x0ops_16, C.slc Ar12x0blocks_17 v_14.1.blocks.length cr12x0blocks_18]) hs rfl fun a hs => ?_
     refine qpu 2 hs fun a hs => ?_
     obtain ⟨v_90, h_89, hm⟩ := bind_t hm
     refine Vk.step (Vk.call (some 98) 19 #[.agg (vals [ci v_14.1.n, C.slc Ar12x0ops_15 v_14.1.ops.length cr12x0ops_16, C.slc Ar12x0blocks_17 v_14.1.blocks.length cr12x0blocks_18]), .slice A_72 ((cut (x2.take (min x2.length (List.replicate (IntKind.i64.wrap ((IntKind.i64.wrap ((IntKind.i64.wrap (v_54 + v_56)) + v_58)) + v_60)).toNat 0 : List Int).length) ++ (List.replicate (IntKind.i64.wrap ((IntKind.i64.wrap ((IntKind.i64.wrap (v_54 + v_56)) + v_58)) + v_60)).toNat 0 : List Int).drop (min x2.length (List.replicate (IntKind.i64.wrap ((IntKind.i64.wrap ((IntKind.i64.wrap (v_54 + v_56)) + v_58)) + v_60)).toNat 0 : List Int).length)) (0) ((IntKind.i64.wrap (v_68 + v_70)).toNat)).length) c_73, .slice A_82 ((cut (x2.take (min x2.length (List.replicate (IntKind.i64.wrap ((IntKind.i64.wrap ((IntKind.i64.wrap (v_54 + v_56)) + v_58)) + v_60)).toNat 0 : List Int).length) ++ (List.replicate (IntKind.i64.wrap ((IntKind.i64.wrap ((IntKind.i64.wrap (v_54 + v_56)) + v_58)) + v_60)).toNat 0 : List Int).drop (min x2.length (List.replicate (IntKind.i64.wrap ((IntKind.i64.wrap ((IntKind.i64.wrap (v_54 + v_56)) + v_58)) + v_60)).toNat 0 : List Int).length)) ((IntKind.i64.wrap (v_78 + v_80)).toNat) ((x2.take (min x2.length (List.replicate (IntKind.i64.wrap ((IntKind.i64.wrap ((IntKind.i64.wrap (v_54 + v_56)) + v_58)) + v_60)).toNat 0 : List Int).length) ++ (List.replicate (IntKind.i64.wrap ((IntKind.i64.wrap ((IntKind.i64.wrap (v_54 + v_56)) + v_58)) + v_60)).toNat 0 : List Int).drop (min x2.length (List.replicate (IntKind.i64.wrap ((IntKind.i64.wrap ((IntKind.i64.wrap (v_54 + v_56)) + v_58)) + v_60)).toNat 0 : List Int).length)).length)).length) c_83] hs (by kernel_rfl) (by kernel_rfl) (by kernel_rfl) ?_)
     refine (replay_Run.ok k v_14.1 (cut (x2.take (min x2.length (List.replicate (IntKind.i64.wrap ((IntKind.i64.wrap ((IntKind.i64.wrap (v_54 + v_56)) + v_58)) + v_60)).toNat 0 : List Int).length) ++ (List.replicate (IntKind.i64.wrap ((IntKind.i64.wrap ((IntKind.i64.wrap (v_54 + v_56)) + v_58)) + v_60)).toNat 0 : List Int).drop (min x2.length (List.replicate (IntKind.i64.wrap ((IntKind.i64.wrap ((IntKind.i64.wrap (v_54 + v_56)) + v_58)) + v_60)).toNat 0 : List Int).length)) (0) ((IntKind.i64.wrap (v_68 + v_70)).toNat)) (cut (x2.take (min x2.length (List.replicate (IntKind.i64.wrap ((IntKind.i64.wrap ((IntKind.i64.wrap (v_54 + v_56)) + v_58)) + v_60)).toNat 0 : List Int).length) ++ (List.replicate (IntKind.i64.wrap ((IntKind.i64.wrap ((IntKind.i64.wrap (v_54 + v_56)) + v_58)) + v_60)).toNat 0 : List Int).drop (min x2.length (List.replicate (IntKind.i64.wrap ((IntKind.i64.wrap ((IntKind.i64.wrap (v_54 + v_56)) + v_58)) + v_60)).toNat 0 : List Int).length)) ((IntKind.i64.wrap (v_78 + v_80)).toNat) ((x2.take (min x2.length (List.replicate (IntKind.i64.wrap ((IntKind.i64.wrap ((IntKind.i64.wrap (v_54 + v_56)) + v_58)) + v_60)).toNat 0 : List Int).length) ++ (List.replicate (IntKind.i64.wrap ((IntKind.i64.wrap ((IntKind.i64.wrap (v_54 + v_56)) + v_58)) + v_60)).toNat 0 : List Int).drop (min x2.length (List.replicate (IntKind.i64.wrap ((IntKind.i64.wrap ((IntKind.i64.wrap (v_54 + v_56)) + v_58)) + v_60)).toNat 0 : List Int).length)).length)) v_90 h_89 κ w (rowp A_62 ((IntKind.i64.wrap ((IntKind.i64.wrap ((IntKind.i64.wrap (v_54 + v_56)) + v_58)) + v_60)).toNat) 71 1 (eI .u64) (x2.take (min x2.length (List.replicate (IntKind.i64.wrap ((IntKind.i64.wrap ((IntKind.i64.wrap (v_54 + v_56)) + v_58)) + v_60)).toNat 0 : List Int).length) ++ (List.replicate (IntKind.i64.wrap ((IntKind.i64.wrap ((IntKind.i64.wrap (v_54 + v_56)) + v_58)) + v_60)).toNat 0 : List Int).drop (min x2.length (List.replicate (IntKind.i64.wrap ((IntKind.i64.wrap ((IntKind.i64.wrap (v_54 + v_56)) + v_58)) + v_60)).toNat 0 : List Int).length)) :: pt b_2 (blk (Tapi_Trace.obj x0 A_x0ops c_x0ops A_x0blocks c_x0blocks) 58) :: pt b_3 (blk (Tapi_Trace.obj x1 A_x1ops c_x1ops A_x1blocks c_x1blocks) 58) :: pt b_19 (blk (Tapi_Trace.obj v_14.1 Ar12x0ops_15 cr12x0ops_16 Ar12x0blocks_17 cr12x0blocks_18) 58) :: rowp Ar12x0ops_15 cr12x0ops_16 85 6 Tapi_Op.cells v_14.1.ops :: rowp Ar12x0blocks_17 cr12x0blocks_18 95 3 Tapi_Span.cells v_14.1.blocks :: pt b_48 (blk p_49 77) :: pt b_50 (blk p_51 77) :: S) Ar12x0ops_15 cr12x0ops_16 (Sl.lift (fun w ho => (Ow.to (S' := rowp Ar12x0ops_15 cr12x0ops_16 85 6 Tapi_Op.cells v_14.1.ops :: S) ho [4] 8 (by kernel_rfl) (by kernel_rfl))) (Ow.rowSl 0 (Ow.to (S' := rowp Ar12x0ops_15 cr12x0ops_16 85 6 Tapi_Op.cells v_14.1.ops :: S) hs.own [4] 8 (by kernel_rfl) (by kernel_rfl)) rfl)) Ar12x0blocks_17 cr12x0blocks_18 (Sl.lift (fun w ho => (Ow.to (S' := rowp Ar12x0blocks_17 cr12x0blocks_18 95 3 Tapi_Span.cells v_14.1.blocks :: S) ho [5] 8 (by kernel_rfl) (by kernel_rfl))) (Ow.rowSl 0 (Ow.to (S' := rowp Ar12x0blocks_17 cr12x0blocks_18 95 3 Tapi_Span.cells v_14.1.blocks :: S) hs.own [5] 8 (by kernel_rfl) (by kernel_rfl)) rfl)) A_72 c_73 (Sl.lift (fun w ho => (Ow.to (S' := rowp A_62 ((IntKind.i64.wrap ((IntKind.i64.wrap ((IntKind.i64.wrap (v_54 + v_56)) + v_58)) + v_60)).toNat) 71 1 (eI .u64) (x2.take (min x2.length (List.replicate (IntKind.i64.wrap ((IntKind.i64.wrap ((IntKind.i64.wrap (v_54 + v_56)) + v_58)) + v_60)).toNat 0 : List Int).length) ++ (List.replicate (IntKind.i64.wrap ((IntKind.i64.wrap ((IntKind.i64.wrap (v_54 + v_56)) + v_58)) + v_60)).toNat 0 : List Int).drop (min x2.length (List.replicate (IntKind.i64.wrap ((IntKind.i64.wrap ((IntKind.i64.wrap (v_54 + v_56)) + v_58)) + v_60)).toNat 0 : List Int).length)) :: S) ho [0] 8 (by kernel_rfl) (by kernel_rfl))) hx_76) A_82 c_83 (Sl.lift (fun w ho => (Ow.to (S' := rowp A_62 ((IntKind.i64.wrap ((IntKind.i64.wrap ((IntKind.i64.wrap (v_54 + v_56)) + v_58)) + v_60)).toNat) 71 1 (eI .u64) (x2.take (min x2.length (List.replicate (IntKind.i64.wrap ((IntKind.i64.wrap ((IntKind.i64.wrap (v_54 + v_56)) + v_58)) + v_60)).toNat 0 : List Int).length) ++ (List.replicate (IntKind.i64.wrap ((IntKind.i64.wrap ((IntKind.i64.wrap (v_54 + v_56)) + v_58)) + v_60)).toNat 0 : List Int).drop (min x2.length (List.replicate (IntKind.i64.wrap ((IntKind.i64.wrap ((IntKind.i64.wrap (v_54 + v_56)) + v_58)) + v_60)).toNat 0 : List Int).length)) :: S) ho [0] 8 (by kernel_rfl) (by kernel_rfl))) hx_86) hs.own).mono ?_
     rintro _ w ⟨Ar88x0_91, cr88x0_92, rfl, how⟩
     refine ⟨_, _, _, rfl, how, fun a hs => ?_⟩
     refine qpk 5 [3, 4, 7, 8, 9, 12, 13, 14, 15] hs fun a hs => hK87 _ _ ?_
     clear hK87
     refine Vk.seq fun K93 hK93 => ?_
     obtain ⟨C_94, hC_94⟩ := qC hs.own
     refine qdr 11 κ C_94 hs fun w hs hqC_94 => ?_
     have hcl := qO hC_94 hs.own
     refine qdp (fuel := 7) [1, 2, 5, 6] hs hcl hqC_94 fun a hs => ?_
     refine qdn 0 2 ([ci x0.n, C.slc A_x0ops x0.ops.length c_x0ops, C.slc A_x0blocks x0.blocks.length c_x0blocks]) hs hcl hqC_94 hC_94 rfl fun a hs => ?_
     obtain ⟨v_96, h_95, hm⟩ := bind_t hm
     refine qdi 3 7 hs hcl hqC_94 hC_94 rfl h_95 fun a hs => ?_
     obtain ⟨h_97, hm⟩ := ite_t hm
     obtain ⟨A_98, c_99, eA_100, ec_101, hx_102⟩ := Sl.sub hx_76 h_97.2
     refine qdt 4 (.slice A_98 ((cut (cut (x2.take (min x2.length (List.replicate (IntKind.i64.wrap ((IntKind.i64.wrap ((IntKind.i64.wrap (v_54 + v_56)) + v_58)) + v_60)).toNat 0 : List Int).length) ++ (List.replicate (IntKind.i64.wrap ((IntKind.i64.wrap ((IntKind.i64.wrap (v_54 + v_56)) + v_58)) + v_60)).toNat 0 : List Int).drop (min x2.length (List.replicate (IntKind.i64.wrap ((IntKind.i64.wrap ((IntKind.i64.wrap (v_54 + v_56)) + v_58)) + v_60)).toNat 0 : List Int).length)) (0) ((IntKind.i64.wrap (v_68 + v_70)).toNat)) (0) (v_96.toNat)).length) c_99) (op := (.slice 59 (.tmp 102) none (some (.tmp 104)) none)) hs hcl hqC_94 (fun w hw o ho => by rw [hC_94] at hw; exact run_sub (sz := 1) (e := 71) h_97.2 eA_100 ec_101 (Sl.le hx_76) ho (by kernel_rfl) (by kernel_rfl) (by kernel_rfl) rfl ⟨.i64, v_96, by kernel_rfl, h_97.1, rfl⟩ _) fun a hs => ?_
     obtain ⟨v_104, h_103, hm⟩ := bind_t hm
     refine qdi 7 7 hs hcl hqC_94 hC_94 rfl h_103 fun a hs => ?_
     obtain ⟨h_105, hm⟩ := ite_t hm
     obtain ⟨A_106, c_107, eA_108, ec_109, hx_110⟩ := Sl.sub hx_86 h_105.2
     refine qdt 8 (.slice A_106 ((cut (cut (x2.take (min x2.length (List.replicate (IntKind.i64.wrap ((IntKind.i64.wrap ((IntKind.i64.wrap (v_54 + v_56)) + v_58)) + v_60)).toNat 0 : List Int).length) ++ (List.replicate (IntKind.i64.wrap ((IntKind.i64.wrap ((IntKind.i64.wrap (v_54 + v_56)) + v_58)) + v_60)).toNat 0 : List Int).drop (min x2.length (List.replicate (IntKind.i64.wrap ((IntKind.i64.wrap ((IntKind.i64.wrap (v_54 + v_56)) + v_58)) + v_60)).toNat 0 : List Int).length)) ((IntKind.i64.wrap (v_78 + v_80)).toNat) ((x2.take (min x2.length (List.replicate (IntKind.i64.wrap ((IntKind.i64.wrap ((IntKind.i64.wrap (v_54 + v_56)) + v_58)) + v_60)).toNat 0 : List Int).length) ++ (List.replicate (IntKind.i64.wrap ((IntKind.i64.wrap ((IntKind.i64.wrap (v_54 + v_56)) + v_58)) + v_60)).toNat 0 : List Int).drop (min x2.length (List.replicate (IntKind.i64.wrap ((IntKind.i64.wrap ((IntKind.i64.wrap (v_54 + v_56)) + v_58)) + v_60)).toNat 0 : List Int).length)).length)) (0) (v_104.toNat)).length) c_107) (op := (.slice 59 (.tmp 106) none (some (.tmp 108)) none)) hs hcl hqC_94 (fun w hw o ho => by rw [hC_94] at hw; exact run_sub (sz := 1) (e := 71) h_105.2 eA_108 ec_109 (Sl.le hx_86) ho (by kernel_rfl) (by kernel_rfl) (by kernel_rfl) rfl ⟨.i64, v_104, by kernel_rfl, h_105.1, rfl⟩ _) fun a hs => ?_
     obtain ⟨v_113, h_112, hm⟩ := bind_t hm
     refine Vk.dOnly (i := 9) (by kernel_rfl) (Vk.call (some 110) 23 #[.agg (vals [ci x0.n, C.slc A_x0ops x0.ops.length c_x0ops, C.slc A_x0blocks x0.blocks.length c_x0blocks]), .slice A_98 ((cut (cut (x2.take (min x2.length (List.replicate (IntKind.i64.wrap ((IntKind.i64.wrap ((IntKind.i64.wrap (v_54 + v_56)) + v_58)) + v_60)).toNat 0 : List Int).length) ++ (List.replicate (IntKind.i64.wrap ((IntKind.i64.wrap ((IntKind.i64.wrap (v_54 + v_56)) + v_58)) + v_60)).toNat 0 : List Int).drop (min x2.length (List.replicate (IntKind.i64.wrap ((IntKind.i64.wrap ((IntKind.i64.wrap (v_54 + v_56)) + v_58)) + v_60)).toNat 0 : List Int).length)) (0) ((IntKind.i64.wrap (v_68 + v_70)).toNat)) (0) (v_96.toNat)).length) c_99, .slice none 0 0, .slice A_106 ((cut (cut (x2.take (min x2.length (List.replicate (IntKind.i64.wrap ((IntKind.i64.wrap ((IntKind.i64.wrap (v_54 + v_56)) + v_58)) + v_60)).toNat 0 : List Int).length) ++ (List.replicate (IntKind.i64.wrap ((IntKind.i64.wrap ((IntKind.i64.wrap (v_54 + v_56)) + v_58)) + v_60)).toNat 0 : List Int).drop (min x2.length (List.replicate (IntKind.i64.wrap ((IntKind.i64.wrap ((IntKind.i64.wrap (v_54 + v_56)) + v_58)) + v_60)).toNat 0 : List Int).length)) ((IntKind.i64.wrap (v_78 + v_80)).toNat) ((x2.take (min x2.length (List.replicate (IntKind.i64.wrap ((IntKind.i64.wrap ((IntKind.i64.wrap (v_54 + v_56)) + v_58)) + v_60)).toNat 0 : List Int).length) ++ (List.replicate (IntKind.i64.wrap ((IntKind.i64.wrap ((IntKind.i64.wrap (v_54 + v_56)) + v_58)) + v_60)).toNat 0 : List Int).drop (min x2.length (List.replicate (IntKind.i64.wrap ((IntKind.i64.wrap ((IntKind.i64.wrap (v_54 + v_56)) + v_58)) + v_60)).toNat 0 : List Int).length)).length)) (0) (v_104.toNat)).length) c_107, .bool false] hs (by kernel_rfl) (by kernel_rfl) (by kernel_rfl) ?_)
     refine (visorref29_Play.ok k x0 (cut (cut (x2.take (min x2.length (List.replicate (IntKind.i64.wrap ((IntKind.i64.wrap ((IntKind.i64.wrap (v_54 + v_56)) + v_58)) + v_60)).toNat 0 : List Int).length) ++ (List.replicate (IntKind.i64.wrap ((IntKind.i64.wrap ((IntKind.i64.wrap (v_54 + v_56)) + v_58)) + v_60)).toNat 0 : List Int).drop (min x2.length (List.replicate (IntKind.i64.wrap ((IntKind.i64.wrap ((IntKind.i64.wrap (v_54 + v_56)) + v_58)) + v_60)).toNat 0 : List Int).length)) (0) ((IntKind.i64.wrap (v_68 + v_70)).toNat)) (0) (v_96.toNat)) [] (cut (cut (x2.take (min x2.length (List.replicate (IntKind.i64.wrap ((IntKind.i64.wrap ((IntKind.i64.wrap (v_54 + v_56)) + v_58)) + v_60)).toNat 0 : List Int).length) ++ (List.replicate (IntKind.i64.wrap ((IntKind.i64.wrap ((IntKind.i64.wrap (v_54 + v_56)) + v_58)) + v_60)).toNat 0 : List Int).drop (min x2.length (List.replicate (IntKind.i64.wrap ((IntKind.i64.wrap ((IntKind.i64.wrap (v_54 + v_56)) + v_58)) + v_60)).toNat 0 : List Int).length)) ((IntKind.i64.wrap (v_78 + v_80)).toNat) ((x2.take (min x2.length (List.replicate (IntKind.i64.wrap ((IntKind.i64.wrap ((IntKind.i64.wrap (v_54 + v_56)) + v_58)) + v_60)).toNat 0 : List Int).length) ++ (List.replicate (IntKind.i64.wrap ((IntKind.i64.wrap ((IntKind.i64.wrap (v_54 + v_56)) + v_58)) + v_60)).toNat 0 : List Int).drop (min x2.length (List.replicate (IntKind.i64.wrap ((IntKind.i64.wrap ((IntKind.i64.wrap (v_54 + v_56)) + v_58)) + v_60)).toNat 0 : List Int).length)).length)) (0) (v_104.toNat)) false v_113 h_112 κ w (rowp Ar88x0_91 cr88x0_92 71 1 (eI .u64) v_90.1 :: rowp A_62 ((IntKind.i64.wrap ((IntKind.i64.wrap ((IntKind.i64.wrap (v_54 + v_56)) + v_58)) + v_60)).toNat) 71 1 (eI .u64) (x2.take (min x2.length (List.replicate (IntKind.i64.wrap ((IntKind.i64.wrap ((IntKind.i64.wrap (v_54 + v_56)) + v_58)) + v_60)).toNat 0 : List Int).length) ++ (List.replicate (IntKind.i64.wrap ((IntKind.i64.wrap ((IntKind.i64.wrap (v_54 + v_56)) + v_58)) + v_60)).toNat 0 : List Int).drop (min x2.length (List.replicate (IntKind.i64.wrap ((IntKind.i64.wrap ((IntKind.i64.wrap (v_54 + v_56)) + v_58)) + v_60)).toNat 0 : List Int).length)) :: pt b_2 (blk (Tapi_Trace.obj x0 A_x0ops c_x0ops A_x0blocks c_x0blocks) 58) :: pt b_3 (blk (Tapi_Trace.obj x1 A_x1ops c_x1ops A_x1blocks c_x1blocks) 58) :: pt b_19 (blk (Tapi_Trace.obj v_14.1 Ar12x0ops_15 cr12x0ops_16 Ar12x0blocks_17 cr12x0blocks_18) 58) :: rowp Ar12x0ops_15 cr12x0ops_16 85 6 Tapi_Op.cells v_14.1.ops :: rowp Ar12x0blocks_17 cr12x0blocks_18 95 3 Tapi_Span.cells v_14.1.blocks :: pt b_48 (blk p_49 77) :: pt b_50 (blk p_51 77) :: S) A_x0ops c_x0ops hx_x0ops.less.less.less.less.less.less.less.less.less A_x0blocks c_x0blocks hx_x0blocks.less.less.less.less.less.less.less.less.less A_98 c_99 (Sl.lift (fun w ho => (Ow.to (S' := rowp A_62 ((IntKind.i64.wrap ((IntKind.i64.wrap ((IntKind.i64.wrap (v_54 + v_56)) + v_58)) + v_60)).toNat) 71 1 (eI .u64) (x2.take (min x2.length (List.replicate (IntKind.i64.wrap ((IntKind.i64.wrap ((IntKind.i64.wrap (v_54 + v_56)) + v_58)) + v_60)).toNat 0 : List Int).length) ++ (List.replicate (IntKind.i64.wrap ((IntKind.i64.wrap ((IntKind.i64.wrap (v_54 + v_56)) + v_58)) + v_60)).toNat 0 : List Int).drop (min x2.length (List.replicate (IntKind.i64.wrap ((IntKind.i64.wrap ((IntKind.i64.wrap (v_54 + v_56)) + v_58)) + v_60)).toNat 0 : List Int).length)) :: S) ho [1] 9 (by kernel_rfl) (by kernel_rfl))) hx_102) none 0 Sl.nil A_106 c_107 (Sl.lift (fun w ho => (Ow.to (S' := rowp A_62 ((IntKind.i64.wrap ((IntKind.i64.wrap ((IntKind.i64.wrap (v_54 + v_56)) + v_58)) + v_60)).toNat) 71 1 (eI .u64) (x2.take (min x2.length (List.replicate (IntKind.i64.wrap ((IntKind.i64.wrap ((IntKind.i64.wrap (v_54 + v_56)) + v_58)) + v_60)).toNat 0 : List Int).length) ++ (List.replicate (IntKind.i64.wrap ((IntKind.i64.wrap ((IntKind.i64.wrap (v_54 + v_56)) + v_58)) + v_60)).toNat 0 : List Int).drop (min x2.length (List.replicate (IntKind.i64.wrap ((IntKind.i64.wrap ((IntKind.i64.wrap (v_54 + v_56)) + v_58)) + v_60)).toNat 0 : List Int).length)) :: S) ho [1] 9 (by kernel_rfl) (by kernel_rfl))) hx_110) hs.own).mono ?_
     rintro _ w ⟨Ar111x0_114, cr111x0_115, rfl, how⟩
     refine ⟨_, _, _, rfl, how, fun a hs => ?_⟩
     replace hcl := qO hC_94 hs.own.drop
     refine ⟨fun _ => hcl, ?_⟩
     refine qdp (fuel := 0) [10] hs hcl hqC_94 fun a hs => ?_
     replace hs := hs.pick [3, 4, 7, 8, 9, 12, 13, 14, 15, 16] (L' := [(3, pp b_2), (4, pp b_3), (7, pp b_19), (8, vi v_14.2), (9, pp b_48), (12, .slice A_72 ((cut (x2.take (min x2.length (List.replicate (IntKind.i64.wrap ((IntKind.i64.wrap ((IntKind.i64.wrap (v_54 + v_56)) + v_58)) + v_60)).toNat 0 : List Int).length) ++ (List.replicate (IntKind.i64.wrap ((IntKind.i64.wrap ((IntKind.i64.wrap (v_54 + v_56)) + v_58)) + v_60)).toNat 0 : List Int).drop (min x2.length (List.replicate (IntKind.i64.wrap ((IntKind.i64.wrap ((IntKind.i64.wrap (v_54 + v_56)) + v_58)) + v_60)).toNat 0 : List Int).length)) (0) ((IntKind.i64.wrap (v_68 + v_70)).toNat)).length) c_73), (13, .slice A_82 ((cut (x2.take (min x2.length (List.replicate (IntKind.i64.wrap ((IntKind.i64.wrap ((IntKind.i64.wrap (v_54 + v_56)) + v_58)) + v_60)).toNat 0 : List Int).length) ++ (List.replicate (IntKind.i64.wrap ((IntKind.i64.wrap ((IntKind.i64.wrap (v_54 + v_56)) + v_58)) + v_60)).toNat 0 : List Int).drop (min x2.length (List.replicate (IntKind.i64.wrap ((IntKind.i64.wrap ((IntKind.i64.wrap (v_54 + v_56)) + v_58)) + v_60)).toNat 0 : List Int).length)) ((IntKind.i64.wrap (v_78 + v_80)).toNat) ((x2.take (min x2.length (List.replicate (IntKind.i64.wrap ((IntKind.i64.wrap ((IntKind.i64.wrap (v_54 + v_56)) + v_58)) + v_60)).toNat 0 : List Int).length) ++ (List.replicate (IntKind.i64.wrap ((IntKind.i64.wrap ((IntKind.i64.wrap (v_54 + v_56)) + v_58)) + v_60)).toNat 0 : List Int).drop (min x2.length (List.replicate (IntKind.i64.wrap ((IntKind.i64.wrap ((IntKind.i64.wrap (v_54 + v_56)) + v_58)) + v_60)).toNat 0 : List Int).length)).length)).length) c_83), (14, .slice Ar88x0_91 v_90.1.length cr88x0_92), (15, vi v_90.2), (16, .slice Ar111x0_114 v_113.length cr111x0_115)]) (by kernel_rfl)
     refine Vk.dDone (by kernel_rfl) ?_
     refine hK93 _ _ ?_
     clear hK93
     refine Vk.seq fun K116 hK116 => ?_
     obtain ⟨C_117, hC_117⟩ := qC hs.own
     refine qdr 11 κ C_117 hs fun w hs hqC_117 => ?_
     have hcl := qO hC_117 hs.own
     refine qdp (fuel := 7) [1, 2, 5, 6] hs hcl hqC_117 fun a hs => ?_
     refine qdn 0 4 ([ci x1.n, C.slc A_x1ops x1.ops.length c_x1ops, C.slc A_x1blocks x1.blocks.length c_x1blocks]) hs hcl hqC_117 hC_117 rfl fun a hs => ?_
     obtain ⟨v_119, h_118, hm⟩ := bind_t hm
     refine qdi 3 8 hs hcl hqC_117 hC_117 rfl h_118 fun a hs => ?_
     obtain ⟨h_120, hm⟩ := ite_t hm
     obtain ⟨A_121, c_122, eA_123, ec_124, hx_125⟩ := Sl.sub hx_76 h_120.2
     refine qdt 4 (.slice A_121 ((cut (cut (x2.take (min x2.length (List.replicate (IntKind.i64.wrap ((IntKind.i64.wrap ((IntKind.i64.wrap (v_54 + v_56)) + v_58)) + v_60)).toNat 0 : List Int).length) ++ (List.replicate (IntKind.i64.wrap ((IntKind.i64.wrap ((IntKind.i64.wrap (v_54 + v_56)) + v_58)) + v_60)).toNat 0 : List Int).drop (min x2.length (List.replicate (IntKind.i64.wrap ((IntKind.i64.wrap ((IntKind.i64.wrap (v_54 + v_56)) + v_58)) + v_60)).toNat 0 : List Int).length)) (0) ((IntKind.i64.wrap (v_68 + v_70)).toNat)) (v_119.toNat) ((cut (x2.take (min x2.length (List.replicate (IntKind.i64.wrap ((IntKind.i64.wrap ((IntKind.i64.wrap (v_54 + v_56)) + v_58)) + v_60)).toNat 0 : List Int).length) ++ (List.replicate (IntKind.i64.wrap ((IntKind.i64.wrap ((IntKind.i64.wrap (v_54 + v_56)) + v_58)) + v_60)).toNat 0 : List Int).drop (min x2.length (List.replicate (IntKind.i64.wrap ((IntKind.i64.wrap ((IntKind.i64.wrap (v_54 + v_56)) + v_58)) + v_60)).toNat 0 : List Int).length)) (0) ((IntKind.i64.wrap (v_68 + v_70)).toNat)).length)).length) c_122) (op := (.slice 59 (.tmp 112) (some (.tmp 114)) none none)) hs hcl hqC_117 (fun w hw o ho => by rw [hC_117] at hw; exact run_sub (sz := 1) (e := 71) h_120.2 eA_123 ec_124 (Sl.le hx_76) ho (by kernel_rfl) (by kernel_rfl) (by kernel_rfl) ⟨.i64, v_119, by kernel_rfl, h_120.1, rfl⟩ rfl _) fun a hs => ?_
     obtain ⟨v_127, h_126, hm⟩ := bind_t hm
     refine qdi 7 8 hs hcl hqC_117 hC_117 rfl h_126 fun a hs => ?_
     obtain ⟨h_128, hm⟩ := ite_t hm
     obtain ⟨A_129, c_130, eA_131, ec_132, hx_133⟩ := Sl.sub hx_86 h_128.2
     refine qdt 8 (.slice A_129 ((cut (cut (x2.take (min x2.length (List.replicate (IntKind.i64.wrap ((IntKind.i64.wrap ((IntKind.i64.wrap (v_54 + v_56)) + v_58)) + v_60)).toNat 0 : List Int).length) ++ (List.replicate (IntKind.i64.wrap ((IntKind.i64.wrap ((IntKind.i64.wrap (v_54 + v_56)) + v_58)) + v_60)).toNat 0 : List Int).drop (min x2.length (List.replicate (IntKind.i64.wrap ((IntKind.i64.wrap ((IntKind.i64.wrap (v_54 + v_56)) + v_58)) + v_60)).toNat 0 : List Int).length)) ((IntKind.i64.wrap (v_78 + v_80)).toNat) ((x2.take (min x2.length (List.replicate (IntKind.i64.wrap ((IntKind.i64.wrap ((IntKind.i64.wrap (v_54 + v_56)) + v_58)) + v_60)).toNat 0 : List Int).length) ++ (List.replicate (IntKind.i64.wrap ((IntKind.i64.wrap ((IntKind.i64.wrap (v_54 + v_56)) + v_58)) + v_60)).toNat 0 : List Int).drop (min x2.length (List.replicate (IntKind.i64.wrap ((IntKind.i64.wrap ((IntKind.i64.wrap (v_54 + v_56)) + v_58)) + v_60)).toNat 0 : List Int).length)).length)) (v_127.toNat) ((cut (x2.take (min x2.length (List.replicate (IntKind.i64.wrap ((IntKind.i64.wrap ((IntKind.i64.wrap (v_54 + v_56)) + v_58)) + v_60)).toNat 0 : List Int).length) ++ (List.replicate (IntKind.i64.wrap ((IntKind.i64.wrap ((IntKind.i64.wrap (v_54 + v_56)) + v_58)) + v_60)).toNat 0 : List Int).drop (min x2.length (List.replicate (IntKind.i64.wrap ((IntKind.i64.wrap ((IntKind.i64.wrap (v_54 + v_56)) + v_58)) + v_60)).toNat 0 : List Int).length)) ((IntKind.i64.wrap (v_78 + v_80)).toNat) ((x2.take (min x2.length (List.replicate (IntKind.i64.wrap ((IntKind.i64.wrap ((IntKind.i64.wrap (v_54 + v_56)) + v_58)) + v_60)).toNat 0 : List Int).length) ++ (List.replicate (IntKind.i64.wrap ((IntKind.i64.wrap ((IntKind.i64.wrap (v_54 + v_56)) + v_58)) + v_60)).toNat 0 : List Int).drop (min x2.length (List.replicate (IntKind.i64.wrap ((IntKind.i64.wrap ((IntKind.i64.wrap (v_54 + v_56)) + v_58)) + v_60)).toNat 0 : List Int).length)).length)).length)).length) c_130) (op := (.slice 59 (.tmp 116) (some (.tmp 118)) none none)) hs hcl hqC_117 (fun w hw o ho => by rw [hC_117] at hw; exact run_sub (sz := 1) (e := 71) h_128.2 eA_131 ec_132 (Sl.le hx_86) ho (by kernel_rfl) (by kernel_rfl) (by kernel_rfl) ⟨.i64, v_127, by kernel_rfl, h_128.1, rfl⟩ rfl _) fun a hs => ?_
     obtain ⟨v_136, h_135, hm⟩ := bind_t hm
     refine Vk.dOnly (i := 9) (by kernel_rfl) (Vk.call (some 120) 23 #[.agg (vals [ci x1.n, C.slc A_x1ops x1.ops.length c_x1ops, C.slc A_x1blocks x1.blocks.length c_x1blocks]), .slice A_121 ((cut (cut (x2.take (min x2.length (List.replicate (IntKind.i64.wrap ((IntKind.i64.wrap ((IntKind.i64.wrap (v_54 + v_56)) + v_58)) + v_60)).toNat 0 : List Int).length) ++ (List.replicate (IntKind.i64.wrap ((IntKind.i64.wrap ((IntKind.i64.wrap (v_54 + v_56)) + v_58)) + v_60)).toNat 0 : List Int).drop (min x2.length (List.replicate (IntKind.i64.wrap ((IntKind.i64.wrap ((IntKind.i64.wrap (v_54 + v_56)) + v_58)) + v_60)).toNat 0 : List Int).length)) (0) ((IntKind.i64.wrap (v_68 + v_70)).toNat)) (v_119.toNat) ((cut (x2.take (min x2.length (List.replicate (IntKind.i64.wrap ((IntKind.i64.wrap ((IntKind.i64.wrap (v_54 + v_56)) + v_58)) + v_60)).toNat 0 : List Int).length) ++ (List.replicate (IntKind.i64.wrap ((IntKind.i64.wrap ((IntKind.i64.wrap (v_54 + v_56)) + v_58)) + v_60)).toNat 0 : List Int).drop (min x2.length (List.replicate (IntKind.i64.wrap ((IntKind.i64.wrap ((IntKind.i64.wrap (v_54 + v_56)) + v_58)) + v_60)).toNat 0 : List Int).length)) (0) ((IntKind.i64.wrap (v_68 + v_70)).toNat)).length)).length) c_122, .slice none 0 0, .slice A_129 ((cut (cut (x2.take (min x2.length (List.replicate (IntKind.i64.wrap ((IntKind.i64.wrap ((IntKind.i64.wrap (v_54 + v_56)) + v_58)) + v_60)).toNat 0 : List Int).length) ++ (List.replicate (IntKind.i64.wrap ((IntKind.i64.wrap ((IntKind.i64.wrap (v_54 + v_56)) + v_58)) + v_60)).toNat 0 : List Int).drop (min x2.length (List.replicate (IntKind.i64.wrap ((IntKind.i64.wrap ((IntKind.i64.wrap (v_54 + v_56)) + v_58)) + v_60)).toNat 0 : List Int).length)) ((IntKind.i64.wrap (v_78 + v_80)).toNat) ((x2.take (min x2.length (List.replicate (IntKind.i64.wrap ((IntKind.i64.wrap ((IntKind.i64.wrap (v_54 + v_56)) + v_58)) + v_60)).toNat 0 : List Int).length) ++ (List.replicate (IntKind.i64.wrap ((IntKind.i64.wrap ((IntKind.i64.wrap (v_54 + v_56)) + v_58)) + v_60)).toNat 0 : List Int).drop (min x2.length (List.replicate (IntKind.i64.wrap ((IntKind.i64.wrap ((IntKind.i64.wrap (v_54 + v_56)) + v_58)) + v_60)).toNat 0 : List Int).length)).length)) (v_127.toNat) ((cut (x2.take (min x2.length (List.replicate (IntKind.i64.wrap ((IntKind.i64.wrap ((IntKind.i64.wrap (v_54 + v_56)) + v_58)) + v_60)).toNat 0 : List Int).length) ++ (List.replicate (IntKind.i64.wrap ((IntKind.i64.wrap ((IntKind.i64.wrap (v_54 + v_56)) + v_58)) + v_60)).toNat 0 : List Int).drop (min x2.length (List.replicate (IntKind.i64.wrap ((IntKind.i64.wrap ((IntKind.i64.wrap (v_54 + v_56)) + v_58)) + v_60)).toNat 0 : List Int).length)) ((IntKind.i64.wrap (v_78 + v_80)).toNat) ((x2.take (min x2.length (List.replicate (IntKind.i64.wrap ((IntKind.i64.wrap ((IntKind.i64.wrap (v_54 + v_56)) + v_58)) + v_60)).toNat 0 : List Int).length) ++ (List.replicate (IntKind.i64.wrap ((IntKind.i64.wrap ((IntKind.i64.wrap (v_54 + v_56)) + v_58)) + v_60)).toNat 0 : List Int).drop (min x2.length (List.replicate (IntKind.i64.wrap ((IntKind.i64.wrap ((IntKind.i64.wrap (v_54 + v_56)) + v_58)) + v_60)).toNat 0 : List Int).length)).length)).length)).length) c_130, .bool false] hs (by kernel_rfl) (by kernel_rfl) (by kernel_rfl) ?_)
     refine (visorref29_Play.ok k x1 (cut (cut (x2.take (min x2.length (List.replicate (IntKind.i64.wrap ((IntKind.i64.wrap ((IntKind.i64.wrap (v_54 + v_56)) + v_58)) + v_60)).toNat 0 : List Int).length) ++ (List.replicate (IntKind.i64.wrap ((IntKind.i64.wrap ((IntKind.i64.wrap (v_54 + v_56)) + v_58)) + v_60)).toNat 0 : List Int).drop (min x2.length (List.replicate (IntKind.i64.wrap ((IntKind.i64.wrap ((IntKind.i64.wrap (v_54 + v_56)) + v_58)) + v_60)).toNat 0 : List Int).length)) (0) ((IntKind.i64.wrap (v_68 + v_70)).toNat)) (v_119.toNat) ((cut (x2.take (min x2.length (List.replicate (IntKind.i64.wrap ((IntKind.i64.wrap ((IntKind.i64.wrap (v_54 + v_56)) + v_58)) + v_60)).toNat 0 : List Int).length) ++ (List.replicate (IntKind.i64.wrap ((IntKind.i64.wrap ((IntKind.i64.wrap (v_54 + v_56)) + v_58)) + v_60)).toNat 0 : List Int).drop (min x2.length (List.replicate (IntKind.i64.wrap ((IntKind.i64.wrap ((IntKind.i64.wrap (v_54 + v_56)) + v_58)) + v_60)).toNat 0 : List Int).length)) (0) ((IntKind.i64.wrap (v_68 + v_70)).toNat)).length)) [] (cut (cut (x2.take (min x2.length (List.replicate (IntKind.i64.wrap ((IntKind.i64.wrap ((IntKind.i64.wrap (v_54 + v_56)) + v_58)) + v_60)).toNat 0 : List Int).length) ++ (List.replicate (IntKind.i64.wrap ((IntKind.i64.wrap ((IntKind.i64.wrap (v_54 + v_56)) + v_58)) + v_60)).toNat 0 : List Int).drop (min x2.length (List.replicate (IntKind.i64.wrap ((IntKind.i64.wrap ((IntKind.i64.wrap (v_54 + v_56)) + v_58)) + v_60)).toNat 0 : List Int).length)) ((IntKind.i64.wrap (v_78 + v_80)).toNat) ((x2.take (min x2.length (List.replicate (IntKind.i64.wrap ((IntKind.i64.wrap ((IntKind.i64.wrap (v_54 + v_56)) + v_58)) + v_60)).toNat 0 : List Int).length) ++ (List.replicate (IntKind.i64.wrap ((IntKind.i64.wrap ((IntKind.i64.wrap (v_54 + v_56)) + v_58)) + v_60)).toNat 0 : List Int).drop (min x2.length (List.replicate (IntKind.i64.wrap ((IntKind.i64.wrap ((IntKind.i64.wrap (v_54 + v_56)) + v_58)) + v_60)).toNat 0 : List Int).length)).length)) (v_127.toNat) ((cut (x2.take (min x2.length (List.replicate (IntKind.i64.wrap ((IntKind.i64.wrap ((IntKind.i64.wrap (v_54 + v_56)) + v_58)) + v_60)).toNat 0 : List Int).length) ++ (List.replicate (IntKind.i64.wrap ((IntKind.i64.wrap ((IntKind.i64.wrap (v_54 + v_56)) + v_58)) + v_60)).toNat 0 : List Int).drop (min x2.length (List.replicate (IntKind.i64.wrap ((IntKind.i64.wrap ((IntKind.i64.wrap (v_54 + v_56)) + v_58)) + v_60)).toNat 0 : List Int).length)) ((IntKind.i64.wrap (v_78 + v_80)).toNat) ((x2.take (min x2.length (List.replicate (IntKind.i64.wrap ((IntKind.i64.wrap ((IntKind.i64.wrap (v_54 + v_56)) + v_58)) + v_60)).toNat 0 : List Int).length) ++ (List.replicate (IntKind.i64.wrap ((IntKind.i64.wrap ((IntKind.i64.wrap (v_54 + v_56)) + v_58)) + v_60)).toNat 0 : List Int).drop (min x2.length (List.replicate (IntKind.i64.wrap ((IntKind.i64.wrap ((IntKind.i64.wrap (v_54 + v_56)) + v_58)) + v_60)).toNat 0 : List Int).length)).length)).length)) false v_136 h_135 κ w (rowp Ar111x0_114 cr111x0_115 71 1 (eI .u64) v_113 :: rowp Ar88x0_91 cr88x0_92 71 1 (eI .u64) v_90.1 :: rowp A_62 ((IntKind.i64.wrap ((IntKind.i64.wrap ((IntKind.i64.wrap (v_54 + v_56)) + v_58)) + v_60)).toNat) 71 1 (eI .u64) (x2.take (min x2.length (List.replicate (IntKind.i64.wrap ((IntKind.i64.wrap ((IntKind.i64.wrap (v_54 + v_56)) + v_58)) + v_60)).toNat 0 : List Int).length) ++ (List.replicate (IntKind.i64.wrap ((IntKind.i64.wrap ((IntKind.i64.wrap (v_54 + v_56)) + v_58)) + v_60)).toNat 0 : List Int).drop (min x2.length (List.replicate (IntKind.i64.wrap ((IntKind.i64.wrap ((IntKind.i64.wrap (v_54 + v_56)) + v_58)) + v_60)).toNat 0 : List Int).length)) :: pt b_2 (blk (Tapi_Trace.obj x0 A_x0ops c_x0ops A_x0blocks c_x0blocks) 58) :: pt b_3 (blk (Tapi_Trace.obj x1 A_x1ops c_x1ops A_x1blocks c_x1blocks) 58) :: pt b_19 (blk (Tapi_Trace.obj v_14.1 Ar12x0ops_15 cr12x0ops_16 Ar12x0blocks_17 cr12x0blocks_18) 58) :: rowp Ar12x0ops_15 cr12x0ops_16 85 6 Tapi_Op.cells v_14.1.ops :: rowp Ar12x0blocks_17 cr12x0blocks_18 95 3 Tapi_Span.cells v_14.1.blocks :: pt b_48 (blk p_49 77) :: pt b_50 (blk p_51 77) :: S) A_x1ops c_x1ops hx_x1ops.less.less.less.less.less.less.less.less.less.less A_x1blocks c_x1blocks hx_x1blocks.less.less.less.less.less.less.less.less.less.less A_121 c_122 (Sl.lift (fun w ho => (Ow.to (S' := rowp A_62 ((IntKind.i64.wrap ((IntKind.i64.wrap ((IntKind.i64.wrap (v_54 + v_56)) + v_58)) + v_60)).toNat) 71 1 (eI .u64) (x2.take (min x2.length (List.replicate (IntKind.i64.wrap ((IntKind.i64.wrap ((IntKind.i64.wrap (v_54 + v_56)) + v_58)) + v_60)).toNat 0 : List Int).length) ++ (List.replicate (IntKind.i64.wrap ((IntKind.i64.wrap ((IntKind.i64.wrap (v_54 + v_56)) + v_58)) + v_60)).toNat 0 : List Int).drop (min x2.length (List.replicate (IntKind.i64.wrap ((IntKind.i64.wrap ((IntKind.i64.wrap (v_54 + v_56)) + v_58)) + v_60)).toNat 0 : List Int).length)) :: S) ho [2] 10 (by kernel_rfl) (by kernel_rfl))) hx_125) none 0 Sl.nil A_129 c_130 (Sl.lift (fun w ho => (Ow.to (S' := rowp A_62 ((IntKind.i64.wrap ((IntKind.i64.wrap ((IntKind.i64.wrap (v_54 + v_56)) + v_58)) + v_60)).toNat) 71 1 (eI .u64) (x2.take (min x2.length (List.replicate (IntKind.i64.wrap ((IntKind.i64.wrap ((IntKind.i64.wrap (v_54 + v_56)) + v_58)) + v_60)).toNat 0 : List Int).length) ++ (List.replicate (IntKind.i64.wrap ((IntKind.i64.wrap ((IntKind.i64.wrap (v_54 + v_56)) + v_58)) + v_60)).toNat 0 : List Int).drop (min x2.length (List.replicate (IntKind.i64.wrap ((IntKind.i64.wrap ((IntKind.i64.wrap (v_54 + v_56)) + v_58)) + v_60)).toNat 0 : List Int).length)) :: S) ho [2] 10 (by kernel_rfl) (by kernel_rfl))) hx_133) hs.own).mono ?_
     rintro _ w ⟨Ar134x0_137, cr134x0_138, rfl, how⟩
     refine ⟨_, _, _, rfl, how, fun a hs => ?_⟩
     replace hcl := qO hC_117 hs.own.drop
     refine ⟨fun _ => hcl, ?_⟩
     refine qdp (fuel := 0) [10] hs hcl hqC_117 fun a hs => ?_
     replace hs := hs.pick [3, 4, 7, 8, 14, 15, 16, 17] (L' := [(3, pp b_2), (4, pp b_3), (7, pp b_19), (8, vi v_14.2), (14, .slice Ar88x0_91 v_90.1.length cr88x0_92), (15, vi v_90.2), (16, .slice Ar111x0_114 v_113.length cr111x0_115), (17, .slice Ar134x0_137 v_136.length cr134x0_138)]) (by kernel_rfl)
     refine Vk.dDone (by kernel_rfl) ?_
     refine hK116 _ _ ?_
     clear hK116
     refine Vk.seq fun K139 hK139 => ?_
     have hj139 : ∀ (p_154 : Bool), visorlaw29_ReplayJoins.j4 k p_154 = some r → ∀ (a : Act) (w : World), St 154 a w κ [(6, .bool p_154)] (S) → K139 a w := by
      intro p_154 hm a w hs
      unfold visorlaw29_ReplayJoins.j4 at hm
      refine hK139 _ _ ?_
      refine wp_ret ?_
      exact qr1 (.bool p_154) hs rfl hRR (by cases hm; exact ⟨rfl, hs.own⟩)
     refine Vk.region ?_
     refine qpu 3 hs fun a hs => ?_
     refine qsc 123 3 hs fun a hs => ?_
     refine qpu 1 hs fun a hs => ?_
     rcases Bool.eq_false_or_eq_true ((v_14.2 == 0) && (v_90.2 == 0)) with hb | hb
     ·replace hm := bif_t hm hb
      replace hs := hs.known (t := 127) hb (by kernel_rfl)
      refine qln 6 ([ci v_14.1.n, C.slc Ar12x0ops_15 v_14.1.ops.length cr12x0ops_16, C.slc Ar12x0blocks_17 v_14.1.blocks.length cr12x0blocks_18]) hs rfl fun a hs => ?_
      obtain ⟨v_143, h_142, hm⟩ := bind_t hm
      refine qcl (visorref18_Right.ok _ _ _ h_142 _ _ (rowp Ar134x0_137 cr134x0_138 71 1 (eI .u64) v_136 :: rowp Ar111x0_114 cr111x0_115 71 1 (eI .u64) v_113 :: rowp Ar88x0_91 cr88x0_92 71 1 (eI .u64) v_90.1 :: rowp A_62 ((IntKind.i64.wrap ((IntKind.i64.wrap ((IntKind.i64.wrap (v_54 + v_56)) + v_58)) + v_60)).toNat) 71 1 (eI .u64) (x2.take (min x2.length (List.replicate (IntKind.i64.wrap ((IntKind.i64.wrap ((IntKind.i64.wrap (v_54 + v_56)) + v_58)) + v_60)).toNat 0 : List Int).length) ++ (List.replicate (IntKind.i64.wrap ((IntKind.i64.wrap ((IntKind.i64.wrap (v_54 + v_56)) + v_58)) + v_60)).toNat 0 : List Int).drop (min x2.length (List.replicate (IntKind.i64.wrap ((IntKind.i64.wrap ((IntKind.i64.wrap (v_54 + v_56)) + v_58)) + v_60)).toNat 0 : List Int).length)) :: pt b_2 (blk (Tapi_Trace.obj x0 A_x0ops c_x0ops A_x0blocks c_x0blocks) 58) :: pt b_3 (blk (Tapi_Trace.obj x1 A_x1ops c_x1ops A_x1blocks c_x1blocks) 58) :: pt b_19 (blk (Tapi_Trace.obj v_14.1 Ar12x0ops_15 cr12x0ops_16 Ar12x0blocks_17 cr12x0blocks_18) 58) :: rowp Ar12x0ops_15 cr12x0ops_16 85 6 Tapi_Op.cells v_14.1.ops :: rowp Ar12x0blocks_17 cr12x0blocks_18 95 3 Tapi_Span.cells v_14.1.blocks :: pt b_48 (blk p_49 77) :: pt b_50 (blk p_51 77) :: S) Ar12x0ops_15 cr12x0ops_16 (Sl.lift (fun w ho => (Ow.to (S' := rowp Ar12x0ops_15 cr12x0ops_16 85 6 Tapi_Op.cells v_14.1.ops :: S) ho [7] 11 (by kernel_rfl) (by kernel_rfl))) (Ow.rowSl 0 (Ow.to (S' := rowp Ar12x0ops_15 cr12x0ops_16 85 6 Tapi_Op.cells v_14.1.ops :: S) hs.own [7] 11 (by kernel_rfl) (by kernel_rfl)) rfl)) Ar12x0blocks_17 cr12x0blocks_18 (Sl.lift (fun w ho => (Ow.to (S' := rowp Ar12x0blocks_17 cr12x0blocks_18 95 3 Tapi_Span.cells v_14.1.blocks :: S) ho [8] 11 (by kernel_rfl) (by kernel_rfl))) (Ow.rowSl 0 (Ow.to (S' := rowp Ar12x0blocks_17 cr12x0blocks_18 95 3 Tapi_Span.cells v_14.1.blocks :: S) hs.own [8] 11 (by kernel_rfl) (by kernel_rfl)) rfl)) hs.own) hs fun w a hs => ?_
      refine qpu 2 hs fun a hs => ?_
      suffices hj_144 : ∀ a, St 154 a w κ [(3, pp b_2), (4, pp b_3), (7, pp b_19), (8, vi v_14.2), (14, .slice Ar88x0_91 v_90.1.length cr88x0_92), (15, vi v_90.2), (16, .slice Ar111x0_114 v_113.length cr111x0_115), (17, .slice Ar134x0_137 v_136.length cr134x0_138), (121, vi v_14.2), (122, .bool (v_14.2 == 0)), (123, .bool (v_14.2 == 0)), (126, .bool ((v_14.2 == 0) && (v_90.2 == 0))), (127, .bool true), (128, .agg (vals [ci v_14.1.n, C.slc Ar12x0ops_15 v_14.1.ops.length cr12x0ops_16, C.slc Ar12x0blocks_17 v_14.1.blocks.length cr12x0blocks_18])), (129, .bool v_143), (130, .bool v_143), (131, .bool v_143), (143, .bool (v_143 && (((v_14.1.blocks.length : Nat) : Int) == (IntKind.i64.wrap (((x0.blocks.length : Nat) : Int) + ((x1.blocks.length : Nat) : Int))))))] (rowp Ar134x0_137 cr134x0_138 71 1 (eI .u64) v_136 :: rowp Ar111x0_114 cr111x0_115 71 1 (eI .u64) v_113 :: rowp Ar88x0_91 cr88x0_92 71 1 (eI .u64) v_90.1 :: rowp A_62 ((IntKind.i64.wrap ((IntKind.i64.wrap ((IntKind.i64.wrap (v_54 + v_56)) + v_58)) + v_60)).toNat) 71 1 (eI .u64) (x2.take (min x2.length (List.replicate (IntKind.i64.wrap ((IntKind.i64.wrap ((IntKind.i64.wrap (v_54 + v_56)) + v_58)) + v_60)).toNat 0 : List Int).length) ++ (List.replicate (IntKind.i64.wrap ((IntKind.i64.wrap ((IntKind.i64.wrap (v_54 + v_56)) + v_58)) + v_60)).toNat 0 : List Int).drop (min x2.length (List.replicate (IntKind.i64.wrap ((IntKind.i64.wrap ((IntKind.i64.wrap (v_54 + v_56)) + v_58)) + v_60)).toNat 0 : List Int).length)) :: pt b_2 (blk (Tapi_Trace.obj x0 A_x0ops c_x0ops A_x0blocks c_x0blocks) 58) :: pt b_3 (blk (Tapi_Trace.obj x1 A_x1ops c_x1ops A_x1blocks c_x1blocks) 58) :: pt b_19 (blk (Tapi_Trace.obj v_14.1 Ar12x0ops_15 cr12x0ops_16 Ar12x0blocks_17 cr12x0blocks_18) 58) :: rowp Ar12x0ops_15 cr12x0ops_16 85 6 Tapi_Op.cells v_14.1.ops :: rowp Ar12x0blocks_17 cr12x0blocks_18 95 3 Tapi_Span.cells v_14.1.blocks :: pt b_48 (blk p_49 77) :: pt b_50 (blk p_51 77) :: S) → wpFrom Try.prog _ _ 23 a w by
       rcases Bool.eq_false_or_eq_true (v_143) with hb | hb
       ·replace hs := hs.known (t := 131) hb (by kernel_rfl)
        refine qpu 1 hs fun a hs => ?_
        refine qld 6 (C.slc Ar12x0blocks_17 v_14.1.blocks.length cr12x0blocks_18) hs rfl fun a hs => ?_
        refine qpu 2 hs fun a hs => ?_
        refine qld 4 (C.slc A_x0blocks x0.blocks.length c_x0blocks) hs rfl fun a hs => ?_
        refine qpu 2 hs fun a hs => ?_
        refine qld 5 (C.slc A_x1blocks x1.blocks.length c_x1blocks) hs rfl fun a hs => ?_
        refine qpu 4 hs fun a hs => ?_
        have hq := hs.pick [3, 4, 7, 8, 14, 15, 16, 17, 121, 122, 123, 126, 127, 128, 129, 130, 131, 143] (L' := [(3, pp b_2), (4, pp b_3), (7, pp b_19), (8, vi v_14.2), (14, .slice Ar88x0_91 v_90.1.length cr88x0_92), (15, vi v_90.2), (16, .slice Ar111x0_114 v_113.length cr111x0_115), (17, .slice Ar134x0_137 v_136.length cr134x0_138), (121, vi v_14.2), (122, .bool (v_14.2 == 0)), (123, .bool (v_14.2 == 0)), (126, .bool ((v_14.2 == 0) && (v_90.2 == 0))), (127, .bool true), (128, .agg (vals [ci v_14.1.n, C.slc Ar12x0ops_15 v_14.1.ops.length cr12x0ops_16, C.slc Ar12x0blocks_17 v_14.1.blocks.length cr12x0blocks_18])), (129, .bool v_143), (130, .bool v_143), (131, .bool true), (143, .bool (((v_14.1.blocks.length : Nat) : Int) == (IntKind.i64.wrap (((x0.blocks.length : Nat) : Int) + ((x1.blocks.length : Nat) : Int)))))]) (by kernel_rfl)
        exact hj_144 _ (hq.conv (by first | (rw [hb] <;> rfl) | rfl))
       ·replace hs := hs.known (t := 131) hb (by kernel_rfl)
        refine qpu 12 hs fun a hs => ?_
        have hq := hs.pick [3, 4, 7, 8, 14, 15, 16, 17, 121, 122, 123, 126, 127, 128, 129, 130, 131, 143] (L' := [(3, pp b_2), (4, pp b_3), (7, pp b_19), (8, vi v_14.2), (14, .slice Ar88x0_91 v_90.1.length cr88x0_92), (15, vi v_90.2), (16, .slice Ar111x0_114 v_113.length cr111x0_115), (17, .slice Ar134x0_137 v_136.length cr134x0_138), (121, vi v_14.2), (122, .bool (v_14.2 == 0)), (123, .bool (v_14.2 == 0)), (126, .bool ((v_14.2 == 0) && (v_90.2 == 0))), (127, .bool true), (128, .agg (vals [ci v_14.1.n, C.slc Ar12x0ops_15 v_14.1.ops.length cr12x0ops_16, C.slc Ar12x0blocks_17 v_14.1.blocks.length cr12x0blocks_18])), (129, .bool v_143), (130, .bool v_143), (131, .bool false), (143, .bool false)]) (by kernel_rfl)
        exact hj_144 _ (hq.conv (by first | (rw [hb] <;> rfl) | rfl))
      intro a hs
      refine qpu 1 hs fun a hs => ?_
      rcases Bool.eq_false_or_eq_true (v_143 && (((v_14.1.blocks.length : Nat) : Int) == (IntKind.i64.wrap (((x0.blocks.length : Nat) : Int) + ((x1.blocks.length : Nat) : Int))))) with hb | hb
      ·replace hm := bif_t hm hb
       replace hs := hs.known (t := 144) hb (by kernel_rfl)
       refine qpu 3 hs fun a hs => ?_
       obtain ⟨h_145, hm⟩ := ite_t hm
       refine Vk.step (Vk.appendOp (x := (.tmp 146)) (y := (.tmp 147)) (e := 71) (t := 59) (by_ := 8) (sz := 1) (enc := (eI .u64)) (A := Ar111x0_114) (cap := cr111x0_115) (xs := v_113) (ys := v_136) (B := Ar134x0_137) (c2 := cr134x0_138) 1 (some 148) hs (by kernel_rfl) (by kernel_rfl) (by kernel_rfl) (by kernel_rfl) rfl (Sl.lift (fun w ho => (Ow.to (S' := rowp Ar134x0_137 cr134x0_138 71 1 (eI .u64) v_136 :: S) ho [0] 11 (by kernel_rfl) (by kernel_rfl))) (Ow.rowSl 0 (Ow.to (S' := rowp Ar134x0_137 cr134x0_138 71 1 (eI .u64) v_136 :: S) hs.own [0] 11 (by kernel_rfl) (by kernel_rfl)) rfl)) (by kernel_rfl) (by kernel_rfl) (by decide) (by decide) h_145 fun A_146 c_147 w a hs => ?_)
       obtain ⟨v_150, h_149, hm⟩ := bind_t hm
       refine qcl (visorref29_Same.ok _ _ _ _ h_149 _ _ (rowp Ar134x0_137 cr134x0_138 71 1 (eI .u64) v_136 :: rowp A_146 c_147 71 1 (eI .u64) (v_113 ++ v_136) :: rowp Ar88x0_91 cr88x0_92 71 1 (eI .u64) v_90.1 :: rowp A_62 ((IntKind.i64.wrap ((IntKind.i64.wrap ((IntKind.i64.wrap (v_54 + v_56)) + v_58)) + v_60)).toNat) 71 1 (eI .u64) (x2.take (min x2.length (List.replicate (IntKind.i64.wrap ((IntKind.i64.wrap ((IntKind.i64.wrap (v_54 + v_56)) + v_58)) + v_60)).toNat 0 : List Int).length) ++ (List.replicate (IntKind.i64.wrap ((IntKind.i64.wrap ((IntKind.i64.wrap (v_54 + v_56)) + v_58)) + v_60)).toNat 0 : List Int).drop (min x2.length (List.replicate (IntKind.i64.wrap ((IntKind.i64.wrap ((IntKind.i64.wrap (v_54 + v_56)) + v_58)) + v_60)).toNat 0 : List Int).length)) :: pt b_2 (blk (Tapi_Trace.obj x0 A_x0ops c_x0ops A_x0blocks c_x0blocks) 58) :: pt b_3 (blk (Tapi_Trace.obj x1 A_x1ops c_x1ops A_x1blocks c_x1blocks) 58) :: pt b_19 (blk (Tapi_Trace.obj v_14.1 Ar12x0ops_15 cr12x0ops_16 Ar12x0blocks_17 cr12x0blocks_18) 58) :: rowp Ar12x0ops_15 cr12x0ops_16 85 6 Tapi_Op.cells v_14.1.ops :: rowp Ar12x0blocks_17 cr12x0blocks_18 95 3 Tapi_Span.cells v_14.1.blocks :: pt b_48 (blk p_49 77) :: pt b_50 (blk p_51 77) :: S) Ar88x0_91 cr88x0_92 (Sl.lift (fun w ho => (Ow.to (S' := rowp Ar88x0_91 cr88x0_92 71 1 (eI .u64) v_90.1 :: S) ho [2] 11 (by kernel_rfl) (by kernel_rfl))) (Ow.rowSl 0 (Ow.to (S' := rowp Ar88x0_91 cr88x0_92 71 1 (eI .u64) v_90.1 :: S) hs.own [2] 11 (by kernel_rfl) (by kernel_rfl)) rfl)) A_146 c_147 (Sl.lift (fun w ho => (Ow.to (S' := rowp A_146 c_147 71 1 (eI .u64) (v_113 ++ v_136) :: S) ho [1] 11 (by kernel_rfl) (by kernel_rfl))) (Ow.rowSl 0 (Ow.to (S' := rowp A_146 c_147 71 1 (eI .u64) (v_113 ++ v_136) :: S) hs.own [1] 11 (by kernel_rfl) (by kernel_rfl)) rfl)) hs.own) hs fun w a hs => ?_
       refine qpu 2 hs fun a hs => ?_
       rcases Bool.eq_false_or_eq_true (v_150) with hb | hb
       ·replace hm := bif_t hm hb
        replace hs := hs.known (t := 151) hb (by kernel_rfl)
        obtain ⟨v_153, h_152, hm⟩ := bind_t hm
        refine qcl (visorlaw29_awake.ok _ _ h_152 _ _ (rowp Ar134x0_137 cr134x0_138 71 1 (eI .u64) v_136 :: rowp A_146 c_147 71 1 (eI .u64) (v_113 ++ v_136) :: rowp Ar88x0_91 cr88x0_92 71 1 (eI .u64) v_90.1 :: rowp A_62 ((IntKind.i64.wrap ((IntKind.i64.wrap ((IntKind.i64.wrap (v_54 + v_56)) + v_58)) + v_60)).toNat) 71 1 (eI .u64) (x2.take (min x2.length (List.replicate (IntKind.i64.wrap ((IntKind.i64.wrap ((IntKind.i64.wrap (v_54 + v_56)) + v_58)) + v_60)).toNat 0 : List Int).length) ++ (List.replicate (IntKind.i64.wrap ((IntKind.i64.wrap ((IntKind.i64.wrap (v_54 + v_56)) + v_58)) + v_60)).toNat 0 : List Int).drop (min x2.length (List.replicate (IntKind.i64.wrap ((IntKind.i64.wrap ((IntKind.i64.wrap (v_54 + v_56)) + v_58)) + v_60)).toNat 0 : List Int).length)) :: pt b_2 (blk (Tapi_Trace.obj x0 A_x0ops c_x0ops A_x0blocks c_x0blocks) 58) :: pt b_3 (blk (Tapi_Trace.obj x1 A_x1ops c_x1ops A_x1blocks c_x1blocks) 58) :: pt b_19 (blk (Tapi_Trace.obj v_14.1 Ar12x0ops_15 cr12x0ops_16 Ar12x0blocks_17 cr12x0blocks_18) 58) :: rowp Ar12x0ops_15 cr12x0ops_16 85 6 Tapi_Op.cells v_14.1.ops :: rowp Ar12x0blocks_17 cr12x0blocks_18 95 3 Tapi_Span.cells v_14.1.blocks :: pt b_48 (blk p_49 77) :: pt b_50 (blk p_51 77) :: S) hs.own) hs fun w a hs => ?_
        refine qpe 2 [(6, .bool v_153)] hs fun a hs => ?_
        exact hj139 v_153 hm _ _ (hs.go [6] [] 11 (by kernel_rfl) (by kernel_rfl) (by kernel_rfl))
       ·replace hm := bif_f hm hb
        replace hs := hs.known (t := 151) hb (by kernel_rfl)
        refine qpe 3 [(6, .bool false)] hs fun a hs => ?_
        exact hj139 false hm _ _ (hs.go [6] [] 11 (by kernel_rfl) (by kernel_rfl) (by kernel_rfl))
      ·replace hm := bif_f hm hb
       replace hs := hs.known (t := 144) hb (by kernel_rfl)
       refine qpe 10 [(6, .bool false)] hs fun a hs => ?_
       exact hj139 false hm _ _ (hs.go [6] [] 11 (by kernel_rfl) (by kernel_rfl) (by kernel_rfl))
     ·replace hm := bif_f hm hb
      replace hs := hs.known (t := 127) hb (by kernel_rfl)
      refine qpe 27 [(6, .bool false)] hs fun a hs => ?_
      exact hj139 false hm _ _ (hs.go [6] [] 11 (by kernel_rfl) (by kernel_rfl) (by kernel_rfl))
    obtain ⟨C_37, hC_37⟩ := qC hs.own
    refine qdr 7 κ C_37 hs fun w hs hqC_37 => ?_
    have hcl := qO hC_37 hs.own
    refine qdn 0 0 ([ci x0.n, C.slc A_x0ops x0.ops.length c_x0ops, C.slc A_x0blocks x0.blocks.length c_x0blocks]) hs hcl hqC_37 hC_37 rfl fun a hs => ?_
    refine qdn 2 1 ([ci x1.n, C.slc A_x1ops x1.ops.length c_x1ops, C.slc A_x1blocks x1.blocks.length c_x1blocks]) hs hcl hqC_37 hC_37 rfl fun a hs => ?_
    refine Vk.dMany3 (i0 := 1) (i1 := 4) (i2 := 5) (by kernel_rfl) ?_ ?_ ?_
    ·exact by
      obtain ⟨v_40, h_39, hm⟩ := bind_t hm
      refine qco (visorref18_Tally.ok _ _ _ h_39 _ _ (pt b_2 (blk (Tapi_Trace.obj x0 A_x0ops c_x0ops A_x0blocks c_x0blocks) 58) :: pt b_3 (blk (Tapi_Trace.obj x1 A_x1ops c_x1ops A_x1blocks c_x1blocks) 58) :: pt b_19 (blk (Tapi_Trace.obj v_14.1 Ar12x0ops_15 cr12x0ops_16 Ar12x0blocks_17 cr12x0blocks_18) 58) :: rowp Ar12x0ops_15 cr12x0ops_16 85 6 Tapi_Op.cells v_14.1.ops :: rowp Ar12x0blocks_17 cr12x0blocks_18 95 3 Tapi_Span.cells v_14.1.blocks :: S) A_x0ops c_x0ops hx_x0ops.less.less.less.less.less A_x0blocks c_x0blocks hx_x0blocks.less.less.less.less.less hs.own) hs fun w a hs => ?_
      replace hcl := qO hC_37 hs.own
      refine ⟨fun _ => hcl, ?_⟩
      refine Vk.dMany3 (i0 := 3) (i1 := 4) (i2 := 5) (by kernel_rfl) ?_ ?_ ?_
      ·exact by
        obtain ⟨v_43, h_42, hm⟩ := bind_t hm
        refine qco (visorref18_Tally.ok _ _ _ h_42 _ _ (pt b_2 (blk (Tapi_Trace.obj x0 A_x0ops c_x0ops A_x0blocks c_x0blocks) 58) :: pt b_3 (blk (Tapi_Trace.obj x1 A_x1ops c_x1ops A_x1blocks c_x1blocks) 58) :: pt b_19 (blk (Tapi_Trace.obj v_14.1 Ar12x0ops_15 cr12x0ops_16 Ar12x0blocks_17 cr12x0blocks_18) 58) :: rowp Ar12x0ops_15 cr12x0ops_16 85 6 Tapi_Op.cells v_14.1.ops :: rowp Ar12x0blocks_17 cr12x0blocks_18 95 3 Tapi_Span.cells v_14.1.blocks :: S) A_x1ops c_x1ops hx_x1ops.less.less.less.less.less A_x1blocks c_x1blocks hx_x1blocks.less.less.less.less.less hs.own) hs fun w a hs => ?_
        replace hcl := qO hC_37 hs.own
        refine ⟨fun _ => hcl, ?_⟩
        refine Vk.dMany2 (i0 := 4) (i1 := 5) (by kernel_rfl) ?_ ?_
        ·exact by
          refine Vk.alloc 9 77 [ci 0, ci 0, ci 0, ci 0, ci 0, ci 0, ci 0, ci 0, ci 0, ci 0, ci 0, ci 0, ci 0] hs (by kernel_rfl) (by kernel_rfl) (by kernel_rfl) fun b_44 w a hs => ?_
          replace hcl := qO hC_37 hs.own.drop
          refine ⟨fun _ => hcl, ?_⟩
          refine Vk.dOnly (i := 5) (by kernel_rfl) (Vk.alloc 10 77 [ci 0, ci 0, ci 0, ci 0, ci 0, ci 0, ci 0, ci 0, ci 0, ci 0, ci 0, ci 0, ci 0] hs (by kernel_rfl) (by kernel_rfl) (by kernel_rfl) fun b_45 w a hs => ?_)
          replace hcl := qO hC_37 hs.own.f1.drop.drop
          refine ⟨fun _ => hcl, ?_⟩
          obtain ⟨h_46, hm⟩ := ite_t hm
          refine qsA 6 1 v_40 hs rfl h_46 rfl fun a w hs => ?_
          replace hcl := qO hC_37 hs.own.f1.drop.drop
          refine ⟨fun _ => hcl, ?_⟩
          obtain ⟨h_47, hm⟩ := ite_t hm
          refine qsA 7 0 v_43 hs rfl h_47 rfl fun a w hs => ?_
          refine ⟨fun h => absurd h (by decide), ?_⟩
          replace hs := hs.pick [2, 3, 4, 7, 8, 9, 10] (L' := [(2, .slice A_x2 x2.length c_x2), (3, pp b_2), (4, pp b_3), (7, pp b_19), (8, vi v_14.2), (9, pp b_44), (10, pp b_45)]) (by kernel_rfl)
          refine Vk.dDone (by kernel_rfl) ?_
          exact hj36 v_40 v_43 hm b_44 b_45 _ _ (hs.go [2, 3, 4, 7, 8, 9, 10] [2, 3, 4, 5, 6, 1, 0] 7 (by kernel_rfl) (by kernel_rfl) (by kernel_rfl))
        ·exact by
          refine Vk.alloc 10 77 [ci 0, ci 0, ci 0, ci 0, ci 0, ci 0, ci 0, ci 0, ci 0, ci 0, ci 0, ci 0, ci 0] hs (by kernel_rfl) (by kernel_rfl) (by kernel_rfl) fun b_44 w a hs => ?_
          replace hcl := qO hC_37 hs.own.drop
          refine ⟨fun _ => hcl, ?_⟩
          refine Vk.dOnly (i := 4) (by kernel_rfl) (Vk.alloc 9 77 [ci 0, ci 0, ci 0, ci 0, ci 0, ci 0, ci 0, ci 0, ci 0, ci 0, ci 0, ci 0, ci 0] hs (by kernel_rfl) (by kernel_rfl) (by kernel_rfl) fun b_45 w a hs => ?_)
          replace hcl := qO hC_37 hs.own.f1.drop.drop
          refine ⟨fun _ => hcl, ?_⟩
          obtain ⟨h_46, hm⟩ := ite_t hm
          refine qsA 6 0 v_40 hs rfl h_46 rfl fun a w hs => ?_
          replace hcl := qO hC_37 hs.own.f1.drop.drop
          refine ⟨fun _ => hcl, ?_⟩
          obtain ⟨h_47, hm⟩ := ite_t hm
          refine qsA 7 1 v_43 hs rfl h_47 rfl fun a w hs => ?_
          refine ⟨fun h => absurd h (by decide), ?_⟩
          replace hs := hs.pick [2, 3, 4, 7, 8, 9, 10] (L' := [(2, .slice A_x2 x2.length c_x2), (3, pp b_2), (4, pp b_3), (7, pp b_19), (8, vi v_14.2), (9, pp b_45), (10, pp b_44)]) (by kernel_rfl)
          refine Vk.dDone (by kernel_rfl) ?_
          exact hj36 v_40 v_43 hm b_45 b_44 _ _ (hs.go [2, 3, 4, 7, 8, 9, 10] [2, 3, 4, 5, 6, 0, 1] 7 (by kernel_rfl) (by kernel_rfl) (by kernel_rfl))
      ·exact by
        refine Vk.alloc 9 77 [ci 0, ci 0, ci 0, ci 0, ci 0, ci 0, ci 0, ci 0, ci 0, ci 0, ci 0, ci 0, ci 0] hs (by kernel_rfl) (by kernel_rfl) (by kernel_rfl) fun b_41 w a hs => ?_
        replace hcl := qO hC_37 hs.own.drop
        refine ⟨fun _ => hcl, ?_⟩
        refine Vk.dMany2 (i0 := 3) (i1 := 5) (by kernel_rfl) ?_ ?_
        ·exact by
          obtain ⟨v_44, h_43, hm⟩ := bind_t hm
          refine qco (visorref18_Tally.ok _ _ _ h_43 _ _ (pt b_41 (blk [ci 0, ci 0, ci 0, ci 0, ci 0, ci 0, ci 0, ci 0, ci 0, ci 0, ci 0, ci 0, ci 0] 77) :: pt b_2 (blk (Tapi_Trace.obj x0 A_x0ops c_x0ops A_x0blocks c_x0blocks) 58) :: pt b_3 (blk (Tapi_Trace.obj x1 A_x1ops c_x1ops A_x1blocks c_x1blocks) 58) :: pt b_19 (blk (Tapi_Trace.obj v_14.1 Ar12x0ops_15 cr12x0ops_16 Ar12x0blocks_17 cr12x0blocks_18) 58) :: rowp Ar12x0ops_15 cr12x0ops_16 85 6 Tapi_Op.cells v_14.1.ops :: rowp Ar12x0blocks_17 cr12x0blocks_18 95 3 Tapi_Span.cells v_14.1.blocks :: S) A_x1ops c_x1ops hx_x1ops.less.less.less.less.less.less A_x1blocks c_x1blocks hx_x1blocks.less.less.less.less.less.less hs.own) hs fun w a hs => ?_
          replace hcl := qO hC_37 hs.own.drop
          refine ⟨fun _ => hcl, ?_⟩
          refine Vk.dOnly (i := 5) (by kernel_rfl) (Vk.alloc 10 77 [ci 0, ci 0, ci 0, ci 0, ci 0, ci 0, ci 0, ci 0, ci 0, ci 0, ci 0, ci 0, ci 0] hs (by kernel_rfl) (by kernel_rfl) (by kernel_rfl) fun b_45 w a hs => ?_)
          replace hcl := qO hC_37 hs.own.f1.drop.drop
          refine ⟨fun _ => hcl, ?_⟩
          obtain ⟨h_46, hm⟩ := ite_t hm
          refine qsA 6 1 v_40 hs rfl h_46 rfl fun a w hs => ?_
          replace hcl := qO hC_37 hs.own.f1.drop.drop
          refine ⟨fun _ => hcl, ?_⟩
          obtain ⟨h_47, hm⟩ := ite_t hm
          refine qsA 7 0 v_44 hs rfl h_47 rfl fun a w hs => ?_
          refine ⟨fun h => absurd h (by decide), ?_⟩
          replace hs := hs.pick [2, 3, 4, 7, 8, 9, 10] (L' := [(2, .slice A_x2 x2.length c_x2), (3, pp b_2), (4, pp b_3), (7, pp b_19), (8, vi v_14.2), (9, pp b_41), (10, pp b_45)]) (by kernel_rfl)
          refine Vk.dDone (by kernel_rfl) ?_
          exact hj36 v_40 v_44 hm b_41 b_45 _ _ (hs.go [2, 3, 4, 7, 8, 9, 10] [2, 3, 4, 5, 6, 1, 0] 7 (by kernel_rfl) (by kernel_rfl) (by kernel_rfl))
        ·exact by
          refine Vk.alloc 10 77 [ci 0, ci 0, ci 0, ci 0, ci 0, ci 0, ci 0, ci 0, ci 0, ci 0, ci 0, ci 0, ci 0] hs (by kernel_rfl) (by kernel_rfl) (by kernel_rfl) fun b_42 w a hs => ?_
          replace hcl := qO hC_37 hs.own.f1.drop.drop
          refine ⟨fun _ => hcl, ?_⟩
          obtain ⟨v_45, h_44, hm⟩ := bind_t hm
          refine qdc 3 (visorref18_Tally.ok _ _ _ h_44 _ _ (pt b_42 (blk [ci 0, ci 0, ci 0, ci 0, ci 0, ci 0, ci 0, ci 0, ci 0, ci 0, ci 0, ci 0, ci 0] 77) :: pt b_41 (blk [ci 0, ci 0, ci 0, ci 0, ci 0, ci 0, ci 0, ci 0, ci 0, ci 0, ci 0, ci 0, ci 0] 77) :: pt b_2 (blk (Tapi_Trace.obj x0 A_x0ops c_x0ops A_x0blocks c_x0blocks) 58) :: pt b_3 (blk (Tapi_Trace.obj x1 A_x1ops c_x1ops A_x1blocks c_x1blocks) 58) :: pt b_19 (blk (Tapi_Trace.obj v_14.1 Ar12x0ops_15 cr12x0ops_16 Ar12x0blocks_17 cr12x0blocks_18) 58) :: rowp Ar12x0ops_15 cr12x0ops_16 85 6 Tapi_Op.cells v_14.1.ops :: rowp Ar12x0blocks_17 cr12x0blocks_18 95 3 Tapi_Span.cells v_14.1.blocks :: S) A_x1ops c_x1ops hx_x1ops.less.less.less.less.less.less.less A_x1blocks c_x1blocks hx_x1blocks.less.less.less.less.less.less.less hs.own) hs fun w a hs => ?_
          replace hcl := qO hC_37 hs.own.f1.drop.drop
          refine ⟨fun _ => hcl, ?_⟩
          obtain ⟨h_46, hm⟩ := ite_t hm
          refine qsA 6 1 v_40 hs rfl h_46 rfl fun a w hs => ?_
          replace hcl := qO hC_37 hs.own.f1.drop.drop
          refine ⟨fun _ => hcl, ?_⟩
          obtain ⟨h_47, hm⟩ := ite_t hm
          refine qsA 7 0 v_45 hs rfl h_47 rfl fun a w hs => ?_
          refine ⟨fun h => absurd h (by decide), ?_⟩
          replace hs := hs.pick [2, 3, 4, 7, 8, 9, 10] (L' := [(2, .slice A_x2 x2.length c_x2), (3, pp b_2), (4, pp b_3), (7, pp b_19), (8, vi v_14.2), (9, pp b_41), (10, pp b_42)]) (by kernel_rfl)
          refine Vk.dDone (by kernel_rfl) ?_
          exact hj36 v_40 v_45 hm b_41 b_42 _ _ (hs.go [2, 3, 4, 7, 8, 9, 10] [2, 3, 4, 5, 6, 1, 0] 7 (by kernel_rfl) (by kernel_rfl) (by kernel_rfl))
      ·exact by
        refine Vk.alloc 10 77 [ci 0, ci 0, ci 0, ci 0, ci 0, ci 0, ci 0, ci 0, ci 0, ci 0, ci 0, ci 0, ci 0] hs (by kernel_rfl) (by kernel_rfl) (by kernel_rfl) fun b_41 w a hs => ?_
        replace hcl := qO hC_37 hs.own.drop
        refine ⟨fun _ => hcl, ?_⟩
        refine Vk.dMany2 (i0 := 3) (i1 := 4) (by kernel_rfl) ?_ ?_
        ·exact by
          obtain ⟨v_44, h_43, hm⟩ := bind_t hm
          refine qco (visorref18_Tally.ok _ _ _ h_43 _ _ (pt b_41 (blk [ci 0, ci 0, ci 0, ci 0, ci 0, ci 0, ci 0, ci 0, ci 0, ci 0, ci 0, ci 0, ci 0] 77) :: pt b_2 (blk (Tapi_Trace.obj x0 A_x0ops c_x0ops A_x0blocks c_x0blocks) 58) :: pt b_3 (blk (Tapi_Trace.obj x1 A_x1ops c_x1ops A_x1blocks c_x1blocks) 58) :: pt b_19 (blk (Tapi_Trace.obj v_14.1 Ar12x0ops_15 cr12x0ops_16 Ar12x0blocks_17 cr12x0blocks_18) 58) :: rowp Ar12x0ops_15 cr12x0ops_16 85 6 Tapi_Op.cells v_14.1.ops :: rowp Ar12x0blocks_17 cr12x0blocks_18 95 3 Tapi_Span.cells v_14.1.blocks :: S) A_x1ops c_x1ops hx_x1ops.less.less.less.less.less.less A_x1blocks c_x1blocks hx_x1blocks.less.less.less.less.less.less hs.own) hs fun w a hs => ?_
          replace hcl := qO hC_37 hs.own.drop
          refine ⟨fun _ => hcl, ?_⟩
          refine Vk.dOnly (i := 4) (by kernel_rfl) (Vk.alloc 9 77 [ci 0, ci 0, ci 0, ci 0, ci 0, ci 0, ci 0, ci 0, ci 0, ci 0, ci 0, ci 0, ci 0] hs (by kernel_rfl) (by kernel_rfl) (by kernel_rfl) fun b_45 w a hs => ?_)
          replace hcl := qO hC_37 hs.own.f1.drop.drop
          refine ⟨fun _ => hcl, ?_⟩
          obtain ⟨h_46, hm⟩ := ite_t hm
          refine qsA 6 0 v_40 hs rfl h_46 rfl fun a w hs => ?_
          replace hcl := qO hC_37 hs.own.f1.drop.drop
          refine ⟨fun _ => hcl, ?_⟩
          obtain ⟨h_47, hm⟩ := ite_t hm
          refine qsA 7 1 v_44 hs rfl h_47 rfl fun a w hs => ?_
          refine ⟨fun h => absurd h (by decide), ?_⟩
          replace hs := hs.pick [2, 3, 4, 7, 8, 9, 10] (L' := [(2, .slice A_x2 x2.length c_x2), (3, pp b_2), (4, pp b_3), (7, pp b_19), (8, vi v_14.2), (9, pp b_45), (10, pp b_41)]) (by kernel_rfl)
          refine Vk.dDone (by kernel_rfl) ?_
          exact hj36 v_40 v_44 hm b_45 b_41 _ _ (hs.go [2, 3, 4, 7, 8, 9, 10] [2, 3, 4, 5, 6, 0, 1] 7 (by kernel_rfl) (by kernel_rfl) (by kernel_rfl))
        ·exact by
          refine Vk.alloc 9 77 [ci 0, ci 0, ci 0, ci 0, ci 0, ci 0, ci 0, ci 0, ci 0, ci 0, ci 0, ci 0, ci 0] hs (by kernel_rfl) (by kernel_rfl) (by kernel_rfl) fun b_42 w a hs => ?_
          replace hcl := qO hC_37 hs.own.f1.drop.drop
          refine ⟨fun _ => hcl, ?_⟩
          obtain ⟨v_45, h_44, hm⟩ := bind_t hm
          refine qdc 3 (visorref18_Tally.ok _ _ _ h_44 _ _ (pt b_42 (blk [ci 0, ci 0, ci 0, ci 0, ci 0, ci 0, ci 0, ci 0, ci 0, ci 0, ci 0, ci 0, ci 0] 77) :: pt b_41 (blk [ci 0, ci 0, ci 0, ci 0, ci 0, ci 0, ci 0, ci 0, ci 0, ci 0, ci 0, ci 0, ci 0] 77) :: pt b_2 (blk (Tapi_Trace.obj x0 A_x0ops c_x0ops A_x0blocks c_x0blocks) 58) :: pt b_3 (blk (Tapi_Trace.obj x1 A_x1ops c_x1ops A_x1blocks c_x1blocks) 58) :: pt b_19 (blk (Tapi_Trace.obj v_14.1 Ar12x0ops_15 cr12x0ops_16 Ar12x0blocks_17 cr12x0blocks_18) 58) :: rowp Ar12x0ops_15 cr12x0ops_16 85 6 Tapi_Op.cells v_14.1.ops :: rowp Ar12x0blocks_17 cr12x0blocks_18 95 3 Tapi_Span.cells v_14.1.blocks :: S) A_x1ops c_x1ops hx_x1ops.less.less.less.less.less.less.less A_x1blocks c_x1blocks hx_x1blocks.less.less.less.less.less.less.less hs.own) hs fun w a hs => ?_
          replace hcl := qO hC_37 hs.own.f1.drop.drop
          refine ⟨fun _ => hcl, ?_⟩
          obtain ⟨h_46, hm⟩ := ite_t hm
          refine qsA 6 0 v_40 hs rfl h_46 rfl fun a w hs => ?_
          replace hcl := qO hC_37 hs.own.f1.drop.drop
          refine ⟨fun _ => hcl, ?_⟩
          obtain ⟨h_47, hm⟩ := ite_t hm
          refine qsA 7 1 v_45 hs rfl h_47 rfl fun a w hs => ?_
          refine ⟨fun h => absurd h (by decide), ?_⟩
          replace hs := hs.pick [2, 3, 4, 7, 8, 9, 10] (L' := [(2, .slice A_x2 x2.length c_x2), (3, pp b_2), (4, pp b_3), (7, pp b_19), (8, vi v_14.2), (9, pp b_42), (10, pp b_41)]) (by kernel_rfl)
          refine Vk.dDone (by kernel_rfl) ?_
          exact hj36 v_40 v_45 hm b_42 b_41 _ _ (hs.go [2, 3, 4, 7, 8, 9, 10] [2, 3, 4, 5, 6, 0, 1] 7 (by kernel_rfl) (by kernel_rfl) (by kernel_rfl))
    ·exact by
      refine Vk.alloc 9 77 [ci 0, ci 0, ci 0, ci 0, ci 0, ci 0, ci 0, ci 0, ci 0, ci 0, ci 0, ci 0, ci 0] hs (by kernel_rfl) (by kernel_rfl) (by kernel_rfl) fun b_38 w a hs => ?_
      replace hcl := qO hC_37 hs.own.drop
      refine ⟨fun _ => hcl, ?_⟩
      refine Vk.dMany2 (i0 := 1) (i1 := 5) (by kernel_rfl) ?_ ?_
      ·exact by
        obtain ⟨v_41, h_40, hm⟩ := bind_t hm
        refine qco (visorref18_Tally.ok _ _ _ h_40 _ _ (pt b_38 (blk [ci 0, ci 0, ci 0, ci 0, ci 0, ci 0, ci 0, ci 0, ci 0, ci 0, ci 0, ci 0, ci 0] 77) :: pt b_2 (blk (Tapi_Trace.obj x0 A_x0ops c_x0ops A_x0blocks c_x0blocks) 58) :: pt b_3 (blk (Tapi_Trace.obj x1 A_x1ops c_x1ops A_x1blocks c_x1blocks) 58) :: pt b_19 (blk (Tapi_Trace.obj v_14.1 Ar12x0ops_15 cr12x0ops_16 Ar12x0blocks_17 cr12x0blocks_18) 58) :: rowp Ar12x0ops_15 cr12x0ops_16 85 6 Tapi_Op.cells v_14.1.ops :: rowp Ar12x0blocks_17 cr12x0blocks_18 95 3 Tapi_Span.cells v_14.1.blocks :: S) A_x0ops c_x0ops hx_x0ops.less.less.less.less.less.less A_x0blocks c_x0blocks hx_x0blocks.less.less.less.less.less.less hs.own) hs fun w a hs => ?_
        replace hcl := qO hC_37 hs.own.drop
        refine ⟨fun _ => hcl, ?_⟩
        refine Vk.dMany2 (i0 := 3) (i1 := 5) (by kernel_rfl) ?_ ?_
        ·exact by
          obtain ⟨v_44, h_43, hm⟩ := bind_t hm
          refine qco (visorref18_Tally.ok _ _ _ h_43 _ _ (pt b_38 (blk [ci 0, ci 0, ci 0, ci 0, ci 0, ci 0, ci 0, ci 0, ci 0, ci 0, ci 0, ci 0, ci 0] 77) :: pt b_2 (blk (Tapi_Trace.obj x0 A_x0ops c_x0ops A_x0blocks c_x0blocks) 58) :: pt b_3 (blk (Tapi_Trace.obj x1 A_x1ops c_x1ops A_x1blocks c_x1blocks) 58) :: pt b_19 (blk (Tapi_Trace.obj v_14.1 Ar12x0ops_15 cr12x0ops_16 Ar12x0blocks_17 cr12x0blocks_18) 58) :: rowp Ar12x0ops_15 cr12x0ops_16 85 6 Tapi_Op.cells v_14.1.ops :: rowp Ar12x0blocks_17 cr12x0blocks_18 95 3 Tapi_Span.cells v_14.1.blocks :: S) A_x1ops c_x1ops hx_x1ops.less.less.less.less.less.less A_x1blocks c_x1blocks hx_x1blocks.less.less.less.less.less.less hs.own) hs fun w a hs => ?_
          replace hcl := qO hC_37 hs.own.drop
          refine ⟨fun _ => hcl, ?_⟩
          refine Vk.dOnly (i := 5) (by kernel_rfl) (Vk.alloc 10 77 [ci 0, ci 0, ci 0, ci 0, ci 0, ci 0, ci 0, ci 0, ci 0, ci 0, ci 0, ci 0, ci 0] hs (by kernel_rfl) (by kernel_rfl) (by kernel_rfl) fun b_45 w a hs => ?_)
          replace hcl := qO hC_37 hs.own.f1.drop.drop
          refine ⟨fun _ => hcl, ?_⟩
          obtain ⟨h_46, hm⟩ := ite_t hm
          refine qsA 6 1 v_41 hs rfl h_46 rfl fun a w hs => ?_
          replace hcl := qO hC_37 hs.own.f1.drop.drop
          refine ⟨fun _ => hcl, ?_⟩
          obtain ⟨h_47, hm⟩ := ite_t hm
          refine qsA 7 0 v_44 hs rfl h_47 rfl fun a w hs => ?_
          refine ⟨fun h => absurd h (by decide), ?_⟩
          replace hs := hs.pick [2, 3, 4, 7, 8, 9, 10] (L' := [(2, .slice A_x2 x2.length c_x2), (3, pp b_2), (4, pp b_3), (7, pp b_19), (8, vi v_14.2), (9, pp b_38), (10, pp b_45)]) (by kernel_rfl)
          refine Vk.dDone (by kernel_rfl) ?_
          exact hj36 v_41 v_44 hm b_38 b_45 _ _ (hs.go [2, 3, 4, 7, 8, 9, 10] [2, 3, 4, 5, 6, 1, 0] 7 (by kernel_rfl) (by kernel_rfl) (by kernel_rfl))
        ·exact by
          refine Vk.alloc 10 77 [ci 0, ci 0, ci 0, ci 0, ci 0, ci 0, ci 0, ci 0, ci 0, ci 0, ci 0, ci 0, ci 0] hs (by kernel_rfl) (by kernel_rfl) (by kernel_rfl) fun b_42 w a hs => ?_
          replace hcl := qO hC_37 hs.own.f1.drop.drop
          refine ⟨fun _ => hcl, ?_⟩
          obtain ⟨v_45, h_44, hm⟩ := bind_t hm
          refine qdc 3 (visorref18_Tally.ok _ _ _ h_44 _ _ (pt b_42 (blk [ci 0, ci 0, ci 0, ci 0, ci 0, ci 0, ci 0, ci 0, ci 0, ci 0, ci 0, ci 0, ci 0] 77) :: pt b_38 (blk [ci 0, ci 0, ci 0, ci 0, ci 0, ci 0, ci 0, ci 0, ci 0, ci 0, ci 0, ci 0, ci 0] 77) :: pt b_2 (blk (Tapi_Trace.obj x0 A_x0ops c_x0ops A_x0blocks c_x0blocks) 58) :: pt b_3 (blk (Tapi_Trace.obj x1 A_x1ops c_x1ops A_x1blocks c_x1blocks) 58) :: pt b_19 (blk (Tapi_Trace.obj v_14.1 Ar12x0ops_15 cr12x0ops_16 Ar12x0blocks_17 cr12x0blocks_18) 58) :: rowp Ar12x0ops_15 cr12x0ops_16 85 6 Tapi_Op.cells v_14.1.ops :: rowp Ar12x0blocks_17 cr12x0blocks_18 95 3 Tapi_Span.cells v_14.1.blocks :: S) A_x1ops c_x1ops hx_x1ops.less.less.less.less.less.less.less A_x1blocks c_x1blocks hx_x1blocks.less.less.less.less.less.less.less hs.own) hs fun w a hs => ?_
          replace hcl := qO hC_37 hs.own.f1.drop.drop
          refine ⟨fun _ => hcl, ?_⟩
          obtain ⟨h_46, hm⟩ := ite_t hm
          refine qsA 6 1 v_41 hs rfl h_46 rfl fun a w hs => ?_
          replace hcl := qO hC_37 hs.own.f1.drop.drop
          refine ⟨fun _ => hcl, ?_⟩
          obtain ⟨h_47, hm⟩ := ite_t hm
          refine qsA 7 0 v_45 hs rfl h_47 rfl fun a w hs => ?_
          refine ⟨fun h => absurd h (by decide), ?_⟩
          replace hs := hs.pick [2, 3, 4, 7, 8, 9, 10] (L' := [(2, .slice A_x2 x2.length c_x2), (3, pp b_2), (4, pp b_3), (7, pp b_19), (8, vi v_14.2), (9, pp b_38), (10, pp b_42)]) (by kernel_rfl)
          refine Vk.dDone (by kernel_rfl) ?_
          exact hj36 v_41 v_45 hm b_38 b_42 _ _ (hs.go [2, 3, 4, 7, 8, 9, 10] [2, 3, 4, 5, 6, 1, 0] 7 (by kernel_rfl) (by kernel_rfl) (by kernel_rfl))
      ·exact by
        refine Vk.alloc 10 77 [ci 0, ci 0, ci 0, ci 0, ci 0, ci 0, ci 0, ci 0, ci 0, ci 0, ci 0, ci 0, ci 0] hs (by kernel_rfl) (by kernel_rfl) (by kernel_rfl) fun b_39 w a hs => ?_
        replace hcl := qO hC_37 hs.own.f1.drop.drop
        refine ⟨fun _ => hcl, ?_⟩
        obtain ⟨v_42, h_41, hm⟩ := bind_t hm
        refine qdc 1 (visorref18_Tally.ok _ _ _ h_41 _ _ (pt b_39 (blk [ci 0, ci 0, ci 0, ci 0, ci 0, ci 0, ci 0, ci 0, ci 0, ci 0, ci 0, ci 0, ci 0] 77) :: pt b_38 (blk [ci 0, ci 0, ci 0, ci 0, ci 0, ci 0, ci 0, ci 0, ci 0, ci 0, ci 0, ci 0, ci 0] 77) :: pt b_2 (blk (Tapi_Trace.obj x0 A_x0ops c_x0ops A_x0blocks c_x0blocks) 58) :: pt b_3 (blk (Tapi_Trace.obj x1 A_x1ops c_x1ops A_x1blocks c_x1blocks) 58) :: pt b_19 (blk (Tapi_Trace.obj v_14.1 Ar12x0ops_15 cr12x0ops_16 Ar12x0blocks_17 cr12x0blocks_18) 58) :: rowp Ar12x0ops_15 cr12x0ops_16 85 6 Tapi_Op.cells v_14.1.ops :: rowp Ar12x0blocks_17 cr12x0blocks_18 95 3 Tapi_Span.cells v_14.1.blocks :: S) A_x0ops c_x0ops hx_x0ops.less.less.less.less.less.less.less A_x0blocks c_x0blocks hx_x0blocks.less.less.less.less.less.less.less hs.own) hs fun w a hs => ?_
        replace hcl := qO hC_37 hs.own.f1.drop.drop
        refine ⟨fun _ => hcl, ?_⟩
        obtain ⟨v_45, h_44, hm⟩ := bind_t hm
        refine qdc 3 (visorref18_Tally.ok _ _ _ h_44 _ _ (pt b_39 (blk [ci 0, ci 0, ci 0, ci 0, ci 0, ci 0, ci 0, ci 0, ci 0, ci 0, ci 0, ci 0, ci 0] 77) :: pt b_38 (blk [ci 0, ci 0, ci 0, ci 0, ci 0, ci 0, ci 0, ci 0, ci 0, ci 0, ci 0, ci 0, ci 0] 77) :: pt b_2 (blk (Tapi_Trace.obj x0 A_x0ops c_x0ops A_x0blocks c_x0blocks) 58) :: pt b_3 (blk (Tapi_Trace.obj x1 A_x1ops c_x1ops A_x1blocks c_x1blocks) 58) :: pt b_19 (blk (Tapi_Trace.obj v_14.1 Ar12x0ops_15 cr12x0ops_16 Ar12x0blocks_17 cr12x0blocks_18) 58) :: rowp Ar12x0ops_15 cr12x0ops_16 85 6 Tapi_Op.cells v_14.1.ops :: rowp Ar12x0blocks_17 cr12x0blocks_18 95 3 Tapi_Span.cells v_14.1.blocks :: S) A_x1ops c_x1ops hx_x1ops.less.less.less.less.less.less.less A_x1blocks c_x1blocks hx_x1blocks.less.less.less.less.less.less.less hs.own) hs fun w a hs => ?_
        replace hcl := qO hC_37 hs.own.f1.drop.drop
        refine ⟨fun _ => hcl, ?_⟩
        obtain ⟨h_46, hm⟩ := ite_t hm
        refine qsA 6 1 v_42 hs rfl h_46 rfl fun a w hs => ?_
        replace hcl := qO hC_37 hs.own.f1.drop.drop
        refine ⟨fun _ => hcl, ?_⟩
        obtain ⟨h_47, hm⟩ := ite_t hm
        refine qsA 7 0 v_45 hs rfl h_47 rfl fun a w hs => ?_
        refine ⟨fun h => absurd h (by decide), ?_⟩
        replace hs := hs.pick [2, 3, 4, 7, 8, 9, 10] (L' := [(2, .slice A_x2 x2.length c_x2), (3, pp b_2), (4, pp b_3), (7, pp b_19), (8, vi v_14.2), (9, pp b_38), (10, pp b_39)]) (by kernel_rfl)
        refine Vk.dDone (by kernel_rfl) ?_
        exact hj36 v_42 v_45 hm b_38 b_39 _ _ (hs.go [2, 3, 4, 7, 8, 9, 10] [2, 3, 4, 5, 6, 1, 0] 7 (by kernel_rfl) (by kernel_rfl) (by kernel_rfl))
    ·exact by
      refine Vk.alloc 10 77 [ci 0, ci 0, ci 0, ci 0, ci 0, ci 0, ci 0, ci 0, ci 0, ci 0, ci 0, ci 0, ci 0] hs (by kernel_rfl) (by kernel_rfl) (by kernel_rfl) fun b_38 w a hs => ?_
      replace hcl := qO hC_37 hs.own.drop
      refine ⟨fun _ => hcl, ?_⟩
      refine Vk.dMany2 (i0 := 1) (i1 := 4) (by kernel_rfl) ?_ ?_
      ·exact by
        obtain ⟨v_41, h_40, hm⟩ := bind_t hm
        refine qco (visorref18_Tally.ok _ _ _ h_40 _ _ (pt b_38 (blk [ci 0, ci 0, ci 0, ci 0, ci 0, ci 0, ci 0, ci 0, ci 0, ci 0, ci 0, ci 0, ci 0] 77) :: pt b_2 (blk (Tapi_Trace.obj x0 A_x0ops c_x0ops A_x0blocks c_x0blocks) 58) :: pt b_3 (blk (Tapi_Trace.obj x1 A_x1ops c_x1ops A_x1blocks c_x1blocks) 58) :: pt b_19 (blk (Tapi_Trace.obj v_14.1 Ar12x0ops_15 cr12x0ops_16 Ar12x0blocks_17 cr12x0blocks_18) 58) :: rowp Ar12x0ops_15 cr12x0ops_16 85 6 Tapi_Op.cells v_14.1.ops :: rowp Ar12x0blocks_17 cr12x0blocks_18 95 3 Tapi_Span.cells v_14.1.blocks :: S) A_x0ops c_x0ops hx_x0ops.less.less.less.less.less.less A_x0blocks c_x0blocks hx_x0blocks.less.less.less.less.less.less hs.own) hs fun w a hs => ?_
        replace hcl := qO hC_37 hs.own.drop
        refine ⟨fun _ => hcl, ?_⟩
        refine Vk.dMany2 (i0 := 3) (i1 := 4) (by kernel_rfl) ?_ ?_
        ·exact by
          obtain ⟨v_44, h_43, hm⟩ := bind_t hm
          refine qco (visorref18_Tally.ok _ _ _ h_43 _ _ (pt b_38 (blk [ci 0, ci 0, ci 0, ci 0, ci 0, ci 0, ci 0, ci 0, ci 0, ci 0, ci 0, ci 0, ci 0] 77) :: pt b_2 (blk (Tapi_Trace.obj x0 A_x0ops c_x0ops A_x0blocks c_x0blocks) 58) :: pt b_3 (blk (Tapi_Trace.obj x1 A_x1ops c_x1ops A_x1blocks c_x1blocks) 58) :: pt b_19 (blk (Tapi_Trace.obj v_14.1 Ar12x0ops_15 cr12x0ops_16 Ar12x0blocks_17 cr12x0blocks_18) 58) :: rowp Ar12x0ops_15 cr12x0ops_16 85 6 Tapi_Op.cells v_14.1.ops :: rowp Ar12x0blocks_17 cr12x0blocks_18 95 3 Tapi_Span.cells v_14.1.blocks :: S) A_x1ops c_x1ops hx_x1ops.less.less.less.less.less.less A_x1blocks c_x1blocks hx_x1blocks.less.less.less.less.less.less hs.own) hs fun w a hs => ?_
          replace hcl := qO hC_37 hs.own.drop
          refine ⟨fun _ => hcl, ?_⟩
          refine Vk.dOnly (i := 4) (by kernel_rfl) (Vk.alloc 9 77 [ci 0, ci 0, ci 0, ci 0, ci 0, ci 0, ci 0, ci 0, ci 0, ci 0, ci 0, ci 0, ci 0] hs (by kernel_rfl) (by kernel_rfl) (by kernel_rfl) fun b_45 w a hs => ?_)
          replace hcl := qO hC_37 hs.own.f1.drop.drop
          refine ⟨fun _ => hcl, ?_⟩
          obtain ⟨h_46, hm⟩ := ite_t hm
          refine qsA 6 0 v_41 hs rfl h_46 rfl fun a w hs => ?_
          replace hcl := qO hC_37 hs.own.f1.drop.drop
          refine ⟨fun _ => hcl, ?_⟩
          obtain ⟨h_47, hm⟩ := ite_t hm
          refine qsA 7 1 v_44 hs rfl h_47 rfl fun a w hs => ?_
          refine ⟨fun h => absurd h (by decide), ?_⟩
          replace hs := hs.pick [2, 3, 4, 7, 8, 9, 10] (L' := [(2, .slice A_x2 x2.length c_x2), (3, pp b_2), (4, pp b_3), (7, pp b_19), (8, vi v_14.2), (9, pp b_45), (10, pp b_38)]) (by kernel_rfl)
          refine Vk.dDone (by kernel_rfl) ?_
          exact hj36 v_41 v_44 hm b_45 b_38 _ _ (hs.go [2, 3, 4, 7, 8, 9, 10] [2, 3, 4, 5, 6, 0, 1] 7 (by kernel_rfl) (by kernel_rfl) (by kernel_rfl))
        ·exact by
          refine Vk.alloc 9 77 [ci 0, ci 0, ci 0, ci 0, ci 0, ci 0, ci 0, ci 0, ci 0, ci 0, ci 0, ci 0, ci 0] hs (by kernel_rfl) (by kernel_rfl) (by kernel_rfl) fun b_42 w a hs => ?_
          replace hcl := qO hC_37 hs.own.f1.drop.drop
          refine ⟨fun _ => hcl, ?_⟩
          obtain ⟨v_45, h_44, hm⟩ := bind_t hm
          refine qdc 3 (visorref18_Tally.ok _ _ _ h_44 _ _ (pt b_42 (blk [ci 0, ci 0, ci 0, ci 0, ci 0, ci 0, ci 0, ci 0, ci 0, ci 0, ci 0, ci 0, ci 0] 77) :: pt b_38 (blk [ci 0, ci 0, ci 0, ci 0, ci 0, ci 0, ci 0, ci 0, ci 0, ci 0, ci 0, ci 0, ci 0] 77) :: pt b_2 (blk (Tapi_Trace.obj x0 A_x0ops c_x0ops A_x0blocks c_x0blocks) 58) :: pt b_3 (blk (Tapi_Trace.obj x1 A_x1ops c_x1ops A_x1blocks c_x1blocks) 58) :: pt b_19 (blk (Tapi_Trace.obj v_14.1 Ar12x0ops_15 cr12x0ops_16 Ar12x0blocks_17 cr12x0blocks_18) 58) :: rowp Ar12x0ops_15 cr12x0ops_16 85 6 Tapi_Op.cells v_14.1.ops :: rowp Ar12x0blocks_17 cr12x0blocks_18 95 3 Tapi_Span.cells v_14.1.blocks :: S) A_x1ops c_x1ops hx_x1ops.less.less.less.less.less.less.less A_x1blocks c_x1blocks hx_x1blocks.less.less.less.less.less.less.less hs.own) hs fun w a hs => ?_
          replace hcl := qO hC_37 hs.own.f1.drop.drop
          refine ⟨fun _ => hcl, ?_⟩
          obtain ⟨h_46, hm⟩ := ite_t hm
          refine qsA 6 0 v_41 hs rfl h_46 rfl fun a w hs => ?_
          replace hcl := qO hC_37 hs.own.f1.drop.drop
          refine ⟨fun _ => hcl, ?_⟩
          obtain ⟨h_47, hm⟩ := ite_t hm
          refine qsA 7 1 v_45 hs rfl h_47 rfl fun a w hs => ?_
          refine ⟨fun h => absurd h (by decide), ?_⟩
          replace hs := hs.pick [2, 3, 4, 7, 8, 9, 10] (L' := [(2, .slice A_x2 x2.length c_x2), (3, pp b_2), (4, pp b_3), (7, pp b_19), (8, vi v_14.2), (9, pp b_42), (10, pp b_38)]) (by kernel_rfl)
          refine Vk.dDone (by kernel_rfl) ?_
          exact hj36 v_41 v_45 hm b_42 b_38 _ _ (hs.go [2, 3, 4, 7, 8, 9, 10] [2, 3, 4, 5, 6, 0, 1] 7 (by kernel_rfl) (by kernel_rfl) (by kernel_rfl))
      ·exact by
        refine Vk.alloc 9 77 [ci 0, ci 0, ci 0, ci 0, ci 0, ci 0, ci 0, ci 0, ci 0, ci 0, ci 0, ci 0, ci 0] hs (by kernel_rfl) (by kernel_rfl) (by kernel_rfl) fun b_39 w a hs => ?_
        replace hcl := qO hC_37 hs.own.f1.drop.drop
        refine ⟨fun _ => hcl, ?_⟩
        obtain ⟨v_42, h_41, hm⟩ := bind_t hm
        refine qdc 1 (visorref18_Tally.ok _ _ _ h_41 _ _ (pt b_39 (blk [ci 0, ci 0, ci 0, ci 0, ci 0, ci 0, ci 0, ci 0, ci 0, ci 0, ci 0, ci 0, ci 0] 77) :: pt b_38 (blk [ci 0, ci 0, ci 0, ci 0, ci 0, ci 0, ci 0, ci 0, ci 0, ci 0, ci 0, ci 0, ci 0] 77) :: pt b_2 (blk (Tapi_Trace.obj x0 A_x0ops c_x0ops A_x0blocks c_x0blocks) 58) :: pt b_3 (blk (Tapi_Trace.obj x1 A_x1ops c_x1ops A_x1blocks c_x1blocks) 58) :: pt b_19 (blk (Tapi_Trace.obj v_14.1 Ar12x0ops_15 cr12x0ops_16 Ar12x0blocks_17 cr12x0blocks_18) 58) :: rowp Ar12x0ops_15 cr12x0ops_16 85 6 Tapi_Op.cells v_14.1.ops :: rowp Ar12x0blocks_17 cr12x0blocks_18 95 3 Tapi_Span.cells v_14.1.blocks :: S) A_x0ops c_x0ops hx_x0ops.less.less.less.less.less.less.less A_x0blocks c_x0blocks hx_x0blocks.less.less.less.less.less.less.less hs.own) hs fun w a hs => ?_
        replace hcl := qO hC_37 hs.own.f1.drop.drop
        refine ⟨fun _ => hcl, ?_⟩
        obtain ⟨v_45, h_44, hm⟩ := bind_t hm
        refine qdc 3 (visorref18_Tally.ok _ _ _ h_44 _ _ (pt b_39 (blk [ci 0, ci 0, ci 0, ci 0, ci 0, ci 0, ci 0, ci 0, ci 0, ci 0, ci 0, ci 0, ci 0] 77) :: pt b_38 (blk [ci 0, ci 0, ci 0, ci 0, ci 0, ci 0, ci 0, ci 0, ci 0, ci 0, ci 0, ci 0, ci 0] 77) :: pt b_2 (blk (Tapi_Trace.obj x0 A_x0ops c_x0ops A_x0blocks c_x0blocks) 58) :: pt b_3 (blk (Tapi_Trace.obj x1 A_x1ops c_x1ops A_x1blocks c_x1blocks) 58) :: pt b_19 (blk (Tapi_Trace.obj v_14.1 Ar12x0ops_15 cr12x0ops_16 Ar12x0blocks_17 cr12x0blocks_18) 58) :: rowp Ar12x0ops_15 cr12x0ops_16 85 6 Tapi_Op.cells v_14.1.ops :: rowp Ar12x0blocks_17 cr12x0blocks_18 95 3 Tapi_Span.cells v_14.1.blocks :: S) A_x1ops c_x1ops hx_x1ops.less.less.less.less.less.less.less A_x1blocks c_x1blocks hx_x1blocks.less.less.less.less.less.less.less hs.own) hs fun w a hs => ?_
        replace hcl := qO hC_37 hs.own.f1.drop.drop
        refine ⟨fun _ => hcl, ?_⟩
        obtain ⟨h_46, hm⟩ := ite_t hm
        refine qsA 6 0 v_42 hs rfl h_46 rfl fun a w hs => ?_
        replace hcl := qO hC_37 hs.own.f1.drop.drop
        refine ⟨fun _ => hcl, ?_⟩
        obtain ⟨h_47, hm⟩ := ite_t hm
        refine qsA 7 1 v_45 hs rfl h_47 rfl fun a w hs => ?_
        refine ⟨fun h => absurd h (by decide), ?_⟩
        replace hs := hs.pick [2, 3, 4, 7, 8, 9, 10] (L' := [(2, .slice A_x2 x2.length c_x2), (3, pp b_2), (4, pp b_3), (7, pp b_19), (8, vi v_14.2), (9, pp b_39), (10, pp b_38)]) (by kernel_rfl)
        refine Vk.dDone (by kernel_rfl) ?_
        exact hj36 v_42 v_45 hm b_39 b_38 _ _ (hs.go [2, 3, 4, 7, 8, 9, 10] [2, 3, 4, 5, 6, 0, 1] 7 (by kernel_rfl) (by kernel_rfl) (by kernel_rfl))
  refine Vk.region ?_
  refine qln 4 ([ci x0.n, C.slc A_x0ops x0.ops.length c_x0ops, C.slc A_x0blocks x0.blocks.length c_x0blocks]) hs rfl fun a hs => ?_
  obtain ⟨v_24, h_23, hm⟩ := bind_t hm
  refine qcl (visorref18_Right.ok _ _ _ h_23 _ _ (pt b_19 (blk (Tapi_Trace.obj v_14.1 Ar12x0ops_15 cr12x0ops_16 Ar12x0blocks_17 cr12x0blocks_18) 58) :: rowp Ar12x0ops_15 cr12x0ops_16 85 6 Tapi_Op.cells v_14.1.ops :: rowp Ar12x0blocks_17 cr12x0blocks_18 95 3 Tapi_Span.cells v_14.1.blocks :: pt b_3 (blk (Tapi_Trace.obj x1 A_x1ops c_x1ops A_x1blocks c_x1blocks) 58) :: pt b_2 (blk (Tapi_Trace.obj x0 A_x0ops c_x0ops A_x0blocks c_x0blocks) 58) :: S) A_x0ops c_x0ops hx_x0ops.less.less.less.less.less A_x0blocks c_x0blocks hx_x0blocks.less.less.less.less.less hs.own) hs fun w a hs => ?_
  refine qpu 2 hs fun a hs => ?_
  rcases Bool.eq_false_or_eq_true (!v_24) with hb | hb
  ·replace hm := bif_t hm hb
   replace hs := hs.known (t := 38) hb (by kernel_rfl)
   refine qpe 11 [(2, .slice A_x2 x2.length c_x2), (3, pp b_2), (4, pp b_3), (7, pp b_19), (8, vi v_14.2), (49, .bool true)] hs fun a hs => ?_
   exact hj21 true hm _ _ (hs.go [2, 3, 4, 7, 8, 49] [4, 3, 0, 1, 2] 5 (by kernel_rfl) (by kernel_rfl) (by kernel_rfl))
  ·replace hm := bif_f hm hb
   replace hs := hs.known (t := 38) hb (by kernel_rfl)
   refine qln 3 ([ci x1.n, C.slc A_x1ops x1.ops.length c_x1ops, C.slc A_x1blocks x1.blocks.length c_x1blocks]) hs rfl fun a hs => ?_
   obtain ⟨v_27, h_26, hm⟩ := bind_t hm
   refine qcl (visorref18_Right.ok _ _ _ h_26 _ _ (pt b_19 (blk (Tapi_Trace.obj v_14.1 Ar12x0ops_15 cr12x0ops_16 Ar12x0blocks_17 cr12x0blocks_18) 58) :: rowp Ar12x0ops_15 cr12x0ops_16 85 6 Tapi_Op.cells v_14.1.ops :: rowp Ar12x0blocks_17 cr12x0blocks_18 95 3 Tapi_Span.cells v_14.1.blocks :: pt b_3 (blk (Tapi_Trace.obj x1 A_x1ops c_x1ops A_x1blocks c_x1blocks) 58) :: pt b_2 (blk (Tapi_Trace.obj x0 A_x0ops c_x0ops A_x0blocks c_x0blocks) 58) :: S) A_x1ops c_x1ops hx_x1ops.less.less.less.less.less A_x1blocks c_x1blocks hx_x1blocks.less.less.less.less.less hs.own) hs fun w a hs => ?_
   refine qpu 3 hs fun a hs => ?_
   suffices hj_28 : ∀ a, St 154 a w κ [(2, .slice A_x2 x2.length c_x2), (3, pp b_2), (4, pp b_3), (7, pp b_19), (8, vi v_14.2), (35, .agg (vals [ci x0.n, C.slc A_x0ops x0.ops.length c_x0ops, C.slc A_x0blocks x0.blocks.length c_x0blocks])), (36, .bool v_24), (37, .bool (!v_24)), (38, .bool false), (39, .agg (vals [ci x1.n, C.slc A_x1ops x1.ops.length c_x1ops, C.slc A_x1blocks x1.blocks.length c_x1blocks])), (40, .bool v_27), (41, .bool (!v_27)), (42, .bool (!v_27)), (43, .bool (!v_27)), (49, .bool ((!v_27) || (x0.n != x1.n)))] (pt b_19 (blk (Tapi_Trace.obj v_14.1 Ar12x0ops_15 cr12x0ops_16 Ar12x0blocks_17 cr12x0blocks_18) 58) :: rowp Ar12x0ops_15 cr12x0ops_16 85 6 Tapi_Op.cells v_14.1.ops :: rowp Ar12x0blocks_17 cr12x0blocks_18 95 3 Tapi_Span.cells v_14.1.blocks :: pt b_3 (blk (Tapi_Trace.obj x1 A_x1ops c_x1ops A_x1blocks c_x1blocks) 58) :: pt b_2 (blk (Tapi_Trace.obj x0 A_x0ops c_x0ops A_x0blocks c_x0blocks) 58) :: S) → wpFrom Try.prog _ _ 15 a w by
    rcases Bool.eq_false_or_eq_true (!v_27) with hb | hb
    ·replace hs := hs.known (t := 43) hb (by kernel_rfl)
     refine qpu 6 hs fun a hs => ?_
     have hq := hs.pick [2, 3, 4, 7, 8, 35, 36, 37, 38, 39, 40, 41, 42, 43, 49] (L' := [(2, .slice A_x2 x2.length c_x2), (3, pp b_2), (4, pp b_3), (7, pp b_19), (8, vi v_14.2), (35, .agg (vals [ci x0.n, C.slc A_x0ops x0.ops.length c_x0ops, C.slc A_x0blocks x0.blocks.length c_x0blocks])), (36, .bool v_24), (37, .bool (!v_24)), (38, .bool false), (39, .agg (vals [ci x1.n, C.slc A_x1ops x1.ops.length c_x1ops, C.slc A_x1blocks x1.blocks.length c_x1blocks])), (40, .bool v_27), (41, .bool (!v_27)), (42, .bool (!v_27)), (43, .bool true), (49, .bool true)]) (by kernel_rfl)
     exact hj_28 _ (hq.conv (by first | (rw [hb] <;> rfl) | rfl))
    ·replace hs := hs.known (t := 43) hb (by kernel_rfl)
     refine qpu 1 hs fun a hs => ?_
     refine qld 4 (ci x0.n) hs rfl fun a hs => ?_
     refine qpu 1 hs fun a hs => ?_
     refine qld 3 (ci x1.n) hs rfl fun a hs => ?_
     refine qpu 2 hs fun a hs => ?_
     have hq := hs.pick [2, 3, 4, 7, 8, 35, 36, 37, 38, 39, 40, 41, 42, 43, 49] (L' := [(2, .slice A_x2 x2.length c_x2), (3, pp b_2), (4, pp b_3), (7, pp b_19), (8, vi v_14.2), (35, .agg (vals [ci x0.n, C.slc A_x0ops x0.ops.length c_x0ops, C.slc A_x0blocks x0.blocks.length c_x0blocks])), (36, .bool v_24), (37, .bool (!v_24)), (38, .bool false), (39, .agg (vals [ci x1.n, C.slc A_x1ops x1.ops.length c_x1ops, C.slc A_x1blocks x1.blocks.length c_x1blocks])), (40, .bool v_27), (41, .bool (!v_27)), (42, .bool (!v_27)), (43, .bool false), (49, .bool (x0.n != x1.n))]) (by kernel_rfl)
     exact hj_28 _ (hq.conv (by first | (rw [hb] <;> rfl) | rfl))
   intro a hs
   refine qpe 0 [(2, .slice A_x2 x2.length c_x2), (3, pp b_2), (4, pp b_3), (7, pp b_19), (8, vi v_14.2), (49, .bool ((!v_27) || (x0.n != x1.n)))] hs fun a hs => ?_
   exact hj21 ((!v_27) || (x0.n != x1.n)) hm _ _ (hs.go [2, 3, 4, 7, 8, 49] [4, 3, 0, 1, 2] 5 (by kernel_rfl) (by kernel_rfl) (by kernel_rfl))

end Go.Proofs.Ytebgjmhkmmlpeaa
