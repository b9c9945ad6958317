/- Of each Go function that ReplayJoins comes to: a model in plain Lean, and that the program's call does what the model says; no condition. -/
import Derived.Test.YtebgjmhkmmlpeaaProg
import Derived.Test.YtebgjmhkmmlpeaaViahficoj
namespace Go.Proofs.Ytebgjmhkmmlpeaa
open Go Go.Vk
set_option linter.unusedVariables false

structure Tapi_Op where
 kind : Int
 dom : Int
 a : Int
 b : Int
 d : Int
 c : Int
 deriving Inhabited
def Tapi_Op.cells (x : Tapi_Op) : Cells := [C.int .i64 x.kind, C.int .i64 x.dom, C.int .i64 x.a, C.int .i64 x.b, C.int .i64 x.d, C.int .u64 x.c]

structure Tapi_Span where
 kind : Int
 fromF : Int
 to : Int
 deriving Inhabited
def Tapi_Span.cells (x : Tapi_Span) : Cells := [C.int .i64 x.kind, C.int .i64 x.fromF, C.int .i64 x.to]

structure Tapi_Trace where
 n : Int
 ops : List Tapi_Op
 blocks : List Tapi_Span
 deriving Inhabited
def Tapi_Trace.obj (x : Tapi_Trace) (Aops : Option Addr) (cops : Nat) (Ablocks : Option Addr) (cblocks : Nat) : Cells := [C.int .i64 x.n, C.slc Aops x.ops.length cops, C.slc Ablocks x.blocks.length cblocks]

def trace_ordered.l1 (x0 : Tapi_Trace) : Nat → Int → Int → Option (Sum (Bool) (Unit))
 | 0, _, _ => none
 | k + 1, q_7, q_8 => (bif decide (q_8 < ((x0.blocks.length : Nat) : Int)) then (if 0 ≤ q_8 then (x0.blocks[q_8.toNat]?).bind fun e_16 => (bif ((((decide (e_16.kind < 1)) || (decide (e_16.kind > 3))) || (decide (e_16.fromF < q_7))) || (decide (e_16.fromF ≥ e_16.to))) || (decide (e_16.to > ((x0.ops.length : Nat) : Int))) then some (.inl false) else trace_ordered.l1 x0 k e_16.to (IntKind.i64.wrap (q_8 + 1))) else none) else some (.inr ()))
abbrev trace_ordered.R (κ : Ctx) (S : List HP) (x0 : Tapi_Trace) (A_x0ops : Option Addr) (c_x0ops : Nat) (A_x0blocks : Option Addr) (c_x0blocks : Nat) (r : Bool) : Ending → World → Prop := fun e w' => e = .returned (.bool r) ∧ Ow κ w' (S)
def trace_ordered.m (k : Nat) (x0 : Tapi_Trace) : Option Bool := (trace_ordered.l1 x0 k 0 0).bind fun x => match x with | .inl v => some v | .inr () => some true

set_option maxRecDepth 100000 in
set_option maxHeartbeats 4000000 in
theorem trace_ordered.ok (k : Nat) (x0 : Tapi_Trace) (r : Bool) (hm : trace_ordered.m k x0 = some r) (κ : Ctx) (w : World) (S : List HP) (A_x0ops : Option Addr) (c_x0ops : Nat) (hx_x0ops : Sl κ S A_x0ops c_x0ops 6 Tapi_Op.cells x0.ops) (A_x0blocks : Option Addr) (c_x0blocks : Nat) (hx_x0blocks : Sl κ S A_x0blocks c_x0blocks 3 Tapi_Span.cells x0.blocks) (ho : Ow κ w (S)) :
  Calls Try.prog 42 #[.agg (vals [ci x0.n, C.slc A_x0ops x0.ops.length c_x0ops, C.slc A_x0blocks x0.blocks.length c_x0blocks])] w (trace_ordered.R κ S x0 A_x0ops c_x0ops A_x0blocks c_x0blocks r) := by
 unfold trace_ordered.m at hm
 generalize hRR : trace_ordered.R κ S x0 A_x0ops c_x0ops A_x0blocks c_x0blocks r = RR
 refine qen [(0, .agg (vals [ci x0.n, C.slc A_x0ops x0.ops.length c_x0ops, C.slc A_x0blocks x0.blocks.length c_x0blocks]))] Try.func42 Try.ntmps42 ho fun a hs => ?_
 refine qsr fun K1 hK1 => ?_
 refine qbx 0 58 [ci x0.n, C.slc A_x0ops x0.ops.length c_x0ops, C.slc A_x0blocks x0.blocks.length c_x0blocks] 1 hs fun b_2 w a hs => ?_
 refine qpe 1 [(1, pp b_2)] hs fun a hs => hK1 _ _ ?_
 clear hK1
 refine qse 1 [(1, pp b_2), (3, vi 0)] hs fun a hs => ?_
 refine Vk.seq fun K4 hK4 => ?_
 refine qsr fun K5 hK5 => ?_
 refine qpu 1 hs fun a hs => ?_
 refine qld 0 (C.slc A_x0blocks x0.blocks.length c_x0blocks) hs rfl fun a hs => ?_
 refine qpk 2 [1, 3, 7, 8, 9] hs fun a hs => hK5 _ _ ?_
 clear hK5
 refine wp_block ?_
 obtain ⟨r6, hl6, hm⟩ := bind_t hm
 have hx6 : r6 = Sum.inr () → ∀ (a : Act) (w : World), St 45 a w κ [] (S) → K4 a w := by
  intro he a w hs
  subst r6
  refine hK4 _ _ ?_
  clear hK4
  refine qse 1 [(2, .bool true)] hs fun a hs => ?_
  refine wp_ret ?_
  exact qr1 (.bool true) hs rfl hRR (by cases hm; exact ⟨rfl, hs.own⟩)
 have hret6 : ∀ v, r6 = Sum.inl v → v = r := by intro v he; subst r6; exact Option.some.inj hm
 refine Vk.loopBy (fun k (s : Int × Int) a w => trace_ordered.l1 x0 k s.1 s.2 = some r6 ∧ St 45 a w κ [(1, pp b_2), (3, vi s.1), (7, .slice A_x0blocks x0.blocks.length c_x0blocks), (8, vi ((x0.blocks.length : Nat) : Int)), (9, vi s.2)] (pt b_2 (blk (Tapi_Trace.obj x0 A_x0ops c_x0ops A_x0blocks c_x0blocks) 58) :: S)) k (0, 0) ⟨hl6, hs.go [1, 3, 7, 8, 9] [0] 1 (by kernel_rfl) (by kernel_rfl) (by kernel_rfl)⟩ (fun s a w h => by obtain ⟨h1, _⟩ := h; simp [trace_ordered.l1] at h1) (fun k KL6 ih s a w h => ?_)
 obtain ⟨q_7, q_8⟩ := s
 obtain ⟨hm, hs⟩ := h
 try dsimp only at hm hs
 rw [trace_ordered.l1] at hm
 refine qsk 1 [1, 3, 7, 8, 9, 10] hs fun a hs => ?_
 refine Vk.seq fun K10 hK10 => ?_
 refine qcs (decide (q_8 < ((x0.blocks.length : Nat) : Int))) hs (fun hb => ?_) fun hb => ?_
 ·replace hm := bif_t hm hb
  refine wp_skip ?_
  refine hK10 _ _ ?_
  clear hK10
  refine Vk.seq fun K11 hK11 => ?_
  refine wp_block ?_
  refine qsr fun K12 hK12 => ?_
  obtain ⟨h_13, hm⟩ := ite_t hm
  obtain ⟨e_16, h_14, hm⟩ := bind_t hm
  obtain ⟨b_17, o_18, hA_19, h_15⟩ := Sl.elem hx_x0blocks h_14
  refine qva (.pointer (some ⟨b_17, o_18 + q_8.toNat * 3, none⟩)) (op := (.indexAddr 56 (.tmp 7) (.tmp 9))) hs (fun o ho => run_idxSlc (k := .i64) ho (cap := c_x0blocks) (len := x0.blocks.length) ((congrArg (fun A => Value.slice A (x0.blocks.length) (c_x0blocks)) hA_19) ▸ (by kernel_rfl)) (by kernel_rfl) (by kernel_rfl) (idx_ok h_13 h_14) _) fun a hs => ?_
  refine qva (.agg (vals [ci e_16.kind, ci e_16.fromF, ci e_16.to])) (op := (.load 95 (.tmp 11))) hs (fun o ho => run_loadN (cs := [ci e_16.kind, ci e_16.fromF, ci e_16.to]) ho (by kernel_rfl) (by kernel_rfl) rfl h_15 _ hs.own.drop) fun a hs => ?_
  refine qal 95 [ci 0, ci 0, ci 0] 5 hs fun b_20 w a hs => ?_
  refine qsa 0 [ci e_16.kind, ci e_16.fromF, ci e_16.to] hs rfl fun a w hs => ?_
  refine qpe 0 [(1, pp b_2), (3, vi q_7), (5, pp b_20), (7, .slice A_x0blocks x0.blocks.length c_x0blocks), (8, vi ((x0.blocks.length : Nat) : Int)), (9, vi q_8)] hs fun a hs => hK12 _ _ ?_
  clear hK12
  refine Vk.seq fun K21 hK21 => ?_
  refine qsr fun K22 hK22 => ?_
  refine qpu 1 hs fun a hs => ?_
  refine qld 0 (ci e_16.kind) hs rfl fun a hs => ?_
  refine qpu 2 hs fun a hs => ?_
  suffices hj_23 : ∀ a, St 45 a w κ [(1, pp b_2), (3, vi q_7), (5, pp b_20), (7, .slice A_x0blocks x0.blocks.length c_x0blocks), (8, vi ((x0.blocks.length : Nat) : Int)), (9, vi q_8), (13, pp b_20), (14, vi e_16.kind), (15, .bool (decide (e_16.kind < 1))), (16, .bool (decide (e_16.kind < 1))), (20, .bool ((decide (e_16.kind < 1)) || (decide (e_16.kind > 3))))] (pt b_20 (blk (Tapi_Span.cells e_16) 95) :: pt b_2 (blk (Tapi_Trace.obj x0 A_x0ops c_x0ops A_x0blocks c_x0blocks) 58) :: S) → wpFrom Try.prog _ _ 8 a w by
   rcases Bool.eq_false_or_eq_true (decide (e_16.kind < 1)) with hb | hb
   ·replace hs := hs.known (t := 16) hb (by kernel_rfl)
    refine qpu 4 hs fun a hs => ?_
    have hq := hs.pick [1, 3, 5, 7, 8, 9, 13, 14, 15, 16, 20] (L' := [(1, pp b_2), (3, vi q_7), (5, pp b_20), (7, .slice A_x0blocks x0.blocks.length c_x0blocks), (8, vi ((x0.blocks.length : Nat) : Int)), (9, vi q_8), (13, pp b_20), (14, vi e_16.kind), (15, .bool (decide (e_16.kind < 1))), (16, .bool true), (20, .bool true)]) (by kernel_rfl)
    exact hj_23 _ (hq.conv (by first | (rw [hb] <;> rfl) | rfl))
   ·replace hs := hs.known (t := 16) hb (by kernel_rfl)
    refine qpu 1 hs fun a hs => ?_
    refine qld 0 (ci e_16.kind) hs rfl fun a hs => ?_
    refine qpu 2 hs fun a hs => ?_
    have hq := hs.pick [1, 3, 5, 7, 8, 9, 13, 14, 15, 16, 20] (L' := [(1, pp b_2), (3, vi q_7), (5, pp b_20), (7, .slice A_x0blocks x0.blocks.length c_x0blocks), (8, vi ((x0.blocks.length : Nat) : Int)), (9, vi q_8), (13, pp b_20), (14, vi e_16.kind), (15, .bool (decide (e_16.kind < 1))), (16, .bool false), (20, .bool (decide (e_16.kind > 3)))]) (by kernel_rfl)
    exact hj_23 _ (hq.conv (by first | (rw [hb] <;> rfl) | rfl))
  intro a hs
  refine qpu 1 hs fun a hs => ?_
  suffices hj_24 : ∀ a, St 45 a w κ [(1, pp b_2), (3, vi q_7), (5, pp b_20), (7, .slice A_x0blocks x0.blocks.length c_x0blocks), (8, vi ((x0.blocks.length : Nat) : Int)), (9, vi q_8), (13, pp b_20), (14, vi e_16.kind), (15, .bool (decide (e_16.kind < 1))), (16, .bool (decide (e_16.kind < 1))), (20, .bool ((decide (e_16.kind < 1)) || (decide (e_16.kind > 3)))), (21, .bool ((decide (e_16.kind < 1)) || (decide (e_16.kind > 3)))), (26, .bool (((decide (e_16.kind < 1)) || (decide (e_16.kind > 3))) || (decide (e_16.fromF < q_7))))] (pt b_20 (blk (Tapi_Span.cells e_16) 95) :: pt b_2 (blk (Tapi_Trace.obj x0 A_x0ops c_x0ops A_x0blocks c_x0blocks) 58) :: S) → wpFrom Try.prog _ _ 14 a w by
   rcases Bool.eq_false_or_eq_true ((decide (e_16.kind < 1)) || (decide (e_16.kind > 3))) with hb | hb
   ·replace hs := hs.known (t := 21) hb (by kernel_rfl)
    refine qpu 5 hs fun a hs => ?_
    have hq := hs.pick [1, 3, 5, 7, 8, 9, 13, 14, 15, 16, 20, 21, 26] (L' := [(1, pp b_2), (3, vi q_7), (5, pp b_20), (7, .slice A_x0blocks x0.blocks.length c_x0blocks), (8, vi ((x0.blocks.length : Nat) : Int)), (9, vi q_8), (13, pp b_20), (14, vi e_16.kind), (15, .bool (decide (e_16.kind < 1))), (16, .bool (decide (e_16.kind < 1))), (20, .bool ((decide (e_16.kind < 1)) || (decide (e_16.kind > 3)))), (21, .bool true), (26, .bool true)]) (by kernel_rfl)
    exact hj_24 _ (hq.conv (by first | (rw [hb] <;> rfl) | rfl))
   ·replace hs := hs.known (t := 21) hb (by kernel_rfl)
    refine qpu 1 hs fun a hs => ?_
    refine qld 0 (ci e_16.fromF) hs rfl fun a hs => ?_
    refine qpu 3 hs fun a hs => ?_
    have hq := hs.pick [1, 3, 5, 7, 8, 9, 13, 14, 15, 16, 20, 21, 26] (L' := [(1, pp b_2), (3, vi q_7), (5, pp b_20), (7, .slice A_x0blocks x0.blocks.length c_x0blocks), (8, vi ((x0.blocks.length : Nat) : Int)), (9, vi q_8), (13, pp b_20), (14, vi e_16.kind), (15, .bool (decide (e_16.kind < 1))), (16, .bool (decide (e_16.kind < 1))), (20, .bool ((decide (e_16.kind < 1)) || (decide (e_16.kind > 3)))), (21, .bool false), (26, .bool (decide (e_16.fromF < q_7)))]) (by kernel_rfl)
    exact hj_24 _ (hq.conv (by first | (rw [hb] <;> rfl) | rfl))
  intro a hs
  refine qpu 1 hs fun a hs => ?_
  suffices hj_25 : ∀ a, St 45 a w κ [(1, pp b_2), (3, vi q_7), (5, pp b_20), (7, .slice A_x0blocks x0.blocks.length c_x0blocks), (8, vi ((x0.blocks.length : Nat) : Int)), (9, vi q_8), (13, pp b_20), (14, vi e_16.kind), (15, .bool (decide (e_16.kind < 1))), (16, .bool (decide (e_16.kind < 1))), (20, .bool ((decide (e_16.kind < 1)) || (decide (e_16.kind > 3)))), (21, .bool ((decide (e_16.kind < 1)) || (decide (e_16.kind > 3)))), (26, .bool (((decide (e_16.kind < 1)) || (decide (e_16.kind > 3))) || (decide (e_16.fromF < q_7)))), (27, .bool (((decide (e_16.kind < 1)) || (decide (e_16.kind > 3))) || (decide (e_16.fromF < q_7)))), (33, .bool ((((decide (e_16.kind < 1)) || (decide (e_16.kind > 3))) || (decide (e_16.fromF < q_7))) || (decide (e_16.fromF ≥ e_16.to))))] (pt b_20 (blk (Tapi_Span.cells e_16) 95) :: pt b_2 (blk (Tapi_Trace.obj x0 A_x0ops c_x0ops A_x0blocks c_x0blocks) 58) :: S) → wpFrom Try.prog _ _ 21 a w by
   rcases Bool.eq_false_or_eq_true (((decide (e_16.kind < 1)) || (decide (e_16.kind > 3))) || (decide (e_16.fromF < q_7))) with hb | hb
   ·replace hs := hs.known (t := 27) hb (by kernel_rfl)
    refine qpu 6 hs fun a hs => ?_
    have hq := hs.pick [1, 3, 5, 7, 8, 9, 13, 14, 15, 16, 20, 21, 26, 27, 33] (L' := [(1, pp b_2), (3, vi q_7), (5, pp b_20), (7, .slice A_x0blocks x0.blocks.length c_x0blocks), (8, vi ((x0.blocks.length : Nat) : Int)), (9, vi q_8), (13, pp b_20), (14, vi e_16.kind), (15, .bool (decide (e_16.kind < 1))), (16, .bool (decide (e_16.kind < 1))), (20, .bool ((decide (e_16.kind < 1)) || (decide (e_16.kind > 3)))), (21, .bool ((decide (e_16.kind < 1)) || (decide (e_16.kind > 3)))), (26, .bool (((decide (e_16.kind < 1)) || (decide (e_16.kind > 3))) || (decide (e_16.fromF < q_7)))), (27, .bool true), (33, .bool true)]) (by kernel_rfl)
    exact hj_25 _ (hq.conv (by first | (rw [hb] <;> rfl) | rfl))
   ·replace hs := hs.known (t := 27) hb (by kernel_rfl)
    refine qpu 1 hs fun a hs => ?_
    refine qld 0 (ci e_16.fromF) hs rfl fun a hs => ?_
    refine qpu 1 hs fun a hs => ?_
    refine qld 0 (ci e_16.to) hs rfl fun a hs => ?_
    refine qpu 2 hs fun a hs => ?_
    have hq := hs.pick [1, 3, 5, 7, 8, 9, 13, 14, 15, 16, 20, 21, 26, 27, 33] (L' := [(1, pp b_2), (3, vi q_7), (5, pp b_20), (7, .slice A_x0blocks x0.blocks.length c_x0blocks), (8, vi ((x0.blocks.length : Nat) : Int)), (9, vi q_8), (13, pp b_20), (14, vi e_16.kind), (15, .bool (decide (e_16.kind < 1))), (16, .bool (decide (e_16.kind < 1))), (20, .bool ((decide (e_16.kind < 1)) || (decide (e_16.kind > 3)))), (21, .bool ((decide (e_16.kind < 1)) || (decide (e_16.kind > 3)))), (26, .bool (((decide (e_16.kind < 1)) || (decide (e_16.kind > 3))) || (decide (e_16.fromF < q_7)))), (27, .bool false), (33, .bool (decide (e_16.fromF ≥ e_16.to)))]) (by kernel_rfl)
    exact hj_25 _ (hq.conv (by first | (rw [hb] <;> rfl) | rfl))
  intro a hs
  refine qpu 1 hs fun a hs => ?_
  suffices hj_26 : ∀ a, St 45 a w κ [(1, pp b_2), (3, vi q_7), (5, pp b_20), (7, .slice A_x0blocks x0.blocks.length c_x0blocks), (8, vi ((x0.blocks.length : Nat) : Int)), (9, vi q_8), (13, pp b_20), (14, vi e_16.kind), (15, .bool (decide (e_16.kind < 1))), (16, .bool (decide (e_16.kind < 1))), (20, .bool ((decide (e_16.kind < 1)) || (decide (e_16.kind > 3)))), (21, .bool ((decide (e_16.kind < 1)) || (decide (e_16.kind > 3)))), (26, .bool (((decide (e_16.kind < 1)) || (decide (e_16.kind > 3))) || (decide (e_16.fromF < q_7)))), (27, .bool (((decide (e_16.kind < 1)) || (decide (e_16.kind > 3))) || (decide (e_16.fromF < q_7)))), (33, .bool ((((decide (e_16.kind < 1)) || (decide (e_16.kind > 3))) || (decide (e_16.fromF < q_7))) || (decide (e_16.fromF ≥ e_16.to)))), (34, .bool ((((decide (e_16.kind < 1)) || (decide (e_16.kind > 3))) || (decide (e_16.fromF < q_7))) || (decide (e_16.fromF ≥ e_16.to)))), (41, .bool (((((decide (e_16.kind < 1)) || (decide (e_16.kind > 3))) || (decide (e_16.fromF < q_7))) || (decide (e_16.fromF ≥ e_16.to))) || (decide (e_16.to > ((x0.ops.length : Nat) : Int)))))] (pt b_20 (blk (Tapi_Span.cells e_16) 95) :: pt b_2 (blk (Tapi_Trace.obj x0 A_x0ops c_x0ops A_x0blocks c_x0blocks) 58) :: S) → wpFrom Try.prog _ _ 29 a w by
   rcases Bool.eq_false_or_eq_true ((((decide (e_16.kind < 1)) || (decide (e_16.kind > 3))) || (decide (e_16.fromF < q_7))) || (decide (e_16.fromF ≥ e_16.to))) with hb | hb
   ·replace hs := hs.known (t := 34) hb (by kernel_rfl)
    refine qpu 7 hs fun a hs => ?_
    have hq := hs.pick [1, 3, 5, 7, 8, 9, 13, 14, 15, 16, 20, 21, 26, 27, 33, 34, 41] (L' := [(1, pp b_2), (3, vi q_7), (5, pp b_20), (7, .slice A_x0blocks x0.blocks.length c_x0blocks), (8, vi ((x0.blocks.length : Nat) : Int)), (9, vi q_8), (13, pp b_20), (14, vi e_16.kind), (15, .bool (decide (e_16.kind < 1))), (16, .bool (decide (e_16.kind < 1))), (20, .bool ((decide (e_16.kind < 1)) || (decide (e_16.kind > 3)))), (21, .bool ((decide (e_16.kind < 1)) || (decide (e_16.kind > 3)))), (26, .bool (((decide (e_16.kind < 1)) || (decide (e_16.kind > 3))) || (decide (e_16.fromF < q_7)))), (27, .bool (((decide (e_16.kind < 1)) || (decide (e_16.kind > 3))) || (decide (e_16.fromF < q_7)))), (33, .bool ((((decide (e_16.kind < 1)) || (decide (e_16.kind > 3))) || (decide (e_16.fromF < q_7))) || (decide (e_16.fromF ≥ e_16.to)))), (34, .bool true), (41, .bool true)]) (by kernel_rfl)
    exact hj_26 _ (hq.conv (by first | (rw [hb] <;> rfl) | rfl))
   ·replace hs := hs.known (t := 34) hb (by kernel_rfl)
    refine qpu 1 hs fun a hs => ?_
    refine qld 0 (ci e_16.to) hs rfl fun a hs => ?_
    refine qpu 1 hs fun a hs => ?_
    refine qld 1 (C.slc A_x0ops x0.ops.length c_x0ops) hs rfl fun a hs => ?_
    refine qpu 3 hs fun a hs => ?_
    have hq := hs.pick [1, 3, 5, 7, 8, 9, 13, 14, 15, 16, 20, 21, 26, 27, 33, 34, 41] (L' := [(1, pp b_2), (3, vi q_7), (5, pp b_20), (7, .slice A_x0blocks x0.blocks.length c_x0blocks), (8, vi ((x0.blocks.length : Nat) : Int)), (9, vi q_8), (13, pp b_20), (14, vi e_16.kind), (15, .bool (decide (e_16.kind < 1))), (16, .bool (decide (e_16.kind < 1))), (20, .bool ((decide (e_16.kind < 1)) || (decide (e_16.kind > 3)))), (21, .bool ((decide (e_16.kind < 1)) || (decide (e_16.kind > 3)))), (26, .bool (((decide (e_16.kind < 1)) || (decide (e_16.kind > 3))) || (decide (e_16.fromF < q_7)))), (27, .bool (((decide (e_16.kind < 1)) || (decide (e_16.kind > 3))) || (decide (e_16.fromF < q_7)))), (33, .bool ((((decide (e_16.kind < 1)) || (decide (e_16.kind > 3))) || (decide (e_16.fromF < q_7))) || (decide (e_16.fromF ≥ e_16.to)))), (34, .bool false), (41, .bool (decide (e_16.to > ((x0.ops.length : Nat) : Int))))]) (by kernel_rfl)
    exact hj_26 _ (hq.conv (by first | (rw [hb] <;> rfl) | rfl))
  intro a hs
  refine qpk 0 [1, 5, 7, 8, 9, 41] hs fun a hs => hK22 _ _ ?_
  clear hK22
  refine qcs (((((decide (e_16.kind < 1)) || (decide (e_16.kind > 3))) || (decide (e_16.fromF < q_7))) || (decide (e_16.fromF ≥ e_16.to))) || (decide (e_16.to > ((x0.ops.length : Nat) : Int)))) hs (fun hb => ?_) fun hb => ?_
  ·replace hm := bif_t hm hb
   refine qse 1 [(2, .bool false)] hs fun a hs => ?_
   refine wp_ret ?_
   exact Vk.ret1 (P := Try.prog) (fn := Try.f42) (R := RR) (.bool false) hs rfl (by kernel_rfl) (by obtain rfl := hret6 _ ((Option.some.inj hm).symm); subst hRR; exact ⟨rfl, hs.own.f1.drop.drop⟩)
  ·replace hm := bif_f hm hb
   refine wp_skip ?_
   refine hK21 _ _ ?_
   clear hK21
   refine Vk.region ?_
   refine qpu 1 hs fun a hs => ?_
   refine qld 0 (ci e_16.to) hs rfl fun a hs => ?_
   refine qpk 1 [1, 3, 7, 8, 9] hs fun a hs => hK11 _ _ ?_
   clear hK11
   refine Vk.region ?_
   refine qpk 2 [1, 3, 7, 8, 9] hs fun a hs => ?_
   refine ih (e_16.to, (IntKind.i64.wrap (q_8 + 1))) _ _ ⟨hm, hs.go [1, 3, 7, 8, 9] [1] 2 (by kernel_rfl) (by kernel_rfl) (by kernel_rfl)⟩
 ·replace hm := bif_f hm hb
  refine wp_exit ?_
  exact hx6 (Option.some.inj hm).symm _ _ (hs.go [] [] 1 (by kernel_rfl) (by kernel_rfl) (by kernel_rfl))


abbrev op_is.R (κ : Ctx) (S : List HP) (x0 : Int) (r : Bool) : Ending → World → Prop := fun e w' => e = .returned (.bool r) ∧ Ow κ w' (S)
def op_is.m (k : Nat) (x0 : Int) : Option Bool := some ((decide (x0 ≥ 1)) && (decide (x0 ≤ 12)))

set_option maxRecDepth 100000 in
set_option maxHeartbeats 4000000 in
theorem op_is.ok (k : Nat) (x0 : Int) (r : Bool) (hm : op_is.m k x0 = some r) (κ : Ctx) (w : World) (S : List HP) (ho : Ow κ w (S)) :
  Calls Try.prog 49 #[vi x0] w (op_is.R κ S x0 r) := by
 unfold op_is.m at hm
 generalize hRR : op_is.R κ S x0 r = RR
 refine qen [(0, vi x0)] Try.func49 Try.ntmps49 ho fun a hs => ?_
 refine qse 1 [(0, vi x0)] hs fun a hs => ?_
 refine qsr fun K2 hK2 => ?_
 refine qpu 3 hs fun a hs => ?_
 refine qsc 5 3 hs fun a hs => ?_
 refine qpk 1 [2] hs fun a hs => hK2 _ _ ?_
 clear hK2
 refine wp_ret ?_
 exact qr1 (.bool ((decide (x0 ≥ 1)) && (decide (x0 ≤ 12)))) hs rfl hRR (by cases hm; exact ⟨rfl, hs.own⟩)


def op_Regs.j2 (k : Nat) (x0 : Int) (x1 : Int) (p_19 : Bool) : Option (Int) := (bif p_19 then some 1 else (bif x0 == 12 then some x1 else some 0))
def op_Regs.j1 (k : Nat) (x0 : Int) (x1 : Int) (p_12 : Bool) : Option (Int) := (bif p_12 then some 2 else (bif x0 == 6 then op_Regs.j2 k x0 x1 (x0 == 6) else (bif x0 == 8 then op_Regs.j2 k x0 x1 (x0 == 8) else (bif x0 == 9 then op_Regs.j2 k x0 x1 (x0 == 9) else (bif x0 == 10 then op_Regs.j2 k x0 x1 (x0 == 10) else op_Regs.j2 k x0 x1 (x0 == 11))))))
abbrev op_Regs.R (κ : Ctx) (S : List HP) (x0 : Int) (x1 : Int) (r : Int) : Ending → World → Prop := fun e w' => e = .returned (vi r) ∧ Ow κ w' (S)
def op_Regs.m (k : Nat) (x0 : Int) (x1 : Int) : Option Int := (bif (x1 != 2) && (x1 != 3) then some 0 else (bif x0 == 2 then some (IntKind.i64.wrap (x1 - 1)) else (bif x0 == 5 then op_Regs.j1 k x0 x1 (x0 == 5) else op_Regs.j1 k x0 x1 (x0 == 7))))

set_option maxRecDepth 100000 in
set_option maxHeartbeats 4000000 in
theorem op_Regs.ok (k : Nat) (x0 : Int) (x1 : Int) (r : Int) (hm : op_Regs.m k x0 x1 = some r) (κ : Ctx) (w : World) (S : List HP) (ho : Ow κ w (S)) :
  Calls Try.prog 50 #[vi x0, vi x1] w (op_Regs.R κ S x0 x1 r) := by
 unfold op_Regs.m at hm
 generalize hRR : op_Regs.R κ S x0 x1 r = RR
 refine qen [(0, vi x0), (1, vi x1)] Try.func50 Try.ntmps50 ho fun a hs => ?_
 refine qse 1 [(0, vi x0), (1, vi x1)] hs fun a hs => ?_
 refine Vk.seq fun K2 hK2 => ?_
 refine qsr fun K3 hK3 => ?_
 refine qpu 3 hs fun a hs => ?_
 refine qsc 7 3 hs fun a hs => ?_
 refine qpk 0 [0, 1, 10] hs fun a hs => hK3 _ _ ?_
 clear hK3
 refine qcs ((x1 != 2) && (x1 != 3)) hs (fun hb => ?_) fun hb => ?_
 ·replace hm := bif_t hm hb
  refine qse 1 [(4, vi 0)] hs fun a hs => ?_
  refine wp_ret ?_
  exact qr1 (vi 0) hs rfl hRR (by cases hm; exact ⟨rfl, hs.own⟩)
 ·replace hm := bif_f hm hb
  refine wp_skip ?_
  refine hK2 _ _ ?_
  clear hK2
  refine Vk.seq fun K6 hK6 => ?_
  refine qse 1 [(1, vi x1), (11, vi x0)] hs fun a hs => ?_
  refine wp_block ?_
  refine qsk 2 [1, 11, 12] hs fun a hs => ?_
  refine qcs (x0 == 2) hs (fun hb => ?_) fun hb => ?_
  ·replace hm := bif_t hm hb
   refine qsk 3 [4] hs fun a hs => ?_
   refine wp_ret ?_
   exact qr1 (vi (IntKind.i64.wrap (x1 - 1))) hs rfl hRR (by cases hm; exact ⟨rfl, hs.own⟩)
  ·replace hm := bif_f hm hb
   refine Vk.seq fun K10 hK10 => ?_
   have hj10 : ∀ (p_12 : Bool), op_Regs.j1 k x0 x1 p_12 = some r → ∀ (a : Act) (w : World), St 28 a w κ [(1, vi x1), (11, vi x0), (16, .bool p_12)] (S) → K10 a w := by
    intro p_12 hm a w hs
    unfold op_Regs.j1 at hm
    refine hK10 _ _ ?_
    refine qcs (p_12) hs (fun hb => ?_) fun hb => ?_
    ·replace hm := bif_t hm hb
     refine qse 1 [(4, vi 2)] hs fun a hs => ?_
     refine wp_ret ?_
     exact qr1 (vi 2) hs rfl hRR (by cases hm; exact ⟨rfl, hs.own⟩)
    ·replace hm := bif_f hm hb
     refine Vk.seq fun K14 hK14 => ?_
     have hj14 : ∀ (p_19 : Bool), op_Regs.j2 k x0 x1 p_19 = some r → ∀ (a : Act) (w : World), St 28 a w κ [(1, vi x1), (11, vi x0), (19, .bool p_19)] (S) → K14 a w := by
      intro p_19 hm a w hs
      unfold op_Regs.j2 at hm
      refine hK14 _ _ ?_
      refine qcs (p_19) hs (fun hb => ?_) fun hb => ?_
      ·replace hm := bif_t hm hb
       refine qse 1 [(4, vi 1)] hs fun a hs => ?_
       refine wp_ret ?_
       exact qr1 (vi 1) hs rfl hRR (by cases hm; exact ⟨rfl, hs.own⟩)
      ·replace hm := bif_f hm hb
       refine qsk 2 [1, 25] hs fun a hs => ?_
       refine qcs (x0 == 12) hs (fun hb => ?_) fun hb => ?_
       ·replace hm := bif_t hm hb
        refine qse 2 [(4, vi x1)] hs fun a hs => ?_
        refine wp_ret ?_
        exact qr1 (vi x1) hs rfl hRR (by cases hm; exact ⟨rfl, hs.own⟩)
       ·replace hm := bif_f hm hb
        refine wp_skip ?_
        refine hK6 _ _ ?_
        clear hK6
        refine qse 1 [(4, vi 0)] hs fun a hs => ?_
        refine wp_ret ?_
        exact qr1 (vi 0) hs rfl hRR (by cases hm; exact ⟨rfl, hs.own⟩)
     refine qse 2 [(1, vi x1), (11, vi x0), (19, .bool (x0 == 6))] hs fun a hs => ?_
     refine qcs (x0 == 6) hs (fun hb => ?_) fun hb => ?_
     ·replace hm := bif_t hm hb
      refine wp_skip ?_
      exact hj14 (x0 == 6) hm _ _ (hs.go [1, 11, 19] [] 0 (by kernel_rfl) (by kernel_rfl) (by kernel_rfl))
     ·replace hm := bif_f hm hb
      refine qse 2 [(1, vi x1), (11, vi x0), (19, .bool (x0 == 8))] hs fun a hs => ?_
      refine qcs (x0 == 8) hs (fun hb => ?_) fun hb => ?_
      ·replace hm := bif_t hm hb
       refine wp_skip ?_
       exact hj14 (x0 == 8) hm _ _ (hs.go [1, 11, 19] [] 0 (by kernel_rfl) (by kernel_rfl) (by kernel_rfl))
      ·replace hm := bif_f hm hb
       refine qse 2 [(1, vi x1), (11, vi x0), (19, .bool (x0 == 9))] hs fun a hs => ?_
       refine qcs (x0 == 9) hs (fun hb => ?_) fun hb => ?_
       ·replace hm := bif_t hm hb
        refine wp_skip ?_
        exact hj14 (x0 == 9) hm _ _ (hs.go [1, 11, 19] [] 0 (by kernel_rfl) (by kernel_rfl) (by kernel_rfl))
       ·replace hm := bif_f hm hb
        refine qse 2 [(1, vi x1), (11, vi x0), (19, .bool (x0 == 10))] hs fun a hs => ?_
        refine qcs (x0 == 10) hs (fun hb => ?_) fun hb => ?_
        ·replace hm := bif_t hm hb
         refine wp_skip ?_
         exact hj14 (x0 == 10) hm _ _ (hs.go [1, 11, 19] [] 0 (by kernel_rfl) (by kernel_rfl) (by kernel_rfl))
        ·replace hm := bif_f hm hb
         refine Vk.region ?_
         refine qpe 2 [(1, vi x1), (11, vi x0), (19, .bool (x0 == 11))] hs fun a hs => ?_
         exact hj14 (x0 == 11) hm _ _ (hs.go [1, 11, 19] [] 0 (by kernel_rfl) (by kernel_rfl) (by kernel_rfl))
   refine qse 2 [(1, vi x1), (11, vi x0), (16, .bool (x0 == 5))] hs fun a hs => ?_
   refine qcs (x0 == 5) hs (fun hb => ?_) fun hb => ?_
   ·replace hm := bif_t hm hb
    refine wp_skip ?_
    exact hj10 (x0 == 5) hm _ _ (hs.go [1, 11, 16] [] 0 (by kernel_rfl) (by kernel_rfl) (by kernel_rfl))
   ·replace hm := bif_f hm hb
    refine Vk.region ?_
    refine qpe 2 [(1, vi x1), (11, vi x0), (16, .bool (x0 == 7))] hs fun a hs => ?_
    exact hj10 (x0 == 7) hm _ _ (hs.go [1, 11, 16] [] 0 (by kernel_rfl) (by kernel_rfl) (by kernel_rfl))


def op_constant.j2 (k : Nat) (x0 : Tapi_Op) (p_15 : Bool) : Option (Bool) := (bif p_15 then some true else some (x0.c == 0))
def op_constant.j1 (k : Nat) (x0 : Tapi_Op) (p_8 : Bool) : Option (Bool) := (bif p_8 then some (decide (x0.c < 64)) else (bif x0.kind == 2 then some (decide (x0.c < 1048576)) else (bif x0.kind == 3 then op_constant.j2 k x0 (x0.kind == 3) else (bif x0.kind == 4 then op_constant.j2 k x0 (x0.kind == 4) else op_constant.j2 k x0 (x0.kind == 8)))))
abbrev op_constant.R (κ : Ctx) (S : List HP) (x0 : Tapi_Op) (r : Bool) : Ending → World → Prop := fun e w' => e = .returned (.bool r) ∧ Ow κ w' (S)
def op_constant.m (k : Nat) (x0 : Tapi_Op) : Option Bool := (bif x0.kind == 9 then op_constant.j1 k x0 (x0.kind == 9) else (bif x0.kind == 10 then op_constant.j1 k x0 (x0.kind == 10) else op_constant.j1 k x0 (x0.kind == 11)))

set_option maxRecDepth 100000 in
set_option maxHeartbeats 4000000 in
theorem op_constant.ok (k : Nat) (x0 : Tapi_Op) (r : Bool) (hm : op_constant.m k x0 = some r) (κ : Ctx) (w : World) (S : List HP) (ho : Ow κ w (S)) :
  Calls Try.prog 51 #[.agg (vals [ci x0.kind, ci x0.dom, ci x0.a, ci x0.b, ci x0.d, cw x0.c])] w (op_constant.R κ S x0 r) := by
 unfold op_constant.m at hm
 generalize hRR : op_constant.R κ S x0 r = RR
 refine qen [(0, .agg (vals [ci x0.kind, ci x0.dom, ci x0.a, ci x0.b, ci x0.d, cw x0.c]))] Try.func51 Try.ntmps51 ho fun a hs => ?_
 refine qsr fun K1 hK1 => ?_
 refine qbx 0 85 [ci x0.kind, ci x0.dom, ci x0.a, ci x0.b, ci x0.d, cw x0.c] 1 hs fun b_2 w a hs => ?_
 refine qpe 1 [(1, pp b_2)] hs fun a hs => hK1 _ _ ?_
 clear hK1
 refine Vk.seq fun K3 hK3 => ?_
 refine qsr fun K4 hK4 => ?_
 refine qpu 1 hs fun a hs => ?_
 refine qld 0 (ci x0.kind) hs rfl fun a hs => ?_
 refine qpk 0 [1, 4] hs fun a hs => hK4 _ _ ?_
 clear hK4
 refine wp_block ?_
 refine Vk.seq fun K5 hK5 => ?_
 have hj5 : ∀ (p_8 : Bool), op_constant.j1 k x0 p_8 = some r → ∀ (a : Act) (w : World), St 24 a w κ [(1, pp b_2), (4, vi x0.kind), (5, .bool p_8)] (pt b_2 (blk (Tapi_Op.cells x0) 85) :: S) → K5 a w := by
  intro p_8 hm a w hs
  unfold op_constant.j1 at hm
  refine hK5 _ _ ?_
  refine qcs (p_8) hs (fun hb => ?_) fun hb => ?_
  ·replace hm := bif_t hm hb
   refine qsr fun K9 hK9 => ?_
   refine qpu 1 hs fun a hs => ?_
   refine qld 0 (cw x0.c) hs rfl fun a hs => ?_
   refine qpk 2 [2] hs fun a hs => hK9 _ _ ?_
   clear hK9
   refine wp_ret ?_
   exact qr1 (.bool (decide (x0.c < 64))) hs rfl hRR (by cases hm; exact ⟨rfl, hs.own.drop⟩)
  ·replace hm := bif_f hm hb
   refine qsk 2 [1, 4, 12] hs fun a hs => ?_
   refine qcs (x0.kind == 2) hs (fun hb => ?_) fun hb => ?_
   ·replace hm := bif_t hm hb
    refine qsr fun K11 hK11 => ?_
    refine qpu 1 hs fun a hs => ?_
    refine qld 0 (cw x0.c) hs rfl fun a hs => ?_
    refine qpk 2 [2] hs fun a hs => hK11 _ _ ?_
    clear hK11
    refine wp_ret ?_
    exact qr1 (.bool (decide (x0.c < 1048576))) hs rfl hRR (by cases hm; exact ⟨rfl, hs.own.drop⟩)
   ·replace hm := bif_f hm hb
    refine Vk.seq fun K12 hK12 => ?_
    have hj12 : ∀ (p_15 : Bool), op_constant.j2 k x0 p_15 = some r → ∀ (a : Act) (w : World), St 24 a w κ [(1, pp b_2), (17, .bool p_15)] (pt b_2 (blk (Tapi_Op.cells x0) 85) :: S) → K12 a w := by
     intro p_15 hm a w hs
     unfold op_constant.j2 at hm
     refine hK12 _ _ ?_
     refine qcs (p_15) hs (fun hb => ?_) fun hb => ?_
     ·replace hm := bif_t hm hb
      refine qse 1 [(2, .bool true)] hs fun a hs => ?_
      refine wp_ret ?_
      exact qr1 (.bool true) hs rfl hRR (by cases hm; exact ⟨rfl, hs.own.drop⟩)
     ·replace hm := bif_f hm hb
      refine wp_skip ?_
      refine hK3 _ _ ?_
      clear hK3
      refine qsr fun K17 hK17 => ?_
      refine qpu 1 hs fun a hs => ?_
      refine qld 0 (cw x0.c) hs rfl fun a hs => ?_
      refine qpe 2 [(2, .bool (x0.c == 0))] hs fun a hs => hK17 _ _ ?_
      clear hK17
      refine wp_ret ?_
      exact qr1 (.bool (x0.c == 0)) hs rfl hRR (by cases hm; exact ⟨rfl, hs.own.drop⟩)
    refine qse 2 [(1, pp b_2), (4, vi x0.kind), (17, .bool (x0.kind == 3))] hs fun a hs => ?_
    refine qcs (x0.kind == 3) hs (fun hb => ?_) fun hb => ?_
    ·replace hm := bif_t hm hb
     refine wp_skip ?_
     exact hj12 (x0.kind == 3) hm _ _ (hs.go [1, 17] [0] 1 (by kernel_rfl) (by kernel_rfl) (by kernel_rfl))
    ·replace hm := bif_f hm hb
     refine qse 2 [(1, pp b_2), (4, vi x0.kind), (17, .bool (x0.kind == 4))] hs fun a hs => ?_
     refine qcs (x0.kind == 4) hs (fun hb => ?_) fun hb => ?_
     ·replace hm := bif_t hm hb
      refine wp_skip ?_
      exact hj12 (x0.kind == 4) hm _ _ (hs.go [1, 17] [0] 1 (by kernel_rfl) (by kernel_rfl) (by kernel_rfl))
     ·replace hm := bif_f hm hb
      refine Vk.region ?_
      refine qpe 2 [(1, pp b_2), (17, .bool (x0.kind == 8))] hs fun a hs => ?_
      exact hj12 (x0.kind == 8) hm _ _ (hs.go [1, 17] [0] 1 (by kernel_rfl) (by kernel_rfl) (by kernel_rfl))
 refine qse 2 [(1, pp b_2), (4, vi x0.kind), (5, .bool (x0.kind == 9))] hs fun a hs => ?_
 refine qcs (x0.kind == 9) hs (fun hb => ?_) fun hb => ?_
 ·replace hm := bif_t hm hb
  refine wp_skip ?_
  exact hj5 (x0.kind == 9) hm _ _ (hs.go [1, 4, 5] [0] 1 (by kernel_rfl) (by kernel_rfl) (by kernel_rfl))
 ·replace hm := bif_f hm hb
  refine qse 2 [(1, pp b_2), (4, vi x0.kind), (5, .bool (x0.kind == 10))] hs fun a hs => ?_
  refine qcs (x0.kind == 10) hs (fun hb => ?_) fun hb => ?_
  ·replace hm := bif_t hm hb
   refine wp_skip ?_
   exact hj5 (x0.kind == 10) hm _ _ (hs.go [1, 4, 5] [0] 1 (by kernel_rfl) (by kernel_rfl) (by kernel_rfl))
  ·replace hm := bif_f hm hb
   refine Vk.region ?_
   refine qpe 2 [(1, pp b_2), (4, vi x0.kind), (5, .bool (x0.kind == 11))] hs fun a hs => ?_
   exact hj5 (x0.kind == 11) hm _ _ (hs.go [1, 4, 5] [0] 1 (by kernel_rfl) (by kernel_rfl) (by kernel_rfl))


def op_Right.l1 (x0 : Tapi_Op) (x1 : Int) (v_16 : Int) : Nat → Int → Option (Sum (Bool) (Unit))
 | 0, _ => none
 | k + 1, q_20 => (bif decide (q_20 < 3) then (if 0 ≤ q_20 ∧ q_20 < 3 then (getI .i64 [ci x0.a, ci x0.b, ci x0.d] q_20.toNat).bind fun v_27 => (bif decide (q_20 < v_16) then (bif decide (v_27 < 0) then some (.inl false) else (bif decide (v_27 ≥ x1) then some (.inl false) else (bif decide (q_20 ≥ v_16) then (bif v_27 != (-1) then some (.inl false) else op_Right.l1 x0 x1 v_16 k (IntKind.i64.wrap (q_20 + 1))) else op_Right.l1 x0 x1 v_16 k (IntKind.i64.wrap (q_20 + 1))))) else (bif decide (q_20 ≥ v_16) then (bif v_27 != (-1) then some (.inl false) else op_Right.l1 x0 x1 v_16 k (IntKind.i64.wrap (q_20 + 1))) else op_Right.l1 x0 x1 v_16 k (IntKind.i64.wrap (q_20 + 1)))) else none) else some (.inr ()))
def op_Right.j1 (k : Nat) (x0 : Tapi_Op) (x1 : Int) (x2 : Int) (p_11 : Bool) : Option (Bool) := (bif p_11 then some false else (op_Regs.m k x0.kind x2).bind fun v_16 => (op_Right.l1 x0 x1 v_16 k 0).bind fun x => match x with | .inl v => some v | .inr () => (op_constant.m k x0).bind fun v_40 => some v_40)
abbrev op_Right.R (κ : Ctx) (S : List HP) (x0 : Tapi_Op) (x1 : Int) (x2 : Int) (r : Bool) : Ending → World → Prop := fun e w' => e = .returned (.bool r) ∧ Ow κ w' (S)
def op_Right.m (k : Nat) (x0 : Tapi_Op) (x1 : Int) (x2 : Int) : Option Bool := (bif (x2 != 2) && (x2 != 3) then op_Right.j1 k x0 x1 x2 true else (op_is.m k x0.kind).bind fun v_8 => (bif ((!v_8) || (decide (x0.dom < (-1)))) || (decide (x0.dom ≥ x2)) then op_Right.j1 k x0 x1 x2 true else (bif x0.kind == 12 then op_Right.j1 k x0 x1 x2 (decide (x0.dom ≥ 0)) else op_Right.j1 k x0 x1 x2 false)))

set_option maxRecDepth 100000 in
set_option maxHeartbeats 4000000 in
theorem op_Right.ok (k : Nat) (x0 : Tapi_Op) (x1 : Int) (x2 : Int) (r : Bool) (hm : op_Right.m k x0 x1 x2 = some r) (κ : Ctx) (w : World) (S : List HP) (ho : Ow κ w (S)) :
  Calls Try.prog 43 #[.agg (vals [ci x0.kind, ci x0.dom, ci x0.a, ci x0.b, ci x0.d, cw x0.c]), vi x1, vi x2] w (op_Right.R κ S x0 x1 x2 r) := by
 unfold op_Right.m at hm
 generalize hRR : op_Right.R κ S x0 x1 x2 r = RR
 refine qen [(0, .agg (vals [ci x0.kind, ci x0.dom, ci x0.a, ci x0.b, ci x0.d, cw x0.c])), (1, vi x1), (2, vi x2)] Try.func43 Try.ntmps43 ho fun a hs => ?_
 refine qsr fun K1 hK1 => ?_
 refine qbx 0 85 [ci x0.kind, ci x0.dom, ci x0.a, ci x0.b, ci x0.d, cw x0.c] 3 hs fun b_2 w a hs => ?_
 refine qpk 1 [1, 2, 3] hs fun a hs => hK1 _ _ ?_
 clear hK1
 refine Vk.seq fun K3 hK3 => ?_
 refine Vk.seq fun K4 hK4 => ?_
 have hj4 : ∀ (p_11 : Bool), op_Right.j1 k x0 x1 x2 p_11 = some r → ∀ (a : Act) (w : World), St 82 a w κ [(1, vi x1), (2, vi x2), (3, pp b_2), (42, .bool p_11)] (pt b_2 (blk (Tapi_Op.cells x0) 85) :: S) → K4 a w := by
  intro p_11 hm a w hs
  unfold op_Right.j1 at hm
  refine hK4 _ _ ?_
  refine qcs (p_11) hs (fun hb => ?_) fun hb => ?_
  ·replace hm := bif_t hm hb
   refine qse 1 [(6, .bool false)] hs fun a hs => ?_
   refine wp_ret ?_
   exact qr1 (.bool false) hs rfl hRR (by cases hm; exact ⟨rfl, hs.own.drop⟩)
  ·replace hm := bif_f hm hb
   refine wp_skip ?_
   refine hK3 _ _ ?_
   clear hK3
   refine qsr fun K13 hK13 => ?_
   refine qpu 1 hs fun a hs => ?_
   refine qld 0 (ci x0.kind) hs rfl fun a hs => ?_
   refine qpu 1 hs fun a hs => ?_
   obtain ⟨v_16, h_15, hm⟩ := bind_t hm
   refine qcl (op_Regs.ok _ _ _ _ h_15 _ _ (pt b_2 (blk (Tapi_Op.cells x0) 85) :: S) hs.own) hs fun w a hs => ?_
   refine qpk 1 [1, 3, 7] hs fun a hs => hK13 _ _ ?_
   clear hK13
   refine Vk.seq fun K17 hK17 => ?_
   refine qsr fun K18 hK18 => ?_
   refine qpu 1 hs fun a hs => ?_
   refine qld 0 (ci x0.a) hs rfl fun a hs => ?_
   refine qpu 1 hs fun a hs => ?_
   refine qld 0 (ci x0.b) hs rfl fun a hs => ?_
   refine qpu 1 hs fun a hs => ?_
   refine qld 0 (ci x0.d) hs rfl fun a hs => ?_
   refine qpk 2 [1, 3, 7, 53, 54] hs fun a hs => hK18 _ _ ?_
   clear hK18
   refine wp_block ?_
   obtain ⟨r19, hl19, hm⟩ := bind_t hm
   have hx19 : r19 = Sum.inr () → ∀ (a : Act) (w : World), St 82 a w κ [(3, pp b_2)] (pt b_2 (blk (Tapi_Op.cells x0) 85) :: S) → K17 a w := by
    intro he a w hs
    subst r19
    refine hK17 _ _ ?_
    clear hK17
    refine qsr fun K37 hK37 => ?_
    refine qln 0 ([ci x0.kind, ci x0.dom, ci x0.a, ci x0.b, ci x0.d, cw x0.c]) hs rfl fun a hs => ?_
    obtain ⟨v_40, h_39, hm⟩ := bind_t hm
    refine qcl (op_constant.ok _ _ _ h_39 _ _ (pt b_2 (blk (Tapi_Op.cells x0) 85) :: S) hs.own) hs fun w a hs => ?_
    refine qpe 1 [(6, .bool v_40)] hs fun a hs => hK37 _ _ ?_
    clear hK37
    refine wp_ret ?_
    exact qr1 (.bool v_40) hs rfl hRR (by cases hm; exact ⟨rfl, hs.own.drop⟩)
   have hret19 : ∀ v, r19 = Sum.inl v → v = r := by intro v he; subst r19; exact Option.some.inj hm
   refine Vk.loopBy (fun k (s : Int) a w => op_Right.l1 x0 x1 v_16 k s = some r19 ∧ St 82 a w κ [(1, vi x1), (3, pp b_2), (7, vi v_16), (53, .agg (vals [ci x0.a, ci x0.b, ci x0.d])), (54, vi s)] (pt b_2 (blk (Tapi_Op.cells x0) 85) :: S)) k 0 ⟨hl19, hs.go [1, 3, 7, 53, 54] [0] 1 (by kernel_rfl) (by kernel_rfl) (by kernel_rfl)⟩ (fun s a w h => by obtain ⟨h1, _⟩ := h; simp [op_Right.l1] at h1) (fun k KL19 ih q_20 a w h => ?_)
   obtain ⟨hm, hs⟩ := h
   try dsimp only at hm hs
   rw [op_Right.l1] at hm
   refine qsk 1 [1, 3, 7, 53, 54, 55] hs fun a hs => ?_
   refine Vk.seq fun K22 hK22 => ?_
   refine qcs (decide (q_20 < 3)) hs (fun hb => ?_) fun hb => ?_
   ·replace hm := bif_t hm hb
    refine wp_skip ?_
    refine hK22 _ _ ?_
    clear hK22
    refine Vk.seq fun K23 hK23 => ?_
    refine wp_block ?_
    refine qsr fun K24 hK24 => ?_
    refine qpu 1 hs fun a hs => ?_
    obtain ⟨h_25, hm⟩ := ite_t hm
    obtain ⟨v_27, h_26, hm⟩ := bind_t hm
    refine qva (vi v_27) (op := (.index 49 (.tmp 53) (.tmp 54))) hs (fun o ho => run_idxVal (k := .i64) (cs := [ci x0.a, ci x0.b, ci x0.d]) (c := ci v_27) ho (by kernel_rfl) (by kernel_rfl) (len := 3) (et := 3) (by kernel_rfl) (by kernel_rfl) (by kernel_rfl) (by kernel_rfl) h_25 (getI_some h_26) _) fun a hs => ?_
    refine qpk 2 [1, 3, 7, 8, 9, 53, 54] hs fun a hs => hK24 _ _ ?_
    clear hK24
    refine qsr fun K28 hK28 => ?_
    refine qpu 4 hs fun a hs => ?_
    rcases Bool.eq_false_or_eq_true (decide (q_20 < v_16)) with hb | hb
    ·replace hm := bif_t hm hb
     replace hs := hs.known (t := 61) hb (by kernel_rfl)
     refine qpu 3 hs fun a hs => ?_
     rcases Bool.eq_false_or_eq_true (decide (v_27 < 0)) with hb | hb
     ·replace hm := bif_t hm hb
      replace hs := hs.known (t := 64) hb (by kernel_rfl)
      refine qpk 14 [1, 3, 7, 53, 54, 62, 63, 64, 68, 78] hs fun a hs => hK28 _ _ ?_
      refine qct hs ?_
      refine qse 1 [(6, .bool false)] hs fun a hs => ?_
      refine wp_ret ?_
      exact Vk.ret1 (P := Try.prog) (fn := Try.f43) (R := RR) (.bool false) hs rfl (by kernel_rfl) (by obtain rfl := hret19 _ ((Option.some.inj hm).symm); subst hRR; exact ⟨rfl, hs.own.drop⟩)
     ·replace hm := bif_f hm hb
      replace hs := hs.known (t := 64) hb (by kernel_rfl)
      refine qpu 6 hs fun a hs => ?_
      rcases Bool.eq_false_or_eq_true (decide (v_27 ≥ x1)) with hb | hb
      ·replace hm := bif_t hm hb
       replace hs := hs.known (t := 70) hb (by kernel_rfl)
       refine qpk 8 [1, 3, 7, 53, 54, 62, 63, 64, 65, 66, 67, 68, 78] hs fun a hs => hK28 _ _ ?_
       refine qct hs ?_
       refine qse 1 [(6, .bool false)] hs fun a hs => ?_
       refine wp_ret ?_
       exact Vk.ret1 (P := Try.prog) (fn := Try.f43) (R := RR) (.bool false) hs rfl (by kernel_rfl) (by obtain rfl := hret19 _ ((Option.some.inj hm).symm); subst hRR; exact ⟨rfl, hs.own.drop⟩)
      ·replace hm := bif_f hm hb
       replace hs := hs.known (t := 70) hb (by kernel_rfl)
       refine qpu 4 hs fun a hs => ?_
       rcases Bool.eq_false_or_eq_true (decide (q_20 ≥ v_16)) with hb | hb
       ·replace hm := bif_t hm hb
        replace hs := hs.known (t := 74) hb (by kernel_rfl)
        refine qpk 4 [1, 3, 7, 53, 54, 62, 63, 64, 65, 66, 67, 68, 71, 72, 73, 74, 75, 76, 77, 78] hs fun a hs => hK28 _ _ ?_
        refine qcs (v_27 != (-1)) hs (fun hb => ?_) fun hb => ?_
        ·replace hm := bif_t hm hb
         refine qse 1 [(6, .bool false)] hs fun a hs => ?_
         refine wp_ret ?_
         exact Vk.ret1 (P := Try.prog) (fn := Try.f43) (R := RR) (.bool false) hs rfl (by kernel_rfl) (by obtain rfl := hret19 _ ((Option.some.inj hm).symm); subst hRR; exact ⟨rfl, hs.own.drop⟩)
        ·replace hm := bif_f hm hb
         refine wp_skip ?_
         refine hK23 _ _ ?_
         refine Vk.region ?_
         refine qpk 2 [1, 3, 7, 53, 54, 62, 63, 64, 65, 66, 67, 68, 71, 72, 73, 74, 75, 76, 77] hs fun a hs => ?_
         refine ih (IntKind.i64.wrap (q_20 + 1)) _ _ ⟨hm, hs.go [1, 3, 7, 53, 54] [0] 1 (by kernel_rfl) (by kernel_rfl) (by kernel_rfl)⟩
       ·replace hm := bif_f hm hb
        replace hs := hs.known (t := 74) hb (by kernel_rfl)
        refine qpk 4 [1, 3, 7, 53, 54, 62, 63, 64, 65, 66, 67, 68, 71, 72, 73, 74, 77, 78] hs fun a hs => hK28 _ _ ?_
        refine qcf hs ?_
        refine wp_skip ?_
        refine hK23 _ _ ?_
        refine Vk.region ?_
        refine qpk 2 [1, 3, 7, 53, 54, 62, 63, 64, 65, 66, 67, 68, 71, 72, 73, 74, 77] hs fun a hs => ?_
        refine ih (IntKind.i64.wrap (q_20 + 1)) _ _ ⟨hm, hs.go [1, 3, 7, 53, 54] [0] 1 (by kernel_rfl) (by kernel_rfl) (by kernel_rfl)⟩
    ·replace hm := bif_f hm hb
     replace hs := hs.known (t := 61) hb (by kernel_rfl)
     refine qpu 13 hs fun a hs => ?_
     rcases Bool.eq_false_or_eq_true (decide (q_20 ≥ v_16)) with hb | hb
     ·replace hm := bif_t hm hb
      replace hs := hs.known (t := 74) hb (by kernel_rfl)
      refine qpk 4 [1, 3, 7, 53, 54, 71, 72, 73, 74, 75, 76, 77, 78] hs fun a hs => hK28 _ _ ?_
      refine qcs (v_27 != (-1)) hs (fun hb => ?_) fun hb => ?_
      ·replace hm := bif_t hm hb
       refine qse 1 [(6, .bool false)] hs fun a hs => ?_
       refine wp_ret ?_
       exact Vk.ret1 (P := Try.prog) (fn := Try.f43) (R := RR) (.bool false) hs rfl (by kernel_rfl) (by obtain rfl := hret19 _ ((Option.some.inj hm).symm); subst hRR; exact ⟨rfl, hs.own.drop⟩)
      ·replace hm := bif_f hm hb
       refine wp_skip ?_
       refine hK23 _ _ ?_
       refine Vk.region ?_
       refine qpk 2 [1, 3, 7, 53, 54, 71, 72, 73, 74, 75, 76, 77] hs fun a hs => ?_
       refine ih (IntKind.i64.wrap (q_20 + 1)) _ _ ⟨hm, hs.go [1, 3, 7, 53, 54] [0] 1 (by kernel_rfl) (by kernel_rfl) (by kernel_rfl)⟩
     ·replace hm := bif_f hm hb
      replace hs := hs.known (t := 74) hb (by kernel_rfl)
      refine qpk 4 [1, 3, 7, 53, 54, 71, 72, 73, 74, 77, 78] hs fun a hs => hK28 _ _ ?_
      refine qcf hs ?_
      refine wp_skip ?_
      refine hK23 _ _ ?_
      refine Vk.region ?_
      refine qpk 2 [1, 3, 7, 53, 54, 71, 72, 73, 74, 77] hs fun a hs => ?_
      refine ih (IntKind.i64.wrap (q_20 + 1)) _ _ ⟨hm, hs.go [1, 3, 7, 53, 54] [0] 1 (by kernel_rfl) (by kernel_rfl) (by kernel_rfl)⟩
   ·replace hm := bif_f hm hb
    refine wp_exit ?_
    exact hx19 (Option.some.inj hm).symm _ _ (hs.go [3] [0] 1 (by kernel_rfl) (by kernel_rfl) (by kernel_rfl))
 refine Vk.region ?_
 refine qpu 3 hs fun a hs => ?_
 refine qsc 12 3 hs fun a hs => ?_
 refine qpu 1 hs fun a hs => ?_
 rcases Bool.eq_false_or_eq_true ((x2 != 2) && (x2 != 3)) with hb | hb
 ·replace hm := bif_t hm hb
  replace hs := hs.known (t := 16) hb (by kernel_rfl)
  refine qpe 26 [(1, vi x1), (2, vi x2), (3, pp b_2), (42, .bool true)] hs fun a hs => ?_
  exact hj4 true hm _ _ (hs.go [1, 2, 3, 42] [0] 1 (by kernel_rfl) (by kernel_rfl) (by kernel_rfl))
 ·replace hm := bif_f hm hb
  replace hs := hs.known (t := 16) hb (by kernel_rfl)
  refine qpu 1 hs fun a hs => ?_
  refine qld 0 (ci x0.kind) hs rfl fun a hs => ?_
  obtain ⟨v_8, h_7, hm⟩ := bind_t hm
  refine qcl (op_is.ok _ _ _ h_7 _ _ (pt b_2 (blk (Tapi_Op.cells x0) 85) :: S) hs.own) hs fun w a hs => ?_
  refine qpu 3 hs fun a hs => ?_
  suffices hj_9 : ∀ a, St 82 a w κ [(1, vi x1), (2, vi x2), (3, pp b_2), (10, vi x2), (11, .bool (x2 != 2)), (12, .bool (x2 != 2)), (15, .bool ((x2 != 2) && (x2 != 3))), (16, .bool false), (17, pp b_2), (18, vi x0.kind), (19, .bool v_8), (20, .bool (!v_8)), (21, .bool (!v_8)), (22, .bool (!v_8)), (26, .bool ((!v_8) || (decide (x0.dom < (-1)))))] (pt b_2 (blk (Tapi_Op.cells x0) 85) :: S) → wpFrom Try.prog _ _ 17 a w by
   rcases Bool.eq_false_or_eq_true (!v_8) with hb | hb
   ·replace hs := hs.known (t := 22) hb (by kernel_rfl)
    refine qpu 4 hs fun a hs => ?_
    have hq := hs.pick [1, 2, 3, 10, 11, 12, 15, 16, 17, 18, 19, 20, 21, 22, 26] (L' := [(1, vi x1), (2, vi x2), (3, pp b_2), (10, vi x2), (11, .bool (x2 != 2)), (12, .bool (x2 != 2)), (15, .bool ((x2 != 2) && (x2 != 3))), (16, .bool false), (17, pp b_2), (18, vi x0.kind), (19, .bool v_8), (20, .bool (!v_8)), (21, .bool (!v_8)), (22, .bool true), (26, .bool true)]) (by kernel_rfl)
    exact hj_9 _ (hq.conv (by first | (rw [hb] <;> rfl) | rfl))
   ·replace hs := hs.known (t := 22) hb (by kernel_rfl)
    refine qpu 1 hs fun a hs => ?_
    refine qld 0 (ci x0.dom) hs rfl fun a hs => ?_
    refine qpu 2 hs fun a hs => ?_
    have hq := hs.pick [1, 2, 3, 10, 11, 12, 15, 16, 17, 18, 19, 20, 21, 22, 26] (L' := [(1, vi x1), (2, vi x2), (3, pp b_2), (10, vi x2), (11, .bool (x2 != 2)), (12, .bool (x2 != 2)), (15, .bool ((x2 != 2) && (x2 != 3))), (16, .bool false), (17, pp b_2), (18, vi x0.kind), (19, .bool v_8), (20, .bool (!v_8)), (21, .bool (!v_8)), (22, .bool false), (26, .bool (decide (x0.dom < (-1))))]) (by kernel_rfl)
    exact hj_9 _ (hq.conv (by first | (rw [hb] <;> rfl) | rfl))
  intro a hs
  refine qpu 1 hs fun a hs => ?_
  suffices hj_10 : ∀ a, St 82 a w κ [(1, vi x1), (2, vi x2), (3, pp b_2), (10, vi x2), (11, .bool (x2 != 2)), (12, .bool (x2 != 2)), (15, .bool ((x2 != 2) && (x2 != 3))), (16, .bool false), (17, pp b_2), (18, vi x0.kind), (19, .bool v_8), (20, .bool (!v_8)), (21, .bool (!v_8)), (22, .bool (!v_8)), (26, .bool ((!v_8) || (decide (x0.dom < (-1))))), (27, .bool ((!v_8) || (decide (x0.dom < (-1))))), (32, .bool (((!v_8) || (decide (x0.dom < (-1)))) || (decide (x0.dom ≥ x2))))] (pt b_2 (blk (Tapi_Op.cells x0) 85) :: S) → wpFrom Try.prog _ _ 23 a w by
   rcases Bool.eq_false_or_eq_true ((!v_8) || (decide (x0.dom < (-1)))) with hb | hb
   ·replace hs := hs.known (t := 27) hb (by kernel_rfl)
    refine qpu 5 hs fun a hs => ?_
    have hq := hs.pick [1, 2, 3, 10, 11, 12, 15, 16, 17, 18, 19, 20, 21, 22, 26, 27, 32] (L' := [(1, vi x1), (2, vi x2), (3, pp b_2), (10, vi x2), (11, .bool (x2 != 2)), (12, .bool (x2 != 2)), (15, .bool ((x2 != 2) && (x2 != 3))), (16, .bool false), (17, pp b_2), (18, vi x0.kind), (19, .bool v_8), (20, .bool (!v_8)), (21, .bool (!v_8)), (22, .bool (!v_8)), (26, .bool ((!v_8) || (decide (x0.dom < (-1))))), (27, .bool true), (32, .bool true)]) (by kernel_rfl)
    exact hj_10 _ (hq.conv (by first | (rw [hb] <;> rfl) | rfl))
   ·replace hs := hs.known (t := 27) hb (by kernel_rfl)
    refine qpu 1 hs fun a hs => ?_
    refine qld 0 (ci x0.dom) hs rfl fun a hs => ?_
    refine qpu 3 hs fun a hs => ?_
    have hq := hs.pick [1, 2, 3, 10, 11, 12, 15, 16, 17, 18, 19, 20, 21, 22, 26, 27, 32] (L' := [(1, vi x1), (2, vi x2), (3, pp b_2), (10, vi x2), (11, .bool (x2 != 2)), (12, .bool (x2 != 2)), (15, .bool ((x2 != 2) && (x2 != 3))), (16, .bool false), (17, pp b_2), (18, vi x0.kind), (19, .bool v_8), (20, .bool (!v_8)), (21, .bool (!v_8)), (22, .bool (!v_8)), (26, .bool ((!v_8) || (decide (x0.dom < (-1))))), (27, .bool false), (32, .bool (decide (x0.dom ≥ x2)))]) (by kernel_rfl)
    exact hj_10 _ (hq.conv (by first | (rw [hb] <;> rfl) | rfl))
  intro a hs
  refine qpu 1 hs fun a hs => ?_
  rcases Bool.eq_false_or_eq_true (((!v_8) || (decide (x0.dom < (-1)))) || (decide (x0.dom ≥ x2))) with hb | hb
  ·replace hm := bif_t hm hb
   replace hs := hs.known (t := 33) hb (by kernel_rfl)
   refine qpe 9 [(1, vi x1), (2, vi x2), (3, pp b_2), (42, .bool true)] hs fun a hs => ?_
   exact hj4 true hm _ _ (hs.go [1, 2, 3, 42] [0] 1 (by kernel_rfl) (by kernel_rfl) (by kernel_rfl))
  ·replace hm := bif_f hm hb
   replace hs := hs.known (t := 33) hb (by kernel_rfl)
   refine qpu 1 hs fun a hs => ?_
   refine qld 0 (ci x0.kind) hs rfl fun a hs => ?_
   refine qpu 2 hs fun a hs => ?_
   rcases Bool.eq_false_or_eq_true (x0.kind == 12) with hb | hb
   ·replace hm := bif_t hm hb
    replace hs := hs.known (t := 37) hb (by kernel_rfl)
    refine qpu 1 hs fun a hs => ?_
    refine qld 0 (ci x0.dom) hs rfl fun a hs => ?_
    refine qpe 3 [(1, vi x1), (2, vi x2), (3, pp b_2), (42, .bool (decide (x0.dom ≥ 0)))] hs fun a hs => ?_
    exact hj4 (decide (x0.dom ≥ 0)) hm _ _ (hs.go [1, 2, 3, 42] [0] 1 (by kernel_rfl) (by kernel_rfl) (by kernel_rfl))
   ·replace hm := bif_f hm hb
    replace hs := hs.known (t := 37) hb (by kernel_rfl)
    refine qpe 5 [(1, vi x1), (2, vi x2), (3, pp b_2), (42, .bool false)] hs fun a hs => ?_
    exact hj4 false hm _ _ (hs.go [1, 2, 3, 42] [0] 1 (by kernel_rfl) (by kernel_rfl) (by kernel_rfl))


def trace_Check.j2 (k : Nat) (rec15 : Int → Int → Option (Sum (Int) (Unit))) (q_17 : Int) (p_41 : Int) : Option (Sum (Int) (Unit)) := rec15 p_41 (IntKind.i64.wrap (q_17 + 1))
def trace_Check.l1 (x0 : Tapi_Trace) : Nat → Int → Int → Option (Sum (Int) (Unit))
 | 0, _, _ => none
 | k + 1, q_16, q_17 => (bif decide (q_17 < ((x0.ops.length : Nat) : Int)) then (if 0 ≤ q_17 then (x0.ops[q_17.toNat]?).bind fun e_25 => (op_Right.m k e_25 q_17 x0.n).bind fun v_34 => (bif !v_34 then some (.inl 4) else (bif e_25.kind != 2 then trace_Check.j2 k (trace_Check.l1 x0 k) q_17 q_16 else (bif e_25.c != q_16 then some (.inl 4) else trace_Check.j2 k (trace_Check.l1 x0 k) q_17 (IntKind.u64.wrap (q_16 + 1))))) else none) else some (.inr ()))
def trace_Check.j1 (k : Nat) (x0 : Tapi_Trace) (p_10 : Bool) : Option (Int) := (bif p_10 then some 4 else (trace_Check.l1 x0 k 0 0).bind fun x => match x with | .inl v => some v | .inr () => some 0)
abbrev trace_Check.R (κ : Ctx) (S : List HP) (x0 : Tapi_Trace) (A_x0ops : Option Addr) (c_x0ops : Nat) (A_x0blocks : Option Addr) (c_x0blocks : Nat) (r : Int) : Ending → World → Prop := fun e w' => e = .returned (vi r) ∧ Ow κ w' (S)
def trace_Check.m (k : Nat) (x0 : Tapi_Trace) : Option Int := (bif ((x0.n != 2) && (x0.n != 3)) || (decide (((x0.ops.length : Nat) : Int) > 1048576)) then trace_Check.j1 k x0 true else (trace_ordered.m k x0).bind fun v_9 => trace_Check.j1 k x0 (!v_9))

set_option maxRecDepth 100000 in
set_option maxHeartbeats 4000000 in
theorem trace_Check.ok (k : Nat) (x0 : Tapi_Trace) (r : Int) (hm : trace_Check.m k x0 = some r) (κ : Ctx) (w : World) (S : List HP) (A_x0ops : Option Addr) (c_x0ops : Nat) (hx_x0ops : Sl κ S A_x0ops c_x0ops 6 Tapi_Op.cells x0.ops) (A_x0blocks : Option Addr) (c_x0blocks : Nat) (hx_x0blocks : Sl κ S A_x0blocks c_x0blocks 3 Tapi_Span.cells x0.blocks) (ho : Ow κ w (S)) :
  Calls Try.prog 32 #[.agg (vals [ci x0.n, C.slc A_x0ops x0.ops.length c_x0ops, C.slc A_x0blocks x0.blocks.length c_x0blocks])] w (trace_Check.R κ S x0 A_x0ops c_x0ops A_x0blocks c_x0blocks r) := by
 unfold trace_Check.m at hm
 generalize hRR : trace_Check.R κ S x0 A_x0ops c_x0ops A_x0blocks c_x0blocks r = RR
 refine qen [(0, .agg (vals [ci x0.n, C.slc A_x0ops x0.ops.length c_x0ops, C.slc A_x0blocks x0.blocks.length c_x0blocks]))] Try.func32 Try.ntmps32 ho fun a hs => ?_
 refine qsr fun K1 hK1 => ?_
 refine qbx 0 58 [ci x0.n, C.slc A_x0ops x0.ops.length c_x0ops, C.slc A_x0blocks x0.blocks.length c_x0blocks] 1 hs fun b_2 w a hs => ?_
 refine qpe 1 [(1, pp b_2)] hs fun a hs => hK1 _ _ ?_
 clear hK1
 refine Vk.seq fun K3 hK3 => ?_
 refine Vk.seq fun K4 hK4 => ?_
 have hj4 : ∀ (p_10 : Bool), trace_Check.j1 k x0 p_10 = some r → ∀ (a : Act) (w : World), St 49 a w κ [(1, pp b_2), (24, .bool p_10)] (pt b_2 (blk (Tapi_Trace.obj x0 A_x0ops c_x0ops A_x0blocks c_x0blocks) 58) :: S) → K4 a w := by
  intro p_10 hm a w hs
  unfold trace_Check.j1 at hm
  refine hK4 _ _ ?_
  refine qcs (p_10) hs (fun hb => ?_) fun hb => ?_
  ·replace hm := bif_t hm hb
   refine qse 1 [(2, vi 4)] hs fun a hs => ?_
   refine wp_ret ?_
   exact qr1 (vi 4) hs rfl hRR (by cases hm; exact ⟨rfl, hs.own.drop⟩)
  ·replace hm := bif_f hm hb
   refine wp_skip ?_
   refine hK3 _ _ ?_
   clear hK3
   refine qse 1 [(1, pp b_2), (3, vw 0)] hs fun a hs => ?_
   refine Vk.seq fun K13 hK13 => ?_
   refine qsr fun K14 hK14 => ?_
   refine qpu 1 hs fun a hs => ?_
   refine qld 0 (C.slc A_x0ops x0.ops.length c_x0ops) hs rfl fun a hs => ?_
   refine qpk 2 [1, 3, 26, 27, 28] hs fun a hs => hK14 _ _ ?_
   clear hK14
   refine wp_block ?_
   obtain ⟨r15, hl15, hm⟩ := bind_t hm
   have hx15 : r15 = Sum.inr () → ∀ (a : Act) (w : World), St 49 a w κ [] (S) → K13 a w := by
    intro he a w hs
    subst r15
    refine hK13 _ _ ?_
    clear hK13
    refine qse 1 [(2, vi 0)] hs fun a hs => ?_
    refine wp_ret ?_
    exact qr1 (vi 0) hs rfl hRR (by cases hm; exact ⟨rfl, hs.own⟩)
   have hret15 : ∀ v, r15 = Sum.inl v → v = r := by intro v he; subst r15; exact Option.some.inj hm
   refine Vk.loopBy (fun k (s : Int × Int) a w => trace_Check.l1 x0 k s.1 s.2 = some r15 ∧ St 49 a w κ [(1, pp b_2), (3, vw s.1), (26, .slice A_x0ops x0.ops.length c_x0ops), (27, vi ((x0.ops.length : Nat) : Int)), (28, vi s.2)] (pt b_2 (blk (Tapi_Trace.obj x0 A_x0ops c_x0ops A_x0blocks c_x0blocks) 58) :: S)) k (0, 0) ⟨hl15, hs.go [1, 3, 26, 27, 28] [0] 1 (by kernel_rfl) (by kernel_rfl) (by kernel_rfl)⟩ (fun s a w h => by obtain ⟨h1, _⟩ := h; simp [trace_Check.l1] at h1) (fun k KL15 ih s a w h => ?_)
   obtain ⟨q_16, q_17⟩ := s
   obtain ⟨hm, hs⟩ := h
   try dsimp only at hm hs
   rw [trace_Check.l1] at hm
   refine qsk 1 [1, 3, 26, 27, 28, 29] hs fun a hs => ?_
   refine Vk.seq fun K19 hK19 => ?_
   refine qcs (decide (q_17 < ((x0.ops.length : Nat) : Int))) hs (fun hb => ?_) fun hb => ?_
   ·replace hm := bif_t hm hb
    refine wp_skip ?_
    refine hK19 _ _ ?_
    clear hK19
    refine Vk.seq fun K20 hK20 => ?_
    have hj20 : ∀ (p_41 : Int), trace_Check.j2 k (trace_Check.l1 x0 k) q_17 p_41 = some r15 → ∀ (a : Act) (w : World), St 49 a w κ [(1, pp b_2), (3, vw p_41), (26, .slice A_x0ops x0.ops.length c_x0ops), (27, vi ((x0.ops.length : Nat) : Int)), (28, vi q_17)] (pt b_2 (blk (Tapi_Trace.obj x0 A_x0ops c_x0ops A_x0blocks c_x0blocks) 58) :: S) → K20 a w := by
     intro p_41 hm a w hs
     unfold trace_Check.j2 at hm
     refine hK20 _ _ ?_
     refine Vk.region ?_
     refine qpk 2 [1, 3, 26, 27, 28] hs fun a hs => ?_
     refine ih (p_41, (IntKind.i64.wrap (q_17 + 1))) _ _ ⟨hm, hs.go [1, 3, 26, 27, 28] [0] 1 (by kernel_rfl) (by kernel_rfl) (by kernel_rfl)⟩
    refine wp_block ?_
    refine qsr fun K21 hK21 => ?_
    refine qpu 1 hs fun a hs => ?_
    obtain ⟨h_22, hm⟩ := ite_t hm
    obtain ⟨e_25, h_23, hm⟩ := bind_t hm
    obtain ⟨b_26, o_27, hA_28, h_24⟩ := Sl.elem hx_x0ops h_23
    refine qva (.pointer (some ⟨b_26, o_27 + q_17.toNat * 6, none⟩)) (op := (.indexAddr 55 (.tmp 26) (.tmp 28))) hs (fun o ho => run_idxSlc (k := .i64) ho (cap := c_x0ops) (len := x0.ops.length) ((congrArg (fun A => Value.slice A (x0.ops.length) (c_x0ops)) hA_28) ▸ (by kernel_rfl)) (by kernel_rfl) (by kernel_rfl) (idx_ok h_22 h_23) _) fun a hs => ?_
    refine qva (.agg (vals [ci e_25.kind, ci e_25.dom, ci e_25.a, ci e_25.b, ci e_25.d, cw e_25.c])) (op := (.load 85 (.tmp 31))) hs (fun o ho => run_loadN (cs := [ci e_25.kind, ci e_25.dom, ci e_25.a, ci e_25.b, ci e_25.d, cw e_25.c]) ho (by kernel_rfl) (by kernel_rfl) rfl h_24 _ hs.own.drop) fun a hs => ?_
    refine qal 85 [ci 0, ci 0, ci 0, ci 0, ci 0, cw 0] 5 hs fun b_29 w a hs => ?_
    refine qpu 1 hs fun a hs => ?_
    refine qsa 0 [ci e_25.kind, ci e_25.dom, ci e_25.a, ci e_25.b, ci e_25.d, cw e_25.c] hs rfl fun a w hs => ?_
    refine qpk 0 [1, 3, 4, 5, 26, 27, 28] hs fun a hs => hK21 _ _ ?_
    clear hK21
    refine Vk.seq fun K30 hK30 => ?_
    refine qsr fun K31 hK31 => ?_
    refine qln 0 ([ci e_25.kind, ci e_25.dom, ci e_25.a, ci e_25.b, ci e_25.d, cw e_25.c]) hs rfl fun a hs => ?_
    refine qpu 2 hs fun a hs => ?_
    refine qld 1 (ci x0.n) hs rfl fun a hs => ?_
    obtain ⟨v_34, h_33, hm⟩ := bind_t hm
    refine qcl (op_Right.ok _ _ _ _ _ h_33 _ _ (pt b_29 (blk (Tapi_Op.cells e_25) 85) :: pt b_2 (blk (Tapi_Trace.obj x0 A_x0ops c_x0ops A_x0blocks c_x0blocks) 58) :: S) hs.own) hs fun w a hs => ?_
    refine qpk 1 [1, 3, 5, 26, 27, 28, 38] hs fun a hs => hK31 _ _ ?_
    clear hK31
    refine qcs (!v_34) hs (fun hb => ?_) fun hb => ?_
    ·replace hm := bif_t hm hb
     refine qse 1 [(2, vi 4)] hs fun a hs => ?_
     refine wp_ret ?_
     exact Vk.ret1 (P := Try.prog) (fn := Try.f32) (R := RR) (vi 4) hs rfl (by kernel_rfl) (by obtain rfl := hret15 _ ((Option.some.inj hm).symm); subst hRR; exact ⟨rfl, hs.own.f1.drop.drop⟩)
    ·replace hm := bif_f hm hb
     refine wp_skip ?_
     refine hK30 _ _ ?_
     clear hK30
     refine Vk.seq fun K36 hK36 => ?_
     refine qsr fun K37 hK37 => ?_
     refine qpu 1 hs fun a hs => ?_
     refine qld 0 (ci e_25.kind) hs rfl fun a hs => ?_
     refine qpe 1 [(1, pp b_2), (3, vw q_16), (5, pp b_29), (26, .slice A_x0ops x0.ops.length c_x0ops), (27, vi ((x0.ops.length : Nat) : Int)), (28, vi q_17), (41, .bool (e_25.kind != 2))] hs fun a hs => hK37 _ _ ?_
     clear hK37
     refine qcs (e_25.kind != 2) hs (fun hb => ?_) fun hb => ?_
     ·replace hm := bif_t hm hb
      refine wp_exit ?_
      exact hj20 q_16 hm _ _ (hs.go [1, 3, 26, 27, 28] [1] 2 (by kernel_rfl) (by kernel_rfl) (by kernel_rfl))
     ·replace hm := bif_f hm hb
      refine wp_skip ?_
      refine hK36 _ _ ?_
      clear hK36
      refine Vk.seq fun K38 hK38 => ?_
      refine qsr fun K39 hK39 => ?_
      refine qpu 1 hs fun a hs => ?_
      refine qld 0 (cw e_25.c) hs rfl fun a hs => ?_
      refine qpk 2 [1, 3, 26, 27, 28, 45] hs fun a hs => hK39 _ _ ?_
      clear hK39
      refine qcs (e_25.c != q_16) hs (fun hb => ?_) fun hb => ?_
      ·replace hm := bif_t hm hb
       refine qse 1 [(2, vi 4)] hs fun a hs => ?_
       refine wp_ret ?_
       exact Vk.ret1 (P := Try.prog) (fn := Try.f32) (R := RR) (vi 4) hs rfl (by kernel_rfl) (by obtain rfl := hret15 _ ((Option.some.inj hm).symm); subst hRR; exact ⟨rfl, hs.own.f1.drop.drop⟩)
      ·replace hm := bif_f hm hb
       refine wp_skip ?_
       refine hK38 _ _ ?_
       clear hK38
       refine Vk.region ?_
       refine qpe 3 [(1, pp b_2), (3, vw (IntKind.u64.wrap (q_16 + 1))), (26, .slice A_x0ops x0.ops.length c_x0ops), (27, vi ((x0.ops.length : Nat) : Int)), (28, vi q_17)] hs fun a hs => ?_
       exact hj20 (IntKind.u64.wrap (q_16 + 1)) hm _ _ (hs.go [1, 3, 26, 27, 28] [1] 2 (by kernel_rfl) (by kernel_rfl) (by kernel_rfl))
   ·replace hm := bif_f hm hb
    refine wp_exit ?_
    exact hx15 (Option.some.inj hm).symm _ _ (hs.go [] [] 1 (by kernel_rfl) (by kernel_rfl) (by kernel_rfl))
 refine Vk.region ?_
 refine qpu 1 hs fun a hs => ?_
 refine qld 0 (ci x0.n) hs rfl fun a hs => ?_
 refine qpu 2 hs fun a hs => ?_
 suffices hj_5 : ∀ a, St 49 a w κ [(1, pp b_2), (6, pp b_2), (7, vi x0.n), (8, .bool (x0.n != 2)), (9, .bool (x0.n != 2)), (13, .bool ((x0.n != 2) && (x0.n != 3)))] (pt b_2 (blk (Tapi_Trace.obj x0 A_x0ops c_x0ops A_x0blocks c_x0blocks) 58) :: S) → wpFrom Try.prog _ _ 8 a w by
  rcases Bool.eq_false_or_eq_true (x0.n != 2) with hb | hb
  ·replace hs := hs.known (t := 9) hb (by kernel_rfl)
   refine qpu 1 hs fun a hs => ?_
   refine qld 0 (ci x0.n) hs rfl fun a hs => ?_
   refine qpu 2 hs fun a hs => ?_
   have hq := hs.pick [1, 6, 7, 8, 9, 13] (L' := [(1, pp b_2), (6, pp b_2), (7, vi x0.n), (8, .bool (x0.n != 2)), (9, .bool true), (13, .bool (x0.n != 3))]) (by kernel_rfl)
   exact hj_5 _ (hq.conv (by first | (rw [hb] <;> rfl) | rfl))
  ·replace hs := hs.known (t := 9) hb (by kernel_rfl)
   refine qpu 4 hs fun a hs => ?_
   have hq := hs.pick [1, 6, 7, 8, 9, 13] (L' := [(1, pp b_2), (6, pp b_2), (7, vi x0.n), (8, .bool (x0.n != 2)), (9, .bool false), (13, .bool false)]) (by kernel_rfl)
   exact hj_5 _ (hq.conv (by first | (rw [hb] <;> rfl) | rfl))
 intro a hs
 refine qpu 1 hs fun a hs => ?_
 suffices hj_6 : ∀ a, St 49 a w κ [(1, pp b_2), (6, pp b_2), (7, vi x0.n), (8, .bool (x0.n != 2)), (9, .bool (x0.n != 2)), (13, .bool ((x0.n != 2) && (x0.n != 3))), (14, .bool ((x0.n != 2) && (x0.n != 3))), (19, .bool (((x0.n != 2) && (x0.n != 3)) || (decide (((x0.ops.length : Nat) : Int) > 1048576))))] (pt b_2 (blk (Tapi_Trace.obj x0 A_x0ops c_x0ops A_x0blocks c_x0blocks) 58) :: S) → wpFrom Try.prog _ _ 14 a w by
  rcases Bool.eq_false_or_eq_true ((x0.n != 2) && (x0.n != 3)) with hb | hb
  ·replace hs := hs.known (t := 14) hb (by kernel_rfl)
   refine qpu 5 hs fun a hs => ?_
   have hq := hs.pick [1, 6, 7, 8, 9, 13, 14, 19] (L' := [(1, pp b_2), (6, pp b_2), (7, vi x0.n), (8, .bool (x0.n != 2)), (9, .bool (x0.n != 2)), (13, .bool ((x0.n != 2) && (x0.n != 3))), (14, .bool true), (19, .bool true)]) (by kernel_rfl)
   exact hj_6 _ (hq.conv (by first | (rw [hb] <;> rfl) | rfl))
  ·replace hs := hs.known (t := 14) hb (by kernel_rfl)
   refine qpu 1 hs fun a hs => ?_
   refine qld 0 (C.slc A_x0ops x0.ops.length c_x0ops) hs rfl fun a hs => ?_
   refine qpu 3 hs fun a hs => ?_
   have hq := hs.pick [1, 6, 7, 8, 9, 13, 14, 19] (L' := [(1, pp b_2), (6, pp b_2), (7, vi x0.n), (8, .bool (x0.n != 2)), (9, .bool (x0.n != 2)), (13, .bool ((x0.n != 2) && (x0.n != 3))), (14, .bool false), (19, .bool (decide (((x0.ops.length : Nat) : Int) > 1048576)))]) (by kernel_rfl)
   exact hj_6 _ (hq.conv (by first | (rw [hb] <;> rfl) | rfl))
 intro a hs
 refine qpu 1 hs fun a hs => ?_
 rcases Bool.eq_false_or_eq_true (((x0.n != 2) && (x0.n != 3)) || (decide (((x0.ops.length : Nat) : Int) > 1048576))) with hb | hb
 ·replace hm := bif_t hm hb
  replace hs := hs.known (t := 20) hb (by kernel_rfl)
  refine qpe 4 [(1, pp b_2), (24, .bool true)] hs fun a hs => ?_
  exact hj4 true hm _ _ (hs.go [1, 24] [0] 1 (by kernel_rfl) (by kernel_rfl) (by kernel_rfl))
 ·replace hm := bif_f hm hb
  replace hs := hs.known (t := 20) hb (by kernel_rfl)
  refine qln 0 ([ci x0.n, C.slc A_x0ops x0.ops.length c_x0ops, C.slc A_x0blocks x0.blocks.length c_x0blocks]) hs rfl fun a hs => ?_
  obtain ⟨v_9, h_8, hm⟩ := bind_t hm
  refine qcl (trace_ordered.ok _ _ _ h_8 _ _ (pt b_2 (blk (Tapi_Trace.obj x0 A_x0ops c_x0ops A_x0blocks c_x0blocks) 58) :: S) A_x0ops c_x0ops hx_x0ops.less A_x0blocks c_x0blocks hx_x0blocks.less hs.own) hs fun w a hs => ?_
  refine qpe 2 [(1, pp b_2), (24, .bool (!v_9))] hs fun a hs => ?_
  exact hj4 (!v_9) hm _ _ (hs.go [1, 24] [0] 1 (by kernel_rfl) (by kernel_rfl) (by kernel_rfl))


def trace_Tally.j1 (k : Nat) (rec8 : Cells → Int → Option (Cells)) (q_10 : Int) (p_35 : Cells) : Option (Cells) := rec8 p_35 (IntKind.i64.wrap (q_10 + 1))
def trace_Tally.l1 (x0 : Tapi_Trace) : Nat → Cells → Int → Option (Cells)
 | 0, _, _ => none
 | k + 1, q_9, q_10 => (bif decide (q_10 < ((x0.ops.length : Nat) : Int)) then (if 0 ≤ q_10 then (x0.ops[q_10.toNat]?).bind fun e_18 => (bif (decide (e_18.kind < 1)) || (decide (e_18.kind > 12)) then (getI .i64 q_9 (0)).bind fun v_28 => (if 0 < q_9.length then trace_Tally.j1 k (trace_Tally.l1 x0 k) q_10 (q_9.set (0) (ci (IntKind.i64.wrap (v_28 + 1)))) else none) else (if 0 ≤ e_18.kind ∧ e_18.kind < 13 then (getI .i64 q_9 (0 + e_18.kind.toNat * 1)).bind fun v_32 => (if 0 ≤ e_18.kind ∧ e_18.kind < 13 then (if 0 + e_18.kind.toNat * 1 < q_9.length then trace_Tally.j1 k (trace_Tally.l1 x0 k) q_10 (q_9.set (0 + e_18.kind.toNat * 1) (ci (IntKind.i64.wrap (v_32 + 1)))) else none) else none) else none)) else none) else some q_9)
abbrev trace_Tally.R (κ : Ctx) (S : List HP) (x0 : Tapi_Trace) (A_x0ops : Option Addr) (c_x0ops : Nat) (A_x0blocks : Option Addr) (c_x0blocks : Nat) (r : Cells) : Ending → World → Prop := fun e w' => e = .returned (.agg (vals r)) ∧ Ow κ w' (S)
def trace_Tally.m (k : Nat) (x0 : Tapi_Trace) : Option Cells := (trace_Tally.l1 x0 k [ci 0, ci 0, ci 0, ci 0, ci 0, ci 0, ci 0, ci 0, ci 0, ci 0, ci 0, ci 0, ci 0] 0).bind fun p_36 => (if p_36.length = 13 then some p_36 else none)

set_option maxRecDepth 100000 in
set_option maxHeartbeats 4000000 in
theorem trace_Tally.ok (k : Nat) (x0 : Tapi_Trace) (r : Cells) (hm : trace_Tally.m k x0 = some r) (κ : Ctx) (w : World) (S : List HP) (A_x0ops : Option Addr) (c_x0ops : Nat) (hx_x0ops : Sl κ S A_x0ops c_x0ops 6 Tapi_Op.cells x0.ops) (A_x0blocks : Option Addr) (c_x0blocks : Nat) (hx_x0blocks : Sl κ S A_x0blocks c_x0blocks 3 Tapi_Span.cells x0.blocks) (ho : Ow κ w (S)) :
  Calls Try.prog 44 #[.agg (vals [ci x0.n, C.slc A_x0ops x0.ops.length c_x0ops, C.slc A_x0blocks x0.blocks.length c_x0blocks])] w (trace_Tally.R κ S x0 A_x0ops c_x0ops A_x0blocks c_x0blocks r) := by
 unfold trace_Tally.m at hm
 generalize hRR : trace_Tally.R κ S x0 A_x0ops c_x0ops A_x0blocks c_x0blocks r = RR
 refine qen [(0, .agg (vals [ci x0.n, C.slc A_x0ops x0.ops.length c_x0ops, C.slc A_x0blocks x0.blocks.length c_x0blocks]))] Try.func44 Try.ntmps44 ho fun a hs => ?_
 refine qsr fun K1 hK1 => ?_
 refine qbx 0 58 [ci x0.n, C.slc A_x0ops x0.ops.length c_x0ops, C.slc A_x0blocks x0.blocks.length c_x0blocks] 1 hs fun b_2 w a hs => ?_
 refine qal 77 [ci 0, ci 0, ci 0, ci 0, ci 0, ci 0, ci 0, ci 0, ci 0, ci 0, ci 0, ci 0, ci 0] 2 hs fun b_3 w a hs => ?_
 refine qpe 0 [(1, pp b_2), (2, pp b_3)] hs fun a hs => hK1 _ _ ?_
 clear hK1
 refine qsr fun K4 hK4 => ?_
 refine qal 77 [ci 0, ci 0, ci 0, ci 0, ci 0, ci 0, ci 0, ci 0, ci 0, ci 0, ci 0, ci 0, ci 0] 3 hs fun b_5 w a hs => ?_
 refine qpk 0 [1, 2, 3] hs fun a hs => hK4 _ _ ?_
 clear hK4
 refine Vk.seq fun K6 hK6 => ?_
 refine qsr fun K7 hK7 => ?_
 refine qpu 1 hs fun a hs => ?_
 refine qld 2 (C.slc A_x0ops x0.ops.length c_x0ops) hs rfl fun a hs => ?_
 refine qpk 2 [2, 3, 7, 8, 9] hs fun a hs => hK7 _ _ ?_
 clear hK7
 refine wp_block ?_
 obtain ⟨r8, hl8, hm⟩ := bind_t hm
 have hx8 : ∀ (p_36 : Cells), r8 = p_36 → ∀ (a : Act) (w : World), St 33 a w κ [(2, pp b_3), (3, pp b_5)] (pt b_3 (blk [ci 0, ci 0, ci 0, ci 0, ci 0, ci 0, ci 0, ci 0, ci 0, ci 0, ci 0, ci 0, ci 0] 77) :: pt b_5 (blk p_36 77) :: S) → K6 a w := by
  intro p_36 he a w hs
  subst r8
  refine hK6 _ _ ?_
  clear hK6
  refine qsr fun K39 hK39 => ?_
  obtain ⟨h_40, hm⟩ := ite_t hm
  refine qlw 1 hs rfl h_40 fun a hs => ?_
  refine qsb 0 p_36 hs rfl h_40 rfl fun a w hs => ?_
  refine qpe 0 [(2, pp b_3)] hs fun a hs => hK39 _ _ ?_
  clear hK39
  refine wp_ret ?_
  exact Vk.retC p_36 hs rfl (by kernel_rfl) (sz := 13) (by kernel_rfl) h_40 (CellsAt.all 0 rfl) (hRR ▸ by cases hm; exact ⟨rfl, hs.own.f1.drop.drop⟩)
 refine Vk.loopBy (fun k (s : Cells × Int) a w => trace_Tally.l1 x0 k s.1 s.2 = some r8 ∧ St 33 a w κ [(2, pp b_3), (3, pp b_5), (7, .slice A_x0ops x0.ops.length c_x0ops), (8, vi ((x0.ops.length : Nat) : Int)), (9, vi s.2)] (pt b_3 (blk [ci 0, ci 0, ci 0, ci 0, ci 0, ci 0, ci 0, ci 0, ci 0, ci 0, ci 0, ci 0, ci 0] 77) :: pt b_5 (blk s.1 77) :: S)) k ([ci 0, ci 0, ci 0, ci 0, ci 0, ci 0, ci 0, ci 0, ci 0, ci 0, ci 0, ci 0, ci 0], 0) ⟨hl8, hs.go [2, 3, 7, 8, 9] [1, 0] 3 (by kernel_rfl) (by kernel_rfl) (by kernel_rfl)⟩ (fun s a w h => by obtain ⟨h1, _⟩ := h; simp [trace_Tally.l1] at h1) (fun k KL8 ih s a w h => ?_)
 obtain ⟨q_9, q_10⟩ := s
 obtain ⟨hm, hs⟩ := h
 try dsimp only at hm hs
 rw [trace_Tally.l1] at hm
 refine qsk 1 [2, 3, 7, 8, 9, 10] hs fun a hs => ?_
 refine Vk.seq fun K12 hK12 => ?_
 refine qcs (decide (q_10 < ((x0.ops.length : Nat) : Int))) hs (fun hb => ?_) fun hb => ?_
 ·replace hm := bif_t hm hb
  refine wp_skip ?_
  refine hK12 _ _ ?_
  clear hK12
  refine Vk.seq fun K13 hK13 => ?_
  have hj13 : ∀ (p_35 : Cells), trace_Tally.j1 k (trace_Tally.l1 x0 k) q_10 p_35 = some r8 → ∀ (a : Act) (w : World), St 33 a w κ [(2, pp b_3), (3, pp b_5), (7, .slice A_x0ops x0.ops.length c_x0ops), (8, vi ((x0.ops.length : Nat) : Int)), (9, vi q_10)] (pt b_3 (blk [ci 0, ci 0, ci 0, ci 0, ci 0, ci 0, ci 0, ci 0, ci 0, ci 0, ci 0, ci 0, ci 0] 77) :: pt b_5 (blk p_35 77) :: S) → K13 a w := by
   intro p_35 hm a w hs
   unfold trace_Tally.j1 at hm
   refine hK13 _ _ ?_
   refine Vk.region ?_
   refine qpk 2 [2, 3, 7, 8, 9] hs fun a hs => ?_
   refine ih (p_35, (IntKind.i64.wrap (q_10 + 1))) _ _ ⟨hm, hs.go [2, 3, 7, 8, 9] [0, 1] 2 (by kernel_rfl) (by kernel_rfl) (by kernel_rfl)⟩
  refine wp_block ?_
  refine qsr fun K14 hK14 => ?_
  obtain ⟨h_15, hm⟩ := ite_t hm
  obtain ⟨e_18, h_16, hm⟩ := bind_t hm
  obtain ⟨b_19, o_20, hA_21, h_17⟩ := Sl.elem hx_x0ops h_16
  refine qva (.pointer (some ⟨b_19, o_20 + q_10.toNat * 6, none⟩)) (op := (.indexAddr 55 (.tmp 7) (.tmp 9))) hs (fun o ho => run_idxSlc (k := .i64) ho (cap := c_x0ops) (len := x0.ops.length) ((congrArg (fun A => Value.slice A (x0.ops.length) (c_x0ops)) hA_21) ▸ (by kernel_rfl)) (by kernel_rfl) (by kernel_rfl) (idx_ok h_15 h_16) _) fun a hs => ?_
  refine qva (.agg (vals [ci e_18.kind, ci e_18.dom, ci e_18.a, ci e_18.b, ci e_18.d, cw e_18.c])) (op := (.load 85 (.tmp 11))) hs (fun o ho => run_loadN (cs := [ci e_18.kind, ci e_18.dom, ci e_18.a, ci e_18.b, ci e_18.d, cw e_18.c]) ho (by kernel_rfl) (by kernel_rfl) rfl h_17 _ hs.own.drop.drop) fun a hs => ?_
  refine qal 85 [ci 0, ci 0, ci 0, ci 0, ci 0, cw 0] 5 hs fun b_22 w a hs => ?_
  refine qsa 0 [ci e_18.kind, ci e_18.dom, ci e_18.a, ci e_18.b, ci e_18.d, cw e_18.c] hs rfl fun a w hs => ?_
  refine qpe 0 [(2, pp b_3), (3, pp b_5), (5, pp b_22), (7, .slice A_x0ops x0.ops.length c_x0ops), (8, vi ((x0.ops.length : Nat) : Int)), (9, vi q_10)] hs fun a hs => hK14 _ _ ?_
  clear hK14
  refine Vk.seq fun K23 hK23 => ?_
  refine qsr fun K24 hK24 => ?_
  refine qpu 1 hs fun a hs => ?_
  refine qld 0 (ci e_18.kind) hs rfl fun a hs => ?_
  refine qpu 2 hs fun a hs => ?_
  suffices hj_25 : ∀ a, St 33 a w κ [(2, pp b_3), (3, pp b_5), (5, pp b_22), (7, .slice A_x0ops x0.ops.length c_x0ops), (8, vi ((x0.ops.length : Nat) : Int)), (9, vi q_10), (13, pp b_22), (14, vi e_18.kind), (15, .bool (decide (e_18.kind < 1))), (16, .bool (decide (e_18.kind < 1))), (20, .bool ((decide (e_18.kind < 1)) || (decide (e_18.kind > 12))))] (pt b_22 (blk (Tapi_Op.cells e_18) 85) :: pt b_3 (blk [ci 0, ci 0, ci 0, ci 0, ci 0, ci 0, ci 0, ci 0, ci 0, ci 0, ci 0, ci 0, ci 0] 77) :: pt b_5 (blk q_9 77) :: S) → wpFrom Try.prog _ _ 8 a w by
   rcases Bool.eq_false_or_eq_true (decide (e_18.kind < 1)) with hb | hb
   ·replace hs := hs.known (t := 16) hb (by kernel_rfl)
    refine qpu 4 hs fun a hs => ?_
    have hq := hs.pick [2, 3, 5, 7, 8, 9, 13, 14, 15, 16, 20] (L' := [(2, pp b_3), (3, pp b_5), (5, pp b_22), (7, .slice A_x0ops x0.ops.length c_x0ops), (8, vi ((x0.ops.length : Nat) : Int)), (9, vi q_10), (13, pp b_22), (14, vi e_18.kind), (15, .bool (decide (e_18.kind < 1))), (16, .bool true), (20, .bool true)]) (by kernel_rfl)
    exact hj_25 _ (hq.conv (by first | (rw [hb] <;> rfl) | rfl))
   ·replace hs := hs.known (t := 16) hb (by kernel_rfl)
    refine qpu 1 hs fun a hs => ?_
    refine qld 0 (ci e_18.kind) hs rfl fun a hs => ?_
    refine qpu 2 hs fun a hs => ?_
    have hq := hs.pick [2, 3, 5, 7, 8, 9, 13, 14, 15, 16, 20] (L' := [(2, pp b_3), (3, pp b_5), (5, pp b_22), (7, .slice A_x0ops x0.ops.length c_x0ops), (8, vi ((x0.ops.length : Nat) : Int)), (9, vi q_10), (13, pp b_22), (14, vi e_18.kind), (15, .bool (decide (e_18.kind < 1))), (16, .bool false), (20, .bool (decide (e_18.kind > 12)))]) (by kernel_rfl)
    exact hj_25 _ (hq.conv (by first | (rw [hb] <;> rfl) | rfl))
  intro a hs
  refine qpk 0 [2, 3, 5, 7, 8, 9, 20] hs fun a hs => hK24 _ _ ?_
  clear hK24
  refine qcs ((decide (e_18.kind < 1)) || (decide (e_18.kind > 12))) hs (fun hb => ?_) fun hb => ?_
  ·replace hm := bif_t hm hb
   refine qsr fun K26 hK26 => ?_
   refine qpu 1 hs fun a hs => ?_
   obtain ⟨v_28, h_27, hm⟩ := bind_t hm
   refine qli 2 hs rfl h_27 fun a hs => ?_
   refine qpu 2 hs fun a hs => ?_
   obtain ⟨h_29, hm⟩ := ite_t hm
   refine Vk.step (Vk.store1 (b := b_5) (ty := 3) (x := (.tmp 24)) (y := (.tmp 23)) (off := 0) (ci (IntKind.i64.wrap (v_28 + 1))) 2 hs (by kernel_rfl) (by kernel_rfl) (by kernel_rfl) (by kernel_rfl) (by kernel_rfl) (by kernel_rfl) rfl h_29 fun a w hs => ?_)
   refine qpe 0 [(2, pp b_3), (3, pp b_5), (7, .slice A_x0ops x0.ops.length c_x0ops), (8, vi ((x0.ops.length : Nat) : Int)), (9, vi q_10)] hs fun a hs => hK26 _ _ ?_
   clear hK26
   refine wp_exit ?_
   exact hj13 (q_9.set (0) (ci (IntKind.i64.wrap (v_28 + 1)))) hm _ _ (hs.go [2, 3, 7, 8, 9] [1, 2] 3 (by kernel_rfl) (by kernel_rfl) (by kernel_rfl))
  ·replace hm := bif_f hm hb
   refine wp_skip ?_
   refine hK23 _ _ ?_
   clear hK23
   refine Vk.region ?_
   refine qpu 1 hs fun a hs => ?_
   refine qld 0 (ci e_18.kind) hs rfl fun a hs => ?_
   obtain ⟨h_30, hm⟩ := ite_t hm
   refine qix b_5 0 1 hs h_30 fun a hs => ?_
   obtain ⟨v_32, h_31, hm⟩ := bind_t hm
   refine qli 2 hs rfl h_31 fun a hs => ?_
   refine qpu 1 hs fun a hs => ?_
   obtain ⟨h_33, hm⟩ := ite_t hm
   refine qix b_5 0 1 hs h_33 fun a hs => ?_
   obtain ⟨h_34, hm⟩ := ite_t hm
   refine Vk.step (Vk.store1 (b := b_5) (ty := 3) (x := (.tmp 30)) (y := (.tmp 29)) (off := 0 + e_18.kind.toNat * 1) (ci (IntKind.i64.wrap (v_32 + 1))) 2 hs (by kernel_rfl) (by kernel_rfl) (by kernel_rfl) (by kernel_rfl) (by kernel_rfl) (by kernel_rfl) rfl h_34 fun a w hs => ?_)
   refine qpe 0 [(2, pp b_3), (3, pp b_5), (7, .slice A_x0ops x0.ops.length c_x0ops), (8, vi ((x0.ops.length : Nat) : Int)), (9, vi q_10)] hs fun a hs => ?_
   exact hj13 (q_9.set (0 + e_18.kind.toNat * 1) (ci (IntKind.i64.wrap (v_32 + 1)))) hm _ _ (hs.go [2, 3, 7, 8, 9] [1, 2] 3 (by kernel_rfl) (by kernel_rfl) (by kernel_rfl))
 ·replace hm := bif_f hm hb
  refine wp_exit ?_
  exact hx8 q_9 (Option.some.inj hm).symm _ _ (hs.go [2, 3] [0, 1] 2 (by kernel_rfl) (by kernel_rfl) (by kernel_rfl))


abbrev trace_Words.R (κ : Ctx) (S : List HP) (x0 : Tapi_Trace) (A_x0ops : Option Addr) (c_x0ops : Nat) (A_x0blocks : Option Addr) (c_x0blocks : Nat) (r : Int) : Ending → World → Prop := fun e w' => e = .returned (vi r) ∧ Ow κ w' (S)
def trace_Words.m (k : Nat) (x0 : Tapi_Trace) : Option Int := (trace_Tally.m k x0).bind fun v_6 => (if 0 ≤ (2 : Int) ∧ (2 : Int) < 13 then (getI .i64 v_6 2).bind fun v_9 => some v_9 else none)

set_option maxRecDepth 100000 in
set_option maxHeartbeats 4000000 in
theorem trace_Words.ok (k : Nat) (x0 : Tapi_Trace) (r : Int) (hm : trace_Words.m k x0 = some r) (κ : Ctx) (w : World) (S : List HP) (A_x0ops : Option Addr) (c_x0ops : Nat) (hx_x0ops : Sl κ S A_x0ops c_x0ops 6 Tapi_Op.cells x0.ops) (A_x0blocks : Option Addr) (c_x0blocks : Nat) (hx_x0blocks : Sl κ S A_x0blocks c_x0blocks 3 Tapi_Span.cells x0.blocks) (ho : Ow κ w (S)) :
  Calls Try.prog 33 #[.agg (vals [ci x0.n, C.slc A_x0ops x0.ops.length c_x0ops, C.slc A_x0blocks x0.blocks.length c_x0blocks])] w (trace_Words.R κ S x0 A_x0ops c_x0ops A_x0blocks c_x0blocks r) := by
 unfold trace_Words.m at hm
 generalize hRR : trace_Words.R κ S x0 A_x0ops c_x0ops A_x0blocks c_x0blocks r = RR
 refine qen [(0, .agg (vals [ci x0.n, C.slc A_x0ops x0.ops.length c_x0ops, C.slc A_x0blocks x0.blocks.length c_x0blocks]))] Try.func33 Try.ntmps33 ho fun a hs => ?_
 refine qsr fun K1 hK1 => ?_
 refine qbx 0 58 [ci x0.n, C.slc A_x0ops x0.ops.length c_x0ops, C.slc A_x0blocks x0.blocks.length c_x0blocks] 1 hs fun b_2 w a hs => ?_
 refine qpe 1 [(1, pp b_2)] hs fun a hs => hK1 _ _ ?_
 clear hK1
 refine qsr fun K3 hK3 => ?_
 refine qln 0 ([ci x0.n, C.slc A_x0ops x0.ops.length c_x0ops, C.slc A_x0blocks x0.blocks.length c_x0blocks]) hs rfl fun a hs => ?_
 obtain ⟨v_6, h_5, hm⟩ := bind_t hm
 refine qcl (trace_Tally.ok _ _ _ h_5 _ _ (pt b_2 (blk (Tapi_Trace.obj x0 A_x0ops c_x0ops A_x0blocks c_x0blocks) 58) :: S) A_x0ops c_x0ops hx_x0ops.less A_x0blocks c_x0blocks hx_x0blocks.less hs.own) hs fun w a hs => ?_
 obtain ⟨h_7, hm⟩ := ite_t hm
 obtain ⟨v_9, h_8, hm⟩ := bind_t hm
 refine qva (vi v_9) (op := (.index 77 (.tmp 4) (.const (vi 2)))) hs (fun o ho => run_idxVal (k := .i64) (m := 2) (cs := v_6) (c := ci v_9) ho (by kernel_rfl) (by kernel_rfl) (len := 13) (et := 3) (by kernel_rfl) (by kernel_rfl) (by kernel_rfl) (by kernel_rfl) h_7 (getI_some h_8) _) fun a hs => ?_
 refine qpe 1 [(2, vi v_9)] hs fun a hs => hK3 _ _ ?_
 clear hK3
 refine wp_ret ?_
 exact qr1 (vi v_9) hs rfl hRR (by cases hm; exact ⟨rfl, hs.own.drop⟩)


abbrev trace_Draws.R (κ : Ctx) (S : List HP) (x0 : Tapi_Trace) (A_x0ops : Option Addr) (c_x0ops : Nat) (A_x0blocks : Option Addr) (c_x0blocks : Nat) (r : Int) : Ending → World → Prop := fun e w' => e = .returned (vi r) ∧ Ow κ w' (S)
def trace_Draws.m (k : Nat) (x0 : Tapi_Trace) : Option Int := (trace_Tally.m k x0).bind fun v_6 => (if 0 ≤ (1 : Int) ∧ (1 : Int) < 13 then (getI .i64 v_6 1).bind fun v_9 => some v_9 else none)

set_option maxRecDepth 100000 in
set_option maxHeartbeats 4000000 in
theorem trace_Draws.ok (k : Nat) (x0 : Tapi_Trace) (r : Int) (hm : trace_Draws.m k x0 = some r) (κ : Ctx) (w : World) (S : List HP) (A_x0ops : Option Addr) (c_x0ops : Nat) (hx_x0ops : Sl κ S A_x0ops c_x0ops 6 Tapi_Op.cells x0.ops) (A_x0blocks : Option Addr) (c_x0blocks : Nat) (hx_x0blocks : Sl κ S A_x0blocks c_x0blocks 3 Tapi_Span.cells x0.blocks) (ho : Ow κ w (S)) :
  Calls Try.prog 34 #[.agg (vals [ci x0.n, C.slc A_x0ops x0.ops.length c_x0ops, C.slc A_x0blocks x0.blocks.length c_x0blocks])] w (trace_Draws.R κ S x0 A_x0ops c_x0ops A_x0blocks c_x0blocks r) := by
 unfold trace_Draws.m at hm
 generalize hRR : trace_Draws.R κ S x0 A_x0ops c_x0ops A_x0blocks c_x0blocks r = RR
 refine qen [(0, .agg (vals [ci x0.n, C.slc A_x0ops x0.ops.length c_x0ops, C.slc A_x0blocks x0.blocks.length c_x0blocks]))] Try.func34 Try.ntmps34 ho fun a hs => ?_
 refine qsr fun K1 hK1 => ?_
 refine qbx 0 58 [ci x0.n, C.slc A_x0ops x0.ops.length c_x0ops, C.slc A_x0blocks x0.blocks.length c_x0blocks] 1 hs fun b_2 w a hs => ?_
 refine qpe 1 [(1, pp b_2)] hs fun a hs => hK1 _ _ ?_
 clear hK1
 refine qsr fun K3 hK3 => ?_
 refine qln 0 ([ci x0.n, C.slc A_x0ops x0.ops.length c_x0ops, C.slc A_x0blocks x0.blocks.length c_x0blocks]) hs rfl fun a hs => ?_
 obtain ⟨v_6, h_5, hm⟩ := bind_t hm
 refine qcl (trace_Tally.ok _ _ _ h_5 _ _ (pt b_2 (blk (Tapi_Trace.obj x0 A_x0ops c_x0ops A_x0blocks c_x0blocks) 58) :: S) A_x0ops c_x0ops hx_x0ops.less A_x0blocks c_x0blocks hx_x0blocks.less hs.own) hs fun w a hs => ?_
 obtain ⟨h_7, hm⟩ := ite_t hm
 obtain ⟨v_9, h_8, hm⟩ := bind_t hm
 refine qva (vi v_9) (op := (.index 77 (.tmp 4) (.const (vi 1)))) hs (fun o ho => run_idxVal (k := .i64) (m := 1) (cs := v_6) (c := ci v_9) ho (by kernel_rfl) (by kernel_rfl) (len := 13) (et := 3) (by kernel_rfl) (by kernel_rfl) (by kernel_rfl) (by kernel_rfl) h_7 (getI_some h_8) _) fun a hs => ?_
 refine qpe 1 [(2, vi v_9)] hs fun a hs => hK3 _ _ ?_
 clear hK3
 refine wp_ret ?_
 exact qr1 (vi v_9) hs rfl hRR (by cases hm; exact ⟨rfl, hs.own.drop⟩)


abbrev octet_Rot.R (κ : Ctx) (S : List HP) (x0 : Int) (x1 : Int) (r : Int) : Ending → World → Prop := fun e w' => e = .returned (vw r) ∧ Ow κ w' (S)
def octet_Rot.m (k : Nat) (x0 : Int) (x1 : Int) : Option Int := (if 0 ≤ band .i64 x1 63 then (if 0 ≤ IntKind.i64.wrap (64 - (band .i64 x1 63)) then some (bor .u64 (shl .u64 x0 (band .i64 x1 63)) (shr .u64 x0 (IntKind.i64.wrap (64 - (band .i64 x1 63))))) else none) else none)

set_option maxRecDepth 100000 in
set_option maxHeartbeats 4000000 in
theorem octet_Rot.ok (k : Nat) (x0 : Int) (x1 : Int) (r : Int) (hm : octet_Rot.m k x0 x1 = some r) (κ : Ctx) (w : World) (S : List HP) (ho : Ow κ w (S)) :
  Calls Try.prog 58 #[vw x0, vi x1] w (octet_Rot.R κ S x0 x1 r) := by
 unfold octet_Rot.m at hm
 generalize hRR : octet_Rot.R κ S x0 x1 r = RR
 refine qen [(0, vw x0), (1, vi x1)] Try.func58 Try.ntmps58 ho fun a hs => ?_
 refine qse 1 [(0, vw x0), (1, vi x1)] hs fun a hs => ?_
 refine qsk 3 [0, 1] hs fun a hs => ?_
 refine Vk.seq fun K3 hK3 => ?_
 obtain ⟨C_4, hC_4⟩ := qC hs.own
 refine qdr 9 κ C_4 hs fun w hs hqC_4 => ?_
 have hcl := qO hC_4 hs.own
 refine qdp (fuel := 4) [0, 1, 3, 4, 5] hs hcl hqC_4 fun a hs => ?_
 obtain ⟨h_5, hm⟩ := ite_t hm
 refine qdt 2 (vw (shl .u64 x0 (band .i64 x1 63))) (op := (.binOp .shl 71 (.tmp 7) (.tmp 8) 3)) hs hcl hqC_4 (fun w hw o ho => by rw [hC_4] at hw; exact run_shl (k' := .i64) ho (by kernel_rfl) (by kernel_rfl) h_5 _) fun a hs => ?_
 obtain ⟨h_6, hm⟩ := ite_t hm
 refine qdt 6 (vw (shr .u64 x0 (IntKind.i64.wrap (64 - (band .i64 x1 63))))) (op := (.binOp .shr 71 (.tmp 10) (.tmp 12) 3)) hs hcl hqC_4 (fun w hw o ho => by rw [hC_4] at hw; exact run_shr (k' := .i64) ho (by kernel_rfl) (by kernel_rfl) h_6 _) fun a hs => ?_
 refine qdp (fuel := 0) [7, 8] hs hcl hqC_4 fun a hs => ?_
 replace hs := hs.pick [4] (L' := [(4, vw (bor .u64 (shl .u64 x0 (band .i64 x1 63)) (shr .u64 x0 (IntKind.i64.wrap (64 - (band .i64 x1 63))))))]) (by kernel_rfl)
 refine Vk.dDone (by kernel_rfl) ?_
 refine hK3 _ _ ?_
 clear hK3
 refine wp_ret ?_
 exact qr1 (vw (bor .u64 (shl .u64 x0 (band .i64 x1 63)) (shr .u64 x0 (IntKind.i64.wrap (64 - (band .i64 x1 63)))))) hs rfl hRR (by cases hm; exact ⟨rfl, hs.own⟩)


def op_Eval.j1 (k : Nat) (x0 : Tapi_Op) (x1 : Int) (x2 : Int) (x3 : Int) (p_12 : Bool) : Option (Int) := (bif p_12 then some x0.c else (bif x0.kind == 5 then some (bxor .u64 x1 x2) else (bif x0.kind == 6 then some (bnot .u64 x1) else (bif x0.kind == 7 then some (band .u64 x1 x2) else (bif x0.kind == 8 then some (band .u64 x1 x0.c) else (bif x0.kind == 9 then (if 0 ≤ Int.tmod x0.c 64 then some (shl .u64 x1 (Int.tmod x0.c 64)) else none) else (bif x0.kind == 10 then (if 0 ≤ Int.tmod x0.c 64 then some (shr .u64 x1 (Int.tmod x0.c 64)) else none) else (bif x0.kind == 11 then (octet_Rot.m k x1 (IntKind.i64.wrap (Int.tmod x0.c 64))).bind fun v_32 => some v_32 else (bif x0.kind == 12 then some (bxor .u64 (bxor .u64 x1 x2) x3) else some 0)))))))))
abbrev op_Eval.R (κ : Ctx) (S : List HP) (x0 : Tapi_Op) (x1 : Int) (x2 : Int) (x3 : Int) (x4 : Int) (r : Int) : Ending → World → Prop := fun e w' => e = .returned (vw r) ∧ Ow κ w' (S)
def op_Eval.m (k : Nat) (x0 : Tapi_Op) (x1 : Int) (x2 : Int) (x3 : Int) (x4 : Int) : Option Int := (bif x0.kind == 1 then some x4 else (bif x0.kind == 2 then some (bxor .u64 (bxor .u64 x4 x1) x2) else (bif x0.kind == 3 then op_Eval.j1 k x0 x1 x2 x3 (x0.kind == 3) else op_Eval.j1 k x0 x1 x2 x3 (x0.kind == 4))))

set_option maxRecDepth 100000 in
set_option maxHeartbeats 4000000 in
theorem op_Eval.ok (k : Nat) (x0 : Tapi_Op) (x1 : Int) (x2 : Int) (x3 : Int) (x4 : Int) (r : Int) (hm : op_Eval.m k x0 x1 x2 x3 x4 = some r) (κ : Ctx) (w : World) (S : List HP) (ho : Ow κ w (S)) :
  Calls Try.prog 54 #[.agg (vals [ci x0.kind, ci x0.dom, ci x0.a, ci x0.b, ci x0.d, cw x0.c]), vw x1, vw x2, vw x3, vw x4] w (op_Eval.R κ S x0 x1 x2 x3 x4 r) := by
 unfold op_Eval.m at hm
 generalize hRR : op_Eval.R κ S x0 x1 x2 x3 x4 r = RR
 refine qen [(0, .agg (vals [ci x0.kind, ci x0.dom, ci x0.a, ci x0.b, ci x0.d, cw x0.c])), (1, vw x1), (2, vw x2), (3, vw x3), (4, vw x4)] Try.func54 Try.ntmps54 ho fun a hs => ?_
 refine qsr fun K1 hK1 => ?_
 refine qbx 0 85 [ci x0.kind, ci x0.dom, ci x0.a, ci x0.b, ci x0.d, cw x0.c] 5 hs fun b_2 w a hs => ?_
 refine qpk 1 [1, 2, 3, 4, 5] hs fun a hs => hK1 _ _ ?_
 clear hK1
 refine qsr fun K3 hK3 => ?_
 refine qpu 1 hs fun a hs => ?_
 refine qld 0 (cw x0.c) hs rfl fun a hs => ?_
 refine qpk 2 [1, 2, 3, 4, 5, 11] hs fun a hs => hK3 _ _ ?_
 clear hK3
 refine Vk.seq fun K4 hK4 => ?_
 refine qsr fun K5 hK5 => ?_
 refine qpu 1 hs fun a hs => ?_
 refine qld 0 (ci x0.kind) hs rfl fun a hs => ?_
 refine qpk 0 [1, 2, 3, 4, 5, 11, 16] hs fun a hs => hK5 _ _ ?_
 clear hK5
 refine wp_block ?_
 refine qsk 2 [1, 2, 3, 4, 5, 11, 16, 17] hs fun a hs => ?_
 refine qcs (x0.kind == 1) hs (fun hb => ?_) fun hb => ?_
 ·replace hm := bif_t hm hb
  refine qse 2 [(10, vw x4)] hs fun a hs => ?_
  refine wp_ret ?_
  exact qr1 (vw x4) hs rfl hRR (by cases hm; exact ⟨rfl, hs.own.drop⟩)
 ·replace hm := bif_f hm hb
  refine qsk 2 [1, 2, 3, 4, 5, 11, 16, 20] hs fun a hs => ?_
  refine qcs (x0.kind == 2) hs (fun hb => ?_) fun hb => ?_
  ·replace hm := bif_t hm hb
   refine qsk 6 [10] hs fun a hs => ?_
   refine wp_ret ?_
   exact qr1 (vw (bxor .u64 (bxor .u64 x4 x1) x2)) hs rfl hRR (by cases hm; exact ⟨rfl, hs.own.drop⟩)
  ·replace hm := bif_f hm hb
   refine Vk.seq fun K10 hK10 => ?_
   have hj10 : ∀ (p_12 : Bool), op_Eval.j1 k x0 x1 x2 x3 p_12 = some r → ∀ (a : Act) (w : World), St 75 a w κ [(1, vw x1), (2, vw x2), (3, vw x3), (5, pp b_2), (11, vw (Int.tmod x0.c 64)), (16, vi x0.kind), (27, .bool p_12)] (pt b_2 (blk (Tapi_Op.cells x0) 85) :: S) → K10 a w := by
    intro p_12 hm a w hs
    unfold op_Eval.j1 at hm
    refine hK10 _ _ ?_
    refine qcs (p_12) hs (fun hb => ?_) fun hb => ?_
    ·replace hm := bif_t hm hb
     refine qsr fun K13 hK13 => ?_
     refine qpu 1 hs fun a hs => ?_
     refine qld 0 (cw x0.c) hs rfl fun a hs => ?_
     refine qpe 1 [(10, vw x0.c)] hs fun a hs => hK13 _ _ ?_
     clear hK13
     refine wp_ret ?_
     exact qr1 (vw x0.c) hs rfl hRR (by cases hm; exact ⟨rfl, hs.own.drop⟩)
    ·replace hm := bif_f hm hb
     refine qsk 2 [1, 2, 3, 5, 11, 16, 32] hs fun a hs => ?_
     refine qcs (x0.kind == 5) hs (fun hb => ?_) fun hb => ?_
     ·replace hm := bif_t hm hb
      refine qsk 4 [10] hs fun a hs => ?_
      refine wp_ret ?_
      exact qr1 (vw (bxor .u64 x1 x2)) hs rfl hRR (by cases hm; exact ⟨rfl, hs.own.drop⟩)
     ·replace hm := bif_f hm hb
      refine qsk 2 [1, 2, 3, 5, 11, 16, 37] hs fun a hs => ?_
      refine qcs (x0.kind == 6) hs (fun hb => ?_) fun hb => ?_
      ·replace hm := bif_t hm hb
       refine qse 3 [(10, vw (bnot .u64 x1))] hs fun a hs => ?_
       refine wp_ret ?_
       exact qr1 (vw (bnot .u64 x1)) hs rfl hRR (by cases hm; exact ⟨rfl, hs.own.drop⟩)
      ·replace hm := bif_f hm hb
       refine qsk 2 [1, 2, 3, 5, 11, 16, 41] hs fun a hs => ?_
       refine qcs (x0.kind == 7) hs (fun hb => ?_) fun hb => ?_
       ·replace hm := bif_t hm hb
        refine qsk 4 [10] hs fun a hs => ?_
        refine wp_ret ?_
        exact qr1 (vw (band .u64 x1 x2)) hs rfl hRR (by cases hm; exact ⟨rfl, hs.own.drop⟩)
       ·replace hm := bif_f hm hb
        refine qsk 2 [1, 2, 3, 5, 11, 16, 46] hs fun a hs => ?_
        refine qcs (x0.kind == 8) hs (fun hb => ?_) fun hb => ?_
        ·replace hm := bif_t hm hb
         refine qsr fun K21 hK21 => ?_
         refine qpu 2 hs fun a hs => ?_
         refine qld 0 (cw x0.c) hs rfl fun a hs => ?_
         refine qpk 2 [10] hs fun a hs => hK21 _ _ ?_
         clear hK21
         refine wp_ret ?_
         exact qr1 (vw (band .u64 x1 x0.c)) hs rfl hRR (by cases hm; exact ⟨rfl, hs.own.drop⟩)
        ·replace hm := bif_f hm hb
         refine qsk 2 [1, 2, 3, 11, 16, 52] hs fun a hs => ?_
         refine qcs (x0.kind == 9) hs (fun hb => ?_) fun hb => ?_
         ·replace hm := bif_t hm hb
          refine qsr fun K23 hK23 => ?_
          refine qpu 2 hs fun a hs => ?_
          obtain ⟨h_24, hm⟩ := ite_t hm
          refine qva (vw (shl .u64 x1 (Int.tmod x0.c 64))) (op := (.binOp .shl 71 (.tmp 54) (.tmp 55) 71)) hs (fun o ho => run_shl (k' := .u64) ho (by kernel_rfl) (by kernel_rfl) h_24 _) fun a hs => ?_
          refine qpe 1 [(10, vw (shl .u64 x1 (Int.tmod x0.c 64)))] hs fun a hs => hK23 _ _ ?_
          clear hK23
          refine wp_ret ?_
          exact qr1 (vw (shl .u64 x1 (Int.tmod x0.c 64))) hs rfl hRR (by cases hm; exact ⟨rfl, hs.own.drop⟩)
         ·replace hm := bif_f hm hb
          refine qsk 2 [1, 2, 3, 11, 16, 57] hs fun a hs => ?_
          refine qcs (x0.kind == 10) hs (fun hb => ?_) fun hb => ?_
          ·replace hm := bif_t hm hb
           refine qsr fun K26 hK26 => ?_
           refine qpu 2 hs fun a hs => ?_
           obtain ⟨h_27, hm⟩ := ite_t hm
           refine qva (vw (shr .u64 x1 (Int.tmod x0.c 64))) (op := (.binOp .shr 71 (.tmp 59) (.tmp 60) 71)) hs (fun o ho => run_shr (k' := .u64) ho (by kernel_rfl) (by kernel_rfl) h_27 _) fun a hs => ?_
           refine qpk 1 [10] hs fun a hs => hK26 _ _ ?_
           clear hK26
           refine wp_ret ?_
           exact qr1 (vw (shr .u64 x1 (Int.tmod x0.c 64))) hs rfl hRR (by cases hm; exact ⟨rfl, hs.own.drop⟩)
          ·replace hm := bif_f hm hb
           refine qsk 2 [1, 2, 3, 11, 16, 62] hs fun a hs => ?_
           refine qcs (x0.kind == 11) hs (fun hb => ?_) fun hb => ?_
           ·replace hm := bif_t hm hb
            refine qsr fun K29 hK29 => ?_
            refine qpu 3 hs fun a hs => ?_
            obtain ⟨v_32, h_31, hm⟩ := bind_t hm
            refine qcl (octet_Rot.ok _ _ _ _ h_31 _ _ (pt b_2 (blk (Tapi_Op.cells x0) 85) :: S) hs.own) hs fun w a hs => ?_
            refine qpe 1 [(10, vw v_32)] hs fun a hs => hK29 _ _ ?_
            clear hK29
            refine wp_ret ?_
            exact qr1 (vw v_32) hs rfl hRR (by cases hm; exact ⟨rfl, hs.own.drop⟩)
           ·replace hm := bif_f hm hb
            refine qsk 2 [1, 2, 3, 68] hs fun a hs => ?_
            refine qcs (x0.kind == 12) hs (fun hb => ?_) fun hb => ?_
            ·replace hm := bif_t hm hb
             refine qsk 6 [10] hs fun a hs => ?_
             refine wp_ret ?_
             exact qr1 (vw (bxor .u64 (bxor .u64 x1 x2) x3)) hs rfl hRR (by cases hm; exact ⟨rfl, hs.own.drop⟩)
            ·replace hm := bif_f hm hb
             refine wp_skip ?_
             refine hK4 _ _ ?_
             clear hK4
             refine qse 1 [(10, vw 0)] hs fun a hs => ?_
             refine wp_ret ?_
             exact qr1 (vw 0) hs rfl hRR (by cases hm; exact ⟨rfl, hs.own.drop⟩)
   refine qse 2 [(1, vw x1), (2, vw x2), (3, vw x3), (5, pp b_2), (11, vw (Int.tmod x0.c 64)), (16, vi x0.kind), (27, .bool (x0.kind == 3))] hs fun a hs => ?_
   refine qcs (x0.kind == 3) hs (fun hb => ?_) fun hb => ?_
   ·replace hm := bif_t hm hb
    refine wp_skip ?_
    exact hj10 (x0.kind == 3) hm _ _ (hs.go [1, 2, 3, 5, 11, 16, 27] [0] 1 (by kernel_rfl) (by kernel_rfl) (by kernel_rfl))
   ·replace hm := bif_f hm hb
    refine Vk.region ?_
    refine qpe 2 [(1, vw x1), (2, vw x2), (3, vw x3), (5, pp b_2), (11, vw (Int.tmod x0.c 64)), (16, vi x0.kind), (27, .bool (x0.kind == 4))] hs fun a hs => ?_
    exact hj10 (x0.kind == 4) hm _ _ (hs.go [1, 2, 3, 5, 11, 16, 27] [0] 1 (by kernel_rfl) (by kernel_rfl) (by kernel_rfl))

structure Treplay_source where
 keys : List Int
 masks : List Int
 opened : List Int
 blind : Bool
 deriving Inhabited
def Treplay_source.obj (x : Treplay_source) (Akeys : Option Addr) (ckeys : Nat) (Amasks : Option Addr) (cmasks : Nat) (Aopened : Option Addr) (copened : Nat) : Cells := [C.slc Akeys x.keys.length ckeys, C.slc Amasks x.masks.length cmasks, C.slc Aopened x.opened.length copened, C.bool x.blind]
def Treplay_source.parts (b : Nat) (x : Treplay_source) (g : Option Addr × Nat × Option Addr × Nat × Option Addr × Nat) : List HP := [pt b (blk (Treplay_source.obj x g.1 g.2.1 g.2.2.1 g.2.2.2.1 g.2.2.2.2.1 g.2.2.2.2.2) 90), rowp g.1 g.2.1 71 1 (eI .u64) x.keys, rowp g.2.2.1 g.2.2.2.1 71 1 (eI .u64) x.masks, rowp g.2.2.2.2.1 g.2.2.2.2.2 71 1 (eI .u64) x.opened]
def Treplay_source.own (b : Nat) (x : Treplay_source) : HP := exBag (Treplay_source.parts b x)

def replay_all.j3 (k : Nat) (rec24 : (List Int) → (List Int) → (List Int) → Int → (List Int) → Option (List Int × List Int × List Int)) (q_35 : List Int) (q_36 : Int) (q_39 : List Int) (p_135 : List Int) (p_163 : List Int) (p_165 : Int) : Option (List Int × List Int × List Int) := (if (q_39.length + ([p_165] : List Int).length) * 8 ≤ 140737488355328 then (if (q_35.length + ([p_165] : List Int).length) * 8 ≤ 140737488355328 then rec24 p_135 p_163 (q_35 ++ ([p_165] : List Int)) (IntKind.i64.wrap (q_36 + 1)) (q_39 ++ ([p_165] : List Int)) else none) else none)
def replay_all.j2 (k : Nat) (rec24 : (List Int) → (List Int) → (List Int) → Int → (List Int) → Option (List Int × List Int × List Int)) (x1 : Treplay_source) (q_31 : List Int) (q_35 : List Int) (q_36 : Int) (q_39 : List Int) (e_47 : Tapi_Op) (p_67 : Int) (p_81 : Int) (p_95 : Int) (p_132 : Int) (p_135 : List Int) : Option (List Int × List Int × List Int) := (op_Eval.m k e_47 p_67 p_81 p_95 p_132).bind fun v_139 => (bif (e_47.kind == 12) && x1.blind then (if 0 ≤ (0 : Int) then (q_31[0]?).bind fun e_149 => (if ((0 : Int) ≤ 1) ∧ 1 ≤ q_31.length ∧ q_31.length ≤ q_31.length then replay_all.j3 k (rec24) q_35 q_36 q_39 p_135 (cut q_31 (1) (q_31.length)) e_149 else none) else none) else replay_all.j3 k (rec24) q_35 q_36 q_39 p_135 q_31 v_139)
def replay_all.j1_3 (k : Nat) (rec24 : (List Int) → (List Int) → (List Int) → Int → (List Int) → Option (List Int × List Int × List Int)) (x1 : Treplay_source) (q_27 : List Int) (q_31 : List Int) (q_35 : List Int) (q_36 : Int) (q_39 : List Int) (e_47 : Tapi_Op) (p_67 : Int) (p_81 : Int) (p_95 : Int) : Option (List Int × List Int × List Int) := (bif e_47.kind == 1 then (if 0 ≤ (0 : Int) then (q_27[0]?).bind fun e_108 => (if ((0 : Int) ≤ 1) ∧ 1 ≤ q_27.length ∧ q_27.length ≤ q_27.length then replay_all.j2 k (rec24) x1 q_31 q_35 q_36 q_39 e_47 p_67 p_81 p_95 e_108 (cut q_27 (1) (q_27.length)) else none) else none) else (bif (e_47.kind == 2) && (!x1.blind) then (if 0 ≤ e_47.c then (x1.keys[e_47.c.toNat]?).bind fun e_127 => replay_all.j2 k (rec24) x1 q_31 q_35 q_36 q_39 e_47 p_67 p_81 p_95 e_127 q_27 else none) else replay_all.j2 k (rec24) x1 q_31 q_35 q_36 q_39 e_47 p_67 p_81 p_95 0 q_27))
def replay_all.j1_2 (k : Nat) (rec24 : (List Int) → (List Int) → (List Int) → Int → (List Int) → Option (List Int × List Int × List Int)) (x1 : Treplay_source) (q_27 : List Int) (q_31 : List Int) (q_35 : List Int) (q_36 : Int) (q_39 : List Int) (e_47 : Tapi_Op) (p_67 : Int) (p_81 : Int) : Option (List Int × List Int × List Int) := (bif decide (e_47.d < 0) then replay_all.j1_3 k (rec24) x1 q_27 q_31 q_35 q_36 q_39 e_47 p_67 p_81 0 else (if 0 ≤ e_47.d then (q_35[e_47.d.toNat]?).bind fun e_91 => replay_all.j1_3 k (rec24) x1 q_27 q_31 q_35 q_36 q_39 e_47 p_67 p_81 e_91 else none))
def replay_all.j1 (k : Nat) (rec24 : (List Int) → (List Int) → (List Int) → Int → (List Int) → Option (List Int × List Int × List Int)) (x1 : Treplay_source) (q_27 : List Int) (q_31 : List Int) (q_35 : List Int) (q_36 : Int) (q_39 : List Int) (e_47 : Tapi_Op) (p_67 : Int) : Option (List Int × List Int × List Int) := (bif decide (e_47.b < 0) then replay_all.j1_2 k (rec24) x1 q_27 q_31 q_35 q_36 q_39 e_47 p_67 0 else (if 0 ≤ e_47.b then (q_35[e_47.b.toNat]?).bind fun e_77 => replay_all.j1_2 k (rec24) x1 q_27 q_31 q_35 q_36 q_39 e_47 p_67 e_77 else none))
def replay_all.l1 (x0 : Tapi_Trace) (x1 : Treplay_source) : Nat → (List Int) → (List Int) → (List Int) → Int → (List Int) → Option (List Int × List Int × List Int)
 | 0, _, _, _, _, _ => none
 | k + 1, q_27, q_31, q_35, q_36, q_39 => (bif decide (q_36 < ((x0.ops.length : Nat) : Int)) then (if 0 ≤ q_36 then (x0.ops[q_36.toNat]?).bind fun e_47 => (bif decide (e_47.a < 0) then replay_all.j1 k (replay_all.l1 x0 x1 k) x1 q_27 q_31 q_35 q_36 q_39 e_47 0 else (if 0 ≤ e_47.a then (q_35[e_47.a.toNat]?).bind fun e_63 => replay_all.j1 k (replay_all.l1 x0 x1 k) x1 q_27 q_31 q_35 q_36 q_39 e_47 e_63 else none)) else none) else some (q_39, q_27, q_31))
abbrev replay_all.R (κ : Ctx) (S : List HP) (x0 : Tapi_Trace) (x1 : Treplay_source) (A_x0ops : Option Addr) (c_x0ops : Nat) (A_x0blocks : Option Addr) (c_x0blocks : Nat) (A_x1keys : Option Addr) (c_x1keys : Nat) (A_x1masks : Option Addr) (c_x1masks : Nat) (A_x1opened : Option Addr) (c_x1opened : Nat) (r : List Int) : Ending → World → Prop := fun e w' => ∃ (A_r0 : Option Addr), ∃ (c_r0 : Nat), e = .returned (.slice A_r0 r.length c_r0) ∧ Ow κ w' (rowp A_r0 c_r0 71 1 (eI .u64) r :: S)
def replay_all.m (k : Nat) (x0 : Tapi_Trace) (x1 : Treplay_source) : Option (List Int) := (if (0 : Int) ≤ 0 ∧ (0 : Int) ≤ ((x0.ops.length : Nat) : Int) ∧ (8 : Int) * ((x0.ops.length : Nat) : Int) ≤ 281474976710656 then (if (0 : Int) ≤ 0 ∧ (0 : Int) ≤ ((x0.ops.length : Nat) : Int) ∧ (8 : Int) * ((x0.ops.length : Nat) : Int) ≤ 281474976710656 then (replay_all.l1 x0 x1 k x1.masks x1.opened (List.replicate 0 0 : List Int) 0 (List.replicate 0 0 : List Int)).bind fun x => match x with | (p_181, p_184, p_188) => some p_181 else none) else none)

set_option maxRecDepth 100000 in
set_option maxHeartbeats 4000000 in
theorem replay_all.ok (k : Nat) (x0 : Tapi_Trace) (x1 : Treplay_source) (r : List Int) (hm : replay_all.m k x0 x1 = some r) (κ : Ctx) (w : World) (S : List HP) (A_x0ops : Option Addr) (c_x0ops : Nat) (hx_x0ops : Sl κ S A_x0ops c_x0ops 6 Tapi_Op.cells x0.ops) (A_x0blocks : Option Addr) (c_x0blocks : Nat) (hx_x0blocks : Sl κ S A_x0blocks c_x0blocks 3 Tapi_Span.cells x0.blocks) (A_x1keys : Option Addr) (c_x1keys : Nat) (hx_x1keys : Sl κ S A_x1keys c_x1keys 1 (eI .u64) x1.keys) (A_x1masks : Option Addr) (c_x1masks : Nat) (hx_x1masks : Sl κ S A_x1masks c_x1masks 1 (eI .u64) x1.masks) (A_x1opened : Option Addr) (c_x1opened : Nat) (hx_x1opened : Sl κ S A_x1opened c_x1opened 1 (eI .u64) x1.opened) (ho : Ow κ w (S)) :
  Calls Try.prog 35 #[.agg (vals [ci x0.n, C.slc A_x0ops x0.ops.length c_x0ops, C.slc A_x0blocks x0.blocks.length c_x0blocks]), .agg (vals [C.slc A_x1keys x1.keys.length c_x1keys, C.slc A_x1masks x1.masks.length c_x1masks, C.slc A_x1opened x1.opened.length c_x1opened, C.bool x1.blind])] w (replay_all.R κ S x0 x1 A_x0ops c_x0ops A_x0blocks c_x0blocks A_x1keys c_x1keys A_x1masks c_x1masks A_x1opened c_x1opened r) := by
 unfold replay_all.m at hm
 generalize hRR : replay_all.R κ S x0 x1 A_x0ops c_x0ops A_x0blocks c_x0blocks A_x1keys c_x1keys A_x1masks c_x1masks A_x1opened c_x1opened r = RR
 refine enterM [(0, .agg (vals [ci x0.n, C.slc A_x0ops x0.ops.length c_x0ops, C.slc A_x0blocks x0.blocks.length c_x0blocks])), (1, .agg (vals [C.slc A_x1keys x1.keys.length c_x1keys, C.slc A_x1masks x1.masks.length c_x1masks, C.slc A_x1opened x1.opened.length c_x1opened, C.bool x1.blind]))] Try.func35 Try.ntmps35 ho fun a hs => ?_
 refine qsr fun K1 hK1 => ?_
 refine qbx 0 58 [ci x0.n, C.slc A_x0ops x0.ops.length c_x0ops, C.slc A_x0blocks x0.blocks.length c_x0blocks] 2 hs fun b_2 w a hs => ?_
 refine qbx 1 90 [C.slc A_x1keys x1.keys.length c_x1keys, C.slc A_x1masks x1.masks.length c_x1masks, C.slc A_x1opened x1.opened.length c_x1opened, C.bool x1.blind] 3 hs fun b_3 w a hs => ?_
 refine qpe 1 [(2, pp b_2), (3, pp b_3)] hs fun a hs => hK1 _ _ ?_
 clear hK1
 refine qsr fun K4 hK4 => ?_
 refine qpu 1 hs fun a hs => ?_
 refine qld 1 (C.slc A_x0ops x0.ops.length c_x0ops) hs rfl fun a hs => ?_
 refine qpu 1 hs fun a hs => ?_
 obtain ⟨h_5, hm⟩ := ite_t hm
 refine Vk.step (Vk.makeOp (x := (.const (vi 0))) (y := (.tmp 9)) (kl := .i64) (kc := .i64) (enc := (eI .u64)) (sz := 1) (by_ := 8) (t := 59) (e := 71) (0) (some 10) hs (by kernel_rfl) (by kernel_rfl) (by kernel_rfl) (by kernel_rfl) (by kernel_rfl) (by kernel_rfl) rfl (by decide) h_5 (by decide) fun A_6 w a hs => ?_)
 refine qal 59 [C.slc none 0 0] 5 hs fun b_8 w a hs => ?_
 refine qst 0 0 (C.slc A_6 ((List.replicate 0 0 : List Int).length) (((x0.ops.length : Nat) : Int).toNat)) hs rfl fun a w hs => ?_
 refine qpk 0 [2, 3, 5] hs fun a hs => hK4 _ _ ?_
 clear hK4
 refine Vk.seq fun K9 hK9 => ?_
 refine qsr fun K10 hK10 => ?_
 refine qln 3 ([ci x0.n, C.slc A_x0ops x0.ops.length c_x0ops, C.slc A_x0blocks x0.blocks.length c_x0blocks]) hs rfl fun a hs => ?_
 refine qln 2 ([C.slc A_x1keys x1.keys.length c_x1keys, C.slc A_x1masks x1.masks.length c_x1masks, C.slc A_x1opened x1.opened.length c_x1opened, C.bool x1.blind]) hs rfl fun a hs => ?_
 refine Vk.step (Vk.call (some 13) 45 #[.agg (vals [ci x0.n, C.slc A_x0ops x0.ops.length c_x0ops, C.slc A_x0blocks x0.blocks.length c_x0blocks]), .agg (vals [C.slc A_x1keys x1.keys.length c_x1keys, C.slc A_x1masks x1.masks.length c_x1masks, C.slc A_x1opened x1.opened.length c_x1opened, C.bool x1.blind])] hs (by kernel_rfl) (by kernel_rfl) (by kernel_rfl) ?_)
 refine Vk.enterI [(0, .agg (vals [ci x0.n, C.slc A_x0ops x0.ops.length c_x0ops, C.slc A_x0blocks x0.blocks.length c_x0blocks])), (1, .agg (vals [C.slc A_x1keys x1.keys.length c_x1keys, C.slc A_x1masks x1.masks.length c_x1masks, C.slc A_x1opened x1.opened.length c_x1opened, C.bool x1.blind]))] Try.func45 rfl Try.ntmps45 (by kernel_rfl) (Nat.le_of_ble_eq_true (by kernel_rfl)) hs.own fun KR11 hKR11 hKP11 a hs => ?_
 refine qsr fun K12 hK12 => ?_
 refine qbx 0 58 [ci x0.n, C.slc A_x0ops x0.ops.length c_x0ops, C.slc A_x0blocks x0.blocks.length c_x0blocks] 2 hs fun b_13 w a hs => ?_
 refine qbx 1 90 [C.slc A_x1keys x1.keys.length c_x1keys, C.slc A_x1masks x1.masks.length c_x1masks, C.slc A_x1opened x1.opened.length c_x1opened, C.bool x1.blind] 3 hs fun b_14 w a hs => ?_
 refine qpe 1 [(2, pp b_13), (3, pp b_14)] hs fun a hs => hK12 _ _ ?_
 clear hK12
 refine qsk 2 [4] hs fun a hs => ?_
 refine wp_ret ?_
 refine hKP11 _ _ ?_
 refine hKR11 _ _ ?_
 refine Vk.ret1 (P := Try.prog) (fn := Try.f45) (.func (.func 52) #[] #[pp b_13, pp b_14]) hs rfl (by kernel_rfl) ⟨_, _, _, rfl, hs.own, fun a hs => ?_⟩
 refine qpk 0 [5, 13] hs fun a hs => hK10 _ _ ?_
 clear hK10
 refine wp_block ?_
 replace hs := hs.pick [5, 13] (L' := [(5, pp b_8), (13, .func (.func 52) #[] #[pp b_13, pp b_14])]) (by kernel_rfl)
 refine rangeFn (gf := 52) (caps := #[pp b_13, pp b_14]) hs fun lp_16 dm_16 fm_16 Tm_16 Xr_16 Yr_16 w hX_16 hY_16 hT_16 ho => ?_
 refine Vk.enterI [(0, .func (.yield lp_16) #[] #[]), (1, pp b_13), (2, pp b_14)] Try.func52 rfl Try.ntmps52 (by kernel_rfl) (Nat.le_of_ble_eq_true (by kernel_rfl)) ho fun KR16 hKR16 hKP16 a hs => ?_
 refine tailK fun KN16 hKN16 => ?_
 refine qsr fun K17 hK17 => ?_
 refine qpu 1 hs fun a hs => ?_
 refine qld 3 (C.slc A_x0ops x0.ops.length c_x0ops) hs rfl fun a hs => ?_
 refine qpu 1 hs fun a hs => ?_
 obtain ⟨h_18, hm⟩ := ite_t hm
 refine Vk.step (Vk.makeOp (x := (.const (vi 0))) (y := (.tmp 11)) (kl := .i64) (kc := .i64) (enc := (eI .u64)) (sz := 1) (by_ := 8) (t := 59) (e := 71) (0) (some 12) hs (by kernel_rfl) (by kernel_rfl) (by kernel_rfl) (by kernel_rfl) (by kernel_rfl) (by kernel_rfl) rfl (by decide) h_18 (by decide) fun A_19 w a hs => ?_)
 refine qal 59 [C.slc none 0 0] 4 hs fun b_21 w a hs => ?_
 refine qst 0 0 (C.slc A_19 ((List.replicate 0 0 : List Int).length) (((x0.ops.length : Nat) : Int).toNat)) hs rfl fun a w hs => ?_
 refine qpk 0 [0, 1, 2, 4] hs fun a hs => hK17 _ _ ?_
 clear hK17
 refine qsk 2 [0, 1, 2, 4, 5] hs fun a hs => ?_
 refine qsr fun K23 hK23 => ?_
 refine qpu 1 hs fun a hs => ?_
 refine qld 5 (C.slc A_x0ops x0.ops.length c_x0ops) hs rfl fun a hs => ?_
 refine qpk 2 [0, 2, 4, 5, 15, 16, 17] hs fun a hs => hK23 _ _ ?_
 clear hK23
 refine wp_block ?_
 obtain ⟨r24, hl24, hm⟩ := bind_t hm
 have hx24 : ∀ (p_181 : List Int) (p_184 : List Int) (p_188 : List Int), r24 = (p_181, p_184, p_188) → ∀ (A_179 : Option Addr) (c_180 : Nat) (A_182 : Option Addr) (c_183 : Nat) (hx_185 : Sl κ S A_182 c_183 1 (eI .u64) p_184) (A_186 : Option Addr) (c_187 : Nat) (hx_189 : Sl κ S A_186 c_187 1 (eI .u64) p_188) (a : Act) (w : World), St 55 a w κ [] (pt lp_16 Xr_16 :: pt dm_16 dfD :: pt b_8 (blk [C.slc A_179 p_181.length c_180] 59) :: rowp A_179 c_180 71 1 (eI .u64) p_181 :: pt b_13 (blk (Tapi_Trace.obj x0 A_x0ops c_x0ops A_x0blocks c_x0blocks) 58) :: pt b_14 (blk [C.slc A_x1keys x1.keys.length c_x1keys, C.slc A_182 p_184.length c_183, C.slc A_186 p_188.length c_187, C.bool x1.blind] 90) :: S) → KN16 a w := by
  intro p_181 p_184 p_188 he A_179 c_180 A_182 c_183 hx_185 A_186 c_187 hx_189 a w hs
  subst r24
  refine hKN16 _ _ ?_
  refine Vk.end0 (P := Try.prog) (fn := Try.f52) hs rfl ⟨_, _, 0, ⟨_, rfl⟩, hs.own, rfl, fun a w (hs : St ⟨20, [mkD dm_16]⟩ a w κ [(5, pp b_8), (13, .func (.func 52) #[] #[pp b_13, pp b_14])] (pt dm_16 dfD :: pt b_8 (blk [C.slc A_179 p_181.length c_180] 59) :: rowp A_179 c_180 71 1 (eI .u64) p_181 :: pt b_13 (blk (Tapi_Trace.obj x0 A_x0ops c_x0ops A_x0blocks c_x0blocks) 58) :: pt b_14 (blk [C.slc A_x1keys x1.keys.length c_x1keys, C.slc A_182 p_184.length c_183, C.slc A_186 p_188.length c_187, C.bool x1.blind] 90) :: S)) => ?_⟩
  refine hK9 _ _ ?_
  clear hK9
  refine qsr fun K205 hK205 => ?_
  refine qld 1 (C.slc A_179 p_181.length c_180) hs rfl fun a hs => ?_
  refine qpe 1 [(4, .slice A_179 p_181.length c_180)] hs fun a hs => hK205 _ _ ?_
  clear hK205
  refine wp_ret ?_
  refine leaves1 0 hs rfl rfl fun a w hs => ?_
  replace hs : St 20 a w κ [(4, .slice A_179 p_181.length c_180)] (pt b_8 (blk [C.slc A_179 p_181.length c_180] 59) :: rowp A_179 c_180 71 1 (eI .u64) p_181 :: pt b_13 (blk (Tapi_Trace.obj x0 A_x0ops c_x0ops A_x0blocks c_x0blocks) 58) :: pt b_14 (blk [C.slc A_x1keys x1.keys.length c_x1keys, C.slc A_182 p_184.length c_183, C.slc A_186 p_188.length c_187, C.bool x1.blind] 90) :: S) := hs.pick [4] (by kernel_rfl)
  exact qr1 (.slice A_179 p_181.length c_180) hs rfl hRR (by cases hm; exact ⟨A_179, c_180, rfl, hs.own.f3.drop.f2.drop.drop⟩)
 refine Vk.loopBy (fun k (s : List Int × List Int × List Int × Int × List Int) a w => ∃ (A_25 : Option Addr), ∃ (c_26 : Nat), ∃ (A_29 : Option Addr), ∃ (c_30 : Nat), ∃ (A_33 : Option Addr), ∃ (c_34 : Nat), ∃ (A_37 : Option Addr), ∃ (c_38 : Nat), replay_all.l1 x0 x1 k s.1 s.2.1 s.2.2.1 s.2.2.2.1 s.2.2.2.2 = some r24 ∧ Sl κ S A_25 c_26 1 (eI .u64) s.1 ∧ Sl κ S A_29 c_30 1 (eI .u64) s.2.1 ∧ St 55 a w κ [(0, .func (.yield lp_16) #[] #[]), (2, pp b_14), (4, pp b_21), (5, .func (.func 53) #[] #[pp b_21]), (15, .slice A_x0ops x0.ops.length c_x0ops), (16, vi ((x0.ops.length : Nat) : Int)), (17, vi s.2.2.2.1)] (pt b_14 (blk [C.slc A_x1keys x1.keys.length c_x1keys, C.slc A_25 s.1.length c_26, C.slc A_29 s.2.1.length c_30, C.bool x1.blind] 90) :: pt b_21 (blk [C.slc A_33 s.2.2.1.length c_34] 59) :: rowp A_33 c_34 71 1 (eI .u64) s.2.2.1 :: pt lp_16 Xr_16 :: pt dm_16 dfD :: pt b_8 (blk [C.slc A_37 s.2.2.2.2.length c_38] 59) :: rowp A_37 c_38 71 1 (eI .u64) s.2.2.2.2 :: pt b_13 (blk (Tapi_Trace.obj x0 A_x0ops c_x0ops A_x0blocks c_x0blocks) 58) :: S)) k (x1.masks, x1.opened, (List.replicate 0 0 : List Int), 0, (List.replicate 0 0 : List Int)) ⟨A_x1masks, c_x1masks, A_x1opened, c_x1opened, A_19, ((x0.ops.length : Nat) : Int).toNat, A_6, ((x0.ops.length : Nat) : Int).toNat, hl24, hx_x1masks, hx_x1opened, hs.go [0, 2, 4, 5, 15, 16, 17] [4, 0, 1, 2, 3, 6, 7, 5] 10 (by kernel_rfl) (by kernel_rfl) (by kernel_rfl)⟩ (fun s a w h => by obtain ⟨_, _, _, _, _, _, _, _, h1, _⟩ := h; simp [replay_all.l1] at h1) (fun k KL24 ih s a w h => ?_)
 obtain ⟨q_27, q_31, q_35, q_36, q_39⟩ := s
 obtain ⟨A_25, c_26, A_29, c_30, A_33, c_34, A_37, c_38, hm, hx_28, hx_32, hs⟩ := h
 try dsimp only at hm hs
 rw [replay_all.l1] at hm
 refine qsk 1 [0, 2, 4, 5, 15, 16, 17, 18] hs fun a hs => ?_
 refine Vk.seq fun K41 hK41 => ?_
 refine qcs (decide (q_36 < ((x0.ops.length : Nat) : Int))) hs (fun hb => ?_) fun hb => ?_
 ·replace hm := bif_t hm hb
  refine wp_skip ?_
  refine hK41 _ _ ?_
  clear hK41
  refine Vk.seq fun K42 hK42 => ?_
  refine wp_block ?_
  refine qsr fun K43 hK43 => ?_
  obtain ⟨h_44, hm⟩ := ite_t hm
  obtain ⟨e_47, h_45, hm⟩ := bind_t hm
  obtain ⟨b_48, o_49, hA_50, h_46⟩ := Sl.elem hx_x0ops h_45
  refine qva (.pointer (some ⟨b_48, o_49 + q_36.toNat * 6, none⟩)) (op := (.indexAddr 55 (.tmp 15) (.tmp 17))) hs (fun o ho => run_idxSlc (k := .i64) ho (cap := c_x0ops) (len := x0.ops.length) ((congrArg (fun A => Value.slice A (x0.ops.length) (c_x0ops)) hA_50) ▸ (by kernel_rfl)) (by kernel_rfl) (by kernel_rfl) (idx_ok h_44 h_45) _) fun a hs => ?_
  refine qva (.agg (vals [ci e_47.kind, ci e_47.dom, ci e_47.a, ci e_47.b, ci e_47.d, cw e_47.c])) (op := (.load 85 (.tmp 19))) hs (fun o ho => run_loadN (cs := [ci e_47.kind, ci e_47.dom, ci e_47.a, ci e_47.b, ci e_47.d, cw e_47.c]) ho (by kernel_rfl) (by kernel_rfl) rfl h_46 _ hs.own.drop.drop.drop.drop.drop.drop.drop.drop) fun a hs => ?_
  refine qal 85 [ci 0, ci 0, ci 0, ci 0, ci 0, cw 0] 7 hs fun b_51 w a hs => ?_
  refine qsa 0 [ci e_47.kind, ci e_47.dom, ci e_47.a, ci e_47.b, ci e_47.d, cw e_47.c] hs rfl fun a w hs => ?_
  refine qpk 0 [0, 2, 4, 5, 7, 15, 16, 17] hs fun a hs => hK43 _ _ ?_
  clear hK43
  refine Vk.seq fun K52 hK52 => ?_
  obtain ⟨C_53, hC_53⟩ := qC hs.own.f1.drop
  refine qdr 17 κ C_53 hs fun w hs hqC_53 => ?_
  have hcl := qO hC_53 hs.own.f1.drop
  refine qdp (fuel := 11) [1, 2, 5, 6, 9, 10] hs hcl hqC_53 fun a hs => ?_
  refine qdn 0 0 ([ci e_47.kind, ci e_47.dom, ci e_47.a, ci e_47.b, ci e_47.d, cw e_47.c]) hs hcl hqC_53 hC_53 rfl fun a hs => ?_
  refine qdl 3 0 (ci e_47.a) hs hcl hqC_53 hC_53 rfl fun a hs => ?_
  refine qdl 7 0 (ci e_47.b) hs hcl hqC_53 hC_53 rfl fun a hs => ?_
  refine qdl 11 0 (ci e_47.d) hs hcl hqC_53 hC_53 rfl fun a hs => ?_
  refine qdn 13 0 ([ci e_47.kind, ci e_47.dom, ci e_47.a, ci e_47.b, ci e_47.d, cw e_47.c]) hs hcl hqC_53 hC_53 rfl fun a hs => ?_
  refine Vk.dOnly (i := 4) (by kernel_rfl) (Vk.call (some 25) 53 #[vi e_47.a, pp b_21] hs (by kernel_rfl) (by kernel_rfl) (by kernel_rfl) ?_)
  refine Vk.enterI [(0, vi e_47.a), (1, pp b_21)] Try.func53 rfl Try.ntmps53 (by kernel_rfl) (Nat.le_of_ble_eq_true (by kernel_rfl)) hs.own fun KR54 hKR54 hKP54 a hs => ?_
  have hj54 : ∀ (p_67 : Int), replay_all.j1 k (replay_all.l1 x0 x1 k) x1 q_27 q_31 q_35 q_36 q_39 e_47 p_67 = some r24 → ∀ (a : Act) (w : World), St 10 a w κ [(3, vw p_67)] (pt lp_16 Xr_16 :: pt dm_16 dfD :: pt b_8 (blk [C.slc A_37 q_39.length c_38] 59) :: rowp A_37 c_38 71 1 (eI .u64) q_39 :: pt b_13 (blk (Tapi_Trace.obj x0 A_x0ops c_x0ops A_x0blocks c_x0blocks) 58) :: pt b_14 (blk [C.slc A_x1keys x1.keys.length c_x1keys, C.slc A_25 q_27.length c_26, C.slc A_29 q_31.length c_30, C.bool x1.blind] 90) :: pt b_21 (blk [C.slc A_33 q_35.length c_34] 59) :: rowp A_33 c_34 71 1 (eI .u64) q_35 :: pt b_51 (blk (Tapi_Op.cells e_47) 85) :: S) → KR54 a w := by
   intro p_67 hm a w hs
   unfold replay_all.j1 at hm
   refine hKR54 _ _ ?_
   refine Vk.ret1 (P := Try.prog) (fn := Try.f53) (vw p_67) hs rfl (by kernel_rfl) ⟨_, _, _, rfl, hs.own, fun a hs => ?_⟩
   replace hcl := qO hC_53 hs.own.f5.drop.f6.f6.f7
   refine ⟨fun _ => hcl, ?_⟩
   refine Vk.dOnly (i := 8) (by kernel_rfl) (Vk.call (some 29) 53 #[vi e_47.b, pp b_21] hs (by kernel_rfl) (by kernel_rfl) (by kernel_rfl) ?_)
   refine Vk.enterI [(0, vi e_47.b), (1, pp b_21)] Try.func53 rfl Try.ntmps53 (by kernel_rfl) (Nat.le_of_ble_eq_true (by kernel_rfl)) hs.own fun KR68 hKR68 hKP68 a hs => ?_
   have hj68 : ∀ (p_81 : Int), replay_all.j1_2 k (replay_all.l1 x0 x1 k) x1 q_27 q_31 q_35 q_36 q_39 e_47 p_67 p_81 = some r24 → ∀ (a : Act) (w : World), St 10 a w κ [(3, vw p_81)] (pt lp_16 Xr_16 :: pt dm_16 dfD :: pt b_8 (blk [C.slc A_37 q_39.length c_38] 59) :: rowp A_37 c_38 71 1 (eI .u64) q_39 :: pt b_13 (blk (Tapi_Trace.obj x0 A_x0ops c_x0ops A_x0blocks c_x0blocks) 58) :: pt b_14 (blk [C.slc A_x1keys x1.keys.length c_x1keys, C.slc A_25 q_27.length c_26, C.slc A_29 q_31.length c_30, C.bool x1.blind] 90) :: pt b_21 (blk [C.slc A_33 q_35.length c_34] 59) :: rowp A_33 c_34 71 1 (eI .u64) q_35 :: pt b_51 (blk (Tapi_Op.cells e_47) 85) :: S) → KR68 a w := by
    intro p_81 hm a w hs
    unfold replay_all.j1_2 at hm
    refine hKR68 _ _ ?_
    refine Vk.ret1 (P := Try.prog) (fn := Try.f53) (vw p_81) hs rfl (by kernel_rfl) ⟨_, _, _, rfl, hs.own, fun a hs => ?_⟩
    replace hcl := qO hC_53 hs.own.f5.drop.f6.f6.f7
    refine ⟨fun _ => hcl, ?_⟩
    refine Vk.dOnly (i := 12) (by kernel_rfl) (Vk.call (some 33) 53 #[vi e_47.d, pp b_21] hs (by kernel_rfl) (by kernel_rfl) (by kernel_rfl) ?_)
    refine Vk.enterI [(0, vi e_47.d), (1, pp b_21)] Try.func53 rfl Try.ntmps53 (by kernel_rfl) (Nat.le_of_ble_eq_true (by kernel_rfl)) hs.own fun KR82 hKR82 hKP82 a hs => ?_
    have hj82 : ∀ (p_95 : Int), replay_all.j1_3 k (replay_all.l1 x0 x1 k) x1 q_27 q_31 q_35 q_36 q_39 e_47 p_67 p_81 p_95 = some r24 → ∀ (a : Act) (w : World), St 10 a w κ [(3, vw p_95)] (pt lp_16 Xr_16 :: pt dm_16 dfD :: pt b_8 (blk [C.slc A_37 q_39.length c_38] 59) :: rowp A_37 c_38 71 1 (eI .u64) q_39 :: pt b_13 (blk (Tapi_Trace.obj x0 A_x0ops c_x0ops A_x0blocks c_x0blocks) 58) :: pt b_14 (blk [C.slc A_x1keys x1.keys.length c_x1keys, C.slc A_25 q_27.length c_26, C.slc A_29 q_31.length c_30, C.bool x1.blind] 90) :: pt b_21 (blk [C.slc A_33 q_35.length c_34] 59) :: rowp A_33 c_34 71 1 (eI .u64) q_35 :: pt b_51 (blk (Tapi_Op.cells e_47) 85) :: S) → KR82 a w := by
     intro p_95 hm a w hs
     unfold replay_all.j1_3 at hm
     refine hKR82 _ _ ?_
     refine Vk.ret1 (P := Try.prog) (fn := Try.f53) (vw p_95) hs rfl (by kernel_rfl) ⟨_, _, _, rfl, hs.own, fun a hs => ?_⟩
     replace hcl := qO hC_53 hs.own.f5.drop.f6.f6.f7
     refine ⟨fun _ => hcl, ?_⟩
     refine Vk.dOnly (i := 14) (by kernel_rfl) (Vk.call (some 35) 55 #[pp b_14, .agg (vals [ci e_47.kind, ci e_47.dom, ci e_47.a, ci e_47.b, ci e_47.d, cw e_47.c])] hs (by kernel_rfl) (by kernel_rfl) (by kernel_rfl) ?_)
     refine Vk.enterI [(0, pp b_14), (1, .agg (vals [ci e_47.kind, ci e_47.dom, ci e_47.a, ci e_47.b, ci e_47.d, cw e_47.c]))] Try.func55 rfl Try.ntmps55 (by kernel_rfl) (Nat.le_of_ble_eq_true (by kernel_rfl)) hs.own fun KR96 hKR96 hKP96 a hs => ?_
     have hj96 : ∀ (p_132 : Int) (p_135 : List Int), replay_all.j2 k (replay_all.l1 x0 x1 k) x1 q_31 q_35 q_36 q_39 e_47 p_67 p_81 p_95 p_132 p_135 = some r24 → ∀ (A_133 : Option Addr) (c_134 : Nat) (hx_136 : Sl κ S A_133 c_134 1 (eI .u64) p_135) (a : Act) (w : World), St 32 a w κ [(4, vw p_132)] (pt lp_16 Xr_16 :: pt dm_16 dfD :: pt b_8 (blk [C.slc A_37 q_39.length c_38] 59) :: rowp A_37 c_38 71 1 (eI .u64) q_39 :: pt b_13 (blk (Tapi_Trace.obj x0 A_x0ops c_x0ops A_x0blocks c_x0blocks) 58) :: pt b_14 (blk [C.slc A_x1keys x1.keys.length c_x1keys, C.slc A_133 p_135.length c_134, C.slc A_29 q_31.length c_30, C.bool x1.blind] 90) :: pt b_21 (blk [C.slc A_33 q_35.length c_34] 59) :: rowp A_33 c_34 71 1 (eI .u64) q_35 :: pt b_51 (blk (Tapi_Op.cells e_47) 85) :: S) → KR96 a w := by
      intro p_132 p_135 hm A_133 c_134 hx_136 a w hs
      unfold replay_all.j2 at hm
      refine hKR96 _ _ ?_
      refine Vk.ret1 (P := Try.prog) (fn := Try.f55) (vw p_132) hs rfl (by kernel_rfl) ⟨_, _, _, rfl, hs.own, fun a hs => ?_⟩
      replace hcl := qO hC_53 hs.own.f5.drop.f6.f6.f7
      refine ⟨fun _ => hcl, ?_⟩
      obtain ⟨v_139, h_138, hm⟩ := bind_t hm
      refine qdc 15 (op_Eval.ok _ _ _ _ _ _ _ h_138 _ _ (pt lp_16 Xr_16 :: pt dm_16 dfD :: pt b_8 (blk [C.slc A_37 q_39.length c_38] 59) :: rowp A_37 c_38 71 1 (eI .u64) q_39 :: pt b_13 (blk (Tapi_Trace.obj x0 A_x0ops c_x0ops A_x0blocks c_x0blocks) 58) :: pt b_14 (blk [C.slc A_x1keys x1.keys.length c_x1keys, C.slc A_133 p_135.length c_134, C.slc A_29 q_31.length c_30, C.bool x1.blind] 90) :: pt b_21 (blk [C.slc A_33 q_35.length c_34] 59) :: rowp A_33 c_34 71 1 (eI .u64) q_35 :: pt b_51 (blk (Tapi_Op.cells e_47) 85) :: S) hs.own) hs fun w a hs => ?_
      replace hcl := qO hC_53 hs.own.f5.drop.f6.f6.f7
      refine ⟨fun _ => hcl, ?_⟩
      refine qdp (fuel := 0) [16] hs hcl hqC_53 fun a hs => ?_
      replace hs := hs.pick [0, 2, 4, 5, 7, 8, 15, 16, 17] (L' := [(0, .func (.yield lp_16) #[] #[]), (2, pp b_14), (4, pp b_21), (5, .func (.func 53) #[] #[pp b_21]), (7, pp b_51), (8, vw v_139), (15, .slice A_x0ops x0.ops.length c_x0ops), (16, vi ((x0.ops.length : Nat) : Int)), (17, vi q_36)]) (by kernel_rfl)
      refine Vk.dDone (by kernel_rfl) ?_
      refine hK52 _ _ ?_
      clear hK52
      refine Vk.seq fun K140 hK140 => ?_
      have hj140 : ∀ (p_163 : List Int) (p_165 : Int), replay_all.j3 k (replay_all.l1 x0 x1 k) q_35 q_36 q_39 p_135 p_163 p_165 = some r24 → ∀ (A_161 : Option Addr) (c_162 : Nat) (hx_164 : Sl κ S A_161 c_162 1 (eI .u64) p_163) (a : Act) (w : World), St 55 a w κ [(0, .func (.yield lp_16) #[] #[]), (2, pp b_14), (4, pp b_21), (5, .func (.func 53) #[] #[pp b_21]), (8, vw p_165), (15, .slice A_x0ops x0.ops.length c_x0ops), (16, vi ((x0.ops.length : Nat) : Int)), (17, vi q_36)] (pt b_14 (blk [C.slc A_x1keys x1.keys.length c_x1keys, C.slc A_133 p_135.length c_134, C.slc A_161 p_163.length c_162, C.bool x1.blind] 90) :: pt b_21 (blk [C.slc A_33 q_35.length c_34] 59) :: rowp A_33 c_34 71 1 (eI .u64) q_35 :: pt lp_16 Xr_16 :: pt dm_16 dfD :: pt b_8 (blk [C.slc A_37 q_39.length c_38] 59) :: rowp A_37 c_38 71 1 (eI .u64) q_39 :: pt b_13 (blk (Tapi_Trace.obj x0 A_x0ops c_x0ops A_x0blocks c_x0blocks) 58) :: S) → K140 a w := by
       intro p_163 p_165 hm A_161 c_162 hx_164 a w hs
       unfold replay_all.j3 at hm
       refine hK140 _ _ ?_
       refine Vk.seq fun K166 hK166 => ?_
       refine qsr fun K167 hK167 => ?_
       refine qpu 2 hs fun a hs => ?_
       refine yieldOp 3 #[vw p_165] hs hX_16 hY_16 hT_16 rfl fun KA168 QB168 a hqB168 hno168 hKB168 hb168 he168 hs => ?_
       replace hs := hs.pick [5, 14] (L' := [(5, pp b_8), (14, vw p_165)]) (by kernel_rfl)
       refine regionI ?_
       refine qpe 1 [(5, pp b_8), (6, vw p_165)] hs fun a hs => ?_
       refine hb168 3 _ _ _ _ _ hs rfl fun w hs => ?_
       replace hs : St 20 a w κ [(5, pp b_8), (6, vw p_165)] (pt b_14 (blk [C.slc A_x1keys x1.keys.length c_x1keys, C.slc A_133 p_135.length c_134, C.slc A_161 p_163.length c_162, C.bool x1.blind] 90) :: pt b_21 (blk [C.slc A_33 q_35.length c_34] 59) :: rowp A_33 c_34 71 1 (eI .u64) q_35 :: pt lp_16 Yr_16 :: pt dm_16 dfD :: pt b_8 (blk [C.slc A_37 q_39.length c_38] 59) :: rowp A_37 c_38 71 1 (eI .u64) q_39 :: pt b_13 (blk (Tapi_Trace.obj x0 A_x0ops c_x0ops A_x0blocks c_x0blocks) 58) :: S) := hs.pick [5, 6] (by kernel_rfl)
       refine blockI ?_
       refine regionI ?_
       refine qld 5 (C.slc A_37 q_39.length c_38) hs rfl fun a hs => ?_
       refine qpu 1 hs fun a hs => ?_
       refine Vk.step (Vk.buildOp (sz := 1) (by_ := 8) (t := 59) (e := 71) (parts := #[(0, (.tmp 16))]) (zs := vals [cw 0]) ([p_165] : List Int) (eI .u64) (some 17) hs (by kernel_rfl) (by kernel_rfl) (by kernel_rfl) (by kernel_rfl) (by decide) rfl (fun x _ => rfl) (Nat.le_of_ble_eq_true (by kernel_rfl)) (by kernel_rfl) fun A_169 w a hs => ?_)
       obtain ⟨h_171, hm⟩ := ite_t hm
       refine Vk.step (Vk.appendOp (x := (.tmp 15)) (y := (.tmp 17)) (e := 71) (t := 59) (by_ := 8) (sz := 1) (enc := (eI .u64)) (A := A_37) (cap := c_38) (xs := q_39) (ys := ([p_165] : List Int)) (B := A_169) (c2 := 1) 7 (some 18) hs (by kernel_rfl) (by kernel_rfl) (by kernel_rfl) (by kernel_rfl) rfl (Sl.lift (fun w ho => (Ow.to (S' := rowp A_169 1 71 1 (eI .u64) ([p_165] : List Int) :: S) ho [0] 9 (by kernel_rfl) (by kernel_rfl))) (Ow.rowSl 0 (Ow.to (S' := rowp A_169 1 71 1 (eI .u64) ([p_165] : List Int) :: S) hs.own [0] 9 (by kernel_rfl) (by kernel_rfl)) rfl)) (by kernel_rfl) (by kernel_rfl) (by decide) (by decide) h_171 fun A_172 c_173 w a hs => ?_)
       refine qst 6 0 (C.slc A_172 ((q_39 ++ ([p_165] : List Int)).length) c_173) hs rfl fun a w hs => ?_
       refine qpe 0 [] hs fun a hs => ?_
       refine he168 4 _ _ _ _ _ hs rfl fun a w hs => ?_
       replace hs : St 55 a w κ [(0, .func (.yield lp_16) #[] #[]), (2, pp b_14), (4, pp b_21), (5, .func (.func 53) #[] #[pp b_21]), (8, vw p_165), (15, .slice A_x0ops x0.ops.length c_x0ops), (16, vi ((x0.ops.length : Nat) : Int)), (17, vi q_36), (46, .func (.yield lp_16) #[] #[]), (47, vw p_165), (48, .bool true)] (rowp A_169 1 71 1 (eI .u64) ([p_165] : List Int) :: pt b_14 (blk [C.slc A_x1keys x1.keys.length c_x1keys, C.slc A_133 p_135.length c_134, C.slc A_161 p_163.length c_162, C.bool x1.blind] 90) :: pt b_21 (blk [C.slc A_33 q_35.length c_34] 59) :: rowp A_33 c_34 71 1 (eI .u64) q_35 :: pt lp_16 Xr_16 :: pt dm_16 dfD :: pt b_8 (blk ([C.slc A_172 ((q_39 ++ ([p_165] : List Int)).length) c_173]) 59) :: rowp A_172 c_173 71 1 (eI .u64) (q_39 ++ ([p_165] : List Int)) :: pt b_13 (blk (Tapi_Trace.obj x0 A_x0ops c_x0ops A_x0blocks c_x0blocks) 58) :: S) := hs.pick [0, 2, 4, 5, 8, 15, 16, 17, 46, 47, 48] (by kernel_rfl)
       refine qpk 1 [0, 2, 4, 5, 8, 15, 16, 17, 49] hs fun a hs => hK167 _ _ ?_
       clear hK167
       refine qcf hs ?_
       refine wp_skip ?_
       refine hK166 _ _ ?_
       clear hK166
       refine Vk.region ?_
       refine qld 2 (C.slc A_33 q_35.length c_34) hs rfl fun a hs => ?_
       refine qpu 1 hs fun a hs => ?_
       refine Vk.step (Vk.buildOp (sz := 1) (by_ := 8) (t := 59) (e := 71) (parts := #[(0, (.tmp 51))]) (zs := vals [cw 0]) ([p_165] : List Int) (eI .u64) (some 52) hs (by kernel_rfl) (by kernel_rfl) (by kernel_rfl) (by kernel_rfl) (by decide) rfl (fun x _ => rfl) (Nat.le_of_ble_eq_true (by kernel_rfl)) (by kernel_rfl) fun A_174 w a hs => ?_)
       obtain ⟨h_176, hm⟩ := ite_t hm
       refine Vk.step (Vk.appendOp (x := (.tmp 50)) (y := (.tmp 52)) (e := 71) (t := 59) (by_ := 8) (sz := 1) (enc := (eI .u64)) (A := A_33) (cap := c_34) (xs := q_35) (ys := ([p_165] : List Int)) (B := A_174) (c2 := 1) 4 (some 53) hs (by kernel_rfl) (by kernel_rfl) (by kernel_rfl) (by kernel_rfl) rfl (Sl.lift (fun w ho => (Ow.to (S' := rowp A_174 1 71 1 (eI .u64) ([p_165] : List Int) :: S) ho [0] 10 (by kernel_rfl) (by kernel_rfl))) (Ow.rowSl 0 (Ow.to (S' := rowp A_174 1 71 1 (eI .u64) ([p_165] : List Int) :: S) hs.own [0] 10 (by kernel_rfl) (by kernel_rfl)) rfl)) (by kernel_rfl) (by kernel_rfl) (by decide) (by decide) h_176 fun A_177 c_178 w a hs => ?_)
       refine qst 3 0 (C.slc A_177 ((q_35 ++ ([p_165] : List Int)).length) c_178) hs rfl fun a w hs => ?_
       refine qpk 0 [0, 2, 4, 5, 15, 16, 17] hs fun a hs => hK42 _ _ ?_
       clear hK42
       refine Vk.region ?_
       refine qpe 2 [(0, .func (.yield lp_16) #[] #[]), (2, pp b_14), (4, pp b_21), (5, .func (.func 53) #[] #[pp b_21]), (15, .slice A_x0ops x0.ops.length c_x0ops), (16, vi ((x0.ops.length : Nat) : Int)), (17, vi (IntKind.i64.wrap (q_36 + 1)))] hs fun a hs => ?_
       refine ih (p_135, p_163, (q_35 ++ ([p_165] : List Int)), (IntKind.i64.wrap (q_36 + 1)), (q_39 ++ ([p_165] : List Int))) _ _ ⟨A_133, c_134, A_161, c_162, A_177, c_178, A_172, c_173, hm, hx_136, hx_164, hs.go [0, 2, 4, 5, 15, 16, 17] [2, 3, 4, 5, 6, 7, 8, 9] 10 (by kernel_rfl) (by kernel_rfl) (by kernel_rfl)⟩
      refine qsr fun K141 hK141 => ?_
      refine qpu 1 hs fun a hs => ?_
      refine qld 8 (ci e_47.kind) hs rfl fun a hs => ?_
      refine qpu 2 hs fun a hs => ?_
      suffices hj_142 : ∀ a, St 55 a w κ [(0, .func (.yield lp_16) #[] #[]), (2, pp b_14), (4, pp b_21), (5, .func (.func 53) #[] #[pp b_21]), (7, pp b_51), (8, vw v_139), (15, .slice A_x0ops x0.ops.length c_x0ops), (16, vi ((x0.ops.length : Nat) : Int)), (17, vi q_36), (37, pp b_51), (38, vi e_47.kind), (39, .bool (e_47.kind == 12)), (40, .bool (e_47.kind == 12)), (43, .bool ((e_47.kind == 12) && x1.blind))] (pt lp_16 Xr_16 :: pt dm_16 dfD :: pt b_8 (blk [C.slc A_37 q_39.length c_38] 59) :: rowp A_37 c_38 71 1 (eI .u64) q_39 :: pt b_13 (blk (Tapi_Trace.obj x0 A_x0ops c_x0ops A_x0blocks c_x0blocks) 58) :: pt b_14 (blk [C.slc A_x1keys x1.keys.length c_x1keys, C.slc A_133 p_135.length c_134, C.slc A_29 q_31.length c_30, C.bool x1.blind] 90) :: pt b_21 (blk [C.slc A_33 q_35.length c_34] 59) :: rowp A_33 c_34 71 1 (eI .u64) q_35 :: pt b_51 (blk (Tapi_Op.cells e_47) 85) :: S) → wpFrom Try.prog _ _ 7 a w by
       rcases Bool.eq_false_or_eq_true (e_47.kind == 12) with hb | hb
       ·replace hs := hs.known (t := 40) hb (by kernel_rfl)
        refine qpu 1 hs fun a hs => ?_
        refine qld 5 (C.bool x1.blind) hs rfl fun a hs => ?_
        refine qpu 1 hs fun a hs => ?_
        have hq := hs.pick [0, 2, 4, 5, 7, 8, 15, 16, 17, 37, 38, 39, 40, 43] (L' := [(0, .func (.yield lp_16) #[] #[]), (2, pp b_14), (4, pp b_21), (5, .func (.func 53) #[] #[pp b_21]), (7, pp b_51), (8, vw v_139), (15, .slice A_x0ops x0.ops.length c_x0ops), (16, vi ((x0.ops.length : Nat) : Int)), (17, vi q_36), (37, pp b_51), (38, vi e_47.kind), (39, .bool (e_47.kind == 12)), (40, .bool true), (43, .bool x1.blind)]) (by kernel_rfl)
        exact hj_142 _ (hq.conv (by first | (rw [hb] <;> rfl) | rfl))
       ·replace hs := hs.known (t := 40) hb (by kernel_rfl)
        refine qpu 3 hs fun a hs => ?_
        have hq := hs.pick [0, 2, 4, 5, 7, 8, 15, 16, 17, 37, 38, 39, 40, 43] (L' := [(0, .func (.yield lp_16) #[] #[]), (2, pp b_14), (4, pp b_21), (5, .func (.func 53) #[] #[pp b_21]), (7, pp b_51), (8, vw v_139), (15, .slice A_x0ops x0.ops.length c_x0ops), (16, vi ((x0.ops.length : Nat) : Int)), (17, vi q_36), (37, pp b_51), (38, vi e_47.kind), (39, .bool (e_47.kind == 12)), (40, .bool false), (43, .bool false)]) (by kernel_rfl)
        exact hj_142 _ (hq.conv (by first | (rw [hb] <;> rfl) | rfl))
      intro a hs
      refine qpk 0 [0, 2, 4, 5, 8, 15, 16, 17, 43] hs fun a hs => hK141 _ _ ?_
      clear hK141
      refine qcs ((e_47.kind == 12) && x1.blind) hs (fun hb => ?_) fun hb => ?_
      ·replace hm := bif_t hm hb
       refine Vk.region ?_
       refine qpu 1 hs fun a hs => ?_
       refine Vk.step (Vk.call (some 45) 56 #[.pointer (some ⟨b_14, 2, none⟩)] hs (by kernel_rfl) (by kernel_rfl) (by kernel_rfl) ?_)
       refine Vk.enterI [(0, .pointer (some ⟨b_14, 2, none⟩))] Try.func56 rfl Try.ntmps56 (by kernel_rfl) (Nat.le_of_ble_eq_true (by kernel_rfl)) hs.own fun KR143 hKR143 hKP143 a hs => ?_
       refine qsk 1 [0] hs fun a hs => ?_
       refine qsr fun K145 hK145 => ?_
       refine qpu 2 hs fun a hs => ?_
       refine qld 5 (C.slc A_29 q_31.length c_30) hs rfl fun a hs => ?_
       obtain ⟨h_146, hm⟩ := ite_t hm
       obtain ⟨e_149, h_147, hm⟩ := bind_t hm
       obtain ⟨b_150, o_151, hA_152, h_148⟩ := Sl.elem hx_32 h_147
       refine qva (.pointer (some ⟨b_150, o_151 + 0 * 1, none⟩)) (op := (.indexAddr 59 (.tmp 6) (.const (vi 0)))) hs (fun o ho => run_idxSlc (k := .i64) ho (cap := c_30) (len := q_31.length) ((congrArg (fun A => Value.slice A (q_31.length) (c_30)) hA_152) ▸ (by kernel_rfl)) (by kernel_rfl) (by kernel_rfl) (idx_ok h_146 h_147) _) fun a hs => ?_
       refine qva (vw e_149) (op := (.load 71 (.tmp 7))) hs (fun o ho => run_load1 (c := cw e_149) ho (by kernel_rfl) (by kernel_rfl) (fun w ho => h_148 w ho 0 _ rfl) _ hs.own.drop.drop.drop.drop.drop.drop.drop.drop.drop) fun a hs => ?_
       refine qpk 1 [0, 3] hs fun a hs => hK145 _ _ ?_
       clear hK145
       refine qsr fun K153 hK153 => ?_
       refine qpu 3 hs fun a hs => ?_
       refine qld 5 (C.slc A_29 q_31.length c_30) hs rfl fun a hs => ?_
       obtain ⟨h_154, hm⟩ := ite_t hm
       obtain ⟨A_155, c_156, eA_157, ec_158, hx_159⟩ := Sl.sub hx_32 h_154.2
       refine qva (.slice A_155 ((cut q_31 (1) (q_31.length)).length) c_156) (op := (.slice 59 (.tmp 12) (some (.const (vi 1))) none none)) hs (fun o ho => run_sub (sz := 1) (e := 71) h_154.2 eA_157 ec_158 (Sl.le hx_32) ho (by kernel_rfl) (by kernel_rfl) (by kernel_rfl) ⟨.i64, 1, by kernel_rfl, h_154.1, rfl⟩ rfl _) fun a hs => ?_
       refine qpu 1 hs fun a hs => ?_
       refine qst 5 2 (C.slc A_155 ((cut q_31 (1) (q_31.length)).length) c_156) hs rfl fun a w hs => ?_
       refine qpe 0 [(3, vw e_149)] hs fun a hs => hK153 _ _ ?_
       clear hK153
       refine qse 2 [(2, vw e_149)] hs fun a hs => ?_
       refine wp_ret ?_
       refine hKP143 _ _ ?_
       refine hKR143 _ _ ?_
       refine Vk.ret1 (P := Try.prog) (fn := Try.f56) (vw e_149) hs rfl (by kernel_rfl) ⟨_, _, _, rfl, hs.own, fun a hs => ?_⟩
       refine qpe 1 [(0, .func (.yield lp_16) #[] #[]), (2, pp b_14), (4, pp b_21), (5, .func (.func 53) #[] #[pp b_21]), (8, vw e_149), (15, .slice A_x0ops x0.ops.length c_x0ops), (16, vi ((x0.ops.length : Nat) : Int)), (17, vi q_36)] hs fun a hs => ?_
       exact hj140 (cut q_31 (1) (q_31.length)) e_149 hm A_155 c_156 hx_159 _ _ (hs.go [0, 2, 4, 5, 8, 15, 16, 17] [5, 6, 7, 0, 1, 2, 3, 4] 9 (by kernel_rfl) (by kernel_rfl) (by kernel_rfl))
      ·replace hm := bif_f hm hb
       refine wp_skip ?_
       exact hj140 q_31 v_139 hm A_29 c_30 hx_32 _ _ (hs.go [0, 2, 4, 5, 8, 15, 16, 17] [5, 6, 7, 0, 1, 2, 3, 4] 9 (by kernel_rfl) (by kernel_rfl) (by kernel_rfl))
     refine qsr fun K97 hK97 => ?_
     refine qbx 1 85 [ci e_47.kind, ci e_47.dom, ci e_47.a, ci e_47.b, ci e_47.d, cw e_47.c] 3 hs fun b_98 w a hs => ?_
     refine qpe 1 [(0, pp b_14), (3, pp b_98)] hs fun a hs => hK97 _ _ ?_
     clear hK97
     refine Vk.seq fun K99 hK99 => ?_
     refine wp_block ?_
     refine qsr fun K100 hK100 => ?_
     refine qpu 1 hs fun a hs => ?_
     refine qld 0 (ci e_47.kind) hs rfl fun a hs => ?_
     refine qpk 2 [0, 3, 5] hs fun a hs => hK100 _ _ ?_
     clear hK100
     refine qcs (e_47.kind == 1) hs (fun hb => ?_) fun hb => ?_
     ·replace hm := bif_t hm hb
      refine qsr fun K101 hK101 => ?_
      refine qpu 3 hs fun a hs => ?_
      refine Vk.step (Vk.call (some 12) 56 #[.pointer (some ⟨b_14, 1, none⟩)] hs (by kernel_rfl) (by kernel_rfl) (by kernel_rfl) ?_)
      refine Vk.enterI [(0, .pointer (some ⟨b_14, 1, none⟩))] Try.func56 rfl Try.ntmps56 (by kernel_rfl) (Nat.le_of_ble_eq_true (by kernel_rfl)) hs.own fun KR102 hKR102 hKP102 a hs => ?_
      refine qsk 1 [0] hs fun a hs => ?_
      refine qsr fun K104 hK104 => ?_
      refine qpu 2 hs fun a hs => ?_
      refine qld 6 (C.slc A_25 q_27.length c_26) hs rfl fun a hs => ?_
      obtain ⟨h_105, hm⟩ := ite_t hm
      obtain ⟨e_108, h_106, hm⟩ := bind_t hm
      obtain ⟨b_109, o_110, hA_111, h_107⟩ := Sl.elem hx_28 h_106
      refine qva (.pointer (some ⟨b_109, o_110 + 0 * 1, none⟩)) (op := (.indexAddr 59 (.tmp 6) (.const (vi 0)))) hs (fun o ho => run_idxSlc (k := .i64) ho (cap := c_26) (len := q_27.length) ((congrArg (fun A => Value.slice A (q_27.length) (c_26)) hA_111) ▸ (by kernel_rfl)) (by kernel_rfl) (by kernel_rfl) (idx_ok h_105 h_106) _) fun a hs => ?_
      refine qva (vw e_108) (op := (.load 71 (.tmp 7))) hs (fun o ho => run_load1 (c := cw e_108) ho (by kernel_rfl) (by kernel_rfl) (fun w ho => h_107 w ho 0 _ rfl) _ hs.own.drop.drop.drop.drop.drop.drop.drop.drop.drop.drop) fun a hs => ?_
      refine qpk 1 [0, 3] hs fun a hs => hK104 _ _ ?_
      clear hK104
      refine qsr fun K112 hK112 => ?_
      refine qpu 3 hs fun a hs => ?_
      refine qld 6 (C.slc A_25 q_27.length c_26) hs rfl fun a hs => ?_
      obtain ⟨h_113, hm⟩ := ite_t hm
      obtain ⟨A_114, c_115, eA_116, ec_117, hx_118⟩ := Sl.sub hx_28 h_113.2
      refine qva (.slice A_114 ((cut q_27 (1) (q_27.length)).length) c_115) (op := (.slice 59 (.tmp 12) (some (.const (vi 1))) none none)) hs (fun o ho => run_sub (sz := 1) (e := 71) h_113.2 eA_116 ec_117 (Sl.le hx_28) ho (by kernel_rfl) (by kernel_rfl) (by kernel_rfl) ⟨.i64, 1, by kernel_rfl, h_113.1, rfl⟩ rfl _) fun a hs => ?_
      refine qpu 1 hs fun a hs => ?_
      refine qst 6 1 (C.slc A_114 ((cut q_27 (1) (q_27.length)).length) c_115) hs rfl fun a w hs => ?_
      refine qpe 0 [(3, vw e_108)] hs fun a hs => hK112 _ _ ?_
      clear hK112
      refine qse 2 [(2, vw e_108)] hs fun a hs => ?_
      refine wp_ret ?_
      refine hKP102 _ _ ?_
      refine hKR102 _ _ ?_
      refine Vk.ret1 (P := Try.prog) (fn := Try.f56) (vw e_108) hs rfl (by kernel_rfl) ⟨_, _, _, rfl, hs.own, fun a hs => ?_⟩
      refine qpe 1 [(4, vw e_108)] hs fun a hs => hK101 _ _ ?_
      clear hK101
      refine wp_ret ?_
      refine hKP96 _ _ ?_
      exact hj96 e_108 (cut q_27 (1) (q_27.length)) hm A_114 c_115 hx_118 _ _ (hs.go [4] [1, 2, 3, 4, 5, 6, 7, 8, 9] 10 (by kernel_rfl) (by kernel_rfl) (by kernel_rfl))
     ·replace hm := bif_f hm hb
      refine qsr fun K120 hK120 => ?_
      refine qpu 1 hs fun a hs => ?_
      refine qld 0 (ci e_47.kind) hs rfl fun a hs => ?_
      refine qpu 2 hs fun a hs => ?_
      suffices hj_121 : ∀ a, St 32 a w κ [(0, pp b_14), (3, pp b_98), (5, .bool (e_47.kind == 1)), (14, pp b_98), (15, vi e_47.kind), (16, .bool (e_47.kind == 2)), (17, .bool (e_47.kind == 2)), (23, .bool ((e_47.kind == 2) && (!x1.blind)))] (pt b_98 (blk (Tapi_Op.cells e_47) 85) :: pt lp_16 Xr_16 :: pt dm_16 dfD :: pt b_8 (blk [C.slc A_37 q_39.length c_38] 59) :: rowp A_37 c_38 71 1 (eI .u64) q_39 :: pt b_13 (blk (Tapi_Trace.obj x0 A_x0ops c_x0ops A_x0blocks c_x0blocks) 58) :: pt b_14 (blk [C.slc A_x1keys x1.keys.length c_x1keys, C.slc A_25 q_27.length c_26, C.slc A_29 q_31.length c_30, C.bool x1.blind] 90) :: pt b_21 (blk [C.slc A_33 q_35.length c_34] 59) :: rowp A_33 c_34 71 1 (eI .u64) q_35 :: pt b_51 (blk (Tapi_Op.cells e_47) 85) :: S) → wpFrom Try.prog _ _ 10 a w by
       rcases Bool.eq_false_or_eq_true (e_47.kind == 2) with hb | hb
       ·replace hs := hs.known (t := 17) hb (by kernel_rfl)
        refine qpu 3 hs fun a hs => ?_
        refine qld 6 (C.bool x1.blind) hs rfl fun a hs => ?_
        refine qpu 2 hs fun a hs => ?_
        have hq := hs.pick [0, 3, 5, 14, 15, 16, 17, 23] (L' := [(0, pp b_14), (3, pp b_98), (5, .bool (e_47.kind == 1)), (14, pp b_98), (15, vi e_47.kind), (16, .bool (e_47.kind == 2)), (17, .bool true), (23, .bool (!x1.blind))]) (by kernel_rfl)
        exact hj_121 _ (hq.conv (by first | (rw [hb] <;> rfl) | rfl))
       ·replace hs := hs.known (t := 17) hb (by kernel_rfl)
        refine qpu 6 hs fun a hs => ?_
        have hq := hs.pick [0, 3, 5, 14, 15, 16, 17, 23] (L' := [(0, pp b_14), (3, pp b_98), (5, .bool (e_47.kind == 1)), (14, pp b_98), (15, vi e_47.kind), (16, .bool (e_47.kind == 2)), (17, .bool false), (23, .bool false)]) (by kernel_rfl)
        exact hj_121 _ (hq.conv (by first | (rw [hb] <;> rfl) | rfl))
      intro a hs
      refine qpe 1 [(0, pp b_14), (3, pp b_98), (13, .bool ((e_47.kind == 2) && (!x1.blind)))] hs fun a hs => hK120 _ _ ?_
      clear hK120
      refine qcs ((e_47.kind == 2) && (!x1.blind)) hs (fun hb => ?_) fun hb => ?_
      ·replace hm := bif_t hm hb
       refine Vk.seq fun K122 hK122 => ?_
       obtain ⟨C_123, hC_123⟩ := qC hs.own
       refine qdr 9 κ C_123 hs fun w hs hqC_123 => ?_
       have hcl := qO hC_123 hs.own
       refine qdp (fuel := 5) [0, 1, 2, 4] hs hcl hqC_123 fun a hs => ?_
       refine qdl 3 6 (C.slc A_x1keys x1.keys.length c_x1keys) hs hcl hqC_123 hC_123 rfl fun a hs => ?_
       refine qdl 5 0 (cw e_47.c) hs hcl hqC_123 hC_123 rfl fun a hs => ?_
       obtain ⟨h_124, hm⟩ := ite_t hm
       obtain ⟨e_127, h_125, hm⟩ := bind_t hm
       obtain ⟨b_128, o_129, hA_130, h_126⟩ := Sl.elem hx_x1keys h_125
       refine qdt 6 (.pointer (some ⟨b_128, o_129 + e_47.c.toNat * 1, none⟩)) (op := (.indexAddr 59 (.tmp 27) (.tmp 29))) hs hcl hqC_123 (fun w hw o ho => by rw [hC_123] at hw; exact run_idxSlc (k := .u64) ho (cap := c_x1keys) (len := x1.keys.length) ((congrArg (fun A => Value.slice A (x1.keys.length) (c_x1keys)) hA_130) ▸ (by kernel_rfl)) (by kernel_rfl) (by kernel_rfl) (idx_ok h_124 h_125) _) fun a hs => ?_
       refine qdt 7 (vw e_127) (op := (.load 71 (.tmp 30))) hs hcl hqC_123 (fun w hw o ho => by rw [hC_123] at hw; exact run_load1 (c := cw e_127) ho (by kernel_rfl) (by kernel_rfl) (fun w ho => h_126 w ho 0 _ rfl) _ hw.drop.drop.drop.drop.drop.drop.drop.drop.drop.drop) fun a hs => ?_
       refine qdp (fuel := 0) [8] hs hcl hqC_123 fun a hs => ?_
       replace hs := hs.pick [4] (L' := [(4, vw e_127)]) (by kernel_rfl)
       refine Vk.dDone (by kernel_rfl) ?_
       refine hK122 _ _ ?_
       clear hK122
       refine wp_ret ?_
       refine hKP96 _ _ ?_
       exact hj96 e_127 q_27 hm A_25 c_26 hx_28 _ _ (hs.go [4] [1, 2, 3, 4, 5, 6, 7, 8, 9] 10 (by kernel_rfl) (by kernel_rfl) (by kernel_rfl))
      ·replace hm := bif_f hm hb
       refine wp_skip ?_
       refine hK99 _ _ ?_
       clear hK99
       refine qse 1 [(4, vw 0)] hs fun a hs => ?_
       refine wp_ret ?_
       refine hKP96 _ _ ?_
       exact hj96 0 q_27 hm A_25 c_26 hx_28 _ _ (hs.go [4] [1, 2, 3, 4, 5, 6, 7, 8, 9] 10 (by kernel_rfl) (by kernel_rfl) (by kernel_rfl))
    refine qsk 1 [0, 1] hs fun a hs => ?_
    refine Vk.seq fun K84 hK84 => ?_
    refine qsk 2 [0, 1, 5] hs fun a hs => ?_
    refine qcs (decide (e_47.d < 0)) hs (fun hb => ?_) fun hb => ?_
    ·replace hm := bif_t hm hb
     refine qse 1 [(3, vw 0)] hs fun a hs => ?_
     refine wp_ret ?_
     refine hKP82 _ _ ?_
     exact hj82 0 hm _ _ (hs.go [3] [0, 1, 2, 3, 4, 5, 6, 7, 8] 9 (by kernel_rfl) (by kernel_rfl) (by kernel_rfl))
    ·replace hm := bif_f hm hb
     refine wp_skip ?_
     refine hK84 _ _ ?_
     clear hK84
     refine qsr fun K87 hK87 => ?_
     refine qld 6 (C.slc A_33 q_35.length c_34) hs rfl fun a hs => ?_
     refine qpu 1 hs fun a hs => ?_
     obtain ⟨h_88, hm⟩ := ite_t hm
     obtain ⟨e_91, h_89, hm⟩ := bind_t hm
     obtain ⟨b_92, o_93, hA_94, h_90⟩ := Sl.elem (Ow.rowSl 0 (Ow.to (S' := rowp A_33 c_34 71 1 (eI .u64) q_35 :: S) hs.own [7] 9 (by kernel_rfl) (by kernel_rfl)) rfl) h_89
     refine qva (.pointer (some ⟨b_92, o_93 + e_47.d.toNat * 1, none⟩)) (op := (.indexAddr 59 (.tmp 6) (.tmp 7))) hs (fun o ho => run_idxSlc (k := .i64) ho (cap := c_34) (len := q_35.length) ((congrArg (fun A => Value.slice A (q_35.length) (c_34)) hA_94) ▸ (by kernel_rfl)) (by kernel_rfl) (by kernel_rfl) (idx_ok h_88 h_89) _) fun a hs => ?_
     refine qva (vw e_91) (op := (.load 71 (.tmp 8))) hs (fun o ho => run_load1 (c := cw e_91) ho (by kernel_rfl) (by kernel_rfl) (fun w ho => h_90 w ho 0 _ rfl) _ (Ow.to (S' := rowp A_33 c_34 71 1 (eI .u64) q_35 :: S) hs.own [7] 9 (by kernel_rfl) (by kernel_rfl))) fun a hs => ?_
     refine qpe 1 [(3, vw e_91)] hs fun a hs => hK87 _ _ ?_
     clear hK87
     refine wp_ret ?_
     refine hKP82 _ _ ?_
     exact hj82 e_91 hm _ _ (hs.go [3] [0, 1, 2, 3, 4, 5, 6, 7, 8] 9 (by kernel_rfl) (by kernel_rfl) (by kernel_rfl))
   refine qsk 1 [0, 1] hs fun a hs => ?_
   refine Vk.seq fun K70 hK70 => ?_
   refine qsk 2 [0, 1, 5] hs fun a hs => ?_
   refine qcs (decide (e_47.b < 0)) hs (fun hb => ?_) fun hb => ?_
   ·replace hm := bif_t hm hb
    refine qse 1 [(3, vw 0)] hs fun a hs => ?_
    refine wp_ret ?_
    refine hKP68 _ _ ?_
    exact hj68 0 hm _ _ (hs.go [3] [0, 1, 2, 3, 4, 5, 6, 7, 8] 9 (by kernel_rfl) (by kernel_rfl) (by kernel_rfl))
   ·replace hm := bif_f hm hb
    refine wp_skip ?_
    refine hK70 _ _ ?_
    clear hK70
    refine qsr fun K73 hK73 => ?_
    refine qld 6 (C.slc A_33 q_35.length c_34) hs rfl fun a hs => ?_
    refine qpu 1 hs fun a hs => ?_
    obtain ⟨h_74, hm⟩ := ite_t hm
    obtain ⟨e_77, h_75, hm⟩ := bind_t hm
    obtain ⟨b_78, o_79, hA_80, h_76⟩ := Sl.elem (Ow.rowSl 0 (Ow.to (S' := rowp A_33 c_34 71 1 (eI .u64) q_35 :: S) hs.own [7] 9 (by kernel_rfl) (by kernel_rfl)) rfl) h_75
    refine qva (.pointer (some ⟨b_78, o_79 + e_47.b.toNat * 1, none⟩)) (op := (.indexAddr 59 (.tmp 6) (.tmp 7))) hs (fun o ho => run_idxSlc (k := .i64) ho (cap := c_34) (len := q_35.length) ((congrArg (fun A => Value.slice A (q_35.length) (c_34)) hA_80) ▸ (by kernel_rfl)) (by kernel_rfl) (by kernel_rfl) (idx_ok h_74 h_75) _) fun a hs => ?_
    refine qva (vw e_77) (op := (.load 71 (.tmp 8))) hs (fun o ho => run_load1 (c := cw e_77) ho (by kernel_rfl) (by kernel_rfl) (fun w ho => h_76 w ho 0 _ rfl) _ (Ow.to (S' := rowp A_33 c_34 71 1 (eI .u64) q_35 :: S) hs.own [7] 9 (by kernel_rfl) (by kernel_rfl))) fun a hs => ?_
    refine qpe 1 [(3, vw e_77)] hs fun a hs => hK73 _ _ ?_
    clear hK73
    refine wp_ret ?_
    refine hKP68 _ _ ?_
    exact hj68 e_77 hm _ _ (hs.go [3] [0, 1, 2, 3, 4, 5, 6, 7, 8] 9 (by kernel_rfl) (by kernel_rfl) (by kernel_rfl))
  refine qsk 1 [0, 1] hs fun a hs => ?_
  refine Vk.seq fun K56 hK56 => ?_
  refine qsk 2 [0, 1, 5] hs fun a hs => ?_
  refine qcs (decide (e_47.a < 0)) hs (fun hb => ?_) fun hb => ?_
  ·replace hm := bif_t hm hb
   refine qse 1 [(3, vw 0)] hs fun a hs => ?_
   refine wp_ret ?_
   refine hKP54 _ _ ?_
   exact hj54 0 hm _ _ (hs.go [3] [4, 5, 6, 7, 8, 1, 2, 3, 0] 9 (by kernel_rfl) (by kernel_rfl) (by kernel_rfl))
  ·replace hm := bif_f hm hb
   refine wp_skip ?_
   refine hK56 _ _ ?_
   clear hK56
   refine qsr fun K59 hK59 => ?_
   refine qld 2 (C.slc A_33 q_35.length c_34) hs rfl fun a hs => ?_
   refine qpu 1 hs fun a hs => ?_
   obtain ⟨h_60, hm⟩ := ite_t hm
   obtain ⟨e_63, h_61, hm⟩ := bind_t hm
   obtain ⟨b_64, o_65, hA_66, h_62⟩ := Sl.elem (Ow.rowSl 0 (Ow.to (S' := rowp A_33 c_34 71 1 (eI .u64) q_35 :: S) hs.own [3] 9 (by kernel_rfl) (by kernel_rfl)) rfl) h_61
   refine qva (.pointer (some ⟨b_64, o_65 + e_47.a.toNat * 1, none⟩)) (op := (.indexAddr 59 (.tmp 6) (.tmp 7))) hs (fun o ho => run_idxSlc (k := .i64) ho (cap := c_34) (len := q_35.length) ((congrArg (fun A => Value.slice A (q_35.length) (c_34)) hA_66) ▸ (by kernel_rfl)) (by kernel_rfl) (by kernel_rfl) (idx_ok h_60 h_61) _) fun a hs => ?_
   refine qva (vw e_63) (op := (.load 71 (.tmp 8))) hs (fun o ho => run_load1 (c := cw e_63) ho (by kernel_rfl) (by kernel_rfl) (fun w ho => h_62 w ho 0 _ rfl) _ (Ow.to (S' := rowp A_33 c_34 71 1 (eI .u64) q_35 :: S) hs.own [3] 9 (by kernel_rfl) (by kernel_rfl))) fun a hs => ?_
   refine qpe 1 [(3, vw e_63)] hs fun a hs => hK59 _ _ ?_
   clear hK59
   refine wp_ret ?_
   refine hKP54 _ _ ?_
   exact hj54 e_63 hm _ _ (hs.go [3] [4, 5, 6, 7, 8, 1, 2, 3, 0] 9 (by kernel_rfl) (by kernel_rfl) (by kernel_rfl))
 ·replace hm := bif_f hm hb
  refine wp_exit ?_
  exact hx24 q_39 q_27 q_31 (Option.some.inj hm).symm A_37 c_38 A_25 c_26 hx_28 A_29 c_30 hx_32 _ _ (hs.go [] [3, 4, 5, 6, 7, 0] 8 (by kernel_rfl) (by kernel_rfl) (by kernel_rfl))


def replay_Run.j1 (k : Nat) (x0 : Tapi_Trace) (x1 : List Int) (x2 : List Int) (p_18 : Bool) : Option ((List Int × Int)) := (bif p_18 then some (([] : List Int), 5) else (replay_all.m k x0 (⟨x1, x2, [], false⟩ : Treplay_source)).bind fun v_23 => some (v_23, 0))
abbrev replay_Run.R (κ : Ctx) (S : List HP) (x0 : Tapi_Trace) (x1 : List Int) (x2 : List Int) (A_x0ops : Option Addr) (c_x0ops : Nat) (A_x0blocks : Option Addr) (c_x0blocks : Nat) (A_x1 : Option Addr) (c_x1 : Nat) (A_x2 : Option Addr) (c_x2 : Nat) (r : (List Int × Int)) : Ending → World → Prop := fun e w' => ∃ (A_r0 : Option Addr), ∃ (c_r0 : Nat), e = .returned (.tuple #[.slice A_r0 r.1.length c_r0, vi r.2]) ∧ Ow κ w' (rowp A_r0 c_r0 71 1 (eI .u64) r.1 :: S)
def replay_Run.m (k : Nat) (x0 : Tapi_Trace) (x1 : List Int) (x2 : List Int) : Option (List Int × Int) := (trace_Check.m k x0).bind fun v_7 => (bif v_7 != 0 then some (([] : List Int), v_7) else (trace_Words.m k x0).bind fun v_14 => (bif ((x1.length : Nat) : Int) != v_14 then replay_Run.j1 k x0 x1 x2 true else (trace_Draws.m k x0).bind fun v_17 => replay_Run.j1 k x0 x1 x2 (((x2.length : Nat) : Int) != v_17)))

set_option maxRecDepth 100000 in
set_option maxHeartbeats 4000000 in
theorem replay_Run.ok (k : Nat) (x0 : Tapi_Trace) (x1 : List Int) (x2 : List Int) (r : (List Int × Int)) (hm : replay_Run.m k x0 x1 x2 = some r) (κ : Ctx) (w : World) (S : List HP) (A_x0ops : Option Addr) (c_x0ops : Nat) (hx_x0ops : Sl κ S A_x0ops c_x0ops 6 Tapi_Op.cells x0.ops) (A_x0blocks : Option Addr) (c_x0blocks : Nat) (hx_x0blocks : Sl κ S A_x0blocks c_x0blocks 3 Tapi_Span.cells x0.blocks) (A_x1 : Option Addr) (c_x1 : Nat) (hx_x1 : Sl κ S A_x1 c_x1 1 (eI .u64) x1) (A_x2 : Option Addr) (c_x2 : Nat) (hx_x2 : Sl κ S A_x2 c_x2 1 (eI .u64) x2) (ho : Ow κ w (S)) :
  Calls Try.prog 19 #[.agg (vals [ci x0.n, C.slc A_x0ops x0.ops.length c_x0ops, C.slc A_x0blocks x0.blocks.length c_x0blocks]), .slice A_x1 x1.length c_x1, .slice A_x2 x2.length c_x2] w (replay_Run.R κ S x0 x1 x2 A_x0ops c_x0ops A_x0blocks c_x0blocks A_x1 c_x1 A_x2 c_x2 r) := by
 unfold replay_Run.m at hm
 generalize hRR : replay_Run.R κ S x0 x1 x2 A_x0ops c_x0ops A_x0blocks c_x0blocks A_x1 c_x1 A_x2 c_x2 r = RR
 refine qen [(0, .agg (vals [ci x0.n, C.slc A_x0ops x0.ops.length c_x0ops, C.slc A_x0blocks x0.blocks.length c_x0blocks])), (1, .slice A_x1 x1.length c_x1), (2, .slice A_x2 x2.length c_x2)] Try.func19 Try.ntmps19 ho fun a hs => ?_
 refine qsr fun K1 hK1 => ?_
 refine qbx 0 58 [ci x0.n, C.slc A_x0ops x0.ops.length c_x0ops, C.slc A_x0blocks x0.blocks.length c_x0blocks] 3 hs fun b_2 w a hs => ?_
 refine qpk 2 [1, 2, 3] hs fun a hs => hK1 _ _ ?_
 clear hK1
 refine Vk.seq fun K3 hK3 => ?_
 refine qsr fun K4 hK4 => ?_
 refine qln 0 ([ci x0.n, C.slc A_x0ops x0.ops.length c_x0ops, C.slc A_x0blocks x0.blocks.length c_x0blocks]) hs rfl fun a hs => ?_
 obtain ⟨v_7, h_6, hm⟩ := bind_t hm
 refine qcl (trace_Check.ok _ _ _ h_6 _ _ (pt b_2 (blk (Tapi_Trace.obj x0 A_x0ops c_x0ops A_x0blocks c_x0blocks) 58) :: S) A_x0ops c_x0ops hx_x0ops.less A_x0blocks c_x0blocks hx_x0blocks.less hs.own) hs fun w a hs => ?_
 refine qpk 1 [1, 2, 3, 8] hs fun a hs => hK4 _ _ ?_
 clear hK4
 refine qsk 2 [1, 2, 3, 8, 12] hs fun a hs => ?_
 refine qcs (v_7 != 0) hs (fun hb => ?_) fun hb => ?_
 ·replace hm := bif_t hm hb
  refine qsk 3 [6, 7] hs fun a hs => ?_
  refine wp_ret ?_
  replace hs := hs.addRow none 71 1 (eI .u64)
  exact Vk.ret2 (.slice none (([] : List Int).length) 0) (vi v_7) hs rfl (by kernel_rfl) (by kernel_rfl) (hRR ▸ by cases hm; exact ⟨none, 0, rfl, hs.own.f1.drop⟩)
 ·replace hm := bif_f hm hb
  refine wp_skip ?_
  refine hK3 _ _ ?_
  clear hK3
  refine Vk.seq fun K10 hK10 => ?_
  refine Vk.seq fun K11 hK11 => ?_
  have hj11 : ∀ (p_18 : Bool), replay_Run.j1 k x0 x1 x2 p_18 = some r → ∀ (a : Act) (w : World), St 31 a w κ [(1, .slice A_x1 x1.length c_x1), (2, .slice A_x2 x2.length c_x2), (3, pp b_2), (25, .bool p_18)] (pt b_2 (blk (Tapi_Trace.obj x0 A_x0ops c_x0ops A_x0blocks c_x0blocks) 58) :: S) → K11 a w := by
   intro p_18 hm a w hs
   unfold replay_Run.j1 at hm
   refine hK11 _ _ ?_
   refine qcs (p_18) hs (fun hb => ?_) fun hb => ?_
   ·replace hm := bif_t hm hb
    refine qsk 2 [6, 7] hs fun a hs => ?_
    refine wp_ret ?_
    replace hs := hs.addRow none 71 1 (eI .u64)
    exact Vk.ret2 (.slice none (([] : List Int).length) 0) (vi 5) hs rfl (by kernel_rfl) (by kernel_rfl) (hRR ▸ by cases hm; exact ⟨none, 0, rfl, hs.own.f1.drop⟩)
   ·replace hm := bif_f hm hb
    refine wp_skip ?_
    refine hK10 _ _ ?_
    clear hK10
    refine qsr fun K20 hK20 => ?_
    refine qln 0 ([ci x0.n, C.slc A_x0ops x0.ops.length c_x0ops, C.slc A_x0blocks x0.blocks.length c_x0blocks]) hs rfl fun a hs => ?_
    refine qpu 3 hs fun a hs => ?_
    obtain ⟨v_23, h_22, hm⟩ := bind_t hm
    refine Vk.step (Vk.call (some 30) 35 #[.agg (vals [ci x0.n, C.slc A_x0ops x0.ops.length c_x0ops, C.slc A_x0blocks x0.blocks.length c_x0blocks]), .agg (vals [C.slc A_x1 x1.length c_x1, C.slc A_x2 x2.length c_x2, C.slc none 0 0, C.bool false])] hs (by kernel_rfl) (by kernel_rfl) (by kernel_rfl) ?_)
    refine (replay_all.ok k x0 (⟨x1, x2, [], false⟩ : Treplay_source) v_23 h_22 κ w (pt b_2 (blk (Tapi_Trace.obj x0 A_x0ops c_x0ops A_x0blocks c_x0blocks) 58) :: S) A_x0ops c_x0ops hx_x0ops.less A_x0blocks c_x0blocks hx_x0blocks.less A_x1 c_x1 hx_x1.less A_x2 c_x2 hx_x2.less none 0 Sl.nil hs.own).mono ?_
    rintro _ w ⟨Ar21x0_24, cr21x0_25, rfl, how⟩
    refine ⟨_, _, _, rfl, how, fun a hs => ?_⟩
    refine qpe 2 [(6, .slice Ar21x0_24 v_23.length cr21x0_25), (7, vi 0)] hs fun a hs => hK20 _ _ ?_
    clear hK20
    refine wp_ret ?_
    exact Vk.ret2 (.slice Ar21x0_24 v_23.length cr21x0_25) (vi 0) hs rfl (by kernel_rfl) (by kernel_rfl) (hRR ▸ by cases hm; exact ⟨Ar21x0_24, cr21x0_25, rfl, hs.own.f1.drop⟩)
  refine Vk.region ?_
  refine qpu 2 hs fun a hs => ?_
  refine qln 0 ([ci x0.n, C.slc A_x0ops x0.ops.length c_x0ops, C.slc A_x0blocks x0.blocks.length c_x0blocks]) hs rfl fun a hs => ?_
  obtain ⟨v_14, h_13, hm⟩ := bind_t hm
  refine qcl (trace_Words.ok _ _ _ h_13 _ _ (pt b_2 (blk (Tapi_Trace.obj x0 A_x0ops c_x0ops A_x0blocks c_x0blocks) 58) :: S) A_x0ops c_x0ops hx_x0ops.less A_x0blocks c_x0blocks hx_x0blocks.less hs.own) hs fun w a hs => ?_
  refine qpu 2 hs fun a hs => ?_
  rcases Bool.eq_false_or_eq_true (((x1.length : Nat) : Int) != v_14) with hb | hb
  ·replace hm := bif_t hm hb
   replace hs := hs.known (t := 19) hb (by kernel_rfl)
   refine qpe 6 [(1, .slice A_x1 x1.length c_x1), (2, .slice A_x2 x2.length c_x2), (3, pp b_2), (25, .bool true)] hs fun a hs => ?_
   exact hj11 true hm _ _ (hs.go [1, 2, 3, 25] [0] 1 (by kernel_rfl) (by kernel_rfl) (by kernel_rfl))
  ·replace hm := bif_f hm hb
   replace hs := hs.known (t := 19) hb (by kernel_rfl)
   refine qpu 2 hs fun a hs => ?_
   refine qln 0 ([ci x0.n, C.slc A_x0ops x0.ops.length c_x0ops, C.slc A_x0blocks x0.blocks.length c_x0blocks]) hs rfl fun a hs => ?_
   obtain ⟨v_17, h_16, hm⟩ := bind_t hm
   refine qcl (trace_Draws.ok _ _ _ h_16 _ _ (pt b_2 (blk (Tapi_Trace.obj x0 A_x0ops c_x0ops A_x0blocks c_x0blocks) 58) :: S) A_x0ops c_x0ops hx_x0ops.less A_x0blocks c_x0blocks hx_x0blocks.less hs.own) hs fun w a hs => ?_
   refine qpe 2 [(1, .slice A_x1 x1.length c_x1), (2, .slice A_x2 x2.length c_x2), (3, pp b_2), (25, .bool (((x2.length : Nat) : Int) != v_17))] hs fun a hs => ?_
   exact hj11 (((x2.length : Nat) : Int) != v_17) hm _ _ (hs.go [1, 2, 3, 25] [0] 1 (by kernel_rfl) (by kernel_rfl) (by kernel_rfl))


def visorlaw29_awake.j1 (k : Nat) (p_34 : Bool) : Option (Bool) := some p_34
abbrev visorlaw29_awake.R (κ : Ctx) (S : List HP) (r : Bool) : Ending → World → Prop := fun e w' => e = .returned (.bool r) ∧ Ow κ w' (S)
def visorlaw29_awake.m (k : Nat) : Option Bool := (replay_Run.m k (⟨2, [], []⟩ : Tapi_Trace) [] []).bind fun v_5 => (replay_Run.m k (⟨2, ([(⟨3, 0, (-1), (-1), (-1), 9⟩ : Tapi_Op)] : List Tapi_Op), []⟩ : Tapi_Trace) [] []).bind fun v_13 => (bif (((((v_5.1.length : Nat) : Int) == 0) && (v_5.2 == 0)) && (v_13.2 == 0)) && (((v_13.1.length : Nat) : Int) == 1) then (if 0 ≤ (0 : Int) then (v_13.1[0]?).bind fun e_30 => visorlaw29_awake.j1 k (e_30 == 9) else none) else visorlaw29_awake.j1 k false)

set_option maxRecDepth 100000 in
set_option maxHeartbeats 4000000 in
theorem visorlaw29_awake.ok (k : Nat) (r : Bool) (hm : visorlaw29_awake.m k = some r) (κ : Ctx) (w : World) (S : List HP) (ho : Ow κ w (S)) :
  Calls Try.prog 18 #[] w (visorlaw29_awake.R κ S r) := by
 unfold visorlaw29_awake.m at hm
 generalize hRR : visorlaw29_awake.R κ S r = RR
 refine qen [] Try.func18 Try.ntmps18 ho fun a hs => ?_
 refine qse 1 [] hs fun a hs => ?_
 refine qsr fun K2 hK2 => ?_
 refine qpu 1 hs fun a hs => ?_
 obtain ⟨v_5, h_4, hm⟩ := bind_t hm
 refine Vk.step (Vk.call (some 7) 19 #[.agg (vals [ci 2, C.slc none 0 0, C.slc none 0 0]), .slice none 0 0, .slice none 0 0] hs (by kernel_rfl) (by kernel_rfl) (by kernel_rfl) ?_)
 refine (replay_Run.ok k (⟨2, [], []⟩ : Tapi_Trace) [] [] v_5 h_4 κ w (S) none 0 Sl.nil none 0 Sl.nil none 0 Sl.nil none 0 Sl.nil hs.own).mono ?_
 rintro _ w ⟨Ar3x0_6, cr3x0_7, rfl, how⟩
 refine ⟨_, _, _, rfl, how, fun a hs => ?_⟩
 refine qpk 5 [1, 2] hs fun a hs => hK2 _ _ ?_
 clear hK2
 refine qsr fun K8 hK8 => ?_
 refine qpu 1 hs fun a hs => ?_
 refine Vk.step (Vk.buildOp (sz := 6) (by_ := 48) (t := 55) (e := 85) (parts := #[(0, (.tmp 11))]) (zs := vals [ci 0, ci 0, ci 0, ci 0, ci 0, cw 0]) ([(⟨3, 0, (-1), (-1), (-1), 9⟩ : Tapi_Op)] : List Tapi_Op) Tapi_Op.cells (some 12) hs (by kernel_rfl) (by kernel_rfl) (by kernel_rfl) (by kernel_rfl) (by decide) rfl (fun x _ => rfl) (Nat.le_of_ble_eq_true (by kernel_rfl)) (by kernel_rfl) fun A_9 w a hs => ?_)
 refine qpu 1 hs fun a hs => ?_
 obtain ⟨v_13, h_12, hm⟩ := bind_t hm
 refine Vk.step (Vk.call (some 14) 19 #[.agg (vals ([ci 2, C.slc A_9 (([(⟨3, 0, (-1), (-1), (-1), 9⟩ : Tapi_Op)] : List Tapi_Op).length) 1, C.slc none 0 0])), .slice none 0 0, .slice none 0 0] hs (by kernel_rfl) (by kernel_rfl) (by kernel_rfl) ?_)
 refine (replay_Run.ok k (⟨2, ([(⟨3, 0, (-1), (-1), (-1), 9⟩ : Tapi_Op)] : List Tapi_Op), []⟩ : Tapi_Trace) [] [] v_13 h_12 κ w (rowp A_9 1 85 6 Tapi_Op.cells ([(⟨3, 0, (-1), (-1), (-1), 9⟩ : Tapi_Op)] : List Tapi_Op) :: rowp Ar3x0_6 cr3x0_7 71 1 (eI .u64) v_5.1 :: S) A_9 1 (Sl.lift (fun w ho => (Ow.to (S' := rowp A_9 1 85 6 Tapi_Op.cells ([(⟨3, 0, (-1), (-1), (-1), 9⟩ : Tapi_Op)] : List Tapi_Op) :: S) ho [0] 2 (by kernel_rfl) (by kernel_rfl))) (Ow.rowSl 0 (Ow.to (S' := rowp A_9 1 85 6 Tapi_Op.cells ([(⟨3, 0, (-1), (-1), (-1), 9⟩ : Tapi_Op)] : List Tapi_Op) :: S) hs.own [0] 2 (by kernel_rfl) (by kernel_rfl)) rfl)) none 0 Sl.nil none 0 Sl.nil none 0 Sl.nil hs.own).mono ?_
 rintro _ w ⟨Ar11x0_14, cr11x0_15, rfl, how⟩
 refine ⟨_, _, _, rfl, how, fun a hs => ?_⟩
 refine qpk 5 [1, 2, 3, 4] hs fun a hs => hK8 _ _ ?_
 clear hK8
 refine Vk.seq fun K16 hK16 => ?_
 have hj16 : ∀ (p_34 : Bool), visorlaw29_awake.j1 k p_34 = some r → ∀ (a : Act) (w : World), St 39 a w κ [(0, .bool p_34)] (S) → K16 a w := by
  intro p_34 hm a w hs
  unfold visorlaw29_awake.j1 at hm
  refine hK16 _ _ ?_
  refine wp_ret ?_
  exact qr1 (.bool p_34) hs rfl hRR (by cases hm; exact ⟨rfl, hs.own⟩)
 refine Vk.region ?_
 refine qpu 4 hs fun a hs => ?_
 refine qsc 20 3 hs fun a hs => ?_
 refine qpu 1 hs fun a hs => ?_
 refine qsc 24 3 hs fun a hs => ?_
 refine qpu 1 hs fun a hs => ?_
 refine qsc 28 4 hs fun a hs => ?_
 refine qpu 1 hs fun a hs => ?_
 rcases Bool.eq_false_or_eq_true ((((((v_5.1.length : Nat) : Int) == 0) && (v_5.2 == 0)) && (v_13.2 == 0)) && (((v_13.1.length : Nat) : Int) == 1)) with hb | hb
 ·replace hm := bif_t hm hb
  replace hs := hs.known (t := 33) hb (by kernel_rfl)
  refine qpu 1 hs fun a hs => ?_
  obtain ⟨h_27, hm⟩ := ite_t hm
  obtain ⟨e_30, h_28, hm⟩ := bind_t hm
  obtain ⟨b_31, o_32, hA_33, h_29⟩ := Sl.elem (Ow.rowSl 0 (Ow.to (S' := rowp Ar11x0_14 cr11x0_15 71 1 (eI .u64) v_13.1 :: S) hs.own [0] 3 (by kernel_rfl) (by kernel_rfl)) rfl) h_28
  refine qva (.pointer (some ⟨b_31, o_32 + 0 * 1, none⟩)) (op := (.indexAddr 59 (.tmp 34) (.const (vi 0)))) hs (fun o ho => run_idxSlc (k := .i64) ho (cap := cr11x0_15) (len := v_13.1.length) ((congrArg (fun A => Value.slice A (v_13.1.length) (cr11x0_15)) hA_33) ▸ (by kernel_rfl)) (by kernel_rfl) (by kernel_rfl) (idx_ok h_27 h_28) _) fun a hs => ?_
  refine qva (vw e_30) (op := (.load 71 (.tmp 35))) hs (fun o ho => run_load1 (c := cw e_30) ho (by kernel_rfl) (by kernel_rfl) (fun w ho => h_29 w ho 0 _ rfl) _ (Ow.to (S' := rowp Ar11x0_14 cr11x0_15 71 1 (eI .u64) v_13.1 :: S) hs.own [0] 3 (by kernel_rfl) (by kernel_rfl))) fun a hs => ?_
  refine qpe 3 [(0, .bool (e_30 == 9))] hs fun a hs => ?_
  exact hj16 (e_30 == 9) hm _ _ (hs.go [0] [] 3 (by kernel_rfl) (by kernel_rfl) (by kernel_rfl))
 ·replace hm := bif_f hm hb
  replace hs := hs.known (t := 33) hb (by kernel_rfl)
  refine qpe 6 [(0, .bool false)] hs fun a hs => ?_
  exact hj16 false hm _ _ (hs.go [0] [] 3 (by kernel_rfl) (by kernel_rfl) (by kernel_rfl))


abbrev slices_Clone_api_Op_api_Op.R (κ : Ctx) (S : List HP) (x0 : List Tapi_Op) (A_x0 : Option Addr) (c_x0 : Nat) (r : List Tapi_Op) : Ending → World → Prop := fun e w' => ∃ (A_r0 : Option Addr), ∃ (c_r0 : Nat), e = .returned (.slice A_r0 r.length c_r0) ∧ Ow κ w' (rowp A_r0 c_r0 85 6 Tapi_Op.cells r :: S)
def slices_Clone_api_Op_api_Op.m (k : Nat) (x0 : List Tapi_Op) : Option (List Tapi_Op) := (if (([] : List Tapi_Op).length + x0.length) * 48 ≤ 140737488355328 then some (([] : List Tapi_Op) ++ x0) else none)

set_option maxRecDepth 100000 in
set_option maxHeartbeats 4000000 in
theorem slices_Clone_api_Op_api_Op.ok (k : Nat) (x0 : List Tapi_Op) (r : List Tapi_Op) (hm : slices_Clone_api_Op_api_Op.m k x0 = some r) (κ : Ctx) (w : World) (S : List HP) (A_x0 : Option Addr) (c_x0 : Nat) (hx_x0 : Sl κ S A_x0 c_x0 6 Tapi_Op.cells x0) (ho : Ow κ w (S)) :
  Calls Try.prog 38 #[.slice A_x0 x0.length c_x0] w (slices_Clone_api_Op_api_Op.R κ S x0 A_x0 c_x0 r) := by
 unfold slices_Clone_api_Op_api_Op.m at hm
 rcases A_x0 with _ | p_x0
 ·obtain rfl : c_x0 = 0 := hx_x0.none rfl
  obtain rfl : x0 = [] := List.length_eq_zero_iff.1 (Nat.le_zero.1 hx_x0.le)
  replace hm : some ([] : List Tapi_Op) = some r := by simpa using hm
  refine Vk.enter [(0, .slice none 0 0)] Try.func38 rfl Try.ntmps38 (by kernel_rfl) (Nat.le_of_ble_eq_true (by kernel_rfl)) ho fun a hs => ?_
  refine Vk.seq fun K1 hK1 => ?_
  refine Vk.region ?_
  refine Vk.pures 1 [(2, .slice none 0 0)] hs (by kernel_rfl) fun a hs => ?_
  replace hs := hs.pick [0] (L' := [(0, .slice none 0 0)]) (by kernel_rfl)
  refine Vk.done (by kernel_rfl) ?_
  refine hK1 _ _ ?_
  clear hK1
  refine Vk.seq fun K2 hK2 => ?_
  refine Vk.seq fun K3 hK3 => ?_
  refine Vk.region ?_
  refine Vk.pures 2 [(4, .bool true), (3, .slice none 0 0)] hs (by kernel_rfl) fun a hs => ?_
  replace hs := hs.pick [0, 4] (L' := [(0, .slice none 0 0), (4, .bool true)]) (by kernel_rfl)
  refine Vk.done (by kernel_rfl) ?_
  refine hK3 _ _ ?_
  clear hK3
  refine Vk.condT hs (by kernel_rfl) (by kernel_rfl) ?_
  refine Vk.seq fun K4 hK4 => ?_
  refine Vk.region ?_
  refine Vk.pures 1 [(2, .slice none 0 0)] hs (by kernel_rfl) fun a hs => ?_
  replace hs := hs.pick [2] (L' := [(2, .slice none 0 0)]) (by kernel_rfl)
  refine Vk.done (by kernel_rfl) ?_
  refine hK4 _ _ ?_
  clear hK4
  refine wp_ret ?_
  replace hs := hs.addRow none 85 6 Tapi_Op.cells
  exact Vk.ret1 (P := Try.prog) (fn := Try.f38) (R := slices_Clone_api_Op_api_Op.R κ S [] none 0 r) (.slice none (([] : List Tapi_Op).length) 0) hs rfl (by kernel_rfl) (by obtain rfl := Option.some.inj hm; exact ⟨none, 0, rfl, hs.own⟩)
 ·skip
  refine Vk.enter [(0, .slice (some p_x0) x0.length c_x0)] Try.func38 rfl Try.ntmps38 (by kernel_rfl) (Nat.le_of_ble_eq_true (by kernel_rfl)) ho fun a hs => ?_
  refine Vk.seq fun K1 hK1 => ?_
  refine Vk.region ?_
  refine Vk.pures 1 [(2, .slice none 0 0)] hs (by kernel_rfl) fun a hs => ?_
  replace hs := hs.pick [0] (L' := [(0, .slice (some p_x0) x0.length c_x0)]) (by kernel_rfl)
  refine Vk.done (by kernel_rfl) ?_
  refine hK1 _ _ ?_
  clear hK1
  refine Vk.seq fun K2 hK2 => ?_
  refine Vk.seq fun K3 hK3 => ?_
  refine Vk.region ?_
  refine Vk.pures 2 [(4, .bool false), (3, .slice (some p_x0) x0.length c_x0)] hs (by kernel_rfl) fun a hs => ?_
  replace hs := hs.pick [0, 4] (L' := [(0, .slice (some p_x0) x0.length c_x0), (4, .bool false)]) (by kernel_rfl)
  refine Vk.done (by kernel_rfl) ?_
  refine hK3 _ _ ?_
  clear hK3
  refine Vk.condF hs (by kernel_rfl) (by kernel_rfl) ?_
  refine wp_skip ?_
  refine hK2 _ _ ?_
  clear hK2
  refine Vk.seq fun K4 hK4 => ?_
  refine Vk.region ?_
  refine Vk.step (Vk.buildOp (sz := 6) (by_ := 48) (t := 55) (e := 85) (parts := #[]) (zs := vals [C.int .i64 0, C.int .i64 0, C.int .i64 0, C.int .i64 0, C.int .i64 0, C.int .u64 0]) ([] : List Tapi_Op) Tapi_Op.cells (some 5) hs (by kernel_rfl) (by kernel_rfl) (by kernel_rfl) (by kernel_rfl) (by decide) rfl (fun x _ => rfl) (Nat.le_of_ble_eq_true (by kernel_rfl)) (by kernel_rfl) fun A_5 w a hs => ?_)
  refine Vk.pures 1 [(6, .slice (some p_x0) x0.length c_x0)] hs (by kernel_rfl) fun a hs => ?_
  obtain ⟨h_7, hm⟩ := ite_t hm
  refine Vk.step (Vk.appendOp (x := (.tmp 5)) (y := (.tmp 6)) (e := 85) (t := 55) (by_ := 48) (sz := 6) (enc := Tapi_Op.cells) (A := A_5) (cap := 0) (xs := ([] : List Tapi_Op)) (ys := x0) (B := (some p_x0)) (c2 := c_x0) 0 (some 7) hs (by kernel_rfl) (by kernel_rfl) (by kernel_rfl) (by kernel_rfl) rfl hx_x0.less (by kernel_rfl) (by kernel_rfl) (by decide) (by decide) h_7 fun A_8 c_9 w a hs => ?_)
  refine Vk.pures 1 [(2, .slice A_8 ((([] : List Tapi_Op) ++ x0).length) c_9)] hs (by kernel_rfl) fun a hs => ?_
  replace hs := hs.pick [2] (L' := [(2, .slice A_8 ((([] : List Tapi_Op) ++ x0).length) c_9)]) (by kernel_rfl)
  refine Vk.done (by kernel_rfl) ?_
  refine hK4 _ _ ?_
  clear hK4
  refine wp_ret ?_
  exact Vk.ret1 (P := Try.prog) (fn := Try.f38) (R := slices_Clone_api_Op_api_Op.R κ S x0 (some p_x0) c_x0 r) (.slice A_8 ((([] : List Tapi_Op) ++ x0).length) c_9) hs rfl (by kernel_rfl) (by obtain rfl := Option.some.inj hm; exact ⟨A_8, c_9, rfl, hs.own⟩)


abbrev slices_Clone_api_Span_api_Span.R (κ : Ctx) (S : List HP) (x0 : List Tapi_Span) (A_x0 : Option Addr) (c_x0 : Nat) (r : List Tapi_Span) : Ending → World → Prop := fun e w' => ∃ (A_r0 : Option Addr), ∃ (c_r0 : Nat), e = .returned (.slice A_r0 r.length c_r0) ∧ Ow κ w' (rowp A_r0 c_r0 95 3 Tapi_Span.cells r :: S)
def slices_Clone_api_Span_api_Span.m (k : Nat) (x0 : List Tapi_Span) : Option (List Tapi_Span) := (if (([] : List Tapi_Span).length + x0.length) * 24 ≤ 140737488355328 then some (([] : List Tapi_Span) ++ x0) else none)

set_option maxRecDepth 100000 in
set_option maxHeartbeats 4000000 in
theorem slices_Clone_api_Span_api_Span.ok (k : Nat) (x0 : List Tapi_Span) (r : List Tapi_Span) (hm : slices_Clone_api_Span_api_Span.m k x0 = some r) (κ : Ctx) (w : World) (S : List HP) (A_x0 : Option Addr) (c_x0 : Nat) (hx_x0 : Sl κ S A_x0 c_x0 3 Tapi_Span.cells x0) (ho : Ow κ w (S)) :
  Calls Try.prog 39 #[.slice A_x0 x0.length c_x0] w (slices_Clone_api_Span_api_Span.R κ S x0 A_x0 c_x0 r) := by
 unfold slices_Clone_api_Span_api_Span.m at hm
 rcases A_x0 with _ | p_x0
 ·obtain rfl : c_x0 = 0 := hx_x0.none rfl
  obtain rfl : x0 = [] := List.length_eq_zero_iff.1 (Nat.le_zero.1 hx_x0.le)
  replace hm : some ([] : List Tapi_Span) = some r := by simpa using hm
  refine Vk.enter [(0, .slice none 0 0)] Try.func39 rfl Try.ntmps39 (by kernel_rfl) (Nat.le_of_ble_eq_true (by kernel_rfl)) ho fun a hs => ?_
  refine Vk.seq fun K1 hK1 => ?_
  refine Vk.region ?_
  refine Vk.pures 1 [(2, .slice none 0 0)] hs (by kernel_rfl) fun a hs => ?_
  replace hs := hs.pick [0] (L' := [(0, .slice none 0 0)]) (by kernel_rfl)
  refine Vk.done (by kernel_rfl) ?_
  refine hK1 _ _ ?_
  clear hK1
  refine Vk.seq fun K2 hK2 => ?_
  refine Vk.seq fun K3 hK3 => ?_
  refine Vk.region ?_
  refine Vk.pures 2 [(4, .bool true), (3, .slice none 0 0)] hs (by kernel_rfl) fun a hs => ?_
  replace hs := hs.pick [0, 4] (L' := [(0, .slice none 0 0), (4, .bool true)]) (by kernel_rfl)
  refine Vk.done (by kernel_rfl) ?_
  refine hK3 _ _ ?_
  clear hK3
  refine Vk.condT hs (by kernel_rfl) (by kernel_rfl) ?_
  refine Vk.seq fun K4 hK4 => ?_
  refine Vk.region ?_
  refine Vk.pures 1 [(2, .slice none 0 0)] hs (by kernel_rfl) fun a hs => ?_
  replace hs := hs.pick [2] (L' := [(2, .slice none 0 0)]) (by kernel_rfl)
  refine Vk.done (by kernel_rfl) ?_
  refine hK4 _ _ ?_
  clear hK4
  refine wp_ret ?_
  replace hs := hs.addRow none 95 3 Tapi_Span.cells
  exact Vk.ret1 (P := Try.prog) (fn := Try.f39) (R := slices_Clone_api_Span_api_Span.R κ S [] none 0 r) (.slice none (([] : List Tapi_Span).length) 0) hs rfl (by kernel_rfl) (by obtain rfl := Option.some.inj hm; exact ⟨none, 0, rfl, hs.own⟩)
 ·skip
  refine Vk.enter [(0, .slice (some p_x0) x0.length c_x0)] Try.func39 rfl Try.ntmps39 (by kernel_rfl) (Nat.le_of_ble_eq_true (by kernel_rfl)) ho fun a hs => ?_
  refine Vk.seq fun K1 hK1 => ?_
  refine Vk.region ?_
  refine Vk.pures 1 [(2, .slice none 0 0)] hs (by kernel_rfl) fun a hs => ?_
  replace hs := hs.pick [0] (L' := [(0, .slice (some p_x0) x0.length c_x0)]) (by kernel_rfl)
  refine Vk.done (by kernel_rfl) ?_
  refine hK1 _ _ ?_
  clear hK1
  refine Vk.seq fun K2 hK2 => ?_
  refine Vk.seq fun K3 hK3 => ?_
  refine Vk.region ?_
  refine Vk.pures 2 [(4, .bool false), (3, .slice (some p_x0) x0.length c_x0)] hs (by kernel_rfl) fun a hs => ?_
  replace hs := hs.pick [0, 4] (L' := [(0, .slice (some p_x0) x0.length c_x0), (4, .bool false)]) (by kernel_rfl)
  refine Vk.done (by kernel_rfl) ?_
  refine hK3 _ _ ?_
  clear hK3
  refine Vk.condF hs (by kernel_rfl) (by kernel_rfl) ?_
  refine wp_skip ?_
  refine hK2 _ _ ?_
  clear hK2
  refine Vk.seq fun K4 hK4 => ?_
  refine Vk.region ?_
  refine Vk.step (Vk.buildOp (sz := 3) (by_ := 24) (t := 56) (e := 95) (parts := #[]) (zs := vals [C.int .i64 0, C.int .i64 0, C.int .i64 0]) ([] : List Tapi_Span) Tapi_Span.cells (some 5) hs (by kernel_rfl) (by kernel_rfl) (by kernel_rfl) (by kernel_rfl) (by decide) rfl (fun x _ => rfl) (Nat.le_of_ble_eq_true (by kernel_rfl)) (by kernel_rfl) fun A_5 w a hs => ?_)
  refine Vk.pures 1 [(6, .slice (some p_x0) x0.length c_x0)] hs (by kernel_rfl) fun a hs => ?_
  obtain ⟨h_7, hm⟩ := ite_t hm
  refine Vk.step (Vk.appendOp (x := (.tmp 5)) (y := (.tmp 6)) (e := 95) (t := 56) (by_ := 24) (sz := 3) (enc := Tapi_Span.cells) (A := A_5) (cap := 0) (xs := ([] : List Tapi_Span)) (ys := x0) (B := (some p_x0)) (c2 := c_x0) 0 (some 7) hs (by kernel_rfl) (by kernel_rfl) (by kernel_rfl) (by kernel_rfl) rfl hx_x0.less (by kernel_rfl) (by kernel_rfl) (by decide) (by decide) h_7 fun A_8 c_9 w a hs => ?_)
  refine Vk.pures 1 [(2, .slice A_8 ((([] : List Tapi_Span) ++ x0).length) c_9)] hs (by kernel_rfl) fun a hs => ?_
  replace hs := hs.pick [2] (L' := [(2, .slice A_8 ((([] : List Tapi_Span) ++ x0).length) c_9)]) (by kernel_rfl)
  refine Vk.done (by kernel_rfl) ?_
  refine hK4 _ _ ?_
  clear hK4
  refine wp_ret ?_
  exact Vk.ret1 (P := Try.prog) (fn := Try.f39) (R := slices_Clone_api_Span_api_Span.R κ S x0 (some p_x0) c_x0 r) (.slice A_8 ((([] : List Tapi_Span) ++ x0).length) c_9) hs rfl (by kernel_rfl) (by obtain rfl := Option.some.inj hm; exact ⟨A_8, c_9, rfl, hs.own⟩)


def replay_later.j2 (k : Nat) (p_32 : Tapi_Op) : Option (Tapi_Op) := some p_32
def replay_later.j1_3 (k : Nat) (x2 : Int) (p_26 : Tapi_Op) : Option (Tapi_Op) := (bif p_26.kind == 2 then replay_later.j2 k (⟨p_26.kind, p_26.dom, p_26.a, p_26.b, p_26.d, IntKind.u64.wrap (p_26.c + (IntKind.u64.wrap x2))⟩ : Tapi_Op) else replay_later.j2 k p_26)
def replay_later.j1_2 (k : Nat) (x1 : Int) (x2 : Int) (p_19 : Tapi_Op) : Option (Tapi_Op) := (bif decide (p_19.d ≥ 0) then replay_later.j1_3 k x2 (⟨p_19.kind, p_19.dom, p_19.a, p_19.b, IntKind.i64.wrap (p_19.d + x1), p_19.c⟩ : Tapi_Op) else replay_later.j1_3 k x2 p_19)
def replay_later.j1 (k : Nat) (x1 : Int) (x2 : Int) (p_12 : Tapi_Op) : Option (Tapi_Op) := (bif decide (p_12.b ≥ 0) then replay_later.j1_2 k x1 x2 (⟨p_12.kind, p_12.dom, p_12.a, IntKind.i64.wrap (p_12.b + x1), p_12.d, p_12.c⟩ : Tapi_Op) else replay_later.j1_2 k x1 x2 p_12)
abbrev replay_later.R (κ : Ctx) (S : List HP) (x0 : Tapi_Op) (x1 : Int) (x2 : Int) (r : Tapi_Op) : Ending → World → Prop := fun e w' => e = .returned (.agg (vals [ci r.kind, ci r.dom, ci r.a, ci r.b, ci r.d, cw r.c])) ∧ Ow κ w' (S)
def replay_later.m (k : Nat) (x0 : Tapi_Op) (x1 : Int) (x2 : Int) : Option Tapi_Op := (bif decide (x0.a ≥ 0) then replay_later.j1 k x1 x2 (⟨x0.kind, x0.dom, IntKind.i64.wrap (x0.a + x1), x0.b, x0.d, x0.c⟩ : Tapi_Op) else replay_later.j1 k x1 x2 x0)

set_option maxRecDepth 100000 in
set_option maxHeartbeats 4000000 in
theorem replay_later.ok (k : Nat) (x0 : Tapi_Op) (x1 : Int) (x2 : Int) (r : Tapi_Op) (hm : replay_later.m k x0 x1 x2 = some r) (κ : Ctx) (w : World) (S : List HP) (ho : Ow κ w (S)) :
  Calls Try.prog 40 #[.agg (vals [ci x0.kind, ci x0.dom, ci x0.a, ci x0.b, ci x0.d, cw x0.c]), vi x1, vi x2] w (replay_later.R κ S x0 x1 x2 r) := by
 unfold replay_later.m at hm
 generalize hRR : replay_later.R κ S x0 x1 x2 r = RR
 refine qen [(0, .agg (vals [ci x0.kind, ci x0.dom, ci x0.a, ci x0.b, ci x0.d, cw x0.c])), (1, vi x1), (2, vi x2)] Try.func40 Try.ntmps40 ho fun a hs => ?_
 refine qsr fun K1 hK1 => ?_
 refine qbx 0 85 [ci x0.kind, ci x0.dom, ci x0.a, ci x0.b, ci x0.d, cw x0.c] 3 hs fun b_2 w a hs => ?_
 refine qal 85 [ci 0, ci 0, ci 0, ci 0, ci 0, cw 0] 6 hs fun b_3 w a hs => ?_
 refine qpk 0 [1, 2, 3, 6] hs fun a hs => hK1 _ _ ?_
 clear hK1
 refine Vk.seq fun K4 hK4 => ?_
 refine qsk 5 [1, 2, 3, 6, 12, 13] hs fun a hs => ?_
 refine wp_block ?_
 refine Vk.unroll0 40 ?_
 refine Vk.unroll fun KL6 hKL6 => ?_
 refine qsk 1 [1, 2, 3, 6, 12, 13, 14] hs fun a hs => ?_
 refine qck hs ?_
 refine Vk.seq fun K9 hK9 => ?_
 have hj9 : ∀ (p_12 : Tapi_Op), replay_later.j1 k x1 x2 p_12 = some r → ∀ (a : Act) (w : World), St 37 a w κ [(1, vi x1), (2, vi x2), (3, pp b_2), (6, pp b_3), (12, .agg (vals [C.ptr (some ⟨b_2, 2, none⟩), C.ptr (some ⟨b_2, 3, none⟩), C.ptr (some ⟨b_2, 4, none⟩)])), (13, vi 0)] (pt b_2 (blk (Tapi_Op.cells p_12) 85) :: pt b_3 (blk [ci 0, ci 0, ci 0, ci 0, ci 0, cw 0] 85) :: S) → K9 a w := by
  intro p_12 hm a w hs
  unfold replay_later.j1 at hm
  refine hK9 _ _ ?_
  refine Vk.region ?_
  refine qpk 2 [1, 2, 3, 6, 12, 13] hs fun a hs => hKL6 _ _ ?_
  clear hKL6
  refine Vk.unroll fun KL13 hKL13 => ?_
  refine qsk 1 [1, 2, 3, 6, 12, 13, 14] hs fun a hs => ?_
  refine qck hs ?_
  refine Vk.seq fun K16 hK16 => ?_
  have hj16 : ∀ (p_19 : Tapi_Op), replay_later.j1_2 k x1 x2 p_19 = some r → ∀ (a : Act) (w : World), St 37 a w κ [(1, vi x1), (2, vi x2), (3, pp b_2), (6, pp b_3), (12, .agg (vals [C.ptr (some ⟨b_2, 2, none⟩), C.ptr (some ⟨b_2, 3, none⟩), C.ptr (some ⟨b_2, 4, none⟩)])), (13, vi 1)] (pt b_2 (blk (Tapi_Op.cells p_19) 85) :: pt b_3 (blk [ci 0, ci 0, ci 0, ci 0, ci 0, cw 0] 85) :: S) → K16 a w := by
   intro p_19 hm a w hs
   unfold replay_later.j1_2 at hm
   refine hK16 _ _ ?_
   refine Vk.region ?_
   refine qpe 2 [(1, vi x1), (2, vi x2), (3, pp b_2), (6, pp b_3), (12, .agg (vals [C.ptr (some ⟨b_2, 2, none⟩), C.ptr (some ⟨b_2, 3, none⟩), C.ptr (some ⟨b_2, 4, none⟩)])), (13, vi 2)] hs fun a hs => hKL13 _ _ ?_
   clear hKL13
   refine Vk.unroll fun KL20 hKL20 => ?_
   refine qsk 1 [1, 2, 3, 6, 12, 13, 14] hs fun a hs => ?_
   refine qck hs ?_
   refine Vk.seq fun K23 hK23 => ?_
   have hj23 : ∀ (p_26 : Tapi_Op), replay_later.j1_3 k x2 p_26 = some r → ∀ (a : Act) (w : World), St 37 a w κ [(1, vi x1), (2, vi x2), (3, pp b_2), (6, pp b_3), (12, .agg (vals [C.ptr (some ⟨b_2, 2, none⟩), C.ptr (some ⟨b_2, 3, none⟩), C.ptr (some ⟨b_2, 4, none⟩)])), (13, vi 2)] (pt b_2 (blk (Tapi_Op.cells p_26) 85) :: pt b_3 (blk [ci 0, ci 0, ci 0, ci 0, ci 0, cw 0] 85) :: S) → K23 a w := by
    intro p_26 hm a w hs
    unfold replay_later.j1_3 at hm
    refine hK23 _ _ ?_
    refine Vk.region ?_
    refine qpk 2 [1, 2, 3, 6, 12, 13] hs fun a hs => hKL20 _ _ ?_
    clear hKL20
    refine Vk.unroll fun KL27 hKL27 => ?_
    refine qsk 1 [1, 2, 3, 6, 12, 13, 14] hs fun a hs => ?_
    refine Vk.seq fun K29 hK29 => ?_
    refine qcf hs ?_
    refine wp_exit ?_
    refine hK4 _ _ ?_
    clear hK4
    refine Vk.seq fun K30 hK30 => ?_
    have hj30 : ∀ (p_32 : Tapi_Op), replay_later.j2 k p_32 = some r → ∀ (a : Act) (w : World), St 37 a w κ [(3, pp b_2), (6, pp b_3)] (pt b_2 (blk (Tapi_Op.cells p_32) 85) :: pt b_3 (blk [ci 0, ci 0, ci 0, ci 0, ci 0, cw 0] 85) :: S) → K30 a w := by
     intro p_32 hm a w hs
     unfold replay_later.j2 at hm
     refine hK30 _ _ ?_
     refine qsr fun K33 hK33 => ?_
     refine qln 0 ([ci p_32.kind, ci p_32.dom, ci p_32.a, ci p_32.b, ci p_32.d, cw p_32.c]) hs rfl fun a hs => ?_
     refine qsa 1 [ci p_32.kind, ci p_32.dom, ci p_32.a, ci p_32.b, ci p_32.d, cw p_32.c] hs rfl fun a w hs => ?_
     refine qpe 0 [(6, pp b_3)] hs fun a hs => hK33 _ _ ?_
     clear hK33
     refine wp_ret ?_
     exact Vk.retC [ci p_32.kind, ci p_32.dom, ci p_32.a, ci p_32.b, ci p_32.d, cw p_32.c] hs rfl (by kernel_rfl) (sz := 6) (by kernel_rfl) rfl (CellsAt.all 1 rfl) (hRR ▸ by cases hm; exact ⟨rfl, hs.own.f1.drop.drop⟩)
    refine qsr fun K31 hK31 => ?_
    refine qpu 1 hs fun a hs => ?_
    refine qld 0 (ci p_26.kind) hs rfl fun a hs => ?_
    refine qpk 1 [2, 3, 6, 29] hs fun a hs => hK31 _ _ ?_
    clear hK31
    refine qcs (p_26.kind == 2) hs (fun hb => ?_) fun hb => ?_
    ·replace hm := bif_t hm hb
     refine Vk.region ?_
     refine qpu 1 hs fun a hs => ?_
     refine qld 0 (cw p_26.c) hs rfl fun a hs => ?_
     refine qpu 4 hs fun a hs => ?_
     refine qst 0 5 (cw (IntKind.u64.wrap (p_26.c + (IntKind.u64.wrap x2)))) hs rfl fun a w hs => ?_
     refine qpe 0 [(3, pp b_2), (6, pp b_3)] hs fun a hs => ?_
     exact hj30 (⟨p_26.kind, p_26.dom, p_26.a, p_26.b, p_26.d, IntKind.u64.wrap (p_26.c + (IntKind.u64.wrap x2))⟩ : Tapi_Op) hm _ _ (hs.go [3, 6] [0, 1] 2 (by kernel_rfl) (by kernel_rfl) (by kernel_rfl))
    ·replace hm := bif_f hm hb
     refine wp_skip ?_
     exact hj30 p_26 hm _ _ (hs.go [3, 6] [0, 1] 2 (by kernel_rfl) (by kernel_rfl) (by kernel_rfl))
   refine wp_block ?_
   refine qsk 2 [1, 2, 3, 6, 8, 12, 13] hs fun a hs => ?_
   refine qsr fun K25 hK25 => ?_
   refine qpu 2 hs fun a hs => ?_
   refine qld 0 (ci p_19.d) hs rfl fun a hs => ?_
   refine qpk 1 [1, 2, 3, 6, 8, 12, 13, 19] hs fun a hs => hK25 _ _ ?_
   clear hK25
   refine qcs (decide (p_19.d ≥ 0)) hs (fun hb => ?_) fun hb => ?_
   ·replace hm := bif_t hm hb
    refine Vk.region ?_
    refine qpu 2 hs fun a hs => ?_
    refine qld 0 (ci p_19.d) hs rfl fun a hs => ?_
    refine qpu 3 hs fun a hs => ?_
    refine qst 0 4 (ci (IntKind.i64.wrap (p_19.d + x1))) hs rfl fun a w hs => ?_
    refine qpe 0 [(1, vi x1), (2, vi x2), (3, pp b_2), (6, pp b_3), (12, .agg (vals [C.ptr (some ⟨b_2, 2, none⟩), C.ptr (some ⟨b_2, 3, none⟩), C.ptr (some ⟨b_2, 4, none⟩)])), (13, vi 2)] hs fun a hs => ?_
    exact hj23 (⟨p_19.kind, p_19.dom, p_19.a, p_19.b, IntKind.i64.wrap (p_19.d + x1), p_19.c⟩ : Tapi_Op) hm _ _ (hs.go [1, 2, 3, 6, 12, 13] [0, 1] 2 (by kernel_rfl) (by kernel_rfl) (by kernel_rfl))
   ·replace hm := bif_f hm hb
    refine wp_skip ?_
    exact hj23 p_19 hm _ _ (hs.go [1, 2, 3, 6, 12, 13] [0, 1] 2 (by kernel_rfl) (by kernel_rfl) (by kernel_rfl))
  refine wp_block ?_
  refine qsk 2 [1, 2, 3, 6, 8, 12, 13] hs fun a hs => ?_
  refine qsr fun K18 hK18 => ?_
  refine qpu 2 hs fun a hs => ?_
  refine qld 0 (ci p_12.b) hs rfl fun a hs => ?_
  refine qpk 1 [1, 2, 3, 6, 8, 12, 13, 19] hs fun a hs => hK18 _ _ ?_
  clear hK18
  refine qcs (decide (p_12.b ≥ 0)) hs (fun hb => ?_) fun hb => ?_
  ·replace hm := bif_t hm hb
   refine Vk.region ?_
   refine qpu 2 hs fun a hs => ?_
   refine qld 0 (ci p_12.b) hs rfl fun a hs => ?_
   refine qpu 3 hs fun a hs => ?_
   refine qst 0 3 (ci (IntKind.i64.wrap (p_12.b + x1))) hs rfl fun a w hs => ?_
   refine qpe 0 [(1, vi x1), (2, vi x2), (3, pp b_2), (6, pp b_3), (12, .agg (vals [C.ptr (some ⟨b_2, 2, none⟩), C.ptr (some ⟨b_2, 3, none⟩), C.ptr (some ⟨b_2, 4, none⟩)])), (13, vi 1)] hs fun a hs => ?_
   exact hj16 (⟨p_12.kind, p_12.dom, p_12.a, IntKind.i64.wrap (p_12.b + x1), p_12.d, p_12.c⟩ : Tapi_Op) hm _ _ (hs.go [1, 2, 3, 6, 12, 13] [0, 1] 2 (by kernel_rfl) (by kernel_rfl) (by kernel_rfl))
  ·replace hm := bif_f hm hb
   refine wp_skip ?_
   exact hj16 p_12 hm _ _ (hs.go [1, 2, 3, 6, 12, 13] [0, 1] 2 (by kernel_rfl) (by kernel_rfl) (by kernel_rfl))
 refine wp_block ?_
 refine qsk 2 [1, 2, 3, 6, 8, 12, 13] hs fun a hs => ?_
 refine qsr fun K11 hK11 => ?_
 refine qpu 2 hs fun a hs => ?_
 refine qld 1 (ci x0.a) hs rfl fun a hs => ?_
 refine qpk 1 [1, 2, 3, 6, 8, 12, 13, 19] hs fun a hs => hK11 _ _ ?_
 clear hK11
 refine qcs (decide (x0.a ≥ 0)) hs (fun hb => ?_) fun hb => ?_
 ·replace hm := bif_t hm hb
  refine Vk.region ?_
  refine qpu 2 hs fun a hs => ?_
  refine qld 1 (ci x0.a) hs rfl fun a hs => ?_
  refine qpu 3 hs fun a hs => ?_
  refine qst 1 2 (ci (IntKind.i64.wrap (x0.a + x1))) hs rfl fun a w hs => ?_
  refine qpe 0 [(1, vi x1), (2, vi x2), (3, pp b_2), (6, pp b_3), (12, .agg (vals [C.ptr (some ⟨b_2, 2, none⟩), C.ptr (some ⟨b_2, 3, none⟩), C.ptr (some ⟨b_2, 4, none⟩)])), (13, vi 0)] hs fun a hs => ?_
  exact hj9 (⟨x0.kind, x0.dom, IntKind.i64.wrap (x0.a + x1), x0.b, x0.d, x0.c⟩ : Tapi_Op) hm _ _ (hs.go [1, 2, 3, 6, 12, 13] [1, 0] 2 (by kernel_rfl) (by kernel_rfl) (by kernel_rfl))
 ·replace hm := bif_f hm hb
  refine wp_skip ?_
  exact hj9 x0 hm _ _ (hs.go [1, 2, 3, 6, 12, 13] [1, 0] 2 (by kernel_rfl) (by kernel_rfl) (by kernel_rfl))


def replay_Join.l2 (x0 : Tapi_Trace) (x1 : Tapi_Trace) : Nat → Tapi_Trace → Int → Option (Tapi_Trace)
 | 0, _, _ => none
 | k + 1, q_87, q_90 => (bif decide (q_90 < ((x1.blocks.length : Nat) : Int)) then (if 0 ≤ q_90 then (x1.blocks[q_90.toNat]?).bind fun e_98 => (if (q_87.blocks.length + ([(⟨e_98.kind, IntKind.i64.wrap (e_98.fromF + ((x0.ops.length : Nat) : Int)), IntKind.i64.wrap (e_98.to + ((x0.ops.length : Nat) : Int))⟩ : Tapi_Span)] : List Tapi_Span).length) * 24 ≤ 140737488355328 then replay_Join.l2 x0 x1 k (⟨q_87.n, q_87.ops, q_87.blocks ++ ([(⟨e_98.kind, IntKind.i64.wrap (e_98.fromF + ((x0.ops.length : Nat) : Int)), IntKind.i64.wrap (e_98.to + ((x0.ops.length : Nat) : Int))⟩ : Tapi_Span)] : List Tapi_Span)⟩ : Tapi_Trace) (IntKind.i64.wrap (q_90 + 1)) else none) else none) else some q_87)
def replay_Join.l1 (x0 : Tapi_Trace) (x1 : Tapi_Trace) (v_27 : Int) : Nat → Tapi_Trace → Int → Option (Tapi_Trace)
 | 0, _, _ => none
 | k + 1, q_52, q_55 => (bif decide (q_55 < ((x1.ops.length : Nat) : Int)) then (if 0 ≤ q_55 then (x1.ops[q_55.toNat]?).bind fun e_63 => (replay_later.m k e_63 ((x0.ops.length : Nat) : Int) v_27).bind fun v_71 => (if (q_52.ops.length + ([v_71] : List Tapi_Op).length) * 48 ≤ 140737488355328 then replay_Join.l1 x0 x1 v_27 k (⟨q_52.n, q_52.ops ++ ([v_71] : List Tapi_Op), q_52.blocks⟩ : Tapi_Trace) (IntKind.i64.wrap (q_55 + 1)) else none) else none) else some q_52)
def replay_Join.j2 (k : Nat) (x0 : Tapi_Trace) (x1 : Tapi_Trace) (v_27 : Int) (p_42 : Tapi_Trace) : Option ((Tapi_Trace × Int)) := (replay_Join.l1 x0 x1 v_27 k p_42 0).bind fun p_77 => (replay_Join.l2 x0 x1 k p_77 0).bind fun p_108 => some (p_108, 0)
def replay_Join.j1 (k : Nat) (x0 : Tapi_Trace) (x1 : Tapi_Trace) (p_21 : Bool) : Option ((Tapi_Trace × Int)) := (bif p_21 then some ((⟨0, ([] : List Tapi_Op), ([] : List Tapi_Span)⟩ : Tapi_Trace), 4) else (trace_Words.m k x0).bind fun v_27 => (slices_Clone_api_Op_api_Op.m k x0.ops).bind fun v_32 => (slices_Clone_api_Span_api_Span.m k x0.blocks).bind fun v_37 => replay_Join.j2 k x0 x1 v_27 (⟨x0.n, v_32, v_37⟩ : Tapi_Trace))
abbrev replay_Join.R (κ : Ctx) (S : List HP) (x0 : Tapi_Trace) (x1 : Tapi_Trace) (A_x0ops : Option Addr) (c_x0ops : Nat) (A_x0blocks : Option Addr) (c_x0blocks : Nat) (A_x1ops : Option Addr) (c_x1ops : Nat) (A_x1blocks : Option Addr) (c_x1blocks : Nat) (r : (Tapi_Trace × Int)) : Ending → World → Prop := fun e w' => ∃ (A_r0ops : Option Addr), ∃ (c_r0ops : Nat), ∃ (A_r0blocks : Option Addr), ∃ (c_r0blocks : Nat), e = .returned (.tuple #[.agg (vals [ci r.1.n, C.slc A_r0ops r.1.ops.length c_r0ops, C.slc A_r0blocks r.1.blocks.length c_r0blocks]), vi r.2]) ∧ Ow κ w' (rowp A_r0ops c_r0ops 85 6 Tapi_Op.cells r.1.ops :: rowp A_r0blocks c_r0blocks 95 3 Tapi_Span.cells r.1.blocks :: S)
def replay_Join.m (k : Nat) (x0 : Tapi_Trace) (x1 : Tapi_Trace) : Option (Tapi_Trace × Int) := (trace_Check.m k x0).bind fun v_9 => (bif v_9 != 0 then replay_Join.j1 k x0 x1 true else (trace_Check.m k x1).bind fun v_12 => replay_Join.j1 k x0 x1 (((v_12 != 0) || (x0.n != x1.n)) || (decide ((IntKind.i64.wrap (((x0.ops.length : Nat) : Int) + ((x1.ops.length : Nat) : Int))) > 1048576))))

set_option maxRecDepth 100000 in
set_option maxHeartbeats 4000000 in
theorem replay_Join.ok (k : Nat) (x0 : Tapi_Trace) (x1 : Tapi_Trace) (r : (Tapi_Trace × Int)) (hm : replay_Join.m k x0 x1 = some r) (κ : Ctx) (w : World) (S : List HP) (A_x0ops : Option Addr) (c_x0ops : Nat) (hx_x0ops : Sl κ S A_x0ops c_x0ops 6 Tapi_Op.cells x0.ops) (A_x0blocks : Option Addr) (c_x0blocks : Nat) (hx_x0blocks : Sl κ S A_x0blocks c_x0blocks 3 Tapi_Span.cells x0.blocks) (A_x1ops : Option Addr) (c_x1ops : Nat) (hx_x1ops : Sl κ S A_x1ops c_x1ops 6 Tapi_Op.cells x1.ops) (A_x1blocks : Option Addr) (c_x1blocks : Nat) (hx_x1blocks : Sl κ S A_x1blocks c_x1blocks 3 Tapi_Span.cells x1.blocks) (ho : Ow κ w (S)) :
  Calls Try.prog 28 #[.agg (vals [ci x0.n, C.slc A_x0ops x0.ops.length c_x0ops, C.slc A_x0blocks x0.blocks.length c_x0blocks]), .agg (vals [ci x1.n, C.slc A_x1ops x1.ops.length c_x1ops, C.slc A_x1blocks x1.blocks.length c_x1blocks])] w (replay_Join.R κ S x0 x1 A_x0ops c_x0ops A_x0blocks c_x0blocks A_x1ops c_x1ops A_x1blocks c_x1blocks r) := by
 unfold replay_Join.m at hm
 generalize hRR : replay_Join.R κ S x0 x1 A_x0ops c_x0ops A_x0blocks c_x0blocks A_x1ops c_x1ops A_x1blocks c_x1blocks r = RR
 refine qen [(0, .agg (vals [ci x0.n, C.slc A_x0ops x0.ops.length c_x0ops, C.slc A_x0blocks x0.blocks.length c_x0blocks])), (1, .agg (vals [ci x1.n, C.slc A_x1ops x1.ops.length c_x1ops, C.slc A_x1blocks x1.blocks.length c_x1blocks]))] Try.func28 Try.ntmps28 ho fun a hs => ?_
 refine qsr fun K1 hK1 => ?_
 refine qbx 0 58 [ci x0.n, C.slc A_x0ops x0.ops.length c_x0ops, C.slc A_x0blocks x0.blocks.length c_x0blocks] 2 hs fun b_2 w a hs => ?_
 refine qbx 1 58 [ci x1.n, C.slc A_x1ops x1.ops.length c_x1ops, C.slc A_x1blocks x1.blocks.length c_x1blocks] 3 hs fun b_3 w a hs => ?_
 refine qal 58 [ci 0, C.slc none 0 0, C.slc none 0 0] 4 hs fun b_4 w a hs => ?_
 refine qpk 1 [2, 3, 4] hs fun a hs => hK1 _ _ ?_
 clear hK1
 refine Vk.seq fun K5 hK5 => ?_
 refine Vk.seq fun K6 hK6 => ?_
 have hj6 : ∀ (p_21 : Bool), replay_Join.j1 k x0 x1 p_21 = some r → ∀ (a : Act) (w : World), St 95 a w κ [(2, pp b_2), (3, pp b_3), (4, pp b_4), (37, .bool p_21)] (pt b_2 (blk (Tapi_Trace.obj x0 A_x0ops c_x0ops A_x0blocks c_x0blocks) 58) :: pt b_3 (blk (Tapi_Trace.obj x1 A_x1ops c_x1ops A_x1blocks c_x1blocks) 58) :: pt b_4 (blk ([ci 0, C.slc none (([] : List Tapi_Op).length) 0, C.slc none (([] : List Tapi_Span).length) 0]) 58) :: rowp none 0 85 6 Tapi_Op.cells ([] : List Tapi_Op) :: rowp none 0 95 3 Tapi_Span.cells ([] : List Tapi_Span) :: S) → K6 a w := by
  intro p_21 hm a w hs
  unfold replay_Join.j1 at hm
  refine hK6 _ _ ?_
  refine qcs (p_21) hs (fun hb => ?_) fun hb => ?_
  ·replace hm := bif_t hm hb
   refine qsr fun K22 hK22 => ?_
   refine qpu 1 hs fun a hs => ?_
   refine qsa 2 [ci 0, C.slc none 0 0, C.slc none 0 0] hs rfl fun a w hs => ?_
   refine qpe 1 [(4, pp b_4), (5, vi 4)] hs fun a hs => hK22 _ _ ?_
   clear hK22
   refine wp_ret ?_
   replace hs := hs.addRow none 85 6 Tapi_Op.cells
   replace hs := hs.addRow none 95 3 Tapi_Span.cells
   exact Vk.retCT ([ci 0, C.slc none (([] : List Tapi_Op).length) 0, C.slc none (([] : List Tapi_Span).length) 0]) (vi 4) hs rfl (by kernel_rfl) (sz := 3) (by kernel_rfl) rfl (CellsAt.all 4 rfl) (by kernel_rfl) (hRR ▸ by cases hm; exact ⟨none, 0, none, 0, rfl, (hs.own.too [1, 0] 7)⟩)
  ·replace hm := bif_f hm hb
   refine wp_skip ?_
   refine hK5 _ _ ?_
   clear hK5
   refine Vk.seq fun K23 hK23 => ?_
   obtain ⟨C_24, hC_24⟩ := qC hs.own
   refine qdr 7 κ C_24 hs fun w hs hqC_24 => ?_
   have hcl := qO hC_24 hs.own
   refine qdp (fuel := 6) [0] hs hcl hqC_24 fun a hs => ?_
   refine qdl 1 0 (C.slc A_x0ops x0.ops.length c_x0ops) hs hcl hqC_24 hC_24 rfl fun a hs => ?_
   refine qdp (fuel := 4) [2] hs hcl hqC_24 fun a hs => ?_
   refine qdn 3 0 ([ci x0.n, C.slc A_x0ops x0.ops.length c_x0ops, C.slc A_x0blocks x0.blocks.length c_x0blocks]) hs hcl hqC_24 hC_24 rfl fun a hs => ?_
   obtain ⟨v_27, h_26, hm⟩ := bind_t hm
   refine qdc 4 (trace_Words.ok _ _ _ h_26 _ _ (pt b_2 (blk (Tapi_Trace.obj x0 A_x0ops c_x0ops A_x0blocks c_x0blocks) 58) :: pt b_3 (blk (Tapi_Trace.obj x1 A_x1ops c_x1ops A_x1blocks c_x1blocks) 58) :: pt b_4 (blk ([ci 0, C.slc none (([] : List Tapi_Op).length) 0, C.slc none (([] : List Tapi_Span).length) 0]) 58) :: rowp none 0 85 6 Tapi_Op.cells ([] : List Tapi_Op) :: rowp none 0 95 3 Tapi_Span.cells ([] : List Tapi_Span) :: S) A_x0ops c_x0ops hx_x0ops.less.less.less.less.less A_x0blocks c_x0blocks hx_x0blocks.less.less.less.less.less hs.own) hs fun w a hs => ?_
   replace hcl := qO hC_24 hs.own
   refine ⟨fun _ => hcl, ?_⟩
   refine qdp (fuel := 0) [5, 6] hs hcl hqC_24 fun a hs => ?_
   replace hs := hs.pick [2, 3, 4, 6, 7] (L' := [(2, pp b_2), (3, pp b_3), (4, pp b_4), (6, vi ((x0.ops.length : Nat) : Int)), (7, vi v_27)]) (by kernel_rfl)
   refine Vk.dDone (by kernel_rfl) ?_
   refine hK23 _ _ ?_
   clear hK23
   refine Vk.seq fun K28 hK28 => ?_
   have hj28 : ∀ (p_42 : Tapi_Trace), replay_Join.j2 k x0 x1 v_27 p_42 = some r → ∀ (b_41 : Nat) (A_43 : Option Addr) (c_44 : Nat) (A_46 : Option Addr) (c_47 : Nat) (a : Act) (w : World), St 95 a w κ [(3, pp b_3), (4, pp b_4), (6, vi ((x0.ops.length : Nat) : Int)), (7, vi v_27), (8, pp b_41)] (pt b_3 (blk (Tapi_Trace.obj x1 A_x1ops c_x1ops A_x1blocks c_x1blocks) 58) :: pt b_4 (blk ([ci 0, C.slc none (([] : List Tapi_Op).length) 0, C.slc none (([] : List Tapi_Span).length) 0]) 58) :: rowp none 0 85 6 Tapi_Op.cells ([] : List Tapi_Op) :: rowp none 0 95 3 Tapi_Span.cells ([] : List Tapi_Span) :: pt b_41 (blk (Tapi_Trace.obj p_42 A_43 c_44 A_46 c_47) 58) :: rowp A_43 c_44 85 6 Tapi_Op.cells p_42.ops :: rowp A_46 c_47 95 3 Tapi_Span.cells p_42.blocks :: S) → K28 a w := by
    intro p_42 hm b_41 A_43 c_44 A_46 c_47 a w hs
    unfold replay_Join.j2 at hm
    refine hK28 _ _ ?_
    refine Vk.seq fun K49 hK49 => ?_
    refine qsr fun K50 hK50 => ?_
    refine qpu 1 hs fun a hs => ?_
    refine qld 0 (C.slc A_x1ops x1.ops.length c_x1ops) hs rfl fun a hs => ?_
    refine qpk 2 [3, 4, 6, 7, 8, 54, 55, 56] hs fun a hs => hK50 _ _ ?_
    clear hK50
    refine wp_block ?_
    obtain ⟨r51, hl51, hm⟩ := bind_t hm
    have hx51 : ∀ (p_77 : Tapi_Trace), r51 = p_77 → ∀ (A_78 : Option Addr) (c_79 : Nat) (a : Act) (w : World), St 95 a w κ [(3, pp b_3), (4, pp b_4), (6, vi ((x0.ops.length : Nat) : Int)), (8, pp b_41)] (pt b_3 (blk (Tapi_Trace.obj x1 A_x1ops c_x1ops A_x1blocks c_x1blocks) 58) :: pt b_4 (blk ([ci 0, C.slc none (([] : List Tapi_Op).length) 0, C.slc none (([] : List Tapi_Span).length) 0]) 58) :: rowp none 0 85 6 Tapi_Op.cells ([] : List Tapi_Op) :: rowp none 0 95 3 Tapi_Span.cells ([] : List Tapi_Span) :: pt b_41 (blk (Tapi_Trace.obj p_77 A_78 c_79 A_46 c_47) 58) :: rowp A_78 c_79 85 6 Tapi_Op.cells p_77.ops :: rowp A_46 c_47 95 3 Tapi_Span.cells p_77.blocks :: S) → K49 a w := by
     intro p_77 he A_78 c_79 a w hs
     subst r51
     refine hK49 _ _ ?_
     clear hK49
     refine Vk.seq fun K84 hK84 => ?_
     refine qsr fun K85 hK85 => ?_
     refine qpu 1 hs fun a hs => ?_
     refine qld 0 (C.slc A_x1blocks x1.blocks.length c_x1blocks) hs rfl fun a hs => ?_
     refine qpk 2 [4, 6, 8, 71, 72, 73] hs fun a hs => hK85 _ _ ?_
     clear hK85
     refine wp_block ?_
     obtain ⟨r86, hl86, hm⟩ := bind_t hm
     have hx86 : ∀ (p_108 : Tapi_Trace), r86 = p_108 → ∀ (A_109 : Option Addr) (c_110 : Nat) (a : Act) (w : World), St 95 a w κ [(4, pp b_4), (8, pp b_41)] (pt b_4 (blk ([ci 0, C.slc none (([] : List Tapi_Op).length) 0, C.slc none (([] : List Tapi_Span).length) 0]) 58) :: rowp none 0 85 6 Tapi_Op.cells ([] : List Tapi_Op) :: rowp none 0 95 3 Tapi_Span.cells ([] : List Tapi_Span) :: pt b_41 (blk (Tapi_Trace.obj p_108 A_78 c_79 A_109 c_110) 58) :: rowp A_78 c_79 85 6 Tapi_Op.cells p_108.ops :: rowp A_109 c_110 95 3 Tapi_Span.cells p_108.blocks :: S) → K84 a w := by
      intro p_108 he A_109 c_110 a w hs
      subst r86
      refine hK84 _ _ ?_
      clear hK84
      refine qsr fun K115 hK115 => ?_
      refine qln 3 ([ci p_108.n, C.slc A_78 p_108.ops.length c_79, C.slc A_109 p_108.blocks.length c_110]) hs rfl fun a hs => ?_
      refine qsa 0 [ci p_108.n, C.slc A_78 p_108.ops.length c_79, C.slc A_109 p_108.blocks.length c_110] hs rfl fun a w hs => ?_
      refine qpe 1 [(4, pp b_4), (5, vi 0)] hs fun a hs => hK115 _ _ ?_
      clear hK115
      refine wp_ret ?_
      exact Vk.retCT [ci p_108.n, C.slc A_78 p_108.ops.length c_79, C.slc A_109 p_108.blocks.length c_110] (vi 0) hs rfl (by kernel_rfl) (sz := 3) (by kernel_rfl) rfl (CellsAt.all 0 rfl) (by kernel_rfl) (hRR ▸ by cases hm; exact ⟨A_78, c_79, A_109, c_110, rfl, (hs.own.too [4, 5] 6)⟩)
     refine Vk.loopBy (fun k (s : Tapi_Trace × Int) a w => ∃ (A_88 : Option Addr), ∃ (c_89 : Nat), replay_Join.l2 x0 x1 k s.1 s.2 = some r86 ∧ St 95 a w κ [(4, pp b_4), (6, vi ((x0.ops.length : Nat) : Int)), (8, pp b_41), (71, .slice A_x1blocks x1.blocks.length c_x1blocks), (72, vi ((x1.blocks.length : Nat) : Int)), (73, vi s.2)] (pt b_4 (blk ([ci 0, C.slc none (([] : List Tapi_Op).length) 0, C.slc none (([] : List Tapi_Span).length) 0]) 58) :: rowp none 0 85 6 Tapi_Op.cells ([] : List Tapi_Op) :: rowp none 0 95 3 Tapi_Span.cells ([] : List Tapi_Span) :: pt b_41 (blk (Tapi_Trace.obj s.1 A_78 c_79 A_88 c_89) 58) :: rowp A_78 c_79 85 6 Tapi_Op.cells s.1.ops :: rowp A_88 c_89 95 3 Tapi_Span.cells s.1.blocks :: S)) k (p_77, 0) ⟨A_46, c_47, hl86, hs.go [4, 6, 8, 71, 72, 73] [1, 2, 3, 4, 5, 6] 7 (by kernel_rfl) (by kernel_rfl) (by kernel_rfl)⟩ (fun s a w h => by obtain ⟨_, _, h1, _⟩ := h; simp [replay_Join.l2] at h1) (fun k KL86 ih s a w h => ?_)
     obtain ⟨q_87, q_90⟩ := s
     obtain ⟨A_88, c_89, hm, hs⟩ := h
     try dsimp only at hm hs
     rw [replay_Join.l2] at hm
     refine qsk 1 [4, 6, 8, 71, 72, 73, 74] hs fun a hs => ?_
     refine Vk.seq fun K92 hK92 => ?_
     refine qcs (decide (q_90 < ((x1.blocks.length : Nat) : Int))) hs (fun hb => ?_) fun hb => ?_
     ·replace hm := bif_t hm hb
      refine wp_skip ?_
      refine hK92 _ _ ?_
      clear hK92
      refine Vk.seq fun K93 hK93 => ?_
      refine wp_block ?_
      refine qsr fun K94 hK94 => ?_
      obtain ⟨h_95, hm⟩ := ite_t hm
      obtain ⟨e_98, h_96, hm⟩ := bind_t hm
      obtain ⟨b_99, o_100, hA_101, h_97⟩ := Sl.elem hx_x1blocks h_96
      refine qva (.pointer (some ⟨b_99, o_100 + q_90.toNat * 3, none⟩)) (op := (.indexAddr 56 (.tmp 71) (.tmp 73))) hs (fun o ho => run_idxSlc (k := .i64) ho (cap := c_x1blocks) (len := x1.blocks.length) ((congrArg (fun A => Value.slice A (x1.blocks.length) (c_x1blocks)) hA_101) ▸ (by kernel_rfl)) (by kernel_rfl) (by kernel_rfl) (idx_ok h_95 h_96) _) fun a hs => ?_
      refine qva (.agg (vals [ci e_98.kind, ci e_98.fromF, ci e_98.to])) (op := (.load 95 (.tmp 75))) hs (fun o ho => run_loadN (cs := [ci e_98.kind, ci e_98.fromF, ci e_98.to]) ho (by kernel_rfl) (by kernel_rfl) rfl h_97 _ hs.own.drop.drop.drop.drop.drop.drop) fun a hs => ?_
      refine qal 95 [ci 0, ci 0, ci 0] 12 hs fun b_102 w a hs => ?_
      refine qsa 0 [ci e_98.kind, ci e_98.fromF, ci e_98.to] hs rfl fun a w hs => ?_
      refine qpk 0 [4, 6, 8, 12, 71, 72, 73] hs fun a hs => hK94 _ _ ?_
      clear hK94
      refine Vk.region ?_
      refine qpu 1 hs fun a hs => ?_
      refine qld 4 (C.slc A_88 q_87.blocks.length c_89) hs rfl fun a hs => ?_
      refine qpu 1 hs fun a hs => ?_
      refine qld 0 (ci e_98.kind) hs rfl fun a hs => ?_
      refine qpu 1 hs fun a hs => ?_
      refine qld 0 (ci e_98.fromF) hs rfl fun a hs => ?_
      refine qpu 3 hs fun a hs => ?_
      refine qld 0 (ci e_98.to) hs rfl fun a hs => ?_
      refine qpu 3 hs fun a hs => ?_
      refine Vk.step (Vk.buildOp (sz := 3) (by_ := 24) (t := 56) (e := 95) (parts := #[(0, (.tmp 89))]) (zs := vals [ci 0, ci 0, ci 0]) ([(⟨e_98.kind, IntKind.i64.wrap (e_98.fromF + ((x0.ops.length : Nat) : Int)), IntKind.i64.wrap (e_98.to + ((x0.ops.length : Nat) : Int))⟩ : Tapi_Span)] : List Tapi_Span) Tapi_Span.cells (some 90) hs (by kernel_rfl) (by kernel_rfl) (by kernel_rfl) (by kernel_rfl) (by decide) rfl (fun x _ => rfl) (Nat.le_of_ble_eq_true (by kernel_rfl)) (by kernel_rfl) fun A_103 w a hs => ?_)
      obtain ⟨h_105, hm⟩ := ite_t hm
      refine Vk.step (Vk.appendOp (x := (.tmp 78)) (y := (.tmp 90)) (e := 95) (t := 56) (by_ := 24) (sz := 3) (enc := Tapi_Span.cells) (A := A_88) (cap := c_89) (xs := q_87.blocks) (ys := ([(⟨e_98.kind, IntKind.i64.wrap (e_98.fromF + ((x0.ops.length : Nat) : Int)), IntKind.i64.wrap (e_98.to + ((x0.ops.length : Nat) : Int))⟩ : Tapi_Span)] : List Tapi_Span)) (B := A_103) (c2 := 1) 7 (some 91) hs (by kernel_rfl) (by kernel_rfl) (by kernel_rfl) (by kernel_rfl) rfl (Sl.lift (fun w ho => (Ow.to (S' := rowp A_103 1 95 3 Tapi_Span.cells ([(⟨e_98.kind, IntKind.i64.wrap (e_98.fromF + ((x0.ops.length : Nat) : Int)), IntKind.i64.wrap (e_98.to + ((x0.ops.length : Nat) : Int))⟩ : Tapi_Span)] : List Tapi_Span) :: S) ho [0] 8 (by kernel_rfl) (by kernel_rfl))) (Ow.rowSl 0 (Ow.to (S' := rowp A_103 1 95 3 Tapi_Span.cells ([(⟨e_98.kind, IntKind.i64.wrap (e_98.fromF + ((x0.ops.length : Nat) : Int)), IntKind.i64.wrap (e_98.to + ((x0.ops.length : Nat) : Int))⟩ : Tapi_Span)] : List Tapi_Span) :: S) hs.own [0] 8 (by kernel_rfl) (by kernel_rfl)) rfl)) (by kernel_rfl) (by kernel_rfl) (by decide) (by decide) h_105 fun A_106 c_107 w a hs => ?_)
      refine qpu 1 hs fun a hs => ?_
      refine qst 5 2 (C.slc A_106 ((q_87.blocks ++ ([(⟨e_98.kind, IntKind.i64.wrap (e_98.fromF + ((x0.ops.length : Nat) : Int)), IntKind.i64.wrap (e_98.to + ((x0.ops.length : Nat) : Int))⟩ : Tapi_Span)] : List Tapi_Span)).length) c_107) hs rfl fun a w hs => ?_
      refine qpk 0 [4, 6, 8, 71, 72, 73] hs fun a hs => hK93 _ _ ?_
      clear hK93
      refine Vk.region ?_
      refine qpe 2 [(4, pp b_4), (6, vi ((x0.ops.length : Nat) : Int)), (8, pp b_41), (71, .slice A_x1blocks x1.blocks.length c_x1blocks), (72, vi ((x1.blocks.length : Nat) : Int)), (73, vi (IntKind.i64.wrap (q_90 + 1)))] hs fun a hs => ?_
      refine ih ((⟨q_87.n, q_87.ops, q_87.blocks ++ ([(⟨e_98.kind, IntKind.i64.wrap (e_98.fromF + ((x0.ops.length : Nat) : Int)), IntKind.i64.wrap (e_98.to + ((x0.ops.length : Nat) : Int))⟩ : Tapi_Span)] : List Tapi_Span)⟩ : Tapi_Trace), (IntKind.i64.wrap (q_90 + 1))) _ _ ⟨A_106, c_107, hm, hs.go [4, 6, 8, 71, 72, 73] [2, 3, 4, 5, 6, 7] 8 (by kernel_rfl) (by kernel_rfl) (by kernel_rfl)⟩
     ·replace hm := bif_f hm hb
      refine wp_exit ?_
      exact hx86 q_87 (Option.some.inj hm).symm A_88 c_89 _ _ (hs.go [4, 8] [0, 1, 2, 3, 4, 5] 6 (by kernel_rfl) (by kernel_rfl) (by kernel_rfl))
    refine Vk.loopBy (fun k (s : Tapi_Trace × Int) a w => ∃ (A_53 : Option Addr), ∃ (c_54 : Nat), replay_Join.l1 x0 x1 v_27 k s.1 s.2 = some r51 ∧ St 95 a w κ [(3, pp b_3), (4, pp b_4), (6, vi ((x0.ops.length : Nat) : Int)), (7, vi v_27), (8, pp b_41), (54, .slice A_x1ops x1.ops.length c_x1ops), (55, vi ((x1.ops.length : Nat) : Int)), (56, vi s.2)] (pt b_3 (blk (Tapi_Trace.obj x1 A_x1ops c_x1ops A_x1blocks c_x1blocks) 58) :: pt b_4 (blk ([ci 0, C.slc none (([] : List Tapi_Op).length) 0, C.slc none (([] : List Tapi_Span).length) 0]) 58) :: rowp none 0 85 6 Tapi_Op.cells ([] : List Tapi_Op) :: rowp none 0 95 3 Tapi_Span.cells ([] : List Tapi_Span) :: pt b_41 (blk (Tapi_Trace.obj s.1 A_53 c_54 A_46 c_47) 58) :: rowp A_53 c_54 85 6 Tapi_Op.cells s.1.ops :: rowp A_46 c_47 95 3 Tapi_Span.cells s.1.blocks :: S)) k (p_42, 0) ⟨A_43, c_44, hl51, hs.go [3, 4, 6, 7, 8, 54, 55, 56] [0, 1, 2, 3, 4, 5, 6] 7 (by kernel_rfl) (by kernel_rfl) (by kernel_rfl)⟩ (fun s a w h => by obtain ⟨_, _, h1, _⟩ := h; simp [replay_Join.l1] at h1) (fun k KL51 ih s a w h => ?_)
    obtain ⟨q_52, q_55⟩ := s
    obtain ⟨A_53, c_54, hm, hs⟩ := h
    try dsimp only at hm hs
    rw [replay_Join.l1] at hm
    refine qsk 1 [3, 4, 6, 7, 8, 54, 55, 56, 57] hs fun a hs => ?_
    refine Vk.seq fun K57 hK57 => ?_
    refine qcs (decide (q_55 < ((x1.ops.length : Nat) : Int))) hs (fun hb => ?_) fun hb => ?_
    ·replace hm := bif_t hm hb
     refine wp_skip ?_
     refine hK57 _ _ ?_
     clear hK57
     refine Vk.seq fun K58 hK58 => ?_
     refine wp_block ?_
     refine qsr fun K59 hK59 => ?_
     obtain ⟨h_60, hm⟩ := ite_t hm
     obtain ⟨e_63, h_61, hm⟩ := bind_t hm
     obtain ⟨b_64, o_65, hA_66, h_62⟩ := Sl.elem hx_x1ops h_61
     refine qva (.pointer (some ⟨b_64, o_65 + q_55.toNat * 6, none⟩)) (op := (.indexAddr 55 (.tmp 54) (.tmp 56))) hs (fun o ho => run_idxSlc (k := .i64) ho (cap := c_x1ops) (len := x1.ops.length) ((congrArg (fun A => Value.slice A (x1.ops.length) (c_x1ops)) hA_66) ▸ (by kernel_rfl)) (by kernel_rfl) (by kernel_rfl) (idx_ok h_60 h_61) _) fun a hs => ?_
     refine qva (.agg (vals [ci e_63.kind, ci e_63.dom, ci e_63.a, ci e_63.b, ci e_63.d, cw e_63.c])) (op := (.load 85 (.tmp 58))) hs (fun o ho => run_loadN (cs := [ci e_63.kind, ci e_63.dom, ci e_63.a, ci e_63.b, ci e_63.d, cw e_63.c]) ho (by kernel_rfl) (by kernel_rfl) rfl h_62 _ hs.own.drop.drop.drop.drop.drop.drop.drop) fun a hs => ?_
     refine qal 85 [ci 0, ci 0, ci 0, ci 0, ci 0, cw 0] 10 hs fun b_67 w a hs => ?_
     refine qsa 0 [ci e_63.kind, ci e_63.dom, ci e_63.a, ci e_63.b, ci e_63.d, cw e_63.c] hs rfl fun a w hs => ?_
     refine qpk 0 [3, 4, 6, 7, 8, 10, 54, 55, 56] hs fun a hs => hK59 _ _ ?_
     clear hK59
     obtain ⟨C_68, hC_68⟩ := qC hs.own
     refine qdr 7 κ C_68 hs fun w hs hqC_68 => ?_
     have hcl := qO hC_68 hs.own
     refine qdp (fuel := 7) [0, 3, 4] hs hcl hqC_68 fun a hs => ?_
     refine qdl 1 5 (C.slc A_53 q_52.ops.length c_54) hs hcl hqC_68 hC_68 rfl fun a hs => ?_
     refine qdn 2 0 ([ci e_63.kind, ci e_63.dom, ci e_63.a, ci e_63.b, ci e_63.d, cw e_63.c]) hs hcl hqC_68 hC_68 rfl fun a hs => ?_
     obtain ⟨v_71, h_70, hm⟩ := bind_t hm
     refine qdc 5 (replay_later.ok _ _ _ _ _ h_70 _ _ (pt b_67 (blk (Tapi_Op.cells e_63) 85) :: pt b_3 (blk (Tapi_Trace.obj x1 A_x1ops c_x1ops A_x1blocks c_x1blocks) 58) :: pt b_4 (blk ([ci 0, C.slc none (([] : List Tapi_Op).length) 0, C.slc none (([] : List Tapi_Span).length) 0]) 58) :: rowp none 0 85 6 Tapi_Op.cells ([] : List Tapi_Op) :: rowp none 0 95 3 Tapi_Span.cells ([] : List Tapi_Span) :: pt b_41 (blk (Tapi_Trace.obj q_52 A_53 c_54 A_46 c_47) 58) :: rowp A_53 c_54 85 6 Tapi_Op.cells q_52.ops :: rowp A_46 c_47 95 3 Tapi_Span.cells q_52.blocks :: S) hs.own) hs fun w a hs => ?_
     replace hcl := qO hC_68 hs.own
     refine ⟨fun _ => hcl, ?_⟩
     refine Vk.dOnly (i := 6) (by kernel_rfl) (Vk.buildOp (sz := 6) (by_ := 48) (t := 55) (e := 85) (parts := #[(0, (.tmp 65))]) (zs := vals [ci 0, ci 0, ci 0, ci 0, ci 0, cw 0]) ([v_71] : List Tapi_Op) Tapi_Op.cells (some 66) hs (by kernel_rfl) (by kernel_rfl) (by kernel_rfl) (by kernel_rfl) (by decide) rfl (fun x _ => rfl) (Nat.le_of_ble_eq_true (by kernel_rfl)) (by kernel_rfl) fun A_72 w a hs => ?_)
     replace hcl := qO hC_68 hs.own.drop
     refine ⟨fun _ => hcl, ?_⟩
     obtain ⟨h_74, hm⟩ := ite_t hm
     refine Vk.dOnly (i := 7) (by kernel_rfl) (Vk.appendOp (x := (.tmp 61)) (y := (.tmp 66)) (e := 85) (t := 55) (by_ := 48) (sz := 6) (enc := Tapi_Op.cells) (A := A_53) (cap := c_54) (xs := q_52.ops) (ys := ([v_71] : List Tapi_Op)) (B := A_72) (c2 := 1) 7 (some 67) hs (by kernel_rfl) (by kernel_rfl) (by kernel_rfl) (by kernel_rfl) rfl (Sl.lift (fun w ho => (Ow.to (S' := rowp A_72 1 85 6 Tapi_Op.cells ([v_71] : List Tapi_Op) :: S) ho [0] 9 (by kernel_rfl) (by kernel_rfl))) (Ow.rowSl 0 (Ow.to (S' := rowp A_72 1 85 6 Tapi_Op.cells ([v_71] : List Tapi_Op) :: S) hs.own [0] 9 (by kernel_rfl) (by kernel_rfl)) rfl)) (by kernel_rfl) (by kernel_rfl) (by decide) (by decide) h_74 fun A_75 c_76 w a hs => ?_)
     refine ⟨fun h => absurd h (by decide), ?_⟩
     refine Vk.dOnly (i := 8) (by kernel_rfl) (Vk.dPure1 [(68, .pointer (some ⟨b_41, 1, none⟩))] hs (by kernel_rfl) fun a hs => ?_)
     refine ⟨fun h => absurd h (by decide), ?_⟩
     refine qsd 9 6 1 (C.slc A_75 ((q_52.ops ++ ([v_71] : List Tapi_Op)).length) c_76) hs rfl fun a w hs => ?_
     refine ⟨fun h => absurd h (by decide), ?_⟩
     replace hs := hs.pick [3, 4, 6, 7, 8, 54, 55, 56] (L' := [(3, pp b_3), (4, pp b_4), (6, vi ((x0.ops.length : Nat) : Int)), (7, vi v_27), (8, pp b_41), (54, .slice A_x1ops x1.ops.length c_x1ops), (55, vi ((x1.ops.length : Nat) : Int)), (56, vi q_55)]) (by kernel_rfl)
     refine Vk.dDone (by kernel_rfl) ?_
     refine hK58 _ _ ?_
     clear hK58
     refine Vk.region ?_
     refine qpe 2 [(3, pp b_3), (4, pp b_4), (6, vi ((x0.ops.length : Nat) : Int)), (7, vi v_27), (8, pp b_41), (54, .slice A_x1ops x1.ops.length c_x1ops), (55, vi ((x1.ops.length : Nat) : Int)), (56, vi (IntKind.i64.wrap (q_55 + 1)))] hs fun a hs => ?_
     refine ih ((⟨q_52.n, q_52.ops ++ ([v_71] : List Tapi_Op), q_52.blocks⟩ : Tapi_Trace), (IntKind.i64.wrap (q_55 + 1))) _ _ ⟨A_75, c_76, hm, hs.go [3, 4, 6, 7, 8, 54, 55, 56] [2, 3, 4, 5, 6, 7, 8] 9 (by kernel_rfl) (by kernel_rfl) (by kernel_rfl)⟩
    ·replace hm := bif_f hm hb
     refine wp_exit ?_
     exact hx51 q_52 (Option.some.inj hm).symm A_53 c_54 _ _ (hs.go [3, 4, 6, 8] [0, 1, 2, 3, 4, 5, 6] 7 (by kernel_rfl) (by kernel_rfl) (by kernel_rfl))
   obtain ⟨C_29, hC_29⟩ := qC hs.own
   refine qdr 10 κ C_29 hs fun w hs hqC_29 => ?_
   have hcl := qO hC_29 hs.own
   refine qdp (fuel := 8) [0, 2, 5] hs hcl hqC_29 fun a hs => ?_
   refine qdl 1 0 (ci x0.n) hs hcl hqC_29 hC_29 rfl fun a hs => ?_
   refine qdl 3 0 (C.slc A_x0ops x0.ops.length c_x0ops) hs hcl hqC_29 hC_29 rfl fun a hs => ?_
   refine qdl 6 0 (C.slc A_x0blocks x0.blocks.length c_x0blocks) hs hcl hqC_29 hC_29 rfl fun a hs => ?_
   refine Vk.dMany2 (i0 := 4) (i1 := 9) (by kernel_rfl) ?_ ?_
   ·obtain ⟨v_32, h_31, hm⟩ := bind_t hm
    refine Vk.call (some 48) 38 #[.slice A_x0ops x0.ops.length c_x0ops] hs (by kernel_rfl) (by kernel_rfl) (by kernel_rfl) ?_
    refine (slices_Clone_api_Op_api_Op.ok k x0.ops v_32 h_31 κ w (pt b_2 (blk (Tapi_Trace.obj x0 A_x0ops c_x0ops A_x0blocks c_x0blocks) 58) :: pt b_3 (blk (Tapi_Trace.obj x1 A_x1ops c_x1ops A_x1blocks c_x1blocks) 58) :: pt b_4 (blk ([ci 0, C.slc none (([] : List Tapi_Op).length) 0, C.slc none (([] : List Tapi_Span).length) 0]) 58) :: rowp none 0 85 6 Tapi_Op.cells ([] : List Tapi_Op) :: rowp none 0 95 3 Tapi_Span.cells ([] : List Tapi_Span) :: S) A_x0ops c_x0ops hx_x0ops.less.less.less.less.less hs.own).mono ?_
    rintro _ w ⟨Ar30x0_33, cr30x0_34, rfl, how⟩
    refine ⟨_, _, _, rfl, how, fun a hs => ?_⟩
    replace hcl := qO hC_29 hs.own.drop
    refine ⟨fun _ => hcl, ?_⟩
    refine Vk.dMany2 (i0 := 7) (i1 := 9) (by kernel_rfl) ?_ ?_
    ·obtain ⟨v_37, h_36, hm⟩ := bind_t hm
     refine Vk.call (some 51) 39 #[.slice A_x0blocks x0.blocks.length c_x0blocks] hs (by kernel_rfl) (by kernel_rfl) (by kernel_rfl) ?_
     refine (slices_Clone_api_Span_api_Span.ok k x0.blocks v_37 h_36 κ w (rowp Ar30x0_33 cr30x0_34 85 6 Tapi_Op.cells v_32 :: pt b_2 (blk (Tapi_Trace.obj x0 A_x0ops c_x0ops A_x0blocks c_x0blocks) 58) :: pt b_3 (blk (Tapi_Trace.obj x1 A_x1ops c_x1ops A_x1blocks c_x1blocks) 58) :: pt b_4 (blk ([ci 0, C.slc none (([] : List Tapi_Op).length) 0, C.slc none (([] : List Tapi_Span).length) 0]) 58) :: rowp none 0 85 6 Tapi_Op.cells ([] : List Tapi_Op) :: rowp none 0 95 3 Tapi_Span.cells ([] : List Tapi_Span) :: S) A_x0blocks c_x0blocks hx_x0blocks.less.less.less.less.less.less hs.own).mono ?_
     rintro _ w ⟨Ar35x0_38, cr35x0_39, rfl, how⟩
     refine ⟨_, _, _, rfl, how, fun a hs => ?_⟩
     replace hcl := qO hC_29 hs.own.f1.drop.drop
     refine ⟨fun _ => hcl, ?_⟩
     refine qdp (fuel := 2) [8] hs hcl hqC_29 fun a hs => ?_
     refine Vk.dOnly (i := 9) (by kernel_rfl) (Vk.alloc 8 58 [ci 0, C.slc none 0 0, C.slc none 0 0] hs (by kernel_rfl) (by kernel_rfl) (by kernel_rfl) fun b_40 w a hs => ?_)
     replace hcl := qO hC_29 hs.own.f2.drop.f1.drop.drop
     refine ⟨fun _ => hcl, ?_⟩
     refine qsA 10 0 [ci x0.n, C.slc Ar30x0_33 v_32.length cr30x0_34, C.slc Ar35x0_38 v_37.length cr35x0_39] hs rfl rfl rfl fun a w hs => ?_
     refine ⟨fun h => absurd h (by decide), ?_⟩
     replace hs := hs.pick [3, 4, 6, 7, 8] (L' := [(3, pp b_3), (4, pp b_4), (6, vi ((x0.ops.length : Nat) : Int)), (7, vi v_27), (8, pp b_40)]) (by kernel_rfl)
     refine Vk.dDone (by kernel_rfl) ?_
     exact hj28 (⟨x0.n, v_32, v_37⟩ : Tapi_Trace) hm b_40 Ar30x0_33 cr30x0_34 Ar35x0_38 cr35x0_39 _ _ (hs.go [3, 4, 6, 7, 8] [4, 5, 6, 7, 0, 2, 1] 8 (by kernel_rfl) (by kernel_rfl) (by kernel_rfl))
    ·refine Vk.alloc 8 58 [ci 0, C.slc none 0 0, C.slc none 0 0] hs (by kernel_rfl) (by kernel_rfl) (by kernel_rfl) fun b_35 w a hs => ?_
     replace hcl := qO hC_29 hs.own.f1.drop.drop
     refine ⟨fun _ => hcl, ?_⟩
     obtain ⟨v_38, h_37, hm⟩ := bind_t hm
     refine Vk.dOnly (i := 7) (by kernel_rfl) (Vk.call (some 51) 39 #[.slice A_x0blocks x0.blocks.length c_x0blocks] hs (by kernel_rfl) (by kernel_rfl) (by kernel_rfl) ?_)
     refine (slices_Clone_api_Span_api_Span.ok k x0.blocks v_38 h_37 κ w (pt b_35 (blk [ci 0, C.slc none 0 0, C.slc none 0 0] 58) :: rowp Ar30x0_33 cr30x0_34 85 6 Tapi_Op.cells v_32 :: pt b_2 (blk (Tapi_Trace.obj x0 A_x0ops c_x0ops A_x0blocks c_x0blocks) 58) :: pt b_3 (blk (Tapi_Trace.obj x1 A_x1ops c_x1ops A_x1blocks c_x1blocks) 58) :: pt b_4 (blk ([ci 0, C.slc none (([] : List Tapi_Op).length) 0, C.slc none (([] : List Tapi_Span).length) 0]) 58) :: rowp none 0 85 6 Tapi_Op.cells ([] : List Tapi_Op) :: rowp none 0 95 3 Tapi_Span.cells ([] : List Tapi_Span) :: S) A_x0blocks c_x0blocks hx_x0blocks.less.less.less.less.less.less.less hs.own).mono ?_
     rintro _ w ⟨Ar36x0_39, cr36x0_40, rfl, how⟩
     refine ⟨_, _, _, rfl, how, fun a hs => ?_⟩
     replace hcl := qO hC_29 hs.own.f2.drop.f1.drop.drop
     refine ⟨fun _ => hcl, ?_⟩
     refine qdp (fuel := 1) [8] hs hcl hqC_29 fun a hs => ?_
     refine qsA 10 1 [ci x0.n, C.slc Ar30x0_33 v_32.length cr30x0_34, C.slc Ar36x0_39 v_38.length cr36x0_40] hs rfl rfl rfl fun a w hs => ?_
     refine ⟨fun h => absurd h (by decide), ?_⟩
     replace hs := hs.pick [3, 4, 6, 7, 8] (L' := [(3, pp b_3), (4, pp b_4), (6, vi ((x0.ops.length : Nat) : Int)), (7, vi v_27), (8, pp b_35)]) (by kernel_rfl)
     refine Vk.dDone (by kernel_rfl) ?_
     exact hj28 (⟨x0.n, v_32, v_38⟩ : Tapi_Trace) hm b_35 Ar30x0_33 cr30x0_34 Ar36x0_39 cr36x0_40 _ _ (hs.go [3, 4, 6, 7, 8] [4, 5, 6, 7, 1, 2, 0] 8 (by kernel_rfl) (by kernel_rfl) (by kernel_rfl))
   ·refine Vk.alloc 8 58 [ci 0, C.slc none 0 0, C.slc none 0 0] hs (by kernel_rfl) (by kernel_rfl) (by kernel_rfl) fun b_30 w a hs => ?_
    replace hcl := qO hC_29 hs.own.drop
    refine ⟨fun _ => hcl, ?_⟩
    obtain ⟨v_33, h_32, hm⟩ := bind_t hm
    refine Vk.dOnly (i := 4) (by kernel_rfl) (Vk.call (some 48) 38 #[.slice A_x0ops x0.ops.length c_x0ops] hs (by kernel_rfl) (by kernel_rfl) (by kernel_rfl) ?_)
    refine (slices_Clone_api_Op_api_Op.ok k x0.ops v_33 h_32 κ w (pt b_30 (blk [ci 0, C.slc none 0 0, C.slc none 0 0] 58) :: pt b_2 (blk (Tapi_Trace.obj x0 A_x0ops c_x0ops A_x0blocks c_x0blocks) 58) :: pt b_3 (blk (Tapi_Trace.obj x1 A_x1ops c_x1ops A_x1blocks c_x1blocks) 58) :: pt b_4 (blk ([ci 0, C.slc none (([] : List Tapi_Op).length) 0, C.slc none (([] : List Tapi_Span).length) 0]) 58) :: rowp none 0 85 6 Tapi_Op.cells ([] : List Tapi_Op) :: rowp none 0 95 3 Tapi_Span.cells ([] : List Tapi_Span) :: S) A_x0ops c_x0ops hx_x0ops.less.less.less.less.less.less hs.own).mono ?_
    rintro _ w ⟨Ar31x0_34, cr31x0_35, rfl, how⟩
    refine ⟨_, _, _, rfl, how, fun a hs => ?_⟩
    replace hcl := qO hC_29 hs.own.f1.drop.drop
    refine ⟨fun _ => hcl, ?_⟩
    obtain ⟨v_38, h_37, hm⟩ := bind_t hm
    refine Vk.dOnly (i := 7) (by kernel_rfl) (Vk.call (some 51) 39 #[.slice A_x0blocks x0.blocks.length c_x0blocks] hs (by kernel_rfl) (by kernel_rfl) (by kernel_rfl) ?_)
    refine (slices_Clone_api_Span_api_Span.ok k x0.blocks v_38 h_37 κ w (rowp Ar31x0_34 cr31x0_35 85 6 Tapi_Op.cells v_33 :: pt b_30 (blk [ci 0, C.slc none 0 0, C.slc none 0 0] 58) :: pt b_2 (blk (Tapi_Trace.obj x0 A_x0ops c_x0ops A_x0blocks c_x0blocks) 58) :: pt b_3 (blk (Tapi_Trace.obj x1 A_x1ops c_x1ops A_x1blocks c_x1blocks) 58) :: pt b_4 (blk ([ci 0, C.slc none (([] : List Tapi_Op).length) 0, C.slc none (([] : List Tapi_Span).length) 0]) 58) :: rowp none 0 85 6 Tapi_Op.cells ([] : List Tapi_Op) :: rowp none 0 95 3 Tapi_Span.cells ([] : List Tapi_Span) :: S) A_x0blocks c_x0blocks hx_x0blocks.less.less.less.less.less.less.less hs.own).mono ?_
    rintro _ w ⟨Ar36x0_39, cr36x0_40, rfl, how⟩
    refine ⟨_, _, _, rfl, how, fun a hs => ?_⟩
    replace hcl := qO hC_29 hs.own.f2.drop.f1.drop.drop
    refine ⟨fun _ => hcl, ?_⟩
    refine qdp (fuel := 1) [8] hs hcl hqC_29 fun a hs => ?_
    refine qsA 10 2 [ci x0.n, C.slc Ar31x0_34 v_33.length cr31x0_35, C.slc Ar36x0_39 v_38.length cr36x0_40] hs rfl rfl rfl fun a w hs => ?_
    refine ⟨fun h => absurd h (by decide), ?_⟩
    replace hs := hs.pick [3, 4, 6, 7, 8] (L' := [(3, pp b_3), (4, pp b_4), (6, vi ((x0.ops.length : Nat) : Int)), (7, vi v_27), (8, pp b_30)]) (by kernel_rfl)
    refine Vk.dDone (by kernel_rfl) ?_
    exact hj28 (⟨x0.n, v_33, v_38⟩ : Tapi_Trace) hm b_30 Ar31x0_34 cr31x0_35 Ar36x0_39 cr36x0_40 _ _ (hs.go [3, 4, 6, 7, 8] [4, 5, 6, 7, 2, 1, 0] 8 (by kernel_rfl) (by kernel_rfl) (by kernel_rfl))
 refine Vk.region ?_
 refine qln 2 ([ci x0.n, C.slc A_x0ops x0.ops.length c_x0ops, C.slc A_x0blocks x0.blocks.length c_x0blocks]) hs rfl fun a hs => ?_
 obtain ⟨v_9, h_8, hm⟩ := bind_t hm
 refine qcl (trace_Check.ok _ _ _ h_8 _ _ (pt b_4 (blk [ci 0, C.slc none 0 0, C.slc none 0 0] 58) :: pt b_3 (blk (Tapi_Trace.obj x1 A_x1ops c_x1ops A_x1blocks c_x1blocks) 58) :: pt b_2 (blk (Tapi_Trace.obj x0 A_x0ops c_x0ops A_x0blocks c_x0blocks) 58) :: S) A_x0ops c_x0ops hx_x0ops.less.less.less A_x0blocks c_x0blocks hx_x0blocks.less.less.less hs.own) hs fun w a hs => ?_
 refine qpu 2 hs fun a hs => ?_
 rcases Bool.eq_false_or_eq_true (v_9 != 0) with hb | hb
 ·replace hm := bif_t hm hb
  replace hs := hs.known (t := 16) hb (by kernel_rfl)
  refine qpe 21 [(2, pp b_2), (3, pp b_3), (4, pp b_4), (37, .bool true)] hs fun a hs => ?_
  replace hs := hs.addRow none 85 6 Tapi_Op.cells
  replace hs := hs.addRow none 95 3 Tapi_Span.cells
  exact hj6 true hm _ _ (hs.go [2, 3, 4, 37] [4, 3, 2, 1, 0] 5 (by kernel_rfl) (by kernel_rfl) (by kernel_rfl))
 ·replace hm := bif_f hm hb
  replace hs := hs.known (t := 16) hb (by kernel_rfl)
  refine qln 1 ([ci x1.n, C.slc A_x1ops x1.ops.length c_x1ops, C.slc A_x1blocks x1.blocks.length c_x1blocks]) hs rfl fun a hs => ?_
  obtain ⟨v_12, h_11, hm⟩ := bind_t hm
  refine qcl (trace_Check.ok _ _ _ h_11 _ _ (pt b_4 (blk [ci 0, C.slc none 0 0, C.slc none 0 0] 58) :: pt b_3 (blk (Tapi_Trace.obj x1 A_x1ops c_x1ops A_x1blocks c_x1blocks) 58) :: pt b_2 (blk (Tapi_Trace.obj x0 A_x0ops c_x0ops A_x0blocks c_x0blocks) 58) :: S) A_x1ops c_x1ops hx_x1ops.less.less.less A_x1blocks c_x1blocks hx_x1blocks.less.less.less hs.own) hs fun w a hs => ?_
  refine qpu 3 hs fun a hs => ?_
  suffices hj_13 : ∀ a, St 95 a w κ [(2, pp b_2), (3, pp b_3), (4, pp b_4), (13, .agg (vals [ci x0.n, C.slc A_x0ops x0.ops.length c_x0ops, C.slc A_x0blocks x0.blocks.length c_x0blocks])), (14, vi v_9), (15, .bool (v_9 != 0)), (16, .bool false), (17, .agg (vals [ci x1.n, C.slc A_x1ops x1.ops.length c_x1ops, C.slc A_x1blocks x1.blocks.length c_x1blocks])), (18, vi v_12), (19, .bool (v_12 != 0)), (20, .bool (v_12 != 0)), (21, .bool (v_12 != 0)), (27, .bool ((v_12 != 0) || (x0.n != x1.n)))] (pt b_4 (blk [ci 0, C.slc none 0 0, C.slc none 0 0] 58) :: pt b_3 (blk (Tapi_Trace.obj x1 A_x1ops c_x1ops A_x1blocks c_x1blocks) 58) :: pt b_2 (blk (Tapi_Trace.obj x0 A_x0ops c_x0ops A_x0blocks c_x0blocks) 58) :: S) → wpFrom Try.prog _ _ 15 a w by
   rcases Bool.eq_false_or_eq_true (v_12 != 0) with hb | hb
   ·replace hs := hs.known (t := 21) hb (by kernel_rfl)
    refine qpu 6 hs fun a hs => ?_
    have hq := hs.pick [2, 3, 4, 13, 14, 15, 16, 17, 18, 19, 20, 21, 27] (L' := [(2, pp b_2), (3, pp b_3), (4, pp b_4), (13, .agg (vals [ci x0.n, C.slc A_x0ops x0.ops.length c_x0ops, C.slc A_x0blocks x0.blocks.length c_x0blocks])), (14, vi v_9), (15, .bool (v_9 != 0)), (16, .bool false), (17, .agg (vals [ci x1.n, C.slc A_x1ops x1.ops.length c_x1ops, C.slc A_x1blocks x1.blocks.length c_x1blocks])), (18, vi v_12), (19, .bool (v_12 != 0)), (20, .bool (v_12 != 0)), (21, .bool true), (27, .bool true)]) (by kernel_rfl)
    exact hj_13 _ (hq.conv (by first | (rw [hb] <;> rfl) | rfl))
   ·replace hs := hs.known (t := 21) hb (by kernel_rfl)
    refine qpu 1 hs fun a hs => ?_
    refine qld 2 (ci x0.n) hs rfl fun a hs => ?_
    refine qpu 1 hs fun a hs => ?_
    refine qld 1 (ci x1.n) hs rfl fun a hs => ?_
    refine qpu 2 hs fun a hs => ?_
    have hq := hs.pick [2, 3, 4, 13, 14, 15, 16, 17, 18, 19, 20, 21, 27] (L' := [(2, pp b_2), (3, pp b_3), (4, pp b_4), (13, .agg (vals [ci x0.n, C.slc A_x0ops x0.ops.length c_x0ops, C.slc A_x0blocks x0.blocks.length c_x0blocks])), (14, vi v_9), (15, .bool (v_9 != 0)), (16, .bool false), (17, .agg (vals [ci x1.n, C.slc A_x1ops x1.ops.length c_x1ops, C.slc A_x1blocks x1.blocks.length c_x1blocks])), (18, vi v_12), (19, .bool (v_12 != 0)), (20, .bool (v_12 != 0)), (21, .bool false), (27, .bool (x0.n != x1.n))]) (by kernel_rfl)
    exact hj_13 _ (hq.conv (by first | (rw [hb] <;> rfl) | rfl))
  intro a hs
  refine qpu 1 hs fun a hs => ?_
  suffices hj_14 : ∀ a, St 95 a w κ [(2, pp b_2), (3, pp b_3), (4, pp b_4), (13, .agg (vals [ci x0.n, C.slc A_x0ops x0.ops.length c_x0ops, C.slc A_x0blocks x0.blocks.length c_x0blocks])), (14, vi v_9), (15, .bool (v_9 != 0)), (16, .bool false), (17, .agg (vals [ci x1.n, C.slc A_x1ops x1.ops.length c_x1ops, C.slc A_x1blocks x1.blocks.length c_x1blocks])), (18, vi v_12), (19, .bool (v_12 != 0)), (20, .bool (v_12 != 0)), (21, .bool (v_12 != 0)), (27, .bool ((v_12 != 0) || (x0.n != x1.n))), (28, .bool ((v_12 != 0) || (x0.n != x1.n))), (37, .bool (((v_12 != 0) || (x0.n != x1.n)) || (decide ((IntKind.i64.wrap (((x0.ops.length : Nat) : Int) + ((x1.ops.length : Nat) : Int))) > 1048576))))] (pt b_4 (blk [ci 0, C.slc none 0 0, C.slc none 0 0] 58) :: pt b_3 (blk (Tapi_Trace.obj x1 A_x1ops c_x1ops A_x1blocks c_x1blocks) 58) :: pt b_2 (blk (Tapi_Trace.obj x0 A_x0ops c_x0ops A_x0blocks c_x0blocks) 58) :: S) → wpFrom Try.prog _ _ 25 a w by
   rcases Bool.eq_false_or_eq_true ((v_12 != 0) || (x0.n != x1.n)) with hb | hb
   ·replace hs := hs.known (t := 28) hb (by kernel_rfl)
    refine qpu 9 hs fun a hs => ?_
    have hq := hs.pick [2, 3, 4, 13, 14, 15, 16, 17, 18, 19, 20, 21, 27, 28, 37] (L' := [(2, pp b_2), (3, pp b_3), (4, pp b_4), (13, .agg (vals [ci x0.n, C.slc A_x0ops x0.ops.length c_x0ops, C.slc A_x0blocks x0.blocks.length c_x0blocks])), (14, vi v_9), (15, .bool (v_9 != 0)), (16, .bool false), (17, .agg (vals [ci x1.n, C.slc A_x1ops x1.ops.length c_x1ops, C.slc A_x1blocks x1.blocks.length c_x1blocks])), (18, vi v_12), (19, .bool (v_12 != 0)), (20, .bool (v_12 != 0)), (21, .bool (v_12 != 0)), (27, .bool ((v_12 != 0) || (x0.n != x1.n))), (28, .bool true), (37, .bool true)]) (by kernel_rfl)
    exact hj_14 _ (hq.conv (by first | (rw [hb] <;> rfl) | rfl))
   ·replace hs := hs.known (t := 28) hb (by kernel_rfl)
    refine qpu 1 hs fun a hs => ?_
    refine qld 2 (C.slc A_x0ops x0.ops.length c_x0ops) hs rfl fun a hs => ?_
    refine qpu 2 hs fun a hs => ?_
    refine qld 1 (C.slc A_x1ops x1.ops.length c_x1ops) hs rfl fun a hs => ?_
    refine qpu 4 hs fun a hs => ?_
    have hq := hs.pick [2, 3, 4, 13, 14, 15, 16, 17, 18, 19, 20, 21, 27, 28, 37] (L' := [(2, pp b_2), (3, pp b_3), (4, pp b_4), (13, .agg (vals [ci x0.n, C.slc A_x0ops x0.ops.length c_x0ops, C.slc A_x0blocks x0.blocks.length c_x0blocks])), (14, vi v_9), (15, .bool (v_9 != 0)), (16, .bool false), (17, .agg (vals [ci x1.n, C.slc A_x1ops x1.ops.length c_x1ops, C.slc A_x1blocks x1.blocks.length c_x1blocks])), (18, vi v_12), (19, .bool (v_12 != 0)), (20, .bool (v_12 != 0)), (21, .bool (v_12 != 0)), (27, .bool ((v_12 != 0) || (x0.n != x1.n))), (28, .bool false), (37, .bool (decide ((IntKind.i64.wrap (((x0.ops.length : Nat) : Int) + ((x1.ops.length : Nat) : Int))) > 1048576)))]) (by kernel_rfl)
    exact hj_14 _ (hq.conv (by first | (rw [hb] <;> rfl) | rfl))
  intro a hs
  refine qpe 0 [(2, pp b_2), (3, pp b_3), (4, pp b_4), (37, .bool (((v_12 != 0) || (x0.n != x1.n)) || (decide ((IntKind.i64.wrap (((x0.ops.length : Nat) : Int) + ((x1.ops.length : Nat) : Int))) > 1048576))))] hs fun a hs => ?_
  replace hs := hs.addRow none 85 6 Tapi_Op.cells
  replace hs := hs.addRow none 95 3 Tapi_Span.cells
  exact hj6 (((v_12 != 0) || (x0.n != x1.n)) || (decide ((IntKind.i64.wrap (((x0.ops.length : Nat) : Int) + ((x1.ops.length : Nat) : Int))) > 1048576))) hm _ _ (hs.go [2, 3, 4, 37] [4, 3, 2, 1, 0] 5 (by kernel_rfl) (by kernel_rfl) (by kernel_rfl))


def visorref17_Regs.j2 (k : Nat) (x0 : Int) (x1 : Int) (p_19 : Bool) : Option (Int) := (bif p_19 then some 1 else (bif x0 == 12 then some x1 else some 0))
def visorref17_Regs.j1 (k : Nat) (x0 : Int) (x1 : Int) (p_12 : Bool) : Option (Int) := (bif p_12 then some 2 else (bif x0 == 6 then visorref17_Regs.j2 k x0 x1 (x0 == 6) else (bif x0 == 8 then visorref17_Regs.j2 k x0 x1 (x0 == 8) else (bif x0 == 9 then visorref17_Regs.j2 k x0 x1 (x0 == 9) else (bif x0 == 10 then visorref17_Regs.j2 k x0 x1 (x0 == 10) else visorref17_Regs.j2 k x0 x1 (x0 == 11))))))
abbrev visorref17_Regs.R (κ : Ctx) (S : List HP) (x0 : Int) (x1 : Int) (r : Int) : Ending → World → Prop := fun e w' => e = .returned (vi r) ∧ Ow κ w' (S)
def visorref17_Regs.m (k : Nat) (x0 : Int) (x1 : Int) : Option Int := (bif (x1 != 2) && (x1 != 3) then some 0 else (bif x0 == 2 then some (IntKind.i64.wrap (x1 - 1)) else (bif x0 == 5 then visorref17_Regs.j1 k x0 x1 (x0 == 5) else visorref17_Regs.j1 k x0 x1 (x0 == 7))))

set_option maxRecDepth 100000 in
set_option maxHeartbeats 4000000 in
theorem visorref17_Regs.ok (k : Nat) (x0 : Int) (x1 : Int) (r : Int) (hm : visorref17_Regs.m k x0 x1 = some r) (κ : Ctx) (w : World) (S : List HP) (ho : Ow κ w (S)) :
  Calls Try.prog 48 #[vi x0, vi x1] w (visorref17_Regs.R κ S x0 x1 r) := by
 unfold visorref17_Regs.m at hm
 generalize hRR : visorref17_Regs.R κ S x0 x1 r = RR
 refine qen [(0, vi x0), (1, vi x1)] Try.func48 Try.ntmps48 ho fun a hs => ?_
 refine qse 1 [(0, vi x0), (1, vi x1)] hs fun a hs => ?_
 refine Vk.seq fun K2 hK2 => ?_
 refine qsr fun K3 hK3 => ?_
 refine qpu 3 hs fun a hs => ?_
 refine qsc 7 3 hs fun a hs => ?_
 refine qpk 0 [0, 1, 10] hs fun a hs => hK3 _ _ ?_
 clear hK3
 refine qcs ((x1 != 2) && (x1 != 3)) hs (fun hb => ?_) fun hb => ?_
 ·replace hm := bif_t hm hb
  refine qse 1 [(4, vi 0)] hs fun a hs => ?_
  refine wp_ret ?_
  exact qr1 (vi 0) hs rfl hRR (by cases hm; exact ⟨rfl, hs.own⟩)
 ·replace hm := bif_f hm hb
  refine wp_skip ?_
  refine hK2 _ _ ?_
  clear hK2
  refine Vk.seq fun K6 hK6 => ?_
  refine qse 1 [(1, vi x1), (11, vi x0)] hs fun a hs => ?_
  refine wp_block ?_
  refine qsk 2 [1, 11, 12] hs fun a hs => ?_
  refine qcs (x0 == 2) hs (fun hb => ?_) fun hb => ?_
  ·replace hm := bif_t hm hb
   refine qsk 3 [4] hs fun a hs => ?_
   refine wp_ret ?_
   exact qr1 (vi (IntKind.i64.wrap (x1 - 1))) hs rfl hRR (by cases hm; exact ⟨rfl, hs.own⟩)
  ·replace hm := bif_f hm hb
   refine Vk.seq fun K10 hK10 => ?_
   have hj10 : ∀ (p_12 : Bool), visorref17_Regs.j1 k x0 x1 p_12 = some r → ∀ (a : Act) (w : World), St 28 a w κ [(1, vi x1), (11, vi x0), (16, .bool p_12)] (S) → K10 a w := by
    intro p_12 hm a w hs
    unfold visorref17_Regs.j1 at hm
    refine hK10 _ _ ?_
    refine qcs (p_12) hs (fun hb => ?_) fun hb => ?_
    ·replace hm := bif_t hm hb
     refine qse 1 [(4, vi 2)] hs fun a hs => ?_
     refine wp_ret ?_
     exact qr1 (vi 2) hs rfl hRR (by cases hm; exact ⟨rfl, hs.own⟩)
    ·replace hm := bif_f hm hb
     refine Vk.seq fun K14 hK14 => ?_
     have hj14 : ∀ (p_19 : Bool), visorref17_Regs.j2 k x0 x1 p_19 = some r → ∀ (a : Act) (w : World), St 28 a w κ [(1, vi x1), (11, vi x0), (19, .bool p_19)] (S) → K14 a w := by
      intro p_19 hm a w hs
      unfold visorref17_Regs.j2 at hm
      refine hK14 _ _ ?_
      refine qcs (p_19) hs (fun hb => ?_) fun hb => ?_
      ·replace hm := bif_t hm hb
       refine qse 1 [(4, vi 1)] hs fun a hs => ?_
       refine wp_ret ?_
       exact qr1 (vi 1) hs rfl hRR (by cases hm; exact ⟨rfl, hs.own⟩)
      ·replace hm := bif_f hm hb
       refine qsk 2 [1, 25] hs fun a hs => ?_
       refine qcs (x0 == 12) hs (fun hb => ?_) fun hb => ?_
       ·replace hm := bif_t hm hb
        refine qse 2 [(4, vi x1)] hs fun a hs => ?_
        refine wp_ret ?_
        exact qr1 (vi x1) hs rfl hRR (by cases hm; exact ⟨rfl, hs.own⟩)
       ·replace hm := bif_f hm hb
        refine wp_skip ?_
        refine hK6 _ _ ?_
        clear hK6
        refine qse 1 [(4, vi 0)] hs fun a hs => ?_
        refine wp_ret ?_
        exact qr1 (vi 0) hs rfl hRR (by cases hm; exact ⟨rfl, hs.own⟩)
     refine qse 2 [(1, vi x1), (11, vi x0), (19, .bool (x0 == 6))] hs fun a hs => ?_
     refine qcs (x0 == 6) hs (fun hb => ?_) fun hb => ?_
     ·replace hm := bif_t hm hb
      refine wp_skip ?_
      exact hj14 (x0 == 6) hm _ _ (hs.go [1, 11, 19] [] 0 (by kernel_rfl) (by kernel_rfl) (by kernel_rfl))
     ·replace hm := bif_f hm hb
      refine qse 2 [(1, vi x1), (11, vi x0), (19, .bool (x0 == 8))] hs fun a hs => ?_
      refine qcs (x0 == 8) hs (fun hb => ?_) fun hb => ?_
      ·replace hm := bif_t hm hb
       refine wp_skip ?_
       exact hj14 (x0 == 8) hm _ _ (hs.go [1, 11, 19] [] 0 (by kernel_rfl) (by kernel_rfl) (by kernel_rfl))
      ·replace hm := bif_f hm hb
       refine qse 2 [(1, vi x1), (11, vi x0), (19, .bool (x0 == 9))] hs fun a hs => ?_
       refine qcs (x0 == 9) hs (fun hb => ?_) fun hb => ?_
       ·replace hm := bif_t hm hb
        refine wp_skip ?_
        exact hj14 (x0 == 9) hm _ _ (hs.go [1, 11, 19] [] 0 (by kernel_rfl) (by kernel_rfl) (by kernel_rfl))
       ·replace hm := bif_f hm hb
        refine qse 2 [(1, vi x1), (11, vi x0), (19, .bool (x0 == 10))] hs fun a hs => ?_
        refine qcs (x0 == 10) hs (fun hb => ?_) fun hb => ?_
        ·replace hm := bif_t hm hb
         refine wp_skip ?_
         exact hj14 (x0 == 10) hm _ _ (hs.go [1, 11, 19] [] 0 (by kernel_rfl) (by kernel_rfl) (by kernel_rfl))
        ·replace hm := bif_f hm hb
         refine Vk.region ?_
         refine qpe 2 [(1, vi x1), (11, vi x0), (19, .bool (x0 == 11))] hs fun a hs => ?_
         exact hj14 (x0 == 11) hm _ _ (hs.go [1, 11, 19] [] 0 (by kernel_rfl) (by kernel_rfl) (by kernel_rfl))
   refine qse 2 [(1, vi x1), (11, vi x0), (16, .bool (x0 == 5))] hs fun a hs => ?_
   refine qcs (x0 == 5) hs (fun hb => ?_) fun hb => ?_
   ·replace hm := bif_t hm hb
    refine wp_skip ?_
    exact hj10 (x0 == 5) hm _ _ (hs.go [1, 11, 16] [] 0 (by kernel_rfl) (by kernel_rfl) (by kernel_rfl))
   ·replace hm := bif_f hm hb
    refine Vk.region ?_
    refine qpe 2 [(1, vi x1), (11, vi x0), (16, .bool (x0 == 7))] hs fun a hs => ?_
    exact hj10 (x0 == 7) hm _ _ (hs.go [1, 11, 16] [] 0 (by kernel_rfl) (by kernel_rfl) (by kernel_rfl))


def visorref17_Right.j3 (k : Nat) (x0 : Tapi_Op) (p_67 : Bool) : Option (Bool) := (bif p_67 then some true else some (x0.c == 0))
def visorref17_Right.j2 (k : Nat) (x0 : Tapi_Op) (p_60 : Bool) : Option (Bool) := (bif p_60 then some (decide (x0.c < 64)) else (bif x0.kind == 2 then some (decide (x0.c < 1048576)) else (bif x0.kind == 3 then visorref17_Right.j3 k x0 (x0.kind == 3) else (bif x0.kind == 4 then visorref17_Right.j3 k x0 (x0.kind == 4) else visorref17_Right.j3 k x0 (x0.kind == 8)))))
def visorref17_Right.l1 (x0 : Tapi_Op) (x1 : Int) (x2 : Int) : Nat → Int → Option (Sum (Bool) (Unit))
 | 0, _ => none
 | k + 1, q_17 => (bif decide (q_17 < 3) then (visorref17_Regs.m k x0.kind x2).bind fun v_24 => (bif decide (q_17 < v_24) then (if 0 ≤ q_17 ∧ q_17 < 3 then (getI .i64 [ci x0.a, ci x0.b, ci x0.d] (0 + q_17.toNat * 1)).bind fun v_28 => (bif decide (v_28 < 0) then some (.inl false) else (if 0 ≤ q_17 ∧ q_17 < 3 then (getI .i64 [ci x0.a, ci x0.b, ci x0.d] (0 + q_17.toNat * 1)).bind fun v_32 => (bif decide (v_32 ≥ x1) then some (.inl false) else (visorref17_Regs.m k x0.kind x2).bind fun v_35 => (bif decide (q_17 ≥ v_35) then (if 0 ≤ q_17 ∧ q_17 < 3 then (getI .i64 [ci x0.a, ci x0.b, ci x0.d] (0 + q_17.toNat * 1)).bind fun v_39 => (bif v_39 != (-1) then some (.inl false) else visorref17_Right.l1 x0 x1 x2 k (IntKind.i64.wrap (q_17 + 1))) else none) else visorref17_Right.l1 x0 x1 x2 k (IntKind.i64.wrap (q_17 + 1)))) else none)) else none) else (visorref17_Regs.m k x0.kind x2).bind fun v_42 => (bif decide (q_17 ≥ v_42) then (if 0 ≤ q_17 ∧ q_17 < 3 then (getI .i64 [ci x0.a, ci x0.b, ci x0.d] (0 + q_17.toNat * 1)).bind fun v_46 => (bif v_46 != (-1) then some (.inl false) else visorref17_Right.l1 x0 x1 x2 k (IntKind.i64.wrap (q_17 + 1))) else none) else visorref17_Right.l1 x0 x1 x2 k (IntKind.i64.wrap (q_17 + 1)))) else some (.inr ()))
def visorref17_Right.j1 (k : Nat) (x0 : Tapi_Op) (x1 : Int) (x2 : Int) (p_10 : Bool) : Option (Bool) := (bif p_10 then some false else (visorref17_Right.l1 x0 x1 x2 k 0).bind fun x => match x with | .inl v => some v | .inr () => (bif x0.kind == 9 then visorref17_Right.j2 k x0 (x0.kind == 9) else (bif x0.kind == 10 then visorref17_Right.j2 k x0 (x0.kind == 10) else visorref17_Right.j2 k x0 (x0.kind == 11))))
abbrev visorref17_Right.R (κ : Ctx) (S : List HP) (x0 : Tapi_Op) (x1 : Int) (x2 : Int) (r : Bool) : Ending → World → Prop := fun e w' => e = .returned (.bool r) ∧ Ow κ w' (S)
def visorref17_Right.m (k : Nat) (x0 : Tapi_Op) (x1 : Int) (x2 : Int) : Option Bool := (bif (((((x2 != 2) && (x2 != 3)) || (decide (x0.kind < 1))) || (decide (x0.kind > 12))) || (decide (x0.dom < (-1)))) || (decide (x0.dom ≥ x2)) then visorref17_Right.j1 k x0 x1 x2 true else (bif x0.kind == 12 then visorref17_Right.j1 k x0 x1 x2 (x0.dom != (-1)) else visorref17_Right.j1 k x0 x1 x2 false))

set_option maxRecDepth 100000 in
set_option maxHeartbeats 4000000 in
theorem visorref17_Right.ok (k : Nat) (x0 : Tapi_Op) (x1 : Int) (x2 : Int) (r : Bool) (hm : visorref17_Right.m k x0 x1 x2 = some r) (κ : Ctx) (w : World) (S : List HP) (ho : Ow κ w (S)) :
  Calls Try.prog 41 #[.agg (vals [ci x0.kind, ci x0.dom, ci x0.a, ci x0.b, ci x0.d, cw x0.c]), vi x1, vi x2] w (visorref17_Right.R κ S x0 x1 x2 r) := by
 unfold visorref17_Right.m at hm
 generalize hRR : visorref17_Right.R κ S x0 x1 x2 r = RR
 refine qen [(0, .agg (vals [ci x0.kind, ci x0.dom, ci x0.a, ci x0.b, ci x0.d, cw x0.c])), (1, vi x1), (2, vi x2)] Try.func41 Try.ntmps41 ho fun a hs => ?_
 refine qsr fun K1 hK1 => ?_
 refine qbx 0 85 [ci x0.kind, ci x0.dom, ci x0.a, ci x0.b, ci x0.d, cw x0.c] 3 hs fun b_2 w a hs => ?_
 refine qpk 1 [1, 2, 3] hs fun a hs => hK1 _ _ ?_
 clear hK1
 refine Vk.seq fun K3 hK3 => ?_
 refine Vk.seq fun K4 hK4 => ?_
 have hj4 : ∀ (p_10 : Bool), visorref17_Right.j1 k x0 x1 x2 p_10 = some r → ∀ (a : Act) (w : World), St 111 a w κ [(1, vi x1), (2, vi x2), (3, pp b_2), (45, .bool p_10)] (pt b_2 (blk (Tapi_Op.cells x0) 85) :: S) → K4 a w := by
  intro p_10 hm a w hs
  unfold visorref17_Right.j1 at hm
  refine hK4 _ _ ?_
  refine qcs (p_10) hs (fun hb => ?_) fun hb => ?_
  ·replace hm := bif_t hm hb
   refine qse 1 [(6, .bool false)] hs fun a hs => ?_
   refine wp_ret ?_
   exact qr1 (.bool false) hs rfl hRR (by cases hm; exact ⟨rfl, hs.own.drop⟩)
  ·replace hm := bif_f hm hb
   refine wp_skip ?_
   refine hK3 _ _ ?_
   clear hK3
   refine qsr fun K12 hK12 => ?_
   refine qpu 1 hs fun a hs => ?_
   refine qld 0 (ci x0.a) hs rfl fun a hs => ?_
   refine qpu 1 hs fun a hs => ?_
   refine qld 0 (ci x0.b) hs rfl fun a hs => ?_
   refine qpu 1 hs fun a hs => ?_
   refine qld 0 (ci x0.d) hs rfl fun a hs => ?_
   refine qpu 1 hs fun a hs => ?_
   refine qal 49 [ci 0, ci 0, ci 0] 7 hs fun b_13 w a hs => ?_
   refine qsa 0 [ci x0.a, ci x0.b, ci x0.d] hs rfl fun a w hs => ?_
   refine qpk 0 [1, 2, 3, 7] hs fun a hs => hK12 _ _ ?_
   clear hK12
   refine Vk.seq fun K14 hK14 => ?_
   refine qsk 1 [1, 2, 3, 7, 8] hs fun a hs => ?_
   refine wp_block ?_
   obtain ⟨r16, hl16, hm⟩ := bind_t hm
   have hx16 : r16 = Sum.inr () → ∀ (a : Act) (w : World), St 111 a w κ [(3, pp b_2)] (pt b_2 (blk (Tapi_Op.cells x0) 85) :: S) → K14 a w := by
    intro he a w hs
    subst r16
    refine hK14 _ _ ?_
    clear hK14
    refine Vk.seq fun K55 hK55 => ?_
    refine qsr fun K56 hK56 => ?_
    refine qpu 1 hs fun a hs => ?_
    refine qld 0 (ci x0.kind) hs rfl fun a hs => ?_
    refine qpk 0 [3, 91] hs fun a hs => hK56 _ _ ?_
    clear hK56
    refine wp_block ?_
    refine Vk.seq fun K57 hK57 => ?_
    have hj57 : ∀ (p_60 : Bool), visorref17_Right.j2 k x0 p_60 = some r → ∀ (a : Act) (w : World), St 111 a w κ [(3, pp b_2), (91, vi x0.kind), (92, .bool p_60)] (pt b_2 (blk (Tapi_Op.cells x0) 85) :: S) → K57 a w := by
     intro p_60 hm a w hs
     unfold visorref17_Right.j2 at hm
     refine hK57 _ _ ?_
     refine qcs (p_60) hs (fun hb => ?_) fun hb => ?_
     ·replace hm := bif_t hm hb
      refine qsr fun K61 hK61 => ?_
      refine qpu 1 hs fun a hs => ?_
      refine qld 0 (cw x0.c) hs rfl fun a hs => ?_
      refine qpk 2 [6] hs fun a hs => hK61 _ _ ?_
      clear hK61
      refine wp_ret ?_
      exact qr1 (.bool (decide (x0.c < 64))) hs rfl hRR (by cases hm; exact ⟨rfl, hs.own.drop⟩)
     ·replace hm := bif_f hm hb
      refine qsk 2 [3, 91, 99] hs fun a hs => ?_
      refine qcs (x0.kind == 2) hs (fun hb => ?_) fun hb => ?_
      ·replace hm := bif_t hm hb
       refine qsr fun K63 hK63 => ?_
       refine qpu 1 hs fun a hs => ?_
       refine qld 0 (cw x0.c) hs rfl fun a hs => ?_
       refine qpe 2 [(6, .bool (decide (x0.c < 1048576)))] hs fun a hs => hK63 _ _ ?_
       clear hK63
       refine wp_ret ?_
       exact qr1 (.bool (decide (x0.c < 1048576))) hs rfl hRR (by cases hm; exact ⟨rfl, hs.own.drop⟩)
      ·replace hm := bif_f hm hb
       refine Vk.seq fun K64 hK64 => ?_
       have hj64 : ∀ (p_67 : Bool), visorref17_Right.j3 k x0 p_67 = some r → ∀ (a : Act) (w : World), St 111 a w κ [(3, pp b_2), (104, .bool p_67)] (pt b_2 (blk (Tapi_Op.cells x0) 85) :: S) → K64 a w := by
        intro p_67 hm a w hs
        unfold visorref17_Right.j3 at hm
        refine hK64 _ _ ?_
        refine qcs (p_67) hs (fun hb => ?_) fun hb => ?_
        ·replace hm := bif_t hm hb
         refine qse 1 [(6, .bool true)] hs fun a hs => ?_
         refine wp_ret ?_
         exact qr1 (.bool true) hs rfl hRR (by cases hm; exact ⟨rfl, hs.own.drop⟩)
        ·replace hm := bif_f hm hb
         refine wp_skip ?_
         refine hK55 _ _ ?_
         clear hK55
         refine qsr fun K69 hK69 => ?_
         refine qpu 1 hs fun a hs => ?_
         refine qld 0 (cw x0.c) hs rfl fun a hs => ?_
         refine qpe 2 [(6, .bool (x0.c == 0))] hs fun a hs => hK69 _ _ ?_
         clear hK69
         refine wp_ret ?_
         exact qr1 (.bool (x0.c == 0)) hs rfl hRR (by cases hm; exact ⟨rfl, hs.own.drop⟩)
       refine qse 2 [(3, pp b_2), (91, vi x0.kind), (104, .bool (x0.kind == 3))] hs fun a hs => ?_
       refine qcs (x0.kind == 3) hs (fun hb => ?_) fun hb => ?_
       ·replace hm := bif_t hm hb
        refine wp_skip ?_
        exact hj64 (x0.kind == 3) hm _ _ (hs.go [3, 104] [0] 1 (by kernel_rfl) (by kernel_rfl) (by kernel_rfl))
       ·replace hm := bif_f hm hb
        refine qse 2 [(3, pp b_2), (91, vi x0.kind), (104, .bool (x0.kind == 4))] hs fun a hs => ?_
        refine qcs (x0.kind == 4) hs (fun hb => ?_) fun hb => ?_
        ·replace hm := bif_t hm hb
         refine wp_skip ?_
         exact hj64 (x0.kind == 4) hm _ _ (hs.go [3, 104] [0] 1 (by kernel_rfl) (by kernel_rfl) (by kernel_rfl))
        ·replace hm := bif_f hm hb
         refine Vk.region ?_
         refine qpe 2 [(3, pp b_2), (104, .bool (x0.kind == 8))] hs fun a hs => ?_
         exact hj64 (x0.kind == 8) hm _ _ (hs.go [3, 104] [0] 1 (by kernel_rfl) (by kernel_rfl) (by kernel_rfl))
    refine qse 2 [(3, pp b_2), (91, vi x0.kind), (92, .bool (x0.kind == 9))] hs fun a hs => ?_
    refine qcs (x0.kind == 9) hs (fun hb => ?_) fun hb => ?_
    ·replace hm := bif_t hm hb
     refine wp_skip ?_
     exact hj57 (x0.kind == 9) hm _ _ (hs.go [3, 91, 92] [0] 1 (by kernel_rfl) (by kernel_rfl) (by kernel_rfl))
    ·replace hm := bif_f hm hb
     refine qse 2 [(3, pp b_2), (91, vi x0.kind), (92, .bool (x0.kind == 10))] hs fun a hs => ?_
     refine qcs (x0.kind == 10) hs (fun hb => ?_) fun hb => ?_
     ·replace hm := bif_t hm hb
      refine wp_skip ?_
      exact hj57 (x0.kind == 10) hm _ _ (hs.go [3, 91, 92] [0] 1 (by kernel_rfl) (by kernel_rfl) (by kernel_rfl))
     ·replace hm := bif_f hm hb
      refine Vk.region ?_
      refine qpe 2 [(3, pp b_2), (91, vi x0.kind), (92, .bool (x0.kind == 11))] hs fun a hs => ?_
      exact hj57 (x0.kind == 11) hm _ _ (hs.go [3, 91, 92] [0] 1 (by kernel_rfl) (by kernel_rfl) (by kernel_rfl))
   have hret16 : ∀ v, r16 = Sum.inl v → v = r := by intro v he; subst r16; exact Option.some.inj hm
   refine Vk.loopBy (fun k (s : Int) a w => visorref17_Right.l1 x0 x1 x2 k s = some r16 ∧ St 111 a w κ [(1, vi x1), (2, vi x2), (3, pp b_2), (7, pp b_13), (8, vi s)] (pt b_2 (blk (Tapi_Op.cells x0) 85) :: pt b_13 (blk [ci x0.a, ci x0.b, ci x0.d] 49) :: S)) k 0 ⟨hl16, hs.go [1, 2, 3, 7, 8] [1, 0] 2 (by kernel_rfl) (by kernel_rfl) (by kernel_rfl)⟩ (fun s a w h => by obtain ⟨h1, _⟩ := h; simp [visorref17_Right.l1] at h1) (fun k KL16 ih q_17 a w h => ?_)
   obtain ⟨hm, hs⟩ := h
   try dsimp only at hm hs
   rw [visorref17_Right.l1] at hm
   refine Vk.seq fun K18 hK18 => ?_
   refine qsk 2 [1, 2, 3, 7, 8, 54] hs fun a hs => ?_
   refine qcs (decide (q_17 < 3)) hs (fun hb => ?_) fun hb => ?_
   ·replace hm := bif_t hm hb
    refine wp_skip ?_
    refine hK18 _ _ ?_
    clear hK18
    refine Vk.seq fun K20 hK20 => ?_
    refine wp_block ?_
    refine qsr fun K21 hK21 => ?_
    refine qpu 2 hs fun a hs => ?_
    refine qld 0 (ci x0.kind) hs rfl fun a hs => ?_
    refine qpu 1 hs fun a hs => ?_
    obtain ⟨v_24, h_23, hm⟩ := bind_t hm
    refine qcl (visorref17_Regs.ok _ _ _ _ h_23 _ _ (pt b_2 (blk (Tapi_Op.cells x0) 85) :: pt b_13 (blk [ci x0.a, ci x0.b, ci x0.d] 49) :: S) hs.own) hs fun w a hs => ?_
    refine qpu 2 hs fun a hs => ?_
    rcases Bool.eq_false_or_eq_true (decide (q_17 < v_24)) with hb | hb
    ·replace hm := bif_t hm hb
     replace hs := hs.known (t := 63) hb (by kernel_rfl)
     refine qpu 1 hs fun a hs => ?_
     obtain ⟨h_26, hm⟩ := ite_t hm
     refine qix b_13 0 1 hs h_26 fun a hs => ?_
     obtain ⟨v_28, h_27, hm⟩ := bind_t hm
     refine qli 1 hs rfl h_27 fun a hs => ?_
     refine qpu 2 hs fun a hs => ?_
     rcases Bool.eq_false_or_eq_true (decide (v_28 < 0)) with hb | hb
     ·replace hm := bif_t hm hb
      replace hs := hs.known (t := 68) hb (by kernel_rfl)
      refine qpk 21 [1, 2, 3, 7, 8, 64, 65, 66, 67, 68, 74, 89] hs fun a hs => hK21 _ _ ?_
      refine qct hs ?_
      refine qse 1 [(6, .bool false)] hs fun a hs => ?_
      refine wp_ret ?_
      exact Vk.ret1 (P := Try.prog) (fn := Try.f41) (R := RR) (.bool false) hs rfl (by kernel_rfl) (by obtain rfl := hret16 _ ((Option.some.inj hm).symm); subst hRR; exact ⟨rfl, hs.own.f1.drop.drop⟩)
     ·replace hm := bif_f hm hb
      replace hs := hs.known (t := 68) hb (by kernel_rfl)
      refine qpu 1 hs fun a hs => ?_
      obtain ⟨h_30, hm⟩ := ite_t hm
      refine qix b_13 0 1 hs h_30 fun a hs => ?_
      obtain ⟨v_32, h_31, hm⟩ := bind_t hm
      refine qli 1 hs rfl h_31 fun a hs => ?_
      refine qpu 5 hs fun a hs => ?_
      rcases Bool.eq_false_or_eq_true (decide (v_32 ≥ x1)) with hb | hb
      ·replace hm := bif_t hm hb
       replace hs := hs.known (t := 76) hb (by kernel_rfl)
       refine qpk 13 [1, 2, 3, 7, 8, 64, 65, 66, 67, 68, 69, 70, 71, 72, 73, 74, 89] hs fun a hs => hK21 _ _ ?_
       refine qct hs ?_
       refine qse 1 [(6, .bool false)] hs fun a hs => ?_
       refine wp_ret ?_
       exact Vk.ret1 (P := Try.prog) (fn := Try.f41) (R := RR) (.bool false) hs rfl (by kernel_rfl) (by obtain rfl := hret16 _ ((Option.some.inj hm).symm); subst hRR; exact ⟨rfl, hs.own.f1.drop.drop⟩)
      ·replace hm := bif_f hm hb
       replace hs := hs.known (t := 76) hb (by kernel_rfl)
       refine qpu 2 hs fun a hs => ?_
       refine qld 0 (ci x0.kind) hs rfl fun a hs => ?_
       refine qpu 1 hs fun a hs => ?_
       obtain ⟨v_35, h_34, hm⟩ := bind_t hm
       refine qcl (visorref17_Regs.ok _ _ _ _ h_34 _ _ (pt b_2 (blk (Tapi_Op.cells x0) 85) :: pt b_13 (blk [ci x0.a, ci x0.b, ci x0.d] 49) :: S) hs.own) hs fun w a hs => ?_
       refine qpu 2 hs fun a hs => ?_
       rcases Bool.eq_false_or_eq_true (decide (q_17 ≥ v_35)) with hb | hb
       ·replace hm := bif_t hm hb
        replace hs := hs.known (t := 83) hb (by kernel_rfl)
        refine qpu 1 hs fun a hs => ?_
        obtain ⟨h_37, hm⟩ := ite_t hm
        refine qix b_13 0 1 hs h_37 fun a hs => ?_
        obtain ⟨v_39, h_38, hm⟩ := bind_t hm
        refine qli 1 hs rfl h_38 fun a hs => ?_
        refine qpk 3 [1, 2, 3, 7, 8, 64, 65, 66, 67, 68, 69, 70, 71, 72, 73, 74, 77, 78, 79, 80, 81, 82, 83, 84, 85, 86, 87, 88, 89] hs fun a hs => hK21 _ _ ?_
        refine qcs (v_39 != (-1)) hs (fun hb => ?_) fun hb => ?_
        ·replace hm := bif_t hm hb
         refine qse 1 [(6, .bool false)] hs fun a hs => ?_
         refine wp_ret ?_
         exact Vk.ret1 (P := Try.prog) (fn := Try.f41) (R := RR) (.bool false) hs rfl (by kernel_rfl) (by obtain rfl := hret16 _ ((Option.some.inj hm).symm); subst hRR; exact ⟨rfl, hs.own.f1.drop.drop⟩)
        ·replace hm := bif_f hm hb
         refine wp_skip ?_
         refine hK20 _ _ ?_
         refine Vk.region ?_
         refine qpk 3 [1, 2, 3, 7, 8, 64, 65, 66, 67, 68, 69, 70, 71, 72, 73, 74, 77, 78, 79, 80, 81, 82, 83, 84, 85, 86, 87, 88] hs fun a hs => ?_
         refine ih (IntKind.i64.wrap (q_17 + 1)) _ _ ⟨hm, hs.go [1, 2, 3, 7, 8] [0, 1] 2 (by kernel_rfl) (by kernel_rfl) (by kernel_rfl)⟩
       ·replace hm := bif_f hm hb
        replace hs := hs.known (t := 83) hb (by kernel_rfl)
        refine qpk 6 [1, 2, 3, 7, 8, 64, 65, 66, 67, 68, 69, 70, 71, 72, 73, 74, 77, 78, 79, 80, 81, 82, 83, 88, 89] hs fun a hs => hK21 _ _ ?_
        refine qcf hs ?_
        refine wp_skip ?_
        refine hK20 _ _ ?_
        refine Vk.region ?_
        refine qpk 3 [1, 2, 3, 7, 8, 64, 65, 66, 67, 68, 69, 70, 71, 72, 73, 74, 77, 78, 79, 80, 81, 82, 83, 88] hs fun a hs => ?_
        refine ih (IntKind.i64.wrap (q_17 + 1)) _ _ ⟨hm, hs.go [1, 2, 3, 7, 8] [0, 1] 2 (by kernel_rfl) (by kernel_rfl) (by kernel_rfl)⟩
    ·replace hm := bif_f hm hb
     replace hs := hs.known (t := 63) hb (by kernel_rfl)
     refine qpu 15 hs fun a hs => ?_
     refine qld 0 (ci x0.kind) hs rfl fun a hs => ?_
     refine qpu 1 hs fun a hs => ?_
     obtain ⟨v_42, h_41, hm⟩ := bind_t hm
     refine qcl (visorref17_Regs.ok _ _ _ _ h_41 _ _ (pt b_2 (blk (Tapi_Op.cells x0) 85) :: pt b_13 (blk [ci x0.a, ci x0.b, ci x0.d] 49) :: S) hs.own) hs fun w a hs => ?_
     refine qpu 2 hs fun a hs => ?_
     rcases Bool.eq_false_or_eq_true (decide (q_17 ≥ v_42)) with hb | hb
     ·replace hm := bif_t hm hb
      replace hs := hs.known (t := 83) hb (by kernel_rfl)
      refine qpu 1 hs fun a hs => ?_
      obtain ⟨h_44, hm⟩ := ite_t hm
      refine qix b_13 0 1 hs h_44 fun a hs => ?_
      obtain ⟨v_46, h_45, hm⟩ := bind_t hm
      refine qli 1 hs rfl h_45 fun a hs => ?_
      refine qpk 3 [1, 2, 3, 7, 8, 77, 78, 79, 80, 81, 82, 83, 84, 85, 86, 87, 88, 89] hs fun a hs => hK21 _ _ ?_
      refine qcs (v_46 != (-1)) hs (fun hb => ?_) fun hb => ?_
      ·replace hm := bif_t hm hb
       refine qse 1 [(6, .bool false)] hs fun a hs => ?_
       refine wp_ret ?_
       exact Vk.ret1 (P := Try.prog) (fn := Try.f41) (R := RR) (.bool false) hs rfl (by kernel_rfl) (by obtain rfl := hret16 _ ((Option.some.inj hm).symm); subst hRR; exact ⟨rfl, hs.own.f1.drop.drop⟩)
      ·replace hm := bif_f hm hb
       refine wp_skip ?_
       refine hK20 _ _ ?_
       refine Vk.region ?_
       refine qpk 3 [1, 2, 3, 7, 8, 77, 78, 79, 80, 81, 82, 83, 84, 85, 86, 87, 88] hs fun a hs => ?_
       refine ih (IntKind.i64.wrap (q_17 + 1)) _ _ ⟨hm, hs.go [1, 2, 3, 7, 8] [0, 1] 2 (by kernel_rfl) (by kernel_rfl) (by kernel_rfl)⟩
     ·replace hm := bif_f hm hb
      replace hs := hs.known (t := 83) hb (by kernel_rfl)
      refine qpk 6 [1, 2, 3, 7, 8, 77, 78, 79, 80, 81, 82, 83, 88, 89] hs fun a hs => hK21 _ _ ?_
      refine qcf hs ?_
      refine wp_skip ?_
      refine hK20 _ _ ?_
      refine Vk.region ?_
      refine qpe 3 [(1, vi x1), (2, vi x2), (3, pp b_2), (7, pp b_13), (8, vi (IntKind.i64.wrap (q_17 + 1))), (77, vi q_17), (78, pp b_2), (79, vi x0.kind), (80, vi x2), (81, vi v_42), (82, .bool (decide (q_17 ≥ v_42))), (83, .bool false), (88, .bool false)] hs fun a hs => ?_
      refine ih (IntKind.i64.wrap (q_17 + 1)) _ _ ⟨hm, hs.go [1, 2, 3, 7, 8] [0, 1] 2 (by kernel_rfl) (by kernel_rfl) (by kernel_rfl)⟩
   ·replace hm := bif_f hm hb
    refine wp_exit ?_
    exact hx16 (Option.some.inj hm).symm _ _ (hs.go [3] [0] 2 (by kernel_rfl) (by kernel_rfl) (by kernel_rfl))
 refine Vk.region ?_
 refine qpu 3 hs fun a hs => ?_
 refine qsc 11 3 hs fun a hs => ?_
 refine qpu 1 hs fun a hs => ?_
 suffices hj_6 : ∀ a, St 111 a w κ [(1, vi x1), (2, vi x2), (3, pp b_2), (9, vi x2), (10, .bool (x2 != 2)), (11, .bool (x2 != 2)), (14, .bool ((x2 != 2) && (x2 != 3))), (15, .bool ((x2 != 2) && (x2 != 3))), (19, .bool (((x2 != 2) && (x2 != 3)) || (decide (x0.kind < 1))))] (pt b_2 (blk (Tapi_Op.cells x0) 85) :: S) → wpFrom Try.prog _ _ 11 a w by
  rcases Bool.eq_false_or_eq_true ((x2 != 2) && (x2 != 3)) with hb | hb
  ·replace hs := hs.known (t := 15) hb (by kernel_rfl)
   refine qpu 4 hs fun a hs => ?_
   have hq := hs.pick [1, 2, 3, 9, 10, 11, 14, 15, 19] (L' := [(1, vi x1), (2, vi x2), (3, pp b_2), (9, vi x2), (10, .bool (x2 != 2)), (11, .bool (x2 != 2)), (14, .bool ((x2 != 2) && (x2 != 3))), (15, .bool true), (19, .bool true)]) (by kernel_rfl)
   exact hj_6 _ (hq.conv (by first | (rw [hb] <;> rfl) | rfl))
  ·replace hs := hs.known (t := 15) hb (by kernel_rfl)
   refine qpu 1 hs fun a hs => ?_
   refine qld 0 (ci x0.kind) hs rfl fun a hs => ?_
   refine qpu 2 hs fun a hs => ?_
   have hq := hs.pick [1, 2, 3, 9, 10, 11, 14, 15, 19] (L' := [(1, vi x1), (2, vi x2), (3, pp b_2), (9, vi x2), (10, .bool (x2 != 2)), (11, .bool (x2 != 2)), (14, .bool ((x2 != 2) && (x2 != 3))), (15, .bool false), (19, .bool (decide (x0.kind < 1)))]) (by kernel_rfl)
   exact hj_6 _ (hq.conv (by first | (rw [hb] <;> rfl) | rfl))
 intro a hs
 refine qpu 1 hs fun a hs => ?_
 suffices hj_7 : ∀ a, St 111 a w κ [(1, vi x1), (2, vi x2), (3, pp b_2), (9, vi x2), (10, .bool (x2 != 2)), (11, .bool (x2 != 2)), (14, .bool ((x2 != 2) && (x2 != 3))), (15, .bool ((x2 != 2) && (x2 != 3))), (19, .bool (((x2 != 2) && (x2 != 3)) || (decide (x0.kind < 1)))), (20, .bool (((x2 != 2) && (x2 != 3)) || (decide (x0.kind < 1)))), (24, .bool ((((x2 != 2) && (x2 != 3)) || (decide (x0.kind < 1))) || (decide (x0.kind > 12))))] (pt b_2 (blk (Tapi_Op.cells x0) 85) :: S) → wpFrom Try.prog _ _ 16 a w by
  rcases Bool.eq_false_or_eq_true (((x2 != 2) && (x2 != 3)) || (decide (x0.kind < 1))) with hb | hb
  ·replace hs := hs.known (t := 20) hb (by kernel_rfl)
   refine qpu 4 hs fun a hs => ?_
   have hq := hs.pick [1, 2, 3, 9, 10, 11, 14, 15, 19, 20, 24] (L' := [(1, vi x1), (2, vi x2), (3, pp b_2), (9, vi x2), (10, .bool (x2 != 2)), (11, .bool (x2 != 2)), (14, .bool ((x2 != 2) && (x2 != 3))), (15, .bool ((x2 != 2) && (x2 != 3))), (19, .bool (((x2 != 2) && (x2 != 3)) || (decide (x0.kind < 1)))), (20, .bool true), (24, .bool true)]) (by kernel_rfl)
   exact hj_7 _ (hq.conv (by first | (rw [hb] <;> rfl) | rfl))
  ·replace hs := hs.known (t := 20) hb (by kernel_rfl)
   refine qpu 1 hs fun a hs => ?_
   refine qld 0 (ci x0.kind) hs rfl fun a hs => ?_
   refine qpu 2 hs fun a hs => ?_
   have hq := hs.pick [1, 2, 3, 9, 10, 11, 14, 15, 19, 20, 24] (L' := [(1, vi x1), (2, vi x2), (3, pp b_2), (9, vi x2), (10, .bool (x2 != 2)), (11, .bool (x2 != 2)), (14, .bool ((x2 != 2) && (x2 != 3))), (15, .bool ((x2 != 2) && (x2 != 3))), (19, .bool (((x2 != 2) && (x2 != 3)) || (decide (x0.kind < 1)))), (20, .bool false), (24, .bool (decide (x0.kind > 12)))]) (by kernel_rfl)
   exact hj_7 _ (hq.conv (by first | (rw [hb] <;> rfl) | rfl))
 intro a hs
 refine qpu 1 hs fun a hs => ?_
 suffices hj_8 : ∀ a, St 111 a w κ [(1, vi x1), (2, vi x2), (3, pp b_2), (9, vi x2), (10, .bool (x2 != 2)), (11, .bool (x2 != 2)), (14, .bool ((x2 != 2) && (x2 != 3))), (15, .bool ((x2 != 2) && (x2 != 3))), (19, .bool (((x2 != 2) && (x2 != 3)) || (decide (x0.kind < 1)))), (20, .bool (((x2 != 2) && (x2 != 3)) || (decide (x0.kind < 1)))), (24, .bool ((((x2 != 2) && (x2 != 3)) || (decide (x0.kind < 1))) || (decide (x0.kind > 12)))), (25, .bool ((((x2 != 2) && (x2 != 3)) || (decide (x0.kind < 1))) || (decide (x0.kind > 12)))), (29, .bool (((((x2 != 2) && (x2 != 3)) || (decide (x0.kind < 1))) || (decide (x0.kind > 12))) || (decide (x0.dom < (-1)))))] (pt b_2 (blk (Tapi_Op.cells x0) 85) :: S) → wpFrom Try.prog _ _ 21 a w by
  rcases Bool.eq_false_or_eq_true ((((x2 != 2) && (x2 != 3)) || (decide (x0.kind < 1))) || (decide (x0.kind > 12))) with hb | hb
  ·replace hs := hs.known (t := 25) hb (by kernel_rfl)
   refine qpu 4 hs fun a hs => ?_
   have hq := hs.pick [1, 2, 3, 9, 10, 11, 14, 15, 19, 20, 24, 25, 29] (L' := [(1, vi x1), (2, vi x2), (3, pp b_2), (9, vi x2), (10, .bool (x2 != 2)), (11, .bool (x2 != 2)), (14, .bool ((x2 != 2) && (x2 != 3))), (15, .bool ((x2 != 2) && (x2 != 3))), (19, .bool (((x2 != 2) && (x2 != 3)) || (decide (x0.kind < 1)))), (20, .bool (((x2 != 2) && (x2 != 3)) || (decide (x0.kind < 1)))), (24, .bool ((((x2 != 2) && (x2 != 3)) || (decide (x0.kind < 1))) || (decide (x0.kind > 12)))), (25, .bool true), (29, .bool true)]) (by kernel_rfl)
   exact hj_8 _ (hq.conv (by first | (rw [hb] <;> rfl) | rfl))
  ·replace hs := hs.known (t := 25) hb (by kernel_rfl)
   refine qpu 1 hs fun a hs => ?_
   refine qld 0 (ci x0.dom) hs rfl fun a hs => ?_
   refine qpu 2 hs fun a hs => ?_
   have hq := hs.pick [1, 2, 3, 9, 10, 11, 14, 15, 19, 20, 24, 25, 29] (L' := [(1, vi x1), (2, vi x2), (3, pp b_2), (9, vi x2), (10, .bool (x2 != 2)), (11, .bool (x2 != 2)), (14, .bool ((x2 != 2) && (x2 != 3))), (15, .bool ((x2 != 2) && (x2 != 3))), (19, .bool (((x2 != 2) && (x2 != 3)) || (decide (x0.kind < 1)))), (20, .bool (((x2 != 2) && (x2 != 3)) || (decide (x0.kind < 1)))), (24, .bool ((((x2 != 2) && (x2 != 3)) || (decide (x0.kind < 1))) || (decide (x0.kind > 12)))), (25, .bool false), (29, .bool (decide (x0.dom < (-1))))]) (by kernel_rfl)
   exact hj_8 _ (hq.conv (by first | (rw [hb] <;> rfl) | rfl))
 intro a hs
 refine qpu 1 hs fun a hs => ?_
 suffices hj_9 : ∀ a, St 111 a w κ [(1, vi x1), (2, vi x2), (3, pp b_2), (9, vi x2), (10, .bool (x2 != 2)), (11, .bool (x2 != 2)), (14, .bool ((x2 != 2) && (x2 != 3))), (15, .bool ((x2 != 2) && (x2 != 3))), (19, .bool (((x2 != 2) && (x2 != 3)) || (decide (x0.kind < 1)))), (20, .bool (((x2 != 2) && (x2 != 3)) || (decide (x0.kind < 1)))), (24, .bool ((((x2 != 2) && (x2 != 3)) || (decide (x0.kind < 1))) || (decide (x0.kind > 12)))), (25, .bool ((((x2 != 2) && (x2 != 3)) || (decide (x0.kind < 1))) || (decide (x0.kind > 12)))), (29, .bool (((((x2 != 2) && (x2 != 3)) || (decide (x0.kind < 1))) || (decide (x0.kind > 12))) || (decide (x0.dom < (-1))))), (30, .bool (((((x2 != 2) && (x2 != 3)) || (decide (x0.kind < 1))) || (decide (x0.kind > 12))) || (decide (x0.dom < (-1))))), (35, .bool ((((((x2 != 2) && (x2 != 3)) || (decide (x0.kind < 1))) || (decide (x0.kind > 12))) || (decide (x0.dom < (-1)))) || (decide (x0.dom ≥ x2))))] (pt b_2 (blk (Tapi_Op.cells x0) 85) :: S) → wpFrom Try.prog _ _ 27 a w by
  rcases Bool.eq_false_or_eq_true (((((x2 != 2) && (x2 != 3)) || (decide (x0.kind < 1))) || (decide (x0.kind > 12))) || (decide (x0.dom < (-1)))) with hb | hb
  ·replace hs := hs.known (t := 30) hb (by kernel_rfl)
   refine qpu 5 hs fun a hs => ?_
   have hq := hs.pick [1, 2, 3, 9, 10, 11, 14, 15, 19, 20, 24, 25, 29, 30, 35] (L' := [(1, vi x1), (2, vi x2), (3, pp b_2), (9, vi x2), (10, .bool (x2 != 2)), (11, .bool (x2 != 2)), (14, .bool ((x2 != 2) && (x2 != 3))), (15, .bool ((x2 != 2) && (x2 != 3))), (19, .bool (((x2 != 2) && (x2 != 3)) || (decide (x0.kind < 1)))), (20, .bool (((x2 != 2) && (x2 != 3)) || (decide (x0.kind < 1)))), (24, .bool ((((x2 != 2) && (x2 != 3)) || (decide (x0.kind < 1))) || (decide (x0.kind > 12)))), (25, .bool ((((x2 != 2) && (x2 != 3)) || (decide (x0.kind < 1))) || (decide (x0.kind > 12)))), (29, .bool (((((x2 != 2) && (x2 != 3)) || (decide (x0.kind < 1))) || (decide (x0.kind > 12))) || (decide (x0.dom < (-1))))), (30, .bool true), (35, .bool true)]) (by kernel_rfl)
   exact hj_9 _ (hq.conv (by first | (rw [hb] <;> rfl) | rfl))
  ·replace hs := hs.known (t := 30) hb (by kernel_rfl)
   refine qpu 1 hs fun a hs => ?_
   refine qld 0 (ci x0.dom) hs rfl fun a hs => ?_
   refine qpu 3 hs fun a hs => ?_
   have hq := hs.pick [1, 2, 3, 9, 10, 11, 14, 15, 19, 20, 24, 25, 29, 30, 35] (L' := [(1, vi x1), (2, vi x2), (3, pp b_2), (9, vi x2), (10, .bool (x2 != 2)), (11, .bool (x2 != 2)), (14, .bool ((x2 != 2) && (x2 != 3))), (15, .bool ((x2 != 2) && (x2 != 3))), (19, .bool (((x2 != 2) && (x2 != 3)) || (decide (x0.kind < 1)))), (20, .bool (((x2 != 2) && (x2 != 3)) || (decide (x0.kind < 1)))), (24, .bool ((((x2 != 2) && (x2 != 3)) || (decide (x0.kind < 1))) || (decide (x0.kind > 12)))), (25, .bool ((((x2 != 2) && (x2 != 3)) || (decide (x0.kind < 1))) || (decide (x0.kind > 12)))), (29, .bool (((((x2 != 2) && (x2 != 3)) || (decide (x0.kind < 1))) || (decide (x0.kind > 12))) || (decide (x0.dom < (-1))))), (30, .bool false), (35, .bool (decide (x0.dom ≥ x2)))]) (by kernel_rfl)
   exact hj_9 _ (hq.conv (by first | (rw [hb] <;> rfl) | rfl))
 intro a hs
 refine qpu 1 hs fun a hs => ?_
 rcases Bool.eq_false_or_eq_true ((((((x2 != 2) && (x2 != 3)) || (decide (x0.kind < 1))) || (decide (x0.kind > 12))) || (decide (x0.dom < (-1)))) || (decide (x0.dom ≥ x2))) with hb | hb
 ·replace hm := bif_t hm hb
  replace hs := hs.known (t := 36) hb (by kernel_rfl)
  refine qpe 9 [(1, vi x1), (2, vi x2), (3, pp b_2), (45, .bool true)] hs fun a hs => ?_
  exact hj4 true hm _ _ (hs.go [1, 2, 3, 45] [0] 1 (by kernel_rfl) (by kernel_rfl) (by kernel_rfl))
 ·replace hm := bif_f hm hb
  replace hs := hs.known (t := 36) hb (by kernel_rfl)
  refine qpu 1 hs fun a hs => ?_
  refine qld 0 (ci x0.kind) hs rfl fun a hs => ?_
  refine qpu 2 hs fun a hs => ?_
  rcases Bool.eq_false_or_eq_true (x0.kind == 12) with hb | hb
  ·replace hm := bif_t hm hb
   replace hs := hs.known (t := 40) hb (by kernel_rfl)
   refine qpu 1 hs fun a hs => ?_
   refine qld 0 (ci x0.dom) hs rfl fun a hs => ?_
   refine qpe 3 [(1, vi x1), (2, vi x2), (3, pp b_2), (45, .bool (x0.dom != (-1)))] hs fun a hs => ?_
   exact hj4 (x0.dom != (-1)) hm _ _ (hs.go [1, 2, 3, 45] [0] 1 (by kernel_rfl) (by kernel_rfl) (by kernel_rfl))
  ·replace hm := bif_f hm hb
   replace hs := hs.known (t := 40) hb (by kernel_rfl)
   refine qpe 5 [(1, vi x1), (2, vi x2), (3, pp b_2), (45, .bool false)] hs fun a hs => ?_
   exact hj4 false hm _ _ (hs.go [1, 2, 3, 45] [0] 1 (by kernel_rfl) (by kernel_rfl) (by kernel_rfl))

end Go.Proofs.Ytebgjmhkmmlpeaa
