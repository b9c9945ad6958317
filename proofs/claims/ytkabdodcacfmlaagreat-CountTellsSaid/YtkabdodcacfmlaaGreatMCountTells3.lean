/- Of each Go function that CountTells comes to: a model in plain Lean, and that the program's call does what the model says; no condition. -/
import Derived.Test.YtkabdodcacfmlaaGreatProg
import Derived.Test.YtkabdodcacfmlaaGreatVoopcamee
import Derived.Test.YtkabdodcacfmlaaGreatMCountTells2
namespace Go.Proofs.YtkabdodcacfmlaaGreat
open Go Go.Vk
set_option linter.unusedVariables false


def trace_Tally.j1 (k : Nat) (rec8 : Cells → Int → Option (Cells)) (q_10 : Int) (p_35 : Cells) : Option (Cells) := rec8 p_35 (IntKind.i64.wrap (q_10 + 1))
def trace_Tally.l1 (x0 : Tapi_Trace) : Nat → Cells → Int → Option (Cells)
 | 0, _, _ => none
 | k + 1, q_9, q_10 => (bif decide (q_10 < ((x0.ops.length : Nat) : Int)) then (if 0 ≤ q_10 then (x0.ops[q_10.toNat]?).bind fun e_18 => (bif (decide (e_18.kind < 1)) || (decide (e_18.kind > 12)) then (getI .i64 q_9 (0)).bind fun v_28 => (if 0 < q_9.length then trace_Tally.j1 k (trace_Tally.l1 x0 k) q_10 (q_9.set (0) (ci (IntKind.i64.wrap (v_28 + 1)))) else none) else (if 0 ≤ e_18.kind ∧ e_18.kind < 13 then (getI .i64 q_9 (0 + e_18.kind.toNat * 1)).bind fun v_32 => (if 0 ≤ e_18.kind ∧ e_18.kind < 13 then (if 0 + e_18.kind.toNat * 1 < q_9.length then trace_Tally.j1 k (trace_Tally.l1 x0 k) q_10 (q_9.set (0 + e_18.kind.toNat * 1) (ci (IntKind.i64.wrap (v_32 + 1)))) else none) else none) else none)) else none) else some q_9)
abbrev trace_Tally.R (κ : Ctx) (S : List HP) (x0 : Tapi_Trace) (A_x0ops : Option Addr) (c_x0ops : Nat) (A_x0blocks : Option Addr) (c_x0blocks : Nat) (r : Cells) : Ending → World → Prop := fun e w' => e = .returned (.agg (vals r)) ∧ Ow κ w' (S)
def trace_Tally.m (k : Nat) (x0 : Tapi_Trace) : Option Cells := (trace_Tally.l1 x0 k [ci 0, ci 0, ci 0, ci 0, ci 0, ci 0, ci 0, ci 0, ci 0, ci 0, ci 0, ci 0, ci 0] 0).bind fun p_36 => (if p_36.length = 13 then some p_36 else none)

set_option maxRecDepth 100000 in
set_option maxHeartbeats 4000000 in
theorem trace_Tally.ok (k : Nat) (x0 : Tapi_Trace) (r : Cells) (hm : trace_Tally.m k x0 = some r) (κ : Ctx) (w : World) (S : List HP) (A_x0ops : Option Addr) (c_x0ops : Nat) (hx_x0ops : Sl κ S A_x0ops c_x0ops 6 Tapi_Op.cells x0.ops) (A_x0blocks : Option Addr) (c_x0blocks : Nat) (hx_x0blocks : Sl κ S A_x0blocks c_x0blocks 3 Tapi_Span.cells x0.blocks) (ho : Ow κ w (S)) :
  Calls Tryz.prog 67 #[.agg (vals [ci x0.n, C.slc A_x0ops x0.ops.length c_x0ops, C.slc A_x0blocks x0.blocks.length c_x0blocks])] w (trace_Tally.R κ S x0 A_x0ops c_x0ops A_x0blocks c_x0blocks r) := by
 unfold trace_Tally.m at hm
 generalize hRR : trace_Tally.R κ S x0 A_x0ops c_x0ops A_x0blocks c_x0blocks r = RR
 refine qen [(0, .agg (vals [ci x0.n, C.slc A_x0ops x0.ops.length c_x0ops, C.slc A_x0blocks x0.blocks.length c_x0blocks]))] Tryz.func67 Tryz.ntmps67 ho fun a hs => ?_
 refine qsr fun K1 hK1 => ?_
 refine qbx 0 25 [ci x0.n, C.slc A_x0ops x0.ops.length c_x0ops, C.slc A_x0blocks x0.blocks.length c_x0blocks] 1 hs fun b_2 w a hs => ?_
 refine qal 57 [ci 0, ci 0, ci 0, ci 0, ci 0, ci 0, ci 0, ci 0, ci 0, ci 0, ci 0, ci 0, ci 0] 2 hs fun b_3 w a hs => ?_
 refine qpe 0 [(1, pp b_2), (2, pp b_3)] hs fun a hs => hK1 _ _ ?_
 clear hK1
 refine qsr fun K4 hK4 => ?_
 refine qal 57 [ci 0, ci 0, ci 0, ci 0, ci 0, ci 0, ci 0, ci 0, ci 0, ci 0, ci 0, ci 0, ci 0] 3 hs fun b_5 w a hs => ?_
 refine qpk 0 [1, 2, 3] hs fun a hs => hK4 _ _ ?_
 clear hK4
 refine Vk.seq fun K6 hK6 => ?_
 refine qsr fun K7 hK7 => ?_
 refine qpu 1 hs fun a hs => ?_
 refine qld 2 (C.slc A_x0ops x0.ops.length c_x0ops) hs rfl fun a hs => ?_
 refine qpk 2 [2, 3, 7, 8, 9] hs fun a hs => hK7 _ _ ?_
 clear hK7
 refine wp_block ?_
 obtain ⟨r8, hl8, hm⟩ := bind_t hm
 have hx8 : ∀ (p_36 : Cells), r8 = p_36 → ∀ (a : Act) (w : World), St 33 a w κ [(2, pp b_3), (3, pp b_5)] (pt b_3 (blk [ci 0, ci 0, ci 0, ci 0, ci 0, ci 0, ci 0, ci 0, ci 0, ci 0, ci 0, ci 0, ci 0] 57) :: pt b_5 (blk p_36 57) :: S) → K6 a w := by
  intro p_36 he a w hs
  subst r8
  refine hK6 _ _ ?_
  clear hK6
  refine qsr fun K39 hK39 => ?_
  obtain ⟨h_40, hm⟩ := ite_t hm
  refine qlw 1 hs rfl h_40 fun a hs => ?_
  refine qsb 0 p_36 hs rfl h_40 rfl fun a w hs => ?_
  refine qpe 0 [(2, pp b_3)] hs fun a hs => hK39 _ _ ?_
  clear hK39
  refine wp_ret ?_
  exact Vk.retC p_36 hs rfl (by kernel_rfl) (sz := 13) (by kernel_rfl) h_40 (CellsAt.all 0 rfl) (hRR ▸ by cases hm; exact ⟨rfl, hs.own.f1.drop.drop⟩)
 refine Vk.loopBy (fun k (s : Cells × Int) a w => trace_Tally.l1 x0 k s.1 s.2 = some r8 ∧ St 33 a w κ [(2, pp b_3), (3, pp b_5), (7, .slice A_x0ops x0.ops.length c_x0ops), (8, vi ((x0.ops.length : Nat) : Int)), (9, vi s.2)] (pt b_3 (blk [ci 0, ci 0, ci 0, ci 0, ci 0, ci 0, ci 0, ci 0, ci 0, ci 0, ci 0, ci 0, ci 0] 57) :: pt b_5 (blk s.1 57) :: S)) k ([ci 0, ci 0, ci 0, ci 0, ci 0, ci 0, ci 0, ci 0, ci 0, ci 0, ci 0, ci 0, ci 0], 0) ⟨hl8, hs.go [2, 3, 7, 8, 9] [1, 0] 3 (by kernel_rfl) (by kernel_rfl) (by kernel_rfl)⟩ (fun s a w h => by obtain ⟨h1, _⟩ := h; simp [trace_Tally.l1] at h1) (fun k KL8 ih s a w h => ?_)
 obtain ⟨q_9, q_10⟩ := s
 obtain ⟨hm, hs⟩ := h
 try dsimp only at hm hs
 rw [trace_Tally.l1] at hm
 refine qsk 1 [2, 3, 7, 8, 9, 10] hs fun a hs => ?_
 refine Vk.seq fun K12 hK12 => ?_
 refine qcs (decide (q_10 < ((x0.ops.length : Nat) : Int))) hs (fun hb => ?_) fun hb => ?_
 ·replace hm := bif_t hm hb
  refine wp_skip ?_
  refine hK12 _ _ ?_
  clear hK12
  refine Vk.seq fun K13 hK13 => ?_
  have hj13 : ∀ (p_35 : Cells), trace_Tally.j1 k (trace_Tally.l1 x0 k) q_10 p_35 = some r8 → ∀ (a : Act) (w : World), St 33 a w κ [(2, pp b_3), (3, pp b_5), (7, .slice A_x0ops x0.ops.length c_x0ops), (8, vi ((x0.ops.length : Nat) : Int)), (9, vi q_10)] (pt b_3 (blk [ci 0, ci 0, ci 0, ci 0, ci 0, ci 0, ci 0, ci 0, ci 0, ci 0, ci 0, ci 0, ci 0] 57) :: pt b_5 (blk p_35 57) :: S) → K13 a w := by
   intro p_35 hm a w hs
   unfold trace_Tally.j1 at hm
   refine hK13 _ _ ?_
   refine Vk.region ?_
   refine qpk 2 [2, 3, 7, 8, 9] hs fun a hs => ?_
   refine ih (p_35, (IntKind.i64.wrap (q_10 + 1))) _ _ ⟨hm, hs.go [2, 3, 7, 8, 9] [0, 1] 2 (by kernel_rfl) (by kernel_rfl) (by kernel_rfl)⟩
  refine wp_block ?_
  refine qsr fun K14 hK14 => ?_
  obtain ⟨h_15, hm⟩ := ite_t hm
  obtain ⟨e_18, h_16, hm⟩ := bind_t hm
  obtain ⟨b_19, o_20, hA_21, h_17⟩ := Sl.elem hx_x0ops h_16
  refine qva (.pointer (some ⟨b_19, o_20 + q_10.toNat * 6, none⟩)) (op := (.indexAddr 22 (.tmp 7) (.tmp 9))) hs (fun o ho => run_idxSlc (k := .i64) ho (cap := c_x0ops) (len := x0.ops.length) ((congrArg (fun A => Value.slice A (x0.ops.length) (c_x0ops)) hA_21) ▸ (by kernel_rfl)) (by kernel_rfl) (by kernel_rfl) (idx_ok h_15 h_16) _) fun a hs => ?_
  refine qva (.agg (vals [ci e_18.kind, ci e_18.dom, ci e_18.a, ci e_18.b, ci e_18.d, cw e_18.c])) (op := (.load 80 (.tmp 11))) hs (fun o ho => run_loadN (cs := [ci e_18.kind, ci e_18.dom, ci e_18.a, ci e_18.b, ci e_18.d, cw e_18.c]) ho (by kernel_rfl) (by kernel_rfl) rfl h_17 _ hs.own.drop.drop) fun a hs => ?_
  refine qal 80 [ci 0, ci 0, ci 0, ci 0, ci 0, cw 0] 5 hs fun b_22 w a hs => ?_
  refine qsa 0 [ci e_18.kind, ci e_18.dom, ci e_18.a, ci e_18.b, ci e_18.d, cw e_18.c] hs rfl fun a w hs => ?_
  refine qpe 0 [(2, pp b_3), (3, pp b_5), (5, pp b_22), (7, .slice A_x0ops x0.ops.length c_x0ops), (8, vi ((x0.ops.length : Nat) : Int)), (9, vi q_10)] hs fun a hs => hK14 _ _ ?_
  clear hK14
  refine Vk.seq fun K23 hK23 => ?_
  refine qsr fun K24 hK24 => ?_
  refine qpu 1 hs fun a hs => ?_
  refine qld 0 (ci e_18.kind) hs rfl fun a hs => ?_
  refine qpu 2 hs fun a hs => ?_
  suffices hj_25 : ∀ a, St 33 a w κ [(2, pp b_3), (3, pp b_5), (5, pp b_22), (7, .slice A_x0ops x0.ops.length c_x0ops), (8, vi ((x0.ops.length : Nat) : Int)), (9, vi q_10), (13, pp b_22), (14, vi e_18.kind), (15, .bool (decide (e_18.kind < 1))), (16, .bool (decide (e_18.kind < 1))), (20, .bool ((decide (e_18.kind < 1)) || (decide (e_18.kind > 12))))] (pt b_22 (blk (Tapi_Op.cells e_18) 80) :: pt b_3 (blk [ci 0, ci 0, ci 0, ci 0, ci 0, ci 0, ci 0, ci 0, ci 0, ci 0, ci 0, ci 0, ci 0] 57) :: pt b_5 (blk q_9 57) :: S) → wpFrom Tryz.prog _ _ 8 a w by
   rcases Bool.eq_false_or_eq_true (decide (e_18.kind < 1)) with hb | hb
   ·replace hs := hs.known (t := 16) hb (by kernel_rfl)
    refine qpu 4 hs fun a hs => ?_
    have hq := hs.pick [2, 3, 5, 7, 8, 9, 13, 14, 15, 16, 20] (L' := [(2, pp b_3), (3, pp b_5), (5, pp b_22), (7, .slice A_x0ops x0.ops.length c_x0ops), (8, vi ((x0.ops.length : Nat) : Int)), (9, vi q_10), (13, pp b_22), (14, vi e_18.kind), (15, .bool (decide (e_18.kind < 1))), (16, .bool true), (20, .bool true)]) (by kernel_rfl)
    exact hj_25 _ (hq.conv (by first | (rw [hb] <;> rfl) | rfl))
   ·replace hs := hs.known (t := 16) hb (by kernel_rfl)
    refine qpu 1 hs fun a hs => ?_
    refine qld 0 (ci e_18.kind) hs rfl fun a hs => ?_
    refine qpu 2 hs fun a hs => ?_
    have hq := hs.pick [2, 3, 5, 7, 8, 9, 13, 14, 15, 16, 20] (L' := [(2, pp b_3), (3, pp b_5), (5, pp b_22), (7, .slice A_x0ops x0.ops.length c_x0ops), (8, vi ((x0.ops.length : Nat) : Int)), (9, vi q_10), (13, pp b_22), (14, vi e_18.kind), (15, .bool (decide (e_18.kind < 1))), (16, .bool false), (20, .bool (decide (e_18.kind > 12)))]) (by kernel_rfl)
    exact hj_25 _ (hq.conv (by first | (rw [hb] <;> rfl) | rfl))
  intro a hs
  refine qpk 0 [2, 3, 5, 7, 8, 9, 20] hs fun a hs => hK24 _ _ ?_
  clear hK24
  refine qcs ((decide (e_18.kind < 1)) || (decide (e_18.kind > 12))) hs (fun hb => ?_) fun hb => ?_
  ·replace hm := bif_t hm hb
   refine qsr fun K26 hK26 => ?_
   refine qpu 1 hs fun a hs => ?_
   obtain ⟨v_28, h_27, hm⟩ := bind_t hm
   refine qli 2 hs rfl h_27 fun a hs => ?_
   refine qpu 2 hs fun a hs => ?_
   obtain ⟨h_29, hm⟩ := ite_t hm
   refine Vk.step (Vk.store1 (b := b_5) (ty := 3) (x := (.tmp 24)) (y := (.tmp 23)) (off := 0) (ci (IntKind.i64.wrap (v_28 + 1))) 2 hs (by kernel_rfl) (by kernel_rfl) (by kernel_rfl) (by kernel_rfl) (by kernel_rfl) (by kernel_rfl) rfl h_29 fun a w hs => ?_)
   refine qpe 0 [(2, pp b_3), (3, pp b_5), (7, .slice A_x0ops x0.ops.length c_x0ops), (8, vi ((x0.ops.length : Nat) : Int)), (9, vi q_10)] hs fun a hs => hK26 _ _ ?_
   clear hK26
   refine wp_exit ?_
   exact hj13 (q_9.set (0) (ci (IntKind.i64.wrap (v_28 + 1)))) hm _ _ (hs.go [2, 3, 7, 8, 9] [1, 2] 3 (by kernel_rfl) (by kernel_rfl) (by kernel_rfl))
  ·replace hm := bif_f hm hb
   refine wp_skip ?_
   refine hK23 _ _ ?_
   clear hK23
   refine Vk.region ?_
   refine qpu 1 hs fun a hs => ?_
   refine qld 0 (ci e_18.kind) hs rfl fun a hs => ?_
   obtain ⟨h_30, hm⟩ := ite_t hm
   refine qix b_5 0 1 hs h_30 fun a hs => ?_
   obtain ⟨v_32, h_31, hm⟩ := bind_t hm
   refine qli 2 hs rfl h_31 fun a hs => ?_
   refine qpu 1 hs fun a hs => ?_
   obtain ⟨h_33, hm⟩ := ite_t hm
   refine qix b_5 0 1 hs h_33 fun a hs => ?_
   obtain ⟨h_34, hm⟩ := ite_t hm
   refine Vk.step (Vk.store1 (b := b_5) (ty := 3) (x := (.tmp 30)) (y := (.tmp 29)) (off := 0 + e_18.kind.toNat * 1) (ci (IntKind.i64.wrap (v_32 + 1))) 2 hs (by kernel_rfl) (by kernel_rfl) (by kernel_rfl) (by kernel_rfl) (by kernel_rfl) (by kernel_rfl) rfl h_34 fun a w hs => ?_)
   refine qpe 0 [(2, pp b_3), (3, pp b_5), (7, .slice A_x0ops x0.ops.length c_x0ops), (8, vi ((x0.ops.length : Nat) : Int)), (9, vi q_10)] hs fun a hs => ?_
   exact hj13 (q_9.set (0 + e_18.kind.toNat * 1) (ci (IntKind.i64.wrap (v_32 + 1)))) hm _ _ (hs.go [2, 3, 7, 8, 9] [1, 2] 3 (by kernel_rfl) (by kernel_rfl) (by kernel_rfl))
 ·replace hm := bif_f hm hb
  refine wp_exit ?_
  exact hx8 q_9 (Option.some.inj hm).symm _ _ (hs.go [2, 3] [0, 1] 2 (by kernel_rfl) (by kernel_rfl) (by kernel_rfl))


abbrev trace_Words.R (κ : Ctx) (S : List HP) (x0 : Tapi_Trace) (A_x0ops : Option Addr) (c_x0ops : Nat) (A_x0blocks : Option Addr) (c_x0blocks : Nat) (r : Int) : Ending → World → Prop := fun e w' => e = .returned (vi r) ∧ Ow κ w' (S)
def trace_Words.m (k : Nat) (x0 : Tapi_Trace) : Option Int := (trace_Tally.m k x0).bind fun v_6 => (if 0 ≤ (2 : Int) ∧ (2 : Int) < 13 then (getI .i64 v_6 2).bind fun v_9 => some v_9 else none)

set_option maxRecDepth 100000 in
set_option maxHeartbeats 4000000 in
theorem trace_Words.ok (k : Nat) (x0 : Tapi_Trace) (r : Int) (hm : trace_Words.m k x0 = some r) (κ : Ctx) (w : World) (S : List HP) (A_x0ops : Option Addr) (c_x0ops : Nat) (hx_x0ops : Sl κ S A_x0ops c_x0ops 6 Tapi_Op.cells x0.ops) (A_x0blocks : Option Addr) (c_x0blocks : Nat) (hx_x0blocks : Sl κ S A_x0blocks c_x0blocks 3 Tapi_Span.cells x0.blocks) (ho : Ow κ w (S)) :
  Calls Tryz.prog 33 #[.agg (vals [ci x0.n, C.slc A_x0ops x0.ops.length c_x0ops, C.slc A_x0blocks x0.blocks.length c_x0blocks])] w (trace_Words.R κ S x0 A_x0ops c_x0ops A_x0blocks c_x0blocks r) := by
 unfold trace_Words.m at hm
 generalize hRR : trace_Words.R κ S x0 A_x0ops c_x0ops A_x0blocks c_x0blocks r = RR
 refine qen [(0, .agg (vals [ci x0.n, C.slc A_x0ops x0.ops.length c_x0ops, C.slc A_x0blocks x0.blocks.length c_x0blocks]))] Tryz.func33 Tryz.ntmps33 ho fun a hs => ?_
 refine qsr fun K1 hK1 => ?_
 refine qbx 0 25 [ci x0.n, C.slc A_x0ops x0.ops.length c_x0ops, C.slc A_x0blocks x0.blocks.length c_x0blocks] 1 hs fun b_2 w a hs => ?_
 refine qpe 1 [(1, pp b_2)] hs fun a hs => hK1 _ _ ?_
 clear hK1
 refine qsr fun K3 hK3 => ?_
 refine qln 0 ([ci x0.n, C.slc A_x0ops x0.ops.length c_x0ops, C.slc A_x0blocks x0.blocks.length c_x0blocks]) hs rfl fun a hs => ?_
 obtain ⟨v_6, h_5, hm⟩ := bind_t hm
 refine qcl (trace_Tally.ok _ _ _ h_5 _ _ (pt b_2 (blk (Tapi_Trace.obj x0 A_x0ops c_x0ops A_x0blocks c_x0blocks) 25) :: S) A_x0ops c_x0ops hx_x0ops.less A_x0blocks c_x0blocks hx_x0blocks.less hs.own) hs fun w a hs => ?_
 obtain ⟨h_7, hm⟩ := ite_t hm
 obtain ⟨v_9, h_8, hm⟩ := bind_t hm
 refine qva (vi v_9) (op := (.index 57 (.tmp 4) (.const (vi 2)))) hs (fun o ho => run_idxVal (k := .i64) (m := 2) (cs := v_6) (c := ci v_9) ho (by kernel_rfl) (by kernel_rfl) (len := 13) (et := 3) (by kernel_rfl) (by kernel_rfl) (by kernel_rfl) (by kernel_rfl) h_7 (getI_some h_8) _) fun a hs => ?_
 refine qpe 1 [(2, vi v_9)] hs fun a hs => hK3 _ _ ?_
 clear hK3
 refine wp_ret ?_
 exact qr1 (vi v_9) hs rfl hRR (by cases hm; exact ⟨rfl, hs.own.drop⟩)


abbrev trace_Draws.R (κ : Ctx) (S : List HP) (x0 : Tapi_Trace) (A_x0ops : Option Addr) (c_x0ops : Nat) (A_x0blocks : Option Addr) (c_x0blocks : Nat) (r : Int) : Ending → World → Prop := fun e w' => e = .returned (vi r) ∧ Ow κ w' (S)
def trace_Draws.m (k : Nat) (x0 : Tapi_Trace) : Option Int := (trace_Tally.m k x0).bind fun v_6 => (if 0 ≤ (1 : Int) ∧ (1 : Int) < 13 then (getI .i64 v_6 1).bind fun v_9 => some v_9 else none)

set_option maxRecDepth 100000 in
set_option maxHeartbeats 4000000 in
theorem trace_Draws.ok (k : Nat) (x0 : Tapi_Trace) (r : Int) (hm : trace_Draws.m k x0 = some r) (κ : Ctx) (w : World) (S : List HP) (A_x0ops : Option Addr) (c_x0ops : Nat) (hx_x0ops : Sl κ S A_x0ops c_x0ops 6 Tapi_Op.cells x0.ops) (A_x0blocks : Option Addr) (c_x0blocks : Nat) (hx_x0blocks : Sl κ S A_x0blocks c_x0blocks 3 Tapi_Span.cells x0.blocks) (ho : Ow κ w (S)) :
  Calls Tryz.prog 35 #[.agg (vals [ci x0.n, C.slc A_x0ops x0.ops.length c_x0ops, C.slc A_x0blocks x0.blocks.length c_x0blocks])] w (trace_Draws.R κ S x0 A_x0ops c_x0ops A_x0blocks c_x0blocks r) := by
 unfold trace_Draws.m at hm
 generalize hRR : trace_Draws.R κ S x0 A_x0ops c_x0ops A_x0blocks c_x0blocks r = RR
 refine qen [(0, .agg (vals [ci x0.n, C.slc A_x0ops x0.ops.length c_x0ops, C.slc A_x0blocks x0.blocks.length c_x0blocks]))] Tryz.func35 Tryz.ntmps35 ho fun a hs => ?_
 refine qsr fun K1 hK1 => ?_
 refine qbx 0 25 [ci x0.n, C.slc A_x0ops x0.ops.length c_x0ops, C.slc A_x0blocks x0.blocks.length c_x0blocks] 1 hs fun b_2 w a hs => ?_
 refine qpe 1 [(1, pp b_2)] hs fun a hs => hK1 _ _ ?_
 clear hK1
 refine qsr fun K3 hK3 => ?_
 refine qln 0 ([ci x0.n, C.slc A_x0ops x0.ops.length c_x0ops, C.slc A_x0blocks x0.blocks.length c_x0blocks]) hs rfl fun a hs => ?_
 obtain ⟨v_6, h_5, hm⟩ := bind_t hm
 refine qcl (trace_Tally.ok _ _ _ h_5 _ _ (pt b_2 (blk (Tapi_Trace.obj x0 A_x0ops c_x0ops A_x0blocks c_x0blocks) 25) :: S) A_x0ops c_x0ops hx_x0ops.less A_x0blocks c_x0blocks hx_x0blocks.less hs.own) hs fun w a hs => ?_
 obtain ⟨h_7, hm⟩ := ite_t hm
 obtain ⟨v_9, h_8, hm⟩ := bind_t hm
 refine qva (vi v_9) (op := (.index 57 (.tmp 4) (.const (vi 1)))) hs (fun o ho => run_idxVal (k := .i64) (m := 1) (cs := v_6) (c := ci v_9) ho (by kernel_rfl) (by kernel_rfl) (len := 13) (et := 3) (by kernel_rfl) (by kernel_rfl) (by kernel_rfl) (by kernel_rfl) h_7 (getI_some h_8) _) fun a hs => ?_
 refine qpe 1 [(2, vi v_9)] hs fun a hs => hK3 _ _ ?_
 clear hK3
 refine wp_ret ?_
 exact qr1 (vi v_9) hs rfl hRR (by cases hm; exact ⟨rfl, hs.own.drop⟩)


def count_check.j2 (k : Nat) (x0 : Tapi_Trace) (p_47 : Bool) : Option (Int) := (bif p_47 then some 1 else (trace_Draws.m k x0).bind fun v_52 => (bif decide (v_52 > 12) then some 3 else some 0))
def count_check.j1 (k : Nat) (x0 : Tapi_Trace) (p_46 : Int) : Option (Int) := count_check.j2 k x0 (decide (p_46 ≥ 0))
def count_check.l1 (x0 : Tapi_Trace) (x2 : List Int) : Nat → Int → Option (Sum (Int) (Unit))
 | 0, _ => none
 | k + 1, q_25 => (bif decide (q_25 < ((x2.length : Nat) : Int)) then (if 0 ≤ q_25 then (x2[q_25.toNat]?).bind fun e_34 => (bif (decide (e_34 < 0)) || (decide (e_34 ≥ ((x0.ops.length : Nat) : Int))) then some (.inl q_25) else count_check.l1 x0 x2 k (IntKind.i64.wrap (q_25 + 1))) else none) else some (.inr ()))
abbrev count_check.R (κ : Ctx) (S : List HP) (x0 : Tapi_Trace) (x1 : Int) (x2 : List Int) (A_x0ops : Option Addr) (c_x0ops : Nat) (A_x0blocks : Option Addr) (c_x0blocks : Nat) (A_x2 : Option Addr) (c_x2 : Nat) (r : Int) : Ending → World → Prop := fun e w' => e = .returned (vi r) ∧ Ow κ w' (S)
def count_check.m (k : Nat) (x0 : Tapi_Trace) (x1 : Int) (x2 : List Int) : Option Int := (trace_Check.m k x0).bind fun v_7 => (bif v_7 != 0 then some v_7 else (trace_Words.m k x0).bind fun v_14 => (bif x1 != v_14 then some 5 else (bif decide (((x2.length : Nat) : Int) > 4) then count_check.j2 k x0 true else (count_check.l1 x0 x2 k 0).bind fun x => match x with | .inl p_43 => count_check.j1 k x0 p_43 | .inr () => count_check.j1 k x0 (-1))))

set_option maxRecDepth 100000 in
set_option maxHeartbeats 4000000 in
theorem count_check.ok (k : Nat) (x0 : Tapi_Trace) (x1 : Int) (x2 : List Int) (r : Int) (hm : count_check.m k x0 x1 x2 = some r) (κ : Ctx) (w : World) (S : List HP) (A_x0ops : Option Addr) (c_x0ops : Nat) (hx_x0ops : Sl κ S A_x0ops c_x0ops 6 Tapi_Op.cells x0.ops) (A_x0blocks : Option Addr) (c_x0blocks : Nat) (hx_x0blocks : Sl κ S A_x0blocks c_x0blocks 3 Tapi_Span.cells x0.blocks) (A_x2 : Option Addr) (c_x2 : Nat) (hx_x2 : Sl κ S A_x2 c_x2 1 (eI .i64) x2) (ho : Ow κ w (S)) :
  Calls Tryz.prog 34 #[.agg (vals [ci x0.n, C.slc A_x0ops x0.ops.length c_x0ops, C.slc A_x0blocks x0.blocks.length c_x0blocks]), vi x1, .slice A_x2 x2.length c_x2] w (count_check.R κ S x0 x1 x2 A_x0ops c_x0ops A_x0blocks c_x0blocks A_x2 c_x2 r) := by
 unfold count_check.m at hm
 generalize hRR : count_check.R κ S x0 x1 x2 A_x0ops c_x0ops A_x0blocks c_x0blocks A_x2 c_x2 r = RR
 refine qen [(0, .agg (vals [ci x0.n, C.slc A_x0ops x0.ops.length c_x0ops, C.slc A_x0blocks x0.blocks.length c_x0blocks])), (1, vi x1), (2, .slice A_x2 x2.length c_x2)] Tryz.func34 Tryz.ntmps34 ho fun a hs => ?_
 refine qsr fun K1 hK1 => ?_
 refine qbx 0 25 [ci x0.n, C.slc A_x0ops x0.ops.length c_x0ops, C.slc A_x0blocks x0.blocks.length c_x0blocks] 3 hs fun b_2 w a hs => ?_
 refine qpk 1 [1, 2, 3] hs fun a hs => hK1 _ _ ?_
 clear hK1
 refine Vk.seq fun K3 hK3 => ?_
 refine qsr fun K4 hK4 => ?_
 refine qln 0 ([ci x0.n, C.slc A_x0ops x0.ops.length c_x0ops, C.slc A_x0blocks x0.blocks.length c_x0blocks]) hs rfl fun a hs => ?_
 obtain ⟨v_7, h_6, hm⟩ := bind_t hm
 refine qcl (trace_Check.ok _ _ _ h_6 _ _ (pt b_2 (blk (Tapi_Trace.obj x0 A_x0ops c_x0ops A_x0blocks c_x0blocks) 25) :: S) A_x0ops c_x0ops hx_x0ops.less A_x0blocks c_x0blocks hx_x0blocks.less hs.own) hs fun w a hs => ?_
 refine qpk 1 [1, 2, 3, 7] hs fun a hs => hK4 _ _ ?_
 clear hK4
 refine qsk 2 [1, 2, 3, 7, 11] hs fun a hs => ?_
 refine qcs (v_7 != 0) hs (fun hb => ?_) fun hb => ?_
 ·replace hm := bif_t hm hb
  refine qse 2 [(6, vi v_7)] hs fun a hs => ?_
  refine wp_ret ?_
  exact qr1 (vi v_7) hs rfl hRR (by cases hm; exact ⟨rfl, hs.own.drop⟩)
 ·replace hm := bif_f hm hb
  refine wp_skip ?_
  refine hK3 _ _ ?_
  clear hK3
  refine Vk.seq fun K10 hK10 => ?_
  refine wp_block ?_
  refine qsr fun K11 hK11 => ?_
  refine qpu 1 hs fun a hs => ?_
  refine qln 0 ([ci x0.n, C.slc A_x0ops x0.ops.length c_x0ops, C.slc A_x0blocks x0.blocks.length c_x0blocks]) hs rfl fun a hs => ?_
  obtain ⟨v_14, h_13, hm⟩ := bind_t hm
  refine qcl (trace_Words.ok _ _ _ h_13 _ _ (pt b_2 (blk (Tapi_Trace.obj x0 A_x0ops c_x0ops A_x0blocks c_x0blocks) 25) :: S) A_x0ops c_x0ops hx_x0ops.less A_x0blocks c_x0blocks hx_x0blocks.less hs.own) hs fun w a hs => ?_
  refine qpk 2 [2, 3, 13] hs fun a hs => hK11 _ _ ?_
  clear hK11
  refine qcs (x1 != v_14) hs (fun hb => ?_) fun hb => ?_
  ·replace hm := bif_t hm hb
   refine qse 1 [(6, vi 5)] hs fun a hs => ?_
   refine wp_ret ?_
   exact qr1 (vi 5) hs rfl hRR (by cases hm; exact ⟨rfl, hs.own.drop⟩)
  ·replace hm := bif_f hm hb
   refine Vk.seq fun K16 hK16 => ?_
   have hj16 : ∀ (p_47 : Bool), count_check.j2 k x0 p_47 = some r → ∀ (a : Act) (w : World), St 31 a w κ [(3, pp b_2), (18, .bool p_47)] (pt b_2 (blk (Tapi_Trace.obj x0 A_x0ops c_x0ops A_x0blocks c_x0blocks) 25) :: S) → K16 a w := by
    intro p_47 hm a w hs
    unfold count_check.j2 at hm
    refine hK16 _ _ ?_
    refine qcs (p_47) hs (fun hb => ?_) fun hb => ?_
    ·replace hm := bif_t hm hb
     refine qse 1 [(6, vi 1)] hs fun a hs => ?_
     refine wp_ret ?_
     exact qr1 (vi 1) hs rfl hRR (by cases hm; exact ⟨rfl, hs.own.drop⟩)
    ·replace hm := bif_f hm hb
     refine qsr fun K49 hK49 => ?_
     refine qln 0 ([ci x0.n, C.slc A_x0ops x0.ops.length c_x0ops, C.slc A_x0blocks x0.blocks.length c_x0blocks]) hs rfl fun a hs => ?_
     obtain ⟨v_52, h_51, hm⟩ := bind_t hm
     refine qcl (trace_Draws.ok _ _ _ h_51 _ _ (pt b_2 (blk (Tapi_Trace.obj x0 A_x0ops c_x0ops A_x0blocks c_x0blocks) 25) :: S) A_x0ops c_x0ops hx_x0ops.less A_x0blocks c_x0blocks hx_x0blocks.less hs.own) hs fun w a hs => ?_
     refine qpk 2 [27] hs fun a hs => hK49 _ _ ?_
     clear hK49
     refine qcs (decide (v_52 > 12)) hs (fun hb => ?_) fun hb => ?_
     ·replace hm := bif_t hm hb
      refine qse 1 [(6, vi 3)] hs fun a hs => ?_
      refine wp_ret ?_
      exact qr1 (vi 3) hs rfl hRR (by cases hm; exact ⟨rfl, hs.own.drop⟩)
     ·replace hm := bif_f hm hb
      refine wp_skip ?_
      refine hK10 _ _ ?_
      clear hK10
      refine qse 1 [(6, vi 0)] hs fun a hs => ?_
      refine wp_ret ?_
      exact qr1 (vi 0) hs rfl hRR (by cases hm; exact ⟨rfl, hs.own.drop⟩)
   refine Vk.region ?_
   refine qpu 4 hs fun a hs => ?_
   rcases Bool.eq_false_or_eq_true (decide (((x2.length : Nat) : Int) > 4)) with hb | hb
   ·replace hm := bif_t hm hb
    replace hs := hs.known (t := 22) hb (by kernel_rfl)
    refine qpe 5 [(3, pp b_2), (18, .bool true)] hs fun a hs => ?_
    exact hj16 true hm _ _ (hs.go [3, 18] [0] 1 (by kernel_rfl) (by kernel_rfl) (by kernel_rfl))
   ·replace hm := bif_f hm hb
    replace hs := hs.known (t := 22) hb (by kernel_rfl)
    refine qpu 2 hs fun a hs => ?_
    refine Vk.step (Vk.call (some 25) 39 #[.slice A_x2 x2.length c_x2, .func (.func 68) #[] #[pp b_2]] hs (by kernel_rfl) (by kernel_rfl) (by kernel_rfl) ?_)
    refine Vk.enterI [(0, .slice A_x2 x2.length c_x2), (1, .func (.func 68) #[] #[pp b_2])] Tryz.func39 rfl Tryz.ntmps39 (by kernel_rfl) (Nat.le_of_ble_eq_true (by kernel_rfl)) hs.own fun KR17 hKR17 hKP17 a hs => ?_
    refine qsk 1 [0, 1] hs fun a hs => ?_
    refine qsr fun K19 hK19 => ?_
    refine qpu 2 hs fun a hs => ?_
    refine Vk.step (Vk.call (some 7) 70 #[.slice A_x2 x2.length c_x2, .func (.func 68) #[] #[pp b_2]] hs (by kernel_rfl) (by kernel_rfl) (by kernel_rfl) ?_)
    refine Vk.enterI [(0, .slice A_x2 x2.length c_x2), (1, .func (.func 68) #[] #[pp b_2])] Tryz.func70 rfl Tryz.ntmps70 (by kernel_rfl) (Nat.le_of_ble_eq_true (by kernel_rfl)) hs.own fun KR20 hKR20 hKP20 a hs => ?_
    have hj20 : ∀ (p_46 : Int), count_check.j1 k x0 p_46 = some r → ∀ (a : Act) (w : World), St 19 a w κ [(4, vi p_46)] (pt b_2 (blk (Tapi_Trace.obj x0 A_x0ops c_x0ops A_x0blocks c_x0blocks) 25) :: S) → KR20 a w := by
     intro p_46 hm a w hs
     unfold count_check.j1 at hm
     refine hKR20 _ _ ?_
     refine Vk.ret1 (P := Tryz.prog) (fn := Tryz.f70) (vi p_46) hs rfl (by kernel_rfl) ⟨_, _, _, rfl, hs.own, fun a hs => ?_⟩
     refine qpk 2 [4] hs fun a hs => hK19 _ _ ?_
     clear hK19
     refine wp_ret ?_
     refine hKP17 _ _ ?_
     refine hKR17 _ _ ?_
     refine Vk.ret1 (P := Tryz.prog) (fn := Tryz.f39) (.bool (decide (p_46 ≥ 0))) hs rfl (by kernel_rfl) ⟨_, _, _, rfl, hs.own, fun a hs => ?_⟩
     refine qpe 2 [(3, pp b_2), (18, .bool (decide (p_46 ≥ 0)))] hs fun a hs => ?_
     exact hj16 (decide (p_46 ≥ 0)) hm _ _ (hs.go [3, 18] [0] 1 (by kernel_rfl) (by kernel_rfl) (by kernel_rfl))
    refine qsk 1 [0, 1] hs fun a hs => ?_
    refine Vk.seq fun K22 hK22 => ?_
    refine qse 3 [(0, .slice A_x2 x2.length c_x2), (1, .func (.func 68) #[] #[pp b_2]), (7, vi ((x2.length : Nat) : Int)), (8, vi 0)] hs fun a hs => ?_
    refine wp_block ?_
    obtain ⟨r24, hl24, hm⟩ := bind_t hm
    have hx24_0 : ∀ (p_43 : Int), r24 = Sum.inl p_43 → ∀ (a : Act) (w : World), St 19 a w κ [(4, vi p_43)] (pt b_2 (blk (Tapi_Trace.obj x0 A_x0ops c_x0ops A_x0blocks c_x0blocks) 25) :: S) → KR20 a w := by
     intro p_43 he a w hs
     subst r24
     exact hj20 p_43 hm _ _ (hs.go [4] [0] 1 (by kernel_rfl) (by kernel_rfl) (by kernel_rfl))
    have hx24_1 : r24 = Sum.inr () → ∀ (a : Act) (w : World), St 19 a w κ [] (pt b_2 (blk (Tapi_Trace.obj x0 A_x0ops c_x0ops A_x0blocks c_x0blocks) 25) :: S) → K22 a w := by
     intro he a w hs
     subst r24
     refine hK22 _ _ ?_
     clear hK22
     refine qse 1 [(4, vi (-1))] hs fun a hs => ?_
     refine wp_ret ?_
     refine hKP20 _ _ ?_
     exact hj20 (-1) hm _ _ (hs.go [4] [0] 1 (by kernel_rfl) (by kernel_rfl) (by kernel_rfl))
    refine Vk.loopBy (fun k (s : Int) a w => count_check.l1 x0 x2 k s = some r24 ∧ St 19 a w κ [(0, .slice A_x2 x2.length c_x2), (1, .func (.func 68) #[] #[pp b_2]), (7, vi ((x2.length : Nat) : Int)), (8, vi s)] (pt b_2 (blk (Tapi_Trace.obj x0 A_x0ops c_x0ops A_x0blocks c_x0blocks) 25) :: S)) k 0 ⟨hl24, hs.go [0, 1, 7, 8] [0] 1 (by kernel_rfl) (by kernel_rfl) (by kernel_rfl)⟩ (fun s a w h => by obtain ⟨h1, _⟩ := h; simp [count_check.l1] at h1) (fun k KL24 ih q_25 a w h => ?_)
    obtain ⟨hm, hs⟩ := h
    try dsimp only at hm hs
    rw [count_check.l1] at hm
    refine qsk 1 [0, 1, 7, 8, 9] hs fun a hs => ?_
    refine Vk.seq fun K27 hK27 => ?_
    refine qcs (decide (q_25 < ((x2.length : Nat) : Int))) hs (fun hb => ?_) fun hb => ?_
    ·replace hm := bif_t hm hb
     refine wp_skip ?_
     refine hK27 _ _ ?_
     clear hK27
     refine Vk.seq fun K28 hK28 => ?_
     refine wp_block ?_
     refine qsk 2 [0, 1, 5, 7, 8] hs fun a hs => ?_
     refine qsr fun K30 hK30 => ?_
     refine qpu 3 hs fun a hs => ?_
     obtain ⟨h_31, hm⟩ := ite_t hm
     obtain ⟨e_34, h_32, hm⟩ := bind_t hm
     obtain ⟨b_35, o_36, hA_37, h_33⟩ := Sl.elem hx_x2 h_32
     refine qva (.pointer (some ⟨b_35, o_36 + q_25.toNat * 1, none⟩)) (op := (.indexAddr 28 (.tmp 12) (.tmp 13))) hs (fun o ho => run_idxSlc (k := .i64) ho (cap := c_x2) (len := x2.length) ((congrArg (fun A => Value.slice A (x2.length) (c_x2)) hA_37) ▸ (by kernel_rfl)) (by kernel_rfl) (by kernel_rfl) (idx_ok h_31 h_32) _) fun a hs => ?_
     refine qva (vi e_34) (op := (.load 3 (.tmp 14))) hs (fun o ho => run_load1 (c := ci e_34) ho (by kernel_rfl) (by kernel_rfl) (fun w ho => h_33 w ho 0 _ rfl) _ hs.own.drop) fun a hs => ?_
     refine Vk.step (Vk.call (some 16) 68 #[vi e_34, pp b_2] hs (by kernel_rfl) (by kernel_rfl) (by kernel_rfl) ?_)
     refine Vk.enterI [(0, vi e_34), (1, pp b_2)] Tryz.func68 rfl Tryz.ntmps68 (by kernel_rfl) (Nat.le_of_ble_eq_true (by kernel_rfl)) hs.own fun KR38 hKR38 hKP38 a hs => ?_
     refine qse 1 [(0, vi e_34), (1, pp b_2)] hs fun a hs => ?_
     refine qsr fun K40 hK40 => ?_
     refine qpu 3 hs fun a hs => ?_
     suffices hj_41 : ∀ a, St 13 a w κ [(0, vi e_34), (1, pp b_2), (4, vi e_34), (5, .bool (decide (e_34 < 0))), (6, .bool (decide (e_34 < 0))), (12, .bool ((decide (e_34 < 0)) || (decide (e_34 ≥ ((x0.ops.length : Nat) : Int)))))] (pt b_2 (blk (Tapi_Trace.obj x0 A_x0ops c_x0ops A_x0blocks c_x0blocks) 25) :: S) → wpFrom Tryz.prog _ _ 9 a w by
      rcases Bool.eq_false_or_eq_true (decide (e_34 < 0)) with hb | hb
      ·replace hs := hs.known (t := 6) hb (by kernel_rfl)
       refine qpu 6 hs fun a hs => ?_
       have hq := hs.pick [0, 1, 4, 5, 6, 12] (L' := [(0, vi e_34), (1, pp b_2), (4, vi e_34), (5, .bool (decide (e_34 < 0))), (6, .bool true), (12, .bool true)]) (by kernel_rfl)
       exact hj_41 _ (hq.conv (by first | (rw [hb] <;> rfl) | rfl))
      ·replace hs := hs.known (t := 6) hb (by kernel_rfl)
       refine qpu 2 hs fun a hs => ?_
       refine qld 0 (C.slc A_x0ops x0.ops.length c_x0ops) hs rfl fun a hs => ?_
       refine qpu 3 hs fun a hs => ?_
       have hq := hs.pick [0, 1, 4, 5, 6, 12] (L' := [(0, vi e_34), (1, pp b_2), (4, vi e_34), (5, .bool (decide (e_34 < 0))), (6, .bool false), (12, .bool (decide (e_34 ≥ ((x0.ops.length : Nat) : Int))))]) (by kernel_rfl)
       exact hj_41 _ (hq.conv (by first | (rw [hb] <;> rfl) | rfl))
     intro a hs
     refine qpk 1 [3] hs fun a hs => hK40 _ _ ?_
     clear hK40
     refine wp_ret ?_
     refine hKP38 _ _ ?_
     refine hKR38 _ _ ?_
     refine Vk.ret1 (P := Tryz.prog) (fn := Tryz.f68) (.bool ((decide (e_34 < 0)) || (decide (e_34 ≥ ((x0.ops.length : Nat) : Int))))) hs rfl (by kernel_rfl) ⟨_, _, _, rfl, hs.own, fun a hs => ?_⟩
     refine qpk 0 [0, 1, 5, 7, 8, 16] hs fun a hs => hK30 _ _ ?_
     clear hK30
     refine qcs ((decide (e_34 < 0)) || (decide (e_34 ≥ ((x0.ops.length : Nat) : Int)))) hs (fun hb => ?_) fun hb => ?_
     ·replace hm := bif_t hm hb
      refine qse 2 [(4, vi q_25)] hs fun a hs => ?_
      refine wp_ret ?_
      refine hKP20 _ _ ?_
      exact hx24_0 q_25 (Option.some.inj hm).symm _ _ (hs.go [4] [0] 1 (by kernel_rfl) (by kernel_rfl) (by kernel_rfl))
     ·replace hm := bif_f hm hb
      refine wp_skip ?_
      refine hK28 _ _ ?_
      clear hK28
      refine Vk.region ?_
      refine qpk 2 [0, 1, 7, 8] hs fun a hs => ?_
      refine ih (IntKind.i64.wrap (q_25 + 1)) _ _ ⟨hm, hs.go [0, 1, 7, 8] [0] 1 (by kernel_rfl) (by kernel_rfl) (by kernel_rfl)⟩
    ·replace hm := bif_f hm hb
     refine wp_exit ?_
     exact hx24_1 (Option.some.inj hm).symm _ _ (hs.go [] [0] 1 (by kernel_rfl) (by kernel_rfl) (by kernel_rfl))


def count_Tape.l1 (x0 : Int) (x1 : Int) : Nat → (List Int) → Int → Option (List Int)
 | 0, _, _ => none
 | k + 1, q_14, q_15 => (bif decide (q_15 < (((List.replicate x1.toNat 0 : List Int).length : Nat) : Int)) then (if 0 ≤ q_15 then (if 0 ≤ q_15 then (q_14[q_15.toNat]?).bind fun e_24 => count_Tape.l1 x0 x1 k (q_14.set q_15.toNat (IntKind.u64.wrap (band .i64 (shr .i64 x0 q_15) 1))) (IntKind.i64.wrap (q_15 + 1)) else none) else none) else some q_14)
abbrev count_Tape.R (κ : Ctx) (S : List HP) (x0 : Int) (x1 : Int) (r : List Int) : Ending → World → Prop := fun e w' => ∃ (A_r0 : Option Addr), ∃ (c_r0 : Nat), e = .returned (.slice A_r0 r.length c_r0) ∧ Ow κ w' (rowp A_r0 c_r0 34 1 (eI .u64) r :: S)
def count_Tape.m (k : Nat) (x0 : Int) (x1 : Int) : Option (List Int) := (bif ((decide (x0 < 0)) || (decide (x1 < 0))) || (decide (x1 > 62)) then some ([] : List Int) else (if (0 : Int) ≤ x1 ∧ (x1 : Int) ≤ x1 ∧ (8 : Int) * x1 ≤ 281474976710656 then (count_Tape.l1 x0 x1 k (List.replicate x1.toNat 0 : List Int) 0).bind fun p_28 => some p_28 else none))

set_option maxRecDepth 100000 in
set_option maxHeartbeats 4000000 in
theorem count_Tape.ok (k : Nat) (x0 : Int) (x1 : Int) (r : List Int) (hm : count_Tape.m k x0 x1 = some r) (κ : Ctx) (w : World) (S : List HP) (ho : Ow κ w (S)) :
  Calls Tryz.prog 19 #[vi x0, vi x1] w (count_Tape.R κ S x0 x1 r) := by
 unfold count_Tape.m at hm
 generalize hRR : count_Tape.R κ S x0 x1 r = RR
 refine qen [(0, vi x0), (1, vi x1)] Tryz.func19 Tryz.ntmps19 ho fun a hs => ?_
 refine qse 1 [(0, vi x0), (1, vi x1)] hs fun a hs => ?_
 refine Vk.seq fun K2 hK2 => ?_
 refine qsr fun K3 hK3 => ?_
 refine qpu 3 hs fun a hs => ?_
 refine qsc 9 3 hs fun a hs => ?_
 refine qpu 1 hs fun a hs => ?_
 refine qsc 13 3 hs fun a hs => ?_
 refine qpk 0 [0, 1, 16] hs fun a hs => hK3 _ _ ?_
 clear hK3
 refine qcs (((decide (x0 < 0)) || (decide (x1 < 0))) || (decide (x1 > 62))) hs (fun hb => ?_) fun hb => ?_
 ·replace hm := bif_t hm hb
  refine qse 1 [(4, .slice none 0 0)] hs fun a hs => ?_
  refine wp_ret ?_
  replace hs := hs.addRow none 34 1 (eI .u64)
  exact qr1 (.slice none (([] : List Int).length) 0) hs rfl hRR (by cases hm; exact ⟨none, 0, rfl, hs.own⟩)
 ·replace hm := bif_f hm hb
  refine wp_skip ?_
  refine hK2 _ _ ?_
  clear hK2
  refine qsr fun K7 hK7 => ?_
  refine qpu 1 hs fun a hs => ?_
  obtain ⟨h_8, hm⟩ := ite_t hm
  refine Vk.step (Vk.makeOp (x := (.tmp 17)) (y := (.tmp 17)) (kl := .i64) (kc := .i64) (enc := (eI .u64)) (sz := 1) (by_ := 8) (t := 26) (e := 34) (0) (some 18) hs (by kernel_rfl) (by kernel_rfl) (by kernel_rfl) (by kernel_rfl) (by kernel_rfl) (by kernel_rfl) rfl (by decide) h_8 (by decide) fun A_9 w a hs => ?_)
  refine qpk 1 [0, 5] hs fun a hs => hK7 _ _ ?_
  clear hK7
  refine Vk.seq fun K11 hK11 => ?_
  refine qsk 3 [0, 5, 20, 21] hs fun a hs => ?_
  refine wp_block ?_
  obtain ⟨r13, hl13, hm⟩ := bind_t hm
  have hx13 : ∀ (p_28 : List Int), r13 = p_28 → ∀ (a : Act) (w : World), St 34 a w κ [(5, .slice A_9 p_28.length x1.toNat)] (rowp A_9 x1.toNat 34 1 (eI .u64) p_28 :: S) → K11 a w := by
   intro p_28 he a w hs
   subst r13
   refine hK11 _ _ ?_
   clear hK11
   refine qse 2 [(4, .slice A_9 p_28.length x1.toNat)] hs fun a hs => ?_
   refine wp_ret ?_
   exact qr1 (.slice A_9 p_28.length x1.toNat) hs rfl hRR (by cases hm; exact ⟨A_9, x1.toNat, rfl, hs.own⟩)
  refine Vk.loopBy (fun k (s : List Int × Int) a w => count_Tape.l1 x0 x1 k s.1 s.2 = some r13 ∧ St 34 a w κ [(0, vi x0), (5, .slice A_9 s.1.length x1.toNat), (20, vi (((List.replicate x1.toNat 0 : List Int).length : Nat) : Int)), (21, vi s.2)] (rowp A_9 x1.toNat 34 1 (eI .u64) s.1 :: S)) k ((List.replicate x1.toNat 0 : List Int), 0) ⟨hl13, hs.go [0, 5, 20, 21] [0] 1 (by kernel_rfl) (by kernel_rfl) (by kernel_rfl)⟩ (fun s a w h => by obtain ⟨h1, _⟩ := h; simp [count_Tape.l1] at h1) (fun k KL13 ih s a w h => ?_)
  obtain ⟨q_14, q_15⟩ := s
  obtain ⟨hm, hs⟩ := h
  try dsimp only at hm hs
  rw [count_Tape.l1] at hm
  refine qsk 1 [0, 5, 20, 21, 22] hs fun a hs => ?_
  refine Vk.seq fun K17 hK17 => ?_
  refine qcs (decide (q_15 < (((List.replicate x1.toNat 0 : List Int).length : Nat) : Int))) hs (fun hb => ?_) fun hb => ?_
  ·replace hm := bif_t hm hb
   refine wp_skip ?_
   refine hK17 _ _ ?_
   clear hK17
   refine Vk.seq fun K18 hK18 => ?_
   refine wp_block ?_
   refine qse 2 [(0, vi x0), (5, .slice A_9 q_14.length x1.toNat), (6, vi q_15), (20, vi (((List.replicate x1.toNat 0 : List Int).length : Nat) : Int)), (21, vi q_15)] hs fun a hs => ?_
   refine Vk.region ?_
   refine qpu 4 hs fun a hs => ?_
   obtain ⟨h_20, hm⟩ := ite_t hm
   refine qva (vi (shr .i64 x0 q_15)) (op := (.binOp .shr 3 (.tmp 26) (.tmp 27) 3)) hs (fun o ho => run_shr (k' := .i64) ho (by kernel_rfl) (by kernel_rfl) h_20 _) fun a hs => ?_
   refine qpu 2 hs fun a hs => ?_
   obtain ⟨h_21, hm⟩ := ite_t hm
   obtain ⟨e_24, h_22, hm⟩ := bind_t hm
   obtain ⟨b_25, o_26, hA_27, h_23⟩ := Sl.elem (Ow.rowSl 0 hs.own rfl) h_22
   refine qva (.pointer (some ⟨b_25, o_26 + q_15.toNat * 1, none⟩)) (op := (.indexAddr 26 (.tmp 24) (.tmp 25))) hs (fun o ho => run_idxSlc (k := .i64) ho (cap := x1.toNat) (len := q_14.length) ((congrArg (fun A => Value.slice A (q_14.length) (x1.toNat)) hA_27) ▸ (by kernel_rfl)) (by kernel_rfl) (by kernel_rfl) (idx_ok h_21 h_22) _) fun a hs => ?_
   refine Vk.step (Vk.storeRow (T := 34) (ty := 34) (x := (.tmp 31)) (y := (.tmp 30)) (o := o_26) (m := q_15.toNat) (IntKind.u64.wrap (band .i64 (shr .i64 x0 q_15) 1)) 0 hs (by kernel_rfl) (by kernel_rfl) (by kernel_rfl) hA_27 rfl (by kernel_rfl) (by kernel_rfl) rfl (by kernel_rfl) rfl (lt_of_get h_22) fun a w hs => ?_)
   replace hs : St 34 a w κ [(0, vi x0), (5, .slice A_9 q_14.length x1.toNat), (6, vi q_15), (20, vi (((List.replicate x1.toNat 0 : List Int).length : Nat) : Int)), (21, vi q_15), (24, .slice A_9 q_14.length x1.toNat), (25, vi q_15), (26, vi x0), (27, vi q_15), (28, vi (shr .i64 x0 q_15)), (29, vi (band .i64 (shr .i64 x0 q_15) 1)), (30, vw (IntKind.u64.wrap (band .i64 (shr .i64 x0 q_15) 1))), (31, .pointer (some ⟨b_25, o_26 + q_15.toNat * 1, none⟩))] (rowp A_9 x1.toNat 34 1 (eI .u64) (q_14.set q_15.toNat (IntKind.u64.wrap (band .i64 (shr .i64 x0 q_15) 1))) :: S) := hs.pick [0, 5, 6, 20, 21, 24, 25, 26, 27, 28, 29, 30, 31] (by kernel_rfl)
   replace hs := hs.conv2 (L' := [(0, vi x0), (5, .slice A_9 ((q_14.set q_15.toNat (IntKind.u64.wrap (band .i64 (shr .i64 x0 q_15) 1))).length) x1.toNat), (6, vi q_15), (20, vi (((List.replicate x1.toNat 0 : List Int).length : Nat) : Int)), (21, vi q_15), (24, .slice A_9 ((q_14.set q_15.toNat (IntKind.u64.wrap (band .i64 (shr .i64 x0 q_15) 1))).length) x1.toNat), (25, vi q_15), (26, vi x0), (27, vi q_15), (28, vi (shr .i64 x0 q_15)), (29, vi (band .i64 (shr .i64 x0 q_15) 1)), (30, vw (IntKind.u64.wrap (band .i64 (shr .i64 x0 q_15) 1))), (31, .pointer (some ⟨b_25, o_26 + q_15.toNat * 1, none⟩))]) (S' := rowp A_9 x1.toNat 34 1 (eI .u64) (q_14.set q_15.toNat (IntKind.u64.wrap (band .i64 (shr .i64 x0 q_15) 1))) :: S) (by simp only [List.length_set]) (rfl)
   refine qpk 0 [0, 5, 20, 21] hs fun a hs => hK18 _ _ ?_
   clear hK18
   refine Vk.region ?_
   refine qpk 2 [0, 5, 20, 21] hs fun a hs => ?_
   refine ih ((q_14.set q_15.toNat (IntKind.u64.wrap (band .i64 (shr .i64 x0 q_15) 1))), (IntKind.i64.wrap (q_15 + 1))) _ _ ⟨hm, hs.go [0, 5, 20, 21] [0] 1 (by kernel_rfl) (by kernel_rfl) (by kernel_rfl)⟩
  ·replace hm := bif_f hm hb
   refine wp_exit ?_
   exact hx13 q_14 (Option.some.inj hm).symm _ _ (hs.go [5] [0] 1 (by kernel_rfl) (by kernel_rfl) (by kernel_rfl))

structure Treplay_source where
 keys : List Int
 masks : List Int
 opened : List Int
 blind : Bool
 deriving Inhabited
def Treplay_source.obj (x : Treplay_source) (Akeys : Option Addr) (ckeys : Nat) (Amasks : Option Addr) (cmasks : Nat) (Aopened : Option Addr) (copened : Nat) : Cells := [C.slc Akeys x.keys.length ckeys, C.slc Amasks x.masks.length cmasks, C.slc Aopened x.opened.length copened, C.bool x.blind]
def Treplay_source.parts (b : Nat) (x : Treplay_source) (g : Option Addr × Nat × Option Addr × Nat × Option Addr × Nat) : List HP := [pt b (blk (Treplay_source.obj x g.1 g.2.1 g.2.2.1 g.2.2.2.1 g.2.2.2.2.1 g.2.2.2.2.2) 113), rowp g.1 g.2.1 34 1 (eI .u64) x.keys, rowp g.2.2.1 g.2.2.2.1 34 1 (eI .u64) x.masks, rowp g.2.2.2.2.1 g.2.2.2.2.2 34 1 (eI .u64) x.opened]
def Treplay_source.own (b : Nat) (x : Treplay_source) : HP := exBag (Treplay_source.parts b x)

def replay_all.j3 (k : Nat) (rec24 : (List Int) → (List Int) → (List Int) → Int → (List Int) → Option (List Int × List Int × List Int)) (q_35 : List Int) (q_36 : Int) (q_39 : List Int) (p_135 : List Int) (p_163 : List Int) (p_165 : Int) : Option (List Int × List Int × List Int) := (if (q_39.length + ([p_165] : List Int).length) * 8 ≤ 140737488355328 then (if (q_35.length + ([p_165] : List Int).length) * 8 ≤ 140737488355328 then rec24 p_135 p_163 (q_35 ++ ([p_165] : List Int)) (IntKind.i64.wrap (q_36 + 1)) (q_39 ++ ([p_165] : List Int)) else none) else none)
def replay_all.j2 (k : Nat) (rec24 : (List Int) → (List Int) → (List Int) → Int → (List Int) → Option (List Int × List Int × List Int)) (x1 : Treplay_source) (q_31 : List Int) (q_35 : List Int) (q_36 : Int) (q_39 : List Int) (e_47 : Tapi_Op) (p_67 : Int) (p_81 : Int) (p_95 : Int) (p_132 : Int) (p_135 : List Int) : Option (List Int × List Int × List Int) := (op_Eval.m k e_47 p_67 p_81 p_95 p_132).bind fun v_139 => (bif (e_47.kind == 12) && x1.blind then (if 0 ≤ (0 : Int) then (q_31[0]?).bind fun e_149 => (if ((0 : Int) ≤ 1) ∧ 1 ≤ q_31.length ∧ q_31.length ≤ q_31.length then replay_all.j3 k (rec24) q_35 q_36 q_39 p_135 (cut q_31 (1) (q_31.length)) e_149 else none) else none) else replay_all.j3 k (rec24) q_35 q_36 q_39 p_135 q_31 v_139)
def replay_all.j1_3 (k : Nat) (rec24 : (List Int) → (List Int) → (List Int) → Int → (List Int) → Option (List Int × List Int × List Int)) (x1 : Treplay_source) (q_27 : List Int) (q_31 : List Int) (q_35 : List Int) (q_36 : Int) (q_39 : List Int) (e_47 : Tapi_Op) (p_67 : Int) (p_81 : Int) (p_95 : Int) : Option (List Int × List Int × List Int) := (bif e_47.kind == 1 then (if 0 ≤ (0 : Int) then (q_27[0]?).bind fun e_108 => (if ((0 : Int) ≤ 1) ∧ 1 ≤ q_27.length ∧ q_27.length ≤ q_27.length then replay_all.j2 k (rec24) x1 q_31 q_35 q_36 q_39 e_47 p_67 p_81 p_95 e_108 (cut q_27 (1) (q_27.length)) else none) else none) else (bif (e_47.kind == 2) && (!x1.blind) then (if 0 ≤ e_47.c then (x1.keys[e_47.c.toNat]?).bind fun e_127 => replay_all.j2 k (rec24) x1 q_31 q_35 q_36 q_39 e_47 p_67 p_81 p_95 e_127 q_27 else none) else replay_all.j2 k (rec24) x1 q_31 q_35 q_36 q_39 e_47 p_67 p_81 p_95 0 q_27))
def replay_all.j1_2 (k : Nat) (rec24 : (List Int) → (List Int) → (List Int) → Int → (List Int) → Option (List Int × List Int × List Int)) (x1 : Treplay_source) (q_27 : List Int) (q_31 : List Int) (q_35 : List Int) (q_36 : Int) (q_39 : List Int) (e_47 : Tapi_Op) (p_67 : Int) (p_81 : Int) : Option (List Int × List Int × List Int) := (bif decide (e_47.d < 0) then replay_all.j1_3 k (rec24) x1 q_27 q_31 q_35 q_36 q_39 e_47 p_67 p_81 0 else (if 0 ≤ e_47.d then (q_35[e_47.d.toNat]?).bind fun e_91 => replay_all.j1_3 k (rec24) x1 q_27 q_31 q_35 q_36 q_39 e_47 p_67 p_81 e_91 else none))
def replay_all.j1 (k : Nat) (rec24 : (List Int) → (List Int) → (List Int) → Int → (List Int) → Option (List Int × List Int × List Int)) (x1 : Treplay_source) (q_27 : List Int) (q_31 : List Int) (q_35 : List Int) (q_36 : Int) (q_39 : List Int) (e_47 : Tapi_Op) (p_67 : Int) : Option (List Int × List Int × List Int) := (bif decide (e_47.b < 0) then replay_all.j1_2 k (rec24) x1 q_27 q_31 q_35 q_36 q_39 e_47 p_67 0 else (if 0 ≤ e_47.b then (q_35[e_47.b.toNat]?).bind fun e_77 => replay_all.j1_2 k (rec24) x1 q_27 q_31 q_35 q_36 q_39 e_47 p_67 e_77 else none))
def replay_all.l1 (x0 : Tapi_Trace) (x1 : Treplay_source) : Nat → (List Int) → (List Int) → (List Int) → Int → (List Int) → Option (List Int × List Int × List Int)
 | 0, _, _, _, _, _ => none
 | k + 1, q_27, q_31, q_35, q_36, q_39 => (bif decide (q_36 < ((x0.ops.length : Nat) : Int)) then (if 0 ≤ q_36 then (x0.ops[q_36.toNat]?).bind fun e_47 => (bif decide (e_47.a < 0) then replay_all.j1 k (replay_all.l1 x0 x1 k) x1 q_27 q_31 q_35 q_36 q_39 e_47 0 else (if 0 ≤ e_47.a then (q_35[e_47.a.toNat]?).bind fun e_63 => replay_all.j1 k (replay_all.l1 x0 x1 k) x1 q_27 q_31 q_35 q_36 q_39 e_47 e_63 else none)) else none) else some (q_39, q_27, q_31))
abbrev replay_all.R (κ : Ctx) (S : List HP) (x0 : Tapi_Trace) (x1 : Treplay_source) (A_x0ops : Option Addr) (c_x0ops : Nat) (A_x0blocks : Option Addr) (c_x0blocks : Nat) (A_x1keys : Option Addr) (c_x1keys : Nat) (A_x1masks : Option Addr) (c_x1masks : Nat) (A_x1opened : Option Addr) (c_x1opened : Nat) (r : List Int) : Ending → World → Prop := fun e w' => ∃ (A_r0 : Option Addr), ∃ (c_r0 : Nat), e = .returned (.slice A_r0 r.length c_r0) ∧ Ow κ w' (rowp A_r0 c_r0 34 1 (eI .u64) r :: S)
def replay_all.m (k : Nat) (x0 : Tapi_Trace) (x1 : Treplay_source) : Option (List Int) := (if (0 : Int) ≤ 0 ∧ (0 : Int) ≤ ((x0.ops.length : Nat) : Int) ∧ (8 : Int) * ((x0.ops.length : Nat) : Int) ≤ 281474976710656 then (if (0 : Int) ≤ 0 ∧ (0 : Int) ≤ ((x0.ops.length : Nat) : Int) ∧ (8 : Int) * ((x0.ops.length : Nat) : Int) ≤ 281474976710656 then (replay_all.l1 x0 x1 k x1.masks x1.opened (List.replicate 0 0 : List Int) 0 (List.replicate 0 0 : List Int)).bind fun x => match x with | (p_181, p_184, p_188) => some p_181 else none) else none)

set_option maxRecDepth 100000 in
set_option maxHeartbeats 4000000 in
theorem replay_all.ok (k : Nat) (x0 : Tapi_Trace) (x1 : Treplay_source) (r : List Int) (hm : replay_all.m k x0 x1 = some r) (κ : Ctx) (w : World) (S : List HP) (A_x0ops : Option Addr) (c_x0ops : Nat) (hx_x0ops : Sl κ S A_x0ops c_x0ops 6 Tapi_Op.cells x0.ops) (A_x0blocks : Option Addr) (c_x0blocks : Nat) (hx_x0blocks : Sl κ S A_x0blocks c_x0blocks 3 Tapi_Span.cells x0.blocks) (A_x1keys : Option Addr) (c_x1keys : Nat) (hx_x1keys : Sl κ S A_x1keys c_x1keys 1 (eI .u64) x1.keys) (A_x1masks : Option Addr) (c_x1masks : Nat) (hx_x1masks : Sl κ S A_x1masks c_x1masks 1 (eI .u64) x1.masks) (A_x1opened : Option Addr) (c_x1opened : Nat) (hx_x1opened : Sl κ S A_x1opened c_x1opened 1 (eI .u64) x1.opened) (ho : Ow κ w (S)) :
  Calls Tryz.prog 64 #[.agg (vals [ci x0.n, C.slc A_x0ops x0.ops.length c_x0ops, C.slc A_x0blocks x0.blocks.length c_x0blocks]), .agg (vals [C.slc A_x1keys x1.keys.length c_x1keys, C.slc A_x1masks x1.masks.length c_x1masks, C.slc A_x1opened x1.opened.length c_x1opened, C.bool x1.blind])] w (replay_all.R κ S x0 x1 A_x0ops c_x0ops A_x0blocks c_x0blocks A_x1keys c_x1keys A_x1masks c_x1masks A_x1opened c_x1opened r) := by
 unfold replay_all.m at hm
 generalize hRR : replay_all.R κ S x0 x1 A_x0ops c_x0ops A_x0blocks c_x0blocks A_x1keys c_x1keys A_x1masks c_x1masks A_x1opened c_x1opened r = RR
 refine enterM [(0, .agg (vals [ci x0.n, C.slc A_x0ops x0.ops.length c_x0ops, C.slc A_x0blocks x0.blocks.length c_x0blocks])), (1, .agg (vals [C.slc A_x1keys x1.keys.length c_x1keys, C.slc A_x1masks x1.masks.length c_x1masks, C.slc A_x1opened x1.opened.length c_x1opened, C.bool x1.blind]))] Tryz.func64 Tryz.ntmps64 ho fun a hs => ?_
 refine qsr fun K1 hK1 => ?_
 refine qbx 0 25 [ci x0.n, C.slc A_x0ops x0.ops.length c_x0ops, C.slc A_x0blocks x0.blocks.length c_x0blocks] 2 hs fun b_2 w a hs => ?_
 refine qbx 1 113 [C.slc A_x1keys x1.keys.length c_x1keys, C.slc A_x1masks x1.masks.length c_x1masks, C.slc A_x1opened x1.opened.length c_x1opened, C.bool x1.blind] 3 hs fun b_3 w a hs => ?_
 refine qpe 1 [(2, pp b_2), (3, pp b_3)] hs fun a hs => hK1 _ _ ?_
 clear hK1
 refine qsr fun K4 hK4 => ?_
 refine qpu 1 hs fun a hs => ?_
 refine qld 1 (C.slc A_x0ops x0.ops.length c_x0ops) hs rfl fun a hs => ?_
 refine qpu 1 hs fun a hs => ?_
 obtain ⟨h_5, hm⟩ := ite_t hm
 refine Vk.step (Vk.makeOp (x := (.const (vi 0))) (y := (.tmp 9)) (kl := .i64) (kc := .i64) (enc := (eI .u64)) (sz := 1) (by_ := 8) (t := 26) (e := 34) (0) (some 10) hs (by kernel_rfl) (by kernel_rfl) (by kernel_rfl) (by kernel_rfl) (by kernel_rfl) (by kernel_rfl) rfl (by decide) h_5 (by decide) fun A_6 w a hs => ?_)
 refine qal 26 [C.slc none 0 0] 5 hs fun b_8 w a hs => ?_
 refine qst 0 0 (C.slc A_6 ((List.replicate 0 0 : List Int).length) (((x0.ops.length : Nat) : Int).toNat)) hs rfl fun a w hs => ?_
 refine qpk 0 [2, 3, 5] hs fun a hs => hK4 _ _ ?_
 clear hK4
 refine Vk.seq fun K9 hK9 => ?_
 refine qsr fun K10 hK10 => ?_
 refine qln 3 ([ci x0.n, C.slc A_x0ops x0.ops.length c_x0ops, C.slc A_x0blocks x0.blocks.length c_x0blocks]) hs rfl fun a hs => ?_
 refine qln 2 ([C.slc A_x1keys x1.keys.length c_x1keys, C.slc A_x1masks x1.masks.length c_x1masks, C.slc A_x1opened x1.opened.length c_x1opened, C.bool x1.blind]) hs rfl fun a hs => ?_
 refine Vk.step (Vk.call (some 13) 97 #[.agg (vals [ci x0.n, C.slc A_x0ops x0.ops.length c_x0ops, C.slc A_x0blocks x0.blocks.length c_x0blocks]), .agg (vals [C.slc A_x1keys x1.keys.length c_x1keys, C.slc A_x1masks x1.masks.length c_x1masks, C.slc A_x1opened x1.opened.length c_x1opened, C.bool x1.blind])] hs (by kernel_rfl) (by kernel_rfl) (by kernel_rfl) ?_)
 refine Vk.enterI [(0, .agg (vals [ci x0.n, C.slc A_x0ops x0.ops.length c_x0ops, C.slc A_x0blocks x0.blocks.length c_x0blocks])), (1, .agg (vals [C.slc A_x1keys x1.keys.length c_x1keys, C.slc A_x1masks x1.masks.length c_x1masks, C.slc A_x1opened x1.opened.length c_x1opened, C.bool x1.blind]))] Tryz.func97 rfl Tryz.ntmps97 (by kernel_rfl) (Nat.le_of_ble_eq_true (by kernel_rfl)) hs.own fun KR11 hKR11 hKP11 a hs => ?_
 refine qsr fun K12 hK12 => ?_
 refine qbx 0 25 [ci x0.n, C.slc A_x0ops x0.ops.length c_x0ops, C.slc A_x0blocks x0.blocks.length c_x0blocks] 2 hs fun b_13 w a hs => ?_
 refine qbx 1 113 [C.slc A_x1keys x1.keys.length c_x1keys, C.slc A_x1masks x1.masks.length c_x1masks, C.slc A_x1opened x1.opened.length c_x1opened, C.bool x1.blind] 3 hs fun b_14 w a hs => ?_
 refine qpe 1 [(2, pp b_13), (3, pp b_14)] hs fun a hs => hK12 _ _ ?_
 clear hK12
 refine qsk 2 [4] hs fun a hs => ?_
 refine wp_ret ?_
 refine hKP11 _ _ ?_
 refine hKR11 _ _ ?_
 refine Vk.ret1 (P := Tryz.prog) (fn := Tryz.f97) (.func (.func 116) #[] #[pp b_13, pp b_14]) hs rfl (by kernel_rfl) ⟨_, _, _, rfl, hs.own, fun a hs => ?_⟩
 refine qpk 0 [5, 13] hs fun a hs => hK10 _ _ ?_
 clear hK10
 refine wp_block ?_
 replace hs := hs.pick [5, 13] (L' := [(5, pp b_8), (13, .func (.func 116) #[] #[pp b_13, pp b_14])]) (by kernel_rfl)
 refine rangeFn (gf := 116) (caps := #[pp b_13, pp b_14]) hs fun lp_16 dm_16 fm_16 Tm_16 Xr_16 Yr_16 w hX_16 hY_16 hT_16 ho => ?_
 refine Vk.enterI [(0, .func (.yield lp_16) #[] #[]), (1, pp b_13), (2, pp b_14)] Tryz.func116 rfl Tryz.ntmps116 (by kernel_rfl) (Nat.le_of_ble_eq_true (by kernel_rfl)) ho fun KR16 hKR16 hKP16 a hs => ?_
 refine tailK fun KN16 hKN16 => ?_
 refine qsr fun K17 hK17 => ?_
 refine qpu 1 hs fun a hs => ?_
 refine qld 3 (C.slc A_x0ops x0.ops.length c_x0ops) hs rfl fun a hs => ?_
 refine qpu 1 hs fun a hs => ?_
 obtain ⟨h_18, hm⟩ := ite_t hm
 refine Vk.step (Vk.makeOp (x := (.const (vi 0))) (y := (.tmp 11)) (kl := .i64) (kc := .i64) (enc := (eI .u64)) (sz := 1) (by_ := 8) (t := 26) (e := 34) (0) (some 12) hs (by kernel_rfl) (by kernel_rfl) (by kernel_rfl) (by kernel_rfl) (by kernel_rfl) (by kernel_rfl) rfl (by decide) h_18 (by decide) fun A_19 w a hs => ?_)
 refine qal 26 [C.slc none 0 0] 4 hs fun b_21 w a hs => ?_
 refine qst 0 0 (C.slc A_19 ((List.replicate 0 0 : List Int).length) (((x0.ops.length : Nat) : Int).toNat)) hs rfl fun a w hs => ?_
 refine qpk 0 [0, 1, 2, 4] hs fun a hs => hK17 _ _ ?_
 clear hK17
 refine qsk 2 [0, 1, 2, 4, 5] hs fun a hs => ?_
 refine qsr fun K23 hK23 => ?_
 refine qpu 1 hs fun a hs => ?_
 refine qld 5 (C.slc A_x0ops x0.ops.length c_x0ops) hs rfl fun a hs => ?_
 refine qpk 2 [0, 2, 4, 5, 15, 16, 17] hs fun a hs => hK23 _ _ ?_
 clear hK23
 refine wp_block ?_
 obtain ⟨r24, hl24, hm⟩ := bind_t hm
 have hx24 : ∀ (p_181 : List Int) (p_184 : List Int) (p_188 : List Int), r24 = (p_181, p_184, p_188) → ∀ (A_179 : Option Addr) (c_180 : Nat) (A_182 : Option Addr) (c_183 : Nat) (hx_185 : Sl κ S A_182 c_183 1 (eI .u64) p_184) (A_186 : Option Addr) (c_187 : Nat) (hx_189 : Sl κ S A_186 c_187 1 (eI .u64) p_188) (a : Act) (w : World), St 55 a w κ [] (pt lp_16 Xr_16 :: pt dm_16 dfD :: pt b_8 (blk [C.slc A_179 p_181.length c_180] 26) :: rowp A_179 c_180 34 1 (eI .u64) p_181 :: pt b_13 (blk (Tapi_Trace.obj x0 A_x0ops c_x0ops A_x0blocks c_x0blocks) 25) :: pt b_14 (blk [C.slc A_x1keys x1.keys.length c_x1keys, C.slc A_182 p_184.length c_183, C.slc A_186 p_188.length c_187, C.bool x1.blind] 113) :: S) → KN16 a w := by
  intro p_181 p_184 p_188 he A_179 c_180 A_182 c_183 hx_185 A_186 c_187 hx_189 a w hs
  subst r24
  refine hKN16 _ _ ?_
  refine Vk.end0 (P := Tryz.prog) (fn := Tryz.f116) hs rfl ⟨_, _, 0, ⟨_, rfl⟩, hs.own, rfl, fun a w (hs : St ⟨20, [mkD dm_16]⟩ a w κ [(5, pp b_8), (13, .func (.func 116) #[] #[pp b_13, pp b_14])] (pt dm_16 dfD :: pt b_8 (blk [C.slc A_179 p_181.length c_180] 26) :: rowp A_179 c_180 34 1 (eI .u64) p_181 :: pt b_13 (blk (Tapi_Trace.obj x0 A_x0ops c_x0ops A_x0blocks c_x0blocks) 25) :: pt b_14 (blk [C.slc A_x1keys x1.keys.length c_x1keys, C.slc A_182 p_184.length c_183, C.slc A_186 p_188.length c_187, C.bool x1.blind] 113) :: S)) => ?_⟩
  refine hK9 _ _ ?_
  clear hK9
  refine qsr fun K205 hK205 => ?_
  refine qld 1 (C.slc A_179 p_181.length c_180) hs rfl fun a hs => ?_
  refine qpe 1 [(4, .slice A_179 p_181.length c_180)] hs fun a hs => hK205 _ _ ?_
  clear hK205
  refine wp_ret ?_
  refine leaves1 0 hs rfl rfl fun a w hs => ?_
  replace hs : St 20 a w κ [(4, .slice A_179 p_181.length c_180)] (pt b_8 (blk [C.slc A_179 p_181.length c_180] 26) :: rowp A_179 c_180 34 1 (eI .u64) p_181 :: pt b_13 (blk (Tapi_Trace.obj x0 A_x0ops c_x0ops A_x0blocks c_x0blocks) 25) :: pt b_14 (blk [C.slc A_x1keys x1.keys.length c_x1keys, C.slc A_182 p_184.length c_183, C.slc A_186 p_188.length c_187, C.bool x1.blind] 113) :: S) := hs.pick [4] (by kernel_rfl)
  exact qr1 (.slice A_179 p_181.length c_180) hs rfl hRR (by cases hm; exact ⟨A_179, c_180, rfl, hs.own.f3.drop.f2.drop.drop⟩)
 refine Vk.loopBy (fun k (s : List Int × List Int × List Int × Int × List Int) a w => ∃ (A_25 : Option Addr), ∃ (c_26 : Nat), ∃ (A_29 : Option Addr), ∃ (c_30 : Nat), ∃ (A_33 : Option Addr), ∃ (c_34 : Nat), ∃ (A_37 : Option Addr), ∃ (c_38 : Nat), replay_all.l1 x0 x1 k s.1 s.2.1 s.2.2.1 s.2.2.2.1 s.2.2.2.2 = some r24 ∧ Sl κ S A_25 c_26 1 (eI .u64) s.1 ∧ Sl κ S A_29 c_30 1 (eI .u64) s.2.1 ∧ St 55 a w κ [(0, .func (.yield lp_16) #[] #[]), (2, pp b_14), (4, pp b_21), (5, .func (.func 117) #[] #[pp b_21]), (15, .slice A_x0ops x0.ops.length c_x0ops), (16, vi ((x0.ops.length : Nat) : Int)), (17, vi s.2.2.2.1)] (pt b_14 (blk [C.slc A_x1keys x1.keys.length c_x1keys, C.slc A_25 s.1.length c_26, C.slc A_29 s.2.1.length c_30, C.bool x1.blind] 113) :: pt b_21 (blk [C.slc A_33 s.2.2.1.length c_34] 26) :: rowp A_33 c_34 34 1 (eI .u64) s.2.2.1 :: pt lp_16 Xr_16 :: pt dm_16 dfD :: pt b_8 (blk [C.slc A_37 s.2.2.2.2.length c_38] 26) :: rowp A_37 c_38 34 1 (eI .u64) s.2.2.2.2 :: pt b_13 (blk (Tapi_Trace.obj x0 A_x0ops c_x0ops A_x0blocks c_x0blocks) 25) :: S)) k (x1.masks, x1.opened, (List.replicate 0 0 : List Int), 0, (List.replicate 0 0 : List Int)) ⟨A_x1masks, c_x1masks, A_x1opened, c_x1opened, A_19, ((x0.ops.length : Nat) : Int).toNat, A_6, ((x0.ops.length : Nat) : Int).toNat, hl24, hx_x1masks, hx_x1opened, hs.go [0, 2, 4, 5, 15, 16, 17] [4, 0, 1, 2, 3, 6, 7, 5] 10 (by kernel_rfl) (by kernel_rfl) (by kernel_rfl)⟩ (fun s a w h => by obtain ⟨_, _, _, _, _, _, _, _, h1, _⟩ := h; simp [replay_all.l1] at h1) (fun k KL24 ih s a w h => ?_)
 obtain ⟨q_27, q_31, q_35, q_36, q_39⟩ := s
 obtain ⟨A_25, c_26, A_29, c_30, A_33, c_34, A_37, c_38, hm, hx_28, hx_32, hs⟩ := h
 try dsimp only at hm hs
 rw [replay_all.l1] at hm
 refine qsk 1 [0, 2, 4, 5, 15, 16, 17, 18] hs fun a hs => ?_
 refine Vk.seq fun K41 hK41 => ?_
 refine qcs (decide (q_36 < ((x0.ops.length : Nat) : Int))) hs (fun hb => ?_) fun hb => ?_
 ·replace hm := bif_t hm hb
  refine wp_skip ?_
  refine hK41 _ _ ?_
  clear hK41
  refine Vk.seq fun K42 hK42 => ?_
  refine wp_block ?_
  refine qsr fun K43 hK43 => ?_
  obtain ⟨h_44, hm⟩ := ite_t hm
  obtain ⟨e_47, h_45, hm⟩ := bind_t hm
  obtain ⟨b_48, o_49, hA_50, h_46⟩ := Sl.elem hx_x0ops h_45
  refine qva (.pointer (some ⟨b_48, o_49 + q_36.toNat * 6, none⟩)) (op := (.indexAddr 22 (.tmp 15) (.tmp 17))) hs (fun o ho => run_idxSlc (k := .i64) ho (cap := c_x0ops) (len := x0.ops.length) ((congrArg (fun A => Value.slice A (x0.ops.length) (c_x0ops)) hA_50) ▸ (by kernel_rfl)) (by kernel_rfl) (by kernel_rfl) (idx_ok h_44 h_45) _) fun a hs => ?_
  refine qva (.agg (vals [ci e_47.kind, ci e_47.dom, ci e_47.a, ci e_47.b, ci e_47.d, cw e_47.c])) (op := (.load 80 (.tmp 19))) hs (fun o ho => run_loadN (cs := [ci e_47.kind, ci e_47.dom, ci e_47.a, ci e_47.b, ci e_47.d, cw e_47.c]) ho (by kernel_rfl) (by kernel_rfl) rfl h_46 _ hs.own.drop.drop.drop.drop.drop.drop.drop.drop) fun a hs => ?_
  refine qal 80 [ci 0, ci 0, ci 0, ci 0, ci 0, cw 0] 7 hs fun b_51 w a hs => ?_
  refine qsa 0 [ci e_47.kind, ci e_47.dom, ci e_47.a, ci e_47.b, ci e_47.d, cw e_47.c] hs rfl fun a w hs => ?_
  refine qpk 0 [0, 2, 4, 5, 7, 15, 16, 17] hs fun a hs => hK43 _ _ ?_
  clear hK43
  refine Vk.seq fun K52 hK52 => ?_
  obtain ⟨C_53, hC_53⟩ := qC hs.own.f1.drop
  refine qdr 17 κ C_53 hs fun w hs hqC_53 => ?_
  have hcl := qO hC_53 hs.own.f1.drop
  refine qdp (fuel := 11) [1, 2, 5, 6, 9, 10] hs hcl hqC_53 fun a hs => ?_
  refine qdn 0 0 ([ci e_47.kind, ci e_47.dom, ci e_47.a, ci e_47.b, ci e_47.d, cw e_47.c]) hs hcl hqC_53 hC_53 rfl fun a hs => ?_
  refine qdl 3 0 (ci e_47.a) hs hcl hqC_53 hC_53 rfl fun a hs => ?_
  refine qdl 7 0 (ci e_47.b) hs hcl hqC_53 hC_53 rfl fun a hs => ?_
  refine qdl 11 0 (ci e_47.d) hs hcl hqC_53 hC_53 rfl fun a hs => ?_
  refine qdn 13 0 ([ci e_47.kind, ci e_47.dom, ci e_47.a, ci e_47.b, ci e_47.d, cw e_47.c]) hs hcl hqC_53 hC_53 rfl fun a hs => ?_
  refine Vk.dOnly (i := 4) (by kernel_rfl) (Vk.call (some 25) 117 #[vi e_47.a, pp b_21] hs (by kernel_rfl) (by kernel_rfl) (by kernel_rfl) ?_)
  refine Vk.enterI [(0, vi e_47.a), (1, pp b_21)] Tryz.func117 rfl Tryz.ntmps117 (by kernel_rfl) (Nat.le_of_ble_eq_true (by kernel_rfl)) hs.own fun KR54 hKR54 hKP54 a hs => ?_
  have hj54 : ∀ (p_67 : Int), replay_all.j1 k (replay_all.l1 x0 x1 k) x1 q_27 q_31 q_35 q_36 q_39 e_47 p_67 = some r24 → ∀ (a : Act) (w : World), St 10 a w κ [(3, vw p_67)] (pt lp_16 Xr_16 :: pt dm_16 dfD :: pt b_8 (blk [C.slc A_37 q_39.length c_38] 26) :: rowp A_37 c_38 34 1 (eI .u64) q_39 :: pt b_13 (blk (Tapi_Trace.obj x0 A_x0ops c_x0ops A_x0blocks c_x0blocks) 25) :: pt b_14 (blk [C.slc A_x1keys x1.keys.length c_x1keys, C.slc A_25 q_27.length c_26, C.slc A_29 q_31.length c_30, C.bool x1.blind] 113) :: pt b_21 (blk [C.slc A_33 q_35.length c_34] 26) :: rowp A_33 c_34 34 1 (eI .u64) q_35 :: pt b_51 (blk (Tapi_Op.cells e_47) 80) :: S) → KR54 a w := by
   intro p_67 hm a w hs
   unfold replay_all.j1 at hm
   refine hKR54 _ _ ?_
   refine Vk.ret1 (P := Tryz.prog) (fn := Tryz.f117) (vw p_67) hs rfl (by kernel_rfl) ⟨_, _, _, rfl, hs.own, fun a hs => ?_⟩
   replace hcl := qO hC_53 hs.own.f5.drop.f6.f6.f7
   refine ⟨fun _ => hcl, ?_⟩
   refine Vk.dOnly (i := 8) (by kernel_rfl) (Vk.call (some 29) 117 #[vi e_47.b, pp b_21] hs (by kernel_rfl) (by kernel_rfl) (by kernel_rfl) ?_)
   refine Vk.enterI [(0, vi e_47.b), (1, pp b_21)] Tryz.func117 rfl Tryz.ntmps117 (by kernel_rfl) (Nat.le_of_ble_eq_true (by kernel_rfl)) hs.own fun KR68 hKR68 hKP68 a hs => ?_
   have hj68 : ∀ (p_81 : Int), replay_all.j1_2 k (replay_all.l1 x0 x1 k) x1 q_27 q_31 q_35 q_36 q_39 e_47 p_67 p_81 = some r24 → ∀ (a : Act) (w : World), St 10 a w κ [(3, vw p_81)] (pt lp_16 Xr_16 :: pt dm_16 dfD :: pt b_8 (blk [C.slc A_37 q_39.length c_38] 26) :: rowp A_37 c_38 34 1 (eI .u64) q_39 :: pt b_13 (blk (Tapi_Trace.obj x0 A_x0ops c_x0ops A_x0blocks c_x0blocks) 25) :: pt b_14 (blk [C.slc A_x1keys x1.keys.length c_x1keys, C.slc A_25 q_27.length c_26, C.slc A_29 q_31.length c_30, C.bool x1.blind] 113) :: pt b_21 (blk [C.slc A_33 q_35.length c_34] 26) :: rowp A_33 c_34 34 1 (eI .u64) q_35 :: pt b_51 (blk (Tapi_Op.cells e_47) 80) :: S) → KR68 a w := by
    intro p_81 hm a w hs
    unfold replay_all.j1_2 at hm
    refine hKR68 _ _ ?_
    refine Vk.ret1 (P := Tryz.prog) (fn := Tryz.f117) (vw p_81) hs rfl (by kernel_rfl) ⟨_, _, _, rfl, hs.own, fun a hs => ?_⟩
    replace hcl := qO hC_53 hs.own.f5.drop.f6.f6.f7
    refine ⟨fun _ => hcl, ?_⟩
    refine Vk.dOnly (i := 12) (by kernel_rfl) (Vk.call (some 33) 117 #[vi e_47.d, pp b_21] hs (by kernel_rfl) (by kernel_rfl) (by kernel_rfl) ?_)
    refine Vk.enterI [(0, vi e_47.d), (1, pp b_21)] Tryz.func117 rfl Tryz.ntmps117 (by kernel_rfl) (Nat.le_of_ble_eq_true (by kernel_rfl)) hs.own fun KR82 hKR82 hKP82 a hs => ?_
    have hj82 : ∀ (p_95 : Int), replay_all.j1_3 k (replay_all.l1 x0 x1 k) x1 q_27 q_31 q_35 q_36 q_39 e_47 p_67 p_81 p_95 = some r24 → ∀ (a : Act) (w : World), St 10 a w κ [(3, vw p_95)] (pt lp_16 Xr_16 :: pt dm_16 dfD :: pt b_8 (blk [C.slc A_37 q_39.length c_38] 26) :: rowp A_37 c_38 34 1 (eI .u64) q_39 :: pt b_13 (blk (Tapi_Trace.obj x0 A_x0ops c_x0ops A_x0blocks c_x0blocks) 25) :: pt b_14 (blk [C.slc A_x1keys x1.keys.length c_x1keys, C.slc A_25 q_27.length c_26, C.slc A_29 q_31.length c_30, C.bool x1.blind] 113) :: pt b_21 (blk [C.slc A_33 q_35.length c_34] 26) :: rowp A_33 c_34 34 1 (eI .u64) q_35 :: pt b_51 (blk (Tapi_Op.cells e_47) 80) :: S) → KR82 a w := by
     intro p_95 hm a w hs
     unfold replay_all.j1_3 at hm
     refine hKR82 _ _ ?_
     refine Vk.ret1 (P := Tryz.prog) (fn := Tryz.f117) (vw p_95) hs rfl (by kernel_rfl) ⟨_, _, _, rfl, hs.own, fun a hs => ?_⟩
     replace hcl := qO hC_53 hs.own.f5.drop.f6.f6.f7
     refine ⟨fun _ => hcl, ?_⟩
     refine Vk.dOnly (i := 14) (by kernel_rfl) (Vk.call (some 35) 119 #[pp b_14, .agg (vals [ci e_47.kind, ci e_47.dom, ci e_47.a, ci e_47.b, ci e_47.d, cw e_47.c])] hs (by kernel_rfl) (by kernel_rfl) (by kernel_rfl) ?_)
     refine Vk.enterI [(0, pp b_14), (1, .agg (vals [ci e_47.kind, ci e_47.dom, ci e_47.a, ci e_47.b, ci e_47.d, cw e_47.c]))] Tryz.func119 rfl Tryz.ntmps119 (by kernel_rfl) (Nat.le_of_ble_eq_true (by kernel_rfl)) hs.own fun KR96 hKR96 hKP96 a hs => ?_
     have hj96 : ∀ (p_132 : Int) (p_135 : List Int), replay_all.j2 k (replay_all.l1 x0 x1 k) x1 q_31 q_35 q_36 q_39 e_47 p_67 p_81 p_95 p_132 p_135 = some r24 → ∀ (A_133 : Option Addr) (c_134 : Nat) (hx_136 : Sl κ S A_133 c_134 1 (eI .u64) p_135) (a : Act) (w : World), St 32 a w κ [(4, vw p_132)] (pt lp_16 Xr_16 :: pt dm_16 dfD :: pt b_8 (blk [C.slc A_37 q_39.length c_38] 26) :: rowp A_37 c_38 34 1 (eI .u64) q_39 :: pt b_13 (blk (Tapi_Trace.obj x0 A_x0ops c_x0ops A_x0blocks c_x0blocks) 25) :: pt b_14 (blk [C.slc A_x1keys x1.keys.length c_x1keys, C.slc A_133 p_135.length c_134, C.slc A_29 q_31.length c_30, C.bool x1.blind] 113) :: pt b_21 (blk [C.slc A_33 q_35.length c_34] 26) :: rowp A_33 c_34 34 1 (eI .u64) q_35 :: pt b_51 (blk (Tapi_Op.cells e_47) 80) :: S) → KR96 a w := by
      intro p_132 p_135 hm A_133 c_134 hx_136 a w hs
      unfold replay_all.j2 at hm
      refine hKR96 _ _ ?_
      refine Vk.ret1 (P := Tryz.prog) (fn := Tryz.f119) (vw p_132) hs rfl (by kernel_rfl) ⟨_, _, _, rfl, hs.own, fun a hs => ?_⟩
      replace hcl := qO hC_53 hs.own.f5.drop.f6.f6.f7
      refine ⟨fun _ => hcl, ?_⟩
      obtain ⟨v_139, h_138, hm⟩ := bind_t hm
      refine qdc 15 (op_Eval.ok _ _ _ _ _ _ _ h_138 _ _ (pt lp_16 Xr_16 :: pt dm_16 dfD :: pt b_8 (blk [C.slc A_37 q_39.length c_38] 26) :: rowp A_37 c_38 34 1 (eI .u64) q_39 :: pt b_13 (blk (Tapi_Trace.obj x0 A_x0ops c_x0ops A_x0blocks c_x0blocks) 25) :: pt b_14 (blk [C.slc A_x1keys x1.keys.length c_x1keys, C.slc A_133 p_135.length c_134, C.slc A_29 q_31.length c_30, C.bool x1.blind] 113) :: pt b_21 (blk [C.slc A_33 q_35.length c_34] 26) :: rowp A_33 c_34 34 1 (eI .u64) q_35 :: pt b_51 (blk (Tapi_Op.cells e_47) 80) :: S) hs.own) hs fun w a hs => ?_
      replace hcl := qO hC_53 hs.own.f5.drop.f6.f6.f7
      refine ⟨fun _ => hcl, ?_⟩
      refine qdp (fuel := 0) [16] hs hcl hqC_53 fun a hs => ?_
      replace hs := hs.pick [0, 2, 4, 5, 7, 8, 15, 16, 17] (L' := [(0, .func (.yield lp_16) #[] #[]), (2, pp b_14), (4, pp b_21), (5, .func (.func 117) #[] #[pp b_21]), (7, pp b_51), (8, vw v_139), (15, .slice A_x0ops x0.ops.length c_x0ops), (16, vi ((x0.ops.length : Nat) : Int)), (17, vi q_36)]) (by kernel_rfl)
      refine Vk.dDone (by kernel_rfl) ?_
      refine hK52 _ _ ?_
      clear hK52
      refine Vk.seq fun K140 hK140 => ?_
      have hj140 : ∀ (p_163 : List Int) (p_165 : Int), replay_all.j3 k (replay_all.l1 x0 x1 k) q_35 q_36 q_39 p_135 p_163 p_165 = some r24 → ∀ (A_161 : Option Addr) (c_162 : Nat) (hx_164 : Sl κ S A_161 c_162 1 (eI .u64) p_163) (a : Act) (w : World), St 55 a w κ [(0, .func (.yield lp_16) #[] #[]), (2, pp b_14), (4, pp b_21), (5, .func (.func 117) #[] #[pp b_21]), (8, vw p_165), (15, .slice A_x0ops x0.ops.length c_x0ops), (16, vi ((x0.ops.length : Nat) : Int)), (17, vi q_36)] (pt b_14 (blk [C.slc A_x1keys x1.keys.length c_x1keys, C.slc A_133 p_135.length c_134, C.slc A_161 p_163.length c_162, C.bool x1.blind] 113) :: pt b_21 (blk [C.slc A_33 q_35.length c_34] 26) :: rowp A_33 c_34 34 1 (eI .u64) q_35 :: pt lp_16 Xr_16 :: pt dm_16 dfD :: pt b_8 (blk [C.slc A_37 q_39.length c_38] 26) :: rowp A_37 c_38 34 1 (eI .u64) q_39 :: pt b_13 (blk (Tapi_Trace.obj x0 A_x0ops c_x0ops A_x0blocks c_x0blocks) 25) :: S) → K140 a w := by
       intro p_163 p_165 hm A_161 c_162 hx_164 a w hs
       unfold replay_all.j3 at hm
       refine hK140 _ _ ?_
       refine Vk.seq fun K166 hK166 => ?_
       refine qsr fun K167 hK167 => ?_
       refine qpu 2 hs fun a hs => ?_
       refine yieldOp 3 #[vw p_165] hs hX_16 hY_16 hT_16 rfl fun KA168 QB168 a hqB168 hno168 hKB168 hb168 he168 hs => ?_
       replace hs := hs.pick [5, 14] (L' := [(5, pp b_8), (14, vw p_165)]) (by kernel_rfl)
       refine regionI ?_
       refine qpe 1 [(5, pp b_8), (6, vw p_165)] hs fun a hs => ?_
       refine hb168 3 _ _ _ _ _ hs rfl fun w hs => ?_
       replace hs : St 20 a w κ [(5, pp b_8), (6, vw p_165)] (pt b_14 (blk [C.slc A_x1keys x1.keys.length c_x1keys, C.slc A_133 p_135.length c_134, C.slc A_161 p_163.length c_162, C.bool x1.blind] 113) :: pt b_21 (blk [C.slc A_33 q_35.length c_34] 26) :: rowp A_33 c_34 34 1 (eI .u64) q_35 :: pt lp_16 Yr_16 :: pt dm_16 dfD :: pt b_8 (blk [C.slc A_37 q_39.length c_38] 26) :: rowp A_37 c_38 34 1 (eI .u64) q_39 :: pt b_13 (blk (Tapi_Trace.obj x0 A_x0ops c_x0ops A_x0blocks c_x0blocks) 25) :: S) := hs.pick [5, 6] (by kernel_rfl)
       refine blockI ?_
       refine regionI ?_
       refine qld 5 (C.slc A_37 q_39.length c_38) hs rfl fun a hs => ?_
       refine qpu 1 hs fun a hs => ?_
       refine Vk.step (Vk.buildOp (sz := 1) (by_ := 8) (t := 26) (e := 34) (parts := #[(0, (.tmp 16))]) (zs := vals [cw 0]) ([p_165] : List Int) (eI .u64) (some 17) hs (by kernel_rfl) (by kernel_rfl) (by kernel_rfl) (by kernel_rfl) (by decide) rfl (fun x _ => rfl) (Nat.le_of_ble_eq_true (by kernel_rfl)) (by kernel_rfl) fun A_169 w a hs => ?_)
       obtain ⟨h_171, hm⟩ := ite_t hm
       refine Vk.step (Vk.appendOp (x := (.tmp 15)) (y := (.tmp 17)) (e := 34) (t := 26) (by_ := 8) (sz := 1) (enc := (eI .u64)) (A := A_37) (cap := c_38) (xs := q_39) (ys := ([p_165] : List Int)) (B := A_169) (c2 := 1) 7 (some 18) hs (by kernel_rfl) (by kernel_rfl) (by kernel_rfl) (by kernel_rfl) rfl (Sl.lift (fun w ho => (Ow.to (S' := rowp A_169 1 34 1 (eI .u64) ([p_165] : List Int) :: S) ho [0] 9 (by kernel_rfl) (by kernel_rfl))) (Ow.rowSl 0 (Ow.to (S' := rowp A_169 1 34 1 (eI .u64) ([p_165] : List Int) :: S) hs.own [0] 9 (by kernel_rfl) (by kernel_rfl)) rfl)) (by kernel_rfl) (by kernel_rfl) (by decide) (by decide) h_171 fun A_172 c_173 w a hs => ?_)
       refine qst 6 0 (C.slc A_172 ((q_39 ++ ([p_165] : List Int)).length) c_173) hs rfl fun a w hs => ?_
       refine qpe 0 [] hs fun a hs => ?_
       refine he168 4 _ _ _ _ _ hs rfl fun a w hs => ?_
       replace hs : St 55 a w κ [(0, .func (.yield lp_16) #[] #[]), (2, pp b_14), (4, pp b_21), (5, .func (.func 117) #[] #[pp b_21]), (8, vw p_165), (15, .slice A_x0ops x0.ops.length c_x0ops), (16, vi ((x0.ops.length : Nat) : Int)), (17, vi q_36), (46, .func (.yield lp_16) #[] #[]), (47, vw p_165), (48, .bool true)] (rowp A_169 1 34 1 (eI .u64) ([p_165] : List Int) :: pt b_14 (blk [C.slc A_x1keys x1.keys.length c_x1keys, C.slc A_133 p_135.length c_134, C.slc A_161 p_163.length c_162, C.bool x1.blind] 113) :: pt b_21 (blk [C.slc A_33 q_35.length c_34] 26) :: rowp A_33 c_34 34 1 (eI .u64) q_35 :: pt lp_16 Xr_16 :: pt dm_16 dfD :: pt b_8 (blk ([C.slc A_172 ((q_39 ++ ([p_165] : List Int)).length) c_173]) 26) :: rowp A_172 c_173 34 1 (eI .u64) (q_39 ++ ([p_165] : List Int)) :: pt b_13 (blk (Tapi_Trace.obj x0 A_x0ops c_x0ops A_x0blocks c_x0blocks) 25) :: S) := hs.pick [0, 2, 4, 5, 8, 15, 16, 17, 46, 47, 48] (by kernel_rfl)
       refine qpk 1 [0, 2, 4, 5, 8, 15, 16, 17, 49] hs fun a hs => hK167 _ _ ?_
       clear hK167
       refine qcf hs ?_
       refine wp_skip ?_
       refine hK166 _ _ ?_
       clear hK166
       refine Vk.region ?_
       refine qld 2 (C.slc A_33 q_35.length c_34) hs rfl fun a hs => ?_
       refine qpu 1 hs fun a hs => ?_
       refine Vk.step (Vk.buildOp (sz := 1) (by_ := 8) (t := 26) (e := 34) (parts := #[(0, (.tmp 51))]) (zs := vals [cw 0]) ([p_165] : List Int) (eI .u64) (some 52) hs (by kernel_rfl) (by kernel_rfl) (by kernel_rfl) (by kernel_rfl) (by decide) rfl (fun x _ => rfl) (Nat.le_of_ble_eq_true (by kernel_rfl)) (by kernel_rfl) fun A_174 w a hs => ?_)
       obtain ⟨h_176, hm⟩ := ite_t hm
       refine Vk.step (Vk.appendOp (x := (.tmp 50)) (y := (.tmp 52)) (e := 34) (t := 26) (by_ := 8) (sz := 1) (enc := (eI .u64)) (A := A_33) (cap := c_34) (xs := q_35) (ys := ([p_165] : List Int)) (B := A_174) (c2 := 1) 4 (some 53) hs (by kernel_rfl) (by kernel_rfl) (by kernel_rfl) (by kernel_rfl) rfl (Sl.lift (fun w ho => (Ow.to (S' := rowp A_174 1 34 1 (eI .u64) ([p_165] : List Int) :: S) ho [0] 10 (by kernel_rfl) (by kernel_rfl))) (Ow.rowSl 0 (Ow.to (S' := rowp A_174 1 34 1 (eI .u64) ([p_165] : List Int) :: S) hs.own [0] 10 (by kernel_rfl) (by kernel_rfl)) rfl)) (by kernel_rfl) (by kernel_rfl) (by decide) (by decide) h_176 fun A_177 c_178 w a hs => ?_)
       refine qst 3 0 (C.slc A_177 ((q_35 ++ ([p_165] : List Int)).length) c_178) hs rfl fun a w hs => ?_
       refine qpk 0 [0, 2, 4, 5, 15, 16, 17] hs fun a hs => hK42 _ _ ?_
       clear hK42
       refine Vk.region ?_
       refine qpe 2 [(0, .func (.yield lp_16) #[] #[]), (2, pp b_14), (4, pp b_21), (5, .func (.func 117) #[] #[pp b_21]), (15, .slice A_x0ops x0.ops.length c_x0ops), (16, vi ((x0.ops.length : Nat) : Int)), (17, vi (IntKind.i64.wrap (q_36 + 1)))] hs fun a hs => ?_
       refine ih (p_135, p_163, (q_35 ++ ([p_165] : List Int)), (IntKind.i64.wrap (q_36 + 1)), (q_39 ++ ([p_165] : List Int))) _ _ ⟨A_133, c_134, A_161, c_162, A_177, c_178, A_172, c_173, hm, hx_136, hx_164, hs.go [0, 2, 4, 5, 15, 16, 17] [2, 3, 4, 5, 6, 7, 8, 9] 10 (by kernel_rfl) (by kernel_rfl) (by kernel_rfl)⟩
      refine qsr fun K141 hK141 => ?_
      refine qpu 1 hs fun a hs => ?_
      refine qld 8 (ci e_47.kind) hs rfl fun a hs => ?_
      refine qpu 2 hs fun a hs => ?_
      suffices hj_142 : ∀ a, St 55 a w κ [(0, .func (.yield lp_16) #[] #[]), (2, pp b_14), (4, pp b_21), (5, .func (.func 117) #[] #[pp b_21]), (7, pp b_51), (8, vw v_139), (15, .slice A_x0ops x0.ops.length c_x0ops), (16, vi ((x0.ops.length : Nat) : Int)), (17, vi q_36), (37, pp b_51), (38, vi e_47.kind), (39, .bool (e_47.kind == 12)), (40, .bool (e_47.kind == 12)), (43, .bool ((e_47.kind == 12) && x1.blind))] (pt lp_16 Xr_16 :: pt dm_16 dfD :: pt b_8 (blk [C.slc A_37 q_39.length c_38] 26) :: rowp A_37 c_38 34 1 (eI .u64) q_39 :: pt b_13 (blk (Tapi_Trace.obj x0 A_x0ops c_x0ops A_x0blocks c_x0blocks) 25) :: pt b_14 (blk [C.slc A_x1keys x1.keys.length c_x1keys, C.slc A_133 p_135.length c_134, C.slc A_29 q_31.length c_30, C.bool x1.blind] 113) :: pt b_21 (blk [C.slc A_33 q_35.length c_34] 26) :: rowp A_33 c_34 34 1 (eI .u64) q_35 :: pt b_51 (blk (Tapi_Op.cells e_47) 80) :: S) → wpFrom Tryz.prog _ _ 7 a w by
       rcases Bool.eq_false_or_eq_true (e_47.kind == 12) with hb | hb
       ·replace hs := hs.known (t := 40) hb (by kernel_rfl)
        refine qpu 1 hs fun a hs => ?_
        refine qld 5 (C.bool x1.blind) hs rfl fun a hs => ?_
        refine qpu 1 hs fun a hs => ?_
        have hq := hs.pick [0, 2, 4, 5, 7, 8, 15, 16, 17, 37, 38, 39, 40, 43] (L' := [(0, .func (.yield lp_16) #[] #[]), (2, pp b_14), (4, pp b_21), (5, .func (.func 117) #[] #[pp b_21]), (7, pp b_51), (8, vw v_139), (15, .slice A_x0ops x0.ops.length c_x0ops), (16, vi ((x0.ops.length : Nat) : Int)), (17, vi q_36), (37, pp b_51), (38, vi e_47.kind), (39, .bool (e_47.kind == 12)), (40, .bool true), (43, .bool x1.blind)]) (by kernel_rfl)
        exact hj_142 _ (hq.conv (by first | (rw [hb] <;> rfl) | rfl))
       ·replace hs := hs.known (t := 40) hb (by kernel_rfl)
        refine qpu 3 hs fun a hs => ?_
        have hq := hs.pick [0, 2, 4, 5, 7, 8, 15, 16, 17, 37, 38, 39, 40, 43] (L' := [(0, .func (.yield lp_16) #[] #[]), (2, pp b_14), (4, pp b_21), (5, .func (.func 117) #[] #[pp b_21]), (7, pp b_51), (8, vw v_139), (15, .slice A_x0ops x0.ops.length c_x0ops), (16, vi ((x0.ops.length : Nat) : Int)), (17, vi q_36), (37, pp b_51), (38, vi e_47.kind), (39, .bool (e_47.kind == 12)), (40, .bool false), (43, .bool false)]) (by kernel_rfl)
        exact hj_142 _ (hq.conv (by first | (rw [hb] <;> rfl) | rfl))
      intro a hs
      refine qpk 0 [0, 2, 4, 5, 8, 15, 16, 17, 43] hs fun a hs => hK141 _ _ ?_
      clear hK141
      refine qcs ((e_47.kind == 12) && x1.blind) hs (fun hb => ?_) fun hb => ?_
      ·replace hm := bif_t hm hb
       refine Vk.region ?_
       refine qpu 1 hs fun a hs => ?_
       refine Vk.step (Vk.call (some 45) 120 #[.pointer (some ⟨b_14, 2, none⟩)] hs (by kernel_rfl) (by kernel_rfl) (by kernel_rfl) ?_)
       refine Vk.enterI [(0, .pointer (some ⟨b_14, 2, none⟩))] Tryz.func120 rfl Tryz.ntmps120 (by kernel_rfl) (Nat.le_of_ble_eq_true (by kernel_rfl)) hs.own fun KR143 hKR143 hKP143 a hs => ?_
       refine qsk 1 [0] hs fun a hs => ?_
       refine qsr fun K145 hK145 => ?_
       refine qpu 2 hs fun a hs => ?_
       refine qld 5 (C.slc A_29 q_31.length c_30) hs rfl fun a hs => ?_
       obtain ⟨h_146, hm⟩ := ite_t hm
       obtain ⟨e_149, h_147, hm⟩ := bind_t hm
       obtain ⟨b_150, o_151, hA_152, h_148⟩ := Sl.elem hx_32 h_147
       refine qva (.pointer (some ⟨b_150, o_151 + 0 * 1, none⟩)) (op := (.indexAddr 26 (.tmp 6) (.const (vi 0)))) hs (fun o ho => run_idxSlc (k := .i64) ho (cap := c_30) (len := q_31.length) ((congrArg (fun A => Value.slice A (q_31.length) (c_30)) hA_152) ▸ (by kernel_rfl)) (by kernel_rfl) (by kernel_rfl) (idx_ok h_146 h_147) _) fun a hs => ?_
       refine qva (vw e_149) (op := (.load 34 (.tmp 7))) hs (fun o ho => run_load1 (c := cw e_149) ho (by kernel_rfl) (by kernel_rfl) (fun w ho => h_148 w ho 0 _ rfl) _ hs.own.drop.drop.drop.drop.drop.drop.drop.drop.drop) fun a hs => ?_
       refine qpk 1 [0, 3] hs fun a hs => hK145 _ _ ?_
       clear hK145
       refine qsr fun K153 hK153 => ?_
       refine qpu 3 hs fun a hs => ?_
       refine qld 5 (C.slc A_29 q_31.length c_30) hs rfl fun a hs => ?_
       obtain ⟨h_154, hm⟩ := ite_t hm
       obtain ⟨A_155, c_156, eA_157, ec_158, hx_159⟩ := Sl.sub hx_32 h_154.2
       refine qva (.slice A_155 ((cut q_31 (1) (q_31.length)).length) c_156) (op := (.slice 26 (.tmp 12) (some (.const (vi 1))) none none)) hs (fun o ho => run_sub (sz := 1) (e := 34) h_154.2 eA_157 ec_158 (Sl.le hx_32) ho (by kernel_rfl) (by kernel_rfl) (by kernel_rfl) ⟨.i64, 1, by kernel_rfl, h_154.1, rfl⟩ rfl _) fun a hs => ?_
       refine qpu 1 hs fun a hs => ?_
       refine qst 5 2 (C.slc A_155 ((cut q_31 (1) (q_31.length)).length) c_156) hs rfl fun a w hs => ?_
       refine qpe 0 [(3, vw e_149)] hs fun a hs => hK153 _ _ ?_
       clear hK153
       refine qse 2 [(2, vw e_149)] hs fun a hs => ?_
       refine wp_ret ?_
       refine hKP143 _ _ ?_
       refine hKR143 _ _ ?_
       refine Vk.ret1 (P := Tryz.prog) (fn := Tryz.f120) (vw e_149) hs rfl (by kernel_rfl) ⟨_, _, _, rfl, hs.own, fun a hs => ?_⟩
       refine qpe 1 [(0, .func (.yield lp_16) #[] #[]), (2, pp b_14), (4, pp b_21), (5, .func (.func 117) #[] #[pp b_21]), (8, vw e_149), (15, .slice A_x0ops x0.ops.length c_x0ops), (16, vi ((x0.ops.length : Nat) : Int)), (17, vi q_36)] hs fun a hs => ?_
       exact hj140 (cut q_31 (1) (q_31.length)) e_149 hm A_155 c_156 hx_159 _ _ (hs.go [0, 2, 4, 5, 8, 15, 16, 17] [5, 6, 7, 0, 1, 2, 3, 4] 9 (by kernel_rfl) (by kernel_rfl) (by kernel_rfl))
      ·replace hm := bif_f hm hb
       refine wp_skip ?_
       exact hj140 q_31 v_139 hm A_29 c_30 hx_32 _ _ (hs.go [0, 2, 4, 5, 8, 15, 16, 17] [5, 6, 7, 0, 1, 2, 3, 4] 9 (by kernel_rfl) (by kernel_rfl) (by kernel_rfl))
     refine qsr fun K97 hK97 => ?_
     refine qbx 1 80 [ci e_47.kind, ci e_47.dom, ci e_47.a, ci e_47.b, ci e_47.d, cw e_47.c] 3 hs fun b_98 w a hs => ?_
     refine qpe 1 [(0, pp b_14), (3, pp b_98)] hs fun a hs => hK97 _ _ ?_
     clear hK97
     refine Vk.seq fun K99 hK99 => ?_
     refine wp_block ?_
     refine qsr fun K100 hK100 => ?_
     refine qpu 1 hs fun a hs => ?_
     refine qld 0 (ci e_47.kind) hs rfl fun a hs => ?_
     refine qpk 2 [0, 3, 5] hs fun a hs => hK100 _ _ ?_
     clear hK100
     refine qcs (e_47.kind == 1) hs (fun hb => ?_) fun hb => ?_
     ·replace hm := bif_t hm hb
      refine qsr fun K101 hK101 => ?_
      refine qpu 3 hs fun a hs => ?_
      refine Vk.step (Vk.call (some 12) 120 #[.pointer (some ⟨b_14, 1, none⟩)] hs (by kernel_rfl) (by kernel_rfl) (by kernel_rfl) ?_)
      refine Vk.enterI [(0, .pointer (some ⟨b_14, 1, none⟩))] Tryz.func120 rfl Tryz.ntmps120 (by kernel_rfl) (Nat.le_of_ble_eq_true (by kernel_rfl)) hs.own fun KR102 hKR102 hKP102 a hs => ?_
      refine qsk 1 [0] hs fun a hs => ?_
      refine qsr fun K104 hK104 => ?_
      refine qpu 2 hs fun a hs => ?_
      refine qld 6 (C.slc A_25 q_27.length c_26) hs rfl fun a hs => ?_
      obtain ⟨h_105, hm⟩ := ite_t hm
      obtain ⟨e_108, h_106, hm⟩ := bind_t hm
      obtain ⟨b_109, o_110, hA_111, h_107⟩ := Sl.elem hx_28 h_106
      refine qva (.pointer (some ⟨b_109, o_110 + 0 * 1, none⟩)) (op := (.indexAddr 26 (.tmp 6) (.const (vi 0)))) hs (fun o ho => run_idxSlc (k := .i64) ho (cap := c_26) (len := q_27.length) ((congrArg (fun A => Value.slice A (q_27.length) (c_26)) hA_111) ▸ (by kernel_rfl)) (by kernel_rfl) (by kernel_rfl) (idx_ok h_105 h_106) _) fun a hs => ?_
      refine qva (vw e_108) (op := (.load 34 (.tmp 7))) hs (fun o ho => run_load1 (c := cw e_108) ho (by kernel_rfl) (by kernel_rfl) (fun w ho => h_107 w ho 0 _ rfl) _ hs.own.drop.drop.drop.drop.drop.drop.drop.drop.drop.drop) fun a hs => ?_
      refine qpk 1 [0, 3] hs fun a hs => hK104 _ _ ?_
      clear hK104
      refine qsr fun K112 hK112 => ?_
      refine qpu 3 hs fun a hs => ?_
      refine qld 6 (C.slc A_25 q_27.length c_26) hs rfl fun a hs => ?_
      obtain ⟨h_113, hm⟩ := ite_t hm
      obtain ⟨A_114, c_115, eA_116, ec_117, hx_118⟩ := Sl.sub hx_28 h_113.2
      refine qva (.slice A_114 ((cut q_27 (1) (q_27.length)).length) c_115) (op := (.slice 26 (.tmp 12) (some (.const (vi 1))) none none)) hs (fun o ho => run_sub (sz := 1) (e := 34) h_113.2 eA_116 ec_117 (Sl.le hx_28) ho (by kernel_rfl) (by kernel_rfl) (by kernel_rfl) ⟨.i64, 1, by kernel_rfl, h_113.1, rfl⟩ rfl _) fun a hs => ?_
      refine qpu 1 hs fun a hs => ?_
      refine qst 6 1 (C.slc A_114 ((cut q_27 (1) (q_27.length)).length) c_115) hs rfl fun a w hs => ?_
      refine qpe 0 [(3, vw e_108)] hs fun a hs => hK112 _ _ ?_
      clear hK112
      refine qse 2 [(2, vw e_108)] hs fun a hs => ?_
      refine wp_ret ?_
      refine hKP102 _ _ ?_
      refine hKR102 _ _ ?_
      refine Vk.ret1 (P := Tryz.prog) (fn := Tryz.f120) (vw e_108) hs rfl (by kernel_rfl) ⟨_, _, _, rfl, hs.own, fun a hs => ?_⟩
      refine qpe 1 [(4, vw e_108)] hs fun a hs => hK101 _ _ ?_
      clear hK101
      refine wp_ret ?_
      refine hKP96 _ _ ?_
      exact hj96 e_108 (cut q_27 (1) (q_27.length)) hm A_114 c_115 hx_118 _ _ (hs.go [4] [1, 2, 3, 4, 5, 6, 7, 8, 9] 10 (by kernel_rfl) (by kernel_rfl) (by kernel_rfl))
     ·replace hm := bif_f hm hb
      refine qsr fun K120 hK120 => ?_
      refine qpu 1 hs fun a hs => ?_
      refine qld 0 (ci e_47.kind) hs rfl fun a hs => ?_
      refine qpu 2 hs fun a hs => ?_
      suffices hj_121 : ∀ a, St 32 a w κ [(0, pp b_14), (3, pp b_98), (5, .bool (e_47.kind == 1)), (14, pp b_98), (15, vi e_47.kind), (16, .bool (e_47.kind == 2)), (17, .bool (e_47.kind == 2)), (23, .bool ((e_47.kind == 2) && (!x1.blind)))] (pt b_98 (blk (Tapi_Op.cells e_47) 80) :: pt lp_16 Xr_16 :: pt dm_16 dfD :: pt b_8 (blk [C.slc A_37 q_39.length c_38] 26) :: rowp A_37 c_38 34 1 (eI .u64) q_39 :: pt b_13 (blk (Tapi_Trace.obj x0 A_x0ops c_x0ops A_x0blocks c_x0blocks) 25) :: pt b_14 (blk [C.slc A_x1keys x1.keys.length c_x1keys, C.slc A_25 q_27.length c_26, C.slc A_29 q_31.length c_30, C.bool x1.blind] 113) :: pt b_21 (blk [C.slc A_33 q_35.length c_34] 26) :: rowp A_33 c_34 34 1 (eI .u64) q_35 :: pt b_51 (blk (Tapi_Op.cells e_47) 80) :: S) → wpFrom Tryz.prog _ _ 10 a w by
       rcases Bool.eq_false_or_eq_true (e_47.kind == 2) with hb | hb
       ·replace hs := hs.known (t := 17) hb (by kernel_rfl)
        refine qpu 3 hs fun a hs => ?_
        refine qld 6 (C.bool x1.blind) hs rfl fun a hs => ?_
        refine qpu 2 hs fun a hs => ?_
        have hq := hs.pick [0, 3, 5, 14, 15, 16, 17, 23] (L' := [(0, pp b_14), (3, pp b_98), (5, .bool (e_47.kind == 1)), (14, pp b_98), (15, vi e_47.kind), (16, .bool (e_47.kind == 2)), (17, .bool true), (23, .bool (!x1.blind))]) (by kernel_rfl)
        exact hj_121 _ (hq.conv (by first | (rw [hb] <;> rfl) | rfl))
       ·replace hs := hs.known (t := 17) hb (by kernel_rfl)
        refine qpu 6 hs fun a hs => ?_
        have hq := hs.pick [0, 3, 5, 14, 15, 16, 17, 23] (L' := [(0, pp b_14), (3, pp b_98), (5, .bool (e_47.kind == 1)), (14, pp b_98), (15, vi e_47.kind), (16, .bool (e_47.kind == 2)), (17, .bool false), (23, .bool false)]) (by kernel_rfl)
        exact hj_121 _ (hq.conv (by first | (rw [hb] <;> rfl) | rfl))
      intro a hs
      refine qpe 1 [(0, pp b_14), (3, pp b_98), (13, .bool ((e_47.kind == 2) && (!x1.blind)))] hs fun a hs => hK120 _ _ ?_
      clear hK120
      refine qcs ((e_47.kind == 2) && (!x1.blind)) hs (fun hb => ?_) fun hb => ?_
      ·replace hm := bif_t hm hb
       refine Vk.seq fun K122 hK122 => ?_
       obtain ⟨C_123, hC_123⟩ := qC hs.own
       refine qdr 9 κ C_123 hs fun w hs hqC_123 => ?_
       have hcl := qO hC_123 hs.own
       refine qdp (fuel := 5) [0, 1, 2, 4] hs hcl hqC_123 fun a hs => ?_
       refine qdl 3 6 (C.slc A_x1keys x1.keys.length c_x1keys) hs hcl hqC_123 hC_123 rfl fun a hs => ?_
       refine qdl 5 0 (cw e_47.c) hs hcl hqC_123 hC_123 rfl fun a hs => ?_
       obtain ⟨h_124, hm⟩ := ite_t hm
       obtain ⟨e_127, h_125, hm⟩ := bind_t hm
       obtain ⟨b_128, o_129, hA_130, h_126⟩ := Sl.elem hx_x1keys h_125
       refine qdt 6 (.pointer (some ⟨b_128, o_129 + e_47.c.toNat * 1, none⟩)) (op := (.indexAddr 26 (.tmp 27) (.tmp 29))) hs hcl hqC_123 (fun w hw o ho => by rw [hC_123] at hw; exact run_idxSlc (k := .u64) ho (cap := c_x1keys) (len := x1.keys.length) ((congrArg (fun A => Value.slice A (x1.keys.length) (c_x1keys)) hA_130) ▸ (by kernel_rfl)) (by kernel_rfl) (by kernel_rfl) (idx_ok h_124 h_125) _) fun a hs => ?_
       refine qdt 7 (vw e_127) (op := (.load 34 (.tmp 30))) hs hcl hqC_123 (fun w hw o ho => by rw [hC_123] at hw; exact run_load1 (c := cw e_127) ho (by kernel_rfl) (by kernel_rfl) (fun w ho => h_126 w ho 0 _ rfl) _ hw.drop.drop.drop.drop.drop.drop.drop.drop.drop.drop) fun a hs => ?_
       refine qdp (fuel := 0) [8] hs hcl hqC_123 fun a hs => ?_
       replace hs := hs.pick [4] (L' := [(4, vw e_127)]) (by kernel_rfl)
       refine Vk.dDone (by kernel_rfl) ?_
       refine hK122 _ _ ?_
       clear hK122
       refine wp_ret ?_
       refine hKP96 _ _ ?_
       exact hj96 e_127 q_27 hm A_25 c_26 hx_28 _ _ (hs.go [4] [1, 2, 3, 4, 5, 6, 7, 8, 9] 10 (by kernel_rfl) (by kernel_rfl) (by kernel_rfl))
      ·replace hm := bif_f hm hb
       refine wp_skip ?_
       refine hK99 _ _ ?_
       clear hK99
       refine qse 1 [(4, vw 0)] hs fun a hs => ?_
       refine wp_ret ?_
       refine hKP96 _ _ ?_
       exact hj96 0 q_27 hm A_25 c_26 hx_28 _ _ (hs.go [4] [1, 2, 3, 4, 5, 6, 7, 8, 9] 10 (by kernel_rfl) (by kernel_rfl) (by kernel_rfl))
    refine qsk 1 [0, 1] hs fun a hs => ?_
    refine Vk.seq fun K84 hK84 => ?_
    refine qsk 2 [0, 1, 5] hs fun a hs => ?_
    refine qcs (decide (e_47.d < 0)) hs (fun hb => ?_) fun hb => ?_
    ·replace hm := bif_t hm hb
     refine qse 1 [(3, vw 0)] hs fun a hs => ?_
     refine wp_ret ?_
     refine hKP82 _ _ ?_
     exact hj82 0 hm _ _ (hs.go [3] [0, 1, 2, 3, 4, 5, 6, 7, 8] 9 (by kernel_rfl) (by kernel_rfl) (by kernel_rfl))
    ·replace hm := bif_f hm hb
     refine wp_skip ?_
     refine hK84 _ _ ?_
     clear hK84
     refine qsr fun K87 hK87 => ?_
     refine qld 6 (C.slc A_33 q_35.length c_34) hs rfl fun a hs => ?_
     refine qpu 1 hs fun a hs => ?_
     obtain ⟨h_88, hm⟩ := ite_t hm
     obtain ⟨e_91, h_89, hm⟩ := bind_t hm
     obtain ⟨b_92, o_93, hA_94, h_90⟩ := Sl.elem (Ow.rowSl 0 (Ow.to (S' := rowp A_33 c_34 34 1 (eI .u64) q_35 :: S) hs.own [7] 9 (by kernel_rfl) (by kernel_rfl)) rfl) h_89
     refine qva (.pointer (some ⟨b_92, o_93 + e_47.d.toNat * 1, none⟩)) (op := (.indexAddr 26 (.tmp 6) (.tmp 7))) hs (fun o ho => run_idxSlc (k := .i64) ho (cap := c_34) (len := q_35.length) ((congrArg (fun A => Value.slice A (q_35.length) (c_34)) hA_94) ▸ (by kernel_rfl)) (by kernel_rfl) (by kernel_rfl) (idx_ok h_88 h_89) _) fun a hs => ?_
     refine qva (vw e_91) (op := (.load 34 (.tmp 8))) hs (fun o ho => run_load1 (c := cw e_91) ho (by kernel_rfl) (by kernel_rfl) (fun w ho => h_90 w ho 0 _ rfl) _ (Ow.to (S' := rowp A_33 c_34 34 1 (eI .u64) q_35 :: S) hs.own [7] 9 (by kernel_rfl) (by kernel_rfl))) fun a hs => ?_
     refine qpe 1 [(3, vw e_91)] hs fun a hs => hK87 _ _ ?_
     clear hK87
     refine wp_ret ?_
     refine hKP82 _ _ ?_
     exact hj82 e_91 hm _ _ (hs.go [3] [0, 1, 2, 3, 4, 5, 6, 7, 8] 9 (by kernel_rfl) (by kernel_rfl) (by kernel_rfl))
   refine qsk 1 [0, 1] hs fun a hs => ?_
   refine Vk.seq fun K70 hK70 => ?_
   refine qsk 2 [0, 1, 5] hs fun a hs => ?_
   refine qcs (decide (e_47.b < 0)) hs (fun hb => ?_) fun hb => ?_
   ·replace hm := bif_t hm hb
    refine qse 1 [(3, vw 0)] hs fun a hs => ?_
    refine wp_ret ?_
    refine hKP68 _ _ ?_
    exact hj68 0 hm _ _ (hs.go [3] [0, 1, 2, 3, 4, 5, 6, 7, 8] 9 (by kernel_rfl) (by kernel_rfl) (by kernel_rfl))
   ·replace hm := bif_f hm hb
    refine wp_skip ?_
    refine hK70 _ _ ?_
    clear hK70
    refine qsr fun K73 hK73 => ?_
    refine qld 6 (C.slc A_33 q_35.length c_34) hs rfl fun a hs => ?_
    refine qpu 1 hs fun a hs => ?_
    obtain ⟨h_74, hm⟩ := ite_t hm
    obtain ⟨e_77, h_75, hm⟩ := bind_t hm
    obtain ⟨b_78, o_79, hA_80, h_76⟩ := Sl.elem (Ow.rowSl 0 (Ow.to (S' := rowp A_33 c_34 34 1 (eI .u64) q_35 :: S) hs.own [7] 9 (by kernel_rfl) (by kernel_rfl)) rfl) h_75
    refine qva (.pointer (some ⟨b_78, o_79 + e_47.b.toNat * 1, none⟩)) (op := (.indexAddr 26 (.tmp 6) (.tmp 7))) hs (fun o ho => run_idxSlc (k := .i64) ho (cap := c_34) (len := q_35.length) ((congrArg (fun A => Value.slice A (q_35.length) (c_34)) hA_80) ▸ (by kernel_rfl)) (by kernel_rfl) (by kernel_rfl) (idx_ok h_74 h_75) _) fun a hs => ?_
    refine qva (vw e_77) (op := (.load 34 (.tmp 8))) hs (fun o ho => run_load1 (c := cw e_77) ho (by kernel_rfl) (by kernel_rfl) (fun w ho => h_76 w ho 0 _ rfl) _ (Ow.to (S' := rowp A_33 c_34 34 1 (eI .u64) q_35 :: S) hs.own [7] 9 (by kernel_rfl) (by kernel_rfl))) fun a hs => ?_
    refine qpe 1 [(3, vw e_77)] hs fun a hs => hK73 _ _ ?_
    clear hK73
    refine wp_ret ?_
    refine hKP68 _ _ ?_
    exact hj68 e_77 hm _ _ (hs.go [3] [0, 1, 2, 3, 4, 5, 6, 7, 8] 9 (by kernel_rfl) (by kernel_rfl) (by kernel_rfl))
  refine qsk 1 [0, 1] hs fun a hs => ?_
  refine Vk.seq fun K56 hK56 => ?_
  refine qsk 2 [0, 1, 5] hs fun a hs => ?_
  refine qcs (decide (e_47.a < 0)) hs (fun hb => ?_) fun hb => ?_
  ·replace hm := bif_t hm hb
   refine qse 1 [(3, vw 0)] hs fun a hs => ?_
   refine wp_ret ?_
   refine hKP54 _ _ ?_
   exact hj54 0 hm _ _ (hs.go [3] [4, 5, 6, 7, 8, 1, 2, 3, 0] 9 (by kernel_rfl) (by kernel_rfl) (by kernel_rfl))
  ·replace hm := bif_f hm hb
   refine wp_skip ?_
   refine hK56 _ _ ?_
   clear hK56
   refine qsr fun K59 hK59 => ?_
   refine qld 2 (C.slc A_33 q_35.length c_34) hs rfl fun a hs => ?_
   refine qpu 1 hs fun a hs => ?_
   obtain ⟨h_60, hm⟩ := ite_t hm
   obtain ⟨e_63, h_61, hm⟩ := bind_t hm
   obtain ⟨b_64, o_65, hA_66, h_62⟩ := Sl.elem (Ow.rowSl 0 (Ow.to (S' := rowp A_33 c_34 34 1 (eI .u64) q_35 :: S) hs.own [3] 9 (by kernel_rfl) (by kernel_rfl)) rfl) h_61
   refine qva (.pointer (some ⟨b_64, o_65 + e_47.a.toNat * 1, none⟩)) (op := (.indexAddr 26 (.tmp 6) (.tmp 7))) hs (fun o ho => run_idxSlc (k := .i64) ho (cap := c_34) (len := q_35.length) ((congrArg (fun A => Value.slice A (q_35.length) (c_34)) hA_66) ▸ (by kernel_rfl)) (by kernel_rfl) (by kernel_rfl) (idx_ok h_60 h_61) _) fun a hs => ?_
   refine qva (vw e_63) (op := (.load 34 (.tmp 8))) hs (fun o ho => run_load1 (c := cw e_63) ho (by kernel_rfl) (by kernel_rfl) (fun w ho => h_62 w ho 0 _ rfl) _ (Ow.to (S' := rowp A_33 c_34 34 1 (eI .u64) q_35 :: S) hs.own [3] 9 (by kernel_rfl) (by kernel_rfl))) fun a hs => ?_
   refine qpe 1 [(3, vw e_63)] hs fun a hs => hK59 _ _ ?_
   clear hK59
   refine wp_ret ?_
   refine hKP54 _ _ ?_
   exact hj54 e_63 hm _ _ (hs.go [3] [4, 5, 6, 7, 8, 1, 2, 3, 0] 9 (by kernel_rfl) (by kernel_rfl) (by kernel_rfl))
 ·replace hm := bif_f hm hb
  refine wp_exit ?_
  exact hx24 q_39 q_27 q_31 (Option.some.inj hm).symm A_37 c_38 A_25 c_26 hx_28 A_29 c_30 hx_32 _ _ (hs.go [] [3, 4, 5, 6, 7, 0] 8 (by kernel_rfl) (by kernel_rfl) (by kernel_rfl))


def replay_Run.j1 (k : Nat) (x0 : Tapi_Trace) (x1 : List Int) (x2 : List Int) (p_18 : Bool) : Option ((List Int × Int)) := (bif p_18 then some (([] : List Int), 5) else (replay_all.m k x0 (⟨x1, x2, [], false⟩ : Treplay_source)).bind fun v_23 => some (v_23, 0))
abbrev replay_Run.R (κ : Ctx) (S : List HP) (x0 : Tapi_Trace) (x1 : List Int) (x2 : List Int) (A_x0ops : Option Addr) (c_x0ops : Nat) (A_x0blocks : Option Addr) (c_x0blocks : Nat) (A_x1 : Option Addr) (c_x1 : Nat) (A_x2 : Option Addr) (c_x2 : Nat) (r : (List Int × Int)) : Ending → World → Prop := fun e w' => ∃ (A_r0 : Option Addr), ∃ (c_r0 : Nat), e = .returned (.tuple #[.slice A_r0 r.1.length c_r0, vi r.2]) ∧ Ow κ w' (rowp A_r0 c_r0 34 1 (eI .u64) r.1 :: S)
def replay_Run.m (k : Nat) (x0 : Tapi_Trace) (x1 : List Int) (x2 : List Int) : Option (List Int × Int) := (trace_Check.m k x0).bind fun v_7 => (bif v_7 != 0 then some (([] : List Int), v_7) else (trace_Words.m k x0).bind fun v_14 => (bif ((x1.length : Nat) : Int) != v_14 then replay_Run.j1 k x0 x1 x2 true else (trace_Draws.m k x0).bind fun v_17 => replay_Run.j1 k x0 x1 x2 (((x2.length : Nat) : Int) != v_17)))

set_option maxRecDepth 100000 in
set_option maxHeartbeats 4000000 in
theorem replay_Run.ok (k : Nat) (x0 : Tapi_Trace) (x1 : List Int) (x2 : List Int) (r : (List Int × Int)) (hm : replay_Run.m k x0 x1 x2 = some r) (κ : Ctx) (w : World) (S : List HP) (A_x0ops : Option Addr) (c_x0ops : Nat) (hx_x0ops : Sl κ S A_x0ops c_x0ops 6 Tapi_Op.cells x0.ops) (A_x0blocks : Option Addr) (c_x0blocks : Nat) (hx_x0blocks : Sl κ S A_x0blocks c_x0blocks 3 Tapi_Span.cells x0.blocks) (A_x1 : Option Addr) (c_x1 : Nat) (hx_x1 : Sl κ S A_x1 c_x1 1 (eI .u64) x1) (A_x2 : Option Addr) (c_x2 : Nat) (hx_x2 : Sl κ S A_x2 c_x2 1 (eI .u64) x2) (ho : Ow κ w (S)) :
  Calls Tryz.prog 29 #[.agg (vals [ci x0.n, C.slc A_x0ops x0.ops.length c_x0ops, C.slc A_x0blocks x0.blocks.length c_x0blocks]), .slice A_x1 x1.length c_x1, .slice A_x2 x2.length c_x2] w (replay_Run.R κ S x0 x1 x2 A_x0ops c_x0ops A_x0blocks c_x0blocks A_x1 c_x1 A_x2 c_x2 r) := by
 unfold replay_Run.m at hm
 generalize hRR : replay_Run.R κ S x0 x1 x2 A_x0ops c_x0ops A_x0blocks c_x0blocks A_x1 c_x1 A_x2 c_x2 r = RR
 refine qen [(0, .agg (vals [ci x0.n, C.slc A_x0ops x0.ops.length c_x0ops, C.slc A_x0blocks x0.blocks.length c_x0blocks])), (1, .slice A_x1 x1.length c_x1), (2, .slice A_x2 x2.length c_x2)] Tryz.func29 Tryz.ntmps29 ho fun a hs => ?_
 refine qsr fun K1 hK1 => ?_
 refine qbx 0 25 [ci x0.n, C.slc A_x0ops x0.ops.length c_x0ops, C.slc A_x0blocks x0.blocks.length c_x0blocks] 3 hs fun b_2 w a hs => ?_
 refine qpk 2 [1, 2, 3] hs fun a hs => hK1 _ _ ?_
 clear hK1
 refine Vk.seq fun K3 hK3 => ?_
 refine qsr fun K4 hK4 => ?_
 refine qln 0 ([ci x0.n, C.slc A_x0ops x0.ops.length c_x0ops, C.slc A_x0blocks x0.blocks.length c_x0blocks]) hs rfl fun a hs => ?_
 obtain ⟨v_7, h_6, hm⟩ := bind_t hm
 refine qcl (trace_Check.ok _ _ _ h_6 _ _ (pt b_2 (blk (Tapi_Trace.obj x0 A_x0ops c_x0ops A_x0blocks c_x0blocks) 25) :: S) A_x0ops c_x0ops hx_x0ops.less A_x0blocks c_x0blocks hx_x0blocks.less hs.own) hs fun w a hs => ?_
 refine qpk 1 [1, 2, 3, 8] hs fun a hs => hK4 _ _ ?_
 clear hK4
 refine qsk 2 [1, 2, 3, 8, 12] hs fun a hs => ?_
 refine qcs (v_7 != 0) hs (fun hb => ?_) fun hb => ?_
 ·replace hm := bif_t hm hb
  refine qsk 3 [6, 7] hs fun a hs => ?_
  refine wp_ret ?_
  replace hs := hs.addRow none 34 1 (eI .u64)
  exact Vk.ret2 (.slice none (([] : List Int).length) 0) (vi v_7) hs rfl (by kernel_rfl) (by kernel_rfl) (hRR ▸ by cases hm; exact ⟨none, 0, rfl, hs.own.f1.drop⟩)
 ·replace hm := bif_f hm hb
  refine wp_skip ?_
  refine hK3 _ _ ?_
  clear hK3
  refine Vk.seq fun K10 hK10 => ?_
  refine Vk.seq fun K11 hK11 => ?_
  have hj11 : ∀ (p_18 : Bool), replay_Run.j1 k x0 x1 x2 p_18 = some r → ∀ (a : Act) (w : World), St 31 a w κ [(1, .slice A_x1 x1.length c_x1), (2, .slice A_x2 x2.length c_x2), (3, pp b_2), (25, .bool p_18)] (pt b_2 (blk (Tapi_Trace.obj x0 A_x0ops c_x0ops A_x0blocks c_x0blocks) 25) :: S) → K11 a w := by
   intro p_18 hm a w hs
   unfold replay_Run.j1 at hm
   refine hK11 _ _ ?_
   refine qcs (p_18) hs (fun hb => ?_) fun hb => ?_
   ·replace hm := bif_t hm hb
    refine qsk 2 [6, 7] hs fun a hs => ?_
    refine wp_ret ?_
    replace hs := hs.addRow none 34 1 (eI .u64)
    exact Vk.ret2 (.slice none (([] : List Int).length) 0) (vi 5) hs rfl (by kernel_rfl) (by kernel_rfl) (hRR ▸ by cases hm; exact ⟨none, 0, rfl, hs.own.f1.drop⟩)
   ·replace hm := bif_f hm hb
    refine wp_skip ?_
    refine hK10 _ _ ?_
    clear hK10
    refine qsr fun K20 hK20 => ?_
    refine qln 0 ([ci x0.n, C.slc A_x0ops x0.ops.length c_x0ops, C.slc A_x0blocks x0.blocks.length c_x0blocks]) hs rfl fun a hs => ?_
    refine qpu 3 hs fun a hs => ?_
    obtain ⟨v_23, h_22, hm⟩ := bind_t hm
    refine Vk.step (Vk.call (some 30) 64 #[.agg (vals [ci x0.n, C.slc A_x0ops x0.ops.length c_x0ops, C.slc A_x0blocks x0.blocks.length c_x0blocks]), .agg (vals [C.slc A_x1 x1.length c_x1, C.slc A_x2 x2.length c_x2, C.slc none 0 0, C.bool false])] hs (by kernel_rfl) (by kernel_rfl) (by kernel_rfl) ?_)
    refine (replay_all.ok k x0 (⟨x1, x2, [], false⟩ : Treplay_source) v_23 h_22 κ w (pt b_2 (blk (Tapi_Trace.obj x0 A_x0ops c_x0ops A_x0blocks c_x0blocks) 25) :: S) A_x0ops c_x0ops hx_x0ops.less A_x0blocks c_x0blocks hx_x0blocks.less A_x1 c_x1 hx_x1.less A_x2 c_x2 hx_x2.less none 0 Sl.nil hs.own).mono ?_
    rintro _ w ⟨Ar21x0_24, cr21x0_25, rfl, how⟩
    refine ⟨_, _, _, rfl, how, fun a hs => ?_⟩
    refine qpe 2 [(6, .slice Ar21x0_24 v_23.length cr21x0_25), (7, vi 0)] hs fun a hs => hK20 _ _ ?_
    clear hK20
    refine wp_ret ?_
    exact Vk.ret2 (.slice Ar21x0_24 v_23.length cr21x0_25) (vi 0) hs rfl (by kernel_rfl) (by kernel_rfl) (hRR ▸ by cases hm; exact ⟨Ar21x0_24, cr21x0_25, rfl, hs.own.f1.drop⟩)
  refine Vk.region ?_
  refine qpu 2 hs fun a hs => ?_
  refine qln 0 ([ci x0.n, C.slc A_x0ops x0.ops.length c_x0ops, C.slc A_x0blocks x0.blocks.length c_x0blocks]) hs rfl fun a hs => ?_
  obtain ⟨v_14, h_13, hm⟩ := bind_t hm
  refine qcl (trace_Words.ok _ _ _ h_13 _ _ (pt b_2 (blk (Tapi_Trace.obj x0 A_x0ops c_x0ops A_x0blocks c_x0blocks) 25) :: S) A_x0ops c_x0ops hx_x0ops.less A_x0blocks c_x0blocks hx_x0blocks.less hs.own) hs fun w a hs => ?_
  refine qpu 2 hs fun a hs => ?_
  rcases Bool.eq_false_or_eq_true (((x1.length : Nat) : Int) != v_14) with hb | hb
  ·replace hm := bif_t hm hb
   replace hs := hs.known (t := 19) hb (by kernel_rfl)
   refine qpe 6 [(1, .slice A_x1 x1.length c_x1), (2, .slice A_x2 x2.length c_x2), (3, pp b_2), (25, .bool true)] hs fun a hs => ?_
   exact hj11 true hm _ _ (hs.go [1, 2, 3, 25] [0] 1 (by kernel_rfl) (by kernel_rfl) (by kernel_rfl))
  ·replace hm := bif_f hm hb
   replace hs := hs.known (t := 19) hb (by kernel_rfl)
   refine qpu 2 hs fun a hs => ?_
   refine qln 0 ([ci x0.n, C.slc A_x0ops x0.ops.length c_x0ops, C.slc A_x0blocks x0.blocks.length c_x0blocks]) hs rfl fun a hs => ?_
   obtain ⟨v_17, h_16, hm⟩ := bind_t hm
   refine qcl (trace_Draws.ok _ _ _ h_16 _ _ (pt b_2 (blk (Tapi_Trace.obj x0 A_x0ops c_x0ops A_x0blocks c_x0blocks) 25) :: S) A_x0ops c_x0ops hx_x0ops.less A_x0blocks c_x0blocks hx_x0blocks.less hs.own) hs fun w a hs => ?_
   refine qpe 2 [(1, .slice A_x1 x1.length c_x1), (2, .slice A_x2 x2.length c_x2), (3, pp b_2), (25, .bool (((x2.length : Nat) : Int) != v_17))] hs fun a hs => ?_
   exact hj11 (((x2.length : Nat) : Int) != v_17) hm _ _ (hs.go [1, 2, 3, 25] [0] 1 (by kernel_rfl) (by kernel_rfl) (by kernel_rfl))


def replay_Taps.j1 (k : Nat) (rec6 : (List Int) → Int → Option (List Int)) (q_9 : List Int) (q_10 : Int) (p_33 : Int) : Option (List Int) := (if (q_9.length + ([p_33] : List Int).length) * 8 ≤ 140737488355328 then rec6 (q_9 ++ ([p_33] : List Int)) (IntKind.i64.wrap (q_10 + 1)) else none)
def replay_Taps.l1 (x0 : List Int) (x1 : List Int) : Nat → (List Int) → Int → Option (List Int)
 | 0, _, _ => none
 | k + 1, q_9, q_10 => (bif decide (q_10 < ((x1.length : Nat) : Int)) then (if 0 ≤ q_10 then (x1[q_10.toNat]?).bind fun e_18 => (bif (decide (e_18 ≥ 0)) && (decide (e_18 < ((x0.length : Nat) : Int))) then (if 0 ≤ e_18 then (x0[e_18.toNat]?).bind fun e_29 => replay_Taps.j1 k (replay_Taps.l1 x0 x1 k) q_9 q_10 e_29 else none) else replay_Taps.j1 k (replay_Taps.l1 x0 x1 k) q_9 q_10 0) else none) else some q_9)
abbrev replay_Taps.R (κ : Ctx) (S : List HP) (x0 : List Int) (x1 : List Int) (A_x0 : Option Addr) (c_x0 : Nat) (A_x1 : Option Addr) (c_x1 : Nat) (r : List Int) : Ending → World → Prop := fun e w' => ∃ (A_r0 : Option Addr), ∃ (c_r0 : Nat), e = .returned (.slice A_r0 r.length c_r0) ∧ Ow κ w' (rowp A_r0 c_r0 34 1 (eI .u64) r :: S)
def replay_Taps.m (k : Nat) (x0 : List Int) (x1 : List Int) : Option (List Int) := (replay_Taps.l1 x0 x1 k ([] : List Int) 0).bind fun p_41 => some p_41

set_option maxRecDepth 100000 in
set_option maxHeartbeats 4000000 in
theorem replay_Taps.ok (k : Nat) (x0 : List Int) (x1 : List Int) (r : List Int) (hm : replay_Taps.m k x0 x1 = some r) (κ : Ctx) (w : World) (S : List HP) (A_x0 : Option Addr) (c_x0 : Nat) (hx_x0 : Sl κ S A_x0 c_x0 1 (eI .u64) x0) (A_x1 : Option Addr) (c_x1 : Nat) (hx_x1 : Sl κ S A_x1 c_x1 1 (eI .i64) x1) (ho : Ow κ w (S)) :
  Calls Tryz.prog 30 #[.slice A_x0 x0.length c_x0, .slice A_x1 x1.length c_x1] w (replay_Taps.R κ S x0 x1 A_x0 c_x0 A_x1 c_x1 r) := by
 unfold replay_Taps.m at hm
 generalize hRR : replay_Taps.R κ S x0 x1 A_x0 c_x0 A_x1 c_x1 r = RR
 refine qen [(0, .slice A_x0 x0.length c_x0), (1, .slice A_x1 x1.length c_x1)] Tryz.func30 Tryz.ntmps30 ho fun a hs => ?_
 refine qsk 1 [0, 1] hs fun a hs => ?_
 refine qsk 1 [0, 1, 5] hs fun a hs => ?_
 refine Vk.seq fun K3 hK3 => ?_
 refine qsk 3 [0, 5, 9, 10, 11] hs fun a hs => ?_
 refine wp_block ?_
 replace hs := hs.addRow none 34 1 (eI .u64)
 obtain ⟨r6, hl6, hm⟩ := bind_t hm
 have hx6 : ∀ (p_41 : List Int), r6 = p_41 → ∀ (A_39 : Option Addr) (c_40 : Nat) (a : Act) (w : World), St 33 a w κ [(5, .slice A_39 p_41.length c_40)] (rowp A_39 c_40 34 1 (eI .u64) p_41 :: S) → K3 a w := by
  intro p_41 he A_39 c_40 a w hs
  subst r6
  refine hK3 _ _ ?_
  clear hK3
  refine qse 2 [(4, .slice A_39 p_41.length c_40)] hs fun a hs => ?_
  refine wp_ret ?_
  exact qr1 (.slice A_39 p_41.length c_40) hs rfl hRR (by cases hm; exact ⟨A_39, c_40, rfl, hs.own⟩)
 refine Vk.loopBy (fun k (s : List Int × Int) a w => ∃ (A_7 : Option Addr), ∃ (c_8 : Nat), replay_Taps.l1 x0 x1 k s.1 s.2 = some r6 ∧ St 33 a w κ [(0, .slice A_x0 x0.length c_x0), (5, .slice A_7 s.1.length c_8), (9, .slice A_x1 x1.length c_x1), (10, vi ((x1.length : Nat) : Int)), (11, vi s.2)] (rowp A_7 c_8 34 1 (eI .u64) s.1 :: S)) k (([] : List Int), 0) ⟨none, 0, hl6, hs.go [0, 5, 9, 10, 11] [0] 1 (by kernel_rfl) (by kernel_rfl) (by kernel_rfl)⟩ (fun s a w h => by obtain ⟨_, _, h1, _⟩ := h; simp [replay_Taps.l1] at h1) (fun k KL6 ih s a w h => ?_)
 obtain ⟨q_9, q_10⟩ := s
 obtain ⟨A_7, c_8, hm, hs⟩ := h
 try dsimp only at hm hs
 rw [replay_Taps.l1] at hm
 refine qsk 1 [0, 5, 9, 10, 11, 12] hs fun a hs => ?_
 refine Vk.seq fun K12 hK12 => ?_
 refine qcs (decide (q_10 < ((x1.length : Nat) : Int))) hs (fun hb => ?_) fun hb => ?_
 ·replace hm := bif_t hm hb
  refine wp_skip ?_
  refine hK12 _ _ ?_
  clear hK12
  refine Vk.seq fun K13 hK13 => ?_
  refine wp_block ?_
  refine qsr fun K14 hK14 => ?_
  obtain ⟨h_15, hm⟩ := ite_t hm
  obtain ⟨e_18, h_16, hm⟩ := bind_t hm
  obtain ⟨b_19, o_20, hA_21, h_17⟩ := Sl.elem hx_x1 h_16
  refine qva (.pointer (some ⟨b_19, o_20 + q_10.toNat * 1, none⟩)) (op := (.indexAddr 28 (.tmp 9) (.tmp 11))) hs (fun o ho => run_idxSlc (k := .i64) ho (cap := c_x1) (len := x1.length) ((congrArg (fun A => Value.slice A (x1.length) (c_x1)) hA_21) ▸ (by kernel_rfl)) (by kernel_rfl) (by kernel_rfl) (idx_ok h_15 h_16) _) fun a hs => ?_
  refine qva (vi e_18) (op := (.load 3 (.tmp 13))) hs (fun o ho => run_load1 (c := ci e_18) ho (by kernel_rfl) (by kernel_rfl) (fun w ho => h_17 w ho 0 _ rfl) _ hs.own.drop) fun a hs => ?_
  refine qpk 1 [0, 5, 7, 9, 10, 11] hs fun a hs => hK14 _ _ ?_
  clear hK14
  refine qsk 1 [0, 5, 7, 8, 9, 10, 11] hs fun a hs => ?_
  refine Vk.seq fun K23 hK23 => ?_
  have hj23 : ∀ (p_33 : Int), replay_Taps.j1 k (replay_Taps.l1 x0 x1 k) q_9 q_10 p_33 = some r6 → ∀ (a : Act) (w : World), St 33 a w κ [(0, .slice A_x0 x0.length c_x0), (5, .slice A_7 q_9.length c_8), (8, vw p_33), (9, .slice A_x1 x1.length c_x1), (10, vi ((x1.length : Nat) : Int)), (11, vi q_10)] (rowp A_7 c_8 34 1 (eI .u64) q_9 :: S) → K23 a w := by
   intro p_33 hm a w hs
   unfold replay_Taps.j1 at hm
   refine hK23 _ _ ?_
   refine Vk.region ?_
   refine qpu 2 hs fun a hs => ?_
   refine Vk.step (Vk.buildOp (sz := 1) (by_ := 8) (t := 26) (e := 34) (parts := #[(0, (.tmp 28))]) (zs := vals [cw 0]) ([p_33] : List Int) (eI .u64) (some 29) hs (by kernel_rfl) (by kernel_rfl) (by kernel_rfl) (by kernel_rfl) (by decide) rfl (fun x _ => rfl) (Nat.le_of_ble_eq_true (by kernel_rfl)) (by kernel_rfl) fun A_34 w a hs => ?_)
   obtain ⟨h_36, hm⟩ := ite_t hm
   refine Vk.step (Vk.appendOp (x := (.tmp 27)) (y := (.tmp 29)) (e := 34) (t := 26) (by_ := 8) (sz := 1) (enc := (eI .u64)) (A := A_7) (cap := c_8) (xs := q_9) (ys := ([p_33] : List Int)) (B := A_34) (c2 := 1) 1 (some 30) hs (by kernel_rfl) (by kernel_rfl) (by kernel_rfl) (by kernel_rfl) rfl (Sl.lift (fun w ho => (Ow.to (S' := rowp A_34 1 34 1 (eI .u64) ([p_33] : List Int) :: S) ho [0] 2 (by kernel_rfl) (by kernel_rfl))) (Ow.rowSl 0 (Ow.to (S' := rowp A_34 1 34 1 (eI .u64) ([p_33] : List Int) :: S) hs.own [0] 2 (by kernel_rfl) (by kernel_rfl)) rfl)) (by kernel_rfl) (by kernel_rfl) (by decide) (by decide) h_36 fun A_37 c_38 w a hs => ?_)
   refine qpk 1 [0, 5, 9, 10, 11] hs fun a hs => hK13 _ _ ?_
   clear hK13
   refine Vk.region ?_
   refine qpk 2 [0, 5, 9, 10, 11] hs fun a hs => ?_
   refine ih ((q_9 ++ ([p_33] : List Int)), (IntKind.i64.wrap (q_10 + 1))) _ _ ⟨A_37, c_38, hm, hs.go [0, 5, 9, 10, 11] [1] 2 (by kernel_rfl) (by kernel_rfl) (by kernel_rfl)⟩
  refine qsr fun K24 hK24 => ?_
  refine qpu 3 hs fun a hs => ?_
  refine qsc 17 5 hs fun a hs => ?_
  refine qpe 0 [(0, .slice A_x0 x0.length c_x0), (5, .slice A_7 q_9.length c_8), (7, vi e_18), (8, vw 0), (9, .slice A_x1 x1.length c_x1), (10, vi ((x1.length : Nat) : Int)), (11, vi q_10), (22, .bool ((decide (e_18 ≥ 0)) && (decide (e_18 < ((x0.length : Nat) : Int)))))] hs fun a hs => hK24 _ _ ?_
  clear hK24
  refine qcs ((decide (e_18 ≥ 0)) && (decide (e_18 < ((x0.length : Nat) : Int)))) hs (fun hb => ?_) fun hb => ?_
  ·replace hm := bif_t hm hb
   refine Vk.region ?_
   refine qpu 2 hs fun a hs => ?_
   obtain ⟨h_26, hm⟩ := ite_t hm
   obtain ⟨e_29, h_27, hm⟩ := bind_t hm
   obtain ⟨b_30, o_31, hA_32, h_28⟩ := Sl.elem hx_x0 h_27
   refine qva (.pointer (some ⟨b_30, o_31 + e_18.toNat * 1, none⟩)) (op := (.indexAddr 26 (.tmp 23) (.tmp 24))) hs (fun o ho => run_idxSlc (k := .i64) ho (cap := c_x0) (len := x0.length) ((congrArg (fun A => Value.slice A (x0.length) (c_x0)) hA_32) ▸ (by kernel_rfl)) (by kernel_rfl) (by kernel_rfl) (idx_ok h_26 h_27) _) fun a hs => ?_
   refine qva (vw e_29) (op := (.load 34 (.tmp 25))) hs (fun o ho => run_load1 (c := cw e_29) ho (by kernel_rfl) (by kernel_rfl) (fun w ho => h_28 w ho 0 _ rfl) _ hs.own.drop) fun a hs => ?_
   refine qpe 1 [(0, .slice A_x0 x0.length c_x0), (5, .slice A_7 q_9.length c_8), (8, vw e_29), (9, .slice A_x1 x1.length c_x1), (10, vi ((x1.length : Nat) : Int)), (11, vi q_10)] hs fun a hs => ?_
   exact hj23 e_29 hm _ _ (hs.go [0, 5, 8, 9, 10, 11] [0] 1 (by kernel_rfl) (by kernel_rfl) (by kernel_rfl))
  ·replace hm := bif_f hm hb
   refine wp_skip ?_
   exact hj23 0 hm _ _ (hs.go [0, 5, 8, 9, 10, 11] [0] 1 (by kernel_rfl) (by kernel_rfl) (by kernel_rfl))
 ·replace hm := bif_f hm hb
  refine wp_exit ?_
  exact hx6 q_9 (Option.some.inj hm).symm A_7 c_8 _ _ (hs.go [5] [0] 1 (by kernel_rfl) (by kernel_rfl) (by kernel_rfl))


def count_row.l1 (v_7 : List Int) : Nat → Int → Int → Option (Int)
 | 0, _, _ => none
 | k + 1, q_11, q_12 => (bif decide (q_12 < ((v_7.length : Nat) : Int)) then (if 0 ≤ q_12 then (v_7[q_12.toNat]?).bind fun e_20 => (if 0 ≤ q_12 then count_row.l1 v_7 k (bor .i64 q_11 (shl .i64 (IntKind.i64.wrap (band .u64 e_20 1)) q_12)) (IntKind.i64.wrap (q_12 + 1)) else none) else none) else some q_11)
abbrev count_row.R (κ : Ctx) (S : List HP) (x0 : List Int) (x1 : List Int) (A_x0 : Option Addr) (c_x0 : Nat) (A_x1 : Option Addr) (c_x1 : Nat) (r : Int) : Ending → World → Prop := fun e w' => e = .returned (vi r) ∧ Ow κ w' (S)
def count_row.m (k : Nat) (x0 : List Int) (x1 : List Int) : Option Int := (replay_Taps.m k x0 x1).bind fun v_7 => (count_row.l1 v_7 k 0 0).bind fun p_25 => some p_25

set_option maxRecDepth 100000 in
set_option maxHeartbeats 4000000 in
theorem count_row.ok (k : Nat) (x0 : List Int) (x1 : List Int) (r : Int) (hm : count_row.m k x0 x1 = some r) (κ : Ctx) (w : World) (S : List HP) (A_x0 : Option Addr) (c_x0 : Nat) (hx_x0 : Sl κ S A_x0 c_x0 1 (eI .u64) x0) (A_x1 : Option Addr) (c_x1 : Nat) (hx_x1 : Sl κ S A_x1 c_x1 1 (eI .i64) x1) (ho : Ow κ w (S)) :
  Calls Tryz.prog 36 #[.slice A_x0 x0.length c_x0, .slice A_x1 x1.length c_x1] w (count_row.R κ S x0 x1 A_x0 c_x0 A_x1 c_x1 r) := by
 unfold count_row.m at hm
 generalize hRR : count_row.R κ S x0 x1 A_x0 c_x0 A_x1 c_x1 r = RR
 refine qen [(0, .slice A_x0 x0.length c_x0), (1, .slice A_x1 x1.length c_x1)] Tryz.func36 Tryz.ntmps36 ho fun a hs => ?_
 refine qsk 1 [0, 1] hs fun a hs => ?_
 refine qsk 1 [0, 1, 5] hs fun a hs => ?_
 refine Vk.seq fun K3 hK3 => ?_
 refine qsr fun K4 hK4 => ?_
 refine qpu 2 hs fun a hs => ?_
 obtain ⟨v_7, h_6, hm⟩ := bind_t hm
 refine Vk.step (Vk.call (some 10) 30 #[.slice A_x0 x0.length c_x0, .slice A_x1 x1.length c_x1] hs (by kernel_rfl) (by kernel_rfl) (by kernel_rfl) ?_)
 refine (replay_Taps.ok k x0 x1 v_7 h_6 κ w (S) A_x0 c_x0 hx_x0 A_x1 c_x1 hx_x1 hs.own).mono ?_
 rintro _ w ⟨Ar5x0_8, cr5x0_9, rfl, how⟩
 refine ⟨_, _, _, rfl, how, fun a hs => ?_⟩
 refine qpk 2 [5, 10, 11, 12] hs fun a hs => hK4 _ _ ?_
 clear hK4
 refine wp_block ?_
 obtain ⟨r10, hl10, hm⟩ := bind_t hm
 have hx10 : ∀ (p_25 : Int), r10 = p_25 → ∀ (a : Act) (w : World), St 26 a w κ [(5, vi p_25)] (S) → K3 a w := by
  intro p_25 he a w hs
  subst r10
  refine hK3 _ _ ?_
  clear hK3
  refine qse 2 [(4, vi p_25)] hs fun a hs => ?_
  refine wp_ret ?_
  exact qr1 (vi p_25) hs rfl hRR (by cases hm; exact ⟨rfl, hs.own⟩)
 refine Vk.loopBy (fun k (s : Int × Int) a w => count_row.l1 v_7 k s.1 s.2 = some r10 ∧ St 26 a w κ [(5, vi s.1), (10, .slice Ar5x0_8 v_7.length cr5x0_9), (11, vi ((v_7.length : Nat) : Int)), (12, vi s.2)] (rowp Ar5x0_8 cr5x0_9 34 1 (eI .u64) v_7 :: S)) k (0, 0) ⟨hl10, hs.go [5, 10, 11, 12] [0] 1 (by kernel_rfl) (by kernel_rfl) (by kernel_rfl)⟩ (fun s a w h => by obtain ⟨h1, _⟩ := h; simp [count_row.l1] at h1) (fun k KL10 ih s a w h => ?_)
 obtain ⟨q_11, q_12⟩ := s
 obtain ⟨hm, hs⟩ := h
 try dsimp only at hm hs
 rw [count_row.l1] at hm
 refine qsk 1 [5, 10, 11, 12, 13] hs fun a hs => ?_
 refine Vk.seq fun K14 hK14 => ?_
 refine qcs (decide (q_12 < ((v_7.length : Nat) : Int))) hs (fun hb => ?_) fun hb => ?_
 ·replace hm := bif_t hm hb
  refine wp_skip ?_
  refine hK14 _ _ ?_
  clear hK14
  refine Vk.seq fun K15 hK15 => ?_
  refine wp_block ?_
  refine qsr fun K16 hK16 => ?_
  refine qpu 1 hs fun a hs => ?_
  obtain ⟨h_17, hm⟩ := ite_t hm
  obtain ⟨e_20, h_18, hm⟩ := bind_t hm
  obtain ⟨b_21, o_22, hA_23, h_19⟩ := Sl.elem (Ow.rowSl 0 hs.own rfl) h_18
  refine qva (.pointer (some ⟨b_21, o_22 + q_12.toNat * 1, none⟩)) (op := (.indexAddr 26 (.tmp 10) (.tmp 12))) hs (fun o ho => run_idxSlc (k := .i64) ho (cap := cr5x0_9) (len := v_7.length) ((congrArg (fun A => Value.slice A (v_7.length) (cr5x0_9)) hA_23) ▸ (by kernel_rfl)) (by kernel_rfl) (by kernel_rfl) (idx_ok h_17 h_18) _) fun a hs => ?_
  refine qva (vw e_20) (op := (.load 34 (.tmp 15))) hs (fun o ho => run_load1 (c := cw e_20) ho (by kernel_rfl) (by kernel_rfl) (fun w ho => h_19 w ho 0 _ rfl) _ hs.own) fun a hs => ?_
  refine qpk 2 [5, 6, 7, 10, 11, 12] hs fun a hs => hK16 _ _ ?_
  clear hK16
  refine Vk.region ?_
  refine qpu 5 hs fun a hs => ?_
  obtain ⟨h_24, hm⟩ := ite_t hm
  refine qva (vi (shl .i64 (IntKind.i64.wrap (band .u64 e_20 1)) q_12)) (op := (.binOp .shl 3 (.tmp 20) (.tmp 21) 3)) hs (fun o ho => run_shl (k' := .i64) ho (by kernel_rfl) (by kernel_rfl) h_24 _) fun a hs => ?_
  refine qpk 2 [5, 10, 11, 12] hs fun a hs => hK15 _ _ ?_
  clear hK15
  refine Vk.region ?_
  refine qpk 2 [5, 10, 11, 12] hs fun a hs => ?_
  refine ih ((bor .i64 q_11 (shl .i64 (IntKind.i64.wrap (band .u64 e_20 1)) q_12)), (IntKind.i64.wrap (q_12 + 1))) _ _ ⟨hm, hs.go [5, 10, 11, 12] [0] 1 (by kernel_rfl) (by kernel_rfl) (by kernel_rfl)⟩
 ·replace hm := bif_f hm hb
  refine wp_exit ?_
  exact hx10 q_11 (Option.some.inj hm).symm _ _ (hs.go [5] [] 1 (by kernel_rfl) (by kernel_rfl) (by kernel_rfl))


abbrev slices_Clone_int_int.R (κ : Ctx) (S : List HP) (x0 : List Int) (A_x0 : Option Addr) (c_x0 : Nat) (r : List Int) : Ending → World → Prop := fun e w' => ∃ (A_r0 : Option Addr), ∃ (c_r0 : Nat), e = .returned (.slice A_r0 r.length c_r0) ∧ Ow κ w' (rowp A_r0 c_r0 3 1 (eI .i64) r :: S)
def slices_Clone_int_int.m (k : Nat) (x0 : List Int) : Option (List Int) := (if (([] : List Int).length + x0.length) * 8 ≤ 140737488355328 then some (([] : List Int) ++ x0) else none)

set_option maxRecDepth 100000 in
set_option maxHeartbeats 4000000 in
theorem slices_Clone_int_int.ok (k : Nat) (x0 : List Int) (r : List Int) (hm : slices_Clone_int_int.m k x0 = some r) (κ : Ctx) (w : World) (S : List HP) (A_x0 : Option Addr) (c_x0 : Nat) (hx_x0 : Sl κ S A_x0 c_x0 1 (eI .i64) x0) (ho : Ow κ w (S)) :
  Calls Tryz.prog 37 #[.slice A_x0 x0.length c_x0] w (slices_Clone_int_int.R κ S x0 A_x0 c_x0 r) := by
 unfold slices_Clone_int_int.m at hm
 rcases A_x0 with _ | p_x0
 ·obtain rfl : c_x0 = 0 := hx_x0.none rfl
  obtain rfl : x0 = [] := List.length_eq_zero_iff.1 (Nat.le_zero.1 hx_x0.le)
  replace hm : some ([] : List Int) = some r := by simpa using hm
  refine Vk.enter [(0, .slice none 0 0)] Tryz.func37 rfl Tryz.ntmps37 (by kernel_rfl) (Nat.le_of_ble_eq_true (by kernel_rfl)) ho fun a hs => ?_
  refine Vk.seq fun K1 hK1 => ?_
  refine Vk.region ?_
  refine Vk.pures 1 [(2, .slice none 0 0)] hs (by kernel_rfl) fun a hs => ?_
  replace hs := hs.pick [0] (L' := [(0, .slice none 0 0)]) (by kernel_rfl)
  refine Vk.done (by kernel_rfl) ?_
  refine hK1 _ _ ?_
  clear hK1
  refine Vk.seq fun K2 hK2 => ?_
  refine Vk.seq fun K3 hK3 => ?_
  refine Vk.region ?_
  refine Vk.pures 2 [(4, .bool true), (3, .slice none 0 0)] hs (by kernel_rfl) fun a hs => ?_
  replace hs := hs.pick [0, 4] (L' := [(0, .slice none 0 0), (4, .bool true)]) (by kernel_rfl)
  refine Vk.done (by kernel_rfl) ?_
  refine hK3 _ _ ?_
  clear hK3
  refine Vk.condT hs (by kernel_rfl) (by kernel_rfl) ?_
  refine Vk.seq fun K4 hK4 => ?_
  refine Vk.region ?_
  refine Vk.pures 1 [(2, .slice none 0 0)] hs (by kernel_rfl) fun a hs => ?_
  replace hs := hs.pick [2] (L' := [(2, .slice none 0 0)]) (by kernel_rfl)
  refine Vk.done (by kernel_rfl) ?_
  refine hK4 _ _ ?_
  clear hK4
  refine wp_ret ?_
  replace hs := hs.addRow none 3 1 (eI .i64)
  exact Vk.ret1 (P := Tryz.prog) (fn := Tryz.f37) (R := slices_Clone_int_int.R κ S [] none 0 r) (.slice none (([] : List Int).length) 0) hs rfl (by kernel_rfl) (by obtain rfl := Option.some.inj hm; exact ⟨none, 0, rfl, hs.own⟩)
 ·skip
  refine Vk.enter [(0, .slice (some p_x0) x0.length c_x0)] Tryz.func37 rfl Tryz.ntmps37 (by kernel_rfl) (Nat.le_of_ble_eq_true (by kernel_rfl)) ho fun a hs => ?_
  refine Vk.seq fun K1 hK1 => ?_
  refine Vk.region ?_
  refine Vk.pures 1 [(2, .slice none 0 0)] hs (by kernel_rfl) fun a hs => ?_
  replace hs := hs.pick [0] (L' := [(0, .slice (some p_x0) x0.length c_x0)]) (by kernel_rfl)
  refine Vk.done (by kernel_rfl) ?_
  refine hK1 _ _ ?_
  clear hK1
  refine Vk.seq fun K2 hK2 => ?_
  refine Vk.seq fun K3 hK3 => ?_
  refine Vk.region ?_
  refine Vk.pures 2 [(4, .bool false), (3, .slice (some p_x0) x0.length c_x0)] hs (by kernel_rfl) fun a hs => ?_
  replace hs := hs.pick [0, 4] (L' := [(0, .slice (some p_x0) x0.length c_x0), (4, .bool false)]) (by kernel_rfl)
  refine Vk.done (by kernel_rfl) ?_
  refine hK3 _ _ ?_
  clear hK3
  refine Vk.condF hs (by kernel_rfl) (by kernel_rfl) ?_
  refine wp_skip ?_
  refine hK2 _ _ ?_
  clear hK2
  refine Vk.seq fun K4 hK4 => ?_
  refine Vk.region ?_
  refine Vk.step (Vk.buildOp (sz := 1) (by_ := 8) (t := 28) (e := 3) (parts := #[]) (zs := vals [C.int .i64 0]) ([] : List Int) (eI .i64) (some 5) hs (by kernel_rfl) (by kernel_rfl) (by kernel_rfl) (by kernel_rfl) (by decide) rfl (fun x _ => rfl) (Nat.le_of_ble_eq_true (by kernel_rfl)) (by kernel_rfl) fun A_5 w a hs => ?_)
  refine Vk.pures 1 [(6, .slice (some p_x0) x0.length c_x0)] hs (by kernel_rfl) fun a hs => ?_
  obtain ⟨h_7, hm⟩ := ite_t hm
  refine Vk.step (Vk.appendOp (x := (.tmp 5)) (y := (.tmp 6)) (e := 3) (t := 28) (by_ := 8) (sz := 1) (enc := (eI .i64)) (A := A_5) (cap := 0) (xs := ([] : List Int)) (ys := x0) (B := (some p_x0)) (c2 := c_x0) 0 (some 7) hs (by kernel_rfl) (by kernel_rfl) (by kernel_rfl) (by kernel_rfl) rfl hx_x0.less (by kernel_rfl) (by kernel_rfl) (by decide) (by decide) h_7 fun A_8 c_9 w a hs => ?_)
  refine Vk.pures 1 [(2, .slice A_8 ((([] : List Int) ++ x0).length) c_9)] hs (by kernel_rfl) fun a hs => ?_
  replace hs := hs.pick [2] (L' := [(2, .slice A_8 ((([] : List Int) ++ x0).length) c_9)]) (by kernel_rfl)
  refine Vk.done (by kernel_rfl) ?_
  refine hK4 _ _ ?_
  clear hK4
  refine wp_ret ?_
  exact Vk.ret1 (P := Tryz.prog) (fn := Tryz.f37) (R := slices_Clone_int_int.R κ S x0 (some p_x0) c_x0 r) (.slice A_8 ((([] : List Int) ++ x0).length) c_9) hs rfl (by kernel_rfl) (by obtain rfl := Option.some.inj hm; exact ⟨A_8, c_9, rfl, hs.own⟩)


def count_Count.l1 (x0 : Tapi_Trace) (x1 : List Int) (x2 : List Int) (v_13 : Int) : Nat → Cells → Int → Option (Sum ((List Int × Int)) (Cells))
 | 0, _, _ => none
 | k + 1, q_20, q_21 => (bif decide (q_21 < (shl .i64 1 v_13)) then (count_Tape.m k q_21 v_13).bind fun v_30 => (replay_Run.m k x0 x1 v_30).bind fun v_35 => (bif v_35.2 != 0 then some (.inl (([] : List Int), v_35.2)) else (count_row.m k v_35.1 x2).bind fun v_43 => (if 0 ≤ v_43 ∧ v_43 < 16 then (getI .i64 q_20 (0 + v_43.toNat * 1)).bind fun v_46 => (if 0 ≤ v_43 ∧ v_43 < 16 then (if 0 + v_43.toNat * 1 < q_20.length then count_Count.l1 x0 x1 x2 v_13 k (q_20.set (0 + v_43.toNat * 1) (ci (IntKind.i64.wrap (v_46 + 1)))) (IntKind.i64.wrap (q_21 + 1)) else none) else none) else none)) else some (.inr q_20))
abbrev count_Count.R (κ : Ctx) (S : List HP) (x0 : Tapi_Trace) (x1 : List Int) (x2 : List Int) (A_x0ops : Option Addr) (c_x0ops : Nat) (A_x0blocks : Option Addr) (c_x0blocks : Nat) (A_x1 : Option Addr) (c_x1 : Nat) (A_x2 : Option Addr) (c_x2 : Nat) (r : (List Int × Int)) : Ending → World → Prop := fun e w' => ∃ (A_r0 : Option Addr), ∃ (c_r0 : Nat), e = .returned (.tuple #[.slice A_r0 r.1.length c_r0, vi r.2]) ∧ Ow κ w' (rowp A_r0 c_r0 3 1 (eI .i64) r.1 :: S)
def count_Count.m (k : Nat) (x0 : Tapi_Trace) (x1 : List Int) (x2 : List Int) : Option (List Int × Int) := (count_check.m k x0 ((x1.length : Nat) : Int) x2).bind fun v_7 => (bif v_7 != 0 then some (([] : List Int), v_7) else (trace_Draws.m k x0).bind fun v_13 => (if 0 ≤ v_13 then (count_Count.l1 x0 x1 x2 v_13 k [ci 0, ci 0, ci 0, ci 0, ci 0, ci 0, ci 0, ci 0, ci 0, ci 0, ci 0, ci 0, ci 0, ci 0, ci 0, ci 0] 0).bind fun x => match x with | .inl v => some v | .inr p_49 => (if 0 ≤ ((x2.length : Nat) : Int) then (wds .i64 16 p_49).bind fun l_54 => (if ((0 : Int) ≤ shl .i64 1 ((x2.length : Nat) : Int)) ∧ 0 ≤ (shl .i64 1 ((x2.length : Nat) : Int)).toNat ∧ (shl .i64 1 ((x2.length : Nat) : Int)).toNat ≤ l_54.length then (slices_Clone_int_int.m k (cut l_54 (0) ((shl .i64 1 ((x2.length : Nat) : Int)).toNat))).bind fun v_65 => some (v_65, 0) else none) else none) else none))

set_option maxRecDepth 100000 in
set_option maxHeartbeats 4000000 in
theorem count_Count.ok (k : Nat) (x0 : Tapi_Trace) (x1 : List Int) (x2 : List Int) (r : (List Int × Int)) (hm : count_Count.m k x0 x1 x2 = some r) (κ : Ctx) (w : World) (S : List HP) (A_x0ops : Option Addr) (c_x0ops : Nat) (hx_x0ops : Sl κ S A_x0ops c_x0ops 6 Tapi_Op.cells x0.ops) (A_x0blocks : Option Addr) (c_x0blocks : Nat) (hx_x0blocks : Sl κ S A_x0blocks c_x0blocks 3 Tapi_Span.cells x0.blocks) (A_x1 : Option Addr) (c_x1 : Nat) (hx_x1 : Sl κ S A_x1 c_x1 1 (eI .u64) x1) (A_x2 : Option Addr) (c_x2 : Nat) (hx_x2 : Sl κ S A_x2 c_x2 1 (eI .i64) x2) (ho : Ow κ w (S)) :
  Calls Tryz.prog 16 #[.agg (vals [ci x0.n, C.slc A_x0ops x0.ops.length c_x0ops, C.slc A_x0blocks x0.blocks.length c_x0blocks]), .slice A_x1 x1.length c_x1, .slice A_x2 x2.length c_x2] w (count_Count.R κ S x0 x1 x2 A_x0ops c_x0ops A_x0blocks c_x0blocks A_x1 c_x1 A_x2 c_x2 r) := by
 unfold count_Count.m at hm
 generalize hRR : count_Count.R κ S x0 x1 x2 A_x0ops c_x0ops A_x0blocks c_x0blocks A_x1 c_x1 A_x2 c_x2 r = RR
 refine qen [(0, .agg (vals [ci x0.n, C.slc A_x0ops x0.ops.length c_x0ops, C.slc A_x0blocks x0.blocks.length c_x0blocks])), (1, .slice A_x1 x1.length c_x1), (2, .slice A_x2 x2.length c_x2)] Tryz.func16 Tryz.ntmps16 ho fun a hs => ?_
 refine qsr fun K1 hK1 => ?_
 refine qbx 0 25 [ci x0.n, C.slc A_x0ops x0.ops.length c_x0ops, C.slc A_x0blocks x0.blocks.length c_x0blocks] 3 hs fun b_2 w a hs => ?_
 refine qpk 2 [1, 2, 3] hs fun a hs => hK1 _ _ ?_
 clear hK1
 refine Vk.seq fun K3 hK3 => ?_
 refine qsr fun K4 hK4 => ?_
 refine qln 0 ([ci x0.n, C.slc A_x0ops x0.ops.length c_x0ops, C.slc A_x0blocks x0.blocks.length c_x0blocks]) hs rfl fun a hs => ?_
 refine qpu 3 hs fun a hs => ?_
 obtain ⟨v_7, h_6, hm⟩ := bind_t hm
 refine qcl (count_check.ok _ _ _ _ _ h_6 _ _ (pt b_2 (blk (Tapi_Trace.obj x0 A_x0ops c_x0ops A_x0blocks c_x0blocks) 25) :: S) A_x0ops c_x0ops hx_x0ops.less A_x0blocks c_x0blocks hx_x0blocks.less A_x2 c_x2 hx_x2.less hs.own) hs fun w a hs => ?_
 refine qpk 1 [1, 2, 3, 8] hs fun a hs => hK4 _ _ ?_
 clear hK4
 refine qsk 2 [1, 2, 3, 8, 20] hs fun a hs => ?_
 refine qcs (v_7 != 0) hs (fun hb => ?_) fun hb => ?_
 ·replace hm := bif_t hm hb
  refine qsk 3 [6, 7] hs fun a hs => ?_
  refine wp_ret ?_
  replace hs := hs.addRow none 3 1 (eI .i64)
  exact Vk.ret2 (.slice none (([] : List Int).length) 0) (vi v_7) hs rfl (by kernel_rfl) (by kernel_rfl) (hRR ▸ by cases hm; exact ⟨none, 0, rfl, hs.own.f1.drop⟩)
 ·replace hm := bif_f hm hb
  refine wp_skip ?_
  refine hK3 _ _ ?_
  clear hK3
  refine qsr fun K10 hK10 => ?_
  refine qln 0 ([ci x0.n, C.slc A_x0ops x0.ops.length c_x0ops, C.slc A_x0blocks x0.blocks.length c_x0blocks]) hs rfl fun a hs => ?_
  obtain ⟨v_13, h_12, hm⟩ := bind_t hm
  refine qcl (trace_Draws.ok _ _ _ h_12 _ _ (pt b_2 (blk (Tapi_Trace.obj x0 A_x0ops c_x0ops A_x0blocks c_x0blocks) 25) :: S) A_x0ops c_x0ops hx_x0ops.less A_x0blocks c_x0blocks hx_x0blocks.less hs.own) hs fun w a hs => ?_
  refine qpk 1 [1, 2, 3, 9] hs fun a hs => hK10 _ _ ?_
  clear hK10
  refine qsr fun K14 hK14 => ?_
  refine qal 82 [ci 0, ci 0, ci 0, ci 0, ci 0, ci 0, ci 0, ci 0, ci 0, ci 0, ci 0, ci 0, ci 0, ci 0, ci 0, ci 0] 10 hs fun b_15 w a hs => ?_
  refine qpe 0 [(1, .slice A_x1 x1.length c_x1), (2, .slice A_x2 x2.length c_x2), (3, pp b_2), (9, vi v_13), (10, pp b_15)] hs fun a hs => hK14 _ _ ?_
  clear hK14
  refine Vk.seq fun K16 hK16 => ?_
  refine qsr fun K17 hK17 => ?_
  refine qpu 1 hs fun a hs => ?_
  obtain ⟨h_18, hm⟩ := ite_t hm
  refine qva (vi (shl .i64 1 v_13)) (op := (.binOp .shl 3 (.const (vi 1)) (.tmp 24) 3)) hs (fun o ho => run_shl (k' := .i64) ho (by kernel_rfl) (by kernel_rfl) h_18 _) fun a hs => ?_
  refine qpk 1 [1, 2, 3, 9, 10, 25, 26] hs fun a hs => hK17 _ _ ?_
  clear hK17
  refine wp_block ?_
  obtain ⟨r19, hl19, hm⟩ := bind_t hm
  have hx19 : ∀ (p_49 : Cells), r19 = Sum.inr p_49 → ∀ (a : Act) (w : World), St 54 a w κ [(2, .slice A_x2 x2.length c_x2), (10, pp b_15)] (pt b_15 (blk p_49 82) :: S) → K16 a w := by
   intro p_49 he a w hs
   subst r19
   refine hK16 _ _ ?_
   clear hK16
   refine qsr fun K52 hK52 => ?_
   refine qpu 2 hs fun a hs => ?_
   obtain ⟨h_53, hm⟩ := ite_t hm
   refine qva (vi (shl .i64 1 ((x2.length : Nat) : Int))) (op := (.binOp .shl 3 (.const (vi 1)) (.tmp 50) 3)) hs (fun o ho => run_shl (k' := .i64) ho (by kernel_rfl) (by kernel_rfl) h_53 _) fun a hs => ?_
   obtain ⟨l_54, h_55, hm⟩ := bind_t hm
   have hx_56 := Ow.ptSl (sz := 1) (N := 16) (off := 0) 0 hs.own rfl (part_all (wds_clen h_55)) (wds_sl h_55)
   obtain ⟨h_57, hm⟩ := ite_t hm
   obtain ⟨A_58, c_59, eA_60, ec_61, hx_62⟩ := Sl.sub hx_56 h_57.2
   refine qva (.slice A_58 ((cut l_54 (0) ((shl .i64 1 ((x2.length : Nat) : Int)).toNat)).length) c_59) (op := (.slice 82 (.tmp 10) none (some (.tmp 51)) none)) hs (fun o ho => run_arr (sz := 1) (e := 3) (wds_len h_55) h_57.2 eA_60 ec_61 ho (by kernel_rfl) (by kernel_rfl) (by kernel_rfl) rfl ⟨.i64, (shl .i64 1 ((x2.length : Nat) : Int)), by kernel_rfl, h_57.1, rfl⟩ _) fun a hs => ?_
   obtain ⟨v_65, h_64, hm⟩ := bind_t hm
   refine Vk.step (Vk.call (some 53) 37 #[.slice A_58 ((cut l_54 (0) ((shl .i64 1 ((x2.length : Nat) : Int)).toNat)).length) c_59] hs (by kernel_rfl) (by kernel_rfl) (by kernel_rfl) ?_)
   refine (slices_Clone_int_int.ok k (cut l_54 (0) ((shl .i64 1 ((x2.length : Nat) : Int)).toNat)) v_65 h_64 κ w (pt b_15 (blk p_49 82) :: S) A_58 c_59 hx_62 hs.own).mono ?_
   rintro _ w ⟨Ar63x0_66, cr63x0_67, rfl, how⟩
   refine ⟨_, _, _, rfl, how, fun a hs => ?_⟩
   refine qpe 2 [(6, .slice Ar63x0_66 v_65.length cr63x0_67), (7, vi 0)] hs fun a hs => hK52 _ _ ?_
   clear hK52
   refine wp_ret ?_
   exact Vk.ret2 (.slice Ar63x0_66 v_65.length cr63x0_67) (vi 0) hs rfl (by kernel_rfl) (by kernel_rfl) (hRR ▸ by cases hm; exact ⟨Ar63x0_66, cr63x0_67, rfl, hs.own.f1.drop⟩)
  have hret19 : ∀ v, r19 = Sum.inl v → v = r := by intro v he; subst r19; exact Option.some.inj hm
  refine Vk.loopBy (fun k (s : Cells × Int) a w => count_Count.l1 x0 x1 x2 v_13 k s.1 s.2 = some r19 ∧ St 54 a w κ [(1, .slice A_x1 x1.length c_x1), (2, .slice A_x2 x2.length c_x2), (3, pp b_2), (9, vi v_13), (10, pp b_15), (25, vi (shl .i64 1 v_13)), (26, vi s.2)] (pt b_2 (blk (Tapi_Trace.obj x0 A_x0ops c_x0ops A_x0blocks c_x0blocks) 25) :: pt b_15 (blk s.1 82) :: S)) k ([ci 0, ci 0, ci 0, ci 0, ci 0, ci 0, ci 0, ci 0, ci 0, ci 0, ci 0, ci 0, ci 0, ci 0, ci 0, ci 0], 0) ⟨hl19, hs.go [1, 2, 3, 9, 10, 25, 26] [1, 0] 2 (by kernel_rfl) (by kernel_rfl) (by kernel_rfl)⟩ (fun s a w h => by obtain ⟨h1, _⟩ := h; simp [count_Count.l1] at h1) (fun k KL19 ih s a w h => ?_)
  obtain ⟨q_20, q_21⟩ := s
  obtain ⟨hm, hs⟩ := h
  try dsimp only at hm hs
  rw [count_Count.l1] at hm
  refine qsk 1 [1, 2, 3, 9, 10, 25, 26, 27] hs fun a hs => ?_
  refine Vk.seq fun K23 hK23 => ?_
  refine qcs (decide (q_21 < (shl .i64 1 v_13))) hs (fun hb => ?_) fun hb => ?_
  ·replace hm := bif_t hm hb
   refine wp_skip ?_
   refine hK23 _ _ ?_
   clear hK23
   refine Vk.seq fun K24 hK24 => ?_
   refine wp_block ?_
   refine qsk 2 [1, 2, 3, 9, 10, 11, 25, 26] hs fun a hs => ?_
   refine Vk.seq fun K26 hK26 => ?_
   obtain ⟨C_27, hC_27⟩ := qC hs.own
   refine qdr 11 κ C_27 hs fun w hs hqC_27 => ?_
   have hcl := qO hC_27 hs.own
   refine qdp (fuel := 8) [1, 2, 3] hs hcl hqC_27 fun a hs => ?_
   refine qdn 0 0 ([ci x0.n, C.slc A_x0ops x0.ops.length c_x0ops, C.slc A_x0blocks x0.blocks.length c_x0blocks]) hs hcl hqC_27 hC_27 rfl fun a hs => ?_
   obtain ⟨v_30, h_29, hm⟩ := bind_t hm
   refine Vk.dOnly (i := 4) (by kernel_rfl) (Vk.call (some 34) 19 #[vi q_21, vi v_13] hs (by kernel_rfl) (by kernel_rfl) (by kernel_rfl) ?_)
   refine (count_Tape.ok k q_21 v_13 v_30 h_29 κ w (pt b_2 (blk (Tapi_Trace.obj x0 A_x0ops c_x0ops A_x0blocks c_x0blocks) 25) :: pt b_15 (blk q_20 82) :: S) hs.own).mono ?_
   rintro _ w ⟨Ar28x0_31, cr28x0_32, rfl, how⟩
   refine ⟨_, _, _, rfl, how, fun a hs => ?_⟩
   replace hcl := qO hC_27 hs.own.drop
   refine ⟨fun _ => hcl, ?_⟩
   obtain ⟨v_35, h_34, hm⟩ := bind_t hm
   refine Vk.dOnly (i := 5) (by kernel_rfl) (Vk.call (some 35) 29 #[.agg (vals [ci x0.n, C.slc A_x0ops x0.ops.length c_x0ops, C.slc A_x0blocks x0.blocks.length c_x0blocks]), .slice A_x1 x1.length c_x1, .slice Ar28x0_31 v_30.length cr28x0_32] hs (by kernel_rfl) (by kernel_rfl) (by kernel_rfl) ?_)
   refine (replay_Run.ok k x0 x1 v_30 v_35 h_34 κ w (rowp Ar28x0_31 cr28x0_32 34 1 (eI .u64) v_30 :: pt b_2 (blk (Tapi_Trace.obj x0 A_x0ops c_x0ops A_x0blocks c_x0blocks) 25) :: pt b_15 (blk q_20 82) :: S) A_x0ops c_x0ops hx_x0ops.less.less.less A_x0blocks c_x0blocks hx_x0blocks.less.less.less A_x1 c_x1 hx_x1.less.less.less Ar28x0_31 cr28x0_32 (Sl.lift (fun w ho => (Ow.to (S' := rowp Ar28x0_31 cr28x0_32 34 1 (eI .u64) v_30 :: S) ho [0] 3 (by kernel_rfl) (by kernel_rfl))) (Ow.rowSl 0 (Ow.to (S' := rowp Ar28x0_31 cr28x0_32 34 1 (eI .u64) v_30 :: S) hs.own [0] 3 (by kernel_rfl) (by kernel_rfl)) rfl)) hs.own).mono ?_
   rintro _ w ⟨Ar33x0_36, cr33x0_37, rfl, how⟩
   refine ⟨_, _, _, rfl, how, fun a hs => ?_⟩
   replace hcl := qO hC_27 hs.own.f1.drop.drop
   refine ⟨fun _ => hcl, ?_⟩
   refine qdp (fuel := 0) [6, 7, 8, 9, 10] hs hcl hqC_27 fun a hs => ?_
   replace hs := hs.pick [1, 2, 3, 9, 10, 12, 13, 25, 26] (L' := [(1, .slice A_x1 x1.length c_x1), (2, .slice A_x2 x2.length c_x2), (3, pp b_2), (9, vi v_13), (10, pp b_15), (12, .slice Ar33x0_36 v_35.1.length cr33x0_37), (13, vi v_35.2), (25, vi (shl .i64 1 v_13)), (26, vi q_21)]) (by kernel_rfl)
   refine Vk.dDone (by kernel_rfl) ?_
   refine hK26 _ _ ?_
   clear hK26
   refine Vk.seq fun K38 hK38 => ?_
   refine qsk 2 [1, 2, 3, 9, 10, 12, 13, 25, 26, 39] hs fun a hs => ?_
   refine qcs (v_35.2 != 0) hs (fun hb => ?_) fun hb => ?_
   ·replace hm := bif_t hm hb
    refine qsk 3 [6, 7] hs fun a hs => ?_
    refine wp_ret ?_
    replace hs := hs.addRow none 3 1 (eI .i64)
    exact Vk.ret2 (P := Tryz.prog) (fn := Tryz.f16) (R := RR) (.slice none (([] : List Int).length) 0) (vi v_35.2) hs rfl (by kernel_rfl) (by kernel_rfl) (by obtain rfl := hret19 _ ((Option.some.inj hm).symm); subst hRR; exact ⟨none, 0, rfl, (hs.own.too [0] 5)⟩)
   ·replace hm := bif_f hm hb
    refine wp_skip ?_
    refine hK38 _ _ ?_
    clear hK38
    refine Vk.region ?_
    refine qpu 2 hs fun a hs => ?_
    obtain ⟨v_43, h_42, hm⟩ := bind_t hm
    refine qcl (count_row.ok _ _ _ _ h_42 _ _ (rowp Ar33x0_36 cr33x0_37 34 1 (eI .u64) v_35.1 :: rowp Ar28x0_31 cr28x0_32 34 1 (eI .u64) v_30 :: pt b_2 (blk (Tapi_Trace.obj x0 A_x0ops c_x0ops A_x0blocks c_x0blocks) 25) :: pt b_15 (blk q_20 82) :: S) Ar33x0_36 cr33x0_37 (Sl.lift (fun w ho => (Ow.to (S' := rowp Ar33x0_36 cr33x0_37 34 1 (eI .u64) v_35.1 :: S) ho [0] 4 (by kernel_rfl) (by kernel_rfl))) (Ow.rowSl 0 (Ow.to (S' := rowp Ar33x0_36 cr33x0_37 34 1 (eI .u64) v_35.1 :: S) hs.own [0] 4 (by kernel_rfl) (by kernel_rfl)) rfl)) A_x2 c_x2 hx_x2.less.less.less.less hs.own) hs fun w a hs => ?_
    obtain ⟨h_44, hm⟩ := ite_t hm
    refine qix b_15 0 1 hs h_44 fun a hs => ?_
    obtain ⟨v_46, h_45, hm⟩ := bind_t hm
    refine qli 3 hs rfl h_45 fun a hs => ?_
    refine qpu 1 hs fun a hs => ?_
    obtain ⟨h_47, hm⟩ := ite_t hm
    refine qix b_15 0 1 hs h_47 fun a hs => ?_
    obtain ⟨h_48, hm⟩ := ite_t hm
    refine Vk.step (Vk.store1 (b := b_15) (ty := 3) (x := (.tmp 47)) (y := (.tmp 46)) (off := 0 + v_43.toNat * 1) (ci (IntKind.i64.wrap (v_46 + 1))) 3 hs (by kernel_rfl) (by kernel_rfl) (by kernel_rfl) (by kernel_rfl) (by kernel_rfl) (by kernel_rfl) rfl h_48 fun a w hs => ?_)
    refine qpk 0 [1, 2, 3, 9, 10, 25, 26] hs fun a hs => hK24 _ _ ?_
    clear hK24
    refine Vk.region ?_
    refine qpe 2 [(1, .slice A_x1 x1.length c_x1), (2, .slice A_x2 x2.length c_x2), (3, pp b_2), (9, vi v_13), (10, pp b_15), (25, vi (shl .i64 1 v_13)), (26, vi (IntKind.i64.wrap (q_21 + 1)))] hs fun a hs => ?_
    refine ih ((q_20.set (0 + v_43.toNat * 1) (ci (IntKind.i64.wrap (v_46 + 1)))), (IntKind.i64.wrap (q_21 + 1))) _ _ ⟨hm, hs.go [1, 2, 3, 9, 10, 25, 26] [2, 3] 4 (by kernel_rfl) (by kernel_rfl) (by kernel_rfl)⟩
  ·replace hm := bif_f hm hb
   refine wp_exit ?_
   exact hx19 q_20 (Option.some.inj hm).symm _ _ (hs.go [2, 10] [1] 2 (by kernel_rfl) (by kernel_rfl) (by kernel_rfl))


def visorref18_Ints.l1 (x0 : List Int) (x1 : List Int) : Nat → Int → Option (Sum (Bool) (Unit))
 | 0, _ => none
 | k + 1, q_8 => (bif decide (q_8 < ((x0.length : Nat) : Int)) then (if 0 ≤ q_8 then (x0[q_8.toNat]?).bind fun e_17 => (if 0 ≤ q_8 then (x1[q_8.toNat]?).bind fun e_24 => (bif e_17 != e_24 then some (.inl false) else visorref18_Ints.l1 x0 x1 k (IntKind.i64.wrap (q_8 + 1))) else none) else none) else some (.inr ()))
abbrev visorref18_Ints.R (κ : Ctx) (S : List HP) (x0 : List Int) (x1 : List Int) (A_x0 : Option Addr) (c_x0 : Nat) (A_x1 : Option Addr) (c_x1 : Nat) (r : Bool) : Ending → World → Prop := fun e w' => e = .returned (.bool r) ∧ Ow κ w' (S)
def visorref18_Ints.m (k : Nat) (x0 : List Int) (x1 : List Int) : Option Bool := (bif ((x0.length : Nat) : Int) != ((x1.length : Nat) : Int) then some false else (visorref18_Ints.l1 x0 x1 k 0).bind fun x => match x with | .inl v => some v | .inr () => some true)

set_option maxRecDepth 100000 in
set_option maxHeartbeats 4000000 in
theorem visorref18_Ints.ok (k : Nat) (x0 : List Int) (x1 : List Int) (r : Bool) (hm : visorref18_Ints.m k x0 x1 = some r) (κ : Ctx) (w : World) (S : List HP) (A_x0 : Option Addr) (c_x0 : Nat) (hx_x0 : Sl κ S A_x0 c_x0 1 (eI .i64) x0) (A_x1 : Option Addr) (c_x1 : Nat) (hx_x1 : Sl κ S A_x1 c_x1 1 (eI .i64) x1) (ho : Ow κ w (S)) :
  Calls Tryz.prog 13 #[.slice A_x0 x0.length c_x0, .slice A_x1 x1.length c_x1] w (visorref18_Ints.R κ S x0 x1 A_x0 c_x0 A_x1 c_x1 r) := by
 unfold visorref18_Ints.m at hm
 generalize hRR : visorref18_Ints.R κ S x0 x1 A_x0 c_x0 A_x1 c_x1 r = RR
 refine qen [(0, .slice A_x0 x0.length c_x0), (1, .slice A_x1 x1.length c_x1)] Tryz.func13 Tryz.ntmps13 ho fun a hs => ?_
 refine qsk 1 [0, 1] hs fun a hs => ?_
 refine Vk.seq fun K2 hK2 => ?_
 refine qsk 5 [0, 1, 10] hs fun a hs => ?_
 refine qcs (((x0.length : Nat) : Int) != ((x1.length : Nat) : Int)) hs (fun hb => ?_) fun hb => ?_
 ·replace hm := bif_t hm hb
  refine qse 1 [(4, .bool false)] hs fun a hs => ?_
  refine wp_ret ?_
  exact qr1 (.bool false) hs rfl hRR (by cases hm; exact ⟨rfl, hs.own⟩)
 ·replace hm := bif_f hm hb
  refine wp_skip ?_
  refine hK2 _ _ ?_
  clear hK2
  refine Vk.seq fun K5 hK5 => ?_
  refine qsk 1 [0, 1, 5] hs fun a hs => ?_
  refine wp_block ?_
  obtain ⟨r7, hl7, hm⟩ := bind_t hm
  have hx7 : r7 = Sum.inr () → ∀ (a : Act) (w : World), St 26 a w κ [] (S) → K5 a w := by
   intro he a w hs
   subst r7
   refine hK5 _ _ ?_
   clear hK5
   refine qse 1 [(4, .bool true)] hs fun a hs => ?_
   refine wp_ret ?_
   exact qr1 (.bool true) hs rfl hRR (by cases hm; exact ⟨rfl, hs.own⟩)
  have hret7 : ∀ v, r7 = Sum.inl v → v = r := by intro v he; subst r7; exact Option.some.inj hm
  refine Vk.loopBy (fun k (s : Int) a w => visorref18_Ints.l1 x0 x1 k s = some r7 ∧ St 26 a w κ [(0, .slice A_x0 x0.length c_x0), (1, .slice A_x1 x1.length c_x1), (5, vi s)] (S)) k 0 ⟨hl7, hs.go [0, 1, 5] [] 0 (by kernel_rfl) (by kernel_rfl) (by kernel_rfl)⟩ (fun s a w h => by obtain ⟨h1, _⟩ := h; simp [visorref18_Ints.l1] at h1) (fun k KL7 ih q_8 a w h => ?_)
  obtain ⟨hm, hs⟩ := h
  try dsimp only at hm hs
  rw [visorref18_Ints.l1] at hm
  refine Vk.seq fun K9 hK9 => ?_
  refine qsk 4 [0, 1, 5, 14] hs fun a hs => ?_
  refine qcs (decide (q_8 < ((x0.length : Nat) : Int))) hs (fun hb => ?_) fun hb => ?_
  ·replace hm := bif_t hm hb
   refine wp_skip ?_
   refine hK9 _ _ ?_
   clear hK9
   refine Vk.seq fun K11 hK11 => ?_
   refine wp_block ?_
   refine Vk.seq fun K12 hK12 => ?_
   obtain ⟨C_13, hC_13⟩ := qC hs.own
   refine qdr 9 κ C_13 hs fun w hs hqC_13 => ?_
   have hcl := qO hC_13 hs.own
   refine qdp (fuel := 5) [0, 1, 4, 5] hs hcl hqC_13 fun a hs => ?_
   obtain ⟨h_14, hm⟩ := ite_t hm
   obtain ⟨e_17, h_15, hm⟩ := bind_t hm
   obtain ⟨b_18, o_19, hA_20, h_16⟩ := Sl.elem hx_x0 h_15
   refine qdt 2 (.pointer (some ⟨b_18, o_19 + q_8.toNat * 1, none⟩)) (op := (.indexAddr 28 (.tmp 17) (.tmp 18))) hs hcl hqC_13 (fun w hw o ho => by rw [hC_13] at hw; exact run_idxSlc (k := .i64) ho (cap := c_x0) (len := x0.length) ((congrArg (fun A => Value.slice A (x0.length) (c_x0)) hA_20) ▸ (by kernel_rfl)) (by kernel_rfl) (by kernel_rfl) (idx_ok h_14 h_15) _) fun a hs => ?_
   refine qdt 3 (vi e_17) (op := (.load 3 (.tmp 19))) hs hcl hqC_13 (fun w hw o ho => by rw [hC_13] at hw; exact run_load1 (c := ci e_17) ho (by kernel_rfl) (by kernel_rfl) (fun w ho => h_16 w ho 0 _ rfl) _ hw) fun a hs => ?_
   obtain ⟨h_21, hm⟩ := ite_t hm
   obtain ⟨e_24, h_22, hm⟩ := bind_t hm
   obtain ⟨b_25, o_26, hA_27, h_23⟩ := Sl.elem hx_x1 h_22
   refine qdt 6 (.pointer (some ⟨b_25, o_26 + q_8.toNat * 1, none⟩)) (op := (.indexAddr 28 (.tmp 21) (.tmp 22))) hs hcl hqC_13 (fun w hw o ho => by rw [hC_13] at hw; exact run_idxSlc (k := .i64) ho (cap := c_x1) (len := x1.length) ((congrArg (fun A => Value.slice A (x1.length) (c_x1)) hA_27) ▸ (by kernel_rfl)) (by kernel_rfl) (by kernel_rfl) (idx_ok h_21 h_22) _) fun a hs => ?_
   refine qdt 7 (vi e_24) (op := (.load 3 (.tmp 23))) hs hcl hqC_13 (fun w hw o ho => by rw [hC_13] at hw; exact run_load1 (c := ci e_24) ho (by kernel_rfl) (by kernel_rfl) (fun w ho => h_23 w ho 0 _ rfl) _ hw) fun a hs => ?_
   refine qdp (fuel := 0) [8] hs hcl hqC_13 fun a hs => ?_
   replace hs := hs.pick [0, 1, 5, 25] (L' := [(0, .slice A_x0 x0.length c_x0), (1, .slice A_x1 x1.length c_x1), (5, vi q_8), (25, .bool (e_17 != e_24))]) (by kernel_rfl)
   refine Vk.dDone (by kernel_rfl) ?_
   refine hK12 _ _ ?_
   clear hK12
   refine qcs (e_17 != e_24) hs (fun hb => ?_) fun hb => ?_
   ·replace hm := bif_t hm hb
    refine qse 1 [(4, .bool false)] hs fun a hs => ?_
    refine wp_ret ?_
    exact Vk.ret1 (P := Tryz.prog) (fn := Tryz.f13) (R := RR) (.bool false) hs rfl (by kernel_rfl) (by obtain rfl := hret7 _ ((Option.some.inj hm).symm); subst hRR; exact ⟨rfl, hs.own⟩)
   ·replace hm := bif_f hm hb
    refine wp_skip ?_
    refine hK11 _ _ ?_
    clear hK11
    refine Vk.region ?_
    refine qpk 3 [0, 1, 5] hs fun a hs => ?_
    refine ih (IntKind.i64.wrap (q_8 + 1)) _ _ ⟨hm, hs.go [0, 1, 5] [] 0 (by kernel_rfl) (by kernel_rfl) (by kernel_rfl)⟩
  ·replace hm := bif_f hm hb
   refine wp_exit ?_
   exact hx7 (Option.some.inj hm).symm _ _ (hs.go [] [] 0 (by kernel_rfl) (by kernel_rfl) (by kernel_rfl))


def visorlaw31_awake.j2 (k : Nat) (p_93 : Bool) : Option (Bool) := some p_93
def visorlaw31_awake.j1 (k : Nat) (p_38 : Twire_Machine) (p_40 : Tvisorref19_M) (p_43 : List Cells) (p_46 : List Int) (p_47 : Bool) : Option (Bool) := (bif !p_47 then some false else (wire_Machine_Trace.m k p_38).bind fun v_55 => (count_Count.m k v_55 ([1] : List Int) ([0] : List Int)).bind fun v_68 => (count_Count.m k v_55 ([0] : List Int) ([1] : List Int)).bind fun v_78 => (bif (v_68.2 == 0) && (v_78.2 == 0) then (visorref18_Ints.m k v_68.1 ([1, 1] : List Int)).bind fun v_87 => (bif v_87 then (visorref18_Ints.m k v_78.1 ([1, 1] : List Int)).bind fun v_92 => visorlaw31_awake.j2 k v_92 else visorlaw31_awake.j2 k false) else visorlaw31_awake.j2 k false))
abbrev visorlaw31_awake.R (κ : Ctx) (S : List HP) (r : Bool) : Ending → World → Prop := fun e w' => e = .returned (.bool r) ∧ Ow κ w' (S)
def visorlaw31_awake.m (k : Nat) : Option Bool := ((visorlaw27_Makes.m k false ([(⟨0, 0, 0, 0, 0, 1⟩ : Tvisorlaw27_Act)] : List Tvisorlaw27_Act) ([0] : List Int)).bind fun v => match v with | (.inl v_10) => some false | (.inr (.inl v_17)) => visorlaw31_awake.j1 k v_17.1 v_17.2.1 v_17.2.2.1 v_17.2.2.2 false | (.inr (.inr v_25)) => visorlaw31_awake.j1 k v_25.1 v_25.2.1 v_25.2.2.1 v_25.2.2.2.1 v_25.2.2.2.2)

set_option maxRecDepth 100000 in
set_option maxHeartbeats 4000000 in
theorem visorlaw31_awake.ok (k : Nat) (r : Bool) (hm : visorlaw31_awake.m k = some r) (κ : Ctx) (w : World) (S : List HP) (ho : Ow κ w (S)) :
  Calls Tryz.prog 15 #[] w (visorlaw31_awake.R κ S r) := by
 unfold visorlaw31_awake.m at hm
 generalize hRR : visorlaw31_awake.R κ S r = RR
 refine qen [] Tryz.func15 Tryz.ntmps15 ho fun a hs => ?_
 refine qse 1 [] hs fun a hs => ?_
 refine Vk.seq fun K2 hK2 => ?_
 have hj94 : ∀ (p_38 : Twire_Machine) (p_40 : Tvisorref19_M) (p_43 : List Cells) (p_46 : List Int) (p_47 : Bool), visorlaw31_awake.j1 k p_38 p_40 p_43 p_46 p_47 = some r → ∀ (b_36 : Nat) (b_37 : Nat) (b_39 : Nat) (A_41 : Option Addr) (c_42 : Nat) (A_44 : Option Addr) (c_45 : Nat) (a : Act) (w : World), St 50 a w κ [(1, pp b_36), (2, .bool p_47)] (pt b_36 (blk [cp b_37, cp b_39, C.slc A_41 p_43.length c_42, C.slc A_44 p_46.length c_45] 52) :: Twire_Machine.own b_37 p_38 :: Tvisorref19_M.own κ b_39 p_40 :: rowp A_41 c_42 75 3 eC p_43 :: rowp A_44 c_45 34 1 (eI .u64) p_46 :: S) → K2 a w := by
  intro p_38 p_40 p_43 p_46 p_47 hm b_36 b_37 b_39 A_41 c_42 A_44 c_45 a w hs
  unfold visorlaw31_awake.j1 at hm
  refine hK2 _ _ ?_
  refine Vk.seq fun K48 hK48 => ?_
  refine qsk 2 [1, 16] hs fun a hs => ?_
  refine qcs (!p_47) hs (fun hb => ?_) fun hb => ?_
  ·replace hm := bif_t hm hb
   refine qse 1 [(0, .bool false)] hs fun a hs => ?_
   refine wp_ret ?_
   exact qr1 (.bool false) hs rfl hRR (by cases hm; exact ⟨rfl, (hs.own.too [] 5)⟩)
  ·replace hm := bif_f hm hb
   refine wp_skip ?_
   refine hK48 _ _ ?_
   clear hK48
   refine qsr fun K51 hK51 => ?_
   refine qpu 1 hs fun a hs => ?_
   refine qld 0 (cp b_37) hs rfl fun a hs => ?_
   obtain ⟨g_52, hs⟩ := hs.unex 1 rfl
   obtain ⟨v_55, h_54, hm⟩ := bind_t hm
   refine Vk.step (Vk.call (some 19) 24 #[pp b_37] hs (by kernel_rfl) (by kernel_rfl) (by kernel_rfl) ?_)
   refine (wire_Machine_Trace.ok k p_38 v_55 h_54 κ w (pt b_36 (blk [cp b_37, cp b_39, C.slc A_41 p_43.length c_42, C.slc A_44 p_46.length c_45] 52) :: Tvisorref19_M.own κ b_39 p_40 :: rowp A_41 c_42 75 3 eC p_43 :: rowp A_44 c_45 34 1 (eI .u64) p_46 :: S) b_37 g_52 hs.own.f1).mono ?_
   rintro _ w ⟨Ar53x0ops_56, cr53x0ops_57, Ar53x0blocks_58, cr53x0blocks_59, rfl, how⟩
   refine ⟨_, _, _, rfl, how, fun a hs => ?_⟩
   refine qal 25 [ci 0, C.slc none 0 0, C.slc none 0 0] 3 hs fun b_60 w a hs => ?_
   refine qsa 0 [ci v_55.n, C.slc Ar53x0ops_56 v_55.ops.length cr53x0ops_57, C.slc Ar53x0blocks_58 v_55.blocks.length cr53x0blocks_59] hs rfl fun a w hs => ?_
   refine qpe 0 [(3, pp b_60)] hs fun a hs => hK51 _ _ ?_
   clear hK51
   refine qsr fun K61 hK61 => ?_
   refine qln 0 ([ci v_55.n, C.slc Ar53x0ops_56 v_55.ops.length cr53x0ops_57, C.slc Ar53x0blocks_58 v_55.blocks.length cr53x0blocks_59]) hs rfl fun a hs => ?_
   refine Vk.step (Vk.buildOp (sz := 1) (by_ := 8) (t := 26) (e := 34) (parts := #[(0, (.const (vw 1)))]) (zs := vals [cw 0]) ([1] : List Int) (eI .u64) (some 22) hs (by kernel_rfl) (by kernel_rfl) (by kernel_rfl) (by kernel_rfl) (by decide) rfl (fun x _ => rfl) (Nat.le_of_ble_eq_true (by kernel_rfl)) (by kernel_rfl) fun A_62 w a hs => ?_)
   refine Vk.step (Vk.buildOp (sz := 1) (by_ := 8) (t := 28) (e := 3) (parts := #[(0, (.const (vi 0)))]) (zs := vals [ci 0]) ([0] : List Int) (eI .i64) (some 23) hs (by kernel_rfl) (by kernel_rfl) (by kernel_rfl) (by kernel_rfl) (by decide) rfl (fun x _ => rfl) (Nat.le_of_ble_eq_true (by kernel_rfl)) (by kernel_rfl) fun A_64 w a hs => ?_)
   obtain ⟨v_68, h_67, hm⟩ := bind_t hm
   refine Vk.step (Vk.call (some 24) 16 #[.agg (vals [ci v_55.n, C.slc Ar53x0ops_56 v_55.ops.length cr53x0ops_57, C.slc Ar53x0blocks_58 v_55.blocks.length cr53x0blocks_59]), .slice A_62 (([1] : List Int).length) 1, .slice A_64 (([0] : List Int).length) 1] hs (by kernel_rfl) (by kernel_rfl) (by kernel_rfl) ?_)
   refine (count_Count.ok k v_55 ([1] : List Int) ([0] : List Int) v_68 h_67 κ w (rowp A_64 1 3 1 (eI .i64) ([0] : List Int) :: rowp A_62 1 34 1 (eI .u64) ([1] : List Int) :: pt b_60 (blk (Tapi_Trace.obj v_55 Ar53x0ops_56 cr53x0ops_57 Ar53x0blocks_58 cr53x0blocks_59) 25) :: rowp Ar53x0ops_56 cr53x0ops_57 80 6 Tapi_Op.cells v_55.ops :: rowp Ar53x0blocks_58 cr53x0blocks_59 106 3 Tapi_Span.cells v_55.blocks :: bagL (Twire_Machine.parts b_37 p_38 g_52) :: pt b_36 (blk [cp b_37, cp b_39, C.slc A_41 p_43.length c_42, C.slc A_44 p_46.length c_45] 52) :: Tvisorref19_M.own κ b_39 p_40 :: rowp A_41 c_42 75 3 eC p_43 :: rowp A_44 c_45 34 1 (eI .u64) p_46 :: S) Ar53x0ops_56 cr53x0ops_57 (Sl.lift (fun w ho => (Ow.to (S' := rowp Ar53x0ops_56 cr53x0ops_57 80 6 Tapi_Op.cells v_55.ops :: S) ho [3] 10 (by kernel_rfl) (by kernel_rfl))) (Ow.rowSl 0 (Ow.to (S' := rowp Ar53x0ops_56 cr53x0ops_57 80 6 Tapi_Op.cells v_55.ops :: S) hs.own [3] 10 (by kernel_rfl) (by kernel_rfl)) rfl)) Ar53x0blocks_58 cr53x0blocks_59 (Sl.lift (fun w ho => (Ow.to (S' := rowp Ar53x0blocks_58 cr53x0blocks_59 106 3 Tapi_Span.cells v_55.blocks :: S) ho [4] 10 (by kernel_rfl) (by kernel_rfl))) (Ow.rowSl 0 (Ow.to (S' := rowp Ar53x0blocks_58 cr53x0blocks_59 106 3 Tapi_Span.cells v_55.blocks :: S) hs.own [4] 10 (by kernel_rfl) (by kernel_rfl)) rfl)) A_62 1 (Sl.lift (fun w ho => (Ow.to (S' := rowp A_62 1 34 1 (eI .u64) ([1] : List Int) :: S) ho [1] 10 (by kernel_rfl) (by kernel_rfl))) (Ow.rowSl 0 (Ow.to (S' := rowp A_62 1 34 1 (eI .u64) ([1] : List Int) :: S) hs.own [1] 10 (by kernel_rfl) (by kernel_rfl)) rfl)) A_64 1 (Sl.lift (fun w ho => (Ow.to (S' := rowp A_64 1 3 1 (eI .i64) ([0] : List Int) :: S) ho [0] 10 (by kernel_rfl) (by kernel_rfl))) (Ow.rowSl 0 (Ow.to (S' := rowp A_64 1 3 1 (eI .i64) ([0] : List Int) :: S) hs.own [0] 10 (by kernel_rfl) (by kernel_rfl)) rfl)) hs.own).mono ?_
   rintro _ w ⟨Ar66x0_69, cr66x0_70, rfl, how⟩
   refine ⟨_, _, _, rfl, how, fun a hs => ?_⟩
   refine qpk 5 [3, 4, 5] hs fun a hs => hK61 _ _ ?_
   clear hK61
   refine qsr fun K71 hK71 => ?_
   refine qln 3 ([ci v_55.n, C.slc Ar53x0ops_56 v_55.ops.length cr53x0ops_57, C.slc Ar53x0blocks_58 v_55.blocks.length cr53x0blocks_59]) hs rfl fun a hs => ?_
   refine Vk.step (Vk.buildOp (sz := 1) (by_ := 8) (t := 26) (e := 34) (parts := #[(0, (.const (vw 0)))]) (zs := vals [cw 0]) ([0] : List Int) (eI .u64) (some 29) hs (by kernel_rfl) (by kernel_rfl) (by kernel_rfl) (by kernel_rfl) (by decide) rfl (fun x _ => rfl) (Nat.le_of_ble_eq_true (by kernel_rfl)) (by kernel_rfl) fun A_72 w a hs => ?_)
   refine Vk.step (Vk.buildOp (sz := 1) (by_ := 8) (t := 28) (e := 3) (parts := #[(0, (.const (vi 1)))]) (zs := vals [ci 0]) ([1] : List Int) (eI .i64) (some 30) hs (by kernel_rfl) (by kernel_rfl) (by kernel_rfl) (by kernel_rfl) (by decide) rfl (fun x _ => rfl) (Nat.le_of_ble_eq_true (by kernel_rfl)) (by kernel_rfl) fun A_74 w a hs => ?_)
   obtain ⟨v_78, h_77, hm⟩ := bind_t hm
   refine Vk.step (Vk.call (some 31) 16 #[.agg (vals [ci v_55.n, C.slc Ar53x0ops_56 v_55.ops.length cr53x0ops_57, C.slc Ar53x0blocks_58 v_55.blocks.length cr53x0blocks_59]), .slice A_72 (([0] : List Int).length) 1, .slice A_74 (([1] : List Int).length) 1] hs (by kernel_rfl) (by kernel_rfl) (by kernel_rfl) ?_)
   refine (count_Count.ok k v_55 ([0] : List Int) ([1] : List Int) v_78 h_77 κ w (rowp A_74 1 3 1 (eI .i64) ([1] : List Int) :: rowp A_72 1 34 1 (eI .u64) ([0] : List Int) :: rowp Ar66x0_69 cr66x0_70 3 1 (eI .i64) v_68.1 :: rowp A_64 1 3 1 (eI .i64) ([0] : List Int) :: rowp A_62 1 34 1 (eI .u64) ([1] : List Int) :: pt b_60 (blk (Tapi_Trace.obj v_55 Ar53x0ops_56 cr53x0ops_57 Ar53x0blocks_58 cr53x0blocks_59) 25) :: rowp Ar53x0ops_56 cr53x0ops_57 80 6 Tapi_Op.cells v_55.ops :: rowp Ar53x0blocks_58 cr53x0blocks_59 106 3 Tapi_Span.cells v_55.blocks :: bagL (Twire_Machine.parts b_37 p_38 g_52) :: pt b_36 (blk [cp b_37, cp b_39, C.slc A_41 p_43.length c_42, C.slc A_44 p_46.length c_45] 52) :: Tvisorref19_M.own κ b_39 p_40 :: rowp A_41 c_42 75 3 eC p_43 :: rowp A_44 c_45 34 1 (eI .u64) p_46 :: S) Ar53x0ops_56 cr53x0ops_57 (Sl.lift (fun w ho => (Ow.to (S' := rowp Ar53x0ops_56 cr53x0ops_57 80 6 Tapi_Op.cells v_55.ops :: S) ho [6] 13 (by kernel_rfl) (by kernel_rfl))) (Ow.rowSl 0 (Ow.to (S' := rowp Ar53x0ops_56 cr53x0ops_57 80 6 Tapi_Op.cells v_55.ops :: S) hs.own [6] 13 (by kernel_rfl) (by kernel_rfl)) rfl)) Ar53x0blocks_58 cr53x0blocks_59 (Sl.lift (fun w ho => (Ow.to (S' := rowp Ar53x0blocks_58 cr53x0blocks_59 106 3 Tapi_Span.cells v_55.blocks :: S) ho [7] 13 (by kernel_rfl) (by kernel_rfl))) (Ow.rowSl 0 (Ow.to (S' := rowp Ar53x0blocks_58 cr53x0blocks_59 106 3 Tapi_Span.cells v_55.blocks :: S) hs.own [7] 13 (by kernel_rfl) (by kernel_rfl)) rfl)) A_72 1 (Sl.lift (fun w ho => (Ow.to (S' := rowp A_72 1 34 1 (eI .u64) ([0] : List Int) :: S) ho [1] 13 (by kernel_rfl) (by kernel_rfl))) (Ow.rowSl 0 (Ow.to (S' := rowp A_72 1 34 1 (eI .u64) ([0] : List Int) :: S) hs.own [1] 13 (by kernel_rfl) (by kernel_rfl)) rfl)) A_74 1 (Sl.lift (fun w ho => (Ow.to (S' := rowp A_74 1 3 1 (eI .i64) ([1] : List Int) :: S) ho [0] 13 (by kernel_rfl) (by kernel_rfl))) (Ow.rowSl 0 (Ow.to (S' := rowp A_74 1 3 1 (eI .i64) ([1] : List Int) :: S) hs.own [0] 13 (by kernel_rfl) (by kernel_rfl)) rfl)) hs.own).mono ?_
   rintro _ w ⟨Ar76x0_79, cr76x0_80, rfl, how⟩
   refine ⟨_, _, _, rfl, how, fun a hs => ?_⟩
   refine qpk 5 [4, 5, 6, 7] hs fun a hs => hK71 _ _ ?_
   clear hK71
   refine Vk.seq fun K81 hK81 => ?_
   have hj81 : ∀ (p_93 : Bool), visorlaw31_awake.j2 k p_93 = some r → ∀ (a : Act) (w : World), St 50 a w κ [(0, .bool p_93)] (S) → K81 a w := by
    intro p_93 hm a w hs
    unfold visorlaw31_awake.j2 at hm
    refine hK81 _ _ ?_
    refine wp_ret ?_
    exact qr1 (.bool p_93) hs rfl hRR (by cases hm; exact ⟨rfl, hs.own⟩)
   refine Vk.region ?_
   refine qpu 3 hs fun a hs => ?_
   refine qsc 36 3 hs fun a hs => ?_
   refine qpu 1 hs fun a hs => ?_
   rcases Bool.eq_false_or_eq_true ((v_68.2 == 0) && (v_78.2 == 0)) with hb | hb
   ·replace hm := bif_t hm hb
    replace hs := hs.known (t := 40) hb (by kernel_rfl)
    refine qpu 1 hs fun a hs => ?_
    refine Vk.step (Vk.buildOp (sz := 1) (by_ := 8) (t := 28) (e := 3) (parts := #[(0, (.const (vi 1))), (1, (.const (vi 1)))]) (zs := vals [ci 0]) ([1, 1] : List Int) (eI .i64) (some 42) hs (by kernel_rfl) (by kernel_rfl) (by kernel_rfl) (by kernel_rfl) (by decide) rfl (fun x _ => rfl) (Nat.le_of_ble_eq_true (by kernel_rfl)) (by kernel_rfl) fun A_83 w a hs => ?_)
    obtain ⟨v_87, h_86, hm⟩ := bind_t hm
    refine qcl (visorref18_Ints.ok _ _ _ _ h_86 _ _ (rowp A_83 2 3 1 (eI .i64) ([1, 1] : List Int) :: rowp Ar76x0_79 cr76x0_80 3 1 (eI .i64) v_78.1 :: rowp A_74 1 3 1 (eI .i64) ([1] : List Int) :: rowp A_72 1 34 1 (eI .u64) ([0] : List Int) :: rowp Ar66x0_69 cr66x0_70 3 1 (eI .i64) v_68.1 :: rowp A_64 1 3 1 (eI .i64) ([0] : List Int) :: rowp A_62 1 34 1 (eI .u64) ([1] : List Int) :: pt b_60 (blk (Tapi_Trace.obj v_55 Ar53x0ops_56 cr53x0ops_57 Ar53x0blocks_58 cr53x0blocks_59) 25) :: rowp Ar53x0ops_56 cr53x0ops_57 80 6 Tapi_Op.cells v_55.ops :: rowp Ar53x0blocks_58 cr53x0blocks_59 106 3 Tapi_Span.cells v_55.blocks :: bagL (Twire_Machine.parts b_37 p_38 g_52) :: pt b_36 (blk [cp b_37, cp b_39, C.slc A_41 p_43.length c_42, C.slc A_44 p_46.length c_45] 52) :: Tvisorref19_M.own κ b_39 p_40 :: rowp A_41 c_42 75 3 eC p_43 :: rowp A_44 c_45 34 1 (eI .u64) p_46 :: S) Ar66x0_69 cr66x0_70 (Sl.lift (fun w ho => (Ow.to (S' := rowp Ar66x0_69 cr66x0_70 3 1 (eI .i64) v_68.1 :: S) ho [4] 15 (by kernel_rfl) (by kernel_rfl))) (Ow.rowSl 0 (Ow.to (S' := rowp Ar66x0_69 cr66x0_70 3 1 (eI .i64) v_68.1 :: S) hs.own [4] 15 (by kernel_rfl) (by kernel_rfl)) rfl)) A_83 2 (Sl.lift (fun w ho => (Ow.to (S' := rowp A_83 2 3 1 (eI .i64) ([1, 1] : List Int) :: S) ho [0] 15 (by kernel_rfl) (by kernel_rfl))) (Ow.rowSl 0 (Ow.to (S' := rowp A_83 2 3 1 (eI .i64) ([1, 1] : List Int) :: S) hs.own [0] 15 (by kernel_rfl) (by kernel_rfl)) rfl)) hs.own) hs fun w a hs => ?_
    refine qpu 2 hs fun a hs => ?_
    rcases Bool.eq_false_or_eq_true (v_87) with hb | hb
    ·replace hm := bif_t hm hb
     replace hs := hs.known (t := 45) hb (by kernel_rfl)
     refine qpu 1 hs fun a hs => ?_
     refine Vk.step (Vk.buildOp (sz := 1) (by_ := 8) (t := 28) (e := 3) (parts := #[(0, (.const (vi 1))), (1, (.const (vi 1)))]) (zs := vals [ci 0]) ([1, 1] : List Int) (eI .i64) (some 47) hs (by kernel_rfl) (by kernel_rfl) (by kernel_rfl) (by kernel_rfl) (by decide) rfl (fun x _ => rfl) (Nat.le_of_ble_eq_true (by kernel_rfl)) (by kernel_rfl) fun A_88 w a hs => ?_)
     obtain ⟨v_92, h_91, hm⟩ := bind_t hm
     refine qcl (visorref18_Ints.ok _ _ _ _ h_91 _ _ (rowp A_88 2 3 1 (eI .i64) ([1, 1] : List Int) :: rowp A_83 2 3 1 (eI .i64) ([1, 1] : List Int) :: rowp Ar76x0_79 cr76x0_80 3 1 (eI .i64) v_78.1 :: rowp A_74 1 3 1 (eI .i64) ([1] : List Int) :: rowp A_72 1 34 1 (eI .u64) ([0] : List Int) :: rowp Ar66x0_69 cr66x0_70 3 1 (eI .i64) v_68.1 :: rowp A_64 1 3 1 (eI .i64) ([0] : List Int) :: rowp A_62 1 34 1 (eI .u64) ([1] : List Int) :: pt b_60 (blk (Tapi_Trace.obj v_55 Ar53x0ops_56 cr53x0ops_57 Ar53x0blocks_58 cr53x0blocks_59) 25) :: rowp Ar53x0ops_56 cr53x0ops_57 80 6 Tapi_Op.cells v_55.ops :: rowp Ar53x0blocks_58 cr53x0blocks_59 106 3 Tapi_Span.cells v_55.blocks :: bagL (Twire_Machine.parts b_37 p_38 g_52) :: pt b_36 (blk [cp b_37, cp b_39, C.slc A_41 p_43.length c_42, C.slc A_44 p_46.length c_45] 52) :: Tvisorref19_M.own κ b_39 p_40 :: rowp A_41 c_42 75 3 eC p_43 :: rowp A_44 c_45 34 1 (eI .u64) p_46 :: S) Ar76x0_79 cr76x0_80 (Sl.lift (fun w ho => (Ow.to (S' := rowp Ar76x0_79 cr76x0_80 3 1 (eI .i64) v_78.1 :: S) ho [2] 16 (by kernel_rfl) (by kernel_rfl))) (Ow.rowSl 0 (Ow.to (S' := rowp Ar76x0_79 cr76x0_80 3 1 (eI .i64) v_78.1 :: S) hs.own [2] 16 (by kernel_rfl) (by kernel_rfl)) rfl)) A_88 2 (Sl.lift (fun w ho => (Ow.to (S' := rowp A_88 2 3 1 (eI .i64) ([1, 1] : List Int) :: S) ho [0] 16 (by kernel_rfl) (by kernel_rfl))) (Ow.rowSl 0 (Ow.to (S' := rowp A_88 2 3 1 (eI .i64) ([1, 1] : List Int) :: S) hs.own [0] 16 (by kernel_rfl) (by kernel_rfl)) rfl)) hs.own) hs fun w a hs => ?_
     refine qpe 2 [(0, .bool v_92)] hs fun a hs => ?_
     replace hs := hs.toEx (Twire_Machine.parts b_37 p_38) g_52 11 rfl
     exact hj81 v_92 hm _ _ (hs.go [0] [] 16 (by kernel_rfl) (by kernel_rfl) (by kernel_rfl))
    ·replace hm := bif_f hm hb
     replace hs := hs.known (t := 45) hb (by kernel_rfl)
     refine qpe 5 [(0, .bool false)] hs fun a hs => ?_
     replace hs := hs.toEx (Twire_Machine.parts b_37 p_38) g_52 10 rfl
     exact hj81 false hm _ _ (hs.go [0] [] 15 (by kernel_rfl) (by kernel_rfl) (by kernel_rfl))
   ·replace hm := bif_f hm hb
    replace hs := hs.known (t := 40) hb (by kernel_rfl)
    refine qpe 10 [(0, .bool false)] hs fun a hs => ?_
    replace hs := hs.toEx (Twire_Machine.parts b_37 p_38) g_52 9 rfl
    exact hj81 false hm _ _ (hs.go [0] [] 14 (by kernel_rfl) (by kernel_rfl) (by kernel_rfl))
 refine Vk.region ?_
 refine qpu 1 hs fun a hs => ?_
 refine Vk.step (Vk.buildOp (sz := 6) (by_ := 48) (t := 47) (e := 66) (parts := #[(0, (.tmp 9))]) (zs := vals [ci 0, ci 0, ci 0, ci 0, ci 0, cw 0]) ([(⟨0, 0, 0, 0, 0, 1⟩ : Tvisorlaw27_Act)] : List Tvisorlaw27_Act) Tvisorlaw27_Act.cells (some 10) hs (by kernel_rfl) (by kernel_rfl) (by kernel_rfl) (by kernel_rfl) (by decide) rfl (fun x _ => rfl) (Nat.le_of_ble_eq_true (by kernel_rfl)) (by kernel_rfl) fun A_3 w a hs => ?_)
 refine Vk.step (Vk.buildOp (sz := 1) (by_ := 8) (t := 26) (e := 34) (parts := #[(0, (.const (vw 0)))]) (zs := vals [cw 0]) ([0] : List Int) (eI .u64) (some 11) hs (by kernel_rfl) (by kernel_rfl) (by kernel_rfl) (by kernel_rfl) (by decide) rfl (fun x _ => rfl) (Nat.le_of_ble_eq_true (by kernel_rfl)) (by kernel_rfl) fun A_5 w a hs => ?_)
 replace hs := hs.toRd 0 rfl
 obtain ⟨v_9, h_8, hm⟩ := bind_t hm
 refine Vk.step (Vk.call (some 12) 23 #[.bool false, .slice A_3 (([(⟨0, 0, 0, 0, 0, 1⟩ : Tvisorlaw27_Act)] : List Tvisorlaw27_Act).length) 1, .slice A_5 (([0] : List Int).length) 1] hs (by kernel_rfl) (by kernel_rfl) (by kernel_rfl) ?_)
 refine (visorlaw27_Makes.ok k false ([(⟨0, 0, 0, 0, 0, 1⟩ : Tvisorlaw27_Act)] : List Tvisorlaw27_Act) ([0] : List Int) v_9 h_8 κ w (rowp A_3 1 66 6 Tvisorlaw27_Act.cells ([(⟨0, 0, 0, 0, 0, 1⟩ : Tvisorlaw27_Act)] : List Tvisorlaw27_Act) :: S) A_3 1 (Ow.rowSl 0 hs.own.drop rfl) A_5 1 hs.own).mono ?_
 rintro _ w (⟨v_10, rfl, br7x0x_11, Ar7x0l_12, cr7x0l_13, Ar7x0v_14, cr7x0v_15, rfl, how⟩ | ⟨v_17, rfl, br7x0m_18, br7x0x_19, Ar7x0l_20, cr7x0l_21, Ar7x0v_22, cr7x0v_23, rfl, how⟩ | ⟨v_25, rfl, br7x0m_26, br7x0x_27, Ar7x0l_28, cr7x0l_29, Ar7x0v_30, cr7x0v_31, rfl, how⟩)
 ·dsimp only at hm
  refine ⟨_, _, _, rfl, how, fun a hs => ?_⟩
  refine qpu 3 hs fun a hs => ?_
  refine qal 52 [C.ptr none, C.ptr none, C.slc none 0 0, C.slc none 0 0] 1 hs fun b_16 w a hs => ?_
  refine qsa 0 [C.ptr none, cp br7x0x_11, C.slc Ar7x0l_12 v_10.2.1.length cr7x0l_13, C.slc Ar7x0v_14 v_10.2.2.length cr7x0v_15] hs rfl fun a w hs => ?_
  refine qpk 1 [1, 2] hs fun a hs => hK2 _ _ ?_
  refine Vk.seq fun K33 hK33 => ?_
  refine qsk 2 [1, 16] hs fun a hs => ?_
  refine qct hs ?_
  refine qse 1 [(0, .bool false)] hs fun a hs => ?_
  refine wp_ret ?_
  exact qr1 (.bool false) hs rfl hRR (by cases hm; exact ⟨rfl, (hs.own.too [] 5)⟩)
 ·dsimp only at hm
  refine ⟨_, _, _, rfl, how, fun a hs => ?_⟩
  refine qpu 3 hs fun a hs => ?_
  refine qal 52 [C.ptr none, C.ptr none, C.slc none 0 0, C.slc none 0 0] 1 hs fun b_24 w a hs => ?_
  refine qsa 0 [cp br7x0m_18, cp br7x0x_19, C.slc Ar7x0l_20 v_17.2.2.1.length cr7x0l_21, C.slc Ar7x0v_22 v_17.2.2.2.length cr7x0v_23] hs rfl fun a w hs => ?_
  refine qpe 1 [(1, pp b_24), (2, .bool false)] hs fun a hs => ?_
  exact hj94 v_17.1 v_17.2.1 v_17.2.2.1 v_17.2.2.2 false hm b_24 br7x0m_18 br7x0x_19 Ar7x0l_20 cr7x0l_21 Ar7x0v_22 cr7x0v_23 _ _ (hs.go [1, 2] [0, 1, 2, 3, 4] 6 (by kernel_rfl) (by kernel_rfl) (by kernel_rfl))
 ·dsimp only at hm
  refine ⟨_, _, _, rfl, how, fun a hs => ?_⟩
  refine qpu 3 hs fun a hs => ?_
  refine qal 52 [C.ptr none, C.ptr none, C.slc none 0 0, C.slc none 0 0] 1 hs fun b_32 w a hs => ?_
  refine qsa 0 [cp br7x0m_26, cp br7x0x_27, C.slc Ar7x0l_28 v_25.2.2.1.length cr7x0l_29, C.slc Ar7x0v_30 v_25.2.2.2.1.length cr7x0v_31] hs rfl fun a w hs => ?_
  refine qpe 1 [(1, pp b_32), (2, .bool v_25.2.2.2.2)] hs fun a hs => ?_
  exact hj94 v_25.1 v_25.2.1 v_25.2.2.1 v_25.2.2.2.1 v_25.2.2.2.2 hm b_32 br7x0m_26 br7x0x_27 Ar7x0l_28 cr7x0l_29 Ar7x0v_30 cr7x0v_31 _ _ (hs.go [1, 2] [0, 1, 2, 3, 4] 6 (by kernel_rfl) (by kernel_rfl) (by kernel_rfl))


def visorref17_Regs.j2 (k : Nat) (x0 : Int) (x1 : Int) (p_19 : Bool) : Option (Int) := (bif p_19 then some 1 else (bif x0 == 12 then some x1 else some 0))
def visorref17_Regs.j1 (k : Nat) (x0 : Int) (x1 : Int) (p_12 : Bool) : Option (Int) := (bif p_12 then some 2 else (bif x0 == 6 then visorref17_Regs.j2 k x0 x1 (x0 == 6) else (bif x0 == 8 then visorref17_Regs.j2 k x0 x1 (x0 == 8) else (bif x0 == 9 then visorref17_Regs.j2 k x0 x1 (x0 == 9) else (bif x0 == 10 then visorref17_Regs.j2 k x0 x1 (x0 == 10) else visorref17_Regs.j2 k x0 x1 (x0 == 11))))))
abbrev visorref17_Regs.R (κ : Ctx) (S : List HP) (x0 : Int) (x1 : Int) (r : Int) : Ending → World → Prop := fun e w' => e = .returned (vi r) ∧ Ow κ w' (S)
def visorref17_Regs.m (k : Nat) (x0 : Int) (x1 : Int) : Option Int := (bif (x1 != 2) && (x1 != 3) then some 0 else (bif x0 == 2 then some (IntKind.i64.wrap (x1 - 1)) else (bif x0 == 5 then visorref17_Regs.j1 k x0 x1 (x0 == 5) else visorref17_Regs.j1 k x0 x1 (x0 == 7))))

set_option maxRecDepth 100000 in
set_option maxHeartbeats 4000000 in
theorem visorref17_Regs.ok (k : Nat) (x0 : Int) (x1 : Int) (r : Int) (hm : visorref17_Regs.m k x0 x1 = some r) (κ : Ctx) (w : World) (S : List HP) (ho : Ow κ w (S)) :
  Calls Tryz.prog 94 #[vi x0, vi x1] w (visorref17_Regs.R κ S x0 x1 r) := by
 unfold visorref17_Regs.m at hm
 generalize hRR : visorref17_Regs.R κ S x0 x1 r = RR
 refine qen [(0, vi x0), (1, vi x1)] Tryz.func94 Tryz.ntmps94 ho fun a hs => ?_
 refine qse 1 [(0, vi x0), (1, vi x1)] hs fun a hs => ?_
 refine Vk.seq fun K2 hK2 => ?_
 refine qsr fun K3 hK3 => ?_
 refine qpu 3 hs fun a hs => ?_
 refine qsc 7 3 hs fun a hs => ?_
 refine qpk 0 [0, 1, 10] hs fun a hs => hK3 _ _ ?_
 clear hK3
 refine qcs ((x1 != 2) && (x1 != 3)) hs (fun hb => ?_) fun hb => ?_
 ·replace hm := bif_t hm hb
  refine qse 1 [(4, vi 0)] hs fun a hs => ?_
  refine wp_ret ?_
  exact qr1 (vi 0) hs rfl hRR (by cases hm; exact ⟨rfl, hs.own⟩)
 ·replace hm := bif_f hm hb
  refine wp_skip ?_
  refine hK2 _ _ ?_
  clear hK2
  refine Vk.seq fun K6 hK6 => ?_
  refine qse 1 [(1, vi x1), (11, vi x0)] hs fun a hs => ?_
  refine wp_block ?_
  refine qsk 2 [1, 11, 12] hs fun a hs => ?_
  refine qcs (x0 == 2) hs (fun hb => ?_) fun hb => ?_
  ·replace hm := bif_t hm hb
   refine qsk 3 [4] hs fun a hs => ?_
   refine wp_ret ?_
   exact qr1 (vi (IntKind.i64.wrap (x1 - 1))) hs rfl hRR (by cases hm; exact ⟨rfl, hs.own⟩)
  ·replace hm := bif_f hm hb
   refine Vk.seq fun K10 hK10 => ?_
   have hj10 : ∀ (p_12 : Bool), visorref17_Regs.j1 k x0 x1 p_12 = some r → ∀ (a : Act) (w : World), St 28 a w κ [(1, vi x1), (11, vi x0), (16, .bool p_12)] (S) → K10 a w := by
    intro p_12 hm a w hs
    unfold visorref17_Regs.j1 at hm
    refine hK10 _ _ ?_
    refine qcs (p_12) hs (fun hb => ?_) fun hb => ?_
    ·replace hm := bif_t hm hb
     refine qse 1 [(4, vi 2)] hs fun a hs => ?_
     refine wp_ret ?_
     exact qr1 (vi 2) hs rfl hRR (by cases hm; exact ⟨rfl, hs.own⟩)
    ·replace hm := bif_f hm hb
     refine Vk.seq fun K14 hK14 => ?_
     have hj14 : ∀ (p_19 : Bool), visorref17_Regs.j2 k x0 x1 p_19 = some r → ∀ (a : Act) (w : World), St 28 a w κ [(1, vi x1), (11, vi x0), (19, .bool p_19)] (S) → K14 a w := by
      intro p_19 hm a w hs
      unfold visorref17_Regs.j2 at hm
      refine hK14 _ _ ?_
      refine qcs (p_19) hs (fun hb => ?_) fun hb => ?_
      ·replace hm := bif_t hm hb
       refine qse 1 [(4, vi 1)] hs fun a hs => ?_
       refine wp_ret ?_
       exact qr1 (vi 1) hs rfl hRR (by cases hm; exact ⟨rfl, hs.own⟩)
      ·replace hm := bif_f hm hb
       refine qsk 2 [1, 25] hs fun a hs => ?_
       refine qcs (x0 == 12) hs (fun hb => ?_) fun hb => ?_
       ·replace hm := bif_t hm hb
        refine qse 2 [(4, vi x1)] hs fun a hs => ?_
        refine wp_ret ?_
        exact qr1 (vi x1) hs rfl hRR (by cases hm; exact ⟨rfl, hs.own⟩)
       ·replace hm := bif_f hm hb
        refine wp_skip ?_
        refine hK6 _ _ ?_
        clear hK6
        refine qse 1 [(4, vi 0)] hs fun a hs => ?_
        refine wp_ret ?_
        exact qr1 (vi 0) hs rfl hRR (by cases hm; exact ⟨rfl, hs.own⟩)
     refine qse 2 [(1, vi x1), (11, vi x0), (19, .bool (x0 == 6))] hs fun a hs => ?_
     refine qcs (x0 == 6) hs (fun hb => ?_) fun hb => ?_
     ·replace hm := bif_t hm hb
      refine wp_skip ?_
      exact hj14 (x0 == 6) hm _ _ (hs.go [1, 11, 19] [] 0 (by kernel_rfl) (by kernel_rfl) (by kernel_rfl))
     ·replace hm := bif_f hm hb
      refine qse 2 [(1, vi x1), (11, vi x0), (19, .bool (x0 == 8))] hs fun a hs => ?_
      refine qcs (x0 == 8) hs (fun hb => ?_) fun hb => ?_
      ·replace hm := bif_t hm hb
       refine wp_skip ?_
       exact hj14 (x0 == 8) hm _ _ (hs.go [1, 11, 19] [] 0 (by kernel_rfl) (by kernel_rfl) (by kernel_rfl))
      ·replace hm := bif_f hm hb
       refine qse 2 [(1, vi x1), (11, vi x0), (19, .bool (x0 == 9))] hs fun a hs => ?_
       refine qcs (x0 == 9) hs (fun hb => ?_) fun hb => ?_
       ·replace hm := bif_t hm hb
        refine wp_skip ?_
        exact hj14 (x0 == 9) hm _ _ (hs.go [1, 11, 19] [] 0 (by kernel_rfl) (by kernel_rfl) (by kernel_rfl))
       ·replace hm := bif_f hm hb
        refine qse 2 [(1, vi x1), (11, vi x0), (19, .bool (x0 == 10))] hs fun a hs => ?_
        refine qcs (x0 == 10) hs (fun hb => ?_) fun hb => ?_
        ·replace hm := bif_t hm hb
         refine wp_skip ?_
         exact hj14 (x0 == 10) hm _ _ (hs.go [1, 11, 19] [] 0 (by kernel_rfl) (by kernel_rfl) (by kernel_rfl))
        ·replace hm := bif_f hm hb
         refine Vk.region ?_
         refine qpe 2 [(1, vi x1), (11, vi x0), (19, .bool (x0 == 11))] hs fun a hs => ?_
         exact hj14 (x0 == 11) hm _ _ (hs.go [1, 11, 19] [] 0 (by kernel_rfl) (by kernel_rfl) (by kernel_rfl))
   refine qse 2 [(1, vi x1), (11, vi x0), (16, .bool (x0 == 5))] hs fun a hs => ?_
   refine qcs (x0 == 5) hs (fun hb => ?_) fun hb => ?_
   ·replace hm := bif_t hm hb
    refine wp_skip ?_
    exact hj10 (x0 == 5) hm _ _ (hs.go [1, 11, 16] [] 0 (by kernel_rfl) (by kernel_rfl) (by kernel_rfl))
   ·replace hm := bif_f hm hb
    refine Vk.region ?_
    refine qpe 2 [(1, vi x1), (11, vi x0), (16, .bool (x0 == 7))] hs fun a hs => ?_
    exact hj10 (x0 == 7) hm _ _ (hs.go [1, 11, 16] [] 0 (by kernel_rfl) (by kernel_rfl) (by kernel_rfl))


def visorref17_Right.j3 (k : Nat) (x0 : Tapi_Op) (p_68 : Bool) : Option (Bool) := (bif p_68 then some true else some (x0.c == 0))
def visorref17_Right.j2 (k : Nat) (x0 : Tapi_Op) (p_61 : Bool) : Option (Bool) := (bif p_61 then some (decide (x0.c < 64)) else (bif x0.kind == 2 then some (decide (x0.c < 1048576)) else (bif x0.kind == 3 then visorref17_Right.j3 k x0 (x0.kind == 3) else (bif x0.kind == 4 then visorref17_Right.j3 k x0 (x0.kind == 4) else visorref17_Right.j3 k x0 (x0.kind == 8)))))
def visorref17_Right.l1 (x0 : Tapi_Op) (x1 : Int) (x2 : Int) : Nat → Int → Option (Sum (Bool) (Unit))
 | 0, _ => none
 | k + 1, q_18 => (bif decide (q_18 < 3) then (visorref17_Regs.m k x0.kind x2).bind fun v_25 => (bif decide (q_18 < v_25) then (if 0 ≤ q_18 ∧ q_18 < 3 then (getI .i64 [ci x0.a, ci x0.b, ci x0.d] (0 + q_18.toNat * 1)).bind fun v_29 => (bif decide (v_29 < 0) then some (.inl false) else (if 0 ≤ q_18 ∧ q_18 < 3 then (getI .i64 [ci x0.a, ci x0.b, ci x0.d] (0 + q_18.toNat * 1)).bind fun v_33 => (bif decide (v_33 ≥ x1) then some (.inl false) else (visorref17_Regs.m k x0.kind x2).bind fun v_36 => (bif decide (q_18 ≥ v_36) then (if 0 ≤ q_18 ∧ q_18 < 3 then (getI .i64 [ci x0.a, ci x0.b, ci x0.d] (0 + q_18.toNat * 1)).bind fun v_40 => (bif v_40 != (-1) then some (.inl false) else visorref17_Right.l1 x0 x1 x2 k (IntKind.i64.wrap (q_18 + 1))) else none) else visorref17_Right.l1 x0 x1 x2 k (IntKind.i64.wrap (q_18 + 1)))) else none)) else none) else (visorref17_Regs.m k x0.kind x2).bind fun v_43 => (bif decide (q_18 ≥ v_43) then (if 0 ≤ q_18 ∧ q_18 < 3 then (getI .i64 [ci x0.a, ci x0.b, ci x0.d] (0 + q_18.toNat * 1)).bind fun v_47 => (bif v_47 != (-1) then some (.inl false) else visorref17_Right.l1 x0 x1 x2 k (IntKind.i64.wrap (q_18 + 1))) else none) else visorref17_Right.l1 x0 x1 x2 k (IntKind.i64.wrap (q_18 + 1)))) else some (.inr ()))
def visorref17_Right.j1 (k : Nat) (x0 : Tapi_Op) (x1 : Int) (x2 : Int) (p_11 : Bool) : Option (Bool) := (bif p_11 then some false else (visorref17_Right.l1 x0 x1 x2 k 0).bind fun x => match x with | .inl v => some v | .inr () => (bif x0.kind == 9 then visorref17_Right.j2 k x0 (x0.kind == 9) else (bif x0.kind == 10 then visorref17_Right.j2 k x0 (x0.kind == 10) else visorref17_Right.j2 k x0 (x0.kind == 11))))
abbrev visorref17_Right.R (κ : Ctx) (S : List HP) (x0 : Tapi_Op) (x1 : Int) (x2 : Int) (r : Bool) : Ending → World → Prop := fun e w' => e = .returned (.bool r) ∧ Ow κ w' (S)
def visorref17_Right.m (k : Nat) (x0 : Tapi_Op) (x1 : Int) (x2 : Int) : Option Bool := (bif (((((x2 != 2) && (x2 != 3)) || (decide (x0.kind < 1))) || (decide (x0.kind > 12))) || (decide (x0.dom < (-1)))) || (decide (x0.dom ≥ x2)) then visorref17_Right.j1 k x0 x1 x2 true else visorref17_Right.j1 k x0 x1 x2 ((x0.kind == 12) && (x0.dom != (-1))))

set_option maxRecDepth 100000 in
set_option maxHeartbeats 4000000 in
theorem visorref17_Right.ok (k : Nat) (x0 : Tapi_Op) (x1 : Int) (x2 : Int) (r : Bool) (hm : visorref17_Right.m k x0 x1 x2 = some r) (κ : Ctx) (w : World) (S : List HP) (ho : Ow κ w (S)) :
  Calls Tryz.prog 61 #[.agg (vals [ci x0.kind, ci x0.dom, ci x0.a, ci x0.b, ci x0.d, cw x0.c]), vi x1, vi x2] w (visorref17_Right.R κ S x0 x1 x2 r) := by
 unfold visorref17_Right.m at hm
 generalize hRR : visorref17_Right.R κ S x0 x1 x2 r = RR
 refine qen [(0, .agg (vals [ci x0.kind, ci x0.dom, ci x0.a, ci x0.b, ci x0.d, cw x0.c])), (1, vi x1), (2, vi x2)] Tryz.func61 Tryz.ntmps61 ho fun a hs => ?_
 refine qsr fun K1 hK1 => ?_
 refine qbx 0 80 [ci x0.kind, ci x0.dom, ci x0.a, ci x0.b, ci x0.d, cw x0.c] 3 hs fun b_2 w a hs => ?_
 refine qpk 1 [1, 2, 3] hs fun a hs => hK1 _ _ ?_
 clear hK1
 refine Vk.seq fun K3 hK3 => ?_
 refine Vk.seq fun K4 hK4 => ?_
 have hj4 : ∀ (p_11 : Bool), visorref17_Right.j1 k x0 x1 x2 p_11 = some r → ∀ (a : Act) (w : World), St 111 a w κ [(1, vi x1), (2, vi x2), (3, pp b_2), (45, .bool p_11)] (pt b_2 (blk (Tapi_Op.cells x0) 80) :: S) → K4 a w := by
  intro p_11 hm a w hs
  unfold visorref17_Right.j1 at hm
  refine hK4 _ _ ?_
  refine qcs (p_11) hs (fun hb => ?_) fun hb => ?_
  ·replace hm := bif_t hm hb
   refine qse 1 [(6, .bool false)] hs fun a hs => ?_
   refine wp_ret ?_
   exact qr1 (.bool false) hs rfl hRR (by cases hm; exact ⟨rfl, hs.own.drop⟩)
  ·replace hm := bif_f hm hb
   refine wp_skip ?_
   refine hK3 _ _ ?_
   clear hK3
   refine qsr fun K13 hK13 => ?_
   refine qpu 1 hs fun a hs => ?_
   refine qld 0 (ci x0.a) hs rfl fun a hs => ?_
   refine qpu 1 hs fun a hs => ?_
   refine qld 0 (ci x0.b) hs rfl fun a hs => ?_
   refine qpu 1 hs fun a hs => ?_
   refine qld 0 (ci x0.d) hs rfl fun a hs => ?_
   refine qpu 1 hs fun a hs => ?_
   refine qal 73 [ci 0, ci 0, ci 0] 7 hs fun b_14 w a hs => ?_
   refine qsa 0 [ci x0.a, ci x0.b, ci x0.d] hs rfl fun a w hs => ?_
   refine qpk 0 [1, 2, 3, 7] hs fun a hs => hK13 _ _ ?_
   clear hK13
   refine Vk.seq fun K15 hK15 => ?_
   refine qsk 1 [1, 2, 3, 7, 8] hs fun a hs => ?_
   refine wp_block ?_
   obtain ⟨r17, hl17, hm⟩ := bind_t hm
   have hx17 : r17 = Sum.inr () → ∀ (a : Act) (w : World), St 111 a w κ [(3, pp b_2)] (pt b_2 (blk (Tapi_Op.cells x0) 80) :: S) → K15 a w := by
    intro he a w hs
    subst r17
    refine hK15 _ _ ?_
    clear hK15
    refine Vk.seq fun K56 hK56 => ?_
    refine qsr fun K57 hK57 => ?_
    refine qpu 1 hs fun a hs => ?_
    refine qld 0 (ci x0.kind) hs rfl fun a hs => ?_
    refine qpk 0 [3, 91] hs fun a hs => hK57 _ _ ?_
    clear hK57
    refine wp_block ?_
    refine Vk.seq fun K58 hK58 => ?_
    have hj58 : ∀ (p_61 : Bool), visorref17_Right.j2 k x0 p_61 = some r → ∀ (a : Act) (w : World), St 111 a w κ [(3, pp b_2), (91, vi x0.kind), (92, .bool p_61)] (pt b_2 (blk (Tapi_Op.cells x0) 80) :: S) → K58 a w := by
     intro p_61 hm a w hs
     unfold visorref17_Right.j2 at hm
     refine hK58 _ _ ?_
     refine qcs (p_61) hs (fun hb => ?_) fun hb => ?_
     ·replace hm := bif_t hm hb
      refine qsr fun K62 hK62 => ?_
      refine qpu 1 hs fun a hs => ?_
      refine qld 0 (cw x0.c) hs rfl fun a hs => ?_
      refine qpk 2 [6] hs fun a hs => hK62 _ _ ?_
      clear hK62
      refine wp_ret ?_
      exact qr1 (.bool (decide (x0.c < 64))) hs rfl hRR (by cases hm; exact ⟨rfl, hs.own.drop⟩)
     ·replace hm := bif_f hm hb
      refine qsk 2 [3, 91, 99] hs fun a hs => ?_
      refine qcs (x0.kind == 2) hs (fun hb => ?_) fun hb => ?_
      ·replace hm := bif_t hm hb
       refine qsr fun K64 hK64 => ?_
       refine qpu 1 hs fun a hs => ?_
       refine qld 0 (cw x0.c) hs rfl fun a hs => ?_
       refine qpe 2 [(6, .bool (decide (x0.c < 1048576)))] hs fun a hs => hK64 _ _ ?_
       clear hK64
       refine wp_ret ?_
       exact qr1 (.bool (decide (x0.c < 1048576))) hs rfl hRR (by cases hm; exact ⟨rfl, hs.own.drop⟩)
      ·replace hm := bif_f hm hb
       refine Vk.seq fun K65 hK65 => ?_
       have hj65 : ∀ (p_68 : Bool), visorref17_Right.j3 k x0 p_68 = some r → ∀ (a : Act) (w : World), St 111 a w κ [(3, pp b_2), (104, .bool p_68)] (pt b_2 (blk (Tapi_Op.cells x0) 80) :: S) → K65 a w := by
        intro p_68 hm a w hs
        unfold visorref17_Right.j3 at hm
        refine hK65 _ _ ?_
        refine qcs (p_68) hs (fun hb => ?_) fun hb => ?_
        ·replace hm := bif_t hm hb
         refine qse 1 [(6, .bool true)] hs fun a hs => ?_
         refine wp_ret ?_
         exact qr1 (.bool true) hs rfl hRR (by cases hm; exact ⟨rfl, hs.own.drop⟩)
        ·replace hm := bif_f hm hb
         refine wp_skip ?_
         refine hK56 _ _ ?_
         clear hK56
         refine qsr fun K70 hK70 => ?_
         refine qpu 1 hs fun a hs => ?_
         refine qld 0 (cw x0.c) hs rfl fun a hs => ?_
         refine qpe 2 [(6, .bool (x0.c == 0))] hs fun a hs => hK70 _ _ ?_
         clear hK70
         refine wp_ret ?_
         exact qr1 (.bool (x0.c == 0)) hs rfl hRR (by cases hm; exact ⟨rfl, hs.own.drop⟩)
       refine qse 2 [(3, pp b_2), (91, vi x0.kind), (104, .bool (x0.kind == 3))] hs fun a hs => ?_
       refine qcs (x0.kind == 3) hs (fun hb => ?_) fun hb => ?_
       ·replace hm := bif_t hm hb
        refine wp_skip ?_
        exact hj65 (x0.kind == 3) hm _ _ (hs.go [3, 104] [0] 1 (by kernel_rfl) (by kernel_rfl) (by kernel_rfl))
       ·replace hm := bif_f hm hb
        refine qse 2 [(3, pp b_2), (91, vi x0.kind), (104, .bool (x0.kind == 4))] hs fun a hs => ?_
        refine qcs (x0.kind == 4) hs (fun hb => ?_) fun hb => ?_
        ·replace hm := bif_t hm hb
         refine wp_skip ?_
         exact hj65 (x0.kind == 4) hm _ _ (hs.go [3, 104] [0] 1 (by kernel_rfl) (by kernel_rfl) (by kernel_rfl))
        ·replace hm := bif_f hm hb
         refine Vk.region ?_
         refine qpe 2 [(3, pp b_2), (104, .bool (x0.kind == 8))] hs fun a hs => ?_
         exact hj65 (x0.kind == 8) hm _ _ (hs.go [3, 104] [0] 1 (by kernel_rfl) (by kernel_rfl) (by kernel_rfl))
    refine qse 2 [(3, pp b_2), (91, vi x0.kind), (92, .bool (x0.kind == 9))] hs fun a hs => ?_
    refine qcs (x0.kind == 9) hs (fun hb => ?_) fun hb => ?_
    ·replace hm := bif_t hm hb
     refine wp_skip ?_
     exact hj58 (x0.kind == 9) hm _ _ (hs.go [3, 91, 92] [0] 1 (by kernel_rfl) (by kernel_rfl) (by kernel_rfl))
    ·replace hm := bif_f hm hb
     refine qse 2 [(3, pp b_2), (91, vi x0.kind), (92, .bool (x0.kind == 10))] hs fun a hs => ?_
     refine qcs (x0.kind == 10) hs (fun hb => ?_) fun hb => ?_
     ·replace hm := bif_t hm hb
      refine wp_skip ?_
      exact hj58 (x0.kind == 10) hm _ _ (hs.go [3, 91, 92] [0] 1 (by kernel_rfl) (by kernel_rfl) (by kernel_rfl))
     ·replace hm := bif_f hm hb
      refine Vk.region ?_
      refine qpe 2 [(3, pp b_2), (91, vi x0.kind), (92, .bool (x0.kind == 11))] hs fun a hs => ?_
      exact hj58 (x0.kind == 11) hm _ _ (hs.go [3, 91, 92] [0] 1 (by kernel_rfl) (by kernel_rfl) (by kernel_rfl))
   have hret17 : ∀ v, r17 = Sum.inl v → v = r := by intro v he; subst r17; exact Option.some.inj hm
   refine Vk.loopBy (fun k (s : Int) a w => visorref17_Right.l1 x0 x1 x2 k s = some r17 ∧ St 111 a w κ [(1, vi x1), (2, vi x2), (3, pp b_2), (7, pp b_14), (8, vi s)] (pt b_2 (blk (Tapi_Op.cells x0) 80) :: pt b_14 (blk [ci x0.a, ci x0.b, ci x0.d] 73) :: S)) k 0 ⟨hl17, hs.go [1, 2, 3, 7, 8] [1, 0] 2 (by kernel_rfl) (by kernel_rfl) (by kernel_rfl)⟩ (fun s a w h => by obtain ⟨h1, _⟩ := h; simp [visorref17_Right.l1] at h1) (fun k KL17 ih q_18 a w h => ?_)
   obtain ⟨hm, hs⟩ := h
   try dsimp only at hm hs
   rw [visorref17_Right.l1] at hm
   refine Vk.seq fun K19 hK19 => ?_
   refine qsk 2 [1, 2, 3, 7, 8, 54] hs fun a hs => ?_
   refine qcs (decide (q_18 < 3)) hs (fun hb => ?_) fun hb => ?_
   ·replace hm := bif_t hm hb
    refine wp_skip ?_
    refine hK19 _ _ ?_
    clear hK19
    refine Vk.seq fun K21 hK21 => ?_
    refine wp_block ?_
    refine qsr fun K22 hK22 => ?_
    refine qpu 2 hs fun a hs => ?_
    refine qld 0 (ci x0.kind) hs rfl fun a hs => ?_
    refine qpu 1 hs fun a hs => ?_
    obtain ⟨v_25, h_24, hm⟩ := bind_t hm
    refine qcl (visorref17_Regs.ok _ _ _ _ h_24 _ _ (pt b_2 (blk (Tapi_Op.cells x0) 80) :: pt b_14 (blk [ci x0.a, ci x0.b, ci x0.d] 73) :: S) hs.own) hs fun w a hs => ?_
    refine qpu 2 hs fun a hs => ?_
    rcases Bool.eq_false_or_eq_true (decide (q_18 < v_25)) with hb | hb
    ·replace hm := bif_t hm hb
     replace hs := hs.known (t := 63) hb (by kernel_rfl)
     refine qpu 1 hs fun a hs => ?_
     obtain ⟨h_27, hm⟩ := ite_t hm
     refine qix b_14 0 1 hs h_27 fun a hs => ?_
     obtain ⟨v_29, h_28, hm⟩ := bind_t hm
     refine qli 1 hs rfl h_28 fun a hs => ?_
     refine qpu 2 hs fun a hs => ?_
     rcases Bool.eq_false_or_eq_true (decide (v_29 < 0)) with hb | hb
     ·replace hm := bif_t hm hb
      replace hs := hs.known (t := 68) hb (by kernel_rfl)
      refine qpk 21 [1, 2, 3, 7, 8, 64, 65, 66, 67, 68, 74, 89] hs fun a hs => hK22 _ _ ?_
      refine qct hs ?_
      refine qse 1 [(6, .bool false)] hs fun a hs => ?_
      refine wp_ret ?_
      exact Vk.ret1 (P := Tryz.prog) (fn := Tryz.f61) (R := RR) (.bool false) hs rfl (by kernel_rfl) (by obtain rfl := hret17 _ ((Option.some.inj hm).symm); subst hRR; exact ⟨rfl, hs.own.f1.drop.drop⟩)
     ·replace hm := bif_f hm hb
      replace hs := hs.known (t := 68) hb (by kernel_rfl)
      refine qpu 1 hs fun a hs => ?_
      obtain ⟨h_31, hm⟩ := ite_t hm
      refine qix b_14 0 1 hs h_31 fun a hs => ?_
      obtain ⟨v_33, h_32, hm⟩ := bind_t hm
      refine qli 1 hs rfl h_32 fun a hs => ?_
      refine qpu 5 hs fun a hs => ?_
      rcases Bool.eq_false_or_eq_true (decide (v_33 ≥ x1)) with hb | hb
      ·replace hm := bif_t hm hb
       replace hs := hs.known (t := 76) hb (by kernel_rfl)
       refine qpk 13 [1, 2, 3, 7, 8, 64, 65, 66, 67, 68, 69, 70, 71, 72, 73, 74, 89] hs fun a hs => hK22 _ _ ?_
       refine qct hs ?_
       refine qse 1 [(6, .bool false)] hs fun a hs => ?_
       refine wp_ret ?_
       exact Vk.ret1 (P := Tryz.prog) (fn := Tryz.f61) (R := RR) (.bool false) hs rfl (by kernel_rfl) (by obtain rfl := hret17 _ ((Option.some.inj hm).symm); subst hRR; exact ⟨rfl, hs.own.f1.drop.drop⟩)
      ·replace hm := bif_f hm hb
       replace hs := hs.known (t := 76) hb (by kernel_rfl)
       refine qpu 2 hs fun a hs => ?_
       refine qld 0 (ci x0.kind) hs rfl fun a hs => ?_
       refine qpu 1 hs fun a hs => ?_
       obtain ⟨v_36, h_35, hm⟩ := bind_t hm
       refine qcl (visorref17_Regs.ok _ _ _ _ h_35 _ _ (pt b_2 (blk (Tapi_Op.cells x0) 80) :: pt b_14 (blk [ci x0.a, ci x0.b, ci x0.d] 73) :: S) hs.own) hs fun w a hs => ?_
       refine qpu 2 hs fun a hs => ?_
       rcases Bool.eq_false_or_eq_true (decide (q_18 ≥ v_36)) with hb | hb
       ·replace hm := bif_t hm hb
        replace hs := hs.known (t := 83) hb (by kernel_rfl)
        refine qpu 1 hs fun a hs => ?_
        obtain ⟨h_38, hm⟩ := ite_t hm
        refine qix b_14 0 1 hs h_38 fun a hs => ?_
        obtain ⟨v_40, h_39, hm⟩ := bind_t hm
        refine qli 1 hs rfl h_39 fun a hs => ?_
        refine qpk 3 [1, 2, 3, 7, 8, 64, 65, 66, 67, 68, 69, 70, 71, 72, 73, 74, 77, 78, 79, 80, 81, 82, 83, 84, 85, 86, 87, 88, 89] hs fun a hs => hK22 _ _ ?_
        refine qcs (v_40 != (-1)) hs (fun hb => ?_) fun hb => ?_
        ·replace hm := bif_t hm hb
         refine qse 1 [(6, .bool false)] hs fun a hs => ?_
         refine wp_ret ?_
         exact Vk.ret1 (P := Tryz.prog) (fn := Tryz.f61) (R := RR) (.bool false) hs rfl (by kernel_rfl) (by obtain rfl := hret17 _ ((Option.some.inj hm).symm); subst hRR; exact ⟨rfl, hs.own.f1.drop.drop⟩)
        ·replace hm := bif_f hm hb
         refine wp_skip ?_
         refine hK21 _ _ ?_
         refine Vk.region ?_
         refine qpk 3 [1, 2, 3, 7, 8, 64, 65, 66, 67, 68, 69, 70, 71, 72, 73, 74, 77, 78, 79, 80, 81, 82, 83, 84, 85, 86, 87, 88] hs fun a hs => ?_
         refine ih (IntKind.i64.wrap (q_18 + 1)) _ _ ⟨hm, hs.go [1, 2, 3, 7, 8] [0, 1] 2 (by kernel_rfl) (by kernel_rfl) (by kernel_rfl)⟩
       ·replace hm := bif_f hm hb
        replace hs := hs.known (t := 83) hb (by kernel_rfl)
        refine qpk 6 [1, 2, 3, 7, 8, 64, 65, 66, 67, 68, 69, 70, 71, 72, 73, 74, 77, 78, 79, 80, 81, 82, 83, 88, 89] hs fun a hs => hK22 _ _ ?_
        refine qcf hs ?_
        refine wp_skip ?_
        refine hK21 _ _ ?_
        refine Vk.region ?_
        refine qpk 3 [1, 2, 3, 7, 8, 64, 65, 66, 67, 68, 69, 70, 71, 72, 73, 74, 77, 78, 79, 80, 81, 82, 83, 88] hs fun a hs => ?_
        refine ih (IntKind.i64.wrap (q_18 + 1)) _ _ ⟨hm, hs.go [1, 2, 3, 7, 8] [0, 1] 2 (by kernel_rfl) (by kernel_rfl) (by kernel_rfl)⟩
    ·replace hm := bif_f hm hb
     replace hs := hs.known (t := 63) hb (by kernel_rfl)
     refine qpu 15 hs fun a hs => ?_
     refine qld 0 (ci x0.kind) hs rfl fun a hs => ?_
     refine qpu 1 hs fun a hs => ?_
     obtain ⟨v_43, h_42, hm⟩ := bind_t hm
     refine qcl (visorref17_Regs.ok _ _ _ _ h_42 _ _ (pt b_2 (blk (Tapi_Op.cells x0) 80) :: pt b_14 (blk [ci x0.a, ci x0.b, ci x0.d] 73) :: S) hs.own) hs fun w a hs => ?_
     refine qpu 2 hs fun a hs => ?_
     rcases Bool.eq_false_or_eq_true (decide (q_18 ≥ v_43)) with hb | hb
     ·replace hm := bif_t hm hb
      replace hs := hs.known (t := 83) hb (by kernel_rfl)
      refine qpu 1 hs fun a hs => ?_
      obtain ⟨h_45, hm⟩ := ite_t hm
      refine qix b_14 0 1 hs h_45 fun a hs => ?_
      obtain ⟨v_47, h_46, hm⟩ := bind_t hm
      refine qli 1 hs rfl h_46 fun a hs => ?_
      refine qpk 3 [1, 2, 3, 7, 8, 77, 78, 79, 80, 81, 82, 83, 84, 85, 86, 87, 88, 89] hs fun a hs => hK22 _ _ ?_
      refine qcs (v_47 != (-1)) hs (fun hb => ?_) fun hb => ?_
      ·replace hm := bif_t hm hb
       refine qse 1 [(6, .bool false)] hs fun a hs => ?_
       refine wp_ret ?_
       exact Vk.ret1 (P := Tryz.prog) (fn := Tryz.f61) (R := RR) (.bool false) hs rfl (by kernel_rfl) (by obtain rfl := hret17 _ ((Option.some.inj hm).symm); subst hRR; exact ⟨rfl, hs.own.f1.drop.drop⟩)
      ·replace hm := bif_f hm hb
       refine wp_skip ?_
       refine hK21 _ _ ?_
       refine Vk.region ?_
       refine qpk 3 [1, 2, 3, 7, 8, 77, 78, 79, 80, 81, 82, 83, 84, 85, 86, 87, 88] hs fun a hs => ?_
       refine ih (IntKind.i64.wrap (q_18 + 1)) _ _ ⟨hm, hs.go [1, 2, 3, 7, 8] [0, 1] 2 (by kernel_rfl) (by kernel_rfl) (by kernel_rfl)⟩
     ·replace hm := bif_f hm hb
      replace hs := hs.known (t := 83) hb (by kernel_rfl)
      refine qpk 6 [1, 2, 3, 7, 8, 77, 78, 79, 80, 81, 82, 83, 88, 89] hs fun a hs => hK22 _ _ ?_
      refine qcf hs ?_
      refine wp_skip ?_
      refine hK21 _ _ ?_
      refine Vk.region ?_
      refine qpe 3 [(1, vi x1), (2, vi x2), (3, pp b_2), (7, pp b_14), (8, vi (IntKind.i64.wrap (q_18 + 1))), (77, vi q_18), (78, pp b_2), (79, vi x0.kind), (80, vi x2), (81, vi v_43), (82, .bool (decide (q_18 ≥ v_43))), (83, .bool false), (88, .bool false)] hs fun a hs => ?_
      refine ih (IntKind.i64.wrap (q_18 + 1)) _ _ ⟨hm, hs.go [1, 2, 3, 7, 8] [0, 1] 2 (by kernel_rfl) (by kernel_rfl) (by kernel_rfl)⟩
   ·replace hm := bif_f hm hb
    refine wp_exit ?_
    exact hx17 (Option.some.inj hm).symm _ _ (hs.go [3] [0] 2 (by kernel_rfl) (by kernel_rfl) (by kernel_rfl))
 refine Vk.region ?_
 refine qpu 3 hs fun a hs => ?_
 refine qsc 11 3 hs fun a hs => ?_
 refine qpu 1 hs fun a hs => ?_
 suffices hj_6 : ∀ a, St 111 a w κ [(1, vi x1), (2, vi x2), (3, pp b_2), (9, vi x2), (10, .bool (x2 != 2)), (11, .bool (x2 != 2)), (14, .bool ((x2 != 2) && (x2 != 3))), (15, .bool ((x2 != 2) && (x2 != 3))), (19, .bool (((x2 != 2) && (x2 != 3)) || (decide (x0.kind < 1))))] (pt b_2 (blk (Tapi_Op.cells x0) 80) :: S) → wpFrom Tryz.prog _ _ 11 a w by
  rcases Bool.eq_false_or_eq_true ((x2 != 2) && (x2 != 3)) with hb | hb
  ·replace hs := hs.known (t := 15) hb (by kernel_rfl)
   refine qpu 4 hs fun a hs => ?_
   have hq := hs.pick [1, 2, 3, 9, 10, 11, 14, 15, 19] (L' := [(1, vi x1), (2, vi x2), (3, pp b_2), (9, vi x2), (10, .bool (x2 != 2)), (11, .bool (x2 != 2)), (14, .bool ((x2 != 2) && (x2 != 3))), (15, .bool true), (19, .bool true)]) (by kernel_rfl)
   exact hj_6 _ (hq.conv (by first | (rw [hb] <;> rfl) | rfl))
  ·replace hs := hs.known (t := 15) hb (by kernel_rfl)
   refine qpu 1 hs fun a hs => ?_
   refine qld 0 (ci x0.kind) hs rfl fun a hs => ?_
   refine qpu 2 hs fun a hs => ?_
   have hq := hs.pick [1, 2, 3, 9, 10, 11, 14, 15, 19] (L' := [(1, vi x1), (2, vi x2), (3, pp b_2), (9, vi x2), (10, .bool (x2 != 2)), (11, .bool (x2 != 2)), (14, .bool ((x2 != 2) && (x2 != 3))), (15, .bool false), (19, .bool (decide (x0.kind < 1)))]) (by kernel_rfl)
   exact hj_6 _ (hq.conv (by first | (rw [hb] <;> rfl) | rfl))
 intro a hs
 refine qpu 1 hs fun a hs => ?_
 suffices hj_7 : ∀ a, St 111 a w κ [(1, vi x1), (2, vi x2), (3, pp b_2), (9, vi x2), (10, .bool (x2 != 2)), (11, .bool (x2 != 2)), (14, .bool ((x2 != 2) && (x2 != 3))), (15, .bool ((x2 != 2) && (x2 != 3))), (19, .bool (((x2 != 2) && (x2 != 3)) || (decide (x0.kind < 1)))), (20, .bool (((x2 != 2) && (x2 != 3)) || (decide (x0.kind < 1)))), (24, .bool ((((x2 != 2) && (x2 != 3)) || (decide (x0.kind < 1))) || (decide (x0.kind > 12))))] (pt b_2 (blk (Tapi_Op.cells x0) 80) :: S) → wpFrom Tryz.prog _ _ 16 a w by
  rcases Bool.eq_false_or_eq_true (((x2 != 2) && (x2 != 3)) || (decide (x0.kind < 1))) with hb | hb
  ·replace hs := hs.known (t := 20) hb (by kernel_rfl)
   refine qpu 4 hs fun a hs => ?_
   have hq := hs.pick [1, 2, 3, 9, 10, 11, 14, 15, 19, 20, 24] (L' := [(1, vi x1), (2, vi x2), (3, pp b_2), (9, vi x2), (10, .bool (x2 != 2)), (11, .bool (x2 != 2)), (14, .bool ((x2 != 2) && (x2 != 3))), (15, .bool ((x2 != 2) && (x2 != 3))), (19, .bool (((x2 != 2) && (x2 != 3)) || (decide (x0.kind < 1)))), (20, .bool true), (24, .bool true)]) (by kernel_rfl)
   exact hj_7 _ (hq.conv (by first | (rw [hb] <;> rfl) | rfl))
  ·replace hs := hs.known (t := 20) hb (by kernel_rfl)
   refine qpu 1 hs fun a hs => ?_
   refine qld 0 (ci x0.kind) hs rfl fun a hs => ?_
   refine qpu 2 hs fun a hs => ?_
   have hq := hs.pick [1, 2, 3, 9, 10, 11, 14, 15, 19, 20, 24] (L' := [(1, vi x1), (2, vi x2), (3, pp b_2), (9, vi x2), (10, .bool (x2 != 2)), (11, .bool (x2 != 2)), (14, .bool ((x2 != 2) && (x2 != 3))), (15, .bool ((x2 != 2) && (x2 != 3))), (19, .bool (((x2 != 2) && (x2 != 3)) || (decide (x0.kind < 1)))), (20, .bool false), (24, .bool (decide (x0.kind > 12)))]) (by kernel_rfl)
   exact hj_7 _ (hq.conv (by first | (rw [hb] <;> rfl) | rfl))
 intro a hs
 refine qpu 1 hs fun a hs => ?_
 suffices hj_8 : ∀ a, St 111 a w κ [(1, vi x1), (2, vi x2), (3, pp b_2), (9, vi x2), (10, .bool (x2 != 2)), (11, .bool (x2 != 2)), (14, .bool ((x2 != 2) && (x2 != 3))), (15, .bool ((x2 != 2) && (x2 != 3))), (19, .bool (((x2 != 2) && (x2 != 3)) || (decide (x0.kind < 1)))), (20, .bool (((x2 != 2) && (x2 != 3)) || (decide (x0.kind < 1)))), (24, .bool ((((x2 != 2) && (x2 != 3)) || (decide (x0.kind < 1))) || (decide (x0.kind > 12)))), (25, .bool ((((x2 != 2) && (x2 != 3)) || (decide (x0.kind < 1))) || (decide (x0.kind > 12)))), (29, .bool (((((x2 != 2) && (x2 != 3)) || (decide (x0.kind < 1))) || (decide (x0.kind > 12))) || (decide (x0.dom < (-1)))))] (pt b_2 (blk (Tapi_Op.cells x0) 80) :: S) → wpFrom Tryz.prog _ _ 21 a w by
  rcases Bool.eq_false_or_eq_true ((((x2 != 2) && (x2 != 3)) || (decide (x0.kind < 1))) || (decide (x0.kind > 12))) with hb | hb
  ·replace hs := hs.known (t := 25) hb (by kernel_rfl)
   refine qpu 4 hs fun a hs => ?_
   have hq := hs.pick [1, 2, 3, 9, 10, 11, 14, 15, 19, 20, 24, 25, 29] (L' := [(1, vi x1), (2, vi x2), (3, pp b_2), (9, vi x2), (10, .bool (x2 != 2)), (11, .bool (x2 != 2)), (14, .bool ((x2 != 2) && (x2 != 3))), (15, .bool ((x2 != 2) && (x2 != 3))), (19, .bool (((x2 != 2) && (x2 != 3)) || (decide (x0.kind < 1)))), (20, .bool (((x2 != 2) && (x2 != 3)) || (decide (x0.kind < 1)))), (24, .bool ((((x2 != 2) && (x2 != 3)) || (decide (x0.kind < 1))) || (decide (x0.kind > 12)))), (25, .bool true), (29, .bool true)]) (by kernel_rfl)
   exact hj_8 _ (hq.conv (by first | (rw [hb] <;> rfl) | rfl))
  ·replace hs := hs.known (t := 25) hb (by kernel_rfl)
   refine qpu 1 hs fun a hs => ?_
   refine qld 0 (ci x0.dom) hs rfl fun a hs => ?_
   refine qpu 2 hs fun a hs => ?_
   have hq := hs.pick [1, 2, 3, 9, 10, 11, 14, 15, 19, 20, 24, 25, 29] (L' := [(1, vi x1), (2, vi x2), (3, pp b_2), (9, vi x2), (10, .bool (x2 != 2)), (11, .bool (x2 != 2)), (14, .bool ((x2 != 2) && (x2 != 3))), (15, .bool ((x2 != 2) && (x2 != 3))), (19, .bool (((x2 != 2) && (x2 != 3)) || (decide (x0.kind < 1)))), (20, .bool (((x2 != 2) && (x2 != 3)) || (decide (x0.kind < 1)))), (24, .bool ((((x2 != 2) && (x2 != 3)) || (decide (x0.kind < 1))) || (decide (x0.kind > 12)))), (25, .bool false), (29, .bool (decide (x0.dom < (-1))))]) (by kernel_rfl)
   exact hj_8 _ (hq.conv (by first | (rw [hb] <;> rfl) | rfl))
 intro a hs
 refine qpu 1 hs fun a hs => ?_
 suffices hj_9 : ∀ a, St 111 a w κ [(1, vi x1), (2, vi x2), (3, pp b_2), (9, vi x2), (10, .bool (x2 != 2)), (11, .bool (x2 != 2)), (14, .bool ((x2 != 2) && (x2 != 3))), (15, .bool ((x2 != 2) && (x2 != 3))), (19, .bool (((x2 != 2) && (x2 != 3)) || (decide (x0.kind < 1)))), (20, .bool (((x2 != 2) && (x2 != 3)) || (decide (x0.kind < 1)))), (24, .bool ((((x2 != 2) && (x2 != 3)) || (decide (x0.kind < 1))) || (decide (x0.kind > 12)))), (25, .bool ((((x2 != 2) && (x2 != 3)) || (decide (x0.kind < 1))) || (decide (x0.kind > 12)))), (29, .bool (((((x2 != 2) && (x2 != 3)) || (decide (x0.kind < 1))) || (decide (x0.kind > 12))) || (decide (x0.dom < (-1))))), (30, .bool (((((x2 != 2) && (x2 != 3)) || (decide (x0.kind < 1))) || (decide (x0.kind > 12))) || (decide (x0.dom < (-1))))), (35, .bool ((((((x2 != 2) && (x2 != 3)) || (decide (x0.kind < 1))) || (decide (x0.kind > 12))) || (decide (x0.dom < (-1)))) || (decide (x0.dom ≥ x2))))] (pt b_2 (blk (Tapi_Op.cells x0) 80) :: S) → wpFrom Tryz.prog _ _ 27 a w by
  rcases Bool.eq_false_or_eq_true (((((x2 != 2) && (x2 != 3)) || (decide (x0.kind < 1))) || (decide (x0.kind > 12))) || (decide (x0.dom < (-1)))) with hb | hb
  ·replace hs := hs.known (t := 30) hb (by kernel_rfl)
   refine qpu 5 hs fun a hs => ?_
   have hq := hs.pick [1, 2, 3, 9, 10, 11, 14, 15, 19, 20, 24, 25, 29, 30, 35] (L' := [(1, vi x1), (2, vi x2), (3, pp b_2), (9, vi x2), (10, .bool (x2 != 2)), (11, .bool (x2 != 2)), (14, .bool ((x2 != 2) && (x2 != 3))), (15, .bool ((x2 != 2) && (x2 != 3))), (19, .bool (((x2 != 2) && (x2 != 3)) || (decide (x0.kind < 1)))), (20, .bool (((x2 != 2) && (x2 != 3)) || (decide (x0.kind < 1)))), (24, .bool ((((x2 != 2) && (x2 != 3)) || (decide (x0.kind < 1))) || (decide (x0.kind > 12)))), (25, .bool ((((x2 != 2) && (x2 != 3)) || (decide (x0.kind < 1))) || (decide (x0.kind > 12)))), (29, .bool (((((x2 != 2) && (x2 != 3)) || (decide (x0.kind < 1))) || (decide (x0.kind > 12))) || (decide (x0.dom < (-1))))), (30, .bool true), (35, .bool true)]) (by kernel_rfl)
   exact hj_9 _ (hq.conv (by first | (rw [hb] <;> rfl) | rfl))
  ·replace hs := hs.known (t := 30) hb (by kernel_rfl)
   refine qpu 1 hs fun a hs => ?_
   refine qld 0 (ci x0.dom) hs rfl fun a hs => ?_
   refine qpu 3 hs fun a hs => ?_
   have hq := hs.pick [1, 2, 3, 9, 10, 11, 14, 15, 19, 20, 24, 25, 29, 30, 35] (L' := [(1, vi x1), (2, vi x2), (3, pp b_2), (9, vi x2), (10, .bool (x2 != 2)), (11, .bool (x2 != 2)), (14, .bool ((x2 != 2) && (x2 != 3))), (15, .bool ((x2 != 2) && (x2 != 3))), (19, .bool (((x2 != 2) && (x2 != 3)) || (decide (x0.kind < 1)))), (20, .bool (((x2 != 2) && (x2 != 3)) || (decide (x0.kind < 1)))), (24, .bool ((((x2 != 2) && (x2 != 3)) || (decide (x0.kind < 1))) || (decide (x0.kind > 12)))), (25, .bool ((((x2 != 2) && (x2 != 3)) || (decide (x0.kind < 1))) || (decide (x0.kind > 12)))), (29, .bool (((((x2 != 2) && (x2 != 3)) || (decide (x0.kind < 1))) || (decide (x0.kind > 12))) || (decide (x0.dom < (-1))))), (30, .bool false), (35, .bool (decide (x0.dom ≥ x2)))]) (by kernel_rfl)
   exact hj_9 _ (hq.conv (by first | (rw [hb] <;> rfl) | rfl))
 intro a hs
 refine qpu 1 hs fun a hs => ?_
 rcases Bool.eq_false_or_eq_true ((((((x2 != 2) && (x2 != 3)) || (decide (x0.kind < 1))) || (decide (x0.kind > 12))) || (decide (x0.dom < (-1)))) || (decide (x0.dom ≥ x2))) with hb | hb
 ·replace hm := bif_t hm hb
  replace hs := hs.known (t := 36) hb (by kernel_rfl)
  refine qpe 9 [(1, vi x1), (2, vi x2), (3, pp b_2), (45, .bool true)] hs fun a hs => ?_
  exact hj4 true hm _ _ (hs.go [1, 2, 3, 45] [0] 1 (by kernel_rfl) (by kernel_rfl) (by kernel_rfl))
 ·replace hm := bif_f hm hb
  replace hs := hs.known (t := 36) hb (by kernel_rfl)
  refine qpu 1 hs fun a hs => ?_
  refine qld 0 (ci x0.kind) hs rfl fun a hs => ?_
  refine qpu 2 hs fun a hs => ?_
  suffices hj_10 : ∀ a, St 111 a w κ [(1, vi x1), (2, vi x2), (3, pp b_2), (9, vi x2), (10, .bool (x2 != 2)), (11, .bool (x2 != 2)), (14, .bool ((x2 != 2) && (x2 != 3))), (15, .bool ((x2 != 2) && (x2 != 3))), (19, .bool (((x2 != 2) && (x2 != 3)) || (decide (x0.kind < 1)))), (20, .bool (((x2 != 2) && (x2 != 3)) || (decide (x0.kind < 1)))), (24, .bool ((((x2 != 2) && (x2 != 3)) || (decide (x0.kind < 1))) || (decide (x0.kind > 12)))), (25, .bool ((((x2 != 2) && (x2 != 3)) || (decide (x0.kind < 1))) || (decide (x0.kind > 12)))), (29, .bool (((((x2 != 2) && (x2 != 3)) || (decide (x0.kind < 1))) || (decide (x0.kind > 12))) || (decide (x0.dom < (-1))))), (30, .bool (((((x2 != 2) && (x2 != 3)) || (decide (x0.kind < 1))) || (decide (x0.kind > 12))) || (decide (x0.dom < (-1))))), (35, .bool ((((((x2 != 2) && (x2 != 3)) || (decide (x0.kind < 1))) || (decide (x0.kind > 12))) || (decide (x0.dom < (-1)))) || (decide (x0.dom ≥ x2)))), (36, .bool false), (37, pp b_2), (38, vi x0.kind), (39, .bool (x0.kind == 12)), (40, .bool (x0.kind == 12)), (44, .bool ((x0.kind == 12) && (x0.dom != (-1))))] (pt b_2 (blk (Tapi_Op.cells x0) 80) :: S) → wpFrom Tryz.prog _ _ 36 a w by
   rcases Bool.eq_false_or_eq_true (x0.kind == 12) with hb | hb
   ·replace hs := hs.known (t := 40) hb (by kernel_rfl)
    refine qpu 1 hs fun a hs => ?_
    refine qld 0 (ci x0.dom) hs rfl fun a hs => ?_
    refine qpu 2 hs fun a hs => ?_
    have hq := hs.pick [1, 2, 3, 9, 10, 11, 14, 15, 19, 20, 24, 25, 29, 30, 35, 36, 37, 38, 39, 40, 44] (L' := [(1, vi x1), (2, vi x2), (3, pp b_2), (9, vi x2), (10, .bool (x2 != 2)), (11, .bool (x2 != 2)), (14, .bool ((x2 != 2) && (x2 != 3))), (15, .bool ((x2 != 2) && (x2 != 3))), (19, .bool (((x2 != 2) && (x2 != 3)) || (decide (x0.kind < 1)))), (20, .bool (((x2 != 2) && (x2 != 3)) || (decide (x0.kind < 1)))), (24, .bool ((((x2 != 2) && (x2 != 3)) || (decide (x0.kind < 1))) || (decide (x0.kind > 12)))), (25, .bool ((((x2 != 2) && (x2 != 3)) || (decide (x0.kind < 1))) || (decide (x0.kind > 12)))), (29, .bool (((((x2 != 2) && (x2 != 3)) || (decide (x0.kind < 1))) || (decide (x0.kind > 12))) || (decide (x0.dom < (-1))))), (30, .bool (((((x2 != 2) && (x2 != 3)) || (decide (x0.kind < 1))) || (decide (x0.kind > 12))) || (decide (x0.dom < (-1))))), (35, .bool ((((((x2 != 2) && (x2 != 3)) || (decide (x0.kind < 1))) || (decide (x0.kind > 12))) || (decide (x0.dom < (-1)))) || (decide (x0.dom ≥ x2)))), (36, .bool false), (37, pp b_2), (38, vi x0.kind), (39, .bool (x0.kind == 12)), (40, .bool true), (44, .bool (x0.dom != (-1)))]) (by kernel_rfl)
    exact hj_10 _ (hq.conv (by first | (rw [hb] <;> rfl) | rfl))
   ·replace hs := hs.known (t := 40) hb (by kernel_rfl)
    refine qpu 4 hs fun a hs => ?_
    have hq := hs.pick [1, 2, 3, 9, 10, 11, 14, 15, 19, 20, 24, 25, 29, 30, 35, 36, 37, 38, 39, 40, 44] (L' := [(1, vi x1), (2, vi x2), (3, pp b_2), (9, vi x2), (10, .bool (x2 != 2)), (11, .bool (x2 != 2)), (14, .bool ((x2 != 2) && (x2 != 3))), (15, .bool ((x2 != 2) && (x2 != 3))), (19, .bool (((x2 != 2) && (x2 != 3)) || (decide (x0.kind < 1)))), (20, .bool (((x2 != 2) && (x2 != 3)) || (decide (x0.kind < 1)))), (24, .bool ((((x2 != 2) && (x2 != 3)) || (decide (x0.kind < 1))) || (decide (x0.kind > 12)))), (25, .bool ((((x2 != 2) && (x2 != 3)) || (decide (x0.kind < 1))) || (decide (x0.kind > 12)))), (29, .bool (((((x2 != 2) && (x2 != 3)) || (decide (x0.kind < 1))) || (decide (x0.kind > 12))) || (decide (x0.dom < (-1))))), (30, .bool (((((x2 != 2) && (x2 != 3)) || (decide (x0.kind < 1))) || (decide (x0.kind > 12))) || (decide (x0.dom < (-1))))), (35, .bool ((((((x2 != 2) && (x2 != 3)) || (decide (x0.kind < 1))) || (decide (x0.kind > 12))) || (decide (x0.dom < (-1)))) || (decide (x0.dom ≥ x2)))), (36, .bool false), (37, pp b_2), (38, vi x0.kind), (39, .bool (x0.kind == 12)), (40, .bool false), (44, .bool false)]) (by kernel_rfl)
    exact hj_10 _ (hq.conv (by first | (rw [hb] <;> rfl) | rfl))
  intro a hs
  refine qpe 1 [(1, vi x1), (2, vi x2), (3, pp b_2), (45, .bool ((x0.kind == 12) && (x0.dom != (-1))))] hs fun a hs => ?_
  exact hj4 ((x0.kind == 12) && (x0.dom != (-1))) hm _ _ (hs.go [1, 2, 3, 45] [0] 1 (by kernel_rfl) (by kernel_rfl) (by kernel_rfl))


def visorref18_Right.l2 (x0 : Tapi_Trace) : Nat → Int → Int → Option (Sum (Bool) (Unit))
 | 0, _, _ => none
 | k + 1, q_56, q_57 => (bif decide (q_57 < ((x0.blocks.length : Nat) : Int)) then (if 0 ≤ q_57 then (x0.blocks[q_57.toNat]?).bind fun e_65 => (bif ((((decide (e_65.kind < 1)) || (decide (e_65.kind > 3))) || (decide (e_65.fromF < q_56))) || (decide (e_65.to ≤ e_65.fromF))) || (decide (e_65.to > ((x0.ops.length : Nat) : Int))) then some (.inl false) else visorref18_Right.l2 x0 k e_65.to (IntKind.i64.wrap (q_57 + 1))) else none) else some (.inr ()))
def visorref18_Right.j1 (k : Nat) (rec11 : Int → Int → Option (Sum (Bool) (Unit))) (q_13 : Int) (p_49 : Int) : Option (Sum (Bool) (Unit)) := rec11 p_49 (IntKind.i64.wrap (q_13 + 1))
def visorref18_Right.l1 (x0 : Tapi_Trace) : Nat → Int → Int → Option (Sum (Bool) (Unit))
 | 0, _, _ => none
 | k + 1, q_12, q_13 => (bif decide (q_13 < ((x0.ops.length : Nat) : Int)) then (if 0 ≤ q_13 then (x0.ops[q_13.toNat]?).bind fun e_23 => (visorref17_Right.m k e_23 q_13 x0.n).bind fun v_29 => (bif !v_29 then some (.inl false) else (if 0 ≤ q_13 then (x0.ops[q_13.toNat]?).bind fun e_35 => (bif e_35.kind == 2 then (if 0 ≤ q_13 then (x0.ops[q_13.toNat]?).bind fun e_44 => (bif e_44.c != q_12 then some (.inl false) else visorref18_Right.j1 k (visorref18_Right.l1 x0 k) q_13 (IntKind.u64.wrap (q_12 + 1))) else none) else visorref18_Right.j1 k (visorref18_Right.l1 x0 k) q_13 q_12) else none)) else none) else some (.inr ()))
abbrev visorref18_Right.R (κ : Ctx) (S : List HP) (x0 : Tapi_Trace) (A_x0ops : Option Addr) (c_x0ops : Nat) (A_x0blocks : Option Addr) (c_x0blocks : Nat) (r : Bool) : Ending → World → Prop := fun e w' => e = .returned (.bool r) ∧ Ow κ w' (S)
def visorref18_Right.m (k : Nat) (x0 : Tapi_Trace) : Option Bool := (bif ((x0.n != 2) && (x0.n != 3)) || (decide (((x0.ops.length : Nat) : Int) > 1048576)) then some false else (visorref18_Right.l1 x0 k 0 0).bind fun x => match x with | .inl v => some v | .inr () => (visorref18_Right.l2 x0 k 0 0).bind fun x => match x with | .inl v => some v | .inr () => some true)

set_option maxRecDepth 100000 in
set_option maxHeartbeats 4000000 in
theorem visorref18_Right.ok (k : Nat) (x0 : Tapi_Trace) (r : Bool) (hm : visorref18_Right.m k x0 = some r) (κ : Ctx) (w : World) (S : List HP) (A_x0ops : Option Addr) (c_x0ops : Nat) (hx_x0ops : Sl κ S A_x0ops c_x0ops 6 Tapi_Op.cells x0.ops) (A_x0blocks : Option Addr) (c_x0blocks : Nat) (hx_x0blocks : Sl κ S A_x0blocks c_x0blocks 3 Tapi_Span.cells x0.blocks) (ho : Ow κ w (S)) :
  Calls Tryz.prog 27 #[.agg (vals [ci x0.n, C.slc A_x0ops x0.ops.length c_x0ops, C.slc A_x0blocks x0.blocks.length c_x0blocks])] w (visorref18_Right.R κ S x0 A_x0ops c_x0ops A_x0blocks c_x0blocks r) := by
 unfold visorref18_Right.m at hm
 generalize hRR : visorref18_Right.R κ S x0 A_x0ops c_x0ops A_x0blocks c_x0blocks r = RR
 refine qen [(0, .agg (vals [ci x0.n, C.slc A_x0ops x0.ops.length c_x0ops, C.slc A_x0blocks x0.blocks.length c_x0blocks]))] Tryz.func27 Tryz.ntmps27 ho fun a hs => ?_
 refine qsr fun K1 hK1 => ?_
 refine qbx 0 25 [ci x0.n, C.slc A_x0ops x0.ops.length c_x0ops, C.slc A_x0blocks x0.blocks.length c_x0blocks] 1 hs fun b_2 w a hs => ?_
 refine qpe 1 [(1, pp b_2)] hs fun a hs => hK1 _ _ ?_
 clear hK1
 refine Vk.seq fun K3 hK3 => ?_
 refine qsr fun K4 hK4 => ?_
 refine qpu 1 hs fun a hs => ?_
 refine qld 0 (ci x0.n) hs rfl fun a hs => ?_
 refine qpu 2 hs fun a hs => ?_
 suffices hj_5 : ∀ a, St 99 a w κ [(1, pp b_2), (8, pp b_2), (9, vi x0.n), (10, .bool (x0.n != 2)), (11, .bool (x0.n != 2)), (15, .bool ((x0.n != 2) && (x0.n != 3)))] (pt b_2 (blk (Tapi_Trace.obj x0 A_x0ops c_x0ops A_x0blocks c_x0blocks) 25) :: S) → wpFrom Tryz.prog _ _ 8 a w by
  rcases Bool.eq_false_or_eq_true (x0.n != 2) with hb | hb
  ·replace hs := hs.known (t := 11) hb (by kernel_rfl)
   refine qpu 1 hs fun a hs => ?_
   refine qld 0 (ci x0.n) hs rfl fun a hs => ?_
   refine qpu 2 hs fun a hs => ?_
   have hq := hs.pick [1, 8, 9, 10, 11, 15] (L' := [(1, pp b_2), (8, pp b_2), (9, vi x0.n), (10, .bool (x0.n != 2)), (11, .bool true), (15, .bool (x0.n != 3))]) (by kernel_rfl)
   exact hj_5 _ (hq.conv (by first | (rw [hb] <;> rfl) | rfl))
  ·replace hs := hs.known (t := 11) hb (by kernel_rfl)
   refine qpu 4 hs fun a hs => ?_
   have hq := hs.pick [1, 8, 9, 10, 11, 15] (L' := [(1, pp b_2), (8, pp b_2), (9, vi x0.n), (10, .bool (x0.n != 2)), (11, .bool false), (15, .bool false)]) (by kernel_rfl)
   exact hj_5 _ (hq.conv (by first | (rw [hb] <;> rfl) | rfl))
 intro a hs
 refine qpu 1 hs fun a hs => ?_
 suffices hj_6 : ∀ a, St 99 a w κ [(1, pp b_2), (8, pp b_2), (9, vi x0.n), (10, .bool (x0.n != 2)), (11, .bool (x0.n != 2)), (15, .bool ((x0.n != 2) && (x0.n != 3))), (16, .bool ((x0.n != 2) && (x0.n != 3))), (21, .bool (((x0.n != 2) && (x0.n != 3)) || (decide (((x0.ops.length : Nat) : Int) > 1048576))))] (pt b_2 (blk (Tapi_Trace.obj x0 A_x0ops c_x0ops A_x0blocks c_x0blocks) 25) :: S) → wpFrom Tryz.prog _ _ 14 a w by
  rcases Bool.eq_false_or_eq_true ((x0.n != 2) && (x0.n != 3)) with hb | hb
  ·replace hs := hs.known (t := 16) hb (by kernel_rfl)
   refine qpu 5 hs fun a hs => ?_
   have hq := hs.pick [1, 8, 9, 10, 11, 15, 16, 21] (L' := [(1, pp b_2), (8, pp b_2), (9, vi x0.n), (10, .bool (x0.n != 2)), (11, .bool (x0.n != 2)), (15, .bool ((x0.n != 2) && (x0.n != 3))), (16, .bool true), (21, .bool true)]) (by kernel_rfl)
   exact hj_6 _ (hq.conv (by first | (rw [hb] <;> rfl) | rfl))
  ·replace hs := hs.known (t := 16) hb (by kernel_rfl)
   refine qpu 1 hs fun a hs => ?_
   refine qld 0 (C.slc A_x0ops x0.ops.length c_x0ops) hs rfl fun a hs => ?_
   refine qpu 3 hs fun a hs => ?_
   have hq := hs.pick [1, 8, 9, 10, 11, 15, 16, 21] (L' := [(1, pp b_2), (8, pp b_2), (9, vi x0.n), (10, .bool (x0.n != 2)), (11, .bool (x0.n != 2)), (15, .bool ((x0.n != 2) && (x0.n != 3))), (16, .bool false), (21, .bool (decide (((x0.ops.length : Nat) : Int) > 1048576)))]) (by kernel_rfl)
   exact hj_6 _ (hq.conv (by first | (rw [hb] <;> rfl) | rfl))
 intro a hs
 refine qpk 0 [1, 21] hs fun a hs => hK4 _ _ ?_
 clear hK4
 refine qcs (((x0.n != 2) && (x0.n != 3)) || (decide (((x0.ops.length : Nat) : Int) > 1048576))) hs (fun hb => ?_) fun hb => ?_
 ·replace hm := bif_t hm hb
  refine qse 1 [(2, .bool false)] hs fun a hs => ?_
  refine wp_ret ?_
  exact qr1 (.bool false) hs rfl hRR (by cases hm; exact ⟨rfl, hs.own.drop⟩)
 ·replace hm := bif_f hm hb
  refine wp_skip ?_
  refine hK3 _ _ ?_
  clear hK3
  refine qse 1 [(1, pp b_2), (3, vw 0)] hs fun a hs => ?_
  refine Vk.seq fun K9 hK9 => ?_
  refine qsk 1 [1, 3, 4] hs fun a hs => ?_
  refine wp_block ?_
  obtain ⟨r11, hl11, hm⟩ := bind_t hm
  have hx11 : r11 = Sum.inr () → ∀ (a : Act) (w : World), St 99 a w κ [(1, pp b_2)] (pt b_2 (blk (Tapi_Trace.obj x0 A_x0ops c_x0ops A_x0blocks c_x0blocks) 25) :: S) → K9 a w := by
   intro he a w hs
   subst r11
   refine hK9 _ _ ?_
   clear hK9
   refine qse 1 [(1, pp b_2), (5, vi 0)] hs fun a hs => ?_
   refine Vk.seq fun K53 hK53 => ?_
   refine qsk 1 [1, 5, 6] hs fun a hs => ?_
   refine wp_block ?_
   obtain ⟨r55, hl55, hm⟩ := bind_t hm
   have hx55 : r55 = Sum.inr () → ∀ (a : Act) (w : World), St 99 a w κ [] (S) → K53 a w := by
    intro he a w hs
    subst r55
    refine hK53 _ _ ?_
    clear hK53
    refine qse 1 [(2, .bool true)] hs fun a hs => ?_
    refine wp_ret ?_
    exact qr1 (.bool true) hs rfl hRR (by cases hm; exact ⟨rfl, hs.own⟩)
   have hret55 : ∀ v, r55 = Sum.inl v → v = r := by intro v he; subst r55; exact Option.some.inj hm
   refine Vk.loopBy (fun k (s : Int × Int) a w => visorref18_Right.l2 x0 k s.1 s.2 = some r55 ∧ St 99 a w κ [(1, pp b_2), (5, vi s.1), (6, vi s.2)] (pt b_2 (blk (Tapi_Trace.obj x0 A_x0ops c_x0ops A_x0blocks c_x0blocks) 25) :: S)) k (0, 0) ⟨hl55, hs.go [1, 5, 6] [0] 1 (by kernel_rfl) (by kernel_rfl) (by kernel_rfl)⟩ (fun s a w h => by obtain ⟨h1, _⟩ := h; simp [visorref18_Right.l2] at h1) (fun k KL55 ih s a w h => ?_)
   obtain ⟨q_56, q_57⟩ := s
   obtain ⟨hm, hs⟩ := h
   try dsimp only at hm hs
   rw [visorref18_Right.l2] at hm
   refine Vk.seq fun K58 hK58 => ?_
   refine qsr fun K59 hK59 => ?_
   refine qpu 2 hs fun a hs => ?_
   refine qld 0 (C.slc A_x0blocks x0.blocks.length c_x0blocks) hs rfl fun a hs => ?_
   refine qpk 2 [1, 5, 6, 60] hs fun a hs => hK59 _ _ ?_
   clear hK59
   refine qcs (decide (q_57 < ((x0.blocks.length : Nat) : Int))) hs (fun hb => ?_) fun hb => ?_
   ·replace hm := bif_t hm hb
    refine wp_skip ?_
    refine hK58 _ _ ?_
    clear hK58
    refine Vk.seq fun K60 hK60 => ?_
    refine wp_block ?_
    refine qsr fun K61 hK61 => ?_
    refine qpu 1 hs fun a hs => ?_
    refine qld 0 (C.slc A_x0blocks x0.blocks.length c_x0blocks) hs rfl fun a hs => ?_
    refine qpu 1 hs fun a hs => ?_
    obtain ⟨h_62, hm⟩ := ite_t hm
    obtain ⟨e_65, h_63, hm⟩ := bind_t hm
    obtain ⟨b_66, o_67, hA_68, h_64⟩ := Sl.elem hx_x0blocks h_63
    refine qva (.pointer (some ⟨b_66, o_67 + q_57.toNat * 3, none⟩)) (op := (.indexAddr 23 (.tmp 64) (.tmp 65))) hs (fun o ho => run_idxSlc (k := .i64) ho (cap := c_x0blocks) (len := x0.blocks.length) ((congrArg (fun A => Value.slice A (x0.blocks.length) (c_x0blocks)) hA_68) ▸ (by kernel_rfl)) (by kernel_rfl) (by kernel_rfl) (idx_ok h_62 h_63) _) fun a hs => ?_
    refine qva (.agg (vals [ci e_65.kind, ci e_65.fromF, ci e_65.to])) (op := (.load 106 (.tmp 66))) hs (fun o ho => run_loadN (cs := [ci e_65.kind, ci e_65.fromF, ci e_65.to]) ho (by kernel_rfl) (by kernel_rfl) rfl h_64 _ hs.own.drop) fun a hs => ?_
    refine qal 106 [ci 0, ci 0, ci 0] 7 hs fun b_69 w a hs => ?_
    refine qsa 0 [ci e_65.kind, ci e_65.fromF, ci e_65.to] hs rfl fun a w hs => ?_
    refine qpe 0 [(1, pp b_2), (5, vi q_56), (6, vi q_57), (7, pp b_69)] hs fun a hs => hK61 _ _ ?_
    clear hK61
    refine Vk.seq fun K70 hK70 => ?_
    refine qsr fun K71 hK71 => ?_
    refine qpu 1 hs fun a hs => ?_
    refine qld 0 (ci e_65.kind) hs rfl fun a hs => ?_
    refine qpu 2 hs fun a hs => ?_
    suffices hj_72 : ∀ a, St 99 a w κ [(1, pp b_2), (5, vi q_56), (6, vi q_57), (7, pp b_69), (68, pp b_69), (69, vi e_65.kind), (70, .bool (decide (e_65.kind < 1))), (71, .bool (decide (e_65.kind < 1))), (75, .bool ((decide (e_65.kind < 1)) || (decide (e_65.kind > 3))))] (pt b_69 (blk (Tapi_Span.cells e_65) 106) :: pt b_2 (blk (Tapi_Trace.obj x0 A_x0ops c_x0ops A_x0blocks c_x0blocks) 25) :: S) → wpFrom Tryz.prog _ _ 8 a w by
     rcases Bool.eq_false_or_eq_true (decide (e_65.kind < 1)) with hb | hb
     ·replace hs := hs.known (t := 71) hb (by kernel_rfl)
      refine qpu 4 hs fun a hs => ?_
      have hq := hs.pick [1, 5, 6, 7, 68, 69, 70, 71, 75] (L' := [(1, pp b_2), (5, vi q_56), (6, vi q_57), (7, pp b_69), (68, pp b_69), (69, vi e_65.kind), (70, .bool (decide (e_65.kind < 1))), (71, .bool true), (75, .bool true)]) (by kernel_rfl)
      exact hj_72 _ (hq.conv (by first | (rw [hb] <;> rfl) | rfl))
     ·replace hs := hs.known (t := 71) hb (by kernel_rfl)
      refine qpu 1 hs fun a hs => ?_
      refine qld 0 (ci e_65.kind) hs rfl fun a hs => ?_
      refine qpu 2 hs fun a hs => ?_
      have hq := hs.pick [1, 5, 6, 7, 68, 69, 70, 71, 75] (L' := [(1, pp b_2), (5, vi q_56), (6, vi q_57), (7, pp b_69), (68, pp b_69), (69, vi e_65.kind), (70, .bool (decide (e_65.kind < 1))), (71, .bool false), (75, .bool (decide (e_65.kind > 3)))]) (by kernel_rfl)
      exact hj_72 _ (hq.conv (by first | (rw [hb] <;> rfl) | rfl))
    intro a hs
    refine qpu 1 hs fun a hs => ?_
    suffices hj_73 : ∀ a, St 99 a w κ [(1, pp b_2), (5, vi q_56), (6, vi q_57), (7, pp b_69), (68, pp b_69), (69, vi e_65.kind), (70, .bool (decide (e_65.kind < 1))), (71, .bool (decide (e_65.kind < 1))), (75, .bool ((decide (e_65.kind < 1)) || (decide (e_65.kind > 3)))), (76, .bool ((decide (e_65.kind < 1)) || (decide (e_65.kind > 3)))), (81, .bool (((decide (e_65.kind < 1)) || (decide (e_65.kind > 3))) || (decide (e_65.fromF < q_56))))] (pt b_69 (blk (Tapi_Span.cells e_65) 106) :: pt b_2 (blk (Tapi_Trace.obj x0 A_x0ops c_x0ops A_x0blocks c_x0blocks) 25) :: S) → wpFrom Tryz.prog _ _ 14 a w by
     rcases Bool.eq_false_or_eq_true ((decide (e_65.kind < 1)) || (decide (e_65.kind > 3))) with hb | hb
     ·replace hs := hs.known (t := 76) hb (by kernel_rfl)
      refine qpu 5 hs fun a hs => ?_
      have hq := hs.pick [1, 5, 6, 7, 68, 69, 70, 71, 75, 76, 81] (L' := [(1, pp b_2), (5, vi q_56), (6, vi q_57), (7, pp b_69), (68, pp b_69), (69, vi e_65.kind), (70, .bool (decide (e_65.kind < 1))), (71, .bool (decide (e_65.kind < 1))), (75, .bool ((decide (e_65.kind < 1)) || (decide (e_65.kind > 3)))), (76, .bool true), (81, .bool true)]) (by kernel_rfl)
      exact hj_73 _ (hq.conv (by first | (rw [hb] <;> rfl) | rfl))
     ·replace hs := hs.known (t := 76) hb (by kernel_rfl)
      refine qpu 1 hs fun a hs => ?_
      refine qld 0 (ci e_65.fromF) hs rfl fun a hs => ?_
      refine qpu 3 hs fun a hs => ?_
      have hq := hs.pick [1, 5, 6, 7, 68, 69, 70, 71, 75, 76, 81] (L' := [(1, pp b_2), (5, vi q_56), (6, vi q_57), (7, pp b_69), (68, pp b_69), (69, vi e_65.kind), (70, .bool (decide (e_65.kind < 1))), (71, .bool (decide (e_65.kind < 1))), (75, .bool ((decide (e_65.kind < 1)) || (decide (e_65.kind > 3)))), (76, .bool false), (81, .bool (decide (e_65.fromF < q_56)))]) (by kernel_rfl)
      exact hj_73 _ (hq.conv (by first | (rw [hb] <;> rfl) | rfl))
    intro a hs
    refine qpu 1 hs fun a hs => ?_
    suffices hj_74 : ∀ a, St 99 a w κ [(1, pp b_2), (5, vi q_56), (6, vi q_57), (7, pp b_69), (68, pp b_69), (69, vi e_65.kind), (70, .bool (decide (e_65.kind < 1))), (71, .bool (decide (e_65.kind < 1))), (75, .bool ((decide (e_65.kind < 1)) || (decide (e_65.kind > 3)))), (76, .bool ((decide (e_65.kind < 1)) || (decide (e_65.kind > 3)))), (81, .bool (((decide (e_65.kind < 1)) || (decide (e_65.kind > 3))) || (decide (e_65.fromF < q_56)))), (82, .bool (((decide (e_65.kind < 1)) || (decide (e_65.kind > 3))) || (decide (e_65.fromF < q_56)))), (88, .bool ((((decide (e_65.kind < 1)) || (decide (e_65.kind > 3))) || (decide (e_65.fromF < q_56))) || (decide (e_65.to ≤ e_65.fromF))))] (pt b_69 (blk (Tapi_Span.cells e_65) 106) :: pt b_2 (blk (Tapi_Trace.obj x0 A_x0ops c_x0ops A_x0blocks c_x0blocks) 25) :: S) → wpFrom Tryz.prog _ _ 21 a w by
     rcases Bool.eq_false_or_eq_true (((decide (e_65.kind < 1)) || (decide (e_65.kind > 3))) || (decide (e_65.fromF < q_56))) with hb | hb
     ·replace hs := hs.known (t := 82) hb (by kernel_rfl)
      refine qpu 6 hs fun a hs => ?_
      have hq := hs.pick [1, 5, 6, 7, 68, 69, 70, 71, 75, 76, 81, 82, 88] (L' := [(1, pp b_2), (5, vi q_56), (6, vi q_57), (7, pp b_69), (68, pp b_69), (69, vi e_65.kind), (70, .bool (decide (e_65.kind < 1))), (71, .bool (decide (e_65.kind < 1))), (75, .bool ((decide (e_65.kind < 1)) || (decide (e_65.kind > 3)))), (76, .bool ((decide (e_65.kind < 1)) || (decide (e_65.kind > 3)))), (81, .bool (((decide (e_65.kind < 1)) || (decide (e_65.kind > 3))) || (decide (e_65.fromF < q_56)))), (82, .bool true), (88, .bool true)]) (by kernel_rfl)
      exact hj_74 _ (hq.conv (by first | (rw [hb] <;> rfl) | rfl))
     ·replace hs := hs.known (t := 82) hb (by kernel_rfl)
      refine qpu 1 hs fun a hs => ?_
      refine qld 0 (ci e_65.to) hs rfl fun a hs => ?_
      refine qpu 1 hs fun a hs => ?_
      refine qld 0 (ci e_65.fromF) hs rfl fun a hs => ?_
      refine qpu 2 hs fun a hs => ?_
      have hq := hs.pick [1, 5, 6, 7, 68, 69, 70, 71, 75, 76, 81, 82, 88] (L' := [(1, pp b_2), (5, vi q_56), (6, vi q_57), (7, pp b_69), (68, pp b_69), (69, vi e_65.kind), (70, .bool (decide (e_65.kind < 1))), (71, .bool (decide (e_65.kind < 1))), (75, .bool ((decide (e_65.kind < 1)) || (decide (e_65.kind > 3)))), (76, .bool ((decide (e_65.kind < 1)) || (decide (e_65.kind > 3)))), (81, .bool (((decide (e_65.kind < 1)) || (decide (e_65.kind > 3))) || (decide (e_65.fromF < q_56)))), (82, .bool false), (88, .bool (decide (e_65.to ≤ e_65.fromF)))]) (by kernel_rfl)
      exact hj_74 _ (hq.conv (by first | (rw [hb] <;> rfl) | rfl))
    intro a hs
    refine qpu 1 hs fun a hs => ?_
    suffices hj_75 : ∀ a, St 99 a w κ [(1, pp b_2), (5, vi q_56), (6, vi q_57), (7, pp b_69), (68, pp b_69), (69, vi e_65.kind), (70, .bool (decide (e_65.kind < 1))), (71, .bool (decide (e_65.kind < 1))), (75, .bool ((decide (e_65.kind < 1)) || (decide (e_65.kind > 3)))), (76, .bool ((decide (e_65.kind < 1)) || (decide (e_65.kind > 3)))), (81, .bool (((decide (e_65.kind < 1)) || (decide (e_65.kind > 3))) || (decide (e_65.fromF < q_56)))), (82, .bool (((decide (e_65.kind < 1)) || (decide (e_65.kind > 3))) || (decide (e_65.fromF < q_56)))), (88, .bool ((((decide (e_65.kind < 1)) || (decide (e_65.kind > 3))) || (decide (e_65.fromF < q_56))) || (decide (e_65.to ≤ e_65.fromF)))), (89, .bool ((((decide (e_65.kind < 1)) || (decide (e_65.kind > 3))) || (decide (e_65.fromF < q_56))) || (decide (e_65.to ≤ e_65.fromF)))), (96, .bool (((((decide (e_65.kind < 1)) || (decide (e_65.kind > 3))) || (decide (e_65.fromF < q_56))) || (decide (e_65.to ≤ e_65.fromF))) || (decide (e_65.to > ((x0.ops.length : Nat) : Int)))))] (pt b_69 (blk (Tapi_Span.cells e_65) 106) :: pt b_2 (blk (Tapi_Trace.obj x0 A_x0ops c_x0ops A_x0blocks c_x0blocks) 25) :: S) → wpFrom Tryz.prog _ _ 29 a w by
     rcases Bool.eq_false_or_eq_true ((((decide (e_65.kind < 1)) || (decide (e_65.kind > 3))) || (decide (e_65.fromF < q_56))) || (decide (e_65.to ≤ e_65.fromF))) with hb | hb
     ·replace hs := hs.known (t := 89) hb (by kernel_rfl)
      refine qpu 7 hs fun a hs => ?_
      have hq := hs.pick [1, 5, 6, 7, 68, 69, 70, 71, 75, 76, 81, 82, 88, 89, 96] (L' := [(1, pp b_2), (5, vi q_56), (6, vi q_57), (7, pp b_69), (68, pp b_69), (69, vi e_65.kind), (70, .bool (decide (e_65.kind < 1))), (71, .bool (decide (e_65.kind < 1))), (75, .bool ((decide (e_65.kind < 1)) || (decide (e_65.kind > 3)))), (76, .bool ((decide (e_65.kind < 1)) || (decide (e_65.kind > 3)))), (81, .bool (((decide (e_65.kind < 1)) || (decide (e_65.kind > 3))) || (decide (e_65.fromF < q_56)))), (82, .bool (((decide (e_65.kind < 1)) || (decide (e_65.kind > 3))) || (decide (e_65.fromF < q_56)))), (88, .bool ((((decide (e_65.kind < 1)) || (decide (e_65.kind > 3))) || (decide (e_65.fromF < q_56))) || (decide (e_65.to ≤ e_65.fromF)))), (89, .bool true), (96, .bool true)]) (by kernel_rfl)
      exact hj_75 _ (hq.conv (by first | (rw [hb] <;> rfl) | rfl))
     ·replace hs := hs.known (t := 89) hb (by kernel_rfl)
      refine qpu 1 hs fun a hs => ?_
      refine qld 0 (ci e_65.to) hs rfl fun a hs => ?_
      refine qpu 1 hs fun a hs => ?_
      refine qld 1 (C.slc A_x0ops x0.ops.length c_x0ops) hs rfl fun a hs => ?_
      refine qpu 3 hs fun a hs => ?_
      have hq := hs.pick [1, 5, 6, 7, 68, 69, 70, 71, 75, 76, 81, 82, 88, 89, 96] (L' := [(1, pp b_2), (5, vi q_56), (6, vi q_57), (7, pp b_69), (68, pp b_69), (69, vi e_65.kind), (70, .bool (decide (e_65.kind < 1))), (71, .bool (decide (e_65.kind < 1))), (75, .bool ((decide (e_65.kind < 1)) || (decide (e_65.kind > 3)))), (76, .bool ((decide (e_65.kind < 1)) || (decide (e_65.kind > 3)))), (81, .bool (((decide (e_65.kind < 1)) || (decide (e_65.kind > 3))) || (decide (e_65.fromF < q_56)))), (82, .bool (((decide (e_65.kind < 1)) || (decide (e_65.kind > 3))) || (decide (e_65.fromF < q_56)))), (88, .bool ((((decide (e_65.kind < 1)) || (decide (e_65.kind > 3))) || (decide (e_65.fromF < q_56))) || (decide (e_65.to ≤ e_65.fromF)))), (89, .bool false), (96, .bool (decide (e_65.to > ((x0.ops.length : Nat) : Int))))]) (by kernel_rfl)
      exact hj_75 _ (hq.conv (by first | (rw [hb] <;> rfl) | rfl))
    intro a hs
    refine qpk 0 [1, 6, 7, 96] hs fun a hs => hK71 _ _ ?_
    clear hK71
    refine qcs (((((decide (e_65.kind < 1)) || (decide (e_65.kind > 3))) || (decide (e_65.fromF < q_56))) || (decide (e_65.to ≤ e_65.fromF))) || (decide (e_65.to > ((x0.ops.length : Nat) : Int)))) hs (fun hb => ?_) fun hb => ?_
    ·replace hm := bif_t hm hb
     refine qse 1 [(2, .bool false)] hs fun a hs => ?_
     refine wp_ret ?_
     exact Vk.ret1 (P := Tryz.prog) (fn := Tryz.f27) (R := RR) (.bool false) hs rfl (by kernel_rfl) (by obtain rfl := hret55 _ ((Option.some.inj hm).symm); subst hRR; exact ⟨rfl, hs.own.f1.drop.drop⟩)
    ·replace hm := bif_f hm hb
     refine wp_skip ?_
     refine hK70 _ _ ?_
     clear hK70
     refine Vk.region ?_
     refine qpu 1 hs fun a hs => ?_
     refine qld 0 (ci e_65.to) hs rfl fun a hs => ?_
     refine qpk 1 [1, 5, 6] hs fun a hs => hK60 _ _ ?_
     clear hK60
     refine Vk.region ?_
     refine qpe 3 [(1, pp b_2), (5, vi e_65.to), (6, vi (IntKind.i64.wrap (q_57 + 1)))] hs fun a hs => ?_
     refine ih (e_65.to, (IntKind.i64.wrap (q_57 + 1))) _ _ ⟨hm, hs.go [1, 5, 6] [1] 2 (by kernel_rfl) (by kernel_rfl) (by kernel_rfl)⟩
   ·replace hm := bif_f hm hb
    refine wp_exit ?_
    exact hx55 (Option.some.inj hm).symm _ _ (hs.go [] [] 1 (by kernel_rfl) (by kernel_rfl) (by kernel_rfl))
  have hret11 : ∀ v, r11 = Sum.inl v → v = r := by intro v he; subst r11; exact Option.some.inj hm
  refine Vk.loopBy (fun k (s : Int × Int) a w => visorref18_Right.l1 x0 k s.1 s.2 = some r11 ∧ St 99 a w κ [(1, pp b_2), (3, vw s.1), (4, vi s.2)] (pt b_2 (blk (Tapi_Trace.obj x0 A_x0ops c_x0ops A_x0blocks c_x0blocks) 25) :: S)) k (0, 0) ⟨hl11, hs.go [1, 3, 4] [0] 1 (by kernel_rfl) (by kernel_rfl) (by kernel_rfl)⟩ (fun s a w h => by obtain ⟨h1, _⟩ := h; simp [visorref18_Right.l1] at h1) (fun k KL11 ih s a w h => ?_)
  obtain ⟨q_12, q_13⟩ := s
  obtain ⟨hm, hs⟩ := h
  try dsimp only at hm hs
  rw [visorref18_Right.l1] at hm
  refine Vk.seq fun K14 hK14 => ?_
  refine qsr fun K15 hK15 => ?_
  refine qpu 2 hs fun a hs => ?_
  refine qld 0 (C.slc A_x0ops x0.ops.length c_x0ops) hs rfl fun a hs => ?_
  refine qpk 2 [1, 3, 4, 26] hs fun a hs => hK15 _ _ ?_
  clear hK15
  refine qcs (decide (q_13 < ((x0.ops.length : Nat) : Int))) hs (fun hb => ?_) fun hb => ?_
  ·replace hm := bif_t hm hb
   refine wp_skip ?_
   refine hK14 _ _ ?_
   clear hK14
   refine Vk.seq fun K16 hK16 => ?_
   have hj16 : ∀ (p_49 : Int), visorref18_Right.j1 k (visorref18_Right.l1 x0 k) q_13 p_49 = some r11 → ∀ (a : Act) (w : World), St 99 a w κ [(1, pp b_2), (3, vw p_49), (4, vi q_13)] (pt b_2 (blk (Tapi_Trace.obj x0 A_x0ops c_x0ops A_x0blocks c_x0blocks) 25) :: S) → K16 a w := by
    intro p_49 hm a w hs
    unfold visorref18_Right.j1 at hm
    refine hK16 _ _ ?_
    refine Vk.region ?_
    refine qpk 3 [1, 3, 4] hs fun a hs => ?_
    refine ih (p_49, (IntKind.i64.wrap (q_13 + 1))) _ _ ⟨hm, hs.go [1, 3, 4] [0] 1 (by kernel_rfl) (by kernel_rfl) (by kernel_rfl)⟩
   refine wp_block ?_
   refine Vk.seq fun K17 hK17 => ?_
   refine Vk.seq fun K18 hK18 => ?_
   obtain ⟨C_19, hC_19⟩ := qC hs.own
   refine qdr 10 κ C_19 hs fun w hs hqC_19 => ?_
   have hcl := qO hC_19 hs.own
   refine qdp (fuel := 6) [0, 2, 5, 6] hs hcl hqC_19 fun a hs => ?_
   refine qdl 1 0 (C.slc A_x0ops x0.ops.length c_x0ops) hs hcl hqC_19 hC_19 rfl fun a hs => ?_
   obtain ⟨h_20, hm⟩ := ite_t hm
   obtain ⟨e_23, h_21, hm⟩ := bind_t hm
   obtain ⟨b_24, o_25, hA_26, h_22⟩ := Sl.elem hx_x0ops h_21
   refine qdt 3 (.pointer (some ⟨b_24, o_25 + q_13.toNat * 6, none⟩)) (op := (.indexAddr 22 (.tmp 30) (.tmp 31))) hs hcl hqC_19 (fun w hw o ho => by rw [hC_19] at hw; exact run_idxSlc (k := .i64) ho (cap := c_x0ops) (len := x0.ops.length) ((congrArg (fun A => Value.slice A (x0.ops.length) (c_x0ops)) hA_26) ▸ (by kernel_rfl)) (by kernel_rfl) (by kernel_rfl) (idx_ok h_20 h_21) _) fun a hs => ?_
   refine qdt 4 (.agg (vals [ci e_23.kind, ci e_23.dom, ci e_23.a, ci e_23.b, ci e_23.d, cw e_23.c])) (op := (.load 80 (.tmp 32))) hs hcl hqC_19 (fun w hw o ho => by rw [hC_19] at hw; exact run_loadN (cs := [ci e_23.kind, ci e_23.dom, ci e_23.a, ci e_23.b, ci e_23.d, cw e_23.c]) ho (by kernel_rfl) (by kernel_rfl) rfl h_22 _ hw.drop) fun a hs => ?_
   refine qdl 7 0 (ci x0.n) hs hcl hqC_19 hC_19 rfl fun a hs => ?_
   obtain ⟨v_29, h_28, hm⟩ := bind_t hm
   refine qdc 8 (visorref17_Right.ok _ _ _ _ _ h_28 _ _ (pt b_2 (blk (Tapi_Trace.obj x0 A_x0ops c_x0ops A_x0blocks c_x0blocks) 25) :: S) hs.own) hs fun w a hs => ?_
   replace hcl := qO hC_19 hs.own
   refine ⟨fun _ => hcl, ?_⟩
   refine qdp (fuel := 0) [9] hs hcl hqC_19 fun a hs => ?_
   replace hs := hs.pick [1, 3, 4, 38] (L' := [(1, pp b_2), (3, vw q_12), (4, vi q_13), (38, .bool (!v_29))]) (by kernel_rfl)
   refine Vk.dDone (by kernel_rfl) ?_
   refine hK18 _ _ ?_
   clear hK18
   refine qcs (!v_29) hs (fun hb => ?_) fun hb => ?_
   ·replace hm := bif_t hm hb
    refine qse 1 [(2, .bool false)] hs fun a hs => ?_
    refine wp_ret ?_
    exact Vk.ret1 (P := Tryz.prog) (fn := Tryz.f27) (R := RR) (.bool false) hs rfl (by kernel_rfl) (by obtain rfl := hret11 _ ((Option.some.inj hm).symm); subst hRR; exact ⟨rfl, hs.own.drop⟩)
   ·replace hm := bif_f hm hb
    refine wp_skip ?_
    refine hK17 _ _ ?_
    clear hK17
    refine qsr fun K31 hK31 => ?_
    refine qpu 1 hs fun a hs => ?_
    refine qld 0 (C.slc A_x0ops x0.ops.length c_x0ops) hs rfl fun a hs => ?_
    refine qpu 1 hs fun a hs => ?_
    obtain ⟨h_32, hm⟩ := ite_t hm
    obtain ⟨e_35, h_33, hm⟩ := bind_t hm
    obtain ⟨b_36, o_37, hA_38, h_34⟩ := Sl.elem hx_x0ops h_33
    refine qva (.pointer (some ⟨b_36, o_37 + q_13.toNat * 6, none⟩)) (op := (.indexAddr 22 (.tmp 40) (.tmp 41))) hs (fun o ho => run_idxSlc (k := .i64) ho (cap := c_x0ops) (len := x0.ops.length) ((congrArg (fun A => Value.slice A (x0.ops.length) (c_x0ops)) hA_38) ▸ (by kernel_rfl)) (by kernel_rfl) (by kernel_rfl) (idx_ok h_32 h_33) _) fun a hs => ?_
    refine qpu 1 hs fun a hs => ?_
    refine qva (vi e_35.kind) (op := (.load 3 (.tmp 43))) hs (fun o ho => run_load1 (b := b_36) (off := o_37 + q_13.toNat * 6) (c := ci e_35.kind) ho (by kernel_rfl) (by kernel_rfl) (CellsAt.cell h_34 (i := 0) (by kernel_rfl)) _ hs.own.drop) fun a hs => ?_
    refine qpk 1 [1, 3, 4, 45] hs fun a hs => hK31 _ _ ?_
    clear hK31
    refine qcs (e_35.kind == 2) hs (fun hb => ?_) fun hb => ?_
    ·replace hm := bif_t hm hb
     refine Vk.seq fun K39 hK39 => ?_
     refine qsr fun K40 hK40 => ?_
     refine qpu 1 hs fun a hs => ?_
     refine qld 0 (C.slc A_x0ops x0.ops.length c_x0ops) hs rfl fun a hs => ?_
     refine qpu 1 hs fun a hs => ?_
     obtain ⟨h_41, hm⟩ := ite_t hm
     obtain ⟨e_44, h_42, hm⟩ := bind_t hm
     obtain ⟨b_45, o_46, hA_47, h_43⟩ := Sl.elem hx_x0ops h_42
     refine qva (.pointer (some ⟨b_45, o_46 + q_13.toNat * 6, none⟩)) (op := (.indexAddr 22 (.tmp 47) (.tmp 48))) hs (fun o ho => run_idxSlc (k := .i64) ho (cap := c_x0ops) (len := x0.ops.length) ((congrArg (fun A => Value.slice A (x0.ops.length) (c_x0ops)) hA_47) ▸ (by kernel_rfl)) (by kernel_rfl) (by kernel_rfl) (idx_ok h_41 h_42) _) fun a hs => ?_
     refine qpu 1 hs fun a hs => ?_
     refine qva (vw e_44.c) (op := (.load 34 (.tmp 50))) hs (fun o ho => run_load1 (b := b_45) (off := o_46 + q_13.toNat * 6 + 5) (c := cw e_44.c) ho (by kernel_rfl) (by kernel_rfl) (CellsAt.cell h_43 (i := 5) (by kernel_rfl)) _ hs.own.drop) fun a hs => ?_
     refine qpk 2 [1, 3, 4, 53] hs fun a hs => hK40 _ _ ?_
     clear hK40
     refine qcs (e_44.c != q_12) hs (fun hb => ?_) fun hb => ?_
     ·replace hm := bif_t hm hb
      refine qse 1 [(2, .bool false)] hs fun a hs => ?_
      refine wp_ret ?_
      exact Vk.ret1 (P := Tryz.prog) (fn := Tryz.f27) (R := RR) (.bool false) hs rfl (by kernel_rfl) (by obtain rfl := hret11 _ ((Option.some.inj hm).symm); subst hRR; exact ⟨rfl, hs.own.drop⟩)
     ·replace hm := bif_f hm hb
      refine wp_skip ?_
      refine hK39 _ _ ?_
      clear hK39
      refine Vk.region ?_
      refine qpe 3 [(1, pp b_2), (3, vw (IntKind.u64.wrap (q_12 + 1))), (4, vi q_13)] hs fun a hs => ?_
      exact hj16 (IntKind.u64.wrap (q_12 + 1)) hm _ _ (hs.go [1, 3, 4] [0] 1 (by kernel_rfl) (by kernel_rfl) (by kernel_rfl))
    ·replace hm := bif_f hm hb
     refine wp_skip ?_
     exact hj16 q_12 hm _ _ (hs.go [1, 3, 4] [0] 1 (by kernel_rfl) (by kernel_rfl) (by kernel_rfl))
  ·replace hm := bif_f hm hb
   refine wp_exit ?_
   exact hx11 (Option.some.inj hm).symm _ _ (hs.go [1] [0] 1 (by kernel_rfl) (by kernel_rfl) (by kernel_rfl))


def visorref18_Tally.j1 (k : Nat) (rec8 : Cells → Int → Option (Cells)) (q_9 : Cells) (q_10 : Int) (p_25 : Int) : Option (Cells) := (if 0 ≤ p_25 ∧ p_25 < 13 then (getI .i64 q_9 (0 + p_25.toNat * 1)).bind fun v_28 => (if 0 ≤ p_25 ∧ p_25 < 13 then (if 0 + p_25.toNat * 1 < q_9.length then rec8 (q_9.set (0 + p_25.toNat * 1) (ci (IntKind.i64.wrap (v_28 + 1)))) (IntKind.i64.wrap (q_10 + 1)) else none) else none) else none)
def visorref18_Tally.l1 (x0 : Tapi_Trace) : Nat → Cells → Int → Option (Cells)
 | 0, _, _ => none
 | k + 1, q_9, q_10 => (bif decide (q_10 < ((x0.ops.length : Nat) : Int)) then (if 0 ≤ q_10 then (x0.ops[q_10.toNat]?).bind fun e_18 => (bif (decide (e_18.kind < 1)) || (decide (e_18.kind > 12)) then visorref18_Tally.j1 k (visorref18_Tally.l1 x0 k) q_9 q_10 0 else visorref18_Tally.j1 k (visorref18_Tally.l1 x0 k) q_9 q_10 e_18.kind) else none) else some q_9)
abbrev visorref18_Tally.R (κ : Ctx) (S : List HP) (x0 : Tapi_Trace) (A_x0ops : Option Addr) (c_x0ops : Nat) (A_x0blocks : Option Addr) (c_x0blocks : Nat) (r : Cells) : Ending → World → Prop := fun e w' => e = .returned (.agg (vals r)) ∧ Ow κ w' (S)
def visorref18_Tally.m (k : Nat) (x0 : Tapi_Trace) : Option Cells := (visorref18_Tally.l1 x0 k [ci 0, ci 0, ci 0, ci 0, ci 0, ci 0, ci 0, ci 0, ci 0, ci 0, ci 0, ci 0, ci 0] 0).bind fun p_31 => (if p_31.length = 13 then some p_31 else none)

set_option maxRecDepth 100000 in
set_option maxHeartbeats 4000000 in
theorem visorref18_Tally.ok (k : Nat) (x0 : Tapi_Trace) (r : Cells) (hm : visorref18_Tally.m k x0 = some r) (κ : Ctx) (w : World) (S : List HP) (A_x0ops : Option Addr) (c_x0ops : Nat) (hx_x0ops : Sl κ S A_x0ops c_x0ops 6 Tapi_Op.cells x0.ops) (A_x0blocks : Option Addr) (c_x0blocks : Nat) (hx_x0blocks : Sl κ S A_x0blocks c_x0blocks 3 Tapi_Span.cells x0.blocks) (ho : Ow κ w (S)) :
  Calls Tryz.prog 26 #[.agg (vals [ci x0.n, C.slc A_x0ops x0.ops.length c_x0ops, C.slc A_x0blocks x0.blocks.length c_x0blocks])] w (visorref18_Tally.R κ S x0 A_x0ops c_x0ops A_x0blocks c_x0blocks r) := by
 unfold visorref18_Tally.m at hm
 generalize hRR : visorref18_Tally.R κ S x0 A_x0ops c_x0ops A_x0blocks c_x0blocks r = RR
 refine qen [(0, .agg (vals [ci x0.n, C.slc A_x0ops x0.ops.length c_x0ops, C.slc A_x0blocks x0.blocks.length c_x0blocks]))] Tryz.func26 Tryz.ntmps26 ho fun a hs => ?_
 refine qsr fun K1 hK1 => ?_
 refine qbx 0 25 [ci x0.n, C.slc A_x0ops x0.ops.length c_x0ops, C.slc A_x0blocks x0.blocks.length c_x0blocks] 1 hs fun b_2 w a hs => ?_
 refine qal 57 [ci 0, ci 0, ci 0, ci 0, ci 0, ci 0, ci 0, ci 0, ci 0, ci 0, ci 0, ci 0, ci 0] 2 hs fun b_3 w a hs => ?_
 refine qpe 0 [(1, pp b_2), (2, pp b_3)] hs fun a hs => hK1 _ _ ?_
 clear hK1
 refine qsr fun K4 hK4 => ?_
 refine qpu 1 hs fun a hs => ?_
 refine qal 57 [ci 0, ci 0, ci 0, ci 0, ci 0, ci 0, ci 0, ci 0, ci 0, ci 0, ci 0, ci 0, ci 0] 3 hs fun b_5 w a hs => ?_
 refine qsa 0 [ci 0, ci 0, ci 0, ci 0, ci 0, ci 0, ci 0, ci 0, ci 0, ci 0, ci 0, ci 0, ci 0] hs rfl fun a w hs => ?_
 refine qpk 0 [1, 2, 3] hs fun a hs => hK4 _ _ ?_
 clear hK4
 refine Vk.seq fun K6 hK6 => ?_
 refine qsk 1 [1, 2, 3, 4] hs fun a hs => ?_
 refine wp_block ?_
 obtain ⟨r8, hl8, hm⟩ := bind_t hm
 have hx8 : ∀ (p_31 : Cells), r8 = p_31 → ∀ (a : Act) (w : World), St 32 a w κ [(2, pp b_3), (3, pp b_5)] (pt b_3 (blk [ci 0, ci 0, ci 0, ci 0, ci 0, ci 0, ci 0, ci 0, ci 0, ci 0, ci 0, ci 0, ci 0] 57) :: pt b_5 (blk p_31 57) :: S) → K6 a w := by
  intro p_31 he a w hs
  subst r8
  refine hK6 _ _ ?_
  clear hK6
  refine qsr fun K34 hK34 => ?_
  obtain ⟨h_35, hm⟩ := ite_t hm
  refine qlw 1 hs rfl h_35 fun a hs => ?_
  refine qsb 0 p_31 hs rfl h_35 rfl fun a w hs => ?_
  refine qpe 0 [(2, pp b_3)] hs fun a hs => hK34 _ _ ?_
  clear hK34
  refine wp_ret ?_
  exact Vk.retC p_31 hs rfl (by kernel_rfl) (sz := 13) (by kernel_rfl) h_35 (CellsAt.all 0 rfl) (hRR ▸ by cases hm; exact ⟨rfl, hs.own.f1.drop.drop⟩)
 refine Vk.loopBy (fun k (s : Cells × Int) a w => visorref18_Tally.l1 x0 k s.1 s.2 = some r8 ∧ St 32 a w κ [(1, pp b_2), (2, pp b_3), (3, pp b_5), (4, vi s.2)] (pt b_2 (blk (Tapi_Trace.obj x0 A_x0ops c_x0ops A_x0blocks c_x0blocks) 25) :: pt b_3 (blk [ci 0, ci 0, ci 0, ci 0, ci 0, ci 0, ci 0, ci 0, ci 0, ci 0, ci 0, ci 0, ci 0] 57) :: pt b_5 (blk s.1 57) :: S)) k ([ci 0, ci 0, ci 0, ci 0, ci 0, ci 0, ci 0, ci 0, ci 0, ci 0, ci 0, ci 0, ci 0], 0) ⟨hl8, hs.go [1, 2, 3, 4] [2, 1, 0] 3 (by kernel_rfl) (by kernel_rfl) (by kernel_rfl)⟩ (fun s a w h => by obtain ⟨h1, _⟩ := h; simp [visorref18_Tally.l1] at h1) (fun k KL8 ih s a w h => ?_)
 obtain ⟨q_9, q_10⟩ := s
 obtain ⟨hm, hs⟩ := h
 try dsimp only at hm hs
 rw [visorref18_Tally.l1] at hm
 refine Vk.seq fun K11 hK11 => ?_
 refine qsr fun K12 hK12 => ?_
 refine qpu 2 hs fun a hs => ?_
 refine qld 0 (C.slc A_x0ops x0.ops.length c_x0ops) hs rfl fun a hs => ?_
 refine qpk 2 [1, 2, 3, 4, 11] hs fun a hs => hK12 _ _ ?_
 clear hK12
 refine qcs (decide (q_10 < ((x0.ops.length : Nat) : Int))) hs (fun hb => ?_) fun hb => ?_
 ·replace hm := bif_t hm hb
  refine wp_skip ?_
  refine hK11 _ _ ?_
  clear hK11
  refine Vk.seq fun K13 hK13 => ?_
  refine wp_block ?_
  refine qsr fun K14 hK14 => ?_
  refine qpu 1 hs fun a hs => ?_
  refine qld 0 (C.slc A_x0ops x0.ops.length c_x0ops) hs rfl fun a hs => ?_
  refine qpu 1 hs fun a hs => ?_
  obtain ⟨h_15, hm⟩ := ite_t hm
  obtain ⟨e_18, h_16, hm⟩ := bind_t hm
  obtain ⟨b_19, o_20, hA_21, h_17⟩ := Sl.elem hx_x0ops h_16
  refine qva (.pointer (some ⟨b_19, o_20 + q_10.toNat * 6, none⟩)) (op := (.indexAddr 22 (.tmp 15) (.tmp 16))) hs (fun o ho => run_idxSlc (k := .i64) ho (cap := c_x0ops) (len := x0.ops.length) ((congrArg (fun A => Value.slice A (x0.ops.length) (c_x0ops)) hA_21) ▸ (by kernel_rfl)) (by kernel_rfl) (by kernel_rfl) (idx_ok h_15 h_16) _) fun a hs => ?_
  refine qpu 1 hs fun a hs => ?_
  refine qva (vi e_18.kind) (op := (.load 3 (.tmp 18))) hs (fun o ho => run_load1 (b := b_19) (off := o_20 + q_10.toNat * 6) (c := ci e_18.kind) ho (by kernel_rfl) (by kernel_rfl) (CellsAt.cell h_17 (i := 0) (by kernel_rfl)) _ hs.own.drop.drop.drop) fun a hs => ?_
  refine qpk 1 [1, 2, 3, 4, 5] hs fun a hs => hK14 _ _ ?_
  clear hK14
  refine Vk.seq fun K22 hK22 => ?_
  have hj22 : ∀ (p_25 : Int), visorref18_Tally.j1 k (visorref18_Tally.l1 x0 k) q_9 q_10 p_25 = some r8 → ∀ (a : Act) (w : World), St 32 a w κ [(1, pp b_2), (2, pp b_3), (3, pp b_5), (4, vi q_10), (5, vi p_25)] (pt b_2 (blk (Tapi_Trace.obj x0 A_x0ops c_x0ops A_x0blocks c_x0blocks) 25) :: pt b_3 (blk [ci 0, ci 0, ci 0, ci 0, ci 0, ci 0, ci 0, ci 0, ci 0, ci 0, ci 0, ci 0, ci 0] 57) :: pt b_5 (blk q_9 57) :: S) → K22 a w := by
   intro p_25 hm a w hs
   unfold visorref18_Tally.j1 at hm
   refine hK22 _ _ ?_
   refine Vk.region ?_
   refine qpu 1 hs fun a hs => ?_
   obtain ⟨h_26, hm⟩ := ite_t hm
   refine qix b_5 0 1 hs h_26 fun a hs => ?_
   obtain ⟨v_28, h_27, hm⟩ := bind_t hm
   refine qli 2 hs rfl h_27 fun a hs => ?_
   refine qpu 1 hs fun a hs => ?_
   obtain ⟨h_29, hm⟩ := ite_t hm
   refine qix b_5 0 1 hs h_29 fun a hs => ?_
   obtain ⟨h_30, hm⟩ := ite_t hm
   refine Vk.step (Vk.store1 (b := b_5) (ty := 3) (x := (.tmp 30)) (y := (.tmp 29)) (off := 0 + p_25.toNat * 1) (ci (IntKind.i64.wrap (v_28 + 1))) 2 hs (by kernel_rfl) (by kernel_rfl) (by kernel_rfl) (by kernel_rfl) (by kernel_rfl) (by kernel_rfl) rfl h_30 fun a w hs => ?_)
   refine qpk 0 [1, 2, 3, 4] hs fun a hs => hK13 _ _ ?_
   clear hK13
   refine Vk.region ?_
   refine qpk 3 [1, 2, 3, 4] hs fun a hs => ?_
   refine ih ((q_9.set (0 + p_25.toNat * 1) (ci (IntKind.i64.wrap (v_28 + 1)))), (IntKind.i64.wrap (q_10 + 1))) _ _ ⟨hm, hs.go [1, 2, 3, 4] [0, 1, 2] 3 (by kernel_rfl) (by kernel_rfl) (by kernel_rfl)⟩
  refine qsr fun K23 hK23 => ?_
  refine qpu 3 hs fun a hs => ?_
  refine qsc 22 3 hs fun a hs => ?_
  refine qpk 0 [1, 2, 3, 4, 5, 25] hs fun a hs => hK23 _ _ ?_
  clear hK23
  refine qcs ((decide (e_18.kind < 1)) || (decide (e_18.kind > 12))) hs (fun hb => ?_) fun hb => ?_
  ·replace hm := bif_t hm hb
   refine Vk.region ?_
   refine qpe 1 [(1, pp b_2), (2, pp b_3), (3, pp b_5), (4, vi q_10), (5, vi 0)] hs fun a hs => ?_
   exact hj22 0 hm _ _ (hs.go [1, 2, 3, 4, 5] [0, 1, 2] 3 (by kernel_rfl) (by kernel_rfl) (by kernel_rfl))
  ·replace hm := bif_f hm hb
   refine wp_skip ?_
   exact hj22 e_18.kind hm _ _ (hs.go [1, 2, 3, 4, 5] [0, 1, 2] 3 (by kernel_rfl) (by kernel_rfl) (by kernel_rfl))
 ·replace hm := bif_f hm hb
  refine wp_exit ?_
  exact hx8 q_9 (Option.some.inj hm).symm _ _ (hs.go [2, 3] [1, 2] 3 (by kernel_rfl) (by kernel_rfl) (by kernel_rfl))


def visorref31_Check.l1 (x0 : Tapi_Trace) (x2 : List Int) : Nat → Int → Option (Sum (Int) (Unit))
 | 0, _ => none
 | k + 1, q_23 => (bif decide (q_23 < ((x2.length : Nat) : Int)) then (if 0 ≤ q_23 then (x2[q_23.toNat]?).bind fun e_32 => (bif decide (e_32 < 0) then some (.inl 1) else (if 0 ≤ q_23 then (x2[q_23.toNat]?).bind fun e_39 => (bif decide (e_39 ≥ ((x0.ops.length : Nat) : Int)) then some (.inl 1) else visorref31_Check.l1 x0 x2 k (IntKind.i64.wrap (q_23 + 1))) else none)) else none) else some (.inr ()))
abbrev visorref31_Check.R (κ : Ctx) (S : List HP) (x0 : Tapi_Trace) (x1 : Int) (x2 : List Int) (A_x0ops : Option Addr) (c_x0ops : Nat) (A_x0blocks : Option Addr) (c_x0blocks : Nat) (A_x2 : Option Addr) (c_x2 : Nat) (r : Int) : Ending → World → Prop := fun e w' => e = .returned (vi r) ∧ Ow κ w' (S)
def visorref31_Check.m (k : Nat) (x0 : Tapi_Trace) (x1 : Int) (x2 : List Int) : Option Int := (visorref18_Right.m k x0).bind fun v_7 => (bif !v_7 then some 4 else (visorref18_Tally.m k x0).bind fun v_12 => (if v_12.length = 13 then (getI .i64 v_12 (2)).bind fun v_18 => (bif x1 != v_18 then some 5 else (visorref31_Check.l1 x0 x2 k 0).bind fun x => match x with | .inl v => some v | .inr () => (bif decide (((x2.length : Nat) : Int) > 4) then some 1 else (getI .i64 v_12 (1)).bind fun v_52 => (bif decide (v_52 > 12) then some 3 else some 0))) else none))

set_option maxRecDepth 100000 in
set_option maxHeartbeats 4000000 in
theorem visorref31_Check.ok (k : Nat) (x0 : Tapi_Trace) (x1 : Int) (x2 : List Int) (r : Int) (hm : visorref31_Check.m k x0 x1 x2 = some r) (κ : Ctx) (w : World) (S : List HP) (A_x0ops : Option Addr) (c_x0ops : Nat) (hx_x0ops : Sl κ S A_x0ops c_x0ops 6 Tapi_Op.cells x0.ops) (A_x0blocks : Option Addr) (c_x0blocks : Nat) (hx_x0blocks : Sl κ S A_x0blocks c_x0blocks 3 Tapi_Span.cells x0.blocks) (A_x2 : Option Addr) (c_x2 : Nat) (hx_x2 : Sl κ S A_x2 c_x2 1 (eI .i64) x2) (ho : Ow κ w (S)) :
  Calls Tryz.prog 17 #[.agg (vals [ci x0.n, C.slc A_x0ops x0.ops.length c_x0ops, C.slc A_x0blocks x0.blocks.length c_x0blocks]), vi x1, .slice A_x2 x2.length c_x2] w (visorref31_Check.R κ S x0 x1 x2 A_x0ops c_x0ops A_x0blocks c_x0blocks A_x2 c_x2 r) := by
 unfold visorref31_Check.m at hm
 generalize hRR : visorref31_Check.R κ S x0 x1 x2 A_x0ops c_x0ops A_x0blocks c_x0blocks A_x2 c_x2 r = RR
 refine qen [(0, .agg (vals [ci x0.n, C.slc A_x0ops x0.ops.length c_x0ops, C.slc A_x0blocks x0.blocks.length c_x0blocks])), (1, vi x1), (2, .slice A_x2 x2.length c_x2)] Tryz.func17 Tryz.ntmps17 ho fun a hs => ?_
 refine qsr fun K1 hK1 => ?_
 refine qbx 0 25 [ci x0.n, C.slc A_x0ops x0.ops.length c_x0ops, C.slc A_x0blocks x0.blocks.length c_x0blocks] 3 hs fun b_2 w a hs => ?_
 refine qpk 1 [1, 2, 3] hs fun a hs => hK1 _ _ ?_
 clear hK1
 refine Vk.seq fun K3 hK3 => ?_
 refine qsr fun K4 hK4 => ?_
 refine qln 0 ([ci x0.n, C.slc A_x0ops x0.ops.length c_x0ops, C.slc A_x0blocks x0.blocks.length c_x0blocks]) hs rfl fun a hs => ?_
 obtain ⟨v_7, h_6, hm⟩ := bind_t hm
 refine qcl (visorref18_Right.ok _ _ _ h_6 _ _ (pt b_2 (blk (Tapi_Trace.obj x0 A_x0ops c_x0ops A_x0blocks c_x0blocks) 25) :: S) A_x0ops c_x0ops hx_x0ops.less A_x0blocks c_x0blocks hx_x0blocks.less hs.own) hs fun w a hs => ?_
 refine qpk 1 [1, 2, 3, 11] hs fun a hs => hK4 _ _ ?_
 clear hK4
 refine qcs (!v_7) hs (fun hb => ?_) fun hb => ?_
 ·replace hm := bif_t hm hb
  refine qse 1 [(6, vi 4)] hs fun a hs => ?_
  refine wp_ret ?_
  exact qr1 (vi 4) hs rfl hRR (by cases hm; exact ⟨rfl, hs.own.drop⟩)
 ·replace hm := bif_f hm hb
  refine wp_skip ?_
  refine hK3 _ _ ?_
  clear hK3
  refine qsr fun K9 hK9 => ?_
  refine qln 0 ([ci x0.n, C.slc A_x0ops x0.ops.length c_x0ops, C.slc A_x0blocks x0.blocks.length c_x0blocks]) hs rfl fun a hs => ?_
  obtain ⟨v_12, h_11, hm⟩ := bind_t hm
  refine qcl (visorref18_Tally.ok _ _ _ h_11 _ _ (pt b_2 (blk (Tapi_Trace.obj x0 A_x0ops c_x0ops A_x0blocks c_x0blocks) 25) :: S) A_x0ops c_x0ops hx_x0ops.less A_x0blocks c_x0blocks hx_x0blocks.less hs.own) hs fun w a hs => ?_
  refine qal 57 [ci 0, ci 0, ci 0, ci 0, ci 0, ci 0, ci 0, ci 0, ci 0, ci 0, ci 0, ci 0, ci 0] 7 hs fun b_13 w a hs => ?_
  obtain ⟨h_14, hm⟩ := ite_t hm
  refine qsb 0 v_12 hs rfl h_14 rfl fun a w hs => ?_
  refine qpk 0 [1, 2, 3, 7] hs fun a hs => hK9 _ _ ?_
  clear hK9
  refine Vk.seq fun K15 hK15 => ?_
  refine qsr fun K16 hK16 => ?_
  refine qpu 2 hs fun a hs => ?_
  obtain ⟨v_18, h_17, hm⟩ := bind_t hm
  refine qli 0 hs rfl h_17 fun a hs => ?_
  refine qpk 1 [2, 3, 7, 17] hs fun a hs => hK16 _ _ ?_
  clear hK16
  refine qcs (x1 != v_18) hs (fun hb => ?_) fun hb => ?_
  ·replace hm := bif_t hm hb
   refine qse 1 [(6, vi 5)] hs fun a hs => ?_
   refine wp_ret ?_
   exact qr1 (vi 5) hs rfl hRR (by cases hm; exact ⟨rfl, hs.own.f1.drop.drop⟩)
  ·replace hm := bif_f hm hb
   refine wp_skip ?_
   refine hK15 _ _ ?_
   clear hK15
   refine Vk.seq fun K20 hK20 => ?_
   refine qsk 1 [2, 3, 7, 8] hs fun a hs => ?_
   refine wp_block ?_
   obtain ⟨r22, hl22, hm⟩ := bind_t hm
   have hx22 : r22 = Sum.inr () → ∀ (a : Act) (w : World), St 45 a w κ [(2, .slice A_x2 x2.length c_x2), (7, pp b_13)] (pt b_13 (blk v_12 57) :: S) → K20 a w := by
    intro he a w hs
    subst r22
    refine hK20 _ _ ?_
    clear hK20
    refine Vk.seq fun K46 hK46 => ?_
    refine qsk 3 [7, 41] hs fun a hs => ?_
    refine qcs (decide (((x2.length : Nat) : Int) > 4)) hs (fun hb => ?_) fun hb => ?_
    ·replace hm := bif_t hm hb
     refine qse 1 [(6, vi 1)] hs fun a hs => ?_
     refine wp_ret ?_
     exact qr1 (vi 1) hs rfl hRR (by cases hm; exact ⟨rfl, hs.own.drop⟩)
    ·replace hm := bif_f hm hb
     refine wp_skip ?_
     refine hK46 _ _ ?_
     clear hK46
     refine Vk.seq fun K49 hK49 => ?_
     refine qsr fun K50 hK50 => ?_
     refine qpu 1 hs fun a hs => ?_
     obtain ⟨v_52, h_51, hm⟩ := bind_t hm
     refine qli 0 hs rfl h_51 fun a hs => ?_
     refine qpk 1 [44] hs fun a hs => hK50 _ _ ?_
     clear hK50
     refine qcs (decide (v_52 > 12)) hs (fun hb => ?_) fun hb => ?_
     ·replace hm := bif_t hm hb
      refine qse 1 [(6, vi 3)] hs fun a hs => ?_
      refine wp_ret ?_
      exact qr1 (vi 3) hs rfl hRR (by cases hm; exact ⟨rfl, hs.own.drop⟩)
     ·replace hm := bif_f hm hb
      refine wp_skip ?_
      refine hK49 _ _ ?_
      clear hK49
      refine qse 1 [(6, vi 0)] hs fun a hs => ?_
      refine wp_ret ?_
      exact qr1 (vi 0) hs rfl hRR (by cases hm; exact ⟨rfl, hs.own.drop⟩)
   have hret22 : ∀ v, r22 = Sum.inl v → v = r := by intro v he; subst r22; exact Option.some.inj hm
   refine Vk.loopBy (fun k (s : Int) a w => visorref31_Check.l1 x0 x2 k s = some r22 ∧ St 45 a w κ [(2, .slice A_x2 x2.length c_x2), (3, pp b_2), (7, pp b_13), (8, vi s)] (pt b_2 (blk (Tapi_Trace.obj x0 A_x0ops c_x0ops A_x0blocks c_x0blocks) 25) :: pt b_13 (blk v_12 57) :: S)) k 0 ⟨hl22, hs.go [2, 3, 7, 8] [1, 0] 2 (by kernel_rfl) (by kernel_rfl) (by kernel_rfl)⟩ (fun s a w h => by obtain ⟨h1, _⟩ := h; simp [visorref31_Check.l1] at h1) (fun k KL22 ih q_23 a w h => ?_)
   obtain ⟨hm, hs⟩ := h
   try dsimp only at hm hs
   rw [visorref31_Check.l1] at hm
   refine Vk.seq fun K24 hK24 => ?_
   refine qsk 4 [2, 3, 7, 8, 21] hs fun a hs => ?_
   refine qcs (decide (q_23 < ((x2.length : Nat) : Int))) hs (fun hb => ?_) fun hb => ?_
   ·replace hm := bif_t hm hb
    refine wp_skip ?_
    refine hK24 _ _ ?_
    clear hK24
    refine Vk.seq fun K26 hK26 => ?_
    refine wp_block ?_
    refine Vk.seq fun K27 hK27 => ?_
    obtain ⟨C_28, hC_28⟩ := qC hs.own
    refine qdr 15 κ C_28 hs fun w hs hqC_28 => ?_
    have hcl := qO hC_28 hs.own
    refine qdp (fuel := 13) [0, 1] hs hcl hqC_28 fun a hs => ?_
    obtain ⟨h_29, hm⟩ := ite_t hm
    obtain ⟨e_32, h_30, hm⟩ := bind_t hm
    obtain ⟨b_33, o_34, hA_35, h_31⟩ := Sl.elem hx_x2 h_30
    refine qdt 2 (.pointer (some ⟨b_33, o_34 + q_23.toNat * 1, none⟩)) (op := (.indexAddr 28 (.tmp 24) (.tmp 25))) hs hcl hqC_28 (fun w hw o ho => by rw [hC_28] at hw; exact run_idxSlc (k := .i64) ho (cap := c_x2) (len := x2.length) ((congrArg (fun A => Value.slice A (x2.length) (c_x2)) hA_35) ▸ (by kernel_rfl)) (by kernel_rfl) (by kernel_rfl) (idx_ok h_29 h_30) _) fun a hs => ?_
    refine qdt 3 (vi e_32) (op := (.load 3 (.tmp 26))) hs hcl hqC_28 (fun w hw o ho => by rw [hC_28] at hw; exact run_load1 (c := ci e_32) ho (by kernel_rfl) (by kernel_rfl) (fun w ho => h_31 w ho 0 _ rfl) _ hw.drop.drop) fun a hs => ?_
    refine qdp (fuel := 9) [4, 5] hs hcl hqC_28 fun a hs => ?_
    rcases Bool.eq_false_or_eq_true (decide (e_32 < 0)) with hb | hb
    ·replace hm := bif_t hm hb
     replace hs := hs.known (t := 29) hb (by kernel_rfl)
     refine qdp (fuel := 0) [6, 7, 8, 9, 10, 11, 12, 13, 14] hs hcl hqC_28 fun a hs => ?_
     replace hs := hs.pick [2, 3, 7, 8, 38] (L' := [(2, .slice A_x2 x2.length c_x2), (3, pp b_2), (7, pp b_13), (8, vi q_23), (38, .bool true)]) (by kernel_rfl)
     refine Vk.dDone (by kernel_rfl) ?_
     refine hK27 _ _ ?_
     refine qct hs ?_
     refine qse 1 [(6, vi 1)] hs fun a hs => ?_
     refine wp_ret ?_
     exact Vk.ret1 (P := Tryz.prog) (fn := Tryz.f17) (R := RR) (vi 1) hs rfl (by kernel_rfl) (by obtain rfl := hret22 _ ((Option.some.inj hm).symm); subst hRR; exact ⟨rfl, hs.own.f1.drop.drop⟩)
    ·replace hm := bif_f hm hb
     replace hs := hs.known (t := 29) hb (by kernel_rfl)
     refine qdp (fuel := 6) [6, 7, 10] hs hcl hqC_28 fun a hs => ?_
     obtain ⟨h_36, hm⟩ := ite_t hm
     obtain ⟨e_39, h_37, hm⟩ := bind_t hm
     obtain ⟨b_40, o_41, hA_42, h_38⟩ := Sl.elem hx_x2 h_37
     refine qdt 8 (.pointer (some ⟨b_40, o_41 + q_23.toNat * 1, none⟩)) (op := (.indexAddr 28 (.tmp 30) (.tmp 31))) hs hcl hqC_28 (fun w hw o ho => by rw [hC_28] at hw; exact run_idxSlc (k := .i64) ho (cap := c_x2) (len := x2.length) ((congrArg (fun A => Value.slice A (x2.length) (c_x2)) hA_42) ▸ (by kernel_rfl)) (by kernel_rfl) (by kernel_rfl) (idx_ok h_36 h_37) _) fun a hs => ?_
     refine qdt 9 (vi e_39) (op := (.load 3 (.tmp 32))) hs hcl hqC_28 (fun w hw o ho => by rw [hC_28] at hw; exact run_load1 (c := ci e_39) ho (by kernel_rfl) (by kernel_rfl) (fun w ho => h_38 w ho 0 _ rfl) _ hw.drop.drop) fun a hs => ?_
     refine qdl 11 0 (C.slc A_x0ops x0.ops.length c_x0ops) hs hcl hqC_28 hC_28 rfl fun a hs => ?_
     refine qdp (fuel := 0) [12, 13, 14] hs hcl hqC_28 fun a hs => ?_
     replace hs := hs.pick [2, 3, 7, 8, 30, 31, 32, 33, 34, 35, 36, 37, 38] (L' := [(2, .slice A_x2 x2.length c_x2), (3, pp b_2), (7, pp b_13), (8, vi q_23), (30, .slice A_x2 x2.length c_x2), (31, vi q_23), (32, .pointer (some ⟨b_40, o_41 + q_23.toNat * 1, none⟩)), (33, vi e_39), (34, .pointer (some ⟨b_2, 1, none⟩)), (35, .slice A_x0ops x0.ops.length c_x0ops), (36, vi ((x0.ops.length : Nat) : Int)), (37, .bool (decide (e_39 ≥ ((x0.ops.length : Nat) : Int)))), (38, .bool (decide (e_39 ≥ ((x0.ops.length : Nat) : Int))))]) (by kernel_rfl)
     refine Vk.dDone (by kernel_rfl) ?_
     refine hK27 _ _ ?_
     refine qcs (decide (e_39 ≥ ((x0.ops.length : Nat) : Int))) hs (fun hb => ?_) fun hb => ?_
     ·replace hm := bif_t hm hb
      refine qse 1 [(6, vi 1)] hs fun a hs => ?_
      refine wp_ret ?_
      exact Vk.ret1 (P := Tryz.prog) (fn := Tryz.f17) (R := RR) (vi 1) hs rfl (by kernel_rfl) (by obtain rfl := hret22 _ ((Option.some.inj hm).symm); subst hRR; exact ⟨rfl, hs.own.f1.drop.drop⟩)
     ·replace hm := bif_f hm hb
      refine wp_skip ?_
      refine hK26 _ _ ?_
      clear hK26
      refine Vk.region ?_
      refine qpk 3 [2, 3, 7, 8, 30, 31, 32, 33, 34, 35, 36, 37] hs fun a hs => ?_
      refine ih (IntKind.i64.wrap (q_23 + 1)) _ _ ⟨hm, hs.go [2, 3, 7, 8] [0, 1] 2 (by kernel_rfl) (by kernel_rfl) (by kernel_rfl)⟩
   ·replace hm := bif_f hm hb
    refine wp_exit ?_
    exact hx22 (Option.some.inj hm).symm _ _ (hs.go [2, 7] [1] 2 (by kernel_rfl) (by kernel_rfl) (by kernel_rfl))


def visorref31_Tape.l1 (x1 : Int) : Nat → Int → (List Int) → Int → Option (List Int)
 | 0, _, _, _ => none
 | k + 1, q_8, q_11, q_12 => (bif decide (q_12 < x1) then (if (q_11.length + ([IntKind.u64.wrap (Int.tmod q_8 2)] : List Int).length) * 8 ≤ 140737488355328 then visorref31_Tape.l1 x1 k (IntKind.i64.wrap (Int.tdiv q_8 2)) (q_11 ++ ([IntKind.u64.wrap (Int.tmod q_8 2)] : List Int)) (IntKind.i64.wrap (q_12 + 1)) else none) else some q_11)
abbrev visorref31_Tape.R (κ : Ctx) (S : List HP) (x0 : Int) (x1 : Int) (r : List Int) : Ending → World → Prop := fun e w' => ∃ (A_r0 : Option Addr), ∃ (c_r0 : Nat), e = .returned (.slice A_r0 r.length c_r0) ∧ Ow κ w' (rowp A_r0 c_r0 34 1 (eI .u64) r :: S)
def visorref31_Tape.m (k : Nat) (x0 : Int) (x1 : Int) : Option (List Int) := (visorref31_Tape.l1 x1 k x0 ([] : List Int) 0).bind fun p_24 => some p_24

set_option maxRecDepth 100000 in
set_option maxHeartbeats 4000000 in
theorem visorref31_Tape.ok (k : Nat) (x0 : Int) (x1 : Int) (r : List Int) (hm : visorref31_Tape.m k x0 x1 = some r) (κ : Ctx) (w : World) (S : List HP) (ho : Ow κ w (S)) :
  Calls Tryz.prog 21 #[vi x0, vi x1] w (visorref31_Tape.R κ S x0 x1 r) := by
 unfold visorref31_Tape.m at hm
 generalize hRR : visorref31_Tape.R κ S x0 x1 r = RR
 refine qen [(0, vi x0), (1, vi x1)] Tryz.func21 Tryz.ntmps21 ho fun a hs => ?_
 refine qse 1 [(0, vi x0), (1, vi x1)] hs fun a hs => ?_
 refine qsr fun K2 hK2 => ?_
 refine Vk.step (Vk.buildOp (sz := 1) (by_ := 8) (t := 26) (e := 34) (parts := #[]) (zs := vals [cw 0]) ([] : List Int) (eI .u64) (some 7) hs (by kernel_rfl) (by kernel_rfl) (by kernel_rfl) (by kernel_rfl) (by decide) rfl (fun x _ => rfl) (Nat.le_of_ble_eq_true (by kernel_rfl)) (by kernel_rfl) fun A_3 w a hs => ?_)
 refine qpk 1 [0, 1, 5] hs fun a hs => hK2 _ _ ?_
 clear hK2
 refine Vk.seq fun K5 hK5 => ?_
 refine qsk 1 [0, 1, 5, 6] hs fun a hs => ?_
 refine wp_block ?_
 obtain ⟨r7, hl7, hm⟩ := bind_t hm
 have hx7 : ∀ (p_24 : List Int), r7 = p_24 → ∀ (A_22 : Option Addr) (c_23 : Nat) (a : Act) (w : World), St 22 a w κ [(5, .slice A_22 p_24.length c_23)] (rowp A_22 c_23 34 1 (eI .u64) p_24 :: S) → K5 a w := by
  intro p_24 he A_22 c_23 a w hs
  subst r7
  refine hK5 _ _ ?_
  clear hK5
  refine qse 2 [(4, .slice A_22 p_24.length c_23)] hs fun a hs => ?_
  refine wp_ret ?_
  exact qr1 (.slice A_22 p_24.length c_23) hs rfl hRR (by cases hm; exact ⟨A_22, c_23, rfl, hs.own⟩)
 refine Vk.loopBy (fun k (s : Int × List Int × Int) a w => ∃ (A_9 : Option Addr), ∃ (c_10 : Nat), visorref31_Tape.l1 x1 k s.1 s.2.1 s.2.2 = some r7 ∧ St 22 a w κ [(0, vi s.1), (1, vi x1), (5, .slice A_9 s.2.1.length c_10), (6, vi s.2.2)] (rowp A_9 c_10 34 1 (eI .u64) s.2.1 :: S)) k (x0, ([] : List Int), 0) ⟨A_3, 0, hl7, hs.go [0, 1, 5, 6] [0] 1 (by kernel_rfl) (by kernel_rfl) (by kernel_rfl)⟩ (fun s a w h => by obtain ⟨_, _, h1, _⟩ := h; simp [visorref31_Tape.l1] at h1) (fun k KL7 ih s a w h => ?_)
 obtain ⟨q_8, q_11, q_12⟩ := s
 obtain ⟨A_9, c_10, hm, hs⟩ := h
 try dsimp only at hm hs
 rw [visorref31_Tape.l1] at hm
 refine Vk.seq fun K13 hK13 => ?_
 refine qsk 3 [0, 1, 5, 6, 10] hs fun a hs => ?_
 refine qcs (decide (q_12 < x1)) hs (fun hb => ?_) fun hb => ?_
 ·replace hm := bif_t hm hb
  refine wp_skip ?_
  refine hK13 _ _ ?_
  clear hK13
  refine Vk.seq fun K15 hK15 => ?_
  refine wp_block ?_
  refine qsr fun K16 hK16 => ?_
  refine qpu 4 hs fun a hs => ?_
  refine Vk.step (Vk.buildOp (sz := 1) (by_ := 8) (t := 26) (e := 34) (parts := #[(0, (.tmp 16))]) (zs := vals [cw 0]) ([IntKind.u64.wrap (Int.tmod q_8 2)] : List Int) (eI .u64) (some 17) hs (by kernel_rfl) (by kernel_rfl) (by kernel_rfl) (by kernel_rfl) (by decide) rfl (fun x _ => rfl) (Nat.le_of_ble_eq_true (by kernel_rfl)) (by kernel_rfl) fun A_17 w a hs => ?_)
  obtain ⟨h_19, hm⟩ := ite_t hm
  refine Vk.step (Vk.appendOp (x := (.tmp 13)) (y := (.tmp 17)) (e := 34) (t := 26) (by_ := 8) (sz := 1) (enc := (eI .u64)) (A := A_9) (cap := c_10) (xs := q_11) (ys := ([IntKind.u64.wrap (Int.tmod q_8 2)] : List Int)) (B := A_17) (c2 := 1) 1 (some 18) hs (by kernel_rfl) (by kernel_rfl) (by kernel_rfl) (by kernel_rfl) rfl (Sl.lift (fun w ho => (Ow.to (S' := rowp A_17 1 34 1 (eI .u64) ([IntKind.u64.wrap (Int.tmod q_8 2)] : List Int) :: S) ho [0] 2 (by kernel_rfl) (by kernel_rfl))) (Ow.rowSl 0 (Ow.to (S' := rowp A_17 1 34 1 (eI .u64) ([IntKind.u64.wrap (Int.tmod q_8 2)] : List Int) :: S) hs.own [0] 2 (by kernel_rfl) (by kernel_rfl)) rfl)) (by kernel_rfl) (by kernel_rfl) (by decide) (by decide) h_19 fun A_20 c_21 w a hs => ?_)
  refine qpk 1 [0, 1, 5, 6] hs fun a hs => hK16 _ _ ?_
  clear hK16
  refine Vk.region ?_
  refine qpk 3 [0, 1, 5, 6] hs fun a hs => hK15 _ _ ?_
  clear hK15
  refine Vk.region ?_
  refine qpk 3 [0, 1, 5, 6] hs fun a hs => ?_
  refine ih ((IntKind.i64.wrap (Int.tdiv q_8 2)), (q_11 ++ ([IntKind.u64.wrap (Int.tmod q_8 2)] : List Int)), (IntKind.i64.wrap (q_12 + 1))) _ _ ⟨A_20, c_21, hm, hs.go [0, 1, 5, 6] [1] 2 (by kernel_rfl) (by kernel_rfl) (by kernel_rfl)⟩
 ·replace hm := bif_f hm hb
  refine wp_exit ?_
  exact hx7 q_11 (Option.some.inj hm).symm A_9 c_10 _ _ (hs.go [5] [0] 1 (by kernel_rfl) (by kernel_rfl) (by kernel_rfl))

end Go.Proofs.YtkabdodcacfmlaaGreat
