/- Of each Go function that ReplayTells comes to: a model in plain Lean, and that the program's call does what the model says; no condition. -/
import Derived.Test.YtebgjmhkmmlpeaaProg
import Derived.Test.YtebgjmhkmmlpeaaVfahfkcjf
import Derived.Test.YtebgjmhkmmlpeaaMReplayTells0
namespace Go.Proofs.Ytebgjmhkmmlpeaa
open Go Go.Vk
set_option linter.unusedVariables false


abbrev visorref29_Word.R (κ : Ctx) (S : List HP) (x0 : List Int) (x1 : Int) (A_x0 : Option Addr) (c_x0 : Nat) (r : Int) : Ending → World → Prop := fun e w' => e = .returned (vw r) ∧ Ow κ w' (S)
def visorref29_Word.m (k : Nat) (x0 : List Int) (x1 : Int) : Option Int := (bif (decide (x1 < 0)) || (decide (x1 ≥ ((x0.length : Nat) : Int))) then some 0 else (if 0 ≤ x1 then (x0[x1.toNat]?).bind fun e_10 => some e_10 else none))

set_option maxRecDepth 100000 in
set_option maxHeartbeats 4000000 in
theorem visorref29_Word.ok (k : Nat) (x0 : List Int) (x1 : Int) (r : Int) (hm : visorref29_Word.m k x0 x1 = some r) (κ : Ctx) (w : World) (S : List HP) (A_x0 : Option Addr) (c_x0 : Nat) (hx_x0 : Sl κ S A_x0 c_x0 1 (eI .u64) x0) (ho : Ow κ w (S)) :
  Calls Try.prog 27 #[.slice A_x0 x0.length c_x0, vi x1] w (visorref29_Word.R κ S x0 x1 A_x0 c_x0 r) := by
 unfold visorref29_Word.m at hm
 generalize hRR : visorref29_Word.R κ S x0 x1 A_x0 c_x0 r = RR
 refine qen [(0, .slice A_x0 x0.length c_x0), (1, vi x1)] Try.func27 Try.ntmps27 ho fun a hs => ?_
 refine qsk 1 [0, 1] hs fun a hs => ?_
 refine Vk.seq fun K2 hK2 => ?_
 refine qsr fun K3 hK3 => ?_
 refine qpu 3 hs fun a hs => ?_
 refine qsc 7 5 hs fun a hs => ?_
 refine qpk 0 [0, 1, 12] hs fun a hs => hK3 _ _ ?_
 clear hK3
 refine qcs ((decide (x1 < 0)) || (decide (x1 ≥ ((x0.length : Nat) : Int)))) hs (fun hb => ?_) fun hb => ?_
 ·replace hm := bif_t hm hb
  refine qse 1 [(4, vw 0)] hs fun a hs => ?_
  refine wp_ret ?_
  exact qr1 (vw 0) hs rfl hRR (by cases hm; exact ⟨rfl, hs.own⟩)
 ·replace hm := bif_f hm hb
  refine wp_skip ?_
  refine hK2 _ _ ?_
  clear hK2
  refine qsr fun K6 hK6 => ?_
  refine qpu 2 hs fun a hs => ?_
  obtain ⟨h_7, hm⟩ := ite_t hm
  obtain ⟨e_10, h_8, hm⟩ := bind_t hm
  obtain ⟨b_11, o_12, hA_13, h_9⟩ := Sl.elem hx_x0 h_8
  refine qva (.pointer (some ⟨b_11, o_12 + x1.toNat * 1, none⟩)) (op := (.indexAddr 59 (.tmp 13) (.tmp 14))) hs (fun o ho => run_idxSlc (k := .i64) ho (cap := c_x0) (len := x0.length) ((congrArg (fun A => Value.slice A (x0.length) (c_x0)) hA_13) ▸ (by kernel_rfl)) (by kernel_rfl) (by kernel_rfl) (idx_ok h_7 h_8) _) fun a hs => ?_
  refine qva (vw e_10) (op := (.load 71 (.tmp 15))) hs (fun o ho => run_load1 (c := cw e_10) ho (by kernel_rfl) (by kernel_rfl) (fun w ho => h_9 w ho 0 _ rfl) _ hs.own) fun a hs => ?_
  refine qpe 1 [(4, vw e_10)] hs fun a hs => hK6 _ _ ?_
  clear hK6
  refine wp_ret ?_
  exact qr1 (vw e_10) hs rfl hRR (by cases hm; exact ⟨rfl, hs.own⟩)


def visorref01_Low.l1 (x0 : Int) : Nat → Int → Int → Option (Int)
 | 0, _, _ => none
 | k + 1, q_6, q_7 => (bif (decide (q_7 < x0)) && (decide (q_7 < 64)) then visorref01_Low.l1 x0 k (IntKind.u64.wrap ((IntKind.u64.wrap (q_6 * 2)) + 1)) (IntKind.i64.wrap (q_7 + 1)) else some q_6)
abbrev visorref01_Low.R (κ : Ctx) (S : List HP) (x0 : Int) (r : Int) : Ending → World → Prop := fun e w' => e = .returned (vw r) ∧ Ow κ w' (S)
def visorref01_Low.m (k : Nat) (x0 : Int) : Option Int := (visorref01_Low.l1 x0 k 0 0).bind fun p_12 => some p_12

set_option maxRecDepth 100000 in
set_option maxHeartbeats 4000000 in
theorem visorref01_Low.ok (k : Nat) (x0 : Int) (r : Int) (hm : visorref01_Low.m k x0 = some r) (κ : Ctx) (w : World) (S : List HP) (ho : Ow κ w (S)) :
  Calls Try.prog 47 #[vi x0] w (visorref01_Low.R κ S x0 r) := by
 unfold visorref01_Low.m at hm
 generalize hRR : visorref01_Low.R κ S x0 r = RR
 refine qen [(0, vi x0)] Try.func47 Try.ntmps47 ho fun a hs => ?_
 refine qse 1 [(0, vi x0)] hs fun a hs => ?_
 refine qse 1 [(0, vi x0), (3, vw 0)] hs fun a hs => ?_
 refine Vk.seq fun K3 hK3 => ?_
 refine qsk 1 [0, 3, 4] hs fun a hs => ?_
 refine wp_block ?_
 obtain ⟨r5, hl5, hm⟩ := bind_t hm
 have hx5 : ∀ (p_12 : Int), r5 = p_12 → ∀ (a : Act) (w : World), St 18 a w κ [(3, vw p_12)] (S) → K3 a w := by
  intro p_12 he a w hs
  subst r5
  refine hK3 _ _ ?_
  clear hK3
  refine qse 2 [(2, vw p_12)] hs fun a hs => ?_
  refine wp_ret ?_
  exact qr1 (vw p_12) hs rfl hRR (by cases hm; exact ⟨rfl, hs.own⟩)
 refine Vk.loopBy (fun k (s : Int × Int) a w => visorref01_Low.l1 x0 k s.1 s.2 = some r5 ∧ St 18 a w κ [(0, vi x0), (3, vw s.1), (4, vi s.2)] (S)) k (0, 0) ⟨hl5, hs.go [0, 3, 4] [] 0 (by kernel_rfl) (by kernel_rfl) (by kernel_rfl)⟩ (fun s a w h => by obtain ⟨h1, _⟩ := h; simp [visorref01_Low.l1] at h1) (fun k KL5 ih s a w h => ?_)
 obtain ⟨q_6, q_7⟩ := s
 obtain ⟨hm, hs⟩ := h
 try dsimp only at hm hs
 rw [visorref01_Low.l1] at hm
 refine Vk.seq fun K8 hK8 => ?_
 refine qsr fun K9 hK9 => ?_
 refine qpu 4 hs fun a hs => ?_
 refine qsc 8 3 hs fun a hs => ?_
 refine qpk 0 [0, 3, 4, 11] hs fun a hs => hK9 _ _ ?_
 clear hK9
 refine qcs ((decide (q_7 < x0)) && (decide (q_7 < 64))) hs (fun hb => ?_) fun hb => ?_
 ·replace hm := bif_t hm hb
  refine wp_skip ?_
  refine hK8 _ _ ?_
  clear hK8
  refine Vk.seq fun K11 hK11 => ?_
  refine wp_block ?_
  refine Vk.region ?_
  refine qpk 4 [0, 3, 4] hs fun a hs => hK11 _ _ ?_
  clear hK11
  refine Vk.region ?_
  refine qpk 3 [0, 3, 4] hs fun a hs => ?_
  refine ih ((IntKind.u64.wrap ((IntKind.u64.wrap (q_6 * 2)) + 1)), (IntKind.i64.wrap (q_7 + 1))) _ _ ⟨hm, hs.go [0, 3, 4] [] 0 (by kernel_rfl) (by kernel_rfl) (by kernel_rfl)⟩
 ·replace hm := bif_f hm hb
  refine wp_exit ?_
  exact hx5 q_6 (Option.some.inj hm).symm _ _ (hs.go [3] [] 0 (by kernel_rfl) (by kernel_rfl) (by kernel_rfl))


abbrev visorref01_Mod.R (κ : Ctx) (S : List HP) (x0 : Int) (x1 : Int) (r : Int) : Ending → World → Prop := fun e w' => e = .returned (vi r) ∧ Ow κ w' (S)
def visorref01_Mod.m (k : Nat) (x0 : Int) (x1 : Int) : Option Int := (if x1 ≠ 0 then (bif decide ((Int.tmod x0 x1) < 0) then (if x1 ≠ 0 then some (IntKind.i64.wrap ((Int.tmod x0 x1) + x1)) else none) else (if x1 ≠ 0 then some (Int.tmod x0 x1) else none)) else none)

set_option maxRecDepth 100000 in
set_option maxHeartbeats 4000000 in
theorem visorref01_Mod.ok (k : Nat) (x0 : Int) (x1 : Int) (r : Int) (hm : visorref01_Mod.m k x0 x1 = some r) (κ : Ctx) (w : World) (S : List HP) (ho : Ow κ w (S)) :
  Calls Try.prog 57 #[vi x0, vi x1] w (visorref01_Mod.R κ S x0 x1 r) := by
 unfold visorref01_Mod.m at hm
 generalize hRR : visorref01_Mod.R κ S x0 x1 r = RR
 refine qen [(0, vi x0), (1, vi x1)] Try.func57 Try.ntmps57 ho fun a hs => ?_
 refine qse 1 [(0, vi x0), (1, vi x1)] hs fun a hs => ?_
 refine Vk.seq fun K2 hK2 => ?_
 refine qsr fun K3 hK3 => ?_
 refine qpu 2 hs fun a hs => ?_
 obtain ⟨h_4, hm⟩ := ite_t hm
 refine qva (vi (Int.tmod x0 x1)) (op := (.binOp .rem 3 (.tmp 5) (.tmp 6) 3)) hs (fun o ho => run_rem ho (by kernel_rfl) (by kernel_rfl) h_4 _) fun a hs => ?_
 refine qpk 1 [0, 1, 8] hs fun a hs => hK3 _ _ ?_
 clear hK3
 refine qcs (decide ((Int.tmod x0 x1) < 0)) hs (fun hb => ?_) fun hb => ?_
 ·replace hm := bif_t hm hb
  refine qsr fun K5 hK5 => ?_
  refine qpu 2 hs fun a hs => ?_
  obtain ⟨h_6, hm⟩ := ite_t hm
  refine qva (vi (Int.tmod x0 x1)) (op := (.binOp .rem 3 (.tmp 9) (.tmp 10) 3)) hs (fun o ho => run_rem ho (by kernel_rfl) (by kernel_rfl) h_6 _) fun a hs => ?_
  refine qpk 3 [4] hs fun a hs => hK5 _ _ ?_
  clear hK5
  refine wp_ret ?_
  exact qr1 (vi (IntKind.i64.wrap ((Int.tmod x0 x1) + x1))) hs rfl hRR (by cases hm; exact ⟨rfl, hs.own⟩)
 ·replace hm := bif_f hm hb
  refine wp_skip ?_
  refine hK2 _ _ ?_
  clear hK2
  refine qsr fun K7 hK7 => ?_
  refine qpu 2 hs fun a hs => ?_
  obtain ⟨h_8, hm⟩ := ite_t hm
  refine qva (vi (Int.tmod x0 x1)) (op := (.binOp .rem 3 (.tmp 14) (.tmp 15) 3)) hs (fun o ho => run_rem ho (by kernel_rfl) (by kernel_rfl) h_8 _) fun a hs => ?_
  refine qpk 1 [4] hs fun a hs => hK7 _ _ ?_
  clear hK7
  refine wp_ret ?_
  exact qr1 (vi (Int.tmod x0 x1)) hs rfl hRR (by cases hm; exact ⟨rfl, hs.own⟩)


def visorref01_Rot.l1 (x1 : Int) : Nat → Int → Int → Option (Int)
 | 0, _, _ => none
 | k + 1, q_5, q_6 => (visorref01_Mod.m k x1 64).bind fun v_11 => (bif decide (q_6 < v_11) then visorref01_Rot.l1 x1 k (IntKind.u64.wrap ((IntKind.u64.wrap (q_5 * 2)) + (IntKind.u64.wrap (Int.tdiv q_5 9223372036854775808)))) (IntKind.i64.wrap (q_6 + 1)) else some q_5)
abbrev visorref01_Rot.R (κ : Ctx) (S : List HP) (x0 : Int) (x1 : Int) (r : Int) : Ending → World → Prop := fun e w' => e = .returned (vw r) ∧ Ow κ w' (S)
def visorref01_Rot.m (k : Nat) (x0 : Int) (x1 : Int) : Option Int := (visorref01_Rot.l1 x1 k x0 0).bind fun p_13 => some p_13

set_option maxRecDepth 100000 in
set_option maxHeartbeats 4000000 in
theorem visorref01_Rot.ok (k : Nat) (x0 : Int) (x1 : Int) (r : Int) (hm : visorref01_Rot.m k x0 x1 = some r) (κ : Ctx) (w : World) (S : List HP) (ho : Ow κ w (S)) :
  Calls Try.prog 46 #[vw x0, vi x1] w (visorref01_Rot.R κ S x0 x1 r) := by
 unfold visorref01_Rot.m at hm
 generalize hRR : visorref01_Rot.R κ S x0 x1 r = RR
 refine qen [(0, vw x0), (1, vi x1)] Try.func46 Try.ntmps46 ho fun a hs => ?_
 refine qse 1 [(0, vw x0), (1, vi x1)] hs fun a hs => ?_
 refine Vk.seq fun K2 hK2 => ?_
 refine qsk 1 [0, 1, 5] hs fun a hs => ?_
 refine wp_block ?_
 obtain ⟨r4, hl4, hm⟩ := bind_t hm
 have hx4 : ∀ (p_13 : Int), r4 = p_13 → ∀ (a : Act) (w : World), St 18 a w κ [(0, vw p_13)] (S) → K2 a w := by
  intro p_13 he a w hs
  subst r4
  refine hK2 _ _ ?_
  clear hK2
  refine qse 2 [(4, vw p_13)] hs fun a hs => ?_
  refine wp_ret ?_
  exact qr1 (vw p_13) hs rfl hRR (by cases hm; exact ⟨rfl, hs.own⟩)
 refine Vk.loopBy (fun k (s : Int × Int) a w => visorref01_Rot.l1 x1 k s.1 s.2 = some r4 ∧ St 18 a w κ [(0, vw s.1), (1, vi x1), (5, vi s.2)] (S)) k (x0, 0) ⟨hl4, hs.go [0, 1, 5] [] 0 (by kernel_rfl) (by kernel_rfl) (by kernel_rfl)⟩ (fun s a w h => by obtain ⟨h1, _⟩ := h; simp [visorref01_Rot.l1] at h1) (fun k KL4 ih s a w h => ?_)
 obtain ⟨q_5, q_6⟩ := s
 obtain ⟨hm, hs⟩ := h
 try dsimp only at hm hs
 rw [visorref01_Rot.l1] at hm
 refine Vk.seq fun K7 hK7 => ?_
 refine qsr fun K8 hK8 => ?_
 refine qpu 2 hs fun a hs => ?_
 obtain ⟨v_11, h_10, hm⟩ := bind_t hm
 refine qcl (visorref01_Mod.ok _ _ _ _ h_10 _ _ (S) hs.own) hs fun w a hs => ?_
 refine qpk 1 [0, 1, 5, 9] hs fun a hs => hK8 _ _ ?_
 clear hK8
 refine qcs (decide (q_6 < v_11)) hs (fun hb => ?_) fun hb => ?_
 ·replace hm := bif_t hm hb
  refine wp_skip ?_
  refine hK7 _ _ ?_
  clear hK7
  refine Vk.seq fun K12 hK12 => ?_
  refine wp_block ?_
  refine Vk.region ?_
  refine qpk 6 [0, 1, 5] hs fun a hs => hK12 _ _ ?_
  clear hK12
  refine Vk.region ?_
  refine qpk 3 [0, 1, 5] hs fun a hs => ?_
  refine ih ((IntKind.u64.wrap ((IntKind.u64.wrap (q_5 * 2)) + (IntKind.u64.wrap (Int.tdiv q_5 9223372036854775808)))), (IntKind.i64.wrap (q_6 + 1))) _ _ ⟨hm, hs.go [0, 1, 5] [] 0 (by kernel_rfl) (by kernel_rfl) (by kernel_rfl)⟩
 ·replace hm := bif_f hm hb
  refine wp_exit ?_
  exact hx4 q_5 (Option.some.inj hm).symm _ _ (hs.go [0] [] 0 (by kernel_rfl) (by kernel_rfl) (by kernel_rfl))


def visorref17_Eval.j1 (k : Nat) (x0 : Tapi_Op) (x1 : Int) (x2 : Int) (x3 : Int) (p_12 : Bool) : Option (Int) := (bif p_12 then some x0.c else (bif x0.kind == 5 then some (bxor .u64 x1 x2) else (bif x0.kind == 6 then some (IntKind.u64.wrap (18446744073709551615 - x1)) else (bif x0.kind == 7 then some (band .u64 x1 x2) else (bif x0.kind == 8 then some (band .u64 x1 x0.c) else (bif x0.kind == 9 then (visorref01_Low.m k (IntKind.i64.wrap (64 - (IntKind.i64.wrap (Int.tmod x0.c 64))))).bind fun v_26 => (visorref01_Rot.m k (band .u64 x1 v_26) (IntKind.i64.wrap (Int.tmod x0.c 64))).bind fun v_29 => some v_29 else (bif x0.kind == 10 then (visorref01_Rot.m k x1 (IntKind.i64.wrap (64 - (IntKind.i64.wrap (Int.tmod x0.c 64))))).bind fun v_34 => (visorref01_Low.m k (IntKind.i64.wrap (64 - (IntKind.i64.wrap (Int.tmod x0.c 64))))).bind fun v_37 => some (band .u64 v_34 v_37) else (bif x0.kind == 11 then (visorref01_Rot.m k x1 (IntKind.i64.wrap (Int.tmod x0.c 64))).bind fun v_42 => some v_42 else (bif x0.kind == 12 then some (bxor .u64 (bxor .u64 x1 x2) x3) else some 0)))))))))
abbrev visorref17_Eval.R (κ : Ctx) (S : List HP) (x0 : Tapi_Op) (x1 : Int) (x2 : Int) (x3 : Int) (x4 : Int) (r : Int) : Ending → World → Prop := fun e w' => e = .returned (vw r) ∧ Ow κ w' (S)
def visorref17_Eval.m (k : Nat) (x0 : Tapi_Op) (x1 : Int) (x2 : Int) (x3 : Int) (x4 : Int) : Option Int := (bif x0.kind == 1 then some x4 else (bif x0.kind == 2 then some (bxor .u64 (bxor .u64 x4 x1) x2) else (bif x0.kind == 3 then visorref17_Eval.j1 k x0 x1 x2 x3 (x0.kind == 3) else visorref17_Eval.j1 k x0 x1 x2 x3 (x0.kind == 4))))

set_option maxRecDepth 100000 in
set_option maxHeartbeats 4000000 in
theorem visorref17_Eval.ok (k : Nat) (x0 : Tapi_Op) (x1 : Int) (x2 : Int) (x3 : Int) (x4 : Int) (r : Int) (hm : visorref17_Eval.m k x0 x1 x2 x3 x4 = some r) (κ : Ctx) (w : World) (S : List HP) (ho : Ow κ w (S)) :
  Calls Try.prog 37 #[.agg (vals [ci x0.kind, ci x0.dom, ci x0.a, ci x0.b, ci x0.d, cw x0.c]), vw x1, vw x2, vw x3, vw x4] w (visorref17_Eval.R κ S x0 x1 x2 x3 x4 r) := by
 unfold visorref17_Eval.m at hm
 generalize hRR : visorref17_Eval.R κ S x0 x1 x2 x3 x4 r = RR
 refine qen [(0, .agg (vals [ci x0.kind, ci x0.dom, ci x0.a, ci x0.b, ci x0.d, cw x0.c])), (1, vw x1), (2, vw x2), (3, vw x3), (4, vw x4)] Try.func37 Try.ntmps37 ho fun a hs => ?_
 refine qsr fun K1 hK1 => ?_
 refine qbx 0 85 [ci x0.kind, ci x0.dom, ci x0.a, ci x0.b, ci x0.d, cw x0.c] 5 hs fun b_2 w a hs => ?_
 refine qpk 1 [1, 2, 3, 4, 5] hs fun a hs => hK1 _ _ ?_
 clear hK1
 refine qsr fun K3 hK3 => ?_
 refine qpu 1 hs fun a hs => ?_
 refine qld 0 (cw x0.c) hs rfl fun a hs => ?_
 refine qpk 3 [1, 2, 3, 4, 5, 11] hs fun a hs => hK3 _ _ ?_
 clear hK3
 refine Vk.seq fun K4 hK4 => ?_
 refine qsr fun K5 hK5 => ?_
 refine qpu 1 hs fun a hs => ?_
 refine qld 0 (ci x0.kind) hs rfl fun a hs => ?_
 refine qpk 0 [1, 2, 3, 4, 5, 11, 17] hs fun a hs => hK5 _ _ ?_
 clear hK5
 refine wp_block ?_
 refine qsk 2 [1, 2, 3, 4, 5, 11, 17, 18] hs fun a hs => ?_
 refine qcs (x0.kind == 1) hs (fun hb => ?_) fun hb => ?_
 ·replace hm := bif_t hm hb
  refine qse 2 [(10, vw x4)] hs fun a hs => ?_
  refine wp_ret ?_
  exact qr1 (vw x4) hs rfl hRR (by cases hm; exact ⟨rfl, hs.own.drop⟩)
 ·replace hm := bif_f hm hb
  refine qsk 2 [1, 2, 3, 4, 5, 11, 17, 21] hs fun a hs => ?_
  refine qcs (x0.kind == 2) hs (fun hb => ?_) fun hb => ?_
  ·replace hm := bif_t hm hb
   refine qsk 6 [10] hs fun a hs => ?_
   refine wp_ret ?_
   exact qr1 (vw (bxor .u64 (bxor .u64 x4 x1) x2)) hs rfl hRR (by cases hm; exact ⟨rfl, hs.own.drop⟩)
  ·replace hm := bif_f hm hb
   refine Vk.seq fun K10 hK10 => ?_
   have hj10 : ∀ (p_12 : Bool), visorref17_Eval.j1 k x0 x1 x2 x3 p_12 = some r → ∀ (a : Act) (w : World), St 84 a w κ [(1, vw x1), (2, vw x2), (3, vw x3), (5, pp b_2), (11, vi (IntKind.i64.wrap (Int.tmod x0.c 64))), (17, vi x0.kind), (28, .bool p_12)] (pt b_2 (blk (Tapi_Op.cells x0) 85) :: S) → K10 a w := by
    intro p_12 hm a w hs
    unfold visorref17_Eval.j1 at hm
    refine hK10 _ _ ?_
    refine qcs (p_12) hs (fun hb => ?_) fun hb => ?_
    ·replace hm := bif_t hm hb
     refine qsr fun K13 hK13 => ?_
     refine qpu 1 hs fun a hs => ?_
     refine qld 0 (cw x0.c) hs rfl fun a hs => ?_
     refine qpe 1 [(10, vw x0.c)] hs fun a hs => hK13 _ _ ?_
     clear hK13
     refine wp_ret ?_
     exact qr1 (vw x0.c) hs rfl hRR (by cases hm; exact ⟨rfl, hs.own.drop⟩)
    ·replace hm := bif_f hm hb
     refine qsk 2 [1, 2, 3, 5, 11, 17, 33] hs fun a hs => ?_
     refine qcs (x0.kind == 5) hs (fun hb => ?_) fun hb => ?_
     ·replace hm := bif_t hm hb
      refine qsk 4 [10] hs fun a hs => ?_
      refine wp_ret ?_
      exact qr1 (vw (bxor .u64 x1 x2)) hs rfl hRR (by cases hm; exact ⟨rfl, hs.own.drop⟩)
     ·replace hm := bif_f hm hb
      refine qsk 2 [1, 2, 3, 5, 11, 17, 38] hs fun a hs => ?_
      refine qcs (x0.kind == 6) hs (fun hb => ?_) fun hb => ?_
      ·replace hm := bif_t hm hb
       refine qsk 3 [10] hs fun a hs => ?_
       refine wp_ret ?_
       exact qr1 (vw (IntKind.u64.wrap (18446744073709551615 - x1))) hs rfl hRR (by cases hm; exact ⟨rfl, hs.own.drop⟩)
      ·replace hm := bif_f hm hb
       refine qsk 2 [1, 2, 3, 5, 11, 17, 42] hs fun a hs => ?_
       refine qcs (x0.kind == 7) hs (fun hb => ?_) fun hb => ?_
       ·replace hm := bif_t hm hb
        refine qse 4 [(10, vw (band .u64 x1 x2))] hs fun a hs => ?_
        refine wp_ret ?_
        exact qr1 (vw (band .u64 x1 x2)) hs rfl hRR (by cases hm; exact ⟨rfl, hs.own.drop⟩)
       ·replace hm := bif_f hm hb
        refine qsk 2 [1, 2, 3, 5, 11, 17, 47] hs fun a hs => ?_
        refine qcs (x0.kind == 8) hs (fun hb => ?_) fun hb => ?_
        ·replace hm := bif_t hm hb
         refine qsr fun K21 hK21 => ?_
         refine qpu 2 hs fun a hs => ?_
         refine qld 0 (cw x0.c) hs rfl fun a hs => ?_
         refine qpk 2 [10] hs fun a hs => hK21 _ _ ?_
         clear hK21
         refine wp_ret ?_
         exact qr1 (vw (band .u64 x1 x0.c)) hs rfl hRR (by cases hm; exact ⟨rfl, hs.own.drop⟩)
        ·replace hm := bif_f hm hb
         refine qsk 2 [1, 2, 3, 11, 17, 53] hs fun a hs => ?_
         refine qcs (x0.kind == 9) hs (fun hb => ?_) fun hb => ?_
         ·replace hm := bif_t hm hb
          refine qsr fun K23 hK23 => ?_
          refine qpu 3 hs fun a hs => ?_
          obtain ⟨v_26, h_25, hm⟩ := bind_t hm
          refine qcl (visorref01_Low.ok _ _ _ h_25 _ _ (pt b_2 (blk (Tapi_Op.cells x0) 85) :: S) hs.own) hs fun w a hs => ?_
          refine qpu 2 hs fun a hs => ?_
          obtain ⟨v_29, h_28, hm⟩ := bind_t hm
          refine qcl (visorref01_Rot.ok _ _ _ _ h_28 _ _ (pt b_2 (blk (Tapi_Op.cells x0) 85) :: S) hs.own) hs fun w a hs => ?_
          refine qpe 1 [(10, vw v_29)] hs fun a hs => hK23 _ _ ?_
          clear hK23
          refine wp_ret ?_
          exact qr1 (vw v_29) hs rfl hRR (by cases hm; exact ⟨rfl, hs.own.drop⟩)
         ·replace hm := bif_f hm hb
          refine qsk 2 [1, 2, 3, 11, 17, 62] hs fun a hs => ?_
          refine qcs (x0.kind == 10) hs (fun hb => ?_) fun hb => ?_
          ·replace hm := bif_t hm hb
           refine qsr fun K31 hK31 => ?_
           refine qpu 3 hs fun a hs => ?_
           obtain ⟨v_34, h_33, hm⟩ := bind_t hm
           refine qcl (visorref01_Rot.ok _ _ _ _ h_33 _ _ (pt b_2 (blk (Tapi_Op.cells x0) 85) :: S) hs.own) hs fun w a hs => ?_
           refine qpu 2 hs fun a hs => ?_
           obtain ⟨v_37, h_36, hm⟩ := bind_t hm
           refine qcl (visorref01_Low.ok _ _ _ h_36 _ _ (pt b_2 (blk (Tapi_Op.cells x0) 85) :: S) hs.own) hs fun w a hs => ?_
           refine qpk 2 [10] hs fun a hs => hK31 _ _ ?_
           clear hK31
           refine wp_ret ?_
           exact qr1 (vw (band .u64 v_34 v_37)) hs rfl hRR (by cases hm; exact ⟨rfl, hs.own.drop⟩)
          ·replace hm := bif_f hm hb
           refine qsk 2 [1, 2, 3, 11, 17, 72] hs fun a hs => ?_
           refine qcs (x0.kind == 11) hs (fun hb => ?_) fun hb => ?_
           ·replace hm := bif_t hm hb
            refine qsr fun K39 hK39 => ?_
            refine qpu 2 hs fun a hs => ?_
            obtain ⟨v_42, h_41, hm⟩ := bind_t hm
            refine qcl (visorref01_Rot.ok _ _ _ _ h_41 _ _ (pt b_2 (blk (Tapi_Op.cells x0) 85) :: S) hs.own) hs fun w a hs => ?_
            refine qpe 1 [(10, vw v_42)] hs fun a hs => hK39 _ _ ?_
            clear hK39
            refine wp_ret ?_
            exact qr1 (vw v_42) hs rfl hRR (by cases hm; exact ⟨rfl, hs.own.drop⟩)
           ·replace hm := bif_f hm hb
            refine qsk 2 [1, 2, 3, 77] hs fun a hs => ?_
            refine qcs (x0.kind == 12) hs (fun hb => ?_) fun hb => ?_
            ·replace hm := bif_t hm hb
             refine qsk 6 [10] hs fun a hs => ?_
             refine wp_ret ?_
             exact qr1 (vw (bxor .u64 (bxor .u64 x1 x2) x3)) hs rfl hRR (by cases hm; exact ⟨rfl, hs.own.drop⟩)
            ·replace hm := bif_f hm hb
             refine wp_skip ?_
             refine hK4 _ _ ?_
             clear hK4
             refine qse 1 [(10, vw 0)] hs fun a hs => ?_
             refine wp_ret ?_
             exact qr1 (vw 0) hs rfl hRR (by cases hm; exact ⟨rfl, hs.own.drop⟩)
   refine qse 2 [(1, vw x1), (2, vw x2), (3, vw x3), (5, pp b_2), (11, vi (IntKind.i64.wrap (Int.tmod x0.c 64))), (17, vi x0.kind), (28, .bool (x0.kind == 3))] hs fun a hs => ?_
   refine qcs (x0.kind == 3) hs (fun hb => ?_) fun hb => ?_
   ·replace hm := bif_t hm hb
    refine wp_skip ?_
    exact hj10 (x0.kind == 3) hm _ _ (hs.go [1, 2, 3, 5, 11, 17, 28] [0] 1 (by kernel_rfl) (by kernel_rfl) (by kernel_rfl))
   ·replace hm := bif_f hm hb
    refine Vk.region ?_
    refine qpe 2 [(1, vw x1), (2, vw x2), (3, vw x3), (5, pp b_2), (11, vi (IntKind.i64.wrap (Int.tmod x0.c 64))), (17, vi x0.kind), (28, .bool (x0.kind == 4))] hs fun a hs => ?_
    exact hj10 (x0.kind == 4) hm _ _ (hs.go [1, 2, 3, 5, 11, 17, 28] [0] 1 (by kernel_rfl) (by kernel_rfl) (by kernel_rfl))


def visorref29_Play.j3 (k : Nat) (rec10 : (List Int) → Int → Int → Int → Option (List Int)) (q_14 : Int) (p_89 : List Int) (p_90 : Int) (p_91 : Int) : Option (List Int) := rec10 p_89 p_90 p_91 (IntKind.i64.wrap (q_14 + 1))
def visorref29_Play.j2 (k : Nat) (rec10 : (List Int) → Int → Int → Int → Option (List Int)) (x2 : List Int) (x4 : Bool) (q_11 : List Int) (q_13 : Int) (q_14 : Int) (e_22 : Tapi_Op) (p_38 : Int) (p_50 : Int) : Option (List Int) := (visorref29_Word.m k q_11 e_22.a).bind fun v_55 => (visorref29_Word.m k q_11 e_22.b).bind fun v_58 => (visorref29_Word.m k q_11 e_22.d).bind fun v_61 => (visorref17_Eval.m k e_22 v_55 v_58 v_61 p_50).bind fun v_64 => (if 0 ≤ q_14 then (q_11[q_14.toNat]?).bind fun e_68 => (bif (e_22.kind == 12) && x4 then (if 0 ≤ q_13 then (x2[q_13.toNat]?).bind fun e_78 => (if 0 ≤ q_14 then ((q_11.set q_14.toNat v_64)[q_14.toNat]?).bind fun e_85 => visorref29_Play.j3 k (rec10) q_14 ((q_11.set q_14.toNat v_64).set q_14.toNat e_78) p_38 (IntKind.i64.wrap (q_13 + 1)) else none) else none) else visorref29_Play.j3 k (rec10) q_14 (q_11.set q_14.toNat v_64) p_38 q_13) else none)
def visorref29_Play.j1 (k : Nat) (rec10 : (List Int) → Int → Int → Int → Option (List Int)) (x1 : List Int) (x2 : List Int) (x4 : Bool) (q_11 : List Int) (q_13 : Int) (q_14 : Int) (e_22 : Tapi_Op) (p_38 : Int) (p_39 : Int) : Option (List Int) := (bif (e_22.kind == 2) && (!x4) then (if 0 ≤ e_22.c then (x1[e_22.c.toNat]?).bind fun e_46 => visorref29_Play.j2 k (rec10) x2 x4 q_11 q_13 q_14 e_22 p_38 e_46 else none) else visorref29_Play.j2 k (rec10) x2 x4 q_11 q_13 q_14 e_22 p_38 p_39)
def visorref29_Play.l1 (x0 : Tapi_Trace) (x1 : List Int) (x2 : List Int) (x3 : List Int) (x4 : Bool) : Nat → (List Int) → Int → Int → Int → Option (List Int)
 | 0, _, _, _, _ => none
 | k + 1, q_11, q_12, q_13, q_14 => (bif decide (q_14 < ((x0.ops.length : Nat) : Int)) then (if 0 ≤ q_14 then (x0.ops[q_14.toNat]?).bind fun e_22 => (bif e_22.kind == 1 then (if 0 ≤ q_12 then (x3[q_12.toNat]?).bind fun e_34 => visorref29_Play.j1 k (visorref29_Play.l1 x0 x1 x2 x3 x4 k) x1 x2 x4 q_11 q_13 q_14 e_22 (IntKind.i64.wrap (q_12 + 1)) e_34 else none) else visorref29_Play.j1 k (visorref29_Play.l1 x0 x1 x2 x3 x4 k) x1 x2 x4 q_11 q_13 q_14 e_22 q_12 0) else none) else some q_11)
abbrev visorref29_Play.R (κ : Ctx) (S : List HP) (x0 : Tapi_Trace) (x1 : List Int) (x2 : List Int) (x3 : List Int) (x4 : Bool) (A_x0ops : Option Addr) (c_x0ops : Nat) (A_x0blocks : Option Addr) (c_x0blocks : Nat) (A_x1 : Option Addr) (c_x1 : Nat) (A_x2 : Option Addr) (c_x2 : Nat) (A_x3 : Option Addr) (c_x3 : Nat) (r : List Int) : Ending → World → Prop := fun e w' => ∃ (A_r0 : Option Addr), ∃ (c_r0 : Nat), e = .returned (.slice A_r0 r.length c_r0) ∧ Ow κ w' (rowp A_r0 c_r0 71 1 (eI .u64) r :: S)
def visorref29_Play.m (k : Nat) (x0 : Tapi_Trace) (x1 : List Int) (x2 : List Int) (x3 : List Int) (x4 : Bool) : Option (List Int) := (if (0 : Int) ≤ ((x0.ops.length : Nat) : Int) ∧ (((x0.ops.length : Nat) : Int) : Int) ≤ ((x0.ops.length : Nat) : Int) ∧ (8 : Int) * ((x0.ops.length : Nat) : Int) ≤ 281474976710656 then (visorref29_Play.l1 x0 x1 x2 x3 x4 k (List.replicate ((x0.ops.length : Nat) : Int).toNat 0 : List Int) 0 0 0).bind fun p_92 => some p_92 else none)

set_option maxRecDepth 100000 in
set_option maxHeartbeats 4000000 in
theorem visorref29_Play.ok (k : Nat) (x0 : Tapi_Trace) (x1 : List Int) (x2 : List Int) (x3 : List Int) (x4 : Bool) (r : List Int) (hm : visorref29_Play.m k x0 x1 x2 x3 x4 = some r) (κ : Ctx) (w : World) (S : List HP) (A_x0ops : Option Addr) (c_x0ops : Nat) (hx_x0ops : Sl κ S A_x0ops c_x0ops 6 Tapi_Op.cells x0.ops) (A_x0blocks : Option Addr) (c_x0blocks : Nat) (hx_x0blocks : Sl κ S A_x0blocks c_x0blocks 3 Tapi_Span.cells x0.blocks) (A_x1 : Option Addr) (c_x1 : Nat) (hx_x1 : Sl κ S A_x1 c_x1 1 (eI .u64) x1) (A_x2 : Option Addr) (c_x2 : Nat) (hx_x2 : Sl κ S A_x2 c_x2 1 (eI .u64) x2) (A_x3 : Option Addr) (c_x3 : Nat) (hx_x3 : Sl κ S A_x3 c_x3 1 (eI .u64) x3) (ho : Ow κ w (S)) :
  Calls Try.prog 23 #[.agg (vals [ci x0.n, C.slc A_x0ops x0.ops.length c_x0ops, C.slc A_x0blocks x0.blocks.length c_x0blocks]), .slice A_x1 x1.length c_x1, .slice A_x2 x2.length c_x2, .slice A_x3 x3.length c_x3, .bool x4] w (visorref29_Play.R κ S x0 x1 x2 x3 x4 A_x0ops c_x0ops A_x0blocks c_x0blocks A_x1 c_x1 A_x2 c_x2 A_x3 c_x3 r) := by
 unfold visorref29_Play.m at hm
 generalize hRR : visorref29_Play.R κ S x0 x1 x2 x3 x4 A_x0ops c_x0ops A_x0blocks c_x0blocks A_x1 c_x1 A_x2 c_x2 A_x3 c_x3 r = RR
 refine qen [(0, .agg (vals [ci x0.n, C.slc A_x0ops x0.ops.length c_x0ops, C.slc A_x0blocks x0.blocks.length c_x0blocks])), (1, .slice A_x1 x1.length c_x1), (2, .slice A_x2 x2.length c_x2), (3, .slice A_x3 x3.length c_x3), (4, .bool x4)] Try.func23 Try.ntmps23 ho fun a hs => ?_
 refine qsr fun K1 hK1 => ?_
 refine qbx 0 58 [ci x0.n, C.slc A_x0ops x0.ops.length c_x0ops, C.slc A_x0blocks x0.blocks.length c_x0blocks] 5 hs fun b_2 w a hs => ?_
 refine qpk 1 [1, 2, 3, 4, 5] hs fun a hs => hK1 _ _ ?_
 clear hK1
 refine qsr fun K3 hK3 => ?_
 refine qpu 1 hs fun a hs => ?_
 refine qld 0 (C.slc A_x0ops x0.ops.length c_x0ops) hs rfl fun a hs => ?_
 refine qpu 1 hs fun a hs => ?_
 obtain ⟨h_4, hm⟩ := ite_t hm
 refine Vk.step (Vk.makeOp (x := (.tmp 19)) (y := (.tmp 19)) (kl := .i64) (kc := .i64) (enc := (eI .u64)) (sz := 1) (by_ := 8) (t := 59) (e := 71) (0) (some 20) hs (by kernel_rfl) (by kernel_rfl) (by kernel_rfl) (by kernel_rfl) (by kernel_rfl) (by kernel_rfl) rfl (by decide) h_4 (by decide) fun A_5 w a hs => ?_)
 refine qpk 1 [1, 2, 3, 4, 5, 11] hs fun a hs => hK3 _ _ ?_
 clear hK3
 refine qsk 2 [1, 2, 3, 4, 5, 11, 12, 13] hs fun a hs => ?_
 refine Vk.seq fun K8 hK8 => ?_
 refine qsk 1 [1, 2, 3, 4, 5, 11, 12, 13, 14] hs fun a hs => ?_
 refine wp_block ?_
 obtain ⟨r10, hl10, hm⟩ := bind_t hm
 have hx10 : ∀ (p_92 : List Int), r10 = p_92 → ∀ (a : Act) (w : World), St 88 a w κ [(11, .slice A_5 p_92.length (((x0.ops.length : Nat) : Int).toNat))] (rowp A_5 (((x0.ops.length : Nat) : Int).toNat) 71 1 (eI .u64) p_92 :: S) → K8 a w := by
  intro p_92 he a w hs
  subst r10
  refine hK8 _ _ ?_
  clear hK8
  refine qse 2 [(10, .slice A_5 p_92.length (((x0.ops.length : Nat) : Int).toNat))] hs fun a hs => ?_
  refine wp_ret ?_
  exact qr1 (.slice A_5 p_92.length (((x0.ops.length : Nat) : Int).toNat)) hs rfl hRR (by cases hm; exact ⟨A_5, ((x0.ops.length : Nat) : Int).toNat, rfl, hs.own⟩)
 refine Vk.loopBy (fun k (s : List Int × Int × Int × Int) a w => visorref29_Play.l1 x0 x1 x2 x3 x4 k s.1 s.2.1 s.2.2.1 s.2.2.2 = some r10 ∧ St 88 a w κ [(1, .slice A_x1 x1.length c_x1), (2, .slice A_x2 x2.length c_x2), (3, .slice A_x3 x3.length c_x3), (4, .bool x4), (5, pp b_2), (11, .slice A_5 s.1.length (((x0.ops.length : Nat) : Int).toNat)), (12, vi s.2.1), (13, vi s.2.2.1), (14, vi s.2.2.2)] (pt b_2 (blk (Tapi_Trace.obj x0 A_x0ops c_x0ops A_x0blocks c_x0blocks) 58) :: rowp A_5 (((x0.ops.length : Nat) : Int).toNat) 71 1 (eI .u64) s.1 :: S)) k ((List.replicate ((x0.ops.length : Nat) : Int).toNat 0 : List Int), 0, 0, 0) ⟨hl10, hs.go [1, 2, 3, 4, 5, 11, 12, 13, 14] [1, 0] 2 (by kernel_rfl) (by kernel_rfl) (by kernel_rfl)⟩ (fun s a w h => by obtain ⟨h1, _⟩ := h; simp [visorref29_Play.l1] at h1) (fun k KL10 ih s a w h => ?_)
 obtain ⟨q_11, q_12, q_13, q_14⟩ := s
 obtain ⟨hm, hs⟩ := h
 try dsimp only at hm hs
 rw [visorref29_Play.l1] at hm
 refine Vk.seq fun K15 hK15 => ?_
 refine qsr fun K16 hK16 => ?_
 refine qpu 2 hs fun a hs => ?_
 refine qld 0 (C.slc A_x0ops x0.ops.length c_x0ops) hs rfl fun a hs => ?_
 refine qpk 2 [1, 2, 3, 4, 5, 11, 12, 13, 14, 25] hs fun a hs => hK16 _ _ ?_
 clear hK16
 refine qcs (decide (q_14 < ((x0.ops.length : Nat) : Int))) hs (fun hb => ?_) fun hb => ?_
 ·replace hm := bif_t hm hb
  refine wp_skip ?_
  refine hK15 _ _ ?_
  clear hK15
  refine Vk.seq fun K17 hK17 => ?_
  have hj17 : ∀ (p_89 : List Int) (p_90 : Int) (p_91 : Int), visorref29_Play.j3 k (visorref29_Play.l1 x0 x1 x2 x3 x4 k) q_14 p_89 p_90 p_91 = some r10 → ∀ (a : Act) (w : World), St 88 a w κ [(1, .slice A_x1 x1.length c_x1), (2, .slice A_x2 x2.length c_x2), (3, .slice A_x3 x3.length c_x3), (4, .bool x4), (5, pp b_2), (11, .slice A_5 p_89.length (((x0.ops.length : Nat) : Int).toNat)), (12, vi p_90), (13, vi p_91), (14, vi q_14)] (pt b_2 (blk (Tapi_Trace.obj x0 A_x0ops c_x0ops A_x0blocks c_x0blocks) 58) :: rowp A_5 (((x0.ops.length : Nat) : Int).toNat) 71 1 (eI .u64) p_89 :: S) → K17 a w := by
   intro p_89 p_90 p_91 hm a w hs
   unfold visorref29_Play.j3 at hm
   refine hK17 _ _ ?_
   refine Vk.region ?_
   refine qpk 3 [1, 2, 3, 4, 5, 11, 12, 13, 14] hs fun a hs => ?_
   refine ih (p_89, p_90, p_91, (IntKind.i64.wrap (q_14 + 1))) _ _ ⟨hm, hs.go [1, 2, 3, 4, 5, 11, 12, 13, 14] [0, 1] 2 (by kernel_rfl) (by kernel_rfl) (by kernel_rfl)⟩
  refine wp_block ?_
  refine qsr fun K18 hK18 => ?_
  refine qpu 1 hs fun a hs => ?_
  refine qld 0 (C.slc A_x0ops x0.ops.length c_x0ops) hs rfl fun a hs => ?_
  refine qpu 1 hs fun a hs => ?_
  obtain ⟨h_19, hm⟩ := ite_t hm
  obtain ⟨e_22, h_20, hm⟩ := bind_t hm
  obtain ⟨b_23, o_24, hA_25, h_21⟩ := Sl.elem hx_x0ops h_20
  refine qva (.pointer (some ⟨b_23, o_24 + q_14.toNat * 6, none⟩)) (op := (.indexAddr 55 (.tmp 29) (.tmp 30))) hs (fun o ho => run_idxSlc (k := .i64) ho (cap := c_x0ops) (len := x0.ops.length) ((congrArg (fun A => Value.slice A (x0.ops.length) (c_x0ops)) hA_25) ▸ (by kernel_rfl)) (by kernel_rfl) (by kernel_rfl) (idx_ok h_19 h_20) _) fun a hs => ?_
  refine qva (.agg (vals [ci e_22.kind, ci e_22.dom, ci e_22.a, ci e_22.b, ci e_22.d, cw e_22.c])) (op := (.load 85 (.tmp 31))) hs (fun o ho => run_loadN (cs := [ci e_22.kind, ci e_22.dom, ci e_22.a, ci e_22.b, ci e_22.d, cw e_22.c]) ho (by kernel_rfl) (by kernel_rfl) rfl h_21 _ hs.own.drop.drop) fun a hs => ?_
  refine qal 85 [ci 0, ci 0, ci 0, ci 0, ci 0, cw 0] 15 hs fun b_26 w a hs => ?_
  refine qsa 0 [ci e_22.kind, ci e_22.dom, ci e_22.a, ci e_22.b, ci e_22.d, cw e_22.c] hs rfl fun a w hs => ?_
  refine qpk 0 [1, 2, 3, 4, 5, 11, 12, 13, 14, 15] hs fun a hs => hK18 _ _ ?_
  clear hK18
  refine qse 1 [(1, .slice A_x1 x1.length c_x1), (2, .slice A_x2 x2.length c_x2), (3, .slice A_x3 x3.length c_x3), (4, .bool x4), (5, pp b_2), (11, .slice A_5 q_11.length (((x0.ops.length : Nat) : Int).toNat)), (12, vi q_12), (13, vi q_13), (14, vi q_14), (15, pp b_26), (16, vw 0)] hs fun a hs => ?_
  refine Vk.seq fun K28 hK28 => ?_
  have hj28 : ∀ (p_38 : Int) (p_39 : Int), visorref29_Play.j1 k (visorref29_Play.l1 x0 x1 x2 x3 x4 k) x1 x2 x4 q_11 q_13 q_14 e_22 p_38 p_39 = some r10 → ∀ (a : Act) (w : World), St 88 a w κ [(1, .slice A_x1 x1.length c_x1), (2, .slice A_x2 x2.length c_x2), (3, .slice A_x3 x3.length c_x3), (4, .bool x4), (5, pp b_2), (11, .slice A_5 q_11.length (((x0.ops.length : Nat) : Int).toNat)), (12, vi p_38), (13, vi q_13), (14, vi q_14), (15, pp b_26), (16, vw p_39)] (pt b_2 (blk (Tapi_Trace.obj x0 A_x0ops c_x0ops A_x0blocks c_x0blocks) 58) :: rowp A_5 (((x0.ops.length : Nat) : Int).toNat) 71 1 (eI .u64) q_11 :: pt b_26 (blk (Tapi_Op.cells e_22) 85) :: S) → K28 a w := by
   intro p_38 p_39 hm a w hs
   unfold visorref29_Play.j1 at hm
   refine hK28 _ _ ?_
   refine Vk.seq fun K40 hK40 => ?_
   have hj40 : ∀ (p_50 : Int), visorref29_Play.j2 k (visorref29_Play.l1 x0 x1 x2 x3 x4 k) x2 x4 q_11 q_13 q_14 e_22 p_38 p_50 = some r10 → ∀ (a : Act) (w : World), St 88 a w κ [(1, .slice A_x1 x1.length c_x1), (2, .slice A_x2 x2.length c_x2), (3, .slice A_x3 x3.length c_x3), (4, .bool x4), (5, pp b_2), (11, .slice A_5 q_11.length (((x0.ops.length : Nat) : Int).toNat)), (12, vi p_38), (13, vi q_13), (14, vi q_14), (15, pp b_26), (16, vw p_50)] (pt b_2 (blk (Tapi_Trace.obj x0 A_x0ops c_x0ops A_x0blocks c_x0blocks) 58) :: rowp A_5 (((x0.ops.length : Nat) : Int).toNat) 71 1 (eI .u64) q_11 :: pt b_26 (blk (Tapi_Op.cells e_22) 85) :: S) → K40 a w := by
    intro p_50 hm a w hs
    unfold visorref29_Play.j2 at hm
    refine hK40 _ _ ?_
    refine Vk.seq fun K51 hK51 => ?_
    obtain ⟨C_52, hC_52⟩ : ∃ X0 : List HP, X0 = (pt b_2 (blk (Tapi_Trace.obj x0 A_x0ops c_x0ops A_x0blocks c_x0blocks) 58) :: rowp A_5 (((x0.ops.length : Nat) : Int).toNat) 71 1 (eI .u64) q_11 :: pt b_26 (blk (Tapi_Op.cells e_22) 85) :: S) := ⟨_, rfl⟩
    refine qdr 18 κ C_52 hs fun w hs hqC_52 => ?_
    have hcz : Ow κ w (pt b_2 (blk (Tapi_Trace.obj x0 A_x0ops c_x0ops A_x0blocks c_x0blocks) 58) :: rowp A_5 (((x0.ops.length : Nat) : Int).toNat) 71 1 (eI .u64) q_11 :: pt b_26 (blk (Tapi_Op.cells e_22) 85) :: S) := hs.own
    have hcl : Ow κ w C_52 := by rw [hC_52]; exact hcz
    refine qdp (fuel := 10) [0, 1, 3, 4, 7, 8, 11, 12, 15] hs hcl hqC_52 fun a hs => ?_
    refine qdn 2 2 ([ci e_22.kind, ci e_22.dom, ci e_22.a, ci e_22.b, ci e_22.d, cw e_22.c]) hs hcl hqC_52 hC_52 rfl fun a hs => ?_
    refine qdl 5 2 (ci e_22.a) hs hcl hqC_52 hC_52 rfl fun a hs => ?_
    refine qdl 9 2 (ci e_22.b) hs hcl hqC_52 hC_52 rfl fun a hs => ?_
    refine qdl 13 2 (ci e_22.d) hs hcl hqC_52 hC_52 rfl fun a hs => ?_
    obtain ⟨v_55, h_54, hm⟩ := bind_t hm
    refine qdc 6 (visorref29_Word.ok _ _ _ _ h_54 _ _ (pt b_2 (blk (Tapi_Trace.obj x0 A_x0ops c_x0ops A_x0blocks c_x0blocks) 58) :: rowp A_5 (((x0.ops.length : Nat) : Int).toNat) 71 1 (eI .u64) q_11 :: pt b_26 (blk (Tapi_Op.cells e_22) 85) :: S) A_5 (((x0.ops.length : Nat) : Int).toNat) (Sl.lift (fun w ho => (Ow.to (S' := rowp A_5 (((x0.ops.length : Nat) : Int).toNat) 71 1 (eI .u64) q_11 :: S) ho [1] 3 (by kernel_rfl) (by kernel_rfl))) (Ow.rowSl 0 (Ow.to (S' := rowp A_5 (((x0.ops.length : Nat) : Int).toNat) 71 1 (eI .u64) q_11 :: S) hs.own [1] 3 (by kernel_rfl) (by kernel_rfl)) rfl)) hs.own) hs fun w a hs => ?_
    replace hcl := qO hC_52 hs.own
    refine ⟨fun _ => hcl, ?_⟩
    obtain ⟨v_58, h_57, hm⟩ := bind_t hm
    refine qdc 10 (visorref29_Word.ok _ _ _ _ h_57 _ _ (pt b_2 (blk (Tapi_Trace.obj x0 A_x0ops c_x0ops A_x0blocks c_x0blocks) 58) :: rowp A_5 (((x0.ops.length : Nat) : Int).toNat) 71 1 (eI .u64) q_11 :: pt b_26 (blk (Tapi_Op.cells e_22) 85) :: S) A_5 (((x0.ops.length : Nat) : Int).toNat) (Sl.lift (fun w ho => (Ow.to (S' := rowp A_5 (((x0.ops.length : Nat) : Int).toNat) 71 1 (eI .u64) q_11 :: S) ho [1] 3 (by kernel_rfl) (by kernel_rfl))) (Ow.rowSl 0 (Ow.to (S' := rowp A_5 (((x0.ops.length : Nat) : Int).toNat) 71 1 (eI .u64) q_11 :: S) hs.own [1] 3 (by kernel_rfl) (by kernel_rfl)) rfl)) hs.own) hs fun w a hs => ?_
    replace hcl := qO hC_52 hs.own
    refine ⟨fun _ => hcl, ?_⟩
    obtain ⟨v_61, h_60, hm⟩ := bind_t hm
    refine qdc 14 (visorref29_Word.ok _ _ _ _ h_60 _ _ (pt b_2 (blk (Tapi_Trace.obj x0 A_x0ops c_x0ops A_x0blocks c_x0blocks) 58) :: rowp A_5 (((x0.ops.length : Nat) : Int).toNat) 71 1 (eI .u64) q_11 :: pt b_26 (blk (Tapi_Op.cells e_22) 85) :: S) A_5 (((x0.ops.length : Nat) : Int).toNat) (Sl.lift (fun w ho => (Ow.to (S' := rowp A_5 (((x0.ops.length : Nat) : Int).toNat) 71 1 (eI .u64) q_11 :: S) ho [1] 3 (by kernel_rfl) (by kernel_rfl))) (Ow.rowSl 0 (Ow.to (S' := rowp A_5 (((x0.ops.length : Nat) : Int).toNat) 71 1 (eI .u64) q_11 :: S) hs.own [1] 3 (by kernel_rfl) (by kernel_rfl)) rfl)) hs.own) hs fun w a hs => ?_
    replace hcl := qO hC_52 hs.own
    refine ⟨fun _ => hcl, ?_⟩
    obtain ⟨v_64, h_63, hm⟩ := bind_t hm
    refine qdc 16 (visorref17_Eval.ok _ _ _ _ _ _ _ h_63 _ _ (pt b_2 (blk (Tapi_Trace.obj x0 A_x0ops c_x0ops A_x0blocks c_x0blocks) 58) :: rowp A_5 (((x0.ops.length : Nat) : Int).toNat) 71 1 (eI .u64) q_11 :: pt b_26 (blk (Tapi_Op.cells e_22) 85) :: S) hs.own) hs fun w a hs => ?_
    replace hcl := qO hC_52 hs.own
    refine ⟨fun _ => hcl, ?_⟩
    obtain ⟨h_65, hm⟩ := ite_t hm
    obtain ⟨e_68, h_66, hm⟩ := bind_t hm
    obtain ⟨b_69, o_70, hA_71, h_67⟩ := Sl.elem (Ow.rowSl 0 (Ow.to (S' := rowp A_5 (((x0.ops.length : Nat) : Int).toNat) 71 1 (eI .u64) q_11 :: S) hcz [1] 3 (by kernel_rfl) (by kernel_rfl)) rfl) h_66
    refine qdt 17 (.pointer (some ⟨b_69, o_70 + q_14.toNat * 1, none⟩)) (op := (.indexAddr 59 (.tmp 54) (.tmp 55))) hs hcl hqC_52 (fun w hw o ho => by rw [hC_52] at hw; exact run_idxSlc (k := .i64) ho (cap := ((x0.ops.length : Nat) : Int).toNat) (len := q_11.length) ((congrArg (fun A => Value.slice A (q_11.length) (((x0.ops.length : Nat) : Int).toNat)) hA_71) ▸ (by kernel_rfl)) (by kernel_rfl) (by kernel_rfl) (idx_ok h_65 h_66) _) fun a hs => ?_
    refine Vk.dOnly (i := 18) (by kernel_rfl) (Vk.storeRow (T := 71) (ty := 71) (x := (.tmp 71)) (y := (.tmp 70)) (o := o_70) (m := q_14.toNat) v_64 1 hs (by kernel_rfl) (by kernel_rfl) (by kernel_rfl) hA_71 rfl (by kernel_rfl) (by kernel_rfl) rfl (by kernel_rfl) rfl (lt_of_get h_66) fun a w hs => ?_)
    replace hs : St 88 a w κ [(1, .slice A_x1 x1.length c_x1), (2, .slice A_x2 x2.length c_x2), (3, .slice A_x3 x3.length c_x3), (4, .bool x4), (5, pp b_2), (11, .slice A_5 q_11.length (((x0.ops.length : Nat) : Int).toNat)), (12, vi p_38), (13, vi q_13), (14, vi q_14), (15, pp b_26), (16, vw p_50), (54, .slice A_5 q_11.length (((x0.ops.length : Nat) : Int).toNat)), (55, vi q_14), (56, .agg (vals [ci e_22.kind, ci e_22.dom, ci e_22.a, ci e_22.b, ci e_22.d, cw e_22.c])), (57, .slice A_5 q_11.length (((x0.ops.length : Nat) : Int).toNat)), (58, .pointer (some ⟨b_26, 2, none⟩)), (59, vi e_22.a), (60, vw v_55), (61, .slice A_5 q_11.length (((x0.ops.length : Nat) : Int).toNat)), (62, .pointer (some ⟨b_26, 3, none⟩)), (63, vi e_22.b), (64, vw v_58), (65, .slice A_5 q_11.length (((x0.ops.length : Nat) : Int).toNat)), (66, .pointer (some ⟨b_26, 4, none⟩)), (67, vi e_22.d), (68, vw v_61), (69, vw p_50), (70, vw v_64), (71, .pointer (some ⟨b_69, o_70 + q_14.toNat * 1, none⟩))] (pt b_2 (blk (Tapi_Trace.obj x0 A_x0ops c_x0ops A_x0blocks c_x0blocks) 58) :: rowp A_5 (((x0.ops.length : Nat) : Int).toNat) 71 1 (eI .u64) (q_11.set q_14.toNat v_64) :: pt b_26 (blk (Tapi_Op.cells e_22) 85) :: S) := hs.pick [1, 2, 3, 4, 5, 11, 12, 13, 14, 15, 16, 54, 55, 56, 57, 58, 59, 60, 61, 62, 63, 64, 65, 66, 67, 68, 69, 70, 71] (by kernel_rfl)
    replace hs := hs.conv2 (L' := [(1, .slice A_x1 x1.length c_x1), (2, .slice A_x2 x2.length c_x2), (3, .slice A_x3 x3.length c_x3), (4, .bool x4), (5, pp b_2), (11, .slice A_5 ((q_11.set q_14.toNat v_64).length) (((x0.ops.length : Nat) : Int).toNat)), (12, vi p_38), (13, vi q_13), (14, vi q_14), (15, pp b_26), (16, vw p_50), (54, .slice A_5 ((q_11.set q_14.toNat v_64).length) (((x0.ops.length : Nat) : Int).toNat)), (55, vi q_14), (56, .agg (vals [ci e_22.kind, ci e_22.dom, ci e_22.a, ci e_22.b, ci e_22.d, cw e_22.c])), (57, .slice A_5 ((q_11.set q_14.toNat v_64).length) (((x0.ops.length : Nat) : Int).toNat)), (58, .pointer (some ⟨b_26, 2, none⟩)), (59, vi e_22.a), (60, vw v_55), (61, .slice A_5 ((q_11.set q_14.toNat v_64).length) (((x0.ops.length : Nat) : Int).toNat)), (62, .pointer (some ⟨b_26, 3, none⟩)), (63, vi e_22.b), (64, vw v_58), (65, .slice A_5 ((q_11.set q_14.toNat v_64).length) (((x0.ops.length : Nat) : Int).toNat)), (66, .pointer (some ⟨b_26, 4, none⟩)), (67, vi e_22.d), (68, vw v_61), (69, vw p_50), (70, vw v_64), (71, .pointer (some ⟨b_69, o_70 + q_14.toNat * 1, none⟩))]) (S' := pt b_2 (blk (Tapi_Trace.obj x0 A_x0ops c_x0ops A_x0blocks c_x0blocks) 58) :: rowp A_5 (((x0.ops.length : Nat) : Int).toNat) 71 1 (eI .u64) (q_11.set q_14.toNat v_64) :: pt b_26 (blk (Tapi_Op.cells e_22) 85) :: S) (by simp only [List.length_set]) (rfl)
    refine ⟨fun h => absurd h (by decide), ?_⟩
    replace hs := hs.pick [1, 2, 3, 4, 5, 11, 12, 13, 14, 15] (L' := [(1, .slice A_x1 x1.length c_x1), (2, .slice A_x2 x2.length c_x2), (3, .slice A_x3 x3.length c_x3), (4, .bool x4), (5, pp b_2), (11, .slice A_5 ((q_11.set q_14.toNat v_64).length) (((x0.ops.length : Nat) : Int).toNat)), (12, vi p_38), (13, vi q_13), (14, vi q_14), (15, pp b_26)]) (by kernel_rfl)
    refine Vk.dDone (by kernel_rfl) ?_
    refine hK51 _ _ ?_
    clear hK51
    refine qsr fun K72 hK72 => ?_
    refine qpu 1 hs fun a hs => ?_
    refine qld 2 (ci e_22.kind) hs rfl fun a hs => ?_
    refine qpu 2 hs fun a hs => ?_
    refine qsc 75 2 hs fun a hs => ?_
    refine qpe 0 [(1, .slice A_x1 x1.length c_x1), (2, .slice A_x2 x2.length c_x2), (3, .slice A_x3 x3.length c_x3), (4, .bool x4), (5, pp b_2), (11, .slice A_5 ((q_11.set q_14.toNat v_64).length) (((x0.ops.length : Nat) : Int).toNat)), (12, vi p_38), (13, vi q_13), (14, vi q_14), (77, .bool ((e_22.kind == 12) && x4))] hs fun a hs => hK72 _ _ ?_
    clear hK72
    refine qcs ((e_22.kind == 12) && x4) hs (fun hb => ?_) fun hb => ?_
    ·replace hm := bif_t hm hb
     refine qsr fun K74 hK74 => ?_
     refine qpu 4 hs fun a hs => ?_
     obtain ⟨h_75, hm⟩ := ite_t hm
     obtain ⟨e_78, h_76, hm⟩ := bind_t hm
     obtain ⟨b_79, o_80, hA_81, h_77⟩ := Sl.elem hx_x2 h_76
     refine qva (.pointer (some ⟨b_79, o_80 + q_13.toNat * 1, none⟩)) (op := (.indexAddr 59 (.tmp 80) (.tmp 81))) hs (fun o ho => run_idxSlc (k := .i64) ho (cap := c_x2) (len := x2.length) ((congrArg (fun A => Value.slice A (x2.length) (c_x2)) hA_81) ▸ (by kernel_rfl)) (by kernel_rfl) (by kernel_rfl) (idx_ok h_75 h_76) _) fun a hs => ?_
     refine qva (vw e_78) (op := (.load 71 (.tmp 82))) hs (fun o ho => run_load1 (c := cw e_78) ho (by kernel_rfl) (by kernel_rfl) (fun w ho => h_77 w ho 0 _ rfl) _ hs.own.drop.drop.drop) fun a hs => ?_
     obtain ⟨h_82, hm⟩ := ite_t hm
     obtain ⟨e_85, h_83, hm⟩ := bind_t hm
     obtain ⟨b_86, o_87, hA_88, h_84⟩ := Sl.elem (Ow.rowSl 0 (Ow.to (S' := rowp A_5 (((x0.ops.length : Nat) : Int).toNat) 71 1 (eI .u64) (q_11.set q_14.toNat v_64) :: S) hs.own [1] 3 (by kernel_rfl) (by kernel_rfl)) rfl) h_83
     refine qva (.pointer (some ⟨b_86, o_87 + q_14.toNat * 1, none⟩)) (op := (.indexAddr 59 (.tmp 78) (.tmp 79))) hs (fun o ho => run_idxSlc (k := .i64) ho (cap := ((x0.ops.length : Nat) : Int).toNat) (len := (q_11.set q_14.toNat v_64).length) ((congrArg (fun A => Value.slice A ((q_11.set q_14.toNat v_64).length) (((x0.ops.length : Nat) : Int).toNat)) hA_88) ▸ (by kernel_rfl)) (by kernel_rfl) (by kernel_rfl) (idx_ok h_82 h_83) _) fun a hs => ?_
     refine Vk.step (Vk.storeRow (T := 71) (ty := 71) (x := (.tmp 84)) (y := (.tmp 83)) (o := o_87) (m := q_14.toNat) e_78 1 hs (by kernel_rfl) (by kernel_rfl) (by kernel_rfl) hA_88 rfl (by kernel_rfl) (by kernel_rfl) rfl (by kernel_rfl) rfl (lt_of_get h_83) fun a w hs => ?_)
     replace hs : St 88 a w κ [(1, .slice A_x1 x1.length c_x1), (2, .slice A_x2 x2.length c_x2), (3, .slice A_x3 x3.length c_x3), (4, .bool x4), (5, pp b_2), (11, .slice A_5 ((q_11.set q_14.toNat v_64).length) (((x0.ops.length : Nat) : Int).toNat)), (12, vi p_38), (13, vi q_13), (14, vi q_14), (77, .bool ((e_22.kind == 12) && x4)), (78, .slice A_5 ((q_11.set q_14.toNat v_64).length) (((x0.ops.length : Nat) : Int).toNat)), (79, vi q_14), (80, .slice A_x2 x2.length c_x2), (81, vi q_13), (82, .pointer (some ⟨b_79, o_80 + q_13.toNat * 1, none⟩)), (83, vw e_78), (84, .pointer (some ⟨b_86, o_87 + q_14.toNat * 1, none⟩))] (pt b_2 (blk (Tapi_Trace.obj x0 A_x0ops c_x0ops A_x0blocks c_x0blocks) 58) :: rowp A_5 (((x0.ops.length : Nat) : Int).toNat) 71 1 (eI .u64) ((q_11.set q_14.toNat v_64).set q_14.toNat e_78) :: pt b_26 (blk (Tapi_Op.cells e_22) 85) :: S) := hs.pick [1, 2, 3, 4, 5, 11, 12, 13, 14, 77, 78, 79, 80, 81, 82, 83, 84] (by kernel_rfl)
     replace hs := hs.conv2 (L' := [(1, .slice A_x1 x1.length c_x1), (2, .slice A_x2 x2.length c_x2), (3, .slice A_x3 x3.length c_x3), (4, .bool x4), (5, pp b_2), (11, .slice A_5 (((q_11.set q_14.toNat v_64).set q_14.toNat e_78).length) (((x0.ops.length : Nat) : Int).toNat)), (12, vi p_38), (13, vi q_13), (14, vi q_14), (77, .bool ((e_22.kind == 12) && x4)), (78, .slice A_5 (((q_11.set q_14.toNat v_64).set q_14.toNat e_78).length) (((x0.ops.length : Nat) : Int).toNat)), (79, vi q_14), (80, .slice A_x2 x2.length c_x2), (81, vi q_13), (82, .pointer (some ⟨b_79, o_80 + q_13.toNat * 1, none⟩)), (83, vw e_78), (84, .pointer (some ⟨b_86, o_87 + q_14.toNat * 1, none⟩))]) (S' := pt b_2 (blk (Tapi_Trace.obj x0 A_x0ops c_x0ops A_x0blocks c_x0blocks) 58) :: rowp A_5 (((x0.ops.length : Nat) : Int).toNat) 71 1 (eI .u64) ((q_11.set q_14.toNat v_64).set q_14.toNat e_78) :: pt b_26 (blk (Tapi_Op.cells e_22) 85) :: S) (by simp only [List.length_set]) (rfl)
     refine qpk 0 [1, 2, 3, 4, 5, 11, 12, 13, 14] hs fun a hs => hK74 _ _ ?_
     clear hK74
     refine Vk.region ?_
     refine qpe 3 [(1, .slice A_x1 x1.length c_x1), (2, .slice A_x2 x2.length c_x2), (3, .slice A_x3 x3.length c_x3), (4, .bool x4), (5, pp b_2), (11, .slice A_5 (((q_11.set q_14.toNat v_64).set q_14.toNat e_78).length) (((x0.ops.length : Nat) : Int).toNat)), (12, vi p_38), (13, vi (IntKind.i64.wrap (q_13 + 1))), (14, vi q_14)] hs fun a hs => ?_
     exact hj17 ((q_11.set q_14.toNat v_64).set q_14.toNat e_78) p_38 (IntKind.i64.wrap (q_13 + 1)) hm _ _ (hs.go [1, 2, 3, 4, 5, 11, 12, 13, 14] [0, 1] 3 (by kernel_rfl) (by kernel_rfl) (by kernel_rfl))
    ·replace hm := bif_f hm hb
     refine wp_skip ?_
     exact hj17 (q_11.set q_14.toNat v_64) p_38 q_13 hm _ _ (hs.go [1, 2, 3, 4, 5, 11, 12, 13, 14] [0, 1] 3 (by kernel_rfl) (by kernel_rfl) (by kernel_rfl))
   refine qsr fun K41 hK41 => ?_
   refine qpu 1 hs fun a hs => ?_
   refine qld 2 (ci e_22.kind) hs rfl fun a hs => ?_
   refine qpu 2 hs fun a hs => ?_
   refine qsc 45 3 hs fun a hs => ?_
   refine qpk 0 [1, 2, 3, 4, 5, 11, 12, 13, 14, 15, 16, 48] hs fun a hs => hK41 _ _ ?_
   clear hK41
   refine qcs ((e_22.kind == 2) && (!x4)) hs (fun hb => ?_) fun hb => ?_
   ·replace hm := bif_t hm hb
    refine Vk.region ?_
    refine qpu 2 hs fun a hs => ?_
    refine qld 2 (cw e_22.c) hs rfl fun a hs => ?_
    obtain ⟨h_43, hm⟩ := ite_t hm
    obtain ⟨e_46, h_44, hm⟩ := bind_t hm
    obtain ⟨b_47, o_48, hA_49, h_45⟩ := Sl.elem hx_x1 h_44
    refine qva (.pointer (some ⟨b_47, o_48 + e_22.c.toNat * 1, none⟩)) (op := (.indexAddr 59 (.tmp 49) (.tmp 51))) hs (fun o ho => run_idxSlc (k := .u64) ho (cap := c_x1) (len := x1.length) ((congrArg (fun A => Value.slice A (x1.length) (c_x1)) hA_49) ▸ (by kernel_rfl)) (by kernel_rfl) (by kernel_rfl) (idx_ok h_43 h_44) _) fun a hs => ?_
    refine qva (vw e_46) (op := (.load 71 (.tmp 52))) hs (fun o ho => run_load1 (c := cw e_46) ho (by kernel_rfl) (by kernel_rfl) (fun w ho => h_45 w ho 0 _ rfl) _ hs.own.drop.drop.drop) fun a hs => ?_
    refine qpe 1 [(1, .slice A_x1 x1.length c_x1), (2, .slice A_x2 x2.length c_x2), (3, .slice A_x3 x3.length c_x3), (4, .bool x4), (5, pp b_2), (11, .slice A_5 q_11.length (((x0.ops.length : Nat) : Int).toNat)), (12, vi p_38), (13, vi q_13), (14, vi q_14), (15, pp b_26), (16, vw e_46)] hs fun a hs => ?_
    exact hj40 e_46 hm _ _ (hs.go [1, 2, 3, 4, 5, 11, 12, 13, 14, 15, 16] [0, 1, 2] 3 (by kernel_rfl) (by kernel_rfl) (by kernel_rfl))
   ·replace hm := bif_f hm hb
    refine wp_skip ?_
    exact hj40 p_39 hm _ _ (hs.go [1, 2, 3, 4, 5, 11, 12, 13, 14, 15, 16] [0, 1, 2] 3 (by kernel_rfl) (by kernel_rfl) (by kernel_rfl))
  refine qsr fun K29 hK29 => ?_
  refine qpu 1 hs fun a hs => ?_
  refine qld 0 (ci e_22.kind) hs rfl fun a hs => ?_
  refine qpk 1 [1, 2, 3, 4, 5, 11, 12, 13, 14, 15, 16, 35] hs fun a hs => hK29 _ _ ?_
  clear hK29
  refine qcs (e_22.kind == 1) hs (fun hb => ?_) fun hb => ?_
  ·replace hm := bif_t hm hb
   refine qsr fun K30 hK30 => ?_
   refine qpu 2 hs fun a hs => ?_
   obtain ⟨h_31, hm⟩ := ite_t hm
   obtain ⟨e_34, h_32, hm⟩ := bind_t hm
   obtain ⟨b_35, o_36, hA_37, h_33⟩ := Sl.elem hx_x3 h_32
   refine qva (.pointer (some ⟨b_35, o_36 + q_12.toNat * 1, none⟩)) (op := (.indexAddr 59 (.tmp 36) (.tmp 37))) hs (fun o ho => run_idxSlc (k := .i64) ho (cap := c_x3) (len := x3.length) ((congrArg (fun A => Value.slice A (x3.length) (c_x3)) hA_37) ▸ (by kernel_rfl)) (by kernel_rfl) (by kernel_rfl) (idx_ok h_31 h_32) _) fun a hs => ?_
   refine qva (vw e_34) (op := (.load 71 (.tmp 38))) hs (fun o ho => run_load1 (c := cw e_34) ho (by kernel_rfl) (by kernel_rfl) (fun w ho => h_33 w ho 0 _ rfl) _ hs.own.drop.drop.drop) fun a hs => ?_
   refine qpk 1 [1, 2, 3, 4, 5, 11, 12, 13, 14, 15, 16] hs fun a hs => hK30 _ _ ?_
   clear hK30
   refine Vk.region ?_
   refine qpe 3 [(1, .slice A_x1 x1.length c_x1), (2, .slice A_x2 x2.length c_x2), (3, .slice A_x3 x3.length c_x3), (4, .bool x4), (5, pp b_2), (11, .slice A_5 q_11.length (((x0.ops.length : Nat) : Int).toNat)), (12, vi (IntKind.i64.wrap (q_12 + 1))), (13, vi q_13), (14, vi q_14), (15, pp b_26), (16, vw e_34)] hs fun a hs => ?_
   exact hj28 (IntKind.i64.wrap (q_12 + 1)) e_34 hm _ _ (hs.go [1, 2, 3, 4, 5, 11, 12, 13, 14, 15, 16] [1, 2, 0] 3 (by kernel_rfl) (by kernel_rfl) (by kernel_rfl))
  ·replace hm := bif_f hm hb
   refine wp_skip ?_
   exact hj28 q_12 0 hm _ _ (hs.go [1, 2, 3, 4, 5, 11, 12, 13, 14, 15, 16] [1, 2, 0] 3 (by kernel_rfl) (by kernel_rfl) (by kernel_rfl))
 ·replace hm := bif_f hm hb
  refine wp_exit ?_
  exact hx10 q_11 (Option.some.inj hm).symm _ _ (hs.go [11] [1] 2 (by kernel_rfl) (by kernel_rfl) (by kernel_rfl))


def visorref29_Same.l1 (x0 : List Int) (x1 : List Int) : Nat → Int → Option (Sum (Bool) (Unit))
 | 0, _ => none
 | k + 1, q_8 => (bif decide (q_8 < ((x0.length : Nat) : Int)) then (if 0 ≤ q_8 then (x0[q_8.toNat]?).bind fun e_17 => (if 0 ≤ q_8 then (x1[q_8.toNat]?).bind fun e_24 => (bif e_17 != e_24 then some (.inl false) else visorref29_Same.l1 x0 x1 k (IntKind.i64.wrap (q_8 + 1))) else none) else none) else some (.inr ()))
abbrev visorref29_Same.R (κ : Ctx) (S : List HP) (x0 : List Int) (x1 : List Int) (A_x0 : Option Addr) (c_x0 : Nat) (A_x1 : Option Addr) (c_x1 : Nat) (r : Bool) : Ending → World → Prop := fun e w' => e = .returned (.bool r) ∧ Ow κ w' (S)
def visorref29_Same.m (k : Nat) (x0 : List Int) (x1 : List Int) : Option Bool := (bif ((x0.length : Nat) : Int) != ((x1.length : Nat) : Int) then some false else (visorref29_Same.l1 x0 x1 k 0).bind fun x => match x with | .inl v => some v | .inr () => some true)

set_option maxRecDepth 100000 in
set_option maxHeartbeats 4000000 in
theorem visorref29_Same.ok (k : Nat) (x0 : List Int) (x1 : List Int) (r : Bool) (hm : visorref29_Same.m k x0 x1 = some r) (κ : Ctx) (w : World) (S : List HP) (A_x0 : Option Addr) (c_x0 : Nat) (hx_x0 : Sl κ S A_x0 c_x0 1 (eI .u64) x0) (A_x1 : Option Addr) (c_x1 : Nat) (hx_x1 : Sl κ S A_x1 c_x1 1 (eI .u64) x1) (ho : Ow κ w (S)) :
  Calls Try.prog 22 #[.slice A_x0 x0.length c_x0, .slice A_x1 x1.length c_x1] w (visorref29_Same.R κ S x0 x1 A_x0 c_x0 A_x1 c_x1 r) := by
 unfold visorref29_Same.m at hm
 generalize hRR : visorref29_Same.R κ S x0 x1 A_x0 c_x0 A_x1 c_x1 r = RR
 refine qen [(0, .slice A_x0 x0.length c_x0), (1, .slice A_x1 x1.length c_x1)] Try.func22 Try.ntmps22 ho fun a hs => ?_
 refine qsk 1 [0, 1] hs fun a hs => ?_
 refine Vk.seq fun K2 hK2 => ?_
 refine qsk 5 [0, 1, 10] hs fun a hs => ?_
 refine qcs (((x0.length : Nat) : Int) != ((x1.length : Nat) : Int)) hs (fun hb => ?_) fun hb => ?_
 ·replace hm := bif_t hm hb
  refine qse 1 [(4, .bool false)] hs fun a hs => ?_
  refine wp_ret ?_
  exact qr1 (.bool false) hs rfl hRR (by cases hm; exact ⟨rfl, hs.own⟩)
 ·replace hm := bif_f hm hb
  refine wp_skip ?_
  refine hK2 _ _ ?_
  clear hK2
  refine Vk.seq fun K5 hK5 => ?_
  refine qsk 1 [0, 1, 5] hs fun a hs => ?_
  refine wp_block ?_
  obtain ⟨r7, hl7, hm⟩ := bind_t hm
  have hx7 : r7 = Sum.inr () → ∀ (a : Act) (w : World), St 26 a w κ [] (S) → K5 a w := by
   intro he a w hs
   subst r7
   refine hK5 _ _ ?_
   clear hK5
   refine qse 1 [(4, .bool true)] hs fun a hs => ?_
   refine wp_ret ?_
   exact qr1 (.bool true) hs rfl hRR (by cases hm; exact ⟨rfl, hs.own⟩)
  have hret7 : ∀ v, r7 = Sum.inl v → v = r := by intro v he; subst r7; exact Option.some.inj hm
  refine Vk.loopBy (fun k (s : Int) a w => visorref29_Same.l1 x0 x1 k s = some r7 ∧ St 26 a w κ [(0, .slice A_x0 x0.length c_x0), (1, .slice A_x1 x1.length c_x1), (5, vi s)] (S)) k 0 ⟨hl7, hs.go [0, 1, 5] [] 0 (by kernel_rfl) (by kernel_rfl) (by kernel_rfl)⟩ (fun s a w h => by obtain ⟨h1, _⟩ := h; simp [visorref29_Same.l1] at h1) (fun k KL7 ih q_8 a w h => ?_)
  obtain ⟨hm, hs⟩ := h
  try dsimp only at hm hs
  rw [visorref29_Same.l1] at hm
  refine Vk.seq fun K9 hK9 => ?_
  refine qsk 4 [0, 1, 5, 14] hs fun a hs => ?_
  refine qcs (decide (q_8 < ((x0.length : Nat) : Int))) hs (fun hb => ?_) fun hb => ?_
  ·replace hm := bif_t hm hb
   refine wp_skip ?_
   refine hK9 _ _ ?_
   clear hK9
   refine Vk.seq fun K11 hK11 => ?_
   refine wp_block ?_
   refine Vk.seq fun K12 hK12 => ?_
   obtain ⟨C_13, hC_13⟩ := qC hs.own
   refine qdr 9 κ C_13 hs fun w hs hqC_13 => ?_
   have hcl := qO hC_13 hs.own
   refine qdp (fuel := 5) [0, 1, 4, 5] hs hcl hqC_13 fun a hs => ?_
   obtain ⟨h_14, hm⟩ := ite_t hm
   obtain ⟨e_17, h_15, hm⟩ := bind_t hm
   obtain ⟨b_18, o_19, hA_20, h_16⟩ := Sl.elem hx_x0 h_15
   refine qdt 2 (.pointer (some ⟨b_18, o_19 + q_8.toNat * 1, none⟩)) (op := (.indexAddr 59 (.tmp 17) (.tmp 18))) hs hcl hqC_13 (fun w hw o ho => by rw [hC_13] at hw; exact run_idxSlc (k := .i64) ho (cap := c_x0) (len := x0.length) ((congrArg (fun A => Value.slice A (x0.length) (c_x0)) hA_20) ▸ (by kernel_rfl)) (by kernel_rfl) (by kernel_rfl) (idx_ok h_14 h_15) _) fun a hs => ?_
   refine qdt 3 (vw e_17) (op := (.load 71 (.tmp 19))) hs hcl hqC_13 (fun w hw o ho => by rw [hC_13] at hw; exact run_load1 (c := cw e_17) ho (by kernel_rfl) (by kernel_rfl) (fun w ho => h_16 w ho 0 _ rfl) _ hw) fun a hs => ?_
   obtain ⟨h_21, hm⟩ := ite_t hm
   obtain ⟨e_24, h_22, hm⟩ := bind_t hm
   obtain ⟨b_25, o_26, hA_27, h_23⟩ := Sl.elem hx_x1 h_22
   refine qdt 6 (.pointer (some ⟨b_25, o_26 + q_8.toNat * 1, none⟩)) (op := (.indexAddr 59 (.tmp 21) (.tmp 22))) hs hcl hqC_13 (fun w hw o ho => by rw [hC_13] at hw; exact run_idxSlc (k := .i64) ho (cap := c_x1) (len := x1.length) ((congrArg (fun A => Value.slice A (x1.length) (c_x1)) hA_27) ▸ (by kernel_rfl)) (by kernel_rfl) (by kernel_rfl) (idx_ok h_21 h_22) _) fun a hs => ?_
   refine qdt 7 (vw e_24) (op := (.load 71 (.tmp 23))) hs hcl hqC_13 (fun w hw o ho => by rw [hC_13] at hw; exact run_load1 (c := cw e_24) ho (by kernel_rfl) (by kernel_rfl) (fun w ho => h_23 w ho 0 _ rfl) _ hw) fun a hs => ?_
   refine qdp (fuel := 0) [8] hs hcl hqC_13 fun a hs => ?_
   replace hs := hs.pick [0, 1, 5, 25] (L' := [(0, .slice A_x0 x0.length c_x0), (1, .slice A_x1 x1.length c_x1), (5, vi q_8), (25, .bool (e_17 != e_24))]) (by kernel_rfl)
   refine Vk.dDone (by kernel_rfl) ?_
   refine hK12 _ _ ?_
   clear hK12
   refine qcs (e_17 != e_24) hs (fun hb => ?_) fun hb => ?_
   ·replace hm := bif_t hm hb
    refine qse 1 [(4, .bool false)] hs fun a hs => ?_
    refine wp_ret ?_
    exact Vk.ret1 (P := Try.prog) (fn := Try.f22) (R := RR) (.bool false) hs rfl (by kernel_rfl) (by obtain rfl := hret7 _ ((Option.some.inj hm).symm); subst hRR; exact ⟨rfl, hs.own⟩)
   ·replace hm := bif_f hm hb
    refine wp_skip ?_
    refine hK11 _ _ ?_
    clear hK11
    refine Vk.region ?_
    refine qpk 3 [0, 1, 5] hs fun a hs => ?_
    refine ih (IntKind.i64.wrap (q_8 + 1)) _ _ ⟨hm, hs.go [0, 1, 5] [] 0 (by kernel_rfl) (by kernel_rfl) (by kernel_rfl)⟩
  ·replace hm := bif_f hm hb
   refine wp_exit ?_
   exact hx7 (Option.some.inj hm).symm _ _ (hs.go [] [] 0 (by kernel_rfl) (by kernel_rfl) (by kernel_rfl))


def replay_Taps.j1 (k : Nat) (rec6 : (List Int) → Int → Option (List Int)) (q_9 : List Int) (q_10 : Int) (p_33 : Int) : Option (List Int) := (if (q_9.length + ([p_33] : List Int).length) * 8 ≤ 140737488355328 then rec6 (q_9 ++ ([p_33] : List Int)) (IntKind.i64.wrap (q_10 + 1)) else none)
def replay_Taps.l1 (x0 : List Int) (x1 : List Int) : Nat → (List Int) → Int → Option (List Int)
 | 0, _, _ => none
 | k + 1, q_9, q_10 => (bif decide (q_10 < ((x1.length : Nat) : Int)) then (if 0 ≤ q_10 then (x1[q_10.toNat]?).bind fun e_18 => (bif (decide (e_18 ≥ 0)) && (decide (e_18 < ((x0.length : Nat) : Int))) then (if 0 ≤ e_18 then (x0[e_18.toNat]?).bind fun e_29 => replay_Taps.j1 k (replay_Taps.l1 x0 x1 k) q_9 q_10 e_29 else none) else replay_Taps.j1 k (replay_Taps.l1 x0 x1 k) q_9 q_10 0) else none) else some q_9)
abbrev replay_Taps.R (κ : Ctx) (S : List HP) (x0 : List Int) (x1 : List Int) (A_x0 : Option Addr) (c_x0 : Nat) (A_x1 : Option Addr) (c_x1 : Nat) (r : List Int) : Ending → World → Prop := fun e w' => ∃ (A_r0 : Option Addr), ∃ (c_r0 : Nat), e = .returned (.slice A_r0 r.length c_r0) ∧ Ow κ w' (rowp A_r0 c_r0 71 1 (eI .u64) r :: S)
def replay_Taps.m (k : Nat) (x0 : List Int) (x1 : List Int) : Option (List Int) := (replay_Taps.l1 x0 x1 k ([] : List Int) 0).bind fun p_41 => some p_41

set_option maxRecDepth 100000 in
set_option maxHeartbeats 4000000 in
theorem replay_Taps.ok (k : Nat) (x0 : List Int) (x1 : List Int) (r : List Int) (hm : replay_Taps.m k x0 x1 = some r) (κ : Ctx) (w : World) (S : List HP) (A_x0 : Option Addr) (c_x0 : Nat) (hx_x0 : Sl κ S A_x0 c_x0 1 (eI .u64) x0) (A_x1 : Option Addr) (c_x1 : Nat) (hx_x1 : Sl κ S A_x1 c_x1 1 (eI .i64) x1) (ho : Ow κ w (S)) :
  Calls Try.prog 24 #[.slice A_x0 x0.length c_x0, .slice A_x1 x1.length c_x1] w (replay_Taps.R κ S x0 x1 A_x0 c_x0 A_x1 c_x1 r) := by
 unfold replay_Taps.m at hm
 generalize hRR : replay_Taps.R κ S x0 x1 A_x0 c_x0 A_x1 c_x1 r = RR
 refine qen [(0, .slice A_x0 x0.length c_x0), (1, .slice A_x1 x1.length c_x1)] Try.func24 Try.ntmps24 ho fun a hs => ?_
 refine qsk 1 [0, 1] hs fun a hs => ?_
 refine qsk 1 [0, 1, 5] hs fun a hs => ?_
 refine Vk.seq fun K3 hK3 => ?_
 refine qsk 3 [0, 5, 9, 10, 11] hs fun a hs => ?_
 refine wp_block ?_
 replace hs := hs.addRow none 71 1 (eI .u64)
 obtain ⟨r6, hl6, hm⟩ := bind_t hm
 have hx6 : ∀ (p_41 : List Int), r6 = p_41 → ∀ (A_39 : Option Addr) (c_40 : Nat) (a : Act) (w : World), St 33 a w κ [(5, .slice A_39 p_41.length c_40)] (rowp A_39 c_40 71 1 (eI .u64) p_41 :: S) → K3 a w := by
  intro p_41 he A_39 c_40 a w hs
  subst r6
  refine hK3 _ _ ?_
  clear hK3
  refine qse 2 [(4, .slice A_39 p_41.length c_40)] hs fun a hs => ?_
  refine wp_ret ?_
  exact qr1 (.slice A_39 p_41.length c_40) hs rfl hRR (by cases hm; exact ⟨A_39, c_40, rfl, hs.own⟩)
 refine Vk.loopBy (fun k (s : List Int × Int) a w => ∃ (A_7 : Option Addr), ∃ (c_8 : Nat), replay_Taps.l1 x0 x1 k s.1 s.2 = some r6 ∧ St 33 a w κ [(0, .slice A_x0 x0.length c_x0), (5, .slice A_7 s.1.length c_8), (9, .slice A_x1 x1.length c_x1), (10, vi ((x1.length : Nat) : Int)), (11, vi s.2)] (rowp A_7 c_8 71 1 (eI .u64) s.1 :: S)) k (([] : List Int), 0) ⟨none, 0, hl6, hs.go [0, 5, 9, 10, 11] [0] 1 (by kernel_rfl) (by kernel_rfl) (by kernel_rfl)⟩ (fun s a w h => by obtain ⟨_, _, h1, _⟩ := h; simp [replay_Taps.l1] at h1) (fun k KL6 ih s a w h => ?_)
 obtain ⟨q_9, q_10⟩ := s
 obtain ⟨A_7, c_8, hm, hs⟩ := h
 try dsimp only at hm hs
 rw [replay_Taps.l1] at hm
 refine qsk 1 [0, 5, 9, 10, 11, 12] hs fun a hs => ?_
 refine Vk.seq fun K12 hK12 => ?_
 refine qcs (decide (q_10 < ((x1.length : Nat) : Int))) hs (fun hb => ?_) fun hb => ?_
 ·replace hm := bif_t hm hb
  refine wp_skip ?_
  refine hK12 _ _ ?_
  clear hK12
  refine Vk.seq fun K13 hK13 => ?_
  refine wp_block ?_
  refine qsr fun K14 hK14 => ?_
  obtain ⟨h_15, hm⟩ := ite_t hm
  obtain ⟨e_18, h_16, hm⟩ := bind_t hm
  obtain ⟨b_19, o_20, hA_21, h_17⟩ := Sl.elem hx_x1 h_16
  refine qva (.pointer (some ⟨b_19, o_20 + q_10.toNat * 1, none⟩)) (op := (.indexAddr 62 (.tmp 9) (.tmp 11))) hs (fun o ho => run_idxSlc (k := .i64) ho (cap := c_x1) (len := x1.length) ((congrArg (fun A => Value.slice A (x1.length) (c_x1)) hA_21) ▸ (by kernel_rfl)) (by kernel_rfl) (by kernel_rfl) (idx_ok h_15 h_16) _) fun a hs => ?_
  refine qva (vi e_18) (op := (.load 3 (.tmp 13))) hs (fun o ho => run_load1 (c := ci e_18) ho (by kernel_rfl) (by kernel_rfl) (fun w ho => h_17 w ho 0 _ rfl) _ hs.own.drop) fun a hs => ?_
  refine qpk 1 [0, 5, 7, 9, 10, 11] hs fun a hs => hK14 _ _ ?_
  clear hK14
  refine qsk 1 [0, 5, 7, 8, 9, 10, 11] hs fun a hs => ?_
  refine Vk.seq fun K23 hK23 => ?_
  have hj23 : ∀ (p_33 : Int), replay_Taps.j1 k (replay_Taps.l1 x0 x1 k) q_9 q_10 p_33 = some r6 → ∀ (a : Act) (w : World), St 33 a w κ [(0, .slice A_x0 x0.length c_x0), (5, .slice A_7 q_9.length c_8), (8, vw p_33), (9, .slice A_x1 x1.length c_x1), (10, vi ((x1.length : Nat) : Int)), (11, vi q_10)] (rowp A_7 c_8 71 1 (eI .u64) q_9 :: S) → K23 a w := by
   intro p_33 hm a w hs
   unfold replay_Taps.j1 at hm
   refine hK23 _ _ ?_
   refine Vk.region ?_
   refine qpu 2 hs fun a hs => ?_
   refine Vk.step (Vk.buildOp (sz := 1) (by_ := 8) (t := 59) (e := 71) (parts := #[(0, (.tmp 28))]) (zs := vals [cw 0]) ([p_33] : List Int) (eI .u64) (some 29) hs (by kernel_rfl) (by kernel_rfl) (by kernel_rfl) (by kernel_rfl) (by decide) rfl (fun x _ => rfl) (Nat.le_of_ble_eq_true (by kernel_rfl)) (by kernel_rfl) fun A_34 w a hs => ?_)
   obtain ⟨h_36, hm⟩ := ite_t hm
   refine Vk.step (Vk.appendOp (x := (.tmp 27)) (y := (.tmp 29)) (e := 71) (t := 59) (by_ := 8) (sz := 1) (enc := (eI .u64)) (A := A_7) (cap := c_8) (xs := q_9) (ys := ([p_33] : List Int)) (B := A_34) (c2 := 1) 1 (some 30) hs (by kernel_rfl) (by kernel_rfl) (by kernel_rfl) (by kernel_rfl) rfl (Sl.lift (fun w ho => (Ow.to (S' := rowp A_34 1 71 1 (eI .u64) ([p_33] : List Int) :: S) ho [0] 2 (by kernel_rfl) (by kernel_rfl))) (Ow.rowSl 0 (Ow.to (S' := rowp A_34 1 71 1 (eI .u64) ([p_33] : List Int) :: S) hs.own [0] 2 (by kernel_rfl) (by kernel_rfl)) rfl)) (by kernel_rfl) (by kernel_rfl) (by decide) (by decide) h_36 fun A_37 c_38 w a hs => ?_)
   refine qpk 1 [0, 5, 9, 10, 11] hs fun a hs => hK13 _ _ ?_
   clear hK13
   refine Vk.region ?_
   refine qpk 2 [0, 5, 9, 10, 11] hs fun a hs => ?_
   refine ih ((q_9 ++ ([p_33] : List Int)), (IntKind.i64.wrap (q_10 + 1))) _ _ ⟨A_37, c_38, hm, hs.go [0, 5, 9, 10, 11] [1] 2 (by kernel_rfl) (by kernel_rfl) (by kernel_rfl)⟩
  refine qsr fun K24 hK24 => ?_
  refine qpu 3 hs fun a hs => ?_
  refine qsc 17 5 hs fun a hs => ?_
  refine qpe 0 [(0, .slice A_x0 x0.length c_x0), (5, .slice A_7 q_9.length c_8), (7, vi e_18), (8, vw 0), (9, .slice A_x1 x1.length c_x1), (10, vi ((x1.length : Nat) : Int)), (11, vi q_10), (22, .bool ((decide (e_18 ≥ 0)) && (decide (e_18 < ((x0.length : Nat) : Int)))))] hs fun a hs => hK24 _ _ ?_
  clear hK24
  refine qcs ((decide (e_18 ≥ 0)) && (decide (e_18 < ((x0.length : Nat) : Int)))) hs (fun hb => ?_) fun hb => ?_
  ·replace hm := bif_t hm hb
   refine Vk.region ?_
   refine qpu 2 hs fun a hs => ?_
   obtain ⟨h_26, hm⟩ := ite_t hm
   obtain ⟨e_29, h_27, hm⟩ := bind_t hm
   obtain ⟨b_30, o_31, hA_32, h_28⟩ := Sl.elem hx_x0 h_27
   refine qva (.pointer (some ⟨b_30, o_31 + e_18.toNat * 1, none⟩)) (op := (.indexAddr 59 (.tmp 23) (.tmp 24))) hs (fun o ho => run_idxSlc (k := .i64) ho (cap := c_x0) (len := x0.length) ((congrArg (fun A => Value.slice A (x0.length) (c_x0)) hA_32) ▸ (by kernel_rfl)) (by kernel_rfl) (by kernel_rfl) (idx_ok h_26 h_27) _) fun a hs => ?_
   refine qva (vw e_29) (op := (.load 71 (.tmp 25))) hs (fun o ho => run_load1 (c := cw e_29) ho (by kernel_rfl) (by kernel_rfl) (fun w ho => h_28 w ho 0 _ rfl) _ hs.own.drop) fun a hs => ?_
   refine qpe 1 [(0, .slice A_x0 x0.length c_x0), (5, .slice A_7 q_9.length c_8), (8, vw e_29), (9, .slice A_x1 x1.length c_x1), (10, vi ((x1.length : Nat) : Int)), (11, vi q_10)] hs fun a hs => ?_
   exact hj23 e_29 hm _ _ (hs.go [0, 5, 8, 9, 10, 11] [0] 1 (by kernel_rfl) (by kernel_rfl) (by kernel_rfl))
  ·replace hm := bif_f hm hb
   refine wp_skip ?_
   exact hj23 0 hm _ _ (hs.go [0, 5, 8, 9, 10, 11] [0] 1 (by kernel_rfl) (by kernel_rfl) (by kernel_rfl))
 ·replace hm := bif_f hm hb
  refine wp_exit ?_
  exact hx6 q_9 (Option.some.inj hm).symm A_7 c_8 _ _ (hs.go [5] [0] 1 (by kernel_rfl) (by kernel_rfl) (by kernel_rfl))


abbrev replay_Opened.R (κ : Ctx) (S : List HP) (x0 : Tapi_Trace) (x1 : List Int) (A_x0ops : Option Addr) (c_x0ops : Nat) (A_x0blocks : Option Addr) (c_x0blocks : Nat) (A_x1 : Option Addr) (c_x1 : Nat) (r : List Int) : Ending → World → Prop := fun e w' => ∃ (A_r0 : Option Addr), ∃ (c_r0 : Nat), e = .returned (.slice A_r0 r.length c_r0) ∧ Ow κ w' (rowp A_r0 c_r0 71 1 (eI .u64) r :: S)
def replay_Opened.m (k : Nat) (x0 : Tapi_Trace) (x1 : List Int) : Option (List Int) := (trace_Opens.m k x0).bind fun v_6 => (replay_Taps.m k x1 v_6).bind fun v_11 => some v_11

set_option maxRecDepth 100000 in
set_option maxHeartbeats 4000000 in
theorem replay_Opened.ok (k : Nat) (x0 : Tapi_Trace) (x1 : List Int) (r : List Int) (hm : replay_Opened.m k x0 x1 = some r) (κ : Ctx) (w : World) (S : List HP) (A_x0ops : Option Addr) (c_x0ops : Nat) (hx_x0ops : Sl κ S A_x0ops c_x0ops 6 Tapi_Op.cells x0.ops) (A_x0blocks : Option Addr) (c_x0blocks : Nat) (hx_x0blocks : Sl κ S A_x0blocks c_x0blocks 3 Tapi_Span.cells x0.blocks) (A_x1 : Option Addr) (c_x1 : Nat) (hx_x1 : Sl κ S A_x1 c_x1 1 (eI .u64) x1) (ho : Ow κ w (S)) :
  Calls Try.prog 25 #[.agg (vals [ci x0.n, C.slc A_x0ops x0.ops.length c_x0ops, C.slc A_x0blocks x0.blocks.length c_x0blocks]), .slice A_x1 x1.length c_x1] w (replay_Opened.R κ S x0 x1 A_x0ops c_x0ops A_x0blocks c_x0blocks A_x1 c_x1 r) := by
 unfold replay_Opened.m at hm
 generalize hRR : replay_Opened.R κ S x0 x1 A_x0ops c_x0ops A_x0blocks c_x0blocks A_x1 c_x1 r = RR
 refine qen [(0, .agg (vals [ci x0.n, C.slc A_x0ops x0.ops.length c_x0ops, C.slc A_x0blocks x0.blocks.length c_x0blocks])), (1, .slice A_x1 x1.length c_x1)] Try.func25 Try.ntmps25 ho fun a hs => ?_
 refine qsr fun K1 hK1 => ?_
 refine qbx 0 58 [ci x0.n, C.slc A_x0ops x0.ops.length c_x0ops, C.slc A_x0blocks x0.blocks.length c_x0blocks] 2 hs fun b_2 w a hs => ?_
 refine qpk 1 [1, 2] hs fun a hs => hK1 _ _ ?_
 clear hK1
 refine qsr fun K3 hK3 => ?_
 refine qpu 1 hs fun a hs => ?_
 refine qln 0 ([ci x0.n, C.slc A_x0ops x0.ops.length c_x0ops, C.slc A_x0blocks x0.blocks.length c_x0blocks]) hs rfl fun a hs => ?_
 obtain ⟨v_6, h_5, hm⟩ := bind_t hm
 refine Vk.step (Vk.call (some 7) 36 #[.agg (vals [ci x0.n, C.slc A_x0ops x0.ops.length c_x0ops, C.slc A_x0blocks x0.blocks.length c_x0blocks])] hs (by kernel_rfl) (by kernel_rfl) (by kernel_rfl) ?_)
 refine (trace_Opens.ok k x0 v_6 h_5 κ w (pt b_2 (blk (Tapi_Trace.obj x0 A_x0ops c_x0ops A_x0blocks c_x0blocks) 58) :: S) A_x0ops c_x0ops hx_x0ops.less A_x0blocks c_x0blocks hx_x0blocks.less hs.own).mono ?_
 rintro _ w ⟨Ar4x0_7, cr4x0_8, rfl, how⟩
 refine ⟨_, _, _, rfl, how, fun a hs => ?_⟩
 obtain ⟨v_11, h_10, hm⟩ := bind_t hm
 refine Vk.step (Vk.call (some 8) 24 #[.slice A_x1 x1.length c_x1, .slice Ar4x0_7 v_6.length cr4x0_8] hs (by kernel_rfl) (by kernel_rfl) (by kernel_rfl) ?_)
 refine (replay_Taps.ok k x1 v_6 v_11 h_10 κ w (rowp Ar4x0_7 cr4x0_8 3 1 (eI .i64) v_6 :: pt b_2 (blk (Tapi_Trace.obj x0 A_x0ops c_x0ops A_x0blocks c_x0blocks) 58) :: S) A_x1 c_x1 hx_x1.less.less Ar4x0_7 cr4x0_8 (Sl.lift (fun w ho => (Ow.to (S' := rowp Ar4x0_7 cr4x0_8 3 1 (eI .i64) v_6 :: S) ho [0] 2 (by kernel_rfl) (by kernel_rfl))) (Ow.rowSl 0 (Ow.to (S' := rowp Ar4x0_7 cr4x0_8 3 1 (eI .i64) v_6 :: S) hs.own [0] 2 (by kernel_rfl) (by kernel_rfl)) rfl)) hs.own).mono ?_
 rintro _ w ⟨Ar9x0_12, cr9x0_13, rfl, how⟩
 refine ⟨_, _, _, rfl, how, fun a hs => ?_⟩
 refine qpk 1 [4] hs fun a hs => hK3 _ _ ?_
 clear hK3
 refine wp_ret ?_
 exact qr1 (.slice Ar9x0_12 v_11.length cr9x0_13) hs rfl hRR (by cases hm; exact ⟨Ar9x0_12, cr9x0_13, rfl, hs.own.f2.drop.f1.drop⟩)


def visorref18_Opens.j1 (k : Nat) (rec8 : (List Int) → Int → Option (List Int)) (q_12 : Int) (p_31 : List Int) : Option (List Int) := rec8 p_31 (IntKind.i64.wrap (q_12 + 1))
def visorref18_Opens.l1 (x0 : Tapi_Trace) : Nat → (List Int) → Int → Option (List Int)
 | 0, _, _ => none
 | k + 1, q_11, q_12 => (bif decide (q_12 < ((x0.ops.length : Nat) : Int)) then (if 0 ≤ q_12 then (x0.ops[q_12.toNat]?).bind fun e_20 => (bif e_20.kind == 12 then (if (q_11.length + ([q_12] : List Int).length) * 8 ≤ 140737488355328 then visorref18_Opens.j1 k (visorref18_Opens.l1 x0 k) q_12 (q_11 ++ ([q_12] : List Int)) else none) else visorref18_Opens.j1 k (visorref18_Opens.l1 x0 k) q_12 q_11) else none) else some q_11)
abbrev visorref18_Opens.R (κ : Ctx) (S : List HP) (x0 : Tapi_Trace) (A_x0ops : Option Addr) (c_x0ops : Nat) (A_x0blocks : Option Addr) (c_x0blocks : Nat) (r : List Int) : Ending → World → Prop := fun e w' => ∃ (A_r0 : Option Addr), ∃ (c_r0 : Nat), e = .returned (.slice A_r0 r.length c_r0) ∧ Ow κ w' (rowp A_r0 c_r0 3 1 (eI .i64) r :: S)
def visorref18_Opens.m (k : Nat) (x0 : Tapi_Trace) : Option (List Int) := (visorref18_Opens.l1 x0 k ([] : List Int) 0).bind fun p_34 => some p_34

set_option maxRecDepth 100000 in
set_option maxHeartbeats 4000000 in
theorem visorref18_Opens.ok (k : Nat) (x0 : Tapi_Trace) (r : List Int) (hm : visorref18_Opens.m k x0 = some r) (κ : Ctx) (w : World) (S : List HP) (A_x0ops : Option Addr) (c_x0ops : Nat) (hx_x0ops : Sl κ S A_x0ops c_x0ops 6 Tapi_Op.cells x0.ops) (A_x0blocks : Option Addr) (c_x0blocks : Nat) (hx_x0blocks : Sl κ S A_x0blocks c_x0blocks 3 Tapi_Span.cells x0.blocks) (ho : Ow κ w (S)) :
  Calls Try.prog 26 #[.agg (vals [ci x0.n, C.slc A_x0ops x0.ops.length c_x0ops, C.slc A_x0blocks x0.blocks.length c_x0blocks])] w (visorref18_Opens.R κ S x0 A_x0ops c_x0ops A_x0blocks c_x0blocks r) := by
 unfold visorref18_Opens.m at hm
 generalize hRR : visorref18_Opens.R κ S x0 A_x0ops c_x0ops A_x0blocks c_x0blocks r = RR
 refine qen [(0, .agg (vals [ci x0.n, C.slc A_x0ops x0.ops.length c_x0ops, C.slc A_x0blocks x0.blocks.length c_x0blocks]))] Try.func26 Try.ntmps26 ho fun a hs => ?_
 refine qsr fun K1 hK1 => ?_
 refine qbx 0 58 [ci x0.n, C.slc A_x0ops x0.ops.length c_x0ops, C.slc A_x0blocks x0.blocks.length c_x0blocks] 1 hs fun b_2 w a hs => ?_
 refine qpe 1 [(1, pp b_2)] hs fun a hs => hK1 _ _ ?_
 clear hK1
 refine qsr fun K3 hK3 => ?_
 refine Vk.step (Vk.buildOp (sz := 1) (by_ := 8) (t := 62) (e := 3) (parts := #[]) (zs := vals [ci 0]) ([] : List Int) (eI .i64) (some 5) hs (by kernel_rfl) (by kernel_rfl) (by kernel_rfl) (by kernel_rfl) (by decide) rfl (fun x _ => rfl) (Nat.le_of_ble_eq_true (by kernel_rfl)) (by kernel_rfl) fun A_4 w a hs => ?_)
 refine qpk 1 [1, 3] hs fun a hs => hK3 _ _ ?_
 clear hK3
 refine Vk.seq fun K6 hK6 => ?_
 refine qsk 1 [1, 3, 4] hs fun a hs => ?_
 refine wp_block ?_
 obtain ⟨r8, hl8, hm⟩ := bind_t hm
 have hx8 : ∀ (p_34 : List Int), r8 = p_34 → ∀ (A_32 : Option Addr) (c_33 : Nat) (a : Act) (w : World), St 25 a w κ [(3, .slice A_32 p_34.length c_33)] (rowp A_32 c_33 3 1 (eI .i64) p_34 :: S) → K6 a w := by
  intro p_34 he A_32 c_33 a w hs
  subst r8
  refine hK6 _ _ ?_
  clear hK6
  refine qse 2 [(2, .slice A_32 p_34.length c_33)] hs fun a hs => ?_
  refine wp_ret ?_
  exact qr1 (.slice A_32 p_34.length c_33) hs rfl hRR (by cases hm; exact ⟨A_32, c_33, rfl, hs.own⟩)
 refine Vk.loopBy (fun k (s : List Int × Int) a w => ∃ (A_9 : Option Addr), ∃ (c_10 : Nat), visorref18_Opens.l1 x0 k s.1 s.2 = some r8 ∧ St 25 a w κ [(1, pp b_2), (3, .slice A_9 s.1.length c_10), (4, vi s.2)] (pt b_2 (blk (Tapi_Trace.obj x0 A_x0ops c_x0ops A_x0blocks c_x0blocks) 58) :: rowp A_9 c_10 3 1 (eI .i64) s.1 :: S)) k (([] : List Int), 0) ⟨A_4, 0, hl8, hs.go [1, 3, 4] [1, 0] 2 (by kernel_rfl) (by kernel_rfl) (by kernel_rfl)⟩ (fun s a w h => by obtain ⟨_, _, h1, _⟩ := h; simp [visorref18_Opens.l1] at h1) (fun k KL8 ih s a w h => ?_)
 obtain ⟨q_11, q_12⟩ := s
 obtain ⟨A_9, c_10, hm, hs⟩ := h
 try dsimp only at hm hs
 rw [visorref18_Opens.l1] at hm
 refine Vk.seq fun K13 hK13 => ?_
 refine qsr fun K14 hK14 => ?_
 refine qpu 2 hs fun a hs => ?_
 refine qld 0 (C.slc A_x0ops x0.ops.length c_x0ops) hs rfl fun a hs => ?_
 refine qpk 2 [1, 3, 4, 10] hs fun a hs => hK14 _ _ ?_
 clear hK14
 refine qcs (decide (q_12 < ((x0.ops.length : Nat) : Int))) hs (fun hb => ?_) fun hb => ?_
 ·replace hm := bif_t hm hb
  refine wp_skip ?_
  refine hK13 _ _ ?_
  clear hK13
  refine Vk.seq fun K15 hK15 => ?_
  have hj15 : ∀ (p_31 : List Int), visorref18_Opens.j1 k (visorref18_Opens.l1 x0 k) q_12 p_31 = some r8 → ∀ (A_29 : Option Addr) (c_30 : Nat) (a : Act) (w : World), St 25 a w κ [(1, pp b_2), (3, .slice A_29 p_31.length c_30), (4, vi q_12)] (pt b_2 (blk (Tapi_Trace.obj x0 A_x0ops c_x0ops A_x0blocks c_x0blocks) 58) :: rowp A_29 c_30 3 1 (eI .i64) p_31 :: S) → K15 a w := by
   intro p_31 hm A_29 c_30 a w hs
   unfold visorref18_Opens.j1 at hm
   refine hK15 _ _ ?_
   refine Vk.region ?_
   refine qpk 3 [1, 3, 4] hs fun a hs => ?_
   refine ih (p_31, (IntKind.i64.wrap (q_12 + 1))) _ _ ⟨A_29, c_30, hm, hs.go [1, 3, 4] [0, 1] 2 (by kernel_rfl) (by kernel_rfl) (by kernel_rfl)⟩
  refine wp_block ?_
  refine qsr fun K16 hK16 => ?_
  refine qpu 1 hs fun a hs => ?_
  refine qld 0 (C.slc A_x0ops x0.ops.length c_x0ops) hs rfl fun a hs => ?_
  refine qpu 1 hs fun a hs => ?_
  obtain ⟨h_17, hm⟩ := ite_t hm
  obtain ⟨e_20, h_18, hm⟩ := bind_t hm
  obtain ⟨b_21, o_22, hA_23, h_19⟩ := Sl.elem hx_x0ops h_18
  refine qva (.pointer (some ⟨b_21, o_22 + q_12.toNat * 6, none⟩)) (op := (.indexAddr 55 (.tmp 14) (.tmp 15))) hs (fun o ho => run_idxSlc (k := .i64) ho (cap := c_x0ops) (len := x0.ops.length) ((congrArg (fun A => Value.slice A (x0.ops.length) (c_x0ops)) hA_23) ▸ (by kernel_rfl)) (by kernel_rfl) (by kernel_rfl) (idx_ok h_17 h_18) _) fun a hs => ?_
  refine qpu 1 hs fun a hs => ?_
  refine qva (vi e_20.kind) (op := (.load 3 (.tmp 17))) hs (fun o ho => run_load1 (b := b_21) (off := o_22 + q_12.toNat * 6) (c := ci e_20.kind) ho (by kernel_rfl) (by kernel_rfl) (CellsAt.cell h_19 (i := 0) (by kernel_rfl)) _ hs.own.drop.drop) fun a hs => ?_
  refine qpk 1 [1, 3, 4, 19] hs fun a hs => hK16 _ _ ?_
  clear hK16
  refine qcs (e_20.kind == 12) hs (fun hb => ?_) fun hb => ?_
  ·replace hm := bif_t hm hb
   refine Vk.region ?_
   refine qpu 2 hs fun a hs => ?_
   refine Vk.step (Vk.buildOp (sz := 1) (by_ := 8) (t := 62) (e := 3) (parts := #[(0, (.tmp 21))]) (zs := vals [ci 0]) ([q_12] : List Int) (eI .i64) (some 22) hs (by kernel_rfl) (by kernel_rfl) (by kernel_rfl) (by kernel_rfl) (by decide) rfl (fun x _ => rfl) (Nat.le_of_ble_eq_true (by kernel_rfl)) (by kernel_rfl) fun A_24 w a hs => ?_)
   obtain ⟨h_26, hm⟩ := ite_t hm
   refine Vk.step (Vk.appendOp (x := (.tmp 20)) (y := (.tmp 22)) (e := 3) (t := 62) (by_ := 8) (sz := 1) (enc := (eI .i64)) (A := A_9) (cap := c_10) (xs := q_11) (ys := ([q_12] : List Int)) (B := A_24) (c2 := 1) 2 (some 23) hs (by kernel_rfl) (by kernel_rfl) (by kernel_rfl) (by kernel_rfl) rfl (Sl.lift (fun w ho => (Ow.to (S' := rowp A_24 1 3 1 (eI .i64) ([q_12] : List Int) :: S) ho [0] 3 (by kernel_rfl) (by kernel_rfl))) (Ow.rowSl 0 (Ow.to (S' := rowp A_24 1 3 1 (eI .i64) ([q_12] : List Int) :: S) hs.own [0] 3 (by kernel_rfl) (by kernel_rfl)) rfl)) (by kernel_rfl) (by kernel_rfl) (by decide) (by decide) h_26 fun A_27 c_28 w a hs => ?_)
   refine qpe 1 [(1, pp b_2), (3, .slice A_27 ((q_11 ++ ([q_12] : List Int)).length) c_28), (4, vi q_12)] hs fun a hs => ?_
   exact hj15 (q_11 ++ ([q_12] : List Int)) hm A_27 c_28 _ _ (hs.go [1, 3, 4] [1, 2] 3 (by kernel_rfl) (by kernel_rfl) (by kernel_rfl))
  ·replace hm := bif_f hm hb
   refine wp_skip ?_
   exact hj15 q_11 hm A_9 c_10 _ _ (hs.go [1, 3, 4] [0, 1] 2 (by kernel_rfl) (by kernel_rfl) (by kernel_rfl))
 ·replace hm := bif_f hm hb
  refine wp_exit ?_
  exact hx8 q_11 (Option.some.inj hm).symm A_9 c_10 _ _ (hs.go [3] [1] 2 (by kernel_rfl) (by kernel_rfl) (by kernel_rfl))

structure Tvisorlaw29_Given where
 keys : List Int
 opened : List Int
 masks : List Int
 deriving Inhabited
def Tvisorlaw29_Given.obj (x : Tvisorlaw29_Given) (Akeys : Option Addr) (ckeys : Nat) (Aopened : Option Addr) (copened : Nat) (Amasks : Option Addr) (cmasks : Nat) : Cells := [C.slc Akeys x.keys.length ckeys, C.slc Aopened x.opened.length copened, C.slc Amasks x.masks.length cmasks]

def visorlaw29_ReplayTells.l2 (x1 : Tvisorlaw29_Given) (v_72 : List Int) (v_78 : List Int) : Nat → Int → Option (Sum (Bool) (Unit))
 | 0, _ => none
 | k + 1, q_116 => (bif decide (q_116 < ((v_78.length : Nat) : Int)) then (if 0 ≤ q_116 then (v_72[q_116.toNat]?).bind fun e_125 => (if 0 ≤ q_116 then (v_78[q_116.toNat]?).bind fun e_132 => (visorref29_Word.m k x1.masks e_132).bind fun v_138 => (bif e_125 != v_138 then some (.inl false) else visorlaw29_ReplayTells.l2 x1 v_72 v_78 k (IntKind.i64.wrap (q_116 + 1))) else none) else none) else some (.inr ()))
def visorlaw29_ReplayTells.l1 (x1 : Tvisorlaw29_Given) (x2 : List Int) (v_67 : List Int) : Nat → Int → Option (Sum (Bool) (Unit))
 | 0, _ => none
 | k + 1, q_88 => (bif decide (q_88 < ((x2.length : Nat) : Int)) then (if 0 ≤ q_88 then (v_67[q_88.toNat]?).bind fun e_97 => (if 0 ≤ q_88 then (x2[q_88.toNat]?).bind fun e_104 => (visorref29_Word.m k x1.masks e_104).bind fun v_110 => (bif e_97 != v_110 then some (.inl false) else visorlaw29_ReplayTells.l1 x1 x2 v_67 k (IntKind.i64.wrap (q_88 + 1))) else none) else none) else some (.inr ()))
def visorlaw29_ReplayTells.j2 (k : Nat) (x0 : Tapi_Trace) (x1 : Tvisorlaw29_Given) (x2 : List Int) (p_61 : Bool) : Option (Bool) := (bif p_61 then some false else (replay_Taps.m k x1.masks x2).bind fun v_67 => (replay_Opened.m k x0 x1.masks).bind fun v_72 => (visorref18_Opens.m k x0).bind fun v_78 => (bif (((v_67.length : Nat) : Int) != ((x2.length : Nat) : Int)) || (((v_72.length : Nat) : Int) != ((v_78.length : Nat) : Int)) then some false else (visorlaw29_ReplayTells.l1 x1 x2 v_67 k 0).bind fun x => match x with | .inl v => some v | .inr () => (visorlaw29_ReplayTells.l2 x1 v_72 v_78 k 0).bind fun x => match x with | .inl v => some v | .inr () => (visorlaw29_awake.m k).bind fun v_144 => some v_144))
def visorlaw29_ReplayTells.j1 (k : Nat) (x0 : Tapi_Trace) (x1 : Tvisorlaw29_Given) (x2 : List Int) (v_13 : List Int × Int) (v_19 : List Int × Int) (v_25 : Int) (v_29 : Int) (p_33 : Bool) : Option (Bool) := (bif p_33 then some false else (bif v_25 == 0 then (visorref29_Play.m k x0 x1.keys [] x1.masks false).bind fun v_39 => (visorref29_Same.m k v_13.1 v_39).bind fun v_44 => (bif !v_44 then visorlaw29_ReplayTells.j2 k x0 x1 x2 true else (bif v_29 == 0 then (visorref29_Play.m k x0 [] x1.opened x1.masks true).bind fun v_47 => (visorref29_Same.m k v_19.1 v_47).bind fun v_52 => visorlaw29_ReplayTells.j2 k x0 x1 x2 (!v_52) else visorlaw29_ReplayTells.j2 k x0 x1 x2 false)) else (bif v_29 == 0 then (visorref29_Play.m k x0 [] x1.opened x1.masks true).bind fun v_55 => (visorref29_Same.m k v_19.1 v_55).bind fun v_60 => visorlaw29_ReplayTells.j2 k x0 x1 x2 (!v_60) else visorlaw29_ReplayTells.j2 k x0 x1 x2 false)))
abbrev visorlaw29_ReplayTells.R (κ : Ctx) (S : List HP) (x0 : Tapi_Trace) (x1 : Tvisorlaw29_Given) (x2 : List Int) (A_x0ops : Option Addr) (c_x0ops : Nat) (A_x0blocks : Option Addr) (c_x0blocks : Nat) (A_x1keys : Option Addr) (c_x1keys : Nat) (A_x1opened : Option Addr) (c_x1opened : Nat) (A_x1masks : Option Addr) (c_x1masks : Nat) (A_x2 : Option Addr) (c_x2 : Nat) (r : Bool) : Ending → World → Prop := fun e w' => e = .returned (.bool r) ∧ Ow κ w' (S)
def visorlaw29_ReplayTells.m (k : Nat) (x0 : Tapi_Trace) (x1 : Tvisorlaw29_Given) (x2 : List Int) : Option Bool := (bif decide (((x0.ops.length : Nat) : Int) > 400) then (visorlaw29_awake.m k).bind fun v_9 => some v_9 else (replay_Run.m k x0 x1.keys x1.masks).bind fun v_13 => (replay_Blind.m k x0 x1.opened x1.masks).bind fun v_19 => (visorref29_Check.m k x0 ((x1.keys.length : Nat) : Int) ((x1.opened.length : Nat) : Int) ((x1.masks.length : Nat) : Int) false).bind fun v_25 => (visorref29_Check.m k x0 ((x1.keys.length : Nat) : Int) ((x1.opened.length : Nat) : Int) ((x1.masks.length : Nat) : Int) true).bind fun v_29 => (bif (v_13.2 != v_25) || (v_19.2 != v_29) then visorlaw29_ReplayTells.j1 k x0 x1 x2 v_13 v_19 v_25 v_29 true else (bif v_25 != 0 then (bif ((v_13.1.length : Nat) : Int) != 0 then visorlaw29_ReplayTells.j1 k x0 x1 x2 v_13 v_19 v_25 v_29 true else (bif v_29 != 0 then visorlaw29_ReplayTells.j1 k x0 x1 x2 v_13 v_19 v_25 v_29 (((v_19.1.length : Nat) : Int) != 0) else visorlaw29_ReplayTells.j1 k x0 x1 x2 v_13 v_19 v_25 v_29 false)) else (bif v_29 != 0 then visorlaw29_ReplayTells.j1 k x0 x1 x2 v_13 v_19 v_25 v_29 (((v_19.1.length : Nat) : Int) != 0) else visorlaw29_ReplayTells.j1 k x0 x1 x2 v_13 v_19 v_25 v_29 false))))

set_option maxRecDepth 100000 in
set_option maxHeartbeats 4000000 in
theorem visorlaw29_ReplayTells.ok (k : Nat) (x0 : Tapi_Trace) (x1 : Tvisorlaw29_Given) (x2 : List Int) (r : Bool) (hm : visorlaw29_ReplayTells.m k x0 x1 x2 = some r) (κ : Ctx) (w : World) (S : List HP) (A_x0ops : Option Addr) (c_x0ops : Nat) (hx_x0ops : Sl κ [] A_x0ops c_x0ops 6 Tapi_Op.cells x0.ops) (A_x0blocks : Option Addr) (c_x0blocks : Nat) (hx_x0blocks : Sl κ [] A_x0blocks c_x0blocks 3 Tapi_Span.cells x0.blocks) (A_x1keys : Option Addr) (c_x1keys : Nat) (hx_x1keys : Sl κ [] A_x1keys c_x1keys 1 (eI .u64) x1.keys) (A_x1opened : Option Addr) (c_x1opened : Nat) (hx_x1opened : Sl κ [] A_x1opened c_x1opened 1 (eI .u64) x1.opened) (A_x1masks : Option Addr) (c_x1masks : Nat) (hx_x1masks : Sl κ [] A_x1masks c_x1masks 1 (eI .u64) x1.masks) (A_x2 : Option Addr) (c_x2 : Nat) (hx_x2 : Sl κ [] A_x2 c_x2 1 (eI .i64) x2) (ho : Ow κ w (S)) :
  Calls Try.prog 5 #[.agg (vals [ci x0.n, C.slc A_x0ops x0.ops.length c_x0ops, C.slc A_x0blocks x0.blocks.length c_x0blocks]), .agg (vals [C.slc A_x1keys x1.keys.length c_x1keys, C.slc A_x1opened x1.opened.length c_x1opened, C.slc A_x1masks x1.masks.length c_x1masks]), .slice A_x2 x2.length c_x2] w (visorlaw29_ReplayTells.R κ S x0 x1 x2 A_x0ops c_x0ops A_x0blocks c_x0blocks A_x1keys c_x1keys A_x1opened c_x1opened A_x1masks c_x1masks A_x2 c_x2 r) := by
 have ht_x0ops := hx_x0ops
 generalize hRR : visorlaw29_ReplayTells.R κ S x0 x1 x2 A_x0ops c_x0ops A_x0blocks c_x0blocks A_x1keys c_x1keys A_x1opened c_x1opened A_x1masks c_x1masks A_x2 c_x2 r = RR
 replace hx_x0ops := Sl.top (S := S) hx_x0ops
 have ht_x0blocks := hx_x0blocks
 replace hx_x0blocks := Sl.top (S := S) hx_x0blocks
 have ht_x1keys := hx_x1keys
 replace hx_x1keys := Sl.top (S := S) hx_x1keys
 have ht_x1opened := hx_x1opened
 replace hx_x1opened := Sl.top (S := S) hx_x1opened
 have ht_x1masks := hx_x1masks
 replace hx_x1masks := Sl.top (S := S) hx_x1masks
 have ht_x2 := hx_x2
 replace hx_x2 := Sl.top (S := S) hx_x2
 unfold visorlaw29_ReplayTells.m at hm
 refine qen [(0, .agg (vals [ci x0.n, C.slc A_x0ops x0.ops.length c_x0ops, C.slc A_x0blocks x0.blocks.length c_x0blocks])), (1, .agg (vals [C.slc A_x1keys x1.keys.length c_x1keys, C.slc A_x1opened x1.opened.length c_x1opened, C.slc A_x1masks x1.masks.length c_x1masks])), (2, .slice A_x2 x2.length c_x2)] Try.func5 Try.ntmps5 ho fun a hs => ?_
 refine qsr fun K1 hK1 => ?_
 refine qbx 0 58 [ci x0.n, C.slc A_x0ops x0.ops.length c_x0ops, C.slc A_x0blocks x0.blocks.length c_x0blocks] 3 hs fun b_2 w a hs => ?_
 refine qbx 1 61 [C.slc A_x1keys x1.keys.length c_x1keys, C.slc A_x1opened x1.opened.length c_x1opened, C.slc A_x1masks x1.masks.length c_x1masks] 4 hs fun b_3 w a hs => ?_
 refine qpk 1 [2, 3, 4] hs fun a hs => hK1 _ _ ?_
 clear hK1
 refine Vk.seq fun K4 hK4 => ?_
 refine qsr fun K5 hK5 => ?_
 refine qpu 1 hs fun a hs => ?_
 refine qld 1 (C.slc A_x0ops x0.ops.length c_x0ops) hs rfl fun a hs => ?_
 refine qpk 2 [2, 3, 4, 21] hs fun a hs => hK5 _ _ ?_
 clear hK5
 refine qcs (decide (((x0.ops.length : Nat) : Int) > 400)) hs (fun hb => ?_) fun hb => ?_
 ·replace hm := bif_t hm hb
  refine qsr fun K6 hK6 => ?_
  obtain ⟨v_9, h_8, hm⟩ := bind_t hm
  refine qcl (visorlaw29_awake.ok _ _ h_8 _ _ (pt b_3 (blk (Tvisorlaw29_Given.obj x1 A_x1keys c_x1keys A_x1opened c_x1opened A_x1masks c_x1masks) 61) :: pt b_2 (blk (Tapi_Trace.obj x0 A_x0ops c_x0ops A_x0blocks c_x0blocks) 58) :: S) hs.own) hs fun w a hs => ?_
  refine qpe 1 [(6, .bool v_9)] hs fun a hs => hK6 _ _ ?_
  clear hK6
  refine wp_ret ?_
  exact qr1 (.bool v_9) hs rfl hRR (by cases hm; exact ⟨rfl, hs.own.f1.drop.drop⟩)
 ·replace hm := bif_f hm hb
  refine wp_skip ?_
  refine hK4 _ _ ?_
  clear hK4
  refine qsr fun K10 hK10 => ?_
  refine qln 1 ([ci x0.n, C.slc A_x0ops x0.ops.length c_x0ops, C.slc A_x0blocks x0.blocks.length c_x0blocks]) hs rfl fun a hs => ?_
  refine qpu 1 hs fun a hs => ?_
  refine qld 0 (C.slc A_x1keys x1.keys.length c_x1keys) hs rfl fun a hs => ?_
  refine qpu 1 hs fun a hs => ?_
  refine qld 0 (C.slc A_x1masks x1.masks.length c_x1masks) hs rfl fun a hs => ?_
  obtain ⟨v_13, h_12, hm⟩ := bind_t hm
  refine Vk.step (Vk.call (some 29) 19 #[.agg (vals [ci x0.n, C.slc A_x0ops x0.ops.length c_x0ops, C.slc A_x0blocks x0.blocks.length c_x0blocks]), .slice A_x1keys x1.keys.length c_x1keys, .slice A_x1masks x1.masks.length c_x1masks] hs (by kernel_rfl) (by kernel_rfl) (by kernel_rfl) ?_)
  refine (replay_Run.ok k x0 x1.keys x1.masks v_13 h_12 κ w (pt b_3 (blk (Tvisorlaw29_Given.obj x1 A_x1keys c_x1keys A_x1opened c_x1opened A_x1masks c_x1masks) 61) :: pt b_2 (blk (Tapi_Trace.obj x0 A_x0ops c_x0ops A_x0blocks c_x0blocks) 58) :: S) A_x0ops c_x0ops hx_x0ops.less.less A_x0blocks c_x0blocks hx_x0blocks.less.less A_x1keys c_x1keys hx_x1keys.less.less A_x1masks c_x1masks hx_x1masks.less.less hs.own).mono ?_
  rintro _ w ⟨Ar11x0_14, cr11x0_15, rfl, how⟩
  refine ⟨_, _, _, rfl, how, fun a hs => ?_⟩
  refine qpk 5 [2, 3, 4, 7, 8] hs fun a hs => hK10 _ _ ?_
  clear hK10
  refine qsr fun K16 hK16 => ?_
  refine qln 2 ([ci x0.n, C.slc A_x0ops x0.ops.length c_x0ops, C.slc A_x0blocks x0.blocks.length c_x0blocks]) hs rfl fun a hs => ?_
  refine qpu 1 hs fun a hs => ?_
  refine qld 1 (C.slc A_x1opened x1.opened.length c_x1opened) hs rfl fun a hs => ?_
  refine qpu 1 hs fun a hs => ?_
  refine qld 1 (C.slc A_x1masks x1.masks.length c_x1masks) hs rfl fun a hs => ?_
  obtain ⟨v_19, h_18, hm⟩ := bind_t hm
  refine Vk.step (Vk.call (some 38) 20 #[.agg (vals [ci x0.n, C.slc A_x0ops x0.ops.length c_x0ops, C.slc A_x0blocks x0.blocks.length c_x0blocks]), .slice A_x1opened x1.opened.length c_x1opened, .slice A_x1masks x1.masks.length c_x1masks] hs (by kernel_rfl) (by kernel_rfl) (by kernel_rfl) ?_)
  refine (replay_Blind.ok k x0 x1.opened x1.masks v_19 h_18 κ w (rowp Ar11x0_14 cr11x0_15 71 1 (eI .u64) v_13.1 :: pt b_3 (blk (Tvisorlaw29_Given.obj x1 A_x1keys c_x1keys A_x1opened c_x1opened A_x1masks c_x1masks) 61) :: pt b_2 (blk (Tapi_Trace.obj x0 A_x0ops c_x0ops A_x0blocks c_x0blocks) 58) :: S) A_x0ops c_x0ops hx_x0ops.less.less.less A_x0blocks c_x0blocks hx_x0blocks.less.less.less A_x1opened c_x1opened hx_x1opened.less.less.less A_x1masks c_x1masks hx_x1masks.less.less.less hs.own).mono ?_
  rintro _ w ⟨Ar17x0_20, cr17x0_21, rfl, how⟩
  refine ⟨_, _, _, rfl, how, fun a hs => ?_⟩
  refine qpk 5 [2, 3, 4, 7, 8, 9, 10] hs fun a hs => hK16 _ _ ?_
  clear hK16
  refine qsr fun K22 hK22 => ?_
  refine qln 3 ([ci x0.n, C.slc A_x0ops x0.ops.length c_x0ops, C.slc A_x0blocks x0.blocks.length c_x0blocks]) hs rfl fun a hs => ?_
  refine qpu 1 hs fun a hs => ?_
  refine qld 2 (C.slc A_x1keys x1.keys.length c_x1keys) hs rfl fun a hs => ?_
  refine qpu 2 hs fun a hs => ?_
  refine qld 2 (C.slc A_x1opened x1.opened.length c_x1opened) hs rfl fun a hs => ?_
  refine qpu 2 hs fun a hs => ?_
  refine qld 2 (C.slc A_x1masks x1.masks.length c_x1masks) hs rfl fun a hs => ?_
  refine qpu 1 hs fun a hs => ?_
  obtain ⟨v_25, h_24, hm⟩ := bind_t hm
  refine qcl (visorref29_Check.ok _ _ _ _ _ _ _ h_24 _ _ (rowp Ar17x0_20 cr17x0_21 71 1 (eI .u64) v_19.1 :: rowp Ar11x0_14 cr11x0_15 71 1 (eI .u64) v_13.1 :: pt b_3 (blk (Tvisorlaw29_Given.obj x1 A_x1keys c_x1keys A_x1opened c_x1opened A_x1masks c_x1masks) 61) :: pt b_2 (blk (Tapi_Trace.obj x0 A_x0ops c_x0ops A_x0blocks c_x0blocks) 58) :: S) A_x0ops c_x0ops hx_x0ops.less.less.less.less A_x0blocks c_x0blocks hx_x0blocks.less.less.less.less hs.own) hs fun w a hs => ?_
  refine qpk 1 [2, 3, 4, 7, 8, 9, 10, 11] hs fun a hs => hK22 _ _ ?_
  clear hK22
  refine qsr fun K26 hK26 => ?_
  refine qln 3 ([ci x0.n, C.slc A_x0ops x0.ops.length c_x0ops, C.slc A_x0blocks x0.blocks.length c_x0blocks]) hs rfl fun a hs => ?_
  refine qpu 1 hs fun a hs => ?_
  refine qld 2 (C.slc A_x1keys x1.keys.length c_x1keys) hs rfl fun a hs => ?_
  refine qpu 2 hs fun a hs => ?_
  refine qld 2 (C.slc A_x1opened x1.opened.length c_x1opened) hs rfl fun a hs => ?_
  refine qpu 2 hs fun a hs => ?_
  refine qld 2 (C.slc A_x1masks x1.masks.length c_x1masks) hs rfl fun a hs => ?_
  refine qpu 1 hs fun a hs => ?_
  obtain ⟨v_29, h_28, hm⟩ := bind_t hm
  refine qcl (visorref29_Check.ok _ _ _ _ _ _ _ h_28 _ _ (rowp Ar17x0_20 cr17x0_21 71 1 (eI .u64) v_19.1 :: rowp Ar11x0_14 cr11x0_15 71 1 (eI .u64) v_13.1 :: pt b_3 (blk (Tvisorlaw29_Given.obj x1 A_x1keys c_x1keys A_x1opened c_x1opened A_x1masks c_x1masks) 61) :: pt b_2 (blk (Tapi_Trace.obj x0 A_x0ops c_x0ops A_x0blocks c_x0blocks) 58) :: S) A_x0ops c_x0ops hx_x0ops.less.less.less.less A_x0blocks c_x0blocks hx_x0blocks.less.less.less.less hs.own) hs fun w a hs => ?_
  refine qpk 1 [2, 3, 4, 7, 8, 9, 10, 11, 12] hs fun a hs => hK26 _ _ ?_
  clear hK26
  refine Vk.seq fun K30 hK30 => ?_
  refine Vk.seq fun K31 hK31 => ?_
  have hj31 : ∀ (p_33 : Bool), visorlaw29_ReplayTells.j1 k x0 x1 x2 v_13 v_19 v_25 v_29 p_33 = some r → ∀ (a : Act) (w : World), St 176 a w κ [(2, .slice A_x2 x2.length c_x2), (3, pp b_2), (4, pp b_3), (7, .slice Ar11x0_14 v_13.1.length cr11x0_15), (9, .slice Ar17x0_20 v_19.1.length cr17x0_21), (11, vi v_25), (12, vi v_29), (88, .bool p_33)] (pt b_2 (blk (Tapi_Trace.obj x0 A_x0ops c_x0ops A_x0blocks c_x0blocks) 58) :: pt b_3 (blk (Tvisorlaw29_Given.obj x1 A_x1keys c_x1keys A_x1opened c_x1opened A_x1masks c_x1masks) 61) :: rowp Ar11x0_14 cr11x0_15 71 1 (eI .u64) v_13.1 :: rowp Ar17x0_20 cr17x0_21 71 1 (eI .u64) v_19.1 :: S) → K31 a w := by
   intro p_33 hm a w hs
   unfold visorlaw29_ReplayTells.j1 at hm
   refine hK31 _ _ ?_
   refine qcs (p_33) hs (fun hb => ?_) fun hb => ?_
   ·replace hm := bif_t hm hb
    refine qse 1 [(6, .bool false)] hs fun a hs => ?_
    refine wp_ret ?_
    exact qr1 (.bool false) hs rfl hRR (by cases hm; exact ⟨rfl, (hs.own.too [] 4)⟩)
   ·replace hm := bif_f hm hb
    refine wp_skip ?_
    refine hK30 _ _ ?_
    clear hK30
    refine Vk.seq fun K35 hK35 => ?_
    refine Vk.seq fun K36 hK36 => ?_
    have hj36 : ∀ (p_61 : Bool), visorlaw29_ReplayTells.j2 k x0 x1 x2 p_61 = some r → ∀ (a : Act) (w : World), St 176 a w κ [(2, .slice A_x2 x2.length c_x2), (3, pp b_2), (4, pp b_3), (116, .bool p_61)] (pt b_2 (blk (Tapi_Trace.obj x0 A_x0ops c_x0ops A_x0blocks c_x0blocks) 58) :: pt b_3 (blk (Tvisorlaw29_Given.obj x1 A_x1keys c_x1keys A_x1opened c_x1opened A_x1masks c_x1masks) 61) :: S) → K36 a w := by
     intro p_61 hm a w hs
     unfold visorlaw29_ReplayTells.j2 at hm
     refine hK36 _ _ ?_
     refine qcs (p_61) hs (fun hb => ?_) fun hb => ?_
     ·replace hm := bif_t hm hb
      refine qse 1 [(6, .bool false)] hs fun a hs => ?_
      refine wp_ret ?_
      exact qr1 (.bool false) hs rfl hRR (by cases hm; exact ⟨rfl, hs.own.f1.drop.drop⟩)
     ·replace hm := bif_f hm hb
      refine wp_skip ?_
      refine hK35 _ _ ?_
      clear hK35
      refine Vk.seq fun K63 hK63 => ?_
      obtain ⟨C_64, hC_64⟩ := qC hs.own
      refine qdr 10 κ C_64 hs fun w hs hqC_64 => ?_
      have hcl := qO hC_64 hs.own
      refine qdp (fuel := 7) [0, 2, 5] hs hcl hqC_64 fun a hs => ?_
      refine qdl 1 1 (C.slc A_x1masks x1.masks.length c_x1masks) hs hcl hqC_64 hC_64 rfl fun a hs => ?_
      refine qdn 4 0 ([ci x0.n, C.slc A_x0ops x0.ops.length c_x0ops, C.slc A_x0blocks x0.blocks.length c_x0blocks]) hs hcl hqC_64 hC_64 rfl fun a hs => ?_
      refine qdl 6 1 (C.slc A_x1masks x1.masks.length c_x1masks) hs hcl hqC_64 hC_64 rfl fun a hs => ?_
      obtain ⟨v_67, h_66, hm⟩ := bind_t hm
      refine Vk.dOnly (i := 3) (by kernel_rfl) (Vk.call (some 120) 24 #[.slice A_x1masks x1.masks.length c_x1masks, .slice A_x2 x2.length c_x2] hs (by kernel_rfl) (by kernel_rfl) (by kernel_rfl) ?_)
      refine (replay_Taps.ok k x1.masks x2 v_67 h_66 κ w (pt b_2 (blk (Tapi_Trace.obj x0 A_x0ops c_x0ops A_x0blocks c_x0blocks) 58) :: pt b_3 (blk (Tvisorlaw29_Given.obj x1 A_x1keys c_x1keys A_x1opened c_x1opened A_x1masks c_x1masks) 61) :: S) A_x1masks c_x1masks hx_x1masks.less.less A_x2 c_x2 hx_x2.less.less hs.own).mono ?_
      rintro _ w ⟨Ar65x0_68, cr65x0_69, rfl, how⟩
      refine ⟨_, _, _, rfl, how, fun a hs => ?_⟩
      replace hcl := qO hC_64 hs.own.drop
      refine ⟨fun _ => hcl, ?_⟩
      obtain ⟨v_72, h_71, hm⟩ := bind_t hm
      refine Vk.dOnly (i := 7) (by kernel_rfl) (Vk.call (some 124) 25 #[.agg (vals [ci x0.n, C.slc A_x0ops x0.ops.length c_x0ops, C.slc A_x0blocks x0.blocks.length c_x0blocks]), .slice A_x1masks x1.masks.length c_x1masks] hs (by kernel_rfl) (by kernel_rfl) (by kernel_rfl) ?_)
      refine (replay_Opened.ok k x0 x1.masks v_72 h_71 κ w (rowp Ar65x0_68 cr65x0_69 71 1 (eI .u64) v_67 :: pt b_2 (blk (Tapi_Trace.obj x0 A_x0ops c_x0ops A_x0blocks c_x0blocks) 58) :: pt b_3 (blk (Tvisorlaw29_Given.obj x1 A_x1keys c_x1keys A_x1opened c_x1opened A_x1masks c_x1masks) 61) :: S) A_x0ops c_x0ops hx_x0ops.less.less.less A_x0blocks c_x0blocks hx_x0blocks.less.less.less A_x1masks c_x1masks hx_x1masks.less.less.less hs.own).mono ?_
      rintro _ w ⟨Ar70x0_73, cr70x0_74, rfl, how⟩
      refine ⟨_, _, _, rfl, how, fun a hs => ?_⟩
      replace hcl := qO hC_64 hs.own.f1.drop.drop
      refine ⟨fun _ => hcl, ?_⟩
      refine qdp (fuel := 0) [8, 9] hs hcl hqC_64 fun a hs => ?_
      replace hs := hs.pick [2, 3, 4, 13, 14] (L' := [(2, .slice A_x2 x2.length c_x2), (3, pp b_2), (4, pp b_3), (13, .slice Ar65x0_68 v_67.length cr65x0_69), (14, .slice Ar70x0_73 v_72.length cr70x0_74)]) (by kernel_rfl)
      refine Vk.dDone (by kernel_rfl) ?_
      refine hK63 _ _ ?_
      clear hK63
      refine qsr fun K75 hK75 => ?_
      refine qln 2 ([ci x0.n, C.slc A_x0ops x0.ops.length c_x0ops, C.slc A_x0blocks x0.blocks.length c_x0blocks]) hs rfl fun a hs => ?_
      obtain ⟨v_78, h_77, hm⟩ := bind_t hm
      refine Vk.step (Vk.call (some 126) 26 #[.agg (vals [ci x0.n, C.slc A_x0ops x0.ops.length c_x0ops, C.slc A_x0blocks x0.blocks.length c_x0blocks])] hs (by kernel_rfl) (by kernel_rfl) (by kernel_rfl) ?_)
      refine (visorref18_Opens.ok k x0 v_78 h_77 κ w (rowp Ar70x0_73 cr70x0_74 71 1 (eI .u64) v_72 :: rowp Ar65x0_68 cr65x0_69 71 1 (eI .u64) v_67 :: pt b_2 (blk (Tapi_Trace.obj x0 A_x0ops c_x0ops A_x0blocks c_x0blocks) 58) :: pt b_3 (blk (Tvisorlaw29_Given.obj x1 A_x1keys c_x1keys A_x1opened c_x1opened A_x1masks c_x1masks) 61) :: S) A_x0ops c_x0ops hx_x0ops.less.less.less.less A_x0blocks c_x0blocks hx_x0blocks.less.less.less.less hs.own).mono ?_
      rintro _ w ⟨Ar76x0_79, cr76x0_80, rfl, how⟩
      refine ⟨_, _, _, rfl, how, fun a hs => ?_⟩
      refine qpk 1 [2, 4, 13, 14, 15] hs fun a hs => hK75 _ _ ?_
      clear hK75
      refine Vk.seq fun K81 hK81 => ?_
      refine qsr fun K82 hK82 => ?_
      refine qpu 6 hs fun a hs => ?_
      refine qsc 132 6 hs fun a hs => ?_
      refine qpk 0 [2, 4, 13, 14, 15, 138] hs fun a hs => hK82 _ _ ?_
      clear hK82
      refine qcs ((((v_67.length : Nat) : Int) != ((x2.length : Nat) : Int)) || (((v_72.length : Nat) : Int) != ((v_78.length : Nat) : Int))) hs (fun hb => ?_) fun hb => ?_
      ·replace hm := bif_t hm hb
       refine qse 1 [(6, .bool false)] hs fun a hs => ?_
       refine wp_ret ?_
       exact qr1 (.bool false) hs rfl hRR (by cases hm; exact ⟨rfl, (hs.own.too [] 5)⟩)
      ·replace hm := bif_f hm hb
       refine wp_skip ?_
       refine hK81 _ _ ?_
       clear hK81
       refine Vk.seq fun K85 hK85 => ?_
       refine qsk 1 [2, 4, 13, 14, 15, 16] hs fun a hs => ?_
       refine wp_block ?_
       obtain ⟨r87, hl87, hm⟩ := bind_t hm
       have hx87 : r87 = Sum.inr () → ∀ (a : Act) (w : World), St 176 a w κ [(4, pp b_3), (14, .slice Ar70x0_73 v_72.length cr70x0_74), (15, .slice Ar76x0_79 v_78.length cr76x0_80)] (pt b_3 (blk (Tvisorlaw29_Given.obj x1 A_x1keys c_x1keys A_x1opened c_x1opened A_x1masks c_x1masks) 61) :: rowp Ar70x0_73 cr70x0_74 71 1 (eI .u64) v_72 :: rowp Ar76x0_79 cr76x0_80 3 1 (eI .i64) v_78 :: S) → K85 a w := by
        intro he a w hs
        subst r87
        refine hK85 _ _ ?_
        clear hK85
        refine Vk.seq fun K113 hK113 => ?_
        refine qsk 1 [4, 14, 15, 17] hs fun a hs => ?_
        refine wp_block ?_
        obtain ⟨r115, hl115, hm⟩ := bind_t hm
        have hx115 : r115 = Sum.inr () → ∀ (a : Act) (w : World), St 176 a w κ [] (S) → K113 a w := by
         intro he a w hs
         subst r115
         refine hK113 _ _ ?_
         clear hK113
         refine qsr fun K141 hK141 => ?_
         obtain ⟨v_144, h_143, hm⟩ := bind_t hm
         refine qcl (visorlaw29_awake.ok _ _ h_143 _ _ (S) hs.own) hs fun w a hs => ?_
         refine qpe 1 [(6, .bool v_144)] hs fun a hs => hK141 _ _ ?_
         clear hK141
         refine wp_ret ?_
         exact qr1 (.bool v_144) hs rfl hRR (by cases hm; exact ⟨rfl, hs.own⟩)
        have hret115 : ∀ v, r115 = Sum.inl v → v = r := by intro v he; subst r115; exact Option.some.inj hm
        refine Vk.loopBy (fun k (s : Int) a w => visorlaw29_ReplayTells.l2 x1 v_72 v_78 k s = some r115 ∧ St 176 a w κ [(4, pp b_3), (14, .slice Ar70x0_73 v_72.length cr70x0_74), (15, .slice Ar76x0_79 v_78.length cr76x0_80), (17, vi s)] (pt b_3 (blk (Tvisorlaw29_Given.obj x1 A_x1keys c_x1keys A_x1opened c_x1opened A_x1masks c_x1masks) 61) :: rowp Ar70x0_73 cr70x0_74 71 1 (eI .u64) v_72 :: rowp Ar76x0_79 cr76x0_80 3 1 (eI .i64) v_78 :: S)) k 0 ⟨hl115, hs.go [4, 14, 15, 17] [0, 1, 2] 3 (by kernel_rfl) (by kernel_rfl) (by kernel_rfl)⟩ (fun s a w h => by obtain ⟨h1, _⟩ := h; simp [visorlaw29_ReplayTells.l2] at h1) (fun k KL115 ih q_116 a w h => ?_)
        obtain ⟨hm, hs⟩ := h
        try dsimp only at hm hs
        rw [visorlaw29_ReplayTells.l2] at hm
        refine Vk.seq fun K117 hK117 => ?_
        refine qsk 4 [4, 14, 15, 17, 160] hs fun a hs => ?_
        refine qcs (decide (q_116 < ((v_78.length : Nat) : Int))) hs (fun hb => ?_) fun hb => ?_
        ·replace hm := bif_t hm hb
         refine wp_skip ?_
         refine hK117 _ _ ?_
         clear hK117
         refine Vk.seq fun K119 hK119 => ?_
         refine wp_block ?_
         refine Vk.seq fun K120 hK120 => ?_
         obtain ⟨C_121, hC_121⟩ : ∃ X0 : List HP, X0 = (pt b_3 (blk (Tvisorlaw29_Given.obj x1 A_x1keys c_x1keys A_x1opened c_x1opened A_x1masks c_x1masks) 61) :: rowp Ar70x0_73 cr70x0_74 71 1 (eI .u64) v_72 :: rowp Ar76x0_79 cr76x0_80 3 1 (eI .i64) v_78 :: S) := ⟨_, rfl⟩
         refine qdr 12 κ C_121 hs fun w hs hqC_121 => ?_
         have hcz : Ow κ w (pt b_3 (blk (Tvisorlaw29_Given.obj x1 A_x1keys c_x1keys A_x1opened c_x1opened A_x1masks c_x1masks) 61) :: rowp Ar70x0_73 cr70x0_74 71 1 (eI .u64) v_72 :: rowp Ar76x0_79 cr76x0_80 3 1 (eI .i64) v_78 :: S) := hs.own
         have hcl : Ow κ w C_121 := by rw [hC_121]; exact hcz
         refine qdp (fuel := 7) [0, 1, 4, 6, 7] hs hcl hqC_121 fun a hs => ?_
         obtain ⟨h_122, hm⟩ := ite_t hm
         obtain ⟨e_125, h_123, hm⟩ := bind_t hm
         obtain ⟨b_126, o_127, hA_128, h_124⟩ := Sl.elem (Ow.rowSl 0 (Ow.to (S' := rowp Ar70x0_73 cr70x0_74 71 1 (eI .u64) v_72 :: S) hcz [1] 3 (by kernel_rfl) (by kernel_rfl)) rfl) h_123
         refine qdt 2 (.pointer (some ⟨b_126, o_127 + q_116.toNat * 1, none⟩)) (op := (.indexAddr 59 (.tmp 163) (.tmp 164))) hs hcl hqC_121 (fun w hw o ho => by rw [hC_121] at hw; exact run_idxSlc (k := .i64) ho (cap := cr70x0_74) (len := v_72.length) ((congrArg (fun A => Value.slice A (v_72.length) (cr70x0_74)) hA_128) ▸ (by kernel_rfl)) (by kernel_rfl) (by kernel_rfl) (idx_ok h_122 h_123) _) fun a hs => ?_
         refine qdt 3 (vw e_125) (op := (.load 71 (.tmp 165))) hs hcl hqC_121 (fun w hw o ho => by rw [hC_121] at hw; exact run_load1 (c := cw e_125) ho (by kernel_rfl) (by kernel_rfl) (fun w ho => h_124 w ho 0 _ rfl) _ (Ow.to (S' := rowp Ar70x0_73 cr70x0_74 71 1 (eI .u64) v_72 :: S) hw [1] 3 (by kernel_rfl) (by kernel_rfl))) fun a hs => ?_
         refine qdl 5 0 (C.slc A_x1masks x1.masks.length c_x1masks) hs hcl hqC_121 hC_121 rfl fun a hs => ?_
         obtain ⟨h_129, hm⟩ := ite_t hm
         obtain ⟨e_132, h_130, hm⟩ := bind_t hm
         obtain ⟨b_133, o_134, hA_135, h_131⟩ := Sl.elem (Ow.rowSl 0 hcz.drop.drop rfl) h_130
         refine qdt 8 (.pointer (some ⟨b_133, o_134 + q_116.toNat * 1, none⟩)) (op := (.indexAddr 62 (.tmp 169) (.tmp 170))) hs hcl hqC_121 (fun w hw o ho => by rw [hC_121] at hw; exact run_idxSlc (k := .i64) ho (cap := cr76x0_80) (len := v_78.length) ((congrArg (fun A => Value.slice A (v_78.length) (cr76x0_80)) hA_135) ▸ (by kernel_rfl)) (by kernel_rfl) (by kernel_rfl) (idx_ok h_129 h_130) _) fun a hs => ?_
         refine qdt 9 (vi e_132) (op := (.load 3 (.tmp 171))) hs hcl hqC_121 (fun w hw o ho => by rw [hC_121] at hw; exact run_load1 (c := ci e_132) ho (by kernel_rfl) (by kernel_rfl) (fun w ho => h_131 w ho 0 _ rfl) _ hw.drop.drop) fun a hs => ?_
         obtain ⟨v_138, h_137, hm⟩ := bind_t hm
         refine qdc 10 (visorref29_Word.ok _ _ _ _ h_137 _ _ (pt b_3 (blk (Tvisorlaw29_Given.obj x1 A_x1keys c_x1keys A_x1opened c_x1opened A_x1masks c_x1masks) 61) :: rowp Ar70x0_73 cr70x0_74 71 1 (eI .u64) v_72 :: rowp Ar76x0_79 cr76x0_80 3 1 (eI .i64) v_78 :: S) A_x1masks c_x1masks hx_x1masks.less.less.less hs.own) hs fun w a hs => ?_
         replace hcl := qO hC_121 hs.own
         refine ⟨fun _ => hcl, ?_⟩
         refine qdp (fuel := 0) [11] hs hcl hqC_121 fun a hs => ?_
         replace hs := hs.pick [4, 14, 15, 17, 174] (L' := [(4, pp b_3), (14, .slice Ar70x0_73 v_72.length cr70x0_74), (15, .slice Ar76x0_79 v_78.length cr76x0_80), (17, vi q_116), (174, .bool (e_125 != v_138))]) (by kernel_rfl)
         refine Vk.dDone (by kernel_rfl) ?_
         refine hK120 _ _ ?_
         clear hK120
         refine qcs (e_125 != v_138) hs (fun hb => ?_) fun hb => ?_
         ·replace hm := bif_t hm hb
          refine qse 1 [(6, .bool false)] hs fun a hs => ?_
          refine wp_ret ?_
          exact Vk.ret1 (P := Try.prog) (fn := Try.f5) (R := RR) (.bool false) hs rfl (by kernel_rfl) (by obtain rfl := hret115 _ ((Option.some.inj hm).symm); subst hRR; exact ⟨rfl, hs.own.f2.drop.f1.drop.drop⟩)
         ·replace hm := bif_f hm hb
          refine wp_skip ?_
          refine hK119 _ _ ?_
          clear hK119
          refine Vk.region ?_
          refine qpe 3 [(4, pp b_3), (14, .slice Ar70x0_73 v_72.length cr70x0_74), (15, .slice Ar76x0_79 v_78.length cr76x0_80), (17, vi (IntKind.i64.wrap (q_116 + 1)))] hs fun a hs => ?_
          refine ih (IntKind.i64.wrap (q_116 + 1)) _ _ ⟨hm, hs.go [4, 14, 15, 17] [0, 1, 2] 3 (by kernel_rfl) (by kernel_rfl) (by kernel_rfl)⟩
        ·replace hm := bif_f hm hb
         refine wp_exit ?_
         exact hx115 (Option.some.inj hm).symm _ _ (hs.go [] [] 3 (by kernel_rfl) (by kernel_rfl) (by kernel_rfl))
       have hret87 : ∀ v, r87 = Sum.inl v → v = r := by intro v he; subst r87; exact Option.some.inj hm
       refine Vk.loopBy (fun k (s : Int) a w => visorlaw29_ReplayTells.l1 x1 x2 v_67 k s = some r87 ∧ St 176 a w κ [(2, .slice A_x2 x2.length c_x2), (4, pp b_3), (13, .slice Ar65x0_68 v_67.length cr65x0_69), (14, .slice Ar70x0_73 v_72.length cr70x0_74), (15, .slice Ar76x0_79 v_78.length cr76x0_80), (16, vi s)] (pt b_3 (blk (Tvisorlaw29_Given.obj x1 A_x1keys c_x1keys A_x1opened c_x1opened A_x1masks c_x1masks) 61) :: rowp Ar65x0_68 cr65x0_69 71 1 (eI .u64) v_67 :: rowp Ar70x0_73 cr70x0_74 71 1 (eI .u64) v_72 :: rowp Ar76x0_79 cr76x0_80 3 1 (eI .i64) v_78 :: S)) k 0 ⟨hl87, hs.go [2, 4, 13, 14, 15, 16] [4, 2, 1, 0] 5 (by kernel_rfl) (by kernel_rfl) (by kernel_rfl)⟩ (fun s a w h => by obtain ⟨h1, _⟩ := h; simp [visorlaw29_ReplayTells.l1] at h1) (fun k KL87 ih q_88 a w h => ?_)
       obtain ⟨hm, hs⟩ := h
       try dsimp only at hm hs
       rw [visorlaw29_ReplayTells.l1] at hm
       refine Vk.seq fun K89 hK89 => ?_
       refine qsk 4 [2, 4, 13, 14, 15, 16, 142] hs fun a hs => ?_
       refine qcs (decide (q_88 < ((x2.length : Nat) : Int))) hs (fun hb => ?_) fun hb => ?_
       ·replace hm := bif_t hm hb
        refine wp_skip ?_
        refine hK89 _ _ ?_
        clear hK89
        refine Vk.seq fun K91 hK91 => ?_
        refine wp_block ?_
        refine Vk.seq fun K92 hK92 => ?_
        obtain ⟨C_93, hC_93⟩ : ∃ X0 : List HP, X0 = (pt b_3 (blk (Tvisorlaw29_Given.obj x1 A_x1keys c_x1keys A_x1opened c_x1opened A_x1masks c_x1masks) 61) :: rowp Ar65x0_68 cr65x0_69 71 1 (eI .u64) v_67 :: rowp Ar70x0_73 cr70x0_74 71 1 (eI .u64) v_72 :: rowp Ar76x0_79 cr76x0_80 3 1 (eI .i64) v_78 :: S) := ⟨_, rfl⟩
        refine qdr 12 κ C_93 hs fun w hs hqC_93 => ?_
        have hcz : Ow κ w (pt b_3 (blk (Tvisorlaw29_Given.obj x1 A_x1keys c_x1keys A_x1opened c_x1opened A_x1masks c_x1masks) 61) :: rowp Ar65x0_68 cr65x0_69 71 1 (eI .u64) v_67 :: rowp Ar70x0_73 cr70x0_74 71 1 (eI .u64) v_72 :: rowp Ar76x0_79 cr76x0_80 3 1 (eI .i64) v_78 :: S) := hs.own
        have hcl : Ow κ w C_93 := by rw [hC_93]; exact hcz
        refine qdp (fuel := 7) [0, 1, 4, 6, 7] hs hcl hqC_93 fun a hs => ?_
        obtain ⟨h_94, hm⟩ := ite_t hm
        obtain ⟨e_97, h_95, hm⟩ := bind_t hm
        obtain ⟨b_98, o_99, hA_100, h_96⟩ := Sl.elem (Ow.rowSl 0 (Ow.to (S' := rowp Ar65x0_68 cr65x0_69 71 1 (eI .u64) v_67 :: S) hcz [1] 4 (by kernel_rfl) (by kernel_rfl)) rfl) h_95
        refine qdt 2 (.pointer (some ⟨b_98, o_99 + q_88.toNat * 1, none⟩)) (op := (.indexAddr 59 (.tmp 145) (.tmp 146))) hs hcl hqC_93 (fun w hw o ho => by rw [hC_93] at hw; exact run_idxSlc (k := .i64) ho (cap := cr65x0_69) (len := v_67.length) ((congrArg (fun A => Value.slice A (v_67.length) (cr65x0_69)) hA_100) ▸ (by kernel_rfl)) (by kernel_rfl) (by kernel_rfl) (idx_ok h_94 h_95) _) fun a hs => ?_
        refine qdt 3 (vw e_97) (op := (.load 71 (.tmp 147))) hs hcl hqC_93 (fun w hw o ho => by rw [hC_93] at hw; exact run_load1 (c := cw e_97) ho (by kernel_rfl) (by kernel_rfl) (fun w ho => h_96 w ho 0 _ rfl) _ (Ow.to (S' := rowp Ar65x0_68 cr65x0_69 71 1 (eI .u64) v_67 :: S) hw [1] 4 (by kernel_rfl) (by kernel_rfl))) fun a hs => ?_
        refine qdl 5 0 (C.slc A_x1masks x1.masks.length c_x1masks) hs hcl hqC_93 hC_93 rfl fun a hs => ?_
        obtain ⟨h_101, hm⟩ := ite_t hm
        obtain ⟨e_104, h_102, hm⟩ := bind_t hm
        obtain ⟨b_105, o_106, hA_107, h_103⟩ := Sl.elem hx_x2 h_102
        refine qdt 8 (.pointer (some ⟨b_105, o_106 + q_88.toNat * 1, none⟩)) (op := (.indexAddr 62 (.tmp 151) (.tmp 152))) hs hcl hqC_93 (fun w hw o ho => by rw [hC_93] at hw; exact run_idxSlc (k := .i64) ho (cap := c_x2) (len := x2.length) ((congrArg (fun A => Value.slice A (x2.length) (c_x2)) hA_107) ▸ (by kernel_rfl)) (by kernel_rfl) (by kernel_rfl) (idx_ok h_101 h_102) _) fun a hs => ?_
        refine qdt 9 (vi e_104) (op := (.load 3 (.tmp 153))) hs hcl hqC_93 (fun w hw o ho => by rw [hC_93] at hw; exact run_load1 (c := ci e_104) ho (by kernel_rfl) (by kernel_rfl) (fun w ho => h_103 w ho 0 _ rfl) _ hw.drop.drop.drop.drop) fun a hs => ?_
        obtain ⟨v_110, h_109, hm⟩ := bind_t hm
        refine qdc 10 (visorref29_Word.ok _ _ _ _ h_109 _ _ (pt b_3 (blk (Tvisorlaw29_Given.obj x1 A_x1keys c_x1keys A_x1opened c_x1opened A_x1masks c_x1masks) 61) :: rowp Ar65x0_68 cr65x0_69 71 1 (eI .u64) v_67 :: rowp Ar70x0_73 cr70x0_74 71 1 (eI .u64) v_72 :: rowp Ar76x0_79 cr76x0_80 3 1 (eI .i64) v_78 :: S) A_x1masks c_x1masks hx_x1masks.less.less.less.less hs.own) hs fun w a hs => ?_
        replace hcl := qO hC_93 hs.own
        refine ⟨fun _ => hcl, ?_⟩
        refine qdp (fuel := 0) [11] hs hcl hqC_93 fun a hs => ?_
        replace hs := hs.pick [2, 4, 13, 14, 15, 16, 156] (L' := [(2, .slice A_x2 x2.length c_x2), (4, pp b_3), (13, .slice Ar65x0_68 v_67.length cr65x0_69), (14, .slice Ar70x0_73 v_72.length cr70x0_74), (15, .slice Ar76x0_79 v_78.length cr76x0_80), (16, vi q_88), (156, .bool (e_97 != v_110))]) (by kernel_rfl)
        refine Vk.dDone (by kernel_rfl) ?_
        refine hK92 _ _ ?_
        clear hK92
        refine qcs (e_97 != v_110) hs (fun hb => ?_) fun hb => ?_
        ·replace hm := bif_t hm hb
         refine qse 1 [(6, .bool false)] hs fun a hs => ?_
         refine wp_ret ?_
         exact Vk.ret1 (P := Try.prog) (fn := Try.f5) (R := RR) (.bool false) hs rfl (by kernel_rfl) (by obtain rfl := hret87 _ ((Option.some.inj hm).symm); subst hRR; exact ⟨rfl, (hs.own.too [] 4)⟩)
        ·replace hm := bif_f hm hb
         refine wp_skip ?_
         refine hK91 _ _ ?_
         clear hK91
         refine Vk.region ?_
         refine qpk 3 [2, 4, 13, 14, 15, 16] hs fun a hs => ?_
         refine ih (IntKind.i64.wrap (q_88 + 1)) _ _ ⟨hm, hs.go [2, 4, 13, 14, 15, 16] [0, 1, 2, 3] 4 (by kernel_rfl) (by kernel_rfl) (by kernel_rfl)⟩
       ·replace hm := bif_f hm hb
        refine wp_exit ?_
        exact hx87 (Option.some.inj hm).symm _ _ (hs.go [4, 14, 15] [0, 2, 3] 4 (by kernel_rfl) (by kernel_rfl) (by kernel_rfl))
    refine Vk.region ?_
    refine qpu 3 hs fun a hs => ?_
    rcases Bool.eq_false_or_eq_true (v_25 == 0) with hb | hb
    ·replace hm := bif_t hm hb
     replace hs := hs.known (t := 91) hb (by kernel_rfl)
     refine qpu 1 hs fun a hs => ?_
     refine qln 0 ([ci x0.n, C.slc A_x0ops x0.ops.length c_x0ops, C.slc A_x0blocks x0.blocks.length c_x0blocks]) hs rfl fun a hs => ?_
     refine qpu 1 hs fun a hs => ?_
     refine qld 1 (C.slc A_x1keys x1.keys.length c_x1keys) hs rfl fun a hs => ?_
     refine qpu 1 hs fun a hs => ?_
     refine qld 1 (C.slc A_x1masks x1.masks.length c_x1masks) hs rfl fun a hs => ?_
     obtain ⟨v_39, h_38, hm⟩ := bind_t hm
     refine Vk.step (Vk.call (some 98) 23 #[.agg (vals [ci x0.n, C.slc A_x0ops x0.ops.length c_x0ops, C.slc A_x0blocks x0.blocks.length c_x0blocks]), .slice A_x1keys x1.keys.length c_x1keys, .slice none 0 0, .slice A_x1masks x1.masks.length c_x1masks, .bool false] hs (by kernel_rfl) (by kernel_rfl) (by kernel_rfl) ?_)
     refine (visorref29_Play.ok k x0 x1.keys [] x1.masks false v_39 h_38 κ w (pt b_2 (blk (Tapi_Trace.obj x0 A_x0ops c_x0ops A_x0blocks c_x0blocks) 58) :: pt b_3 (blk (Tvisorlaw29_Given.obj x1 A_x1keys c_x1keys A_x1opened c_x1opened A_x1masks c_x1masks) 61) :: rowp Ar11x0_14 cr11x0_15 71 1 (eI .u64) v_13.1 :: rowp Ar17x0_20 cr17x0_21 71 1 (eI .u64) v_19.1 :: S) A_x0ops c_x0ops hx_x0ops.less.less.less.less A_x0blocks c_x0blocks hx_x0blocks.less.less.less.less A_x1keys c_x1keys hx_x1keys.less.less.less.less none 0 Sl.nil A_x1masks c_x1masks hx_x1masks.less.less.less.less hs.own).mono ?_
     rintro _ w ⟨Ar37x0_40, cr37x0_41, rfl, how⟩
     refine ⟨_, _, _, rfl, how, fun a hs => ?_⟩
     obtain ⟨v_44, h_43, hm⟩ := bind_t hm
     refine qcl (visorref29_Same.ok _ _ _ _ h_43 _ _ (rowp Ar37x0_40 cr37x0_41 71 1 (eI .u64) v_39 :: pt b_2 (blk (Tapi_Trace.obj x0 A_x0ops c_x0ops A_x0blocks c_x0blocks) 58) :: pt b_3 (blk (Tvisorlaw29_Given.obj x1 A_x1keys c_x1keys A_x1opened c_x1opened A_x1masks c_x1masks) 61) :: rowp Ar11x0_14 cr11x0_15 71 1 (eI .u64) v_13.1 :: rowp Ar17x0_20 cr17x0_21 71 1 (eI .u64) v_19.1 :: S) Ar11x0_14 cr11x0_15 (Sl.lift (fun w ho => (Ow.to (S' := rowp Ar11x0_14 cr11x0_15 71 1 (eI .u64) v_13.1 :: S) ho [3] 5 (by kernel_rfl) (by kernel_rfl))) (Ow.rowSl 0 (Ow.to (S' := rowp Ar11x0_14 cr11x0_15 71 1 (eI .u64) v_13.1 :: S) hs.own [3] 5 (by kernel_rfl) (by kernel_rfl)) rfl)) Ar37x0_40 cr37x0_41 (Sl.lift (fun w ho => (Ow.to (S' := rowp Ar37x0_40 cr37x0_41 71 1 (eI .u64) v_39 :: S) ho [0] 5 (by kernel_rfl) (by kernel_rfl))) (Ow.rowSl 0 (Ow.to (S' := rowp Ar37x0_40 cr37x0_41 71 1 (eI .u64) v_39 :: S) hs.own [0] 5 (by kernel_rfl) (by kernel_rfl)) rfl)) hs.own) hs fun w a hs => ?_
     refine qpu 3 hs fun a hs => ?_
     rcases Bool.eq_false_or_eq_true (!v_44) with hb | hb
     ·replace hm := bif_t hm hb
      replace hs := hs.known (t := 102) hb (by kernel_rfl)
      refine qpe 14 [(2, .slice A_x2 x2.length c_x2), (3, pp b_2), (4, pp b_3), (116, .bool true)] hs fun a hs => ?_
      exact hj36 true hm _ _ (hs.go [2, 3, 4, 116] [1, 2] 5 (by kernel_rfl) (by kernel_rfl) (by kernel_rfl))
     ·replace hm := bif_f hm hb
      replace hs := hs.known (t := 102) hb (by kernel_rfl)
      refine qpu 3 hs fun a hs => ?_
      rcases Bool.eq_false_or_eq_true (v_29 == 0) with hb | hb
      ·replace hm := bif_t hm hb
       replace hs := hs.known (t := 105) hb (by kernel_rfl)
       refine qpu 1 hs fun a hs => ?_
       refine qln 1 ([ci x0.n, C.slc A_x0ops x0.ops.length c_x0ops, C.slc A_x0blocks x0.blocks.length c_x0blocks]) hs rfl fun a hs => ?_
       refine qpu 1 hs fun a hs => ?_
       refine qld 2 (C.slc A_x1opened x1.opened.length c_x1opened) hs rfl fun a hs => ?_
       refine qpu 1 hs fun a hs => ?_
       refine qld 2 (C.slc A_x1masks x1.masks.length c_x1masks) hs rfl fun a hs => ?_
       obtain ⟨v_47, h_46, hm⟩ := bind_t hm
       refine Vk.step (Vk.call (some 112) 23 #[.agg (vals [ci x0.n, C.slc A_x0ops x0.ops.length c_x0ops, C.slc A_x0blocks x0.blocks.length c_x0blocks]), .slice none 0 0, .slice A_x1opened x1.opened.length c_x1opened, .slice A_x1masks x1.masks.length c_x1masks, .bool true] hs (by kernel_rfl) (by kernel_rfl) (by kernel_rfl) ?_)
       refine (visorref29_Play.ok k x0 [] x1.opened x1.masks true v_47 h_46 κ w (rowp Ar37x0_40 cr37x0_41 71 1 (eI .u64) v_39 :: pt b_2 (blk (Tapi_Trace.obj x0 A_x0ops c_x0ops A_x0blocks c_x0blocks) 58) :: pt b_3 (blk (Tvisorlaw29_Given.obj x1 A_x1keys c_x1keys A_x1opened c_x1opened A_x1masks c_x1masks) 61) :: rowp Ar11x0_14 cr11x0_15 71 1 (eI .u64) v_13.1 :: rowp Ar17x0_20 cr17x0_21 71 1 (eI .u64) v_19.1 :: S) A_x0ops c_x0ops hx_x0ops.less.less.less.less.less A_x0blocks c_x0blocks hx_x0blocks.less.less.less.less.less none 0 Sl.nil A_x1opened c_x1opened hx_x1opened.less.less.less.less.less A_x1masks c_x1masks hx_x1masks.less.less.less.less.less hs.own).mono ?_
       rintro _ w ⟨Ar45x0_48, cr45x0_49, rfl, how⟩
       refine ⟨_, _, _, rfl, how, fun a hs => ?_⟩
       obtain ⟨v_52, h_51, hm⟩ := bind_t hm
       refine qcl (visorref29_Same.ok _ _ _ _ h_51 _ _ (rowp Ar45x0_48 cr45x0_49 71 1 (eI .u64) v_47 :: rowp Ar37x0_40 cr37x0_41 71 1 (eI .u64) v_39 :: pt b_2 (blk (Tapi_Trace.obj x0 A_x0ops c_x0ops A_x0blocks c_x0blocks) 58) :: pt b_3 (blk (Tvisorlaw29_Given.obj x1 A_x1keys c_x1keys A_x1opened c_x1opened A_x1masks c_x1masks) 61) :: rowp Ar11x0_14 cr11x0_15 71 1 (eI .u64) v_13.1 :: rowp Ar17x0_20 cr17x0_21 71 1 (eI .u64) v_19.1 :: S) Ar17x0_20 cr17x0_21 ((Ow.rowSl 0 hs.own.drop.drop.drop.drop.drop rfl).less.less.less.less.less) Ar45x0_48 cr45x0_49 (Sl.lift (fun w ho => (Ow.to (S' := rowp Ar45x0_48 cr45x0_49 71 1 (eI .u64) v_47 :: S) ho [0] 6 (by kernel_rfl) (by kernel_rfl))) (Ow.rowSl 0 (Ow.to (S' := rowp Ar45x0_48 cr45x0_49 71 1 (eI .u64) v_47 :: S) hs.own [0] 6 (by kernel_rfl) (by kernel_rfl)) rfl)) hs.own) hs fun w a hs => ?_
       refine qpe 3 [(2, .slice A_x2 x2.length c_x2), (3, pp b_2), (4, pp b_3), (116, .bool (!v_52))] hs fun a hs => ?_
       exact hj36 (!v_52) hm _ _ (hs.go [2, 3, 4, 116] [2, 3] 6 (by kernel_rfl) (by kernel_rfl) (by kernel_rfl))
      ·replace hm := bif_f hm hb
       replace hs := hs.known (t := 105) hb (by kernel_rfl)
       refine qpe 11 [(2, .slice A_x2 x2.length c_x2), (3, pp b_2), (4, pp b_3), (116, .bool false)] hs fun a hs => ?_
       exact hj36 false hm _ _ (hs.go [2, 3, 4, 116] [1, 2] 5 (by kernel_rfl) (by kernel_rfl) (by kernel_rfl))
    ·replace hm := bif_f hm hb
     replace hs := hs.known (t := 91) hb (by kernel_rfl)
     refine qpu 14 hs fun a hs => ?_
     rcases Bool.eq_false_or_eq_true (v_29 == 0) with hb | hb
     ·replace hm := bif_t hm hb
      replace hs := hs.known (t := 105) hb (by kernel_rfl)
      refine qpu 1 hs fun a hs => ?_
      refine qln 0 ([ci x0.n, C.slc A_x0ops x0.ops.length c_x0ops, C.slc A_x0blocks x0.blocks.length c_x0blocks]) hs rfl fun a hs => ?_
      refine qpu 1 hs fun a hs => ?_
      refine qld 1 (C.slc A_x1opened x1.opened.length c_x1opened) hs rfl fun a hs => ?_
      refine qpu 1 hs fun a hs => ?_
      refine qld 1 (C.slc A_x1masks x1.masks.length c_x1masks) hs rfl fun a hs => ?_
      obtain ⟨v_55, h_54, hm⟩ := bind_t hm
      refine Vk.step (Vk.call (some 112) 23 #[.agg (vals [ci x0.n, C.slc A_x0ops x0.ops.length c_x0ops, C.slc A_x0blocks x0.blocks.length c_x0blocks]), .slice none 0 0, .slice A_x1opened x1.opened.length c_x1opened, .slice A_x1masks x1.masks.length c_x1masks, .bool true] hs (by kernel_rfl) (by kernel_rfl) (by kernel_rfl) ?_)
      refine (visorref29_Play.ok k x0 [] x1.opened x1.masks true v_55 h_54 κ w (pt b_2 (blk (Tapi_Trace.obj x0 A_x0ops c_x0ops A_x0blocks c_x0blocks) 58) :: pt b_3 (blk (Tvisorlaw29_Given.obj x1 A_x1keys c_x1keys A_x1opened c_x1opened A_x1masks c_x1masks) 61) :: rowp Ar11x0_14 cr11x0_15 71 1 (eI .u64) v_13.1 :: rowp Ar17x0_20 cr17x0_21 71 1 (eI .u64) v_19.1 :: S) A_x0ops c_x0ops hx_x0ops.less.less.less.less A_x0blocks c_x0blocks hx_x0blocks.less.less.less.less none 0 Sl.nil A_x1opened c_x1opened hx_x1opened.less.less.less.less A_x1masks c_x1masks hx_x1masks.less.less.less.less hs.own).mono ?_
      rintro _ w ⟨Ar53x0_56, cr53x0_57, rfl, how⟩
      refine ⟨_, _, _, rfl, how, fun a hs => ?_⟩
      obtain ⟨v_60, h_59, hm⟩ := bind_t hm
      refine qcl (visorref29_Same.ok _ _ _ _ h_59 _ _ (rowp Ar53x0_56 cr53x0_57 71 1 (eI .u64) v_55 :: pt b_2 (blk (Tapi_Trace.obj x0 A_x0ops c_x0ops A_x0blocks c_x0blocks) 58) :: pt b_3 (blk (Tvisorlaw29_Given.obj x1 A_x1keys c_x1keys A_x1opened c_x1opened A_x1masks c_x1masks) 61) :: rowp Ar11x0_14 cr11x0_15 71 1 (eI .u64) v_13.1 :: rowp Ar17x0_20 cr17x0_21 71 1 (eI .u64) v_19.1 :: S) Ar17x0_20 cr17x0_21 ((Ow.rowSl 0 hs.own.drop.drop.drop.drop rfl).less.less.less.less) Ar53x0_56 cr53x0_57 (Sl.lift (fun w ho => (Ow.to (S' := rowp Ar53x0_56 cr53x0_57 71 1 (eI .u64) v_55 :: S) ho [0] 5 (by kernel_rfl) (by kernel_rfl))) (Ow.rowSl 0 (Ow.to (S' := rowp Ar53x0_56 cr53x0_57 71 1 (eI .u64) v_55 :: S) hs.own [0] 5 (by kernel_rfl) (by kernel_rfl)) rfl)) hs.own) hs fun w a hs => ?_
      refine qpe 3 [(2, .slice A_x2 x2.length c_x2), (3, pp b_2), (4, pp b_3), (116, .bool (!v_60))] hs fun a hs => ?_
      exact hj36 (!v_60) hm _ _ (hs.go [2, 3, 4, 116] [1, 2] 5 (by kernel_rfl) (by kernel_rfl) (by kernel_rfl))
     ·replace hm := bif_f hm hb
      replace hs := hs.known (t := 105) hb (by kernel_rfl)
      refine qpe 11 [(2, .slice A_x2 x2.length c_x2), (3, pp b_2), (4, pp b_3), (116, .bool false)] hs fun a hs => ?_
      exact hj36 false hm _ _ (hs.go [2, 3, 4, 116] [0, 1] 4 (by kernel_rfl) (by kernel_rfl) (by kernel_rfl))
  refine Vk.region ?_
  refine qpu 4 hs fun a hs => ?_
  refine qsc 66 4 hs fun a hs => ?_
  refine qpu 1 hs fun a hs => ?_
  rcases Bool.eq_false_or_eq_true ((v_13.2 != v_25) || (v_19.2 != v_29)) with hb | hb
  ·replace hm := bif_t hm hb
   replace hs := hs.known (t := 71) hb (by kernel_rfl)
   refine qpe 17 [(2, .slice A_x2 x2.length c_x2), (3, pp b_2), (4, pp b_3), (7, .slice Ar11x0_14 v_13.1.length cr11x0_15), (9, .slice Ar17x0_20 v_19.1.length cr17x0_21), (11, vi v_25), (12, vi v_29), (88, .bool true)] hs fun a hs => ?_
   exact hj31 true hm _ _ (hs.go [2, 3, 4, 7, 9, 11, 12, 88] [3, 2, 1, 0] 4 (by kernel_rfl) (by kernel_rfl) (by kernel_rfl))
  ·replace hm := bif_f hm hb
   replace hs := hs.known (t := 71) hb (by kernel_rfl)
   refine qpu 3 hs fun a hs => ?_
   rcases Bool.eq_false_or_eq_true (v_25 != 0) with hb | hb
   ·replace hm := bif_t hm hb
    replace hs := hs.known (t := 74) hb (by kernel_rfl)
    refine qpu 6 hs fun a hs => ?_
    rcases Bool.eq_false_or_eq_true (((v_13.1.length : Nat) : Int) != 0) with hb | hb
    ·replace hm := bif_t hm hb
     replace hs := hs.known (t := 80) hb (by kernel_rfl)
     refine qpe 8 [(2, .slice A_x2 x2.length c_x2), (3, pp b_2), (4, pp b_3), (7, .slice Ar11x0_14 v_13.1.length cr11x0_15), (9, .slice Ar17x0_20 v_19.1.length cr17x0_21), (11, vi v_25), (12, vi v_29), (88, .bool true)] hs fun a hs => ?_
     exact hj31 true hm _ _ (hs.go [2, 3, 4, 7, 9, 11, 12, 88] [3, 2, 1, 0] 4 (by kernel_rfl) (by kernel_rfl) (by kernel_rfl))
    ·replace hm := bif_f hm hb
     replace hs := hs.known (t := 80) hb (by kernel_rfl)
     refine qpu 3 hs fun a hs => ?_
     rcases Bool.eq_false_or_eq_true (v_29 != 0) with hb | hb
     ·replace hm := bif_t hm hb
      replace hs := hs.known (t := 83) hb (by kernel_rfl)
      refine qpe 5 [(2, .slice A_x2 x2.length c_x2), (3, pp b_2), (4, pp b_3), (7, .slice Ar11x0_14 v_13.1.length cr11x0_15), (9, .slice Ar17x0_20 v_19.1.length cr17x0_21), (11, vi v_25), (12, vi v_29), (88, .bool (((v_19.1.length : Nat) : Int) != 0))] hs fun a hs => ?_
      exact hj31 (((v_19.1.length : Nat) : Int) != 0) hm _ _ (hs.go [2, 3, 4, 7, 9, 11, 12, 88] [3, 2, 1, 0] 4 (by kernel_rfl) (by kernel_rfl) (by kernel_rfl))
     ·replace hm := bif_f hm hb
      replace hs := hs.known (t := 83) hb (by kernel_rfl)
      refine qpe 5 [(2, .slice A_x2 x2.length c_x2), (3, pp b_2), (4, pp b_3), (7, .slice Ar11x0_14 v_13.1.length cr11x0_15), (9, .slice Ar17x0_20 v_19.1.length cr17x0_21), (11, vi v_25), (12, vi v_29), (88, .bool false)] hs fun a hs => ?_
      exact hj31 false hm _ _ (hs.go [2, 3, 4, 7, 9, 11, 12, 88] [3, 2, 1, 0] 4 (by kernel_rfl) (by kernel_rfl) (by kernel_rfl))
   ·replace hm := bif_f hm hb
    replace hs := hs.known (t := 74) hb (by kernel_rfl)
    refine qpu 9 hs fun a hs => ?_
    rcases Bool.eq_false_or_eq_true (v_29 != 0) with hb | hb
    ·replace hm := bif_t hm hb
     replace hs := hs.known (t := 83) hb (by kernel_rfl)
     refine qpe 5 [(2, .slice A_x2 x2.length c_x2), (3, pp b_2), (4, pp b_3), (7, .slice Ar11x0_14 v_13.1.length cr11x0_15), (9, .slice Ar17x0_20 v_19.1.length cr17x0_21), (11, vi v_25), (12, vi v_29), (88, .bool (((v_19.1.length : Nat) : Int) != 0))] hs fun a hs => ?_
     exact hj31 (((v_19.1.length : Nat) : Int) != 0) hm _ _ (hs.go [2, 3, 4, 7, 9, 11, 12, 88] [3, 2, 1, 0] 4 (by kernel_rfl) (by kernel_rfl) (by kernel_rfl))
    ·replace hm := bif_f hm hb
     replace hs := hs.known (t := 83) hb (by kernel_rfl)
     refine qpe 5 [(2, .slice A_x2 x2.length c_x2), (3, pp b_2), (4, pp b_3), (7, .slice Ar11x0_14 v_13.1.length cr11x0_15), (9, .slice Ar17x0_20 v_19.1.length cr17x0_21), (11, vi v_25), (12, vi v_29), (88, .bool false)] hs fun a hs => ?_
     exact hj31 false hm _ _ (hs.go [2, 3, 4, 7, 9, 11, 12, 88] [3, 2, 1, 0] 4 (by kernel_rfl) (by kernel_rfl) (by kernel_rfl))

end Go.Proofs.Ytebgjmhkmmlpeaa
