/- Of each Go function that CountTells comes to: a model in plain Lean, and that the program's call does what the model says; no condition. -/
import Derived.Test.YtkabdodcacfmlaaGreatProg
import Derived.Test.YtkabdodcacfmlaaGreatVoopcamee
import Derived.Test.YtkabdodcacfmlaaGreatMCountTells3
namespace Go.Proofs.YtkabdodcacfmlaaGreat
open Go Go.Vk
set_option linter.unusedVariables false


abbrev visorref29_Word.R (κ : Ctx) (S : List HP) (x0 : List Int) (x1 : Int) (A_x0 : Option Addr) (c_x0 : Nat) (r : Int) : Ending → World → Prop := fun e w' => e = .returned (vw r) ∧ Ow κ w' (S)
def visorref29_Word.m (k : Nat) (x0 : List Int) (x1 : Int) : Option Int := (bif (decide (x1 < 0)) || (decide (x1 ≥ ((x0.length : Nat) : Int))) then some 0 else (if 0 ≤ x1 then (x0[x1.toNat]?).bind fun e_10 => some e_10 else none))

set_option maxRecDepth 100000 in
set_option maxHeartbeats 4000000 in
theorem visorref29_Word.ok (k : Nat) (x0 : List Int) (x1 : Int) (r : Int) (hm : visorref29_Word.m k x0 x1 = some r) (κ : Ctx) (w : World) (S : List HP) (A_x0 : Option Addr) (c_x0 : Nat) (hx_x0 : Sl κ S A_x0 c_x0 1 (eI .u64) x0) (ho : Ow κ w (S)) :
  Calls Tryz.prog 62 #[.slice A_x0 x0.length c_x0, vi x1] w (visorref29_Word.R κ S x0 x1 A_x0 c_x0 r) := by
 unfold visorref29_Word.m at hm
 generalize hRR : visorref29_Word.R κ S x0 x1 A_x0 c_x0 r = RR
 refine qen [(0, .slice A_x0 x0.length c_x0), (1, vi x1)] Tryz.func62 Tryz.ntmps62 ho fun a hs => ?_
 refine qsk 1 [0, 1] hs fun a hs => ?_
 refine Vk.seq fun K2 hK2 => ?_
 refine qsr fun K3 hK3 => ?_
 refine qpu 3 hs fun a hs => ?_
 refine qsc 7 5 hs fun a hs => ?_
 refine qpk 0 [0, 1, 12] hs fun a hs => hK3 _ _ ?_
 clear hK3
 refine qcs ((decide (x1 < 0)) || (decide (x1 ≥ ((x0.length : Nat) : Int)))) hs (fun hb => ?_) fun hb => ?_
 ·replace hm := bif_t hm hb
  refine qse 1 [(4, vw 0)] hs fun a hs => ?_
  refine wp_ret ?_
  exact qr1 (vw 0) hs rfl hRR (by cases hm; exact ⟨rfl, hs.own⟩)
 ·replace hm := bif_f hm hb
  refine wp_skip ?_
  refine hK2 _ _ ?_
  clear hK2
  refine qsr fun K6 hK6 => ?_
  refine qpu 2 hs fun a hs => ?_
  obtain ⟨h_7, hm⟩ := ite_t hm
  obtain ⟨e_10, h_8, hm⟩ := bind_t hm
  obtain ⟨b_11, o_12, hA_13, h_9⟩ := Sl.elem hx_x0 h_8
  refine qva (.pointer (some ⟨b_11, o_12 + x1.toNat * 1, none⟩)) (op := (.indexAddr 26 (.tmp 13) (.tmp 14))) hs (fun o ho => run_idxSlc (k := .i64) ho (cap := c_x0) (len := x0.length) ((congrArg (fun A => Value.slice A (x0.length) (c_x0)) hA_13) ▸ (by kernel_rfl)) (by kernel_rfl) (by kernel_rfl) (idx_ok h_7 h_8) _) fun a hs => ?_
  refine qva (vw e_10) (op := (.load 34 (.tmp 15))) hs (fun o ho => run_load1 (c := cw e_10) ho (by kernel_rfl) (by kernel_rfl) (fun w ho => h_9 w ho 0 _ rfl) _ hs.own) fun a hs => ?_
  refine qpe 1 [(4, vw e_10)] hs fun a hs => hK6 _ _ ?_
  clear hK6
  refine wp_ret ?_
  exact qr1 (vw e_10) hs rfl hRR (by cases hm; exact ⟨rfl, hs.own⟩)


def visorref01_Low.l1 (x0 : Int) : Nat → Int → Int → Option (Int)
 | 0, _, _ => none
 | k + 1, q_6, q_7 => (bif (decide (q_7 < x0)) && (decide (q_7 < 64)) then visorref01_Low.l1 x0 k (IntKind.u64.wrap ((IntKind.u64.wrap (q_6 * 2)) + 1)) (IntKind.i64.wrap (q_7 + 1)) else some q_6)
abbrev visorref01_Low.R (κ : Ctx) (S : List HP) (x0 : Int) (r : Int) : Ending → World → Prop := fun e w' => e = .returned (vw r) ∧ Ow κ w' (S)
def visorref01_Low.m (k : Nat) (x0 : Int) : Option Int := (visorref01_Low.l1 x0 k 0 0).bind fun p_12 => some p_12

set_option maxRecDepth 100000 in
set_option maxHeartbeats 4000000 in
theorem visorref01_Low.ok (k : Nat) (x0 : Int) (r : Int) (hm : visorref01_Low.m k x0 = some r) (κ : Ctx) (w : World) (S : List HP) (ho : Ow κ w (S)) :
  Calls Tryz.prog 103 #[vi x0] w (visorref01_Low.R κ S x0 r) := by
 unfold visorref01_Low.m at hm
 generalize hRR : visorref01_Low.R κ S x0 r = RR
 refine qen [(0, vi x0)] Tryz.func103 Tryz.ntmps103 ho fun a hs => ?_
 refine qse 1 [(0, vi x0)] hs fun a hs => ?_
 refine qse 1 [(0, vi x0), (3, vw 0)] hs fun a hs => ?_
 refine Vk.seq fun K3 hK3 => ?_
 refine qsk 1 [0, 3, 4] hs fun a hs => ?_
 refine wp_block ?_
 obtain ⟨r5, hl5, hm⟩ := bind_t hm
 have hx5 : ∀ (p_12 : Int), r5 = p_12 → ∀ (a : Act) (w : World), St 18 a w κ [(3, vw p_12)] (S) → K3 a w := by
  intro p_12 he a w hs
  subst r5
  refine hK3 _ _ ?_
  clear hK3
  refine qse 2 [(2, vw p_12)] hs fun a hs => ?_
  refine wp_ret ?_
  exact qr1 (vw p_12) hs rfl hRR (by cases hm; exact ⟨rfl, hs.own⟩)
 refine Vk.loopBy (fun k (s : Int × Int) a w => visorref01_Low.l1 x0 k s.1 s.2 = some r5 ∧ St 18 a w κ [(0, vi x0), (3, vw s.1), (4, vi s.2)] (S)) k (0, 0) ⟨hl5, hs.go [0, 3, 4] [] 0 (by kernel_rfl) (by kernel_rfl) (by kernel_rfl)⟩ (fun s a w h => by obtain ⟨h1, _⟩ := h; simp [visorref01_Low.l1] at h1) (fun k KL5 ih s a w h => ?_)
 obtain ⟨q_6, q_7⟩ := s
 obtain ⟨hm, hs⟩ := h
 try dsimp only at hm hs
 rw [visorref01_Low.l1] at hm
 refine Vk.seq fun K8 hK8 => ?_
 refine qsr fun K9 hK9 => ?_
 refine qpu 4 hs fun a hs => ?_
 refine qsc 8 3 hs fun a hs => ?_
 refine qpk 0 [0, 3, 4, 11] hs fun a hs => hK9 _ _ ?_
 clear hK9
 refine qcs ((decide (q_7 < x0)) && (decide (q_7 < 64))) hs (fun hb => ?_) fun hb => ?_
 ·replace hm := bif_t hm hb
  refine wp_skip ?_
  refine hK8 _ _ ?_
  clear hK8
  refine Vk.seq fun K11 hK11 => ?_
  refine wp_block ?_
  refine Vk.region ?_
  refine qpk 4 [0, 3, 4] hs fun a hs => hK11 _ _ ?_
  clear hK11
  refine Vk.region ?_
  refine qpk 3 [0, 3, 4] hs fun a hs => ?_
  refine ih ((IntKind.u64.wrap ((IntKind.u64.wrap (q_6 * 2)) + 1)), (IntKind.i64.wrap (q_7 + 1))) _ _ ⟨hm, hs.go [0, 3, 4] [] 0 (by kernel_rfl) (by kernel_rfl) (by kernel_rfl)⟩
 ·replace hm := bif_f hm hb
  refine wp_exit ?_
  exact hx5 q_6 (Option.some.inj hm).symm _ _ (hs.go [3] [] 0 (by kernel_rfl) (by kernel_rfl) (by kernel_rfl))


abbrev visorref01_Mod.R (κ : Ctx) (S : List HP) (x0 : Int) (x1 : Int) (r : Int) : Ending → World → Prop := fun e w' => e = .returned (vi r) ∧ Ow κ w' (S)
def visorref01_Mod.m (k : Nat) (x0 : Int) (x1 : Int) : Option Int := (if x1 ≠ 0 then (bif decide ((Int.tmod x0 x1) < 0) then (if x1 ≠ 0 then some (IntKind.i64.wrap ((Int.tmod x0 x1) + x1)) else none) else (if x1 ≠ 0 then some (Int.tmod x0 x1) else none)) else none)

set_option maxRecDepth 100000 in
set_option maxHeartbeats 4000000 in
theorem visorref01_Mod.ok (k : Nat) (x0 : Int) (x1 : Int) (r : Int) (hm : visorref01_Mod.m k x0 x1 = some r) (κ : Ctx) (w : World) (S : List HP) (ho : Ow κ w (S)) :
  Calls Tryz.prog 127 #[vi x0, vi x1] w (visorref01_Mod.R κ S x0 x1 r) := by
 unfold visorref01_Mod.m at hm
 generalize hRR : visorref01_Mod.R κ S x0 x1 r = RR
 refine qen [(0, vi x0), (1, vi x1)] Tryz.func127 Tryz.ntmps127 ho fun a hs => ?_
 refine qse 1 [(0, vi x0), (1, vi x1)] hs fun a hs => ?_
 refine Vk.seq fun K2 hK2 => ?_
 refine qsr fun K3 hK3 => ?_
 refine qpu 2 hs fun a hs => ?_
 obtain ⟨h_4, hm⟩ := ite_t hm
 refine qva (vi (Int.tmod x0 x1)) (op := (.binOp .rem 3 (.tmp 5) (.tmp 6) 3)) hs (fun o ho => run_rem ho (by kernel_rfl) (by kernel_rfl) h_4 _) fun a hs => ?_
 refine qpk 1 [0, 1, 8] hs fun a hs => hK3 _ _ ?_
 clear hK3
 refine qcs (decide ((Int.tmod x0 x1) < 0)) hs (fun hb => ?_) fun hb => ?_
 ·replace hm := bif_t hm hb
  refine qsr fun K5 hK5 => ?_
  refine qpu 2 hs fun a hs => ?_
  obtain ⟨h_6, hm⟩ := ite_t hm
  refine qva (vi (Int.tmod x0 x1)) (op := (.binOp .rem 3 (.tmp 9) (.tmp 10) 3)) hs (fun o ho => run_rem ho (by kernel_rfl) (by kernel_rfl) h_6 _) fun a hs => ?_
  refine qpk 3 [4] hs fun a hs => hK5 _ _ ?_
  clear hK5
  refine wp_ret ?_
  exact qr1 (vi (IntKind.i64.wrap ((Int.tmod x0 x1) + x1))) hs rfl hRR (by cases hm; exact ⟨rfl, hs.own⟩)
 ·replace hm := bif_f hm hb
  refine wp_skip ?_
  refine hK2 _ _ ?_
  clear hK2
  refine qsr fun K7 hK7 => ?_
  refine qpu 2 hs fun a hs => ?_
  obtain ⟨h_8, hm⟩ := ite_t hm
  refine qva (vi (Int.tmod x0 x1)) (op := (.binOp .rem 3 (.tmp 14) (.tmp 15) 3)) hs (fun o ho => run_rem ho (by kernel_rfl) (by kernel_rfl) h_8 _) fun a hs => ?_
  refine qpk 1 [4] hs fun a hs => hK7 _ _ ?_
  clear hK7
  refine wp_ret ?_
  exact qr1 (vi (Int.tmod x0 x1)) hs rfl hRR (by cases hm; exact ⟨rfl, hs.own⟩)


def visorref01_Rot.l1 (x1 : Int) : Nat → Int → Int → Option (Int)
 | 0, _, _ => none
 | k + 1, q_5, q_6 => (visorref01_Mod.m k x1 64).bind fun v_11 => (bif decide (q_6 < v_11) then visorref01_Rot.l1 x1 k (IntKind.u64.wrap ((IntKind.u64.wrap (q_5 * 2)) + (IntKind.u64.wrap (Int.tdiv q_5 9223372036854775808)))) (IntKind.i64.wrap (q_6 + 1)) else some q_5)
abbrev visorref01_Rot.R (κ : Ctx) (S : List HP) (x0 : Int) (x1 : Int) (r : Int) : Ending → World → Prop := fun e w' => e = .returned (vw r) ∧ Ow κ w' (S)
def visorref01_Rot.m (k : Nat) (x0 : Int) (x1 : Int) : Option Int := (visorref01_Rot.l1 x1 k x0 0).bind fun p_13 => some p_13

set_option maxRecDepth 100000 in
set_option maxHeartbeats 4000000 in
theorem visorref01_Rot.ok (k : Nat) (x0 : Int) (x1 : Int) (r : Int) (hm : visorref01_Rot.m k x0 x1 = some r) (κ : Ctx) (w : World) (S : List HP) (ho : Ow κ w (S)) :
  Calls Tryz.prog 102 #[vw x0, vi x1] w (visorref01_Rot.R κ S x0 x1 r) := by
 unfold visorref01_Rot.m at hm
 generalize hRR : visorref01_Rot.R κ S x0 x1 r = RR
 refine qen [(0, vw x0), (1, vi x1)] Tryz.func102 Tryz.ntmps102 ho fun a hs => ?_
 refine qse 1 [(0, vw x0), (1, vi x1)] hs fun a hs => ?_
 refine Vk.seq fun K2 hK2 => ?_
 refine qsk 1 [0, 1, 5] hs fun a hs => ?_
 refine wp_block ?_
 obtain ⟨r4, hl4, hm⟩ := bind_t hm
 have hx4 : ∀ (p_13 : Int), r4 = p_13 → ∀ (a : Act) (w : World), St 18 a w κ [(0, vw p_13)] (S) → K2 a w := by
  intro p_13 he a w hs
  subst r4
  refine hK2 _ _ ?_
  clear hK2
  refine qse 2 [(4, vw p_13)] hs fun a hs => ?_
  refine wp_ret ?_
  exact qr1 (vw p_13) hs rfl hRR (by cases hm; exact ⟨rfl, hs.own⟩)
 refine Vk.loopBy (fun k (s : Int × Int) a w => visorref01_Rot.l1 x1 k s.1 s.2 = some r4 ∧ St 18 a w κ [(0, vw s.1), (1, vi x1), (5, vi s.2)] (S)) k (x0, 0) ⟨hl4, hs.go [0, 1, 5] [] 0 (by kernel_rfl) (by kernel_rfl) (by kernel_rfl)⟩ (fun s a w h => by obtain ⟨h1, _⟩ := h; simp [visorref01_Rot.l1] at h1) (fun k KL4 ih s a w h => ?_)
 obtain ⟨q_5, q_6⟩ := s
 obtain ⟨hm, hs⟩ := h
 try dsimp only at hm hs
 rw [visorref01_Rot.l1] at hm
 refine Vk.seq fun K7 hK7 => ?_
 refine qsr fun K8 hK8 => ?_
 refine qpu 2 hs fun a hs => ?_
 obtain ⟨v_11, h_10, hm⟩ := bind_t hm
 refine qcl (visorref01_Mod.ok _ _ _ _ h_10 _ _ (S) hs.own) hs fun w a hs => ?_
 refine qpk 1 [0, 1, 5, 9] hs fun a hs => hK8 _ _ ?_
 clear hK8
 refine qcs (decide (q_6 < v_11)) hs (fun hb => ?_) fun hb => ?_
 ·replace hm := bif_t hm hb
  refine wp_skip ?_
  refine hK7 _ _ ?_
  clear hK7
  refine Vk.seq fun K12 hK12 => ?_
  refine wp_block ?_
  refine Vk.region ?_
  refine qpk 6 [0, 1, 5] hs fun a hs => hK12 _ _ ?_
  clear hK12
  refine Vk.region ?_
  refine qpk 3 [0, 1, 5] hs fun a hs => ?_
  refine ih ((IntKind.u64.wrap ((IntKind.u64.wrap (q_5 * 2)) + (IntKind.u64.wrap (Int.tdiv q_5 9223372036854775808)))), (IntKind.i64.wrap (q_6 + 1))) _ _ ⟨hm, hs.go [0, 1, 5] [] 0 (by kernel_rfl) (by kernel_rfl) (by kernel_rfl)⟩
 ·replace hm := bif_f hm hb
  refine wp_exit ?_
  exact hx4 q_5 (Option.some.inj hm).symm _ _ (hs.go [0] [] 0 (by kernel_rfl) (by kernel_rfl) (by kernel_rfl))


def visorref17_Eval.j1 (k : Nat) (x0 : Tapi_Op) (x1 : Int) (x2 : Int) (x3 : Int) (p_12 : Bool) : Option (Int) := (bif p_12 then some x0.c else (bif x0.kind == 5 then some (bxor .u64 x1 x2) else (bif x0.kind == 6 then some (IntKind.u64.wrap (18446744073709551615 - x1)) else (bif x0.kind == 7 then some (band .u64 x1 x2) else (bif x0.kind == 8 then some (band .u64 x1 x0.c) else (bif x0.kind == 9 then (visorref01_Low.m k (IntKind.i64.wrap (64 - (IntKind.i64.wrap (Int.tmod x0.c 64))))).bind fun v_26 => (visorref01_Rot.m k (band .u64 x1 v_26) (IntKind.i64.wrap (Int.tmod x0.c 64))).bind fun v_29 => some v_29 else (bif x0.kind == 10 then (visorref01_Rot.m k x1 (IntKind.i64.wrap (64 - (IntKind.i64.wrap (Int.tmod x0.c 64))))).bind fun v_34 => (visorref01_Low.m k (IntKind.i64.wrap (64 - (IntKind.i64.wrap (Int.tmod x0.c 64))))).bind fun v_37 => some (band .u64 v_34 v_37) else (bif x0.kind == 11 then (visorref01_Rot.m k x1 (IntKind.i64.wrap (Int.tmod x0.c 64))).bind fun v_42 => some v_42 else (bif x0.kind == 12 then some (bxor .u64 (bxor .u64 x1 x2) x3) else some 0)))))))))
abbrev visorref17_Eval.R (κ : Ctx) (S : List HP) (x0 : Tapi_Op) (x1 : Int) (x2 : Int) (x3 : Int) (x4 : Int) (r : Int) : Ending → World → Prop := fun e w' => e = .returned (vw r) ∧ Ow κ w' (S)
def visorref17_Eval.m (k : Nat) (x0 : Tapi_Op) (x1 : Int) (x2 : Int) (x3 : Int) (x4 : Int) : Option Int := (bif x0.kind == 1 then some x4 else (bif x0.kind == 2 then some (bxor .u64 (bxor .u64 x4 x1) x2) else (bif x0.kind == 3 then visorref17_Eval.j1 k x0 x1 x2 x3 (x0.kind == 3) else visorref17_Eval.j1 k x0 x1 x2 x3 (x0.kind == 4))))

set_option maxRecDepth 100000 in
set_option maxHeartbeats 4000000 in
theorem visorref17_Eval.ok (k : Nat) (x0 : Tapi_Op) (x1 : Int) (x2 : Int) (x3 : Int) (x4 : Int) (r : Int) (hm : visorref17_Eval.m k x0 x1 x2 x3 x4 = some r) (κ : Ctx) (w : World) (S : List HP) (ho : Ow κ w (S)) :
  Calls Tryz.prog 69 #[.agg (vals [ci x0.kind, ci x0.dom, ci x0.a, ci x0.b, ci x0.d, cw x0.c]), vw x1, vw x2, vw x3, vw x4] w (visorref17_Eval.R κ S x0 x1 x2 x3 x4 r) := by
 unfold visorref17_Eval.m at hm
 generalize hRR : visorref17_Eval.R κ S x0 x1 x2 x3 x4 r = RR
 refine qen [(0, .agg (vals [ci x0.kind, ci x0.dom, ci x0.a, ci x0.b, ci x0.d, cw x0.c])), (1, vw x1), (2, vw x2), (3, vw x3), (4, vw x4)] Tryz.func69 Tryz.ntmps69 ho fun a hs => ?_
 refine qsr fun K1 hK1 => ?_
 refine qbx 0 80 [ci x0.kind, ci x0.dom, ci x0.a, ci x0.b, ci x0.d, cw x0.c] 5 hs fun b_2 w a hs => ?_
 refine qpk 1 [1, 2, 3, 4, 5] hs fun a hs => hK1 _ _ ?_
 clear hK1
 refine qsr fun K3 hK3 => ?_
 refine qpu 1 hs fun a hs => ?_
 refine qld 0 (cw x0.c) hs rfl fun a hs => ?_
 refine qpk 3 [1, 2, 3, 4, 5, 11] hs fun a hs => hK3 _ _ ?_
 clear hK3
 refine Vk.seq fun K4 hK4 => ?_
 refine qsr fun K5 hK5 => ?_
 refine qpu 1 hs fun a hs => ?_
 refine qld 0 (ci x0.kind) hs rfl fun a hs => ?_
 refine qpk 0 [1, 2, 3, 4, 5, 11, 17] hs fun a hs => hK5 _ _ ?_
 clear hK5
 refine wp_block ?_
 refine qsk 2 [1, 2, 3, 4, 5, 11, 17, 18] hs fun a hs => ?_
 refine qcs (x0.kind == 1) hs (fun hb => ?_) fun hb => ?_
 ·replace hm := bif_t hm hb
  refine qse 2 [(10, vw x4)] hs fun a hs => ?_
  refine wp_ret ?_
  exact qr1 (vw x4) hs rfl hRR (by cases hm; exact ⟨rfl, hs.own.drop⟩)
 ·replace hm := bif_f hm hb
  refine qsk 2 [1, 2, 3, 4, 5, 11, 17, 21] hs fun a hs => ?_
  refine qcs (x0.kind == 2) hs (fun hb => ?_) fun hb => ?_
  ·replace hm := bif_t hm hb
   refine qsk 6 [10] hs fun a hs => ?_
   refine wp_ret ?_
   exact qr1 (vw (bxor .u64 (bxor .u64 x4 x1) x2)) hs rfl hRR (by cases hm; exact ⟨rfl, hs.own.drop⟩)
  ·replace hm := bif_f hm hb
   refine Vk.seq fun K10 hK10 => ?_
   have hj10 : ∀ (p_12 : Bool), visorref17_Eval.j1 k x0 x1 x2 x3 p_12 = some r → ∀ (a : Act) (w : World), St 84 a w κ [(1, vw x1), (2, vw x2), (3, vw x3), (5, pp b_2), (11, vi (IntKind.i64.wrap (Int.tmod x0.c 64))), (17, vi x0.kind), (28, .bool p_12)] (pt b_2 (blk (Tapi_Op.cells x0) 80) :: S) → K10 a w := by
    intro p_12 hm a w hs
    unfold visorref17_Eval.j1 at hm
    refine hK10 _ _ ?_
    refine qcs (p_12) hs (fun hb => ?_) fun hb => ?_
    ·replace hm := bif_t hm hb
     refine qsr fun K13 hK13 => ?_
     refine qpu 1 hs fun a hs => ?_
     refine qld 0 (cw x0.c) hs rfl fun a hs => ?_
     refine qpe 1 [(10, vw x0.c)] hs fun a hs => hK13 _ _ ?_
     clear hK13
     refine wp_ret ?_
     exact qr1 (vw x0.c) hs rfl hRR (by cases hm; exact ⟨rfl, hs.own.drop⟩)
    ·replace hm := bif_f hm hb
     refine qsk 2 [1, 2, 3, 5, 11, 17, 33] hs fun a hs => ?_
     refine qcs (x0.kind == 5) hs (fun hb => ?_) fun hb => ?_
     ·replace hm := bif_t hm hb
      refine qsk 4 [10] hs fun a hs => ?_
      refine wp_ret ?_
      exact qr1 (vw (bxor .u64 x1 x2)) hs rfl hRR (by cases hm; exact ⟨rfl, hs.own.drop⟩)
     ·replace hm := bif_f hm hb
      refine qsk 2 [1, 2, 3, 5, 11, 17, 38] hs fun a hs => ?_
      refine qcs (x0.kind == 6) hs (fun hb => ?_) fun hb => ?_
      ·replace hm := bif_t hm hb
       refine qsk 3 [10] hs fun a hs => ?_
       refine wp_ret ?_
       exact qr1 (vw (IntKind.u64.wrap (18446744073709551615 - x1))) hs rfl hRR (by cases hm; exact ⟨rfl, hs.own.drop⟩)
      ·replace hm := bif_f hm hb
       refine qsk 2 [1, 2, 3, 5, 11, 17, 42] hs fun a hs => ?_
       refine qcs (x0.kind == 7) hs (fun hb => ?_) fun hb => ?_
       ·replace hm := bif_t hm hb
        refine qse 4 [(10, vw (band .u64 x1 x2))] hs fun a hs => ?_
        refine wp_ret ?_
        exact qr1 (vw (band .u64 x1 x2)) hs rfl hRR (by cases hm; exact ⟨rfl, hs.own.drop⟩)
       ·replace hm := bif_f hm hb
        refine qsk 2 [1, 2, 3, 5, 11, 17, 47] hs fun a hs => ?_
        refine qcs (x0.kind == 8) hs (fun hb => ?_) fun hb => ?_
        ·replace hm := bif_t hm hb
         refine qsr fun K21 hK21 => ?_
         refine qpu 2 hs fun a hs => ?_
         refine qld 0 (cw x0.c) hs rfl fun a hs => ?_
         refine qpk 2 [10] hs fun a hs => hK21 _ _ ?_
         clear hK21
         refine wp_ret ?_
         exact qr1 (vw (band .u64 x1 x0.c)) hs rfl hRR (by cases hm; exact ⟨rfl, hs.own.drop⟩)
        ·replace hm := bif_f hm hb
         refine qsk 2 [1, 2, 3, 11, 17, 53] hs fun a hs => ?_
         refine qcs (x0.kind == 9) hs (fun hb => ?_) fun hb => ?_
         ·replace hm := bif_t hm hb
          refine qsr fun K23 hK23 => ?_
          refine qpu 3 hs fun a hs => ?_
          obtain ⟨v_26, h_25, hm⟩ := bind_t hm
          refine qcl (visorref01_Low.ok _ _ _ h_25 _ _ (pt b_2 (blk (Tapi_Op.cells x0) 80) :: S) hs.own) hs fun w a hs => ?_
          refine qpu 2 hs fun a hs => ?_
          obtain ⟨v_29, h_28, hm⟩ := bind_t hm
          refine qcl (visorref01_Rot.ok _ _ _ _ h_28 _ _ (pt b_2 (blk (Tapi_Op.cells x0) 80) :: S) hs.own) hs fun w a hs => ?_
          refine qpe 1 [(10, vw v_29)] hs fun a hs => hK23 _ _ ?_
          clear hK23
          refine wp_ret ?_
          exact qr1 (vw v_29) hs rfl hRR (by cases hm; exact ⟨rfl, hs.own.drop⟩)
         ·replace hm := bif_f hm hb
          refine qsk 2 [1, 2, 3, 11, 17, 62] hs fun a hs => ?_
          refine qcs (x0.kind == 10) hs (fun hb => ?_) fun hb => ?_
          ·replace hm := bif_t hm hb
           refine qsr fun K31 hK31 => ?_
           refine qpu 3 hs fun a hs => ?_
           obtain ⟨v_34, h_33, hm⟩ := bind_t hm
           refine qcl (visorref01_Rot.ok _ _ _ _ h_33 _ _ (pt b_2 (blk (Tapi_Op.cells x0) 80) :: S) hs.own) hs fun w a hs => ?_
           refine qpu 2 hs fun a hs => ?_
           obtain ⟨v_37, h_36, hm⟩ := bind_t hm
           refine qcl (visorref01_Low.ok _ _ _ h_36 _ _ (pt b_2 (blk (Tapi_Op.cells x0) 80) :: S) hs.own) hs fun w a hs => ?_
           refine qpk 2 [10] hs fun a hs => hK31 _ _ ?_
           clear hK31
           refine wp_ret ?_
           exact qr1 (vw (band .u64 v_34 v_37)) hs rfl hRR (by cases hm; exact ⟨rfl, hs.own.drop⟩)
          ·replace hm := bif_f hm hb
           refine qsk 2 [1, 2, 3, 11, 17, 72] hs fun a hs => ?_
           refine qcs (x0.kind == 11) hs (fun hb => ?_) fun hb => ?_
           ·replace hm := bif_t hm hb
            refine qsr fun K39 hK39 => ?_
            refine qpu 2 hs fun a hs => ?_
            obtain ⟨v_42, h_41, hm⟩ := bind_t hm
            refine qcl (visorref01_Rot.ok _ _ _ _ h_41 _ _ (pt b_2 (blk (Tapi_Op.cells x0) 80) :: S) hs.own) hs fun w a hs => ?_
            refine qpe 1 [(10, vw v_42)] hs fun a hs => hK39 _ _ ?_
            clear hK39
            refine wp_ret ?_
            exact qr1 (vw v_42) hs rfl hRR (by cases hm; exact ⟨rfl, hs.own.drop⟩)
           ·replace hm := bif_f hm hb
            refine qsk 2 [1, 2, 3, 77] hs fun a hs => ?_
            refine qcs (x0.kind == 12) hs (fun hb => ?_) fun hb => ?_
            ·replace hm := bif_t hm hb
             refine qsk 6 [10] hs fun a hs => ?_
             refine wp_ret ?_
             exact qr1 (vw (bxor .u64 (bxor .u64 x1 x2) x3)) hs rfl hRR (by cases hm; exact ⟨rfl, hs.own.drop⟩)
            ·replace hm := bif_f hm hb
             refine wp_skip ?_
             refine hK4 _ _ ?_
             clear hK4
             refine qse 1 [(10, vw 0)] hs fun a hs => ?_
             refine wp_ret ?_
             exact qr1 (vw 0) hs rfl hRR (by cases hm; exact ⟨rfl, hs.own.drop⟩)
   refine qse 2 [(1, vw x1), (2, vw x2), (3, vw x3), (5, pp b_2), (11, vi (IntKind.i64.wrap (Int.tmod x0.c 64))), (17, vi x0.kind), (28, .bool (x0.kind == 3))] hs fun a hs => ?_
   refine qcs (x0.kind == 3) hs (fun hb => ?_) fun hb => ?_
   ·replace hm := bif_t hm hb
    refine wp_skip ?_
    exact hj10 (x0.kind == 3) hm _ _ (hs.go [1, 2, 3, 5, 11, 17, 28] [0] 1 (by kernel_rfl) (by kernel_rfl) (by kernel_rfl))
   ·replace hm := bif_f hm hb
    refine Vk.region ?_
    refine qpe 2 [(1, vw x1), (2, vw x2), (3, vw x3), (5, pp b_2), (11, vi (IntKind.i64.wrap (Int.tmod x0.c 64))), (17, vi x0.kind), (28, .bool (x0.kind == 4))] hs fun a hs => ?_
    exact hj10 (x0.kind == 4) hm _ _ (hs.go [1, 2, 3, 5, 11, 17, 28] [0] 1 (by kernel_rfl) (by kernel_rfl) (by kernel_rfl))


def visorref29_Play.j3 (k : Nat) (rec10 : (List Int) → Int → Int → Int → Option (List Int)) (q_14 : Int) (p_89 : List Int) (p_90 : Int) (p_91 : Int) : Option (List Int) := rec10 p_89 p_90 p_91 (IntKind.i64.wrap (q_14 + 1))
def visorref29_Play.j2 (k : Nat) (rec10 : (List Int) → Int → Int → Int → Option (List Int)) (x2 : List Int) (x4 : Bool) (q_11 : List Int) (q_13 : Int) (q_14 : Int) (e_22 : Tapi_Op) (p_38 : Int) (p_50 : Int) : Option (List Int) := (visorref29_Word.m k q_11 e_22.a).bind fun v_55 => (visorref29_Word.m k q_11 e_22.b).bind fun v_58 => (visorref29_Word.m k q_11 e_22.d).bind fun v_61 => (visorref17_Eval.m k e_22 v_55 v_58 v_61 p_50).bind fun v_64 => (if 0 ≤ q_14 then (q_11[q_14.toNat]?).bind fun e_68 => (bif (e_22.kind == 12) && x4 then (if 0 ≤ q_13 then (x2[q_13.toNat]?).bind fun e_78 => (if 0 ≤ q_14 then ((q_11.set q_14.toNat v_64)[q_14.toNat]?).bind fun e_85 => visorref29_Play.j3 k (rec10) q_14 ((q_11.set q_14.toNat v_64).set q_14.toNat e_78) p_38 (IntKind.i64.wrap (q_13 + 1)) else none) else none) else visorref29_Play.j3 k (rec10) q_14 (q_11.set q_14.toNat v_64) p_38 q_13) else none)
def visorref29_Play.j1 (k : Nat) (rec10 : (List Int) → Int → Int → Int → Option (List Int)) (x1 : List Int) (x2 : List Int) (x4 : Bool) (q_11 : List Int) (q_13 : Int) (q_14 : Int) (e_22 : Tapi_Op) (p_38 : Int) (p_39 : Int) : Option (List Int) := (bif (e_22.kind == 2) && (!x4) then (if 0 ≤ e_22.c then (x1[e_22.c.toNat]?).bind fun e_46 => visorref29_Play.j2 k (rec10) x2 x4 q_11 q_13 q_14 e_22 p_38 e_46 else none) else visorref29_Play.j2 k (rec10) x2 x4 q_11 q_13 q_14 e_22 p_38 p_39)
def visorref29_Play.l1 (x0 : Tapi_Trace) (x1 : List Int) (x2 : List Int) (x3 : List Int) (x4 : Bool) : Nat → (List Int) → Int → Int → Int → Option (List Int)
 | 0, _, _, _, _ => none
 | k + 1, q_11, q_12, q_13, q_14 => (bif decide (q_14 < ((x0.ops.length : Nat) : Int)) then (if 0 ≤ q_14 then (x0.ops[q_14.toNat]?).bind fun e_22 => (bif e_22.kind == 1 then (if 0 ≤ q_12 then (x3[q_12.toNat]?).bind fun e_34 => visorref29_Play.j1 k (visorref29_Play.l1 x0 x1 x2 x3 x4 k) x1 x2 x4 q_11 q_13 q_14 e_22 (IntKind.i64.wrap (q_12 + 1)) e_34 else none) else visorref29_Play.j1 k (visorref29_Play.l1 x0 x1 x2 x3 x4 k) x1 x2 x4 q_11 q_13 q_14 e_22 q_12 0) else none) else some q_11)
abbrev visorref29_Play.R (κ : Ctx) (S : List HP) (x0 : Tapi_Trace) (x1 : List Int) (x2 : List Int) (x3 : List Int) (x4 : Bool) (A_x0ops : Option Addr) (c_x0ops : Nat) (A_x0blocks : Option Addr) (c_x0blocks : Nat) (A_x1 : Option Addr) (c_x1 : Nat) (A_x2 : Option Addr) (c_x2 : Nat) (A_x3 : Option Addr) (c_x3 : Nat) (r : List Int) : Ending → World → Prop := fun e w' => ∃ (A_r0 : Option Addr), ∃ (c_r0 : Nat), e = .returned (.slice A_r0 r.length c_r0) ∧ Ow κ w' (rowp A_r0 c_r0 34 1 (eI .u64) r :: S)
def visorref29_Play.m (k : Nat) (x0 : Tapi_Trace) (x1 : List Int) (x2 : List Int) (x3 : List Int) (x4 : Bool) : Option (List Int) := (if (0 : Int) ≤ ((x0.ops.length : Nat) : Int) ∧ (((x0.ops.length : Nat) : Int) : Int) ≤ ((x0.ops.length : Nat) : Int) ∧ (8 : Int) * ((x0.ops.length : Nat) : Int) ≤ 281474976710656 then (visorref29_Play.l1 x0 x1 x2 x3 x4 k (List.replicate ((x0.ops.length : Nat) : Int).toNat 0 : List Int) 0 0 0).bind fun p_92 => some p_92 else none)

set_option maxRecDepth 100000 in
set_option maxHeartbeats 4000000 in
theorem visorref29_Play.ok (k : Nat) (x0 : Tapi_Trace) (x1 : List Int) (x2 : List Int) (x3 : List Int) (x4 : Bool) (r : List Int) (hm : visorref29_Play.m k x0 x1 x2 x3 x4 = some r) (κ : Ctx) (w : World) (S : List HP) (A_x0ops : Option Addr) (c_x0ops : Nat) (hx_x0ops : Sl κ S A_x0ops c_x0ops 6 Tapi_Op.cells x0.ops) (A_x0blocks : Option Addr) (c_x0blocks : Nat) (hx_x0blocks : Sl κ S A_x0blocks c_x0blocks 3 Tapi_Span.cells x0.blocks) (A_x1 : Option Addr) (c_x1 : Nat) (hx_x1 : Sl κ S A_x1 c_x1 1 (eI .u64) x1) (A_x2 : Option Addr) (c_x2 : Nat) (hx_x2 : Sl κ S A_x2 c_x2 1 (eI .u64) x2) (A_x3 : Option Addr) (c_x3 : Nat) (hx_x3 : Sl κ S A_x3 c_x3 1 (eI .u64) x3) (ho : Ow κ w (S)) :
  Calls Tryz.prog 38 #[.agg (vals [ci x0.n, C.slc A_x0ops x0.ops.length c_x0ops, C.slc A_x0blocks x0.blocks.length c_x0blocks]), .slice A_x1 x1.length c_x1, .slice A_x2 x2.length c_x2, .slice A_x3 x3.length c_x3, .bool x4] w (visorref29_Play.R κ S x0 x1 x2 x3 x4 A_x0ops c_x0ops A_x0blocks c_x0blocks A_x1 c_x1 A_x2 c_x2 A_x3 c_x3 r) := by
 unfold visorref29_Play.m at hm
 generalize hRR : visorref29_Play.R κ S x0 x1 x2 x3 x4 A_x0ops c_x0ops A_x0blocks c_x0blocks A_x1 c_x1 A_x2 c_x2 A_x3 c_x3 r = RR
 refine qen [(0, .agg (vals [ci x0.n, C.slc A_x0ops x0.ops.length c_x0ops, C.slc A_x0blocks x0.blocks.length c_x0blocks])), (1, .slice A_x1 x1.length c_x1), (2, .slice A_x2 x2.length c_x2), (3, .slice A_x3 x3.length c_x3), (4, .bool x4)] Tryz.func38 Tryz.ntmps38 ho fun a hs => ?_
 refine qsr fun K1 hK1 => ?_
 refine qbx 0 25 [ci x0.n, C.slc A_x0ops x0.ops.length c_x0ops, C.slc A_x0blocks x0.blocks.length c_x0blocks] 5 hs fun b_2 w a hs => ?_
 refine qpk 1 [1, 2, 3, 4, 5] hs fun a hs => hK1 _ _ ?_
 clear hK1
 refine qsr fun K3 hK3 => ?_
 refine qpu 1 hs fun a hs => ?_
 refine qld 0 (C.slc A_x0ops x0.ops.length c_x0ops) hs rfl fun a hs => ?_
 refine qpu 1 hs fun a hs => ?_
 obtain ⟨h_4, hm⟩ := ite_t hm
 refine Vk.step (Vk.makeOp (x := (.tmp 19)) (y := (.tmp 19)) (kl := .i64) (kc := .i64) (enc := (eI .u64)) (sz := 1) (by_ := 8) (t := 26) (e := 34) (0) (some 20) hs (by kernel_rfl) (by kernel_rfl) (by kernel_rfl) (by kernel_rfl) (by kernel_rfl) (by kernel_rfl) rfl (by decide) h_4 (by decide) fun A_5 w a hs => ?_)
 refine qpk 1 [1, 2, 3, 4, 5, 11] hs fun a hs => hK3 _ _ ?_
 clear hK3
 refine qsk 2 [1, 2, 3, 4, 5, 11, 12, 13] hs fun a hs => ?_
 refine Vk.seq fun K8 hK8 => ?_
 refine qsk 1 [1, 2, 3, 4, 5, 11, 12, 13, 14] hs fun a hs => ?_
 refine wp_block ?_
 obtain ⟨r10, hl10, hm⟩ := bind_t hm
 have hx10 : ∀ (p_92 : List Int), r10 = p_92 → ∀ (a : Act) (w : World), St 88 a w κ [(11, .slice A_5 p_92.length (((x0.ops.length : Nat) : Int).toNat))] (rowp A_5 (((x0.ops.length : Nat) : Int).toNat) 34 1 (eI .u64) p_92 :: S) → K8 a w := by
  intro p_92 he a w hs
  subst r10
  refine hK8 _ _ ?_
  clear hK8
  refine qse 2 [(10, .slice A_5 p_92.length (((x0.ops.length : Nat) : Int).toNat))] hs fun a hs => ?_
  refine wp_ret ?_
  exact qr1 (.slice A_5 p_92.length (((x0.ops.length : Nat) : Int).toNat)) hs rfl hRR (by cases hm; exact ⟨A_5, ((x0.ops.length : Nat) : Int).toNat, rfl, hs.own⟩)
 refine Vk.loopBy (fun k (s : List Int × Int × Int × Int) a w => visorref29_Play.l1 x0 x1 x2 x3 x4 k s.1 s.2.1 s.2.2.1 s.2.2.2 = some r10 ∧ St 88 a w κ [(1, .slice A_x1 x1.length c_x1), (2, .slice A_x2 x2.length c_x2), (3, .slice A_x3 x3.length c_x3), (4, .bool x4), (5, pp b_2), (11, .slice A_5 s.1.length (((x0.ops.length : Nat) : Int).toNat)), (12, vi s.2.1), (13, vi s.2.2.1), (14, vi s.2.2.2)] (pt b_2 (blk (Tapi_Trace.obj x0 A_x0ops c_x0ops A_x0blocks c_x0blocks) 25) :: rowp A_5 (((x0.ops.length : Nat) : Int).toNat) 34 1 (eI .u64) s.1 :: S)) k ((List.replicate ((x0.ops.length : Nat) : Int).toNat 0 : List Int), 0, 0, 0) ⟨hl10, hs.go [1, 2, 3, 4, 5, 11, 12, 13, 14] [1, 0] 2 (by kernel_rfl) (by kernel_rfl) (by kernel_rfl)⟩ (fun s a w h => by obtain ⟨h1, _⟩ := h; simp [visorref29_Play.l1] at h1) (fun k KL10 ih s a w h => ?_)
 obtain ⟨q_11, q_12, q_13, q_14⟩ := s
 obtain ⟨hm, hs⟩ := h
 try dsimp only at hm hs
 rw [visorref29_Play.l1] at hm
 refine Vk.seq fun K15 hK15 => ?_
 refine qsr fun K16 hK16 => ?_
 refine qpu 2 hs fun a hs => ?_
 refine qld 0 (C.slc A_x0ops x0.ops.length c_x0ops) hs rfl fun a hs => ?_
 refine qpk 2 [1, 2, 3, 4, 5, 11, 12, 13, 14, 25] hs fun a hs => hK16 _ _ ?_
 clear hK16
 refine qcs (decide (q_14 < ((x0.ops.length : Nat) : Int))) hs (fun hb => ?_) fun hb => ?_
 ·replace hm := bif_t hm hb
  refine wp_skip ?_
  refine hK15 _ _ ?_
  clear hK15
  refine Vk.seq fun K17 hK17 => ?_
  have hj17 : ∀ (p_89 : List Int) (p_90 : Int) (p_91 : Int), visorref29_Play.j3 k (visorref29_Play.l1 x0 x1 x2 x3 x4 k) q_14 p_89 p_90 p_91 = some r10 → ∀ (a : Act) (w : World), St 88 a w κ [(1, .slice A_x1 x1.length c_x1), (2, .slice A_x2 x2.length c_x2), (3, .slice A_x3 x3.length c_x3), (4, .bool x4), (5, pp b_2), (11, .slice A_5 p_89.length (((x0.ops.length : Nat) : Int).toNat)), (12, vi p_90), (13, vi p_91), (14, vi q_14)] (pt b_2 (blk (Tapi_Trace.obj x0 A_x0ops c_x0ops A_x0blocks c_x0blocks) 25) :: rowp A_5 (((x0.ops.length : Nat) : Int).toNat) 34 1 (eI .u64) p_89 :: S) → K17 a w := by
   intro p_89 p_90 p_91 hm a w hs
   unfold visorref29_Play.j3 at hm
   refine hK17 _ _ ?_
   refine Vk.region ?_
   refine qpk 3 [1, 2, 3, 4, 5, 11, 12, 13, 14] hs fun a hs => ?_
   refine ih (p_89, p_90, p_91, (IntKind.i64.wrap (q_14 + 1))) _ _ ⟨hm, hs.go [1, 2, 3, 4, 5, 11, 12, 13, 14] [0, 1] 2 (by kernel_rfl) (by kernel_rfl) (by kernel_rfl)⟩
  refine wp_block ?_
  refine qsr fun K18 hK18 => ?_
  refine qpu 1 hs fun a hs => ?_
  refine qld 0 (C.slc A_x0ops x0.ops.length c_x0ops) hs rfl fun a hs => ?_
  refine qpu 1 hs fun a hs => ?_
  obtain ⟨h_19, hm⟩ := ite_t hm
  obtain ⟨e_22, h_20, hm⟩ := bind_t hm
  obtain ⟨b_23, o_24, hA_25, h_21⟩ := Sl.elem hx_x0ops h_20
  refine qva (.pointer (some ⟨b_23, o_24 + q_14.toNat * 6, none⟩)) (op := (.indexAddr 22 (.tmp 29) (.tmp 30))) hs (fun o ho => run_idxSlc (k := .i64) ho (cap := c_x0ops) (len := x0.ops.length) ((congrArg (fun A => Value.slice A (x0.ops.length) (c_x0ops)) hA_25) ▸ (by kernel_rfl)) (by kernel_rfl) (by kernel_rfl) (idx_ok h_19 h_20) _) fun a hs => ?_
  refine qva (.agg (vals [ci e_22.kind, ci e_22.dom, ci e_22.a, ci e_22.b, ci e_22.d, cw e_22.c])) (op := (.load 80 (.tmp 31))) hs (fun o ho => run_loadN (cs := [ci e_22.kind, ci e_22.dom, ci e_22.a, ci e_22.b, ci e_22.d, cw e_22.c]) ho (by kernel_rfl) (by kernel_rfl) rfl h_21 _ hs.own.drop.drop) fun a hs => ?_
  refine qal 80 [ci 0, ci 0, ci 0, ci 0, ci 0, cw 0] 15 hs fun b_26 w a hs => ?_
  refine qsa 0 [ci e_22.kind, ci e_22.dom, ci e_22.a, ci e_22.b, ci e_22.d, cw e_22.c] hs rfl fun a w hs => ?_
  refine qpk 0 [1, 2, 3, 4, 5, 11, 12, 13, 14, 15] hs fun a hs => hK18 _ _ ?_
  clear hK18
  refine qse 1 [(1, .slice A_x1 x1.length c_x1), (2, .slice A_x2 x2.length c_x2), (3, .slice A_x3 x3.length c_x3), (4, .bool x4), (5, pp b_2), (11, .slice A_5 q_11.length (((x0.ops.length : Nat) : Int).toNat)), (12, vi q_12), (13, vi q_13), (14, vi q_14), (15, pp b_26), (16, vw 0)] hs fun a hs => ?_
  refine Vk.seq fun K28 hK28 => ?_
  have hj28 : ∀ (p_38 : Int) (p_39 : Int), visorref29_Play.j1 k (visorref29_Play.l1 x0 x1 x2 x3 x4 k) x1 x2 x4 q_11 q_13 q_14 e_22 p_38 p_39 = some r10 → ∀ (a : Act) (w : World), St 88 a w κ [(1, .slice A_x1 x1.length c_x1), (2, .slice A_x2 x2.length c_x2), (3, .slice A_x3 x3.length c_x3), (4, .bool x4), (5, pp b_2), (11, .slice A_5 q_11.length (((x0.ops.length : Nat) : Int).toNat)), (12, vi p_38), (13, vi q_13), (14, vi q_14), (15, pp b_26), (16, vw p_39)] (pt b_2 (blk (Tapi_Trace.obj x0 A_x0ops c_x0ops A_x0blocks c_x0blocks) 25) :: rowp A_5 (((x0.ops.length : Nat) : Int).toNat) 34 1 (eI .u64) q_11 :: pt b_26 (blk (Tapi_Op.cells e_22) 80) :: S) → K28 a w := by
   intro p_38 p_39 hm a w hs
   unfold visorref29_Play.j1 at hm
   refine hK28 _ _ ?_
   refine Vk.seq fun K40 hK40 => ?_
   have hj40 : ∀ (p_50 : Int), visorref29_Play.j2 k (visorref29_Play.l1 x0 x1 x2 x3 x4 k) x2 x4 q_11 q_13 q_14 e_22 p_38 p_50 = some r10 → ∀ (a : Act) (w : World), St 88 a w κ [(1, .slice A_x1 x1.length c_x1), (2, .slice A_x2 x2.length c_x2), (3, .slice A_x3 x3.length c_x3), (4, .bool x4), (5, pp b_2), (11, .slice A_5 q_11.length (((x0.ops.length : Nat) : Int).toNat)), (12, vi p_38), (13, vi q_13), (14, vi q_14), (15, pp b_26), (16, vw p_50)] (pt b_2 (blk (Tapi_Trace.obj x0 A_x0ops c_x0ops A_x0blocks c_x0blocks) 25) :: rowp A_5 (((x0.ops.length : Nat) : Int).toNat) 34 1 (eI .u64) q_11 :: pt b_26 (blk (Tapi_Op.cells e_22) 80) :: S) → K40 a w := by
    intro p_50 hm a w hs
    unfold visorref29_Play.j2 at hm
    refine hK40 _ _ ?_
    refine Vk.seq fun K51 hK51 => ?_
    obtain ⟨C_52, hC_52⟩ : ∃ X0 : List HP, X0 = (pt b_2 (blk (Tapi_Trace.obj x0 A_x0ops c_x0ops A_x0blocks c_x0blocks) 25) :: rowp A_5 (((x0.ops.length : Nat) : Int).toNat) 34 1 (eI .u64) q_11 :: pt b_26 (blk (Tapi_Op.cells e_22) 80) :: S) := ⟨_, rfl⟩
    refine qdr 18 κ C_52 hs fun w hs hqC_52 => ?_
    have hcz : Ow κ w (pt b_2 (blk (Tapi_Trace.obj x0 A_x0ops c_x0ops A_x0blocks c_x0blocks) 25) :: rowp A_5 (((x0.ops.length : Nat) : Int).toNat) 34 1 (eI .u64) q_11 :: pt b_26 (blk (Tapi_Op.cells e_22) 80) :: S) := hs.own
    have hcl : Ow κ w C_52 := by rw [hC_52]; exact hcz
    refine qdp (fuel := 10) [0, 1, 3, 4, 7, 8, 11, 12, 15] hs hcl hqC_52 fun a hs => ?_
    refine qdn 2 2 ([ci e_22.kind, ci e_22.dom, ci e_22.a, ci e_22.b, ci e_22.d, cw e_22.c]) hs hcl hqC_52 hC_52 rfl fun a hs => ?_
    refine qdl 5 2 (ci e_22.a) hs hcl hqC_52 hC_52 rfl fun a hs => ?_
    refine qdl 9 2 (ci e_22.b) hs hcl hqC_52 hC_52 rfl fun a hs => ?_
    refine qdl 13 2 (ci e_22.d) hs hcl hqC_52 hC_52 rfl fun a hs => ?_
    obtain ⟨v_55, h_54, hm⟩ := bind_t hm
    refine qdc 6 (visorref29_Word.ok _ _ _ _ h_54 _ _ (pt b_2 (blk (Tapi_Trace.obj x0 A_x0ops c_x0ops A_x0blocks c_x0blocks) 25) :: rowp A_5 (((x0.ops.length : Nat) : Int).toNat) 34 1 (eI .u64) q_11 :: pt b_26 (blk (Tapi_Op.cells e_22) 80) :: S) A_5 (((x0.ops.length : Nat) : Int).toNat) (Sl.lift (fun w ho => (Ow.to (S' := rowp A_5 (((x0.ops.length : Nat) : Int).toNat) 34 1 (eI .u64) q_11 :: S) ho [1] 3 (by kernel_rfl) (by kernel_rfl))) (Ow.rowSl 0 (Ow.to (S' := rowp A_5 (((x0.ops.length : Nat) : Int).toNat) 34 1 (eI .u64) q_11 :: S) hs.own [1] 3 (by kernel_rfl) (by kernel_rfl)) rfl)) hs.own) hs fun w a hs => ?_
    replace hcl := qO hC_52 hs.own
    refine ⟨fun _ => hcl, ?_⟩
    obtain ⟨v_58, h_57, hm⟩ := bind_t hm
    refine qdc 10 (visorref29_Word.ok _ _ _ _ h_57 _ _ (pt b_2 (blk (Tapi_Trace.obj x0 A_x0ops c_x0ops A_x0blocks c_x0blocks) 25) :: rowp A_5 (((x0.ops.length : Nat) : Int).toNat) 34 1 (eI .u64) q_11 :: pt b_26 (blk (Tapi_Op.cells e_22) 80) :: S) A_5 (((x0.ops.length : Nat) : Int).toNat) (Sl.lift (fun w ho => (Ow.to (S' := rowp A_5 (((x0.ops.length : Nat) : Int).toNat) 34 1 (eI .u64) q_11 :: S) ho [1] 3 (by kernel_rfl) (by kernel_rfl))) (Ow.rowSl 0 (Ow.to (S' := rowp A_5 (((x0.ops.length : Nat) : Int).toNat) 34 1 (eI .u64) q_11 :: S) hs.own [1] 3 (by kernel_rfl) (by kernel_rfl)) rfl)) hs.own) hs fun w a hs => ?_
    replace hcl := qO hC_52 hs.own
    refine ⟨fun _ => hcl, ?_⟩
    obtain ⟨v_61, h_60, hm⟩ := bind_t hm
    refine qdc 14 (visorref29_Word.ok _ _ _ _ h_60 _ _ (pt b_2 (blk (Tapi_Trace.obj x0 A_x0ops c_x0ops A_x0blocks c_x0blocks) 25) :: rowp A_5 (((x0.ops.length : Nat) : Int).toNat) 34 1 (eI .u64) q_11 :: pt b_26 (blk (Tapi_Op.cells e_22) 80) :: S) A_5 (((x0.ops.length : Nat) : Int).toNat) (Sl.lift (fun w ho => (Ow.to (S' := rowp A_5 (((x0.ops.length : Nat) : Int).toNat) 34 1 (eI .u64) q_11 :: S) ho [1] 3 (by kernel_rfl) (by kernel_rfl))) (Ow.rowSl 0 (Ow.to (S' := rowp A_5 (((x0.ops.length : Nat) : Int).toNat) 34 1 (eI .u64) q_11 :: S) hs.own [1] 3 (by kernel_rfl) (by kernel_rfl)) rfl)) hs.own) hs fun w a hs => ?_
    replace hcl := qO hC_52 hs.own
    refine ⟨fun _ => hcl, ?_⟩
    obtain ⟨v_64, h_63, hm⟩ := bind_t hm
    refine qdc 16 (visorref17_Eval.ok _ _ _ _ _ _ _ h_63 _ _ (pt b_2 (blk (Tapi_Trace.obj x0 A_x0ops c_x0ops A_x0blocks c_x0blocks) 25) :: rowp A_5 (((x0.ops.length : Nat) : Int).toNat) 34 1 (eI .u64) q_11 :: pt b_26 (blk (Tapi_Op.cells e_22) 80) :: S) hs.own) hs fun w a hs => ?_
    replace hcl := qO hC_52 hs.own
    refine ⟨fun _ => hcl, ?_⟩
    obtain ⟨h_65, hm⟩ := ite_t hm
    obtain ⟨e_68, h_66, hm⟩ := bind_t hm
    obtain ⟨b_69, o_70, hA_71, h_67⟩ := Sl.elem (Ow.rowSl 0 (Ow.to (S' := rowp A_5 (((x0.ops.length : Nat) : Int).toNat) 34 1 (eI .u64) q_11 :: S) hcz [1] 3 (by kernel_rfl) (by kernel_rfl)) rfl) h_66
    refine qdt 17 (.pointer (some ⟨b_69, o_70 + q_14.toNat * 1, none⟩)) (op := (.indexAddr 26 (.tmp 54) (.tmp 55))) hs hcl hqC_52 (fun w hw o ho => by rw [hC_52] at hw; exact run_idxSlc (k := .i64) ho (cap := ((x0.ops.length : Nat) : Int).toNat) (len := q_11.length) ((congrArg (fun A => Value.slice A (q_11.length) (((x0.ops.length : Nat) : Int).toNat)) hA_71) ▸ (by kernel_rfl)) (by kernel_rfl) (by kernel_rfl) (idx_ok h_65 h_66) _) fun a hs => ?_
    refine Vk.dOnly (i := 18) (by kernel_rfl) (Vk.storeRow (T := 34) (ty := 34) (x := (.tmp 71)) (y := (.tmp 70)) (o := o_70) (m := q_14.toNat) v_64 1 hs (by kernel_rfl) (by kernel_rfl) (by kernel_rfl) hA_71 rfl (by kernel_rfl) (by kernel_rfl) rfl (by kernel_rfl) rfl (lt_of_get h_66) fun a w hs => ?_)
    replace hs : St 88 a w κ [(1, .slice A_x1 x1.length c_x1), (2, .slice A_x2 x2.length c_x2), (3, .slice A_x3 x3.length c_x3), (4, .bool x4), (5, pp b_2), (11, .slice A_5 q_11.length (((x0.ops.length : Nat) : Int).toNat)), (12, vi p_38), (13, vi q_13), (14, vi q_14), (15, pp b_26), (16, vw p_50), (54, .slice A_5 q_11.length (((x0.ops.length : Nat) : Int).toNat)), (55, vi q_14), (56, .agg (vals [ci e_22.kind, ci e_22.dom, ci e_22.a, ci e_22.b, ci e_22.d, cw e_22.c])), (57, .slice A_5 q_11.length (((x0.ops.length : Nat) : Int).toNat)), (58, .pointer (some ⟨b_26, 2, none⟩)), (59, vi e_22.a), (60, vw v_55), (61, .slice A_5 q_11.length (((x0.ops.length : Nat) : Int).toNat)), (62, .pointer (some ⟨b_26, 3, none⟩)), (63, vi e_22.b), (64, vw v_58), (65, .slice A_5 q_11.length (((x0.ops.length : Nat) : Int).toNat)), (66, .pointer (some ⟨b_26, 4, none⟩)), (67, vi e_22.d), (68, vw v_61), (69, vw p_50), (70, vw v_64), (71, .pointer (some ⟨b_69, o_70 + q_14.toNat * 1, none⟩))] (pt b_2 (blk (Tapi_Trace.obj x0 A_x0ops c_x0ops A_x0blocks c_x0blocks) 25) :: rowp A_5 (((x0.ops.length : Nat) : Int).toNat) 34 1 (eI .u64) (q_11.set q_14.toNat v_64) :: pt b_26 (blk (Tapi_Op.cells e_22) 80) :: S) := hs.pick [1, 2, 3, 4, 5, 11, 12, 13, 14, 15, 16, 54, 55, 56, 57, 58, 59, 60, 61, 62, 63, 64, 65, 66, 67, 68, 69, 70, 71] (by kernel_rfl)
    replace hs := hs.conv2 (L' := [(1, .slice A_x1 x1.length c_x1), (2, .slice A_x2 x2.length c_x2), (3, .slice A_x3 x3.length c_x3), (4, .bool x4), (5, pp b_2), (11, .slice A_5 ((q_11.set q_14.toNat v_64).length) (((x0.ops.length : Nat) : Int).toNat)), (12, vi p_38), (13, vi q_13), (14, vi q_14), (15, pp b_26), (16, vw p_50), (54, .slice A_5 ((q_11.set q_14.toNat v_64).length) (((x0.ops.length : Nat) : Int).toNat)), (55, vi q_14), (56, .agg (vals [ci e_22.kind, ci e_22.dom, ci e_22.a, ci e_22.b, ci e_22.d, cw e_22.c])), (57, .slice A_5 ((q_11.set q_14.toNat v_64).length) (((x0.ops.length : Nat) : Int).toNat)), (58, .pointer (some ⟨b_26, 2, none⟩)), (59, vi e_22.a), (60, vw v_55), (61, .slice A_5 ((q_11.set q_14.toNat v_64).length) (((x0.ops.length : Nat) : Int).toNat)), (62, .pointer (some ⟨b_26, 3, none⟩)), (63, vi e_22.b), (64, vw v_58), (65, .slice A_5 ((q_11.set q_14.toNat v_64).length) (((x0.ops.length : Nat) : Int).toNat)), (66, .pointer (some ⟨b_26, 4, none⟩)), (67, vi e_22.d), (68, vw v_61), (69, vw p_50), (70, vw v_64), (71, .pointer (some ⟨b_69, o_70 + q_14.toNat * 1, none⟩))]) (S' := pt b_2 (blk (Tapi_Trace.obj x0 A_x0ops c_x0ops A_x0blocks c_x0blocks) 25) :: rowp A_5 (((x0.ops.length : Nat) : Int).toNat) 34 1 (eI .u64) (q_11.set q_14.toNat v_64) :: pt b_26 (blk (Tapi_Op.cells e_22) 80) :: S) (by simp only [List.length_set]) (rfl)
    refine ⟨fun h => absurd h (by decide), ?_⟩
    replace hs := hs.pick [1, 2, 3, 4, 5, 11, 12, 13, 14, 15] (L' := [(1, .slice A_x1 x1.length c_x1), (2, .slice A_x2 x2.length c_x2), (3, .slice A_x3 x3.length c_x3), (4, .bool x4), (5, pp b_2), (11, .slice A_5 ((q_11.set q_14.toNat v_64).length) (((x0.ops.length : Nat) : Int).toNat)), (12, vi p_38), (13, vi q_13), (14, vi q_14), (15, pp b_26)]) (by kernel_rfl)
    refine Vk.dDone (by kernel_rfl) ?_
    refine hK51 _ _ ?_
    clear hK51
    refine qsr fun K72 hK72 => ?_
    refine qpu 1 hs fun a hs => ?_
    refine qld 2 (ci e_22.kind) hs rfl fun a hs => ?_
    refine qpu 2 hs fun a hs => ?_
    refine qsc 75 2 hs fun a hs => ?_
    refine qpe 0 [(1, .slice A_x1 x1.length c_x1), (2, .slice A_x2 x2.length c_x2), (3, .slice A_x3 x3.length c_x3), (4, .bool x4), (5, pp b_2), (11, .slice A_5 ((q_11.set q_14.toNat v_64).length) (((x0.ops.length : Nat) : Int).toNat)), (12, vi p_38), (13, vi q_13), (14, vi q_14), (77, .bool ((e_22.kind == 12) && x4))] hs fun a hs => hK72 _ _ ?_
    clear hK72
    refine qcs ((e_22.kind == 12) && x4) hs (fun hb => ?_) fun hb => ?_
    ·replace hm := bif_t hm hb
     refine qsr fun K74 hK74 => ?_
     refine qpu 4 hs fun a hs => ?_
     obtain ⟨h_75, hm⟩ := ite_t hm
     obtain ⟨e_78, h_76, hm⟩ := bind_t hm
     obtain ⟨b_79, o_80, hA_81, h_77⟩ := Sl.elem hx_x2 h_76
     refine qva (.pointer (some ⟨b_79, o_80 + q_13.toNat * 1, none⟩)) (op := (.indexAddr 26 (.tmp 80) (.tmp 81))) hs (fun o ho => run_idxSlc (k := .i64) ho (cap := c_x2) (len := x2.length) ((congrArg (fun A => Value.slice A (x2.length) (c_x2)) hA_81) ▸ (by kernel_rfl)) (by kernel_rfl) (by kernel_rfl) (idx_ok h_75 h_76) _) fun a hs => ?_
     refine qva (vw e_78) (op := (.load 34 (.tmp 82))) hs (fun o ho => run_load1 (c := cw e_78) ho (by kernel_rfl) (by kernel_rfl) (fun w ho => h_77 w ho 0 _ rfl) _ hs.own.drop.drop.drop) fun a hs => ?_
     obtain ⟨h_82, hm⟩ := ite_t hm
     obtain ⟨e_85, h_83, hm⟩ := bind_t hm
     obtain ⟨b_86, o_87, hA_88, h_84⟩ := Sl.elem (Ow.rowSl 0 (Ow.to (S' := rowp A_5 (((x0.ops.length : Nat) : Int).toNat) 34 1 (eI .u64) (q_11.set q_14.toNat v_64) :: S) hs.own [1] 3 (by kernel_rfl) (by kernel_rfl)) rfl) h_83
     refine qva (.pointer (some ⟨b_86, o_87 + q_14.toNat * 1, none⟩)) (op := (.indexAddr 26 (.tmp 78) (.tmp 79))) hs (fun o ho => run_idxSlc (k := .i64) ho (cap := ((x0.ops.length : Nat) : Int).toNat) (len := (q_11.set q_14.toNat v_64).length) ((congrArg (fun A => Value.slice A ((q_11.set q_14.toNat v_64).length) (((x0.ops.length : Nat) : Int).toNat)) hA_88) ▸ (by kernel_rfl)) (by kernel_rfl) (by kernel_rfl) (idx_ok h_82 h_83) _) fun a hs => ?_
     refine Vk.step (Vk.storeRow (T := 34) (ty := 34) (x := (.tmp 84)) (y := (.tmp 83)) (o := o_87) (m := q_14.toNat) e_78 1 hs (by kernel_rfl) (by kernel_rfl) (by kernel_rfl) hA_88 rfl (by kernel_rfl) (by kernel_rfl) rfl (by kernel_rfl) rfl (lt_of_get h_83) fun a w hs => ?_)
     replace hs : St 88 a w κ [(1, .slice A_x1 x1.length c_x1), (2, .slice A_x2 x2.length c_x2), (3, .slice A_x3 x3.length c_x3), (4, .bool x4), (5, pp b_2), (11, .slice A_5 ((q_11.set q_14.toNat v_64).length) (((x0.ops.length : Nat) : Int).toNat)), (12, vi p_38), (13, vi q_13), (14, vi q_14), (77, .bool ((e_22.kind == 12) && x4)), (78, .slice A_5 ((q_11.set q_14.toNat v_64).length) (((x0.ops.length : Nat) : Int).toNat)), (79, vi q_14), (80, .slice A_x2 x2.length c_x2), (81, vi q_13), (82, .pointer (some ⟨b_79, o_80 + q_13.toNat * 1, none⟩)), (83, vw e_78), (84, .pointer (some ⟨b_86, o_87 + q_14.toNat * 1, none⟩))] (pt b_2 (blk (Tapi_Trace.obj x0 A_x0ops c_x0ops A_x0blocks c_x0blocks) 25) :: rowp A_5 (((x0.ops.length : Nat) : Int).toNat) 34 1 (eI .u64) ((q_11.set q_14.toNat v_64).set q_14.toNat e_78) :: pt b_26 (blk (Tapi_Op.cells e_22) 80) :: S) := hs.pick [1, 2, 3, 4, 5, 11, 12, 13, 14, 77, 78, 79, 80, 81, 82, 83, 84] (by kernel_rfl)
     replace hs := hs.conv2 (L' := [(1, .slice A_x1 x1.length c_x1), (2, .slice A_x2 x2.length c_x2), (3, .slice A_x3 x3.length c_x3), (4, .bool x4), (5, pp b_2), (11, .slice A_5 (((q_11.set q_14.toNat v_64).set q_14.toNat e_78).length) (((x0.ops.length : Nat) : Int).toNat)), (12, vi p_38), (13, vi q_13), (14, vi q_14), (77, .bool ((e_22.kind == 12) && x4)), (78, .slice A_5 (((q_11.set q_14.toNat v_64).set q_14.toNat e_78).length) (((x0.ops.length : Nat) : Int).toNat)), (79, vi q_14), (80, .slice A_x2 x2.length c_x2), (81, vi q_13), (82, .pointer (some ⟨b_79, o_80 + q_13.toNat * 1, none⟩)), (83, vw e_78), (84, .pointer (some ⟨b_86, o_87 + q_14.toNat * 1, none⟩))]) (S' := pt b_2 (blk (Tapi_Trace.obj x0 A_x0ops c_x0ops A_x0blocks c_x0blocks) 25) :: rowp A_5 (((x0.ops.length : Nat) : Int).toNat) 34 1 (eI .u64) ((q_11.set q_14.toNat v_64).set q_14.toNat e_78) :: pt b_26 (blk (Tapi_Op.cells e_22) 80) :: S) (by simp only [List.length_set]) (rfl)
     refine qpk 0 [1, 2, 3, 4, 5, 11, 12, 13, 14] hs fun a hs => hK74 _ _ ?_
     clear hK74
     refine Vk.region ?_
     refine qpe 3 [(1, .slice A_x1 x1.length c_x1), (2, .slice A_x2 x2.length c_x2), (3, .slice A_x3 x3.length c_x3), (4, .bool x4), (5, pp b_2), (11, .slice A_5 (((q_11.set q_14.toNat v_64).set q_14.toNat e_78).length) (((x0.ops.length : Nat) : Int).toNat)), (12, vi p_38), (13, vi (IntKind.i64.wrap (q_13 + 1))), (14, vi q_14)] hs fun a hs => ?_
     exact hj17 ((q_11.set q_14.toNat v_64).set q_14.toNat e_78) p_38 (IntKind.i64.wrap (q_13 + 1)) hm _ _ (hs.go [1, 2, 3, 4, 5, 11, 12, 13, 14] [0, 1] 3 (by kernel_rfl) (by kernel_rfl) (by kernel_rfl))
    ·replace hm := bif_f hm hb
     refine wp_skip ?_
     exact hj17 (q_11.set q_14.toNat v_64) p_38 q_13 hm _ _ (hs.go [1, 2, 3, 4, 5, 11, 12, 13, 14] [0, 1] 3 (by kernel_rfl) (by kernel_rfl) (by kernel_rfl))
   refine qsr fun K41 hK41 => ?_
   refine qpu 1 hs fun a hs => ?_
   refine qld 2 (ci e_22.kind) hs rfl fun a hs => ?_
   refine qpu 2 hs fun a hs => ?_
   refine qsc 45 3 hs fun a hs => ?_
   refine qpk 0 [1, 2, 3, 4, 5, 11, 12, 13, 14, 15, 16, 48] hs fun a hs => hK41 _ _ ?_
   clear hK41
   refine qcs ((e_22.kind == 2) && (!x4)) hs (fun hb => ?_) fun hb => ?_
   ·replace hm := bif_t hm hb
    refine Vk.region ?_
    refine qpu 2 hs fun a hs => ?_
    refine qld 2 (cw e_22.c) hs rfl fun a hs => ?_
    obtain ⟨h_43, hm⟩ := ite_t hm
    obtain ⟨e_46, h_44, hm⟩ := bind_t hm
    obtain ⟨b_47, o_48, hA_49, h_45⟩ := Sl.elem hx_x1 h_44
    refine qva (.pointer (some ⟨b_47, o_48 + e_22.c.toNat * 1, none⟩)) (op := (.indexAddr 26 (.tmp 49) (.tmp 51))) hs (fun o ho => run_idxSlc (k := .u64) ho (cap := c_x1) (len := x1.length) ((congrArg (fun A => Value.slice A (x1.length) (c_x1)) hA_49) ▸ (by kernel_rfl)) (by kernel_rfl) (by kernel_rfl) (idx_ok h_43 h_44) _) fun a hs => ?_
    refine qva (vw e_46) (op := (.load 34 (.tmp 52))) hs (fun o ho => run_load1 (c := cw e_46) ho (by kernel_rfl) (by kernel_rfl) (fun w ho => h_45 w ho 0 _ rfl) _ hs.own.drop.drop.drop) fun a hs => ?_
    refine qpe 1 [(1, .slice A_x1 x1.length c_x1), (2, .slice A_x2 x2.length c_x2), (3, .slice A_x3 x3.length c_x3), (4, .bool x4), (5, pp b_2), (11, .slice A_5 q_11.length (((x0.ops.length : Nat) : Int).toNat)), (12, vi p_38), (13, vi q_13), (14, vi q_14), (15, pp b_26), (16, vw e_46)] hs fun a hs => ?_
    exact hj40 e_46 hm _ _ (hs.go [1, 2, 3, 4, 5, 11, 12, 13, 14, 15, 16] [0, 1, 2] 3 (by kernel_rfl) (by kernel_rfl) (by kernel_rfl))
   ·replace hm := bif_f hm hb
    refine wp_skip ?_
    exact hj40 p_39 hm _ _ (hs.go [1, 2, 3, 4, 5, 11, 12, 13, 14, 15, 16] [0, 1, 2] 3 (by kernel_rfl) (by kernel_rfl) (by kernel_rfl))
  refine qsr fun K29 hK29 => ?_
  refine qpu 1 hs fun a hs => ?_
  refine qld 0 (ci e_22.kind) hs rfl fun a hs => ?_
  refine qpk 1 [1, 2, 3, 4, 5, 11, 12, 13, 14, 15, 16, 35] hs fun a hs => hK29 _ _ ?_
  clear hK29
  refine qcs (e_22.kind == 1) hs (fun hb => ?_) fun hb => ?_
  ·replace hm := bif_t hm hb
   refine qsr fun K30 hK30 => ?_
   refine qpu 2 hs fun a hs => ?_
   obtain ⟨h_31, hm⟩ := ite_t hm
   obtain ⟨e_34, h_32, hm⟩ := bind_t hm
   obtain ⟨b_35, o_36, hA_37, h_33⟩ := Sl.elem hx_x3 h_32
   refine qva (.pointer (some ⟨b_35, o_36 + q_12.toNat * 1, none⟩)) (op := (.indexAddr 26 (.tmp 36) (.tmp 37))) hs (fun o ho => run_idxSlc (k := .i64) ho (cap := c_x3) (len := x3.length) ((congrArg (fun A => Value.slice A (x3.length) (c_x3)) hA_37) ▸ (by kernel_rfl)) (by kernel_rfl) (by kernel_rfl) (idx_ok h_31 h_32) _) fun a hs => ?_
   refine qva (vw e_34) (op := (.load 34 (.tmp 38))) hs (fun o ho => run_load1 (c := cw e_34) ho (by kernel_rfl) (by kernel_rfl) (fun w ho => h_33 w ho 0 _ rfl) _ hs.own.drop.drop.drop) fun a hs => ?_
   refine qpk 1 [1, 2, 3, 4, 5, 11, 12, 13, 14, 15, 16] hs fun a hs => hK30 _ _ ?_
   clear hK30
   refine Vk.region ?_
   refine qpe 3 [(1, .slice A_x1 x1.length c_x1), (2, .slice A_x2 x2.length c_x2), (3, .slice A_x3 x3.length c_x3), (4, .bool x4), (5, pp b_2), (11, .slice A_5 q_11.length (((x0.ops.length : Nat) : Int).toNat)), (12, vi (IntKind.i64.wrap (q_12 + 1))), (13, vi q_13), (14, vi q_14), (15, pp b_26), (16, vw e_34)] hs fun a hs => ?_
   exact hj28 (IntKind.i64.wrap (q_12 + 1)) e_34 hm _ _ (hs.go [1, 2, 3, 4, 5, 11, 12, 13, 14, 15, 16] [1, 2, 0] 3 (by kernel_rfl) (by kernel_rfl) (by kernel_rfl))
  ·replace hm := bif_f hm hb
   refine wp_skip ?_
   exact hj28 q_12 0 hm _ _ (hs.go [1, 2, 3, 4, 5, 11, 12, 13, 14, 15, 16] [1, 2, 0] 3 (by kernel_rfl) (by kernel_rfl) (by kernel_rfl))
 ·replace hm := bif_f hm hb
  refine wp_exit ?_
  exact hx10 q_11 (Option.some.inj hm).symm _ _ (hs.go [11] [1] 2 (by kernel_rfl) (by kernel_rfl) (by kernel_rfl))


def visorref31_Count.l2 (x2 : List Int) (v_33 : List Int) : Nat → Int → Int → Option (Int)
 | 0, _, _ => none
 | k + 1, q_40, q_41 => (bif decide (q_41 ≥ 0) then (if 0 ≤ q_41 then (x2[q_41.toNat]?).bind fun e_48 => (if 0 ≤ e_48 then (v_33[e_48.toNat]?).bind fun e_55 => visorref31_Count.l2 x2 v_33 k (IntKind.i64.wrap ((IntKind.i64.wrap (2 * q_40)) + (IntKind.i64.wrap (Int.tmod e_55 2)))) (IntKind.i64.wrap (q_41 - 1)) else none) else none) else some q_40)
def visorref31_Count.l1 (x0 : Tapi_Trace) (x1 : List Int) (x2 : List Int) (v_9 : Int) : Nat → (List Int) → Int → Option (List Int)
 | 0, _, _ => none
 | k + 1, q_18, q_19 => (if 0 ≤ IntKind.u64.wrap v_9 then (bif decide (q_19 < (shl .i64 1 (IntKind.u64.wrap v_9))) then (visorref31_Tape.m k q_19 v_9).bind fun v_28 => (visorref29_Play.m k x0 x1 [] v_28 false).bind fun v_33 => (visorref31_Count.l2 x2 v_33 k 0 (IntKind.i64.wrap (((x2.length : Nat) : Int) - 1))).bind fun p_59 => (if 0 ≤ p_59 then (q_18[p_59.toNat]?).bind fun e_65 => (if 0 ≤ p_59 then (q_18[p_59.toNat]?).bind fun e_72 => visorref31_Count.l1 x0 x1 x2 v_9 k (q_18.set p_59.toNat (IntKind.i64.wrap (e_65 + 1))) (IntKind.i64.wrap (q_19 + 1)) else none) else none) else some q_18) else none)
abbrev visorref31_Count.R (κ : Ctx) (S : List HP) (x0 : Tapi_Trace) (x1 : List Int) (x2 : List Int) (A_x0ops : Option Addr) (c_x0ops : Nat) (A_x0blocks : Option Addr) (c_x0blocks : Nat) (A_x1 : Option Addr) (c_x1 : Nat) (A_x2 : Option Addr) (c_x2 : Nat) (r : List Int) : Ending → World → Prop := fun e w' => ∃ (A_r0 : Option Addr), ∃ (c_r0 : Nat), e = .returned (.slice A_r0 r.length c_r0) ∧ Ow κ w' (rowp A_r0 c_r0 3 1 (eI .i64) r :: S)
def visorref31_Count.m (k : Nat) (x0 : Tapi_Trace) (x1 : List Int) (x2 : List Int) : Option (List Int) := (visorref18_Tally.m k x0).bind fun v_6 => (if 0 ≤ (1 : Int) ∧ (1 : Int) < 13 then (getI .i64 v_6 1).bind fun v_9 => (if 0 ≤ IntKind.u64.wrap ((x2.length : Nat) : Int) then (if (0 : Int) ≤ (shl .i64 1 (IntKind.u64.wrap ((x2.length : Nat) : Int))) ∧ ((shl .i64 1 (IntKind.u64.wrap ((x2.length : Nat) : Int))) : Int) ≤ (shl .i64 1 (IntKind.u64.wrap ((x2.length : Nat) : Int))) ∧ (8 : Int) * (shl .i64 1 (IntKind.u64.wrap ((x2.length : Nat) : Int))) ≤ 281474976710656 then (visorref31_Count.l1 x0 x1 x2 v_9 k (List.replicate (shl .i64 1 (IntKind.u64.wrap ((x2.length : Nat) : Int))).toNat 0 : List Int) 0).bind fun p_76 => some p_76 else none) else none) else none)

set_option maxRecDepth 100000 in
set_option maxHeartbeats 4000000 in
theorem visorref31_Count.ok (k : Nat) (x0 : Tapi_Trace) (x1 : List Int) (x2 : List Int) (r : List Int) (hm : visorref31_Count.m k x0 x1 x2 = some r) (κ : Ctx) (w : World) (S : List HP) (A_x0ops : Option Addr) (c_x0ops : Nat) (hx_x0ops : Sl κ S A_x0ops c_x0ops 6 Tapi_Op.cells x0.ops) (A_x0blocks : Option Addr) (c_x0blocks : Nat) (hx_x0blocks : Sl κ S A_x0blocks c_x0blocks 3 Tapi_Span.cells x0.blocks) (A_x1 : Option Addr) (c_x1 : Nat) (hx_x1 : Sl κ S A_x1 c_x1 1 (eI .u64) x1) (A_x2 : Option Addr) (c_x2 : Nat) (hx_x2 : Sl κ S A_x2 c_x2 1 (eI .i64) x2) (ho : Ow κ w (S)) :
  Calls Tryz.prog 18 #[.agg (vals [ci x0.n, C.slc A_x0ops x0.ops.length c_x0ops, C.slc A_x0blocks x0.blocks.length c_x0blocks]), .slice A_x1 x1.length c_x1, .slice A_x2 x2.length c_x2] w (visorref31_Count.R κ S x0 x1 x2 A_x0ops c_x0ops A_x0blocks c_x0blocks A_x1 c_x1 A_x2 c_x2 r) := by
 unfold visorref31_Count.m at hm
 generalize hRR : visorref31_Count.R κ S x0 x1 x2 A_x0ops c_x0ops A_x0blocks c_x0blocks A_x1 c_x1 A_x2 c_x2 r = RR
 refine qen [(0, .agg (vals [ci x0.n, C.slc A_x0ops x0.ops.length c_x0ops, C.slc A_x0blocks x0.blocks.length c_x0blocks])), (1, .slice A_x1 x1.length c_x1), (2, .slice A_x2 x2.length c_x2)] Tryz.func18 Tryz.ntmps18 ho fun a hs => ?_
 refine qsr fun K1 hK1 => ?_
 refine qbx 0 25 [ci x0.n, C.slc A_x0ops x0.ops.length c_x0ops, C.slc A_x0blocks x0.blocks.length c_x0blocks] 3 hs fun b_2 w a hs => ?_
 refine qpk 1 [1, 2, 3] hs fun a hs => hK1 _ _ ?_
 clear hK1
 refine qsr fun K3 hK3 => ?_
 refine qln 0 ([ci x0.n, C.slc A_x0ops x0.ops.length c_x0ops, C.slc A_x0blocks x0.blocks.length c_x0blocks]) hs rfl fun a hs => ?_
 obtain ⟨v_6, h_5, hm⟩ := bind_t hm
 refine qcl (visorref18_Tally.ok _ _ _ h_5 _ _ (pt b_2 (blk (Tapi_Trace.obj x0 A_x0ops c_x0ops A_x0blocks c_x0blocks) 25) :: S) A_x0ops c_x0ops hx_x0ops.less A_x0blocks c_x0blocks hx_x0blocks.less hs.own) hs fun w a hs => ?_
 obtain ⟨h_7, hm⟩ := ite_t hm
 obtain ⟨v_9, h_8, hm⟩ := bind_t hm
 refine qva (vi v_9) (op := (.index 57 (.tmp 14) (.const (vi 1)))) hs (fun o ho => run_idxVal (k := .i64) (m := 1) (cs := v_6) (c := ci v_9) ho (by kernel_rfl) (by kernel_rfl) (len := 13) (et := 3) (by kernel_rfl) (by kernel_rfl) (by kernel_rfl) (by kernel_rfl) h_7 (getI_some h_8) _) fun a hs => ?_
 refine qpk 1 [1, 2, 3, 7] hs fun a hs => hK3 _ _ ?_
 clear hK3
 refine qsr fun K10 hK10 => ?_
 refine qpu 3 hs fun a hs => ?_
 obtain ⟨h_11, hm⟩ := ite_t hm
 refine qva (vi (shl .i64 1 (IntKind.u64.wrap ((x2.length : Nat) : Int)))) (op := (.binOp .shl 3 (.const (vi 1)) (.tmp 18) 85)) hs (fun o ho => run_shl (k' := .u64) ho (by kernel_rfl) (by kernel_rfl) h_11 _) fun a hs => ?_
 obtain ⟨h_12, hm⟩ := ite_t hm
 refine Vk.step (Vk.makeOp (x := (.tmp 19)) (y := (.tmp 19)) (kl := .i64) (kc := .i64) (enc := (eI .i64)) (sz := 1) (by_ := 8) (t := 28) (e := 3) (0) (some 20) hs (by kernel_rfl) (by kernel_rfl) (by kernel_rfl) (by kernel_rfl) (by kernel_rfl) (by kernel_rfl) rfl (by decide) h_12 (by decide) fun A_13 w a hs => ?_)
 refine qpk 1 [1, 2, 3, 7, 8] hs fun a hs => hK10 _ _ ?_
 clear hK10
 refine Vk.seq fun K15 hK15 => ?_
 refine qsk 1 [1, 2, 3, 7, 8, 9] hs fun a hs => ?_
 refine wp_block ?_
 obtain ⟨r17, hl17, hm⟩ := bind_t hm
 have hx17 : ∀ (p_76 : List Int), r17 = p_76 → ∀ (a : Act) (w : World), St 60 a w κ [(8, .slice A_13 p_76.length ((shl .i64 1 (IntKind.u64.wrap ((x2.length : Nat) : Int))).toNat))] (rowp A_13 ((shl .i64 1 (IntKind.u64.wrap ((x2.length : Nat) : Int))).toNat) 3 1 (eI .i64) p_76 :: S) → K15 a w := by
  intro p_76 he a w hs
  subst r17
  refine hK15 _ _ ?_
  clear hK15
  refine qse 2 [(6, .slice A_13 p_76.length ((shl .i64 1 (IntKind.u64.wrap ((x2.length : Nat) : Int))).toNat))] hs fun a hs => ?_
  refine wp_ret ?_
  exact qr1 (.slice A_13 p_76.length ((shl .i64 1 (IntKind.u64.wrap ((x2.length : Nat) : Int))).toNat)) hs rfl hRR (by cases hm; exact ⟨A_13, (shl .i64 1 (IntKind.u64.wrap ((x2.length : Nat) : Int))).toNat, rfl, hs.own⟩)
 refine Vk.loopBy (fun k (s : List Int × Int) a w => visorref31_Count.l1 x0 x1 x2 v_9 k s.1 s.2 = some r17 ∧ St 60 a w κ [(1, .slice A_x1 x1.length c_x1), (2, .slice A_x2 x2.length c_x2), (3, pp b_2), (7, vi v_9), (8, .slice A_13 s.1.length ((shl .i64 1 (IntKind.u64.wrap ((x2.length : Nat) : Int))).toNat)), (9, vi s.2)] (pt b_2 (blk (Tapi_Trace.obj x0 A_x0ops c_x0ops A_x0blocks c_x0blocks) 25) :: rowp A_13 ((shl .i64 1 (IntKind.u64.wrap ((x2.length : Nat) : Int))).toNat) 3 1 (eI .i64) s.1 :: S)) k ((List.replicate (shl .i64 1 (IntKind.u64.wrap ((x2.length : Nat) : Int))).toNat 0 : List Int), 0) ⟨hl17, hs.go [1, 2, 3, 7, 8, 9] [1, 0] 2 (by kernel_rfl) (by kernel_rfl) (by kernel_rfl)⟩ (fun s a w h => by obtain ⟨h1, _⟩ := h; simp [visorref31_Count.l1] at h1) (fun k KL17 ih s a w h => ?_)
 obtain ⟨q_18, q_19⟩ := s
 obtain ⟨hm, hs⟩ := h
 try dsimp only at hm hs
 rw [visorref31_Count.l1] at hm
 refine Vk.seq fun K20 hK20 => ?_
 refine qsr fun K21 hK21 => ?_
 refine qpu 3 hs fun a hs => ?_
 obtain ⟨h_22, hm⟩ := ite_t hm
 refine qva (vi (shl .i64 1 (IntKind.u64.wrap v_9))) (op := (.binOp .shl 3 (.const (vi 1)) (.tmp 23) 85)) hs (fun o ho => run_shl (k' := .u64) ho (by kernel_rfl) (by kernel_rfl) h_22 _) fun a hs => ?_
 refine qpk 1 [1, 2, 3, 7, 8, 9, 25] hs fun a hs => hK21 _ _ ?_
 clear hK21
 refine qcs (decide (q_19 < (shl .i64 1 (IntKind.u64.wrap v_9)))) hs (fun hb => ?_) fun hb => ?_
 ·replace hm := bif_t hm hb
  refine wp_skip ?_
  refine hK20 _ _ ?_
  clear hK20
  refine Vk.seq fun K23 hK23 => ?_
  refine wp_block ?_
  refine Vk.seq fun K24 hK24 => ?_
  obtain ⟨C_25, hC_25⟩ := qC hs.own
  refine qdr 7 κ C_25 hs fun w hs hqC_25 => ?_
  have hcl := qO hC_25 hs.own
  refine qdp (fuel := 4) [1, 2, 3] hs hcl hqC_25 fun a hs => ?_
  refine qdn 0 0 ([ci x0.n, C.slc A_x0ops x0.ops.length c_x0ops, C.slc A_x0blocks x0.blocks.length c_x0blocks]) hs hcl hqC_25 hC_25 rfl fun a hs => ?_
  obtain ⟨v_28, h_27, hm⟩ := bind_t hm
  refine Vk.dOnly (i := 4) (by kernel_rfl) (Vk.call (some 32) 21 #[vi q_19, vi v_9] hs (by kernel_rfl) (by kernel_rfl) (by kernel_rfl) ?_)
  refine (visorref31_Tape.ok k q_19 v_9 v_28 h_27 κ w (pt b_2 (blk (Tapi_Trace.obj x0 A_x0ops c_x0ops A_x0blocks c_x0blocks) 25) :: rowp A_13 ((shl .i64 1 (IntKind.u64.wrap ((x2.length : Nat) : Int))).toNat) 3 1 (eI .i64) q_18 :: S) hs.own).mono ?_
  rintro _ w ⟨Ar26x0_29, cr26x0_30, rfl, how⟩
  refine ⟨_, _, _, rfl, how, fun a hs => ?_⟩
  replace hcl := qO hC_25 hs.own.drop
  refine ⟨fun _ => hcl, ?_⟩
  obtain ⟨v_33, h_32, hm⟩ := bind_t hm
  refine Vk.dOnly (i := 5) (by kernel_rfl) (Vk.call (some 33) 38 #[.agg (vals [ci x0.n, C.slc A_x0ops x0.ops.length c_x0ops, C.slc A_x0blocks x0.blocks.length c_x0blocks]), .slice A_x1 x1.length c_x1, .slice none 0 0, .slice Ar26x0_29 v_28.length cr26x0_30, .bool false] hs (by kernel_rfl) (by kernel_rfl) (by kernel_rfl) ?_)
  refine (visorref29_Play.ok k x0 x1 [] v_28 false v_33 h_32 κ w (rowp Ar26x0_29 cr26x0_30 34 1 (eI .u64) v_28 :: pt b_2 (blk (Tapi_Trace.obj x0 A_x0ops c_x0ops A_x0blocks c_x0blocks) 25) :: rowp A_13 ((shl .i64 1 (IntKind.u64.wrap ((x2.length : Nat) : Int))).toNat) 3 1 (eI .i64) q_18 :: S) A_x0ops c_x0ops hx_x0ops.less.less.less A_x0blocks c_x0blocks hx_x0blocks.less.less.less A_x1 c_x1 hx_x1.less.less.less none 0 Sl.nil Ar26x0_29 cr26x0_30 (Sl.lift (fun w ho => (Ow.to (S' := rowp Ar26x0_29 cr26x0_30 34 1 (eI .u64) v_28 :: S) ho [0] 3 (by kernel_rfl) (by kernel_rfl))) (Ow.rowSl 0 (Ow.to (S' := rowp Ar26x0_29 cr26x0_30 34 1 (eI .u64) v_28 :: S) hs.own [0] 3 (by kernel_rfl) (by kernel_rfl)) rfl)) hs.own).mono ?_
  rintro _ w ⟨Ar31x0_34, cr31x0_35, rfl, how⟩
  refine ⟨_, _, _, rfl, how, fun a hs => ?_⟩
  replace hcl := qO hC_25 hs.own.f1.drop.drop
  refine ⟨fun _ => hcl, ?_⟩
  refine qdp (fuel := 0) [6] hs hcl hqC_25 fun a hs => ?_
  replace hs := hs.pick [1, 2, 3, 7, 8, 9, 10] (L' := [(1, .slice A_x1 x1.length c_x1), (2, .slice A_x2 x2.length c_x2), (3, pp b_2), (7, vi v_9), (8, .slice A_13 q_18.length ((shl .i64 1 (IntKind.u64.wrap ((x2.length : Nat) : Int))).toNat)), (9, vi q_19), (10, .slice Ar31x0_34 v_33.length cr31x0_35)]) (by kernel_rfl)
  refine Vk.dDone (by kernel_rfl) ?_
  refine hK24 _ _ ?_
  clear hK24
  refine qsk 1 [1, 2, 3, 7, 8, 9, 10, 11] hs fun a hs => ?_
  refine Vk.seq fun K37 hK37 => ?_
  refine qse 4 [(1, .slice A_x1 x1.length c_x1), (2, .slice A_x2 x2.length c_x2), (3, pp b_2), (7, vi v_9), (8, .slice A_13 q_18.length ((shl .i64 1 (IntKind.u64.wrap ((x2.length : Nat) : Int))).toNat)), (9, vi q_19), (10, .slice Ar31x0_34 v_33.length cr31x0_35), (11, vi 0), (12, vi (IntKind.i64.wrap (((x2.length : Nat) : Int) - 1)))] hs fun a hs => ?_
  refine wp_block ?_
  obtain ⟨r39, hl39, hm⟩ := bind_t hm
  have hx39 : ∀ (p_59 : Int), r39 = p_59 → ∀ (a : Act) (w : World), St 60 a w κ [(1, .slice A_x1 x1.length c_x1), (2, .slice A_x2 x2.length c_x2), (3, pp b_2), (7, vi v_9), (8, .slice A_13 q_18.length ((shl .i64 1 (IntKind.u64.wrap ((x2.length : Nat) : Int))).toNat)), (9, vi q_19), (11, vi p_59)] (pt b_2 (blk (Tapi_Trace.obj x0 A_x0ops c_x0ops A_x0blocks c_x0blocks) 25) :: rowp A_13 ((shl .i64 1 (IntKind.u64.wrap ((x2.length : Nat) : Int))).toNat) 3 1 (eI .i64) q_18 :: S) → K37 a w := by
   intro p_59 he a w hs
   subst r39
   refine hK37 _ _ ?_
   clear hK37
   refine Vk.region ?_
   refine qpu 2 hs fun a hs => ?_
   obtain ⟨h_62, hm⟩ := ite_t hm
   obtain ⟨e_65, h_63, hm⟩ := bind_t hm
   obtain ⟨b_66, o_67, hA_68, h_64⟩ := Sl.elem (Ow.rowSl 0 hs.own.drop rfl) h_63
   refine qva (.pointer (some ⟨b_66, o_67 + p_59.toNat * 1, none⟩)) (op := (.indexAddr 28 (.tmp 53) (.tmp 54))) hs (fun o ho => run_idxSlc (k := .i64) ho (cap := (shl .i64 1 (IntKind.u64.wrap ((x2.length : Nat) : Int))).toNat) (len := q_18.length) ((congrArg (fun A => Value.slice A (q_18.length) ((shl .i64 1 (IntKind.u64.wrap ((x2.length : Nat) : Int))).toNat)) hA_68) ▸ (by kernel_rfl)) (by kernel_rfl) (by kernel_rfl) (idx_ok h_62 h_63) _) fun a hs => ?_
   refine qva (vi e_65) (op := (.load 3 (.tmp 55))) hs (fun o ho => run_load1 (c := ci e_65) ho (by kernel_rfl) (by kernel_rfl) (fun w ho => h_64 w ho 0 _ rfl) _ hs.own.drop) fun a hs => ?_
   refine qpu 1 hs fun a hs => ?_
   obtain ⟨h_69, hm⟩ := ite_t hm
   obtain ⟨e_72, h_70, hm⟩ := bind_t hm
   obtain ⟨b_73, o_74, hA_75, h_71⟩ := Sl.elem (Ow.rowSl 0 hs.own.drop rfl) h_70
   refine qva (.pointer (some ⟨b_73, o_74 + p_59.toNat * 1, none⟩)) (op := (.indexAddr 28 (.tmp 53) (.tmp 54))) hs (fun o ho => run_idxSlc (k := .i64) ho (cap := (shl .i64 1 (IntKind.u64.wrap ((x2.length : Nat) : Int))).toNat) (len := q_18.length) ((congrArg (fun A => Value.slice A (q_18.length) ((shl .i64 1 (IntKind.u64.wrap ((x2.length : Nat) : Int))).toNat)) hA_75) ▸ (by kernel_rfl)) (by kernel_rfl) (by kernel_rfl) (idx_ok h_69 h_70) _) fun a hs => ?_
   refine Vk.step (Vk.storeRow (T := 3) (ty := 3) (x := (.tmp 58)) (y := (.tmp 57)) (o := o_74) (m := p_59.toNat) (IntKind.i64.wrap (e_65 + 1)) 1 hs (by kernel_rfl) (by kernel_rfl) (by kernel_rfl) hA_75 rfl (by kernel_rfl) (by kernel_rfl) rfl (by kernel_rfl) rfl (lt_of_get h_70) fun a w hs => ?_)
   replace hs : St 60 a w κ [(1, .slice A_x1 x1.length c_x1), (2, .slice A_x2 x2.length c_x2), (3, pp b_2), (7, vi v_9), (8, .slice A_13 q_18.length ((shl .i64 1 (IntKind.u64.wrap ((x2.length : Nat) : Int))).toNat)), (9, vi q_19), (11, vi p_59), (53, .slice A_13 q_18.length ((shl .i64 1 (IntKind.u64.wrap ((x2.length : Nat) : Int))).toNat)), (54, vi p_59), (55, .pointer (some ⟨b_66, o_67 + p_59.toNat * 1, none⟩)), (56, vi e_65), (57, vi (IntKind.i64.wrap (e_65 + 1))), (58, .pointer (some ⟨b_73, o_74 + p_59.toNat * 1, none⟩))] (pt b_2 (blk (Tapi_Trace.obj x0 A_x0ops c_x0ops A_x0blocks c_x0blocks) 25) :: rowp A_13 ((shl .i64 1 (IntKind.u64.wrap ((x2.length : Nat) : Int))).toNat) 3 1 (eI .i64) (q_18.set p_59.toNat (IntKind.i64.wrap (e_65 + 1))) :: S) := hs.pick [1, 2, 3, 7, 8, 9, 11, 53, 54, 55, 56, 57, 58] (by kernel_rfl)
   replace hs := hs.conv2 (L' := [(1, .slice A_x1 x1.length c_x1), (2, .slice A_x2 x2.length c_x2), (3, pp b_2), (7, vi v_9), (8, .slice A_13 ((q_18.set p_59.toNat (IntKind.i64.wrap (e_65 + 1))).length) ((shl .i64 1 (IntKind.u64.wrap ((x2.length : Nat) : Int))).toNat)), (9, vi q_19), (11, vi p_59), (53, .slice A_13 ((q_18.set p_59.toNat (IntKind.i64.wrap (e_65 + 1))).length) ((shl .i64 1 (IntKind.u64.wrap ((x2.length : Nat) : Int))).toNat)), (54, vi p_59), (55, .pointer (some ⟨b_66, o_67 + p_59.toNat * 1, none⟩)), (56, vi e_65), (57, vi (IntKind.i64.wrap (e_65 + 1))), (58, .pointer (some ⟨b_73, o_74 + p_59.toNat * 1, none⟩))]) (S' := pt b_2 (blk (Tapi_Trace.obj x0 A_x0ops c_x0ops A_x0blocks c_x0blocks) 25) :: rowp A_13 ((shl .i64 1 (IntKind.u64.wrap ((x2.length : Nat) : Int))).toNat) 3 1 (eI .i64) (q_18.set p_59.toNat (IntKind.i64.wrap (e_65 + 1))) :: S) (by simp only [List.length_set]) (rfl)
   refine qpk 0 [1, 2, 3, 7, 8, 9] hs fun a hs => hK23 _ _ ?_
   clear hK23
   refine Vk.region ?_
   refine qpe 3 [(1, .slice A_x1 x1.length c_x1), (2, .slice A_x2 x2.length c_x2), (3, pp b_2), (7, vi v_9), (8, .slice A_13 ((q_18.set p_59.toNat (IntKind.i64.wrap (e_65 + 1))).length) ((shl .i64 1 (IntKind.u64.wrap ((x2.length : Nat) : Int))).toNat)), (9, vi (IntKind.i64.wrap (q_19 + 1)))] hs fun a hs => ?_
   refine ih ((q_18.set p_59.toNat (IntKind.i64.wrap (e_65 + 1))), (IntKind.i64.wrap (q_19 + 1))) _ _ ⟨hm, hs.go [1, 2, 3, 7, 8, 9] [0, 1] 2 (by kernel_rfl) (by kernel_rfl) (by kernel_rfl)⟩
  refine Vk.loopBy (fun k (s : Int × Int) a w => visorref31_Count.l2 x2 v_33 k s.1 s.2 = some r39 ∧ St 60 a w κ [(1, .slice A_x1 x1.length c_x1), (2, .slice A_x2 x2.length c_x2), (3, pp b_2), (7, vi v_9), (8, .slice A_13 q_18.length ((shl .i64 1 (IntKind.u64.wrap ((x2.length : Nat) : Int))).toNat)), (9, vi q_19), (10, .slice Ar31x0_34 v_33.length cr31x0_35), (11, vi s.1), (12, vi s.2)] (pt b_2 (blk (Tapi_Trace.obj x0 A_x0ops c_x0ops A_x0blocks c_x0blocks) 25) :: rowp A_13 ((shl .i64 1 (IntKind.u64.wrap ((x2.length : Nat) : Int))).toNat) 3 1 (eI .i64) q_18 :: rowp Ar31x0_34 cr31x0_35 34 1 (eI .u64) v_33 :: S)) k (0, (IntKind.i64.wrap (((x2.length : Nat) : Int) - 1))) ⟨hl39, hs.go [1, 2, 3, 7, 8, 9, 10, 11, 12] [2, 3, 0] 4 (by kernel_rfl) (by kernel_rfl) (by kernel_rfl)⟩ (fun s a w h => by obtain ⟨h1, _⟩ := h; simp [visorref31_Count.l2] at h1) (fun k KL39 ih s a w h => ?_)
  obtain ⟨q_40, q_41⟩ := s
  obtain ⟨hm, hs⟩ := h
  try dsimp only at hm hs
  rw [visorref31_Count.l2] at hm
  refine Vk.seq fun K42 hK42 => ?_
  refine qsk 2 [1, 2, 3, 7, 8, 9, 10, 11, 12, 38] hs fun a hs => ?_
  refine qcs (decide (q_41 ≥ 0)) hs (fun hb => ?_) fun hb => ?_
  ·replace hm := bif_t hm hb
   refine wp_skip ?_
   refine hK42 _ _ ?_
   clear hK42
   refine Vk.seq fun K44 hK44 => ?_
   refine wp_block ?_
   refine Vk.region ?_
   refine qpu 5 hs fun a hs => ?_
   obtain ⟨h_45, hm⟩ := ite_t hm
   obtain ⟨e_48, h_46, hm⟩ := bind_t hm
   obtain ⟨b_49, o_50, hA_51, h_47⟩ := Sl.elem hx_x2 h_46
   refine qva (.pointer (some ⟨b_49, o_50 + q_41.toNat * 1, none⟩)) (op := (.indexAddr 28 (.tmp 44) (.tmp 45))) hs (fun o ho => run_idxSlc (k := .i64) ho (cap := c_x2) (len := x2.length) ((congrArg (fun A => Value.slice A (x2.length) (c_x2)) hA_51) ▸ (by kernel_rfl)) (by kernel_rfl) (by kernel_rfl) (idx_ok h_45 h_46) _) fun a hs => ?_
   refine qva (vi e_48) (op := (.load 3 (.tmp 46))) hs (fun o ho => run_load1 (c := ci e_48) ho (by kernel_rfl) (by kernel_rfl) (fun w ho => h_47 w ho 0 _ rfl) _ hs.own.drop.drop.drop) fun a hs => ?_
   obtain ⟨h_52, hm⟩ := ite_t hm
   obtain ⟨e_55, h_53, hm⟩ := bind_t hm
   obtain ⟨b_56, o_57, hA_58, h_54⟩ := Sl.elem (Ow.rowSl 0 hs.own.drop.drop rfl) h_53
   refine qva (.pointer (some ⟨b_56, o_57 + e_48.toNat * 1, none⟩)) (op := (.indexAddr 26 (.tmp 43) (.tmp 47))) hs (fun o ho => run_idxSlc (k := .i64) ho (cap := cr31x0_35) (len := v_33.length) ((congrArg (fun A => Value.slice A (v_33.length) (cr31x0_35)) hA_58) ▸ (by kernel_rfl)) (by kernel_rfl) (by kernel_rfl) (idx_ok h_52 h_53) _) fun a hs => ?_
   refine qva (vw e_55) (op := (.load 34 (.tmp 48))) hs (fun o ho => run_load1 (c := cw e_55) ho (by kernel_rfl) (by kernel_rfl) (fun w ho => h_54 w ho 0 _ rfl) _ hs.own.drop.drop) fun a hs => ?_
   refine qpk 4 [1, 2, 3, 7, 8, 9, 10, 11, 12] hs fun a hs => hK44 _ _ ?_
   clear hK44
   refine Vk.region ?_
   refine qpk 3 [1, 2, 3, 7, 8, 9, 10, 11, 12] hs fun a hs => ?_
   refine ih ((IntKind.i64.wrap ((IntKind.i64.wrap (2 * q_40)) + (IntKind.i64.wrap (Int.tmod e_55 2)))), (IntKind.i64.wrap (q_41 - 1))) _ _ ⟨hm, hs.go [1, 2, 3, 7, 8, 9, 10, 11, 12] [0, 1, 2] 3 (by kernel_rfl) (by kernel_rfl) (by kernel_rfl)⟩
  ·replace hm := bif_f hm hb
   refine wp_exit ?_
   exact hx39 q_40 (Option.some.inj hm).symm _ _ (hs.go [1, 2, 3, 7, 8, 9, 11] [0, 1] 3 (by kernel_rfl) (by kernel_rfl) (by kernel_rfl))
 ·replace hm := bif_f hm hb
  refine wp_exit ?_
  exact hx17 q_18 (Option.some.inj hm).symm _ _ (hs.go [8] [1] 2 (by kernel_rfl) (by kernel_rfl) (by kernel_rfl))


def visorref29_Same.l1 (x0 : List Int) (x1 : List Int) : Nat → Int → Option (Sum (Bool) (Unit))
 | 0, _ => none
 | k + 1, q_8 => (bif decide (q_8 < ((x0.length : Nat) : Int)) then (if 0 ≤ q_8 then (x0[q_8.toNat]?).bind fun e_17 => (if 0 ≤ q_8 then (x1[q_8.toNat]?).bind fun e_24 => (bif e_17 != e_24 then some (.inl false) else visorref29_Same.l1 x0 x1 k (IntKind.i64.wrap (q_8 + 1))) else none) else none) else some (.inr ()))
abbrev visorref29_Same.R (κ : Ctx) (S : List HP) (x0 : List Int) (x1 : List Int) (A_x0 : Option Addr) (c_x0 : Nat) (A_x1 : Option Addr) (c_x1 : Nat) (r : Bool) : Ending → World → Prop := fun e w' => e = .returned (.bool r) ∧ Ow κ w' (S)
def visorref29_Same.m (k : Nat) (x0 : List Int) (x1 : List Int) : Option Bool := (bif ((x0.length : Nat) : Int) != ((x1.length : Nat) : Int) then some false else (visorref29_Same.l1 x0 x1 k 0).bind fun x => match x with | .inl v => some v | .inr () => some true)

set_option maxRecDepth 100000 in
set_option maxHeartbeats 4000000 in
theorem visorref29_Same.ok (k : Nat) (x0 : List Int) (x1 : List Int) (r : Bool) (hm : visorref29_Same.m k x0 x1 = some r) (κ : Ctx) (w : World) (S : List HP) (A_x0 : Option Addr) (c_x0 : Nat) (hx_x0 : Sl κ S A_x0 c_x0 1 (eI .u64) x0) (A_x1 : Option Addr) (c_x1 : Nat) (hx_x1 : Sl κ S A_x1 c_x1 1 (eI .u64) x1) (ho : Ow κ w (S)) :
  Calls Tryz.prog 20 #[.slice A_x0 x0.length c_x0, .slice A_x1 x1.length c_x1] w (visorref29_Same.R κ S x0 x1 A_x0 c_x0 A_x1 c_x1 r) := by
 unfold visorref29_Same.m at hm
 generalize hRR : visorref29_Same.R κ S x0 x1 A_x0 c_x0 A_x1 c_x1 r = RR
 refine qen [(0, .slice A_x0 x0.length c_x0), (1, .slice A_x1 x1.length c_x1)] Tryz.func20 Tryz.ntmps20 ho fun a hs => ?_
 refine qsk 1 [0, 1] hs fun a hs => ?_
 refine Vk.seq fun K2 hK2 => ?_
 refine qsk 5 [0, 1, 10] hs fun a hs => ?_
 refine qcs (((x0.length : Nat) : Int) != ((x1.length : Nat) : Int)) hs (fun hb => ?_) fun hb => ?_
 ·replace hm := bif_t hm hb
  refine qse 1 [(4, .bool false)] hs fun a hs => ?_
  refine wp_ret ?_
  exact qr1 (.bool false) hs rfl hRR (by cases hm; exact ⟨rfl, hs.own⟩)
 ·replace hm := bif_f hm hb
  refine wp_skip ?_
  refine hK2 _ _ ?_
  clear hK2
  refine Vk.seq fun K5 hK5 => ?_
  refine qsk 1 [0, 1, 5] hs fun a hs => ?_
  refine wp_block ?_
  obtain ⟨r7, hl7, hm⟩ := bind_t hm
  have hx7 : r7 = Sum.inr () → ∀ (a : Act) (w : World), St 26 a w κ [] (S) → K5 a w := by
   intro he a w hs
   subst r7
   refine hK5 _ _ ?_
   clear hK5
   refine qse 1 [(4, .bool true)] hs fun a hs => ?_
   refine wp_ret ?_
   exact qr1 (.bool true) hs rfl hRR (by cases hm; exact ⟨rfl, hs.own⟩)
  have hret7 : ∀ v, r7 = Sum.inl v → v = r := by intro v he; subst r7; exact Option.some.inj hm
  refine Vk.loopBy (fun k (s : Int) a w => visorref29_Same.l1 x0 x1 k s = some r7 ∧ St 26 a w κ [(0, .slice A_x0 x0.length c_x0), (1, .slice A_x1 x1.length c_x1), (5, vi s)] (S)) k 0 ⟨hl7, hs.go [0, 1, 5] [] 0 (by kernel_rfl) (by kernel_rfl) (by kernel_rfl)⟩ (fun s a w h => by obtain ⟨h1, _⟩ := h; simp [visorref29_Same.l1] at h1) (fun k KL7 ih q_8 a w h => ?_)
  obtain ⟨hm, hs⟩ := h
  try dsimp only at hm hs
  rw [visorref29_Same.l1] at hm
  refine Vk.seq fun K9 hK9 => ?_
  refine qsk 4 [0, 1, 5, 14] hs fun a hs => ?_
  refine qcs (decide (q_8 < ((x0.length : Nat) : Int))) hs (fun hb => ?_) fun hb => ?_
  ·replace hm := bif_t hm hb
   refine wp_skip ?_
   refine hK9 _ _ ?_
   clear hK9
   refine Vk.seq fun K11 hK11 => ?_
   refine wp_block ?_
   refine Vk.seq fun K12 hK12 => ?_
   obtain ⟨C_13, hC_13⟩ := qC hs.own
   refine qdr 9 κ C_13 hs fun w hs hqC_13 => ?_
   have hcl := qO hC_13 hs.own
   refine qdp (fuel := 5) [0, 1, 4, 5] hs hcl hqC_13 fun a hs => ?_
   obtain ⟨h_14, hm⟩ := ite_t hm
   obtain ⟨e_17, h_15, hm⟩ := bind_t hm
   obtain ⟨b_18, o_19, hA_20, h_16⟩ := Sl.elem hx_x0 h_15
   refine qdt 2 (.pointer (some ⟨b_18, o_19 + q_8.toNat * 1, none⟩)) (op := (.indexAddr 26 (.tmp 17) (.tmp 18))) hs hcl hqC_13 (fun w hw o ho => by rw [hC_13] at hw; exact run_idxSlc (k := .i64) ho (cap := c_x0) (len := x0.length) ((congrArg (fun A => Value.slice A (x0.length) (c_x0)) hA_20) ▸ (by kernel_rfl)) (by kernel_rfl) (by kernel_rfl) (idx_ok h_14 h_15) _) fun a hs => ?_
   refine qdt 3 (vw e_17) (op := (.load 34 (.tmp 19))) hs hcl hqC_13 (fun w hw o ho => by rw [hC_13] at hw; exact run_load1 (c := cw e_17) ho (by kernel_rfl) (by kernel_rfl) (fun w ho => h_16 w ho 0 _ rfl) _ hw) fun a hs => ?_
   obtain ⟨h_21, hm⟩ := ite_t hm
   obtain ⟨e_24, h_22, hm⟩ := bind_t hm
   obtain ⟨b_25, o_26, hA_27, h_23⟩ := Sl.elem hx_x1 h_22
   refine qdt 6 (.pointer (some ⟨b_25, o_26 + q_8.toNat * 1, none⟩)) (op := (.indexAddr 26 (.tmp 21) (.tmp 22))) hs hcl hqC_13 (fun w hw o ho => by rw [hC_13] at hw; exact run_idxSlc (k := .i64) ho (cap := c_x1) (len := x1.length) ((congrArg (fun A => Value.slice A (x1.length) (c_x1)) hA_27) ▸ (by kernel_rfl)) (by kernel_rfl) (by kernel_rfl) (idx_ok h_21 h_22) _) fun a hs => ?_
   refine qdt 7 (vw e_24) (op := (.load 34 (.tmp 23))) hs hcl hqC_13 (fun w hw o ho => by rw [hC_13] at hw; exact run_load1 (c := cw e_24) ho (by kernel_rfl) (by kernel_rfl) (fun w ho => h_23 w ho 0 _ rfl) _ hw) fun a hs => ?_
   refine qdp (fuel := 0) [8] hs hcl hqC_13 fun a hs => ?_
   replace hs := hs.pick [0, 1, 5, 25] (L' := [(0, .slice A_x0 x0.length c_x0), (1, .slice A_x1 x1.length c_x1), (5, vi q_8), (25, .bool (e_17 != e_24))]) (by kernel_rfl)
   refine Vk.dDone (by kernel_rfl) ?_
   refine hK12 _ _ ?_
   clear hK12
   refine qcs (e_17 != e_24) hs (fun hb => ?_) fun hb => ?_
   ·replace hm := bif_t hm hb
    refine qse 1 [(4, .bool false)] hs fun a hs => ?_
    refine wp_ret ?_
    exact Vk.ret1 (P := Tryz.prog) (fn := Tryz.f20) (R := RR) (.bool false) hs rfl (by kernel_rfl) (by obtain rfl := hret7 _ ((Option.some.inj hm).symm); subst hRR; exact ⟨rfl, hs.own⟩)
   ·replace hm := bif_f hm hb
    refine wp_skip ?_
    refine hK11 _ _ ?_
    clear hK11
    refine Vk.region ?_
    refine qpk 3 [0, 1, 5] hs fun a hs => ?_
    refine ih (IntKind.i64.wrap (q_8 + 1)) _ _ ⟨hm, hs.go [0, 1, 5] [] 0 (by kernel_rfl) (by kernel_rfl) (by kernel_rfl)⟩
  ·replace hm := bif_f hm hb
   refine wp_exit ?_
   exact hx7 (Option.some.inj hm).symm _ _ (hs.go [] [] 0 (by kernel_rfl) (by kernel_rfl) (by kernel_rfl))


def count_Even.j1 (k : Nat) (p_39 : Int) : Option (Bool) := some (!(decide (p_39 ≥ 0)))
def count_Even.l1 (x0 : List Int) : Nat → Int → Option (Sum (Int) (Unit))
 | 0, _ => none
 | k + 1, q_12 => (bif decide (q_12 < ((x0.length : Nat) : Int)) then (if 0 ≤ q_12 then (x0[q_12.toNat]?).bind fun e_21 => (if 0 ≤ (0 : Int) then (x0[0]?).bind fun e_31 => (bif e_21 != e_31 then some (.inl q_12) else count_Even.l1 x0 k (IntKind.i64.wrap (q_12 + 1))) else none) else none) else some (.inr ()))
abbrev count_Even.R (κ : Ctx) (S : List HP) (x0 : List Int) (A_x0 : Option Addr) (c_x0 : Nat) (r : Bool) : Ending → World → Prop := fun e w' => e = .returned (.bool r) ∧ Ow κ w' (S)
def count_Even.m (k : Nat) (x0 : List Int) : Option Bool := (count_Even.l1 x0 k 0).bind fun x => match x with | .inl p_36 => count_Even.j1 k p_36 | .inr () => count_Even.j1 k (-1)

set_option maxRecDepth 100000 in
set_option maxHeartbeats 4000000 in
theorem count_Even.ok (k : Nat) (x0 : List Int) (r : Bool) (hm : count_Even.m k x0 = some r) (κ : Ctx) (w : World) (S : List HP) (A_x0 : Option Addr) (c_x0 : Nat) (hx_x0 : Sl κ S A_x0 c_x0 1 (eI .i64) x0) (ho : Ow κ w (S)) :
  Calls Tryz.prog 22 #[.slice A_x0 x0.length c_x0] w (count_Even.R κ S x0 A_x0 c_x0 r) := by
 unfold count_Even.m at hm
 generalize hRR : count_Even.R κ S x0 A_x0 c_x0 r = RR
 refine qen [(0, .slice A_x0 x0.length c_x0)] Tryz.func22 Tryz.ntmps22 ho fun a hs => ?_
 refine qsr fun K1 hK1 => ?_
 refine qbx 0 28 [C.slc A_x0 x0.length c_x0] 1 hs fun b_2 w a hs => ?_
 refine qpe 1 [(1, pp b_2)] hs fun a hs => hK1 _ _ ?_
 clear hK1
 refine qsr fun K3 hK3 => ?_
 refine qld 0 (C.slc A_x0 x0.length c_x0) hs rfl fun a hs => ?_
 refine qpu 1 hs fun a hs => ?_
 refine Vk.step (Vk.call (some 5) 39 #[.slice A_x0 x0.length c_x0, .func (.func 40) #[] #[pp b_2]] hs (by kernel_rfl) (by kernel_rfl) (by kernel_rfl) ?_)
 refine Vk.enterI [(0, .slice A_x0 x0.length c_x0), (1, .func (.func 40) #[] #[pp b_2])] Tryz.func39 rfl Tryz.ntmps39 (by kernel_rfl) (Nat.le_of_ble_eq_true (by kernel_rfl)) hs.own fun KR4 hKR4 hKP4 a hs => ?_
 refine qsk 1 [0, 1] hs fun a hs => ?_
 refine qsr fun K6 hK6 => ?_
 refine qpu 2 hs fun a hs => ?_
 refine Vk.step (Vk.call (some 7) 70 #[.slice A_x0 x0.length c_x0, .func (.func 40) #[] #[pp b_2]] hs (by kernel_rfl) (by kernel_rfl) (by kernel_rfl) ?_)
 refine Vk.enterI [(0, .slice A_x0 x0.length c_x0), (1, .func (.func 40) #[] #[pp b_2])] Tryz.func70 rfl Tryz.ntmps70 (by kernel_rfl) (Nat.le_of_ble_eq_true (by kernel_rfl)) hs.own fun KR7 hKR7 hKP7 a hs => ?_
 have hj7 : ∀ (p_39 : Int), count_Even.j1 k p_39 = some r → ∀ (a : Act) (w : World), St 19 a w κ [(4, vi p_39)] (pt b_2 (blk [C.slc A_x0 x0.length c_x0] 28) :: S) → KR7 a w := by
  intro p_39 hm a w hs
  unfold count_Even.j1 at hm
  refine hKR7 _ _ ?_
  refine Vk.ret1 (P := Tryz.prog) (fn := Tryz.f70) (vi p_39) hs rfl (by kernel_rfl) ⟨_, _, _, rfl, hs.own, fun a hs => ?_⟩
  refine qpk 2 [4] hs fun a hs => hK6 _ _ ?_
  clear hK6
  refine wp_ret ?_
  refine hKP4 _ _ ?_
  refine hKR4 _ _ ?_
  refine Vk.ret1 (P := Tryz.prog) (fn := Tryz.f39) (.bool (decide (p_39 ≥ 0))) hs rfl (by kernel_rfl) ⟨_, _, _, rfl, hs.own, fun a hs => ?_⟩
  refine qpk 2 [2] hs fun a hs => hK3 _ _ ?_
  clear hK3
  refine wp_ret ?_
  exact qr1 (.bool (!(decide (p_39 ≥ 0)))) hs rfl hRR (by cases hm; exact ⟨rfl, hs.own.drop⟩)
 refine qsk 1 [0, 1] hs fun a hs => ?_
 refine Vk.seq fun K9 hK9 => ?_
 refine qse 3 [(0, .slice A_x0 x0.length c_x0), (1, .func (.func 40) #[] #[pp b_2]), (7, vi ((x0.length : Nat) : Int)), (8, vi 0)] hs fun a hs => ?_
 refine wp_block ?_
 obtain ⟨r11, hl11, hm⟩ := bind_t hm
 have hx11_0 : ∀ (p_36 : Int), r11 = Sum.inl p_36 → ∀ (a : Act) (w : World), St 19 a w κ [(4, vi p_36)] (pt b_2 (blk [C.slc A_x0 x0.length c_x0] 28) :: S) → KR7 a w := by
  intro p_36 he a w hs
  subst r11
  exact hj7 p_36 hm _ _ (hs.go [4] [0] 1 (by kernel_rfl) (by kernel_rfl) (by kernel_rfl))
 have hx11_1 : r11 = Sum.inr () → ∀ (a : Act) (w : World), St 19 a w κ [] (pt b_2 (blk [C.slc A_x0 x0.length c_x0] 28) :: S) → K9 a w := by
  intro he a w hs
  subst r11
  refine hK9 _ _ ?_
  clear hK9
  refine qse 1 [(4, vi (-1))] hs fun a hs => ?_
  refine wp_ret ?_
  refine hKP7 _ _ ?_
  exact hj7 (-1) hm _ _ (hs.go [4] [0] 1 (by kernel_rfl) (by kernel_rfl) (by kernel_rfl))
 refine Vk.loopBy (fun k (s : Int) a w => count_Even.l1 x0 k s = some r11 ∧ St 19 a w κ [(0, .slice A_x0 x0.length c_x0), (1, .func (.func 40) #[] #[pp b_2]), (7, vi ((x0.length : Nat) : Int)), (8, vi s)] (pt b_2 (blk [C.slc A_x0 x0.length c_x0] 28) :: S)) k 0 ⟨hl11, hs.go [0, 1, 7, 8] [0] 1 (by kernel_rfl) (by kernel_rfl) (by kernel_rfl)⟩ (fun s a w h => by obtain ⟨h1, _⟩ := h; simp [count_Even.l1] at h1) (fun k KL11 ih q_12 a w h => ?_)
 obtain ⟨hm, hs⟩ := h
 try dsimp only at hm hs
 rw [count_Even.l1] at hm
 refine qsk 1 [0, 1, 7, 8, 9] hs fun a hs => ?_
 refine Vk.seq fun K14 hK14 => ?_
 refine qcs (decide (q_12 < ((x0.length : Nat) : Int))) hs (fun hb => ?_) fun hb => ?_
 ·replace hm := bif_t hm hb
  refine wp_skip ?_
  refine hK14 _ _ ?_
  clear hK14
  refine Vk.seq fun K15 hK15 => ?_
  refine wp_block ?_
  refine qsk 2 [0, 1, 5, 7, 8] hs fun a hs => ?_
  refine qsr fun K17 hK17 => ?_
  refine qpu 3 hs fun a hs => ?_
  obtain ⟨h_18, hm⟩ := ite_t hm
  obtain ⟨e_21, h_19, hm⟩ := bind_t hm
  obtain ⟨b_22, o_23, hA_24, h_20⟩ := Sl.elem hx_x0 h_19
  refine qva (.pointer (some ⟨b_22, o_23 + q_12.toNat * 1, none⟩)) (op := (.indexAddr 28 (.tmp 12) (.tmp 13))) hs (fun o ho => run_idxSlc (k := .i64) ho (cap := c_x0) (len := x0.length) ((congrArg (fun A => Value.slice A (x0.length) (c_x0)) hA_24) ▸ (by kernel_rfl)) (by kernel_rfl) (by kernel_rfl) (idx_ok h_18 h_19) _) fun a hs => ?_
  refine qva (vi e_21) (op := (.load 3 (.tmp 14))) hs (fun o ho => run_load1 (c := ci e_21) ho (by kernel_rfl) (by kernel_rfl) (fun w ho => h_20 w ho 0 _ rfl) _ hs.own.drop) fun a hs => ?_
  refine Vk.step (Vk.call (some 16) 40 #[vi e_21, pp b_2] hs (by kernel_rfl) (by kernel_rfl) (by kernel_rfl) ?_)
  refine Vk.enterI [(0, vi e_21), (1, pp b_2)] Tryz.func40 rfl Tryz.ntmps40 (by kernel_rfl) (Nat.le_of_ble_eq_true (by kernel_rfl)) hs.own fun KR25 hKR25 hKP25 a hs => ?_
  refine qse 1 [(0, vi e_21), (1, pp b_2)] hs fun a hs => ?_
  refine qsr fun K27 hK27 => ?_
  refine qpu 1 hs fun a hs => ?_
  refine qld 0 (C.slc A_x0 x0.length c_x0) hs rfl fun a hs => ?_
  obtain ⟨h_28, hm⟩ := ite_t hm
  obtain ⟨e_31, h_29, hm⟩ := bind_t hm
  obtain ⟨b_32, o_33, hA_34, h_30⟩ := Sl.elem hx_x0 h_29
  refine qva (.pointer (some ⟨b_32, o_33 + 0 * 1, none⟩)) (op := (.indexAddr 28 (.tmp 5) (.const (vi 0)))) hs (fun o ho => run_idxSlc (k := .i64) ho (cap := c_x0) (len := x0.length) ((congrArg (fun A => Value.slice A (x0.length) (c_x0)) hA_34) ▸ (by kernel_rfl)) (by kernel_rfl) (by kernel_rfl) (idx_ok h_28 h_29) _) fun a hs => ?_
  refine qva (vi e_31) (op := (.load 3 (.tmp 6))) hs (fun o ho => run_load1 (c := ci e_31) ho (by kernel_rfl) (by kernel_rfl) (fun w ho => h_30 w ho 0 _ rfl) _ hs.own.drop) fun a hs => ?_
  refine qpk 2 [3] hs fun a hs => hK27 _ _ ?_
  clear hK27
  refine wp_ret ?_
  refine hKP25 _ _ ?_
  refine hKR25 _ _ ?_
  refine Vk.ret1 (P := Tryz.prog) (fn := Tryz.f40) (.bool (e_21 != e_31)) hs rfl (by kernel_rfl) ⟨_, _, _, rfl, hs.own, fun a hs => ?_⟩
  refine qpk 0 [0, 1, 5, 7, 8, 16] hs fun a hs => hK17 _ _ ?_
  clear hK17
  refine qcs (e_21 != e_31) hs (fun hb => ?_) fun hb => ?_
  ·replace hm := bif_t hm hb
   refine qse 2 [(4, vi q_12)] hs fun a hs => ?_
   refine wp_ret ?_
   refine hKP7 _ _ ?_
   exact hx11_0 q_12 (Option.some.inj hm).symm _ _ (hs.go [4] [0] 1 (by kernel_rfl) (by kernel_rfl) (by kernel_rfl))
  ·replace hm := bif_f hm hb
   refine wp_skip ?_
   refine hK15 _ _ ?_
   clear hK15
   refine Vk.region ?_
   refine qpk 2 [0, 1, 7, 8] hs fun a hs => ?_
   refine ih (IntKind.i64.wrap (q_12 + 1)) _ _ ⟨hm, hs.go [0, 1, 7, 8] [0] 1 (by kernel_rfl) (by kernel_rfl) (by kernel_rfl)⟩
 ·replace hm := bif_f hm hb
  refine wp_exit ?_
  exact hx11_1 (Option.some.inj hm).symm _ _ (hs.go [] [0] 1 (by kernel_rfl) (by kernel_rfl) (by kernel_rfl))


def visorlaw31_CountTells.j3 (k : Nat) (p_90 : Bool) : Option (Bool) := some p_90
def visorlaw31_CountTells.l1 (x2 : List Int) : Nat → Bool → Int → Option (Bool)
 | 0, _, _ => none
 | k + 1, q_58, q_59 => (bif decide (q_59 < ((x2.length : Nat) : Int)) then (bif q_58 then (if 0 ≤ q_59 then (x2[q_59.toNat]?).bind fun e_67 => (if 0 ≤ (0 : Int) then (x2[0]?).bind fun e_74 => visorlaw31_CountTells.l1 x2 k (e_67 == e_74) (IntKind.i64.wrap (q_59 + 1)) else none) else none) else visorlaw31_CountTells.l1 x2 k false (IntKind.i64.wrap (q_59 + 1))) else some q_58)
def visorlaw31_CountTells.j2 (k : Nat) (x2 : List Int) : Option (Bool) := (visorlaw31_CountTells.l1 x2 k true 0).bind fun p_78 => (count_Even.m k x2).bind fun v_86 => (bif v_86 == p_78 then (visorlaw31_awake.m k).bind fun v_89 => visorlaw31_CountTells.j3 k v_89 else visorlaw31_CountTells.j3 k false)
def visorlaw31_CountTells.j1 (k : Nat) (x2 : List Int) (x3 : Int) (x4 : Int) (p_30 : Bool) : Option (Bool) := (bif p_30 then some false else (count_Tape.m k x3 x4).bind fun v_35 => (bif ((decide (x3 < 0)) || (decide (x4 < 0))) || (decide (x4 > 62)) then (bif ((v_35.length : Nat) : Int) != 0 then some false else visorlaw31_CountTells.j2 k x2) else (visorref31_Tape.m k x3 x4).bind fun v_47 => (visorref29_Same.m k v_35 v_47).bind fun v_52 => (bif !v_52 then some false else visorlaw31_CountTells.j2 k x2)))
abbrev visorlaw31_CountTells.R (κ : Ctx) (S : List HP) (x0 : Tapi_Trace) (x1 : List Int) (x2 : List Int) (x3 : Int) (x4 : Int) (A_x0ops : Option Addr) (c_x0ops : Nat) (A_x0blocks : Option Addr) (c_x0blocks : Nat) (A_x1 : Option Addr) (c_x1 : Nat) (A_x2 : Option Addr) (c_x2 : Nat) (r : Bool) : Ending → World → Prop := fun e w' => e = .returned (.bool r) ∧ Ow κ w' (S)
def visorlaw31_CountTells.m (k : Nat) (x0 : Tapi_Trace) (x1 : List Int) (x2 : List Int) (x3 : Int) (x4 : Int) : Option Bool := (bif decide (((x0.ops.length : Nat) : Int) > 60) then (visorlaw31_awake.m k).bind fun v_8 => some v_8 else (count_Count.m k x0 x1 x2).bind fun v_12 => (visorref31_Check.m k x0 ((x1.length : Nat) : Int) x2).bind fun v_18 => (bif v_12.2 != v_18 then visorlaw31_CountTells.j1 k x2 x3 x4 true else (bif (v_12.2 != 0) && (((v_12.1.length : Nat) : Int) != 0) then visorlaw31_CountTells.j1 k x2 x3 x4 true else (bif v_12.2 == 0 then (visorref31_Count.m k x0 x1 x2).bind fun v_24 => (visorref18_Ints.m k v_12.1 v_24).bind fun v_29 => visorlaw31_CountTells.j1 k x2 x3 x4 (!v_29) else visorlaw31_CountTells.j1 k x2 x3 x4 false))))

set_option maxRecDepth 100000 in
set_option maxHeartbeats 4000000 in
theorem visorlaw31_CountTells.ok (k : Nat) (x0 : Tapi_Trace) (x1 : List Int) (x2 : List Int) (x3 : Int) (x4 : Int) (r : Bool) (hm : visorlaw31_CountTells.m k x0 x1 x2 x3 x4 = some r) (κ : Ctx) (w : World) (S : List HP) (A_x0ops : Option Addr) (c_x0ops : Nat) (hx_x0ops : Sl κ [] A_x0ops c_x0ops 6 Tapi_Op.cells x0.ops) (A_x0blocks : Option Addr) (c_x0blocks : Nat) (hx_x0blocks : Sl κ [] A_x0blocks c_x0blocks 3 Tapi_Span.cells x0.blocks) (A_x1 : Option Addr) (c_x1 : Nat) (hx_x1 : Sl κ [] A_x1 c_x1 1 (eI .u64) x1) (A_x2 : Option Addr) (c_x2 : Nat) (hx_x2 : Sl κ [] A_x2 c_x2 1 (eI .i64) x2) (ho : Ow κ w (S)) :
  Calls Tryz.prog 4 #[.agg (vals [ci x0.n, C.slc A_x0ops x0.ops.length c_x0ops, C.slc A_x0blocks x0.blocks.length c_x0blocks]), .slice A_x1 x1.length c_x1, .slice A_x2 x2.length c_x2, vi x3, vi x4] w (visorlaw31_CountTells.R κ S x0 x1 x2 x3 x4 A_x0ops c_x0ops A_x0blocks c_x0blocks A_x1 c_x1 A_x2 c_x2 r) := by
 have ht_x0ops := hx_x0ops
 generalize hRR : visorlaw31_CountTells.R κ S x0 x1 x2 x3 x4 A_x0ops c_x0ops A_x0blocks c_x0blocks A_x1 c_x1 A_x2 c_x2 r = RR
 replace hx_x0ops := Sl.top (S := S) hx_x0ops
 have ht_x0blocks := hx_x0blocks
 replace hx_x0blocks := Sl.top (S := S) hx_x0blocks
 have ht_x1 := hx_x1
 replace hx_x1 := Sl.top (S := S) hx_x1
 have ht_x2 := hx_x2
 replace hx_x2 := Sl.top (S := S) hx_x2
 unfold visorlaw31_CountTells.m at hm
 refine qen [(0, .agg (vals [ci x0.n, C.slc A_x0ops x0.ops.length c_x0ops, C.slc A_x0blocks x0.blocks.length c_x0blocks])), (1, .slice A_x1 x1.length c_x1), (2, .slice A_x2 x2.length c_x2), (3, vi x3), (4, vi x4)] Tryz.func4 Tryz.ntmps4 ho fun a hs => ?_
 refine qsr fun K1 hK1 => ?_
 refine qbx 0 25 [ci x0.n, C.slc A_x0ops x0.ops.length c_x0ops, C.slc A_x0blocks x0.blocks.length c_x0blocks] 5 hs fun b_2 w a hs => ?_
 refine qpk 1 [1, 2, 3, 4, 5] hs fun a hs => hK1 _ _ ?_
 clear hK1
 refine Vk.seq fun K3 hK3 => ?_
 refine qsr fun K4 hK4 => ?_
 refine qpu 1 hs fun a hs => ?_
 refine qld 0 (C.slc A_x0ops x0.ops.length c_x0ops) hs rfl fun a hs => ?_
 refine qpk 2 [1, 2, 3, 4, 5, 20] hs fun a hs => hK4 _ _ ?_
 clear hK4
 refine qcs (decide (((x0.ops.length : Nat) : Int) > 60)) hs (fun hb => ?_) fun hb => ?_
 ·replace hm := bif_t hm hb
  refine qsr fun K5 hK5 => ?_
  obtain ⟨v_8, h_7, hm⟩ := bind_t hm
  refine qcl (visorlaw31_awake.ok _ _ h_7 _ _ (pt b_2 (blk (Tapi_Trace.obj x0 A_x0ops c_x0ops A_x0blocks c_x0blocks) 25) :: S) hs.own) hs fun w a hs => ?_
  refine qpe 1 [(10, .bool v_8)] hs fun a hs => hK5 _ _ ?_
  clear hK5
  refine wp_ret ?_
  exact qr1 (.bool v_8) hs rfl hRR (by cases hm; exact ⟨rfl, hs.own.drop⟩)
 ·replace hm := bif_f hm hb
  refine wp_skip ?_
  refine hK3 _ _ ?_
  clear hK3
  refine qsr fun K9 hK9 => ?_
  refine qln 0 ([ci x0.n, C.slc A_x0ops x0.ops.length c_x0ops, C.slc A_x0blocks x0.blocks.length c_x0blocks]) hs rfl fun a hs => ?_
  refine qpu 2 hs fun a hs => ?_
  obtain ⟨v_12, h_11, hm⟩ := bind_t hm
  refine Vk.step (Vk.call (some 26) 16 #[.agg (vals [ci x0.n, C.slc A_x0ops x0.ops.length c_x0ops, C.slc A_x0blocks x0.blocks.length c_x0blocks]), .slice A_x1 x1.length c_x1, .slice A_x2 x2.length c_x2] hs (by kernel_rfl) (by kernel_rfl) (by kernel_rfl) ?_)
  refine (count_Count.ok k x0 x1 x2 v_12 h_11 κ w (pt b_2 (blk (Tapi_Trace.obj x0 A_x0ops c_x0ops A_x0blocks c_x0blocks) 25) :: S) A_x0ops c_x0ops hx_x0ops.less A_x0blocks c_x0blocks hx_x0blocks.less A_x1 c_x1 hx_x1.less A_x2 c_x2 hx_x2.less hs.own).mono ?_
  rintro _ w ⟨Ar10x0_13, cr10x0_14, rfl, how⟩
  refine ⟨_, _, _, rfl, how, fun a hs => ?_⟩
  refine qpk 5 [1, 2, 3, 4, 5, 11, 12] hs fun a hs => hK9 _ _ ?_
  clear hK9
  refine qsr fun K15 hK15 => ?_
  refine qln 1 ([ci x0.n, C.slc A_x0ops x0.ops.length c_x0ops, C.slc A_x0blocks x0.blocks.length c_x0blocks]) hs rfl fun a hs => ?_
  refine qpu 3 hs fun a hs => ?_
  obtain ⟨v_18, h_17, hm⟩ := bind_t hm
  refine qcl (visorref31_Check.ok _ _ _ _ _ h_17 _ _ (rowp Ar10x0_13 cr10x0_14 3 1 (eI .i64) v_12.1 :: pt b_2 (blk (Tapi_Trace.obj x0 A_x0ops c_x0ops A_x0blocks c_x0blocks) 25) :: S) A_x0ops c_x0ops hx_x0ops.less.less A_x0blocks c_x0blocks hx_x0blocks.less.less A_x2 c_x2 hx_x2.less.less hs.own) hs fun w a hs => ?_
  refine qpk 1 [1, 2, 3, 4, 5, 11, 12, 13] hs fun a hs => hK15 _ _ ?_
  clear hK15
  refine Vk.seq fun K19 hK19 => ?_
  refine Vk.seq fun K20 hK20 => ?_
  have hj20 : ∀ (p_30 : Bool), visorlaw31_CountTells.j1 k x2 x3 x4 p_30 = some r → ∀ (a : Act) (w : World), St 105 a w κ [(2, .slice A_x2 x2.length c_x2), (3, vi x3), (4, vi x4), (58, .bool p_30)] (S) → K20 a w := by
   intro p_30 hm a w hs
   unfold visorlaw31_CountTells.j1 at hm
   refine hK20 _ _ ?_
   refine qcs (p_30) hs (fun hb => ?_) fun hb => ?_
   ·replace hm := bif_t hm hb
    refine qse 1 [(10, .bool false)] hs fun a hs => ?_
    refine wp_ret ?_
    exact qr1 (.bool false) hs rfl hRR (by cases hm; exact ⟨rfl, hs.own⟩)
   ·replace hm := bif_f hm hb
    refine wp_skip ?_
    refine hK19 _ _ ?_
    clear hK19
    refine qsr fun K32 hK32 => ?_
    refine qpu 2 hs fun a hs => ?_
    obtain ⟨v_35, h_34, hm⟩ := bind_t hm
    refine Vk.step (Vk.call (some 61) 19 #[vi x3, vi x4] hs (by kernel_rfl) (by kernel_rfl) (by kernel_rfl) ?_)
    refine (count_Tape.ok k x3 x4 v_35 h_34 κ w (S) hs.own).mono ?_
    rintro _ w ⟨Ar33x0_36, cr33x0_37, rfl, how⟩
    refine ⟨_, _, _, rfl, how, fun a hs => ?_⟩
    refine qpk 1 [2, 3, 4, 14] hs fun a hs => hK32 _ _ ?_
    clear hK32
    refine Vk.seq fun K38 hK38 => ?_
    have hj38 : visorlaw31_CountTells.j2 k x2 = some r → ∀ (a : Act) (w : World), St 105 a w κ [(2, .slice A_x2 x2.length c_x2)] (S) → K38 a w := by
     intro hm a w hs
     unfold visorlaw31_CountTells.j2 at hm
     refine hK38 _ _ ?_
     refine qsk 1 [2, 15] hs fun a hs => ?_
     refine Vk.seq fun K55 hK55 => ?_
     refine qsk 1 [2, 15, 16] hs fun a hs => ?_
     refine wp_block ?_
     obtain ⟨r57, hl57, hm⟩ := bind_t hm
     have hx57 : ∀ (p_78 : Bool), r57 = p_78 → ∀ (a : Act) (w : World), St 105 a w κ [(2, .slice A_x2 x2.length c_x2), (15, .bool p_78)] (S) → K55 a w := by
      intro p_78 he a w hs
      subst r57
      refine hK55 _ _ ?_
      clear hK55
      refine Vk.seq fun K83 hK83 => ?_
      have hj83 : ∀ (p_90 : Bool), visorlaw31_CountTells.j3 k p_90 = some r → ∀ (a : Act) (w : World), St 105 a w κ [(10, .bool p_90)] (S) → K83 a w := by
       intro p_90 hm a w hs
       unfold visorlaw31_CountTells.j3 at hm
       refine hK83 _ _ ?_
       refine wp_ret ?_
       exact qr1 (.bool p_90) hs rfl hRR (by cases hm; exact ⟨rfl, hs.own⟩)
      refine Vk.region ?_
      refine qpu 1 hs fun a hs => ?_
      obtain ⟨v_86, h_85, hm⟩ := bind_t hm
      refine qcl (count_Even.ok _ _ _ h_85 _ _ (S) A_x2 c_x2 hx_x2 hs.own) hs fun w a hs => ?_
      refine qpu 3 hs fun a hs => ?_
      rcases Bool.eq_false_or_eq_true (v_86 == p_78) with hb | hb
      ·replace hm := bif_t hm hb
       replace hs := hs.known (t := 102) hb (by kernel_rfl)
       obtain ⟨v_89, h_88, hm⟩ := bind_t hm
       refine qcl (visorlaw31_awake.ok _ _ h_88 _ _ (S) hs.own) hs fun w a hs => ?_
       refine qpe 2 [(10, .bool v_89)] hs fun a hs => ?_
       exact hj83 v_89 hm _ _ (hs.go [10] [] 0 (by kernel_rfl) (by kernel_rfl) (by kernel_rfl))
      ·replace hm := bif_f hm hb
       replace hs := hs.known (t := 102) hb (by kernel_rfl)
       refine qpe 3 [(10, .bool false)] hs fun a hs => ?_
       exact hj83 false hm _ _ (hs.go [10] [] 0 (by kernel_rfl) (by kernel_rfl) (by kernel_rfl))
     refine Vk.loopBy (fun k (s : Bool × Int) a w => visorlaw31_CountTells.l1 x2 k s.1 s.2 = some r57 ∧ St 105 a w κ [(2, .slice A_x2 x2.length c_x2), (15, .bool s.1), (16, vi s.2)] (S)) k (true, 0) ⟨hl57, hs.go [2, 15, 16] [] 0 (by kernel_rfl) (by kernel_rfl) (by kernel_rfl)⟩ (fun s a w h => by obtain ⟨h1, _⟩ := h; simp [visorlaw31_CountTells.l1] at h1) (fun k KL57 ih s a w h => ?_)
     obtain ⟨q_58, q_59⟩ := s
     obtain ⟨hm, hs⟩ := h
     try dsimp only at hm hs
     rw [visorlaw31_CountTells.l1] at hm
     refine Vk.seq fun K60 hK60 => ?_
     refine qsk 4 [2, 15, 16, 84] hs fun a hs => ?_
     refine qcs (decide (q_59 < ((x2.length : Nat) : Int))) hs (fun hb => ?_) fun hb => ?_
     ·replace hm := bif_t hm hb
      refine wp_skip ?_
      refine hK60 _ _ ?_
      clear hK60
      refine Vk.seq fun K62 hK62 => ?_
      refine wp_block ?_
      obtain ⟨C_63, hC_63⟩ := qC hs.own
      refine qdr 12 κ C_63 hs fun w hs hqC_63 => ?_
      have hcl := qO hC_63 hs.own
      refine qdp (fuel := 10) [0, 1] hs hcl hqC_63 fun a hs => ?_
      rcases Bool.eq_false_or_eq_true (q_58) with hb | hb
      ·replace hm := bif_t hm hb
       replace hs := hs.known (t := 88) hb (by kernel_rfl)
       refine qdp (fuel := 7) [2, 3, 6] hs hcl hqC_63 fun a hs => ?_
       obtain ⟨h_64, hm⟩ := ite_t hm
       obtain ⟨e_67, h_65, hm⟩ := bind_t hm
       obtain ⟨b_68, o_69, hA_70, h_66⟩ := Sl.elem hx_x2 h_65
       refine qdt 4 (.pointer (some ⟨b_68, o_69 + q_59.toNat * 1, none⟩)) (op := (.indexAddr 28 (.tmp 89) (.tmp 90))) hs hcl hqC_63 (fun w hw o ho => by rw [hC_63] at hw; exact run_idxSlc (k := .i64) ho (cap := c_x2) (len := x2.length) ((congrArg (fun A => Value.slice A (x2.length) (c_x2)) hA_70) ▸ (by kernel_rfl)) (by kernel_rfl) (by kernel_rfl) (idx_ok h_64 h_65) _) fun a hs => ?_
       refine qdt 5 (vi e_67) (op := (.load 3 (.tmp 91))) hs hcl hqC_63 (fun w hw o ho => by rw [hC_63] at hw; exact run_load1 (c := ci e_67) ho (by kernel_rfl) (by kernel_rfl) (fun w ho => h_66 w ho 0 _ rfl) _ hw) fun a hs => ?_
       obtain ⟨h_71, hm⟩ := ite_t hm
       obtain ⟨e_74, h_72, hm⟩ := bind_t hm
       obtain ⟨b_75, o_76, hA_77, h_73⟩ := Sl.elem hx_x2 h_72
       refine qdt 7 (.pointer (some ⟨b_75, o_76 + 0 * 1, none⟩)) (op := (.indexAddr 28 (.tmp 93) (.const (vi 0)))) hs hcl hqC_63 (fun w hw o ho => by rw [hC_63] at hw; exact run_idxSlc (k := .i64) ho (cap := c_x2) (len := x2.length) ((congrArg (fun A => Value.slice A (x2.length) (c_x2)) hA_77) ▸ (by kernel_rfl)) (by kernel_rfl) (by kernel_rfl) (idx_ok h_71 h_72) _) fun a hs => ?_
       refine qdt 8 (vi e_74) (op := (.load 3 (.tmp 94))) hs hcl hqC_63 (fun w hw o ho => by rw [hC_63] at hw; exact run_load1 (c := ci e_74) ho (by kernel_rfl) (by kernel_rfl) (fun w ho => h_73 w ho 0 _ rfl) _ hw) fun a hs => ?_
       refine qdp (fuel := 0) [9, 10, 11] hs hcl hqC_63 fun a hs => ?_
       replace hs := hs.pick [2, 15, 16, 89, 90, 91, 92, 93, 94, 95, 96] (L' := [(2, .slice A_x2 x2.length c_x2), (15, .bool (e_67 == e_74)), (16, vi q_59), (89, .slice A_x2 x2.length c_x2), (90, vi q_59), (91, .pointer (some ⟨b_68, o_69 + q_59.toNat * 1, none⟩)), (92, vi e_67), (93, .slice A_x2 x2.length c_x2), (94, .pointer (some ⟨b_75, o_76 + 0 * 1, none⟩)), (95, vi e_74), (96, .bool (e_67 == e_74))]) (by kernel_rfl)
       refine Vk.dDone (by kernel_rfl) ?_
       refine hK62 _ _ ?_
       refine Vk.region ?_
       refine qpk 3 [2, 15, 16, 89, 90, 91, 92, 93, 94, 95, 96] hs fun a hs => ?_
       refine ih ((e_67 == e_74), (IntKind.i64.wrap (q_59 + 1))) _ _ ⟨hm, hs.go [2, 15, 16] [] 0 (by kernel_rfl) (by kernel_rfl) (by kernel_rfl)⟩
      ·replace hm := bif_f hm hb
       replace hs := hs.known (t := 88) hb (by kernel_rfl)
       refine qdp (fuel := 0) [2, 3, 4, 5, 6, 7, 8, 9, 10, 11] hs hcl hqC_63 fun a hs => ?_
       replace hs := hs.pick [2, 15, 16] (L' := [(2, .slice A_x2 x2.length c_x2), (15, .bool false), (16, vi q_59)]) (by kernel_rfl)
       refine Vk.dDone (by kernel_rfl) ?_
       refine hK62 _ _ ?_
       refine Vk.region ?_
       refine qpk 3 [2, 15, 16] hs fun a hs => ?_
       refine ih (false, (IntKind.i64.wrap (q_59 + 1))) _ _ ⟨hm, hs.go [2, 15, 16] [] 0 (by kernel_rfl) (by kernel_rfl) (by kernel_rfl)⟩
     ·replace hm := bif_f hm hb
      refine wp_exit ?_
      exact hx57 q_58 (Option.some.inj hm).symm _ _ (hs.go [2, 15] [] 0 (by kernel_rfl) (by kernel_rfl) (by kernel_rfl))
    refine qsr fun K39 hK39 => ?_
    refine qpu 3 hs fun a hs => ?_
    refine qsc 64 3 hs fun a hs => ?_
    refine qpu 1 hs fun a hs => ?_
    refine qsc 68 3 hs fun a hs => ?_
    refine qpk 0 [2, 3, 4, 14, 71] hs fun a hs => hK39 _ _ ?_
    clear hK39
    refine qcs (((decide (x3 < 0)) || (decide (x4 < 0))) || (decide (x4 > 62))) hs (fun hb => ?_) fun hb => ?_
    ·replace hm := bif_t hm hb
     refine qsk 3 [2, 74] hs fun a hs => ?_
     refine qcs (((v_35.length : Nat) : Int) != 0) hs (fun hb => ?_) fun hb => ?_
     ·replace hm := bif_t hm hb
      refine qse 1 [(10, .bool false)] hs fun a hs => ?_
      refine wp_ret ?_
      exact qr1 (.bool false) hs rfl hRR (by cases hm; exact ⟨rfl, hs.own.drop⟩)
     ·replace hm := bif_f hm hb
      refine wp_skip ?_
      exact hj38 hm _ _ (hs.go [2] [] 1 (by kernel_rfl) (by kernel_rfl) (by kernel_rfl))
    ·replace hm := bif_f hm hb
     refine qsr fun K44 hK44 => ?_
     refine qpu 3 hs fun a hs => ?_
     obtain ⟨v_47, h_46, hm⟩ := bind_t hm
     refine Vk.step (Vk.call (some 78) 21 #[vi x3, vi x4] hs (by kernel_rfl) (by kernel_rfl) (by kernel_rfl) ?_)
     refine (visorref31_Tape.ok k x3 x4 v_47 h_46 κ w (rowp Ar33x0_36 cr33x0_37 34 1 (eI .u64) v_35 :: S) hs.own).mono ?_
     rintro _ w ⟨Ar45x0_48, cr45x0_49, rfl, how⟩
     refine ⟨_, _, _, rfl, how, fun a hs => ?_⟩
     obtain ⟨v_52, h_51, hm⟩ := bind_t hm
     refine qcl (visorref29_Same.ok _ _ _ _ h_51 _ _ (rowp Ar45x0_48 cr45x0_49 34 1 (eI .u64) v_47 :: rowp Ar33x0_36 cr33x0_37 34 1 (eI .u64) v_35 :: S) Ar33x0_36 cr33x0_37 ((Ow.rowSl 0 hs.own.drop rfl).less) Ar45x0_48 cr45x0_49 (Sl.lift (fun w ho => (Ow.to (S' := rowp Ar45x0_48 cr45x0_49 34 1 (eI .u64) v_47 :: S) ho [0] 2 (by kernel_rfl) (by kernel_rfl))) (Ow.rowSl 0 (Ow.to (S' := rowp Ar45x0_48 cr45x0_49 34 1 (eI .u64) v_47 :: S) hs.own [0] 2 (by kernel_rfl) (by kernel_rfl)) rfl)) hs.own) hs fun w a hs => ?_
     refine qpk 1 [2, 80] hs fun a hs => hK44 _ _ ?_
     clear hK44
     refine qcs (!v_52) hs (fun hb => ?_) fun hb => ?_
     ·replace hm := bif_t hm hb
      refine qse 1 [(10, .bool false)] hs fun a hs => ?_
      refine wp_ret ?_
      exact qr1 (.bool false) hs rfl hRR (by cases hm; exact ⟨rfl, hs.own.f1.drop.drop⟩)
     ·replace hm := bif_f hm hb
      refine wp_skip ?_
      exact hj38 hm _ _ (hs.go [2] [] 2 (by kernel_rfl) (by kernel_rfl) (by kernel_rfl))
  refine Vk.region ?_
  refine qpu 4 hs fun a hs => ?_
  rcases Bool.eq_false_or_eq_true (v_12.2 != v_18) with hb | hb
  ·replace hm := bif_t hm hb
   replace hs := hs.known (t := 37) hb (by kernel_rfl)
   refine qpe 21 [(2, .slice A_x2 x2.length c_x2), (3, vi x3), (4, vi x4), (58, .bool true)] hs fun a hs => ?_
   exact hj20 true hm _ _ (hs.go [2, 3, 4, 58] [] 2 (by kernel_rfl) (by kernel_rfl) (by kernel_rfl))
  ·replace hm := bif_f hm hb
   replace hs := hs.known (t := 37) hb (by kernel_rfl)
   refine qpu 3 hs fun a hs => ?_
   refine qsc 40 4 hs fun a hs => ?_
   refine qpu 2 hs fun a hs => ?_
   rcases Bool.eq_false_or_eq_true ((v_12.2 != 0) && (((v_12.1.length : Nat) : Int) != 0)) with hb | hb
   ·replace hm := bif_t hm hb
    replace hs := hs.known (t := 46) hb (by kernel_rfl)
    refine qpe 12 [(2, .slice A_x2 x2.length c_x2), (3, vi x3), (4, vi x4), (58, .bool true)] hs fun a hs => ?_
    exact hj20 true hm _ _ (hs.go [2, 3, 4, 58] [] 2 (by kernel_rfl) (by kernel_rfl) (by kernel_rfl))
   ·replace hm := bif_f hm hb
    replace hs := hs.known (t := 46) hb (by kernel_rfl)
    refine qpu 3 hs fun a hs => ?_
    rcases Bool.eq_false_or_eq_true (v_12.2 == 0) with hb | hb
    ·replace hm := bif_t hm hb
     replace hs := hs.known (t := 49) hb (by kernel_rfl)
     refine qpu 1 hs fun a hs => ?_
     refine qln 1 ([ci x0.n, C.slc A_x0ops x0.ops.length c_x0ops, C.slc A_x0blocks x0.blocks.length c_x0blocks]) hs rfl fun a hs => ?_
     refine qpu 2 hs fun a hs => ?_
     obtain ⟨v_24, h_23, hm⟩ := bind_t hm
     refine Vk.step (Vk.call (some 54) 18 #[.agg (vals [ci x0.n, C.slc A_x0ops x0.ops.length c_x0ops, C.slc A_x0blocks x0.blocks.length c_x0blocks]), .slice A_x1 x1.length c_x1, .slice A_x2 x2.length c_x2] hs (by kernel_rfl) (by kernel_rfl) (by kernel_rfl) ?_)
     refine (visorref31_Count.ok k x0 x1 x2 v_24 h_23 κ w (rowp Ar10x0_13 cr10x0_14 3 1 (eI .i64) v_12.1 :: pt b_2 (blk (Tapi_Trace.obj x0 A_x0ops c_x0ops A_x0blocks c_x0blocks) 25) :: S) A_x0ops c_x0ops hx_x0ops.less.less A_x0blocks c_x0blocks hx_x0blocks.less.less A_x1 c_x1 hx_x1.less.less A_x2 c_x2 hx_x2.less.less hs.own).mono ?_
     rintro _ w ⟨Ar22x0_25, cr22x0_26, rfl, how⟩
     refine ⟨_, _, _, rfl, how, fun a hs => ?_⟩
     obtain ⟨v_29, h_28, hm⟩ := bind_t hm
     refine qcl (visorref18_Ints.ok _ _ _ _ h_28 _ _ (rowp Ar22x0_25 cr22x0_26 3 1 (eI .i64) v_24 :: rowp Ar10x0_13 cr10x0_14 3 1 (eI .i64) v_12.1 :: pt b_2 (blk (Tapi_Trace.obj x0 A_x0ops c_x0ops A_x0blocks c_x0blocks) 25) :: S) Ar10x0_13 cr10x0_14 (Sl.lift (fun w ho => (Ow.to (S' := rowp Ar10x0_13 cr10x0_14 3 1 (eI .i64) v_12.1 :: S) ho [1] 3 (by kernel_rfl) (by kernel_rfl))) (Ow.rowSl 0 (Ow.to (S' := rowp Ar10x0_13 cr10x0_14 3 1 (eI .i64) v_12.1 :: S) hs.own [1] 3 (by kernel_rfl) (by kernel_rfl)) rfl)) Ar22x0_25 cr22x0_26 (Sl.lift (fun w ho => (Ow.to (S' := rowp Ar22x0_25 cr22x0_26 3 1 (eI .i64) v_24 :: S) ho [0] 3 (by kernel_rfl) (by kernel_rfl))) (Ow.rowSl 0 (Ow.to (S' := rowp Ar22x0_25 cr22x0_26 3 1 (eI .i64) v_24 :: S) hs.own [0] 3 (by kernel_rfl) (by kernel_rfl)) rfl)) hs.own) hs fun w a hs => ?_
     refine qpe 3 [(2, .slice A_x2 x2.length c_x2), (3, vi x3), (4, vi x4), (58, .bool (!v_29))] hs fun a hs => ?_
     exact hj20 (!v_29) hm _ _ (hs.go [2, 3, 4, 58] [] 3 (by kernel_rfl) (by kernel_rfl) (by kernel_rfl))
    ·replace hm := bif_f hm hb
     replace hs := hs.known (t := 49) hb (by kernel_rfl)
     refine qpe 9 [(2, .slice A_x2 x2.length c_x2), (3, vi x3), (4, vi x4), (58, .bool false)] hs fun a hs => ?_
     exact hj20 false hm _ _ (hs.go [2, 3, 4, 58] [] 2 (by kernel_rfl) (by kernel_rfl) (by kernel_rfl))

end Go.Proofs.YtkabdodcacfmlaaGreat
