/- Of each Go function that SharePlays comes to: a model in plain Lean, and that the program's call does what the model says; no condition. -/
import Derived.Test.YtflgefjocjpjaaaProg
import Derived.Test.YtflgefjocjpjaaaVipblhand
import Derived.Test.YtflgefjocjpjaaaMSharePlays0
namespace Go.Proofs.Ytflgefjocjpjaaa
open Go Go.Vk
set_option linter.unusedVariables false


abbrev visorref19_Op.R (κ : Ctx) (S : List HP) (x0 : Int) (x1 : Int) (x2 : Int) (x3 : Int) (x4 : Int) (r : Tapi_Op) : Ending → World → Prop := fun e w' => e = .returned (.agg (vals [ci r.kind, ci r.dom, ci r.a, ci r.b, ci r.d, cw r.c])) ∧ Own κ w' (S)
def visorref19_Op.m (k : Nat) (x0 : Int) (x1 : Int) (x2 : Int) (x3 : Int) (x4 : Int) : Option Tapi_Op := some (⟨x0, x1, x2, x3, (-1), x4⟩ : Tapi_Op)

set_option maxRecDepth 100000 in
set_option maxHeartbeats 4000000 in
theorem visorref19_Op.ok (k : Nat) (x0 : Int) (x1 : Int) (x2 : Int) (x3 : Int) (x4 : Int) (r : Tapi_Op) (hm : visorref19_Op.m k x0 x1 x2 x3 x4 = some r) (κ : Ctx) (w : World) (S : List HP) (ho : Own κ w (S)) :
    Calls Try.prog 123 #[vi x0, vi x1, vi x2, vi x3, vw x4] w (visorref19_Op.R κ S x0 x1 x2 x3 x4 r) := by
  unfold visorref19_Op.m at hm
  generalize hRR : visorref19_Op.R κ S x0 x1 x2 x3 x4 r = RR
  refine qen [(0, vi x0), (1, vi x1), (2, vi x2), (3, vi x3), (4, vw x4)] Try.func123 Try.ntmps123 ho fun a hs => ?_
  refine qsr fun K1 hK1 => ?_
  refine Vk.step (Vk.alloc 10 93 [ci 0, ci 0, ci 0, ci 0, ci 0, cw 0] hs (by kernel_rfl) (by kernel_rfl) (by kernel_rfl) fun b_2 w a hs => ?_)
  refine qpe 0 [(0, vi x0), (1, vi x1), (2, vi x2), (3, vi x3), (4, vw x4), (10, pp b_2)] hs fun a hs => hK1 _ _ ?_
  clear hK1
  refine qsr fun K3 hK3 => ?_
  refine qpu 6 hs fun a hs => ?_
  refine Vk.step (Vk.storeA (b := b_2) (ty := 93) (x := (.tmp 10)) (y := (.tmp 16)) (sz := 6) [ci x0, ci x1, ci x2, ci x3, ci (-1), cw x4] 0 hs (by kernel_rfl) (by kernel_rfl) (by kernel_rfl) (by kernel_rfl) (by kernel_rfl) rfl (by kernel_rfl) rfl (Eq.trans (b := 6) rfl (Eq.symm rfl)) fun a w hs => ?_)
  refine qpe 0 [(10, pp b_2)] hs fun a hs => hK3 _ _ ?_
  clear hK3
  refine wp_ret ?_
  exact Vk.retC (P := Try.prog) (fn := Try.f123) (R := RR) [ci x0, ci x1, ci x2, ci x3, ci (-1), cw x4] hs rfl (by kernel_rfl) (sz := 6) (by kernel_rfl) rfl (CellsAt.all 0 rfl) (by obtain rfl := Option.some.inj hm; subst hRR; exact ⟨rfl, (Own.to hs.own [] 1 (by kernel_rfl) (by kernel_rfl))⟩)


def visorref17_Regs.j2 (k : Nat) (x0 : Int) (x1 : Int) (p_19 : Bool) : Option (Int) := (bif p_19 then some 1 else (bif x0 == 12 then some x1 else some 0))
def visorref17_Regs.j1 (k : Nat) (x0 : Int) (x1 : Int) (p_12 : Bool) : Option (Int) := (bif p_12 then some 2 else (bif x0 == 6 then visorref17_Regs.j2 k x0 x1 (x0 == 6) else (bif x0 == 8 then visorref17_Regs.j2 k x0 x1 (x0 == 8) else (bif x0 == 9 then visorref17_Regs.j2 k x0 x1 (x0 == 9) else (bif x0 == 10 then visorref17_Regs.j2 k x0 x1 (x0 == 10) else visorref17_Regs.j2 k x0 x1 (x0 == 11))))))
abbrev visorref17_Regs.R (κ : Ctx) (S : List HP) (x0 : Int) (x1 : Int) (r : Int) : Ending → World → Prop := fun e w' => e = .returned (vi r) ∧ Own κ w' (S)
def visorref17_Regs.m (k : Nat) (x0 : Int) (x1 : Int) : Option Int := (bif (x1 != 2) && (x1 != 3) then some 0 else (bif x0 == 2 then some (IntKind.i64.wrap (x1 - 1)) else (bif x0 == 5 then visorref17_Regs.j1 k x0 x1 (x0 == 5) else visorref17_Regs.j1 k x0 x1 (x0 == 7))))

set_option maxRecDepth 100000 in
set_option maxHeartbeats 4000000 in
theorem visorref17_Regs.ok (k : Nat) (x0 : Int) (x1 : Int) (r : Int) (hm : visorref17_Regs.m k x0 x1 = some r) (κ : Ctx) (w : World) (S : List HP) (ho : Own κ w (S)) :
    Calls Try.prog 162 #[vi x0, vi x1] w (visorref17_Regs.R κ S x0 x1 r) := by
  unfold visorref17_Regs.m at hm
  generalize hRR : visorref17_Regs.R κ S x0 x1 r = RR
  refine qen [(0, vi x0), (1, vi x1)] Try.func162 Try.ntmps162 ho fun a hs => ?_
  refine qsr fun K1 hK1 => ?_
  refine qpe 1 [(0, vi x0), (1, vi x1)] hs fun a hs => hK1 _ _ ?_
  clear hK1
  refine Vk.seq fun K2 hK2 => ?_
  refine qsr fun K3 hK3 => ?_
  refine qpu 3 hs fun a hs => ?_
  suffices hj_4 : ∀ a, St 28 a w κ [(0, vi x0), (1, vi x1), (5, vi x1), (6, .bool (x1 != 2)), (7, .bool (x1 != 2)), (10, .bool ((x1 != 2) && (x1 != 3)))] (S) → wpFrom Try.prog _ _ 6 a w by
    rcases Bool.eq_false_or_eq_true (x1 != 2) with hb | hb
    · replace hs := hs.known (t := 7) hb (by kernel_rfl)
      refine qpu 3 hs fun a hs => ?_
      have hq := hs.pick [0, 1, 5, 6, 7, 10] (L' := [(0, vi x0), (1, vi x1), (5, vi x1), (6, .bool (x1 != 2)), (7, .bool true), (10, .bool (x1 != 3))]) (by kernel_rfl)
      exact hj_4 _ (hq.conv (by first | (rw [hb] <;> rfl) | rfl))
    · replace hs := hs.known (t := 7) hb (by kernel_rfl)
      refine qpu 3 hs fun a hs => ?_
      have hq := hs.pick [0, 1, 5, 6, 7, 10] (L' := [(0, vi x0), (1, vi x1), (5, vi x1), (6, .bool (x1 != 2)), (7, .bool false), (10, .bool false)]) (by kernel_rfl)
      exact hj_4 _ (hq.conv (by first | (rw [hb] <;> rfl) | rfl))
  intro a hs
  refine qpe 0 [(0, vi x0), (1, vi x1), (10, .bool ((x1 != 2) && (x1 != 3)))] hs fun a hs => hK3 _ _ ?_
  clear hK3
  refine qcs ((x1 != 2) && (x1 != 3)) hs (fun hb => ?_) fun hb => ?_
  · replace hm := bif_t hm hb
    refine qsr fun K5 hK5 => ?_
    refine qpe 1 [(4, vi 0)] hs fun a hs => hK5 _ _ ?_
    clear hK5
    refine wp_ret ?_
    exact Vk.ret1 (P := Try.prog) (fn := Try.f162) (R := RR) (vi 0) hs rfl (by kernel_rfl) (by obtain rfl := Option.some.inj hm; subst hRR; exact ⟨rfl, (Own.to hs.own [] 0 (by kernel_rfl) (by kernel_rfl))⟩)
  · replace hm := bif_f hm hb
    refine wp_skip ?_
    refine hK2 _ _ ?_
    clear hK2
    refine Vk.seq fun K6 hK6 => ?_
    refine qsr fun K7 hK7 => ?_
    refine qpe 1 [(1, vi x1), (11, vi x0)] hs fun a hs => hK7 _ _ ?_
    clear hK7
    refine wp_block ?_
    refine qsr fun K8 hK8 => ?_
    refine qpe 2 [(1, vi x1), (11, vi x0), (12, .bool (x0 == 2))] hs fun a hs => hK8 _ _ ?_
    clear hK8
    refine qcs (x0 == 2) hs (fun hb => ?_) fun hb => ?_
    · replace hm := bif_t hm hb
      refine qsr fun K9 hK9 => ?_
      refine qpe 3 [(4, vi (IntKind.i64.wrap (x1 - 1)))] hs fun a hs => hK9 _ _ ?_
      clear hK9
      refine wp_ret ?_
      exact Vk.ret1 (P := Try.prog) (fn := Try.f162) (R := RR) (vi (IntKind.i64.wrap (x1 - 1))) hs rfl (by kernel_rfl) (by obtain rfl := Option.some.inj hm; subst hRR; exact ⟨rfl, (Own.to hs.own [] 0 (by kernel_rfl) (by kernel_rfl))⟩)
    · replace hm := bif_f hm hb
      refine Vk.seq fun K10 hK10 => ?_
      have hj10 : ∀ (p_12 : Bool), visorref17_Regs.j1 k x0 x1 p_12 = some r → ∀ (a : Act) (w : World), St 28 a w κ [(1, vi x1), (11, vi x0), (16, .bool p_12)] (S) → K10 a w := by
        intro p_12 hm a w hs
        unfold visorref17_Regs.j1 at hm
        refine hK10 _ _ ?_
        refine qcs (p_12) hs (fun hb => ?_) fun hb => ?_
        · replace hm := bif_t hm hb
          refine qsr fun K13 hK13 => ?_
          refine qpe 1 [(4, vi 2)] hs fun a hs => hK13 _ _ ?_
          clear hK13
          refine wp_ret ?_
          exact Vk.ret1 (P := Try.prog) (fn := Try.f162) (R := RR) (vi 2) hs rfl (by kernel_rfl) (by obtain rfl := Option.some.inj hm; subst hRR; exact ⟨rfl, (Own.to hs.own [] 0 (by kernel_rfl) (by kernel_rfl))⟩)
        · replace hm := bif_f hm hb
          refine Vk.seq fun K14 hK14 => ?_
          have hj14 : ∀ (p_19 : Bool), visorref17_Regs.j2 k x0 x1 p_19 = some r → ∀ (a : Act) (w : World), St 28 a w κ [(1, vi x1), (11, vi x0), (19, .bool p_19)] (S) → K14 a w := by
            intro p_19 hm a w hs
            unfold visorref17_Regs.j2 at hm
            refine hK14 _ _ ?_
            refine qcs (p_19) hs (fun hb => ?_) fun hb => ?_
            · replace hm := bif_t hm hb
              refine qsr fun K20 hK20 => ?_
              refine qpe 1 [(4, vi 1)] hs fun a hs => hK20 _ _ ?_
              clear hK20
              refine wp_ret ?_
              exact Vk.ret1 (P := Try.prog) (fn := Try.f162) (R := RR) (vi 1) hs rfl (by kernel_rfl) (by obtain rfl := Option.some.inj hm; subst hRR; exact ⟨rfl, (Own.to hs.own [] 0 (by kernel_rfl) (by kernel_rfl))⟩)
            · replace hm := bif_f hm hb
              refine qsr fun K21 hK21 => ?_
              refine qpe 2 [(1, vi x1), (25, .bool (x0 == 12))] hs fun a hs => hK21 _ _ ?_
              clear hK21
              refine qcs (x0 == 12) hs (fun hb => ?_) fun hb => ?_
              · replace hm := bif_t hm hb
                refine qsr fun K22 hK22 => ?_
                refine qpe 2 [(4, vi x1)] hs fun a hs => hK22 _ _ ?_
                clear hK22
                refine wp_ret ?_
                exact Vk.ret1 (P := Try.prog) (fn := Try.f162) (R := RR) (vi x1) hs rfl (by kernel_rfl) (by obtain rfl := Option.some.inj hm; subst hRR; exact ⟨rfl, (Own.to hs.own [] 0 (by kernel_rfl) (by kernel_rfl))⟩)
              · replace hm := bif_f hm hb
                refine wp_skip ?_
                refine hK6 _ _ ?_
                clear hK6
                refine qsr fun K23 hK23 => ?_
                refine qpe 1 [(4, vi 0)] hs fun a hs => hK23 _ _ ?_
                clear hK23
                refine wp_ret ?_
                exact Vk.ret1 (P := Try.prog) (fn := Try.f162) (R := RR) (vi 0) hs rfl (by kernel_rfl) (by obtain rfl := Option.some.inj hm; subst hRR; exact ⟨rfl, (Own.to hs.own [] 0 (by kernel_rfl) (by kernel_rfl))⟩)
          refine qsr fun K15 hK15 => ?_
          refine qpe 2 [(1, vi x1), (11, vi x0), (19, .bool (x0 == 6))] hs fun a hs => hK15 _ _ ?_
          clear hK15
          refine qcs (x0 == 6) hs (fun hb => ?_) fun hb => ?_
          · replace hm := bif_t hm hb
            refine wp_skip ?_
            exact hj14 (x0 == 6) hm _ _ (hs.go [1, 11, 19] [] 0 (by kernel_rfl) (by kernel_rfl) (by kernel_rfl))
          · replace hm := bif_f hm hb
            refine qsr fun K16 hK16 => ?_
            refine qpe 2 [(1, vi x1), (11, vi x0), (19, .bool (x0 == 8))] hs fun a hs => hK16 _ _ ?_
            clear hK16
            refine qcs (x0 == 8) hs (fun hb => ?_) fun hb => ?_
            · replace hm := bif_t hm hb
              refine wp_skip ?_
              exact hj14 (x0 == 8) hm _ _ (hs.go [1, 11, 19] [] 0 (by kernel_rfl) (by kernel_rfl) (by kernel_rfl))
            · replace hm := bif_f hm hb
              refine qsr fun K17 hK17 => ?_
              refine qpe 2 [(1, vi x1), (11, vi x0), (19, .bool (x0 == 9))] hs fun a hs => hK17 _ _ ?_
              clear hK17
              refine qcs (x0 == 9) hs (fun hb => ?_) fun hb => ?_
              · replace hm := bif_t hm hb
                refine wp_skip ?_
                exact hj14 (x0 == 9) hm _ _ (hs.go [1, 11, 19] [] 0 (by kernel_rfl) (by kernel_rfl) (by kernel_rfl))
              · replace hm := bif_f hm hb
                refine qsr fun K18 hK18 => ?_
                refine qpe 2 [(1, vi x1), (11, vi x0), (19, .bool (x0 == 10))] hs fun a hs => hK18 _ _ ?_
                clear hK18
                refine qcs (x0 == 10) hs (fun hb => ?_) fun hb => ?_
                · replace hm := bif_t hm hb
                  refine wp_skip ?_
                  exact hj14 (x0 == 10) hm _ _ (hs.go [1, 11, 19] [] 0 (by kernel_rfl) (by kernel_rfl) (by kernel_rfl))
                · replace hm := bif_f hm hb
                  refine Vk.region ?_
                  refine qpe 2 [(1, vi x1), (11, vi x0), (19, .bool (x0 == 11))] hs fun a hs => ?_
                  exact hj14 (x0 == 11) hm _ _ (hs.go [1, 11, 19] [] 0 (by kernel_rfl) (by kernel_rfl) (by kernel_rfl))
      refine qsr fun K11 hK11 => ?_
      refine qpe 2 [(1, vi x1), (11, vi x0), (16, .bool (x0 == 5))] hs fun a hs => hK11 _ _ ?_
      clear hK11
      refine qcs (x0 == 5) hs (fun hb => ?_) fun hb => ?_
      · replace hm := bif_t hm hb
        refine wp_skip ?_
        exact hj10 (x0 == 5) hm _ _ (hs.go [1, 11, 16] [] 0 (by kernel_rfl) (by kernel_rfl) (by kernel_rfl))
      · replace hm := bif_f hm hb
        refine Vk.region ?_
        refine qpe 2 [(1, vi x1), (11, vi x0), (16, .bool (x0 == 7))] hs fun a hs => ?_
        exact hj10 (x0 == 7) hm _ _ (hs.go [1, 11, 16] [] 0 (by kernel_rfl) (by kernel_rfl) (by kernel_rfl))


def visorref17_Right.j3 (k : Nat) (x0 : Tapi_Op) (p_67 : Bool) : Option (Bool) := (bif p_67 then some true else some (x0.c == 0))
def visorref17_Right.j2 (k : Nat) (x0 : Tapi_Op) (p_60 : Bool) : Option (Bool) := (bif p_60 then some (decide (x0.c < 64)) else (bif x0.kind == 2 then some (decide (x0.c < 1048576)) else (bif x0.kind == 3 then visorref17_Right.j3 k x0 (x0.kind == 3) else (bif x0.kind == 4 then visorref17_Right.j3 k x0 (x0.kind == 4) else visorref17_Right.j3 k x0 (x0.kind == 8)))))
def visorref17_Right.l1 (x0 : Tapi_Op) (x1 : Int) (x2 : Int) : Nat → Int → Option (Sum (Bool) (Unit))
  | 0, _ => none
  | k + 1, q_17 => (bif decide (q_17 < 3) then (visorref17_Regs.m k x0.kind x2).bind fun v_24 => (bif decide (q_17 < v_24) then (if 0 ≤ q_17 ∧ q_17 < 3 then (getI .i64 [ci x0.a, ci x0.b, ci x0.d] (0 + q_17.toNat * 1)).bind fun v_28 => (bif decide (v_28 < 0) then some (.inl false) else (if 0 ≤ q_17 ∧ q_17 < 3 then (getI .i64 [ci x0.a, ci x0.b, ci x0.d] (0 + q_17.toNat * 1)).bind fun v_32 => (bif decide (v_32 ≥ x1) then some (.inl false) else (visorref17_Regs.m k x0.kind x2).bind fun v_35 => (bif decide (q_17 ≥ v_35) then (if 0 ≤ q_17 ∧ q_17 < 3 then (getI .i64 [ci x0.a, ci x0.b, ci x0.d] (0 + q_17.toNat * 1)).bind fun v_39 => (bif v_39 != (-1) then some (.inl false) else visorref17_Right.l1 x0 x1 x2 k (IntKind.i64.wrap (q_17 + 1))) else none) else visorref17_Right.l1 x0 x1 x2 k (IntKind.i64.wrap (q_17 + 1)))) else none)) else none) else (visorref17_Regs.m k x0.kind x2).bind fun v_42 => (bif decide (q_17 ≥ v_42) then (if 0 ≤ q_17 ∧ q_17 < 3 then (getI .i64 [ci x0.a, ci x0.b, ci x0.d] (0 + q_17.toNat * 1)).bind fun v_46 => (bif v_46 != (-1) then some (.inl false) else visorref17_Right.l1 x0 x1 x2 k (IntKind.i64.wrap (q_17 + 1))) else none) else visorref17_Right.l1 x0 x1 x2 k (IntKind.i64.wrap (q_17 + 1)))) else some (.inr ()))
def visorref17_Right.j1 (k : Nat) (x0 : Tapi_Op) (x1 : Int) (x2 : Int) (p_10 : Bool) : Option (Bool) := (bif p_10 then some false else (visorref17_Right.l1 x0 x1 x2 k 0).bind fun x => match x with | .inl v => some v | .inr () => (bif x0.kind == 9 then visorref17_Right.j2 k x0 (x0.kind == 9) else (bif x0.kind == 10 then visorref17_Right.j2 k x0 (x0.kind == 10) else visorref17_Right.j2 k x0 (x0.kind == 11))))
abbrev visorref17_Right.R (κ : Ctx) (S : List HP) (x0 : Tapi_Op) (x1 : Int) (x2 : Int) (r : Bool) : Ending → World → Prop := fun e w' => e = .returned (.bool r) ∧ Own κ w' (S)
def visorref17_Right.m (k : Nat) (x0 : Tapi_Op) (x1 : Int) (x2 : Int) : Option Bool := (bif (((((x2 != 2) && (x2 != 3)) || (decide (x0.kind < 1))) || (decide (x0.kind > 12))) || (decide (x0.dom < (-1)))) || (decide (x0.dom ≥ x2)) then visorref17_Right.j1 k x0 x1 x2 true else (bif x0.kind == 12 then visorref17_Right.j1 k x0 x1 x2 (x0.dom != (-1)) else visorref17_Right.j1 k x0 x1 x2 false))

set_option maxRecDepth 100000 in
set_option maxHeartbeats 4000000 in
theorem visorref17_Right.ok (k : Nat) (x0 : Tapi_Op) (x1 : Int) (x2 : Int) (r : Bool) (hm : visorref17_Right.m k x0 x1 x2 = some r) (κ : Ctx) (w : World) (S : List HP) (ho : Own κ w (S)) :
    Calls Try.prog 126 #[.agg (vals [ci x0.kind, ci x0.dom, ci x0.a, ci x0.b, ci x0.d, cw x0.c]), vi x1, vi x2] w (visorref17_Right.R κ S x0 x1 x2 r) := by
  unfold visorref17_Right.m at hm
  generalize hRR : visorref17_Right.R κ S x0 x1 x2 r = RR
  refine qen [(0, .agg (vals [ci x0.kind, ci x0.dom, ci x0.a, ci x0.b, ci x0.d, cw x0.c])), (1, vi x1), (2, vi x2)] Try.func126 Try.ntmps126 ho fun a hs => ?_
  refine qsr fun K1 hK1 => ?_
  refine Vk.step (Vk.box (x := (.tmp 0)) 3 93 [ci x0.kind, ci x0.dom, ci x0.a, ci x0.b, ci x0.d, cw x0.c] hs (by kernel_rfl) (by kernel_rfl) (by kernel_rfl) fun b_2 w a hs => ?_)
  refine qpe 1 [(1, vi x1), (2, vi x2), (3, pp b_2)] hs fun a hs => hK1 _ _ ?_
  clear hK1
  refine Vk.seq fun K3 hK3 => ?_
  refine Vk.seq fun K4 hK4 => ?_
  have hj4 : ∀ (p_10 : Bool), visorref17_Right.j1 k x0 x1 x2 p_10 = some r → ∀ (a : Act) (w : World), St 111 a w κ [(1, vi x1), (2, vi x2), (3, pp b_2), (45, .bool p_10)] (pt b_2 (blk (Tapi_Op.cells x0) 93) :: S) → K4 a w := by
    intro p_10 hm a w hs
    unfold visorref17_Right.j1 at hm
    refine hK4 _ _ ?_
    refine qcs (p_10) hs (fun hb => ?_) fun hb => ?_
    · replace hm := bif_t hm hb
      refine qsr fun K11 hK11 => ?_
      refine qpe 1 [(6, .bool false)] hs fun a hs => hK11 _ _ ?_
      clear hK11
      refine wp_ret ?_
      exact Vk.ret1 (P := Try.prog) (fn := Try.f126) (R := RR) (.bool false) hs rfl (by kernel_rfl) (by obtain rfl := Option.some.inj hm; subst hRR; exact ⟨rfl, (Own.to hs.own [] 1 (by kernel_rfl) (by kernel_rfl))⟩)
    · replace hm := bif_f hm hb
      refine wp_skip ?_
      refine hK3 _ _ ?_
      clear hK3
      refine qsr fun K12 hK12 => ?_
      refine qpu 1 hs fun a hs => ?_
      refine qld 0 (ci x0.a) hs rfl fun a hs => ?_
      refine qpu 1 hs fun a hs => ?_
      refine qld 0 (ci x0.b) hs rfl fun a hs => ?_
      refine qpu 1 hs fun a hs => ?_
      refine qld 0 (ci x0.d) hs rfl fun a hs => ?_
      refine qpu 1 hs fun a hs => ?_
      refine Vk.step (Vk.alloc 7 26 [ci 0, ci 0, ci 0] hs (by kernel_rfl) (by kernel_rfl) (by kernel_rfl) fun b_13 w a hs => ?_)
      refine Vk.step (Vk.storeA (b := b_13) (ty := 26) (x := (.tmp 7)) (y := (.tmp 52)) (sz := 3) [ci x0.a, ci x0.b, ci x0.d] 0 hs (by kernel_rfl) (by kernel_rfl) (by kernel_rfl) (by kernel_rfl) (by kernel_rfl) rfl (by kernel_rfl) rfl (Eq.trans (b := 3) rfl (Eq.symm rfl)) fun a w hs => ?_)
      refine qpe 0 [(1, vi x1), (2, vi x2), (3, pp b_2), (7, pp b_13)] hs fun a hs => hK12 _ _ ?_
      clear hK12
      refine Vk.seq fun K14 hK14 => ?_
      refine qsr fun K15 hK15 => ?_
      refine qpe 1 [(1, vi x1), (2, vi x2), (3, pp b_2), (7, pp b_13), (8, vi 0)] hs fun a hs => hK15 _ _ ?_
      clear hK15
      refine wp_block ?_
      obtain ⟨r16, hl16, hm⟩ := bind_t hm
      have hx16 : r16 = Sum.inr () → ∀ (a : Act) (w : World), St 111 a w κ [(3, pp b_2)] (pt b_2 (blk (Tapi_Op.cells x0) 93) :: S) → K14 a w := by
        intro he a w hs
        subst r16
        refine hK14 _ _ ?_
        clear hK14
        refine Vk.seq fun K55 hK55 => ?_
        refine qsr fun K56 hK56 => ?_
        refine qpu 1 hs fun a hs => ?_
        refine qld 0 (ci x0.kind) hs rfl fun a hs => ?_
        refine qpe 0 [(3, pp b_2), (91, vi x0.kind)] hs fun a hs => hK56 _ _ ?_
        clear hK56
        refine wp_block ?_
        refine Vk.seq fun K57 hK57 => ?_
        have hj57 : ∀ (p_60 : Bool), visorref17_Right.j2 k x0 p_60 = some r → ∀ (a : Act) (w : World), St 111 a w κ [(3, pp b_2), (91, vi x0.kind), (92, .bool p_60)] (pt b_2 (blk (Tapi_Op.cells x0) 93) :: S) → K57 a w := by
          intro p_60 hm a w hs
          unfold visorref17_Right.j2 at hm
          refine hK57 _ _ ?_
          refine qcs (p_60) hs (fun hb => ?_) fun hb => ?_
          · replace hm := bif_t hm hb
            refine qsr fun K61 hK61 => ?_
            refine qpu 1 hs fun a hs => ?_
            refine qld 0 (cw x0.c) hs rfl fun a hs => ?_
            refine qpe 2 [(6, .bool (decide (x0.c < 64)))] hs fun a hs => hK61 _ _ ?_
            clear hK61
            refine wp_ret ?_
            exact Vk.ret1 (P := Try.prog) (fn := Try.f126) (R := RR) (.bool (decide (x0.c < 64))) hs rfl (by kernel_rfl) (by obtain rfl := Option.some.inj hm; subst hRR; exact ⟨rfl, (Own.to hs.own [] 1 (by kernel_rfl) (by kernel_rfl))⟩)
          · replace hm := bif_f hm hb
            refine qsr fun K62 hK62 => ?_
            refine qpe 2 [(3, pp b_2), (91, vi x0.kind), (99, .bool (x0.kind == 2))] hs fun a hs => hK62 _ _ ?_
            clear hK62
            refine qcs (x0.kind == 2) hs (fun hb => ?_) fun hb => ?_
            · replace hm := bif_t hm hb
              refine qsr fun K63 hK63 => ?_
              refine qpu 1 hs fun a hs => ?_
              refine qld 0 (cw x0.c) hs rfl fun a hs => ?_
              refine qpe 2 [(6, .bool (decide (x0.c < 1048576)))] hs fun a hs => hK63 _ _ ?_
              clear hK63
              refine wp_ret ?_
              exact Vk.ret1 (P := Try.prog) (fn := Try.f126) (R := RR) (.bool (decide (x0.c < 1048576))) hs rfl (by kernel_rfl) (by obtain rfl := Option.some.inj hm; subst hRR; exact ⟨rfl, (Own.to hs.own [] 1 (by kernel_rfl) (by kernel_rfl))⟩)
            · replace hm := bif_f hm hb
              refine Vk.seq fun K64 hK64 => ?_
              have hj64 : ∀ (p_67 : Bool), visorref17_Right.j3 k x0 p_67 = some r → ∀ (a : Act) (w : World), St 111 a w κ [(3, pp b_2), (104, .bool p_67)] (pt b_2 (blk (Tapi_Op.cells x0) 93) :: S) → K64 a w := by
                intro p_67 hm a w hs
                unfold visorref17_Right.j3 at hm
                refine hK64 _ _ ?_
                refine qcs (p_67) hs (fun hb => ?_) fun hb => ?_
                · replace hm := bif_t hm hb
                  refine qsr fun K68 hK68 => ?_
                  refine qpe 1 [(6, .bool true)] hs fun a hs => hK68 _ _ ?_
                  clear hK68
                  refine wp_ret ?_
                  exact Vk.ret1 (P := Try.prog) (fn := Try.f126) (R := RR) (.bool true) hs rfl (by kernel_rfl) (by obtain rfl := Option.some.inj hm; subst hRR; exact ⟨rfl, (Own.to hs.own [] 1 (by kernel_rfl) (by kernel_rfl))⟩)
                · replace hm := bif_f hm hb
                  refine wp_skip ?_
                  refine hK55 _ _ ?_
                  clear hK55
                  refine qsr fun K69 hK69 => ?_
                  refine qpu 1 hs fun a hs => ?_
                  refine qld 0 (cw x0.c) hs rfl fun a hs => ?_
                  refine qpe 2 [(6, .bool (x0.c == 0))] hs fun a hs => hK69 _ _ ?_
                  clear hK69
                  refine wp_ret ?_
                  exact Vk.ret1 (P := Try.prog) (fn := Try.f126) (R := RR) (.bool (x0.c == 0)) hs rfl (by kernel_rfl) (by obtain rfl := Option.some.inj hm; subst hRR; exact ⟨rfl, (Own.to hs.own [] 1 (by kernel_rfl) (by kernel_rfl))⟩)
              refine qsr fun K65 hK65 => ?_
              refine qpe 2 [(3, pp b_2), (91, vi x0.kind), (104, .bool (x0.kind == 3))] hs fun a hs => hK65 _ _ ?_
              clear hK65
              refine qcs (x0.kind == 3) hs (fun hb => ?_) fun hb => ?_
              · replace hm := bif_t hm hb
                refine wp_skip ?_
                exact hj64 (x0.kind == 3) hm _ _ (hs.go [3, 104] [0] 1 (by kernel_rfl) (by kernel_rfl) (by kernel_rfl))
              · replace hm := bif_f hm hb
                refine qsr fun K66 hK66 => ?_
                refine qpe 2 [(3, pp b_2), (91, vi x0.kind), (104, .bool (x0.kind == 4))] hs fun a hs => hK66 _ _ ?_
                clear hK66
                refine qcs (x0.kind == 4) hs (fun hb => ?_) fun hb => ?_
                · replace hm := bif_t hm hb
                  refine wp_skip ?_
                  exact hj64 (x0.kind == 4) hm _ _ (hs.go [3, 104] [0] 1 (by kernel_rfl) (by kernel_rfl) (by kernel_rfl))
                · replace hm := bif_f hm hb
                  refine Vk.region ?_
                  refine qpe 2 [(3, pp b_2), (104, .bool (x0.kind == 8))] hs fun a hs => ?_
                  exact hj64 (x0.kind == 8) hm _ _ (hs.go [3, 104] [0] 1 (by kernel_rfl) (by kernel_rfl) (by kernel_rfl))
        refine qsr fun K58 hK58 => ?_
        refine qpe 2 [(3, pp b_2), (91, vi x0.kind), (92, .bool (x0.kind == 9))] hs fun a hs => hK58 _ _ ?_
        clear hK58
        refine qcs (x0.kind == 9) hs (fun hb => ?_) fun hb => ?_
        · replace hm := bif_t hm hb
          refine wp_skip ?_
          exact hj57 (x0.kind == 9) hm _ _ (hs.go [3, 91, 92] [0] 1 (by kernel_rfl) (by kernel_rfl) (by kernel_rfl))
        · replace hm := bif_f hm hb
          refine qsr fun K59 hK59 => ?_
          refine qpe 2 [(3, pp b_2), (91, vi x0.kind), (92, .bool (x0.kind == 10))] hs fun a hs => hK59 _ _ ?_
          clear hK59
          refine qcs (x0.kind == 10) hs (fun hb => ?_) fun hb => ?_
          · replace hm := bif_t hm hb
            refine wp_skip ?_
            exact hj57 (x0.kind == 10) hm _ _ (hs.go [3, 91, 92] [0] 1 (by kernel_rfl) (by kernel_rfl) (by kernel_rfl))
          · replace hm := bif_f hm hb
            refine Vk.region ?_
            refine qpe 2 [(3, pp b_2), (91, vi x0.kind), (92, .bool (x0.kind == 11))] hs fun a hs => ?_
            exact hj57 (x0.kind == 11) hm _ _ (hs.go [3, 91, 92] [0] 1 (by kernel_rfl) (by kernel_rfl) (by kernel_rfl))
      have hret16 : ∀ v, r16 = Sum.inl v → v = r := by intro v he; subst r16; exact Option.some.inj hm
      refine Vk.loopBy (fun k (s : Int) a w => visorref17_Right.l1 x0 x1 x2 k s = some r16 ∧ St 111 a w κ [(1, vi x1), (2, vi x2), (3, pp b_2), (7, pp b_13), (8, vi s)] (pt b_2 (blk (Tapi_Op.cells x0) 93) :: pt b_13 (blk [ci x0.a, ci x0.b, ci x0.d] 26) :: S)) k 0 ⟨hl16, hs.go [1, 2, 3, 7, 8] [1, 0] 2 (by kernel_rfl) (by kernel_rfl) (by kernel_rfl)⟩ (fun s a w h => by obtain ⟨h1, _⟩ := h; simp [visorref17_Right.l1] at h1) (fun k KL16 ih q_17 a w h => ?_)
      obtain ⟨hm, hs⟩ := h
      try dsimp only at hm hs
      rw [visorref17_Right.l1] at hm
      refine Vk.seq fun K18 hK18 => ?_
      refine qsr fun K19 hK19 => ?_
      refine qpe 2 [(1, vi x1), (2, vi x2), (3, pp b_2), (7, pp b_13), (8, vi q_17), (54, .bool (decide (q_17 < 3)))] hs fun a hs => hK19 _ _ ?_
      clear hK19
      refine qcs (decide (q_17 < 3)) hs (fun hb => ?_) fun hb => ?_
      · replace hm := bif_t hm hb
        refine wp_skip ?_
        refine hK18 _ _ ?_
        clear hK18
        refine Vk.seq fun K20 hK20 => ?_
        refine wp_block ?_
        refine qsr fun K21 hK21 => ?_
        refine qpu 2 hs fun a hs => ?_
        refine qld 0 (ci x0.kind) hs rfl fun a hs => ?_
        refine qpu 1 hs fun a hs => ?_
        obtain ⟨v_24, h_23, hm⟩ := bind_t hm
        refine Vk.step (Vk.call (some 61) 162 #[vi x0.kind, vi x2] hs (by kernel_rfl) (by kernel_rfl) (by kernel_rfl) ?_)
        refine (visorref17_Regs.ok k x0.kind x2 v_24 h_23 κ w (pt b_2 (blk (Tapi_Op.cells x0) 93) :: pt b_13 (blk [ci x0.a, ci x0.b, ci x0.d] 26) :: S) hs.own).mono ?_
        rintro _ w ⟨rfl, how⟩
        refine ⟨_, _, _, rfl, how, fun a hs => ?_⟩
        refine qpu 2 hs fun a hs => ?_
        rcases Bool.eq_false_or_eq_true (decide (q_17 < v_24)) with hb | hb
        · replace hm := bif_t hm hb
          replace hs := hs.known (t := 63) hb (by kernel_rfl)
          refine qpu 1 hs fun a hs => ?_
          obtain ⟨h_26, hm⟩ := ite_t hm
          refine Vk.step (Vk.value (some 65) (.pointer (some ⟨b_13, 0 + q_17.toNat * 1, none⟩)) hs (by kernel_rfl) (op := (.indexAddr 26 (.tmp 7) (.tmp 64))) (by kernel_rfl) (fun o ho => run_idxArr (k := .i64) ho (by kernel_rfl) (by kernel_rfl) (by kernel_rfl) h_26 _) fun a hs => ?_)
          obtain ⟨v_28, h_27, hm⟩ := bind_t hm
          refine Vk.step (Vk.value (some 66) (vi v_28) hs (by kernel_rfl) (op := (.load 3 (.tmp 65))) (by kernel_rfl) (fun o ho => run_load1 (c := ci v_28) ho (by kernel_rfl) (by kernel_rfl) (Cell.own 1 rfl (getI_some h_27)) _ hs.own) fun a hs => ?_)
          refine qpu 2 hs fun a hs => ?_
          rcases Bool.eq_false_or_eq_true (decide (v_28 < 0)) with hb | hb
          · replace hm := bif_t hm hb
            replace hs := hs.known (t := 68) hb (by kernel_rfl)
            refine qpe 21 [(1, vi x1), (2, vi x2), (3, pp b_2), (7, pp b_13), (8, vi q_17), (64, vi q_17), (65, .pointer (some ⟨b_13, 0 + q_17.toNat * 1, none⟩)), (66, vi v_28), (67, .bool (decide (v_28 < 0))), (68, .bool true), (74, .bool true), (89, .bool true)] hs fun a hs => hK21 _ _ ?_
            refine qct hs ?_
            refine qsr fun K47 hK47 => ?_
            refine qpe 1 [(6, .bool false)] hs fun a hs => hK47 _ _ ?_
            clear hK47
            refine wp_ret ?_
            exact Vk.ret1 (P := Try.prog) (fn := Try.f126) (R := RR) (.bool false) hs rfl (by kernel_rfl) (by obtain rfl := hret16 _ ((Option.some.inj hm).symm); subst hRR; exact ⟨rfl, (Own.to hs.own [] 2 (by kernel_rfl) (by kernel_rfl))⟩)
          · replace hm := bif_f hm hb
            replace hs := hs.known (t := 68) hb (by kernel_rfl)
            refine qpu 1 hs fun a hs => ?_
            obtain ⟨h_30, hm⟩ := ite_t hm
            refine Vk.step (Vk.value (some 70) (.pointer (some ⟨b_13, 0 + q_17.toNat * 1, none⟩)) hs (by kernel_rfl) (op := (.indexAddr 26 (.tmp 7) (.tmp 69))) (by kernel_rfl) (fun o ho => run_idxArr (k := .i64) ho (by kernel_rfl) (by kernel_rfl) (by kernel_rfl) h_30 _) fun a hs => ?_)
            obtain ⟨v_32, h_31, hm⟩ := bind_t hm
            refine Vk.step (Vk.value (some 71) (vi v_32) hs (by kernel_rfl) (op := (.load 3 (.tmp 70))) (by kernel_rfl) (fun o ho => run_load1 (c := ci v_32) ho (by kernel_rfl) (by kernel_rfl) (Cell.own 1 rfl (getI_some h_31)) _ hs.own) fun a hs => ?_)
            refine qpu 5 hs fun a hs => ?_
            rcases Bool.eq_false_or_eq_true (decide (v_32 ≥ x1)) with hb | hb
            · replace hm := bif_t hm hb
              replace hs := hs.known (t := 76) hb (by kernel_rfl)
              refine qpe 13 [(1, vi x1), (2, vi x2), (3, pp b_2), (7, pp b_13), (8, vi q_17), (64, vi q_17), (65, .pointer (some ⟨b_13, 0 + q_17.toNat * 1, none⟩)), (66, vi v_28), (67, .bool (decide (v_28 < 0))), (68, .bool false), (69, vi q_17), (70, .pointer (some ⟨b_13, 0 + q_17.toNat * 1, none⟩)), (71, vi v_32), (72, vi x1), (73, .bool (decide (v_32 ≥ x1))), (74, .bool (decide (v_32 ≥ x1))), (89, .bool true)] hs fun a hs => hK21 _ _ ?_
              refine qct hs ?_
              refine qsr fun K48 hK48 => ?_
              refine qpe 1 [(6, .bool false)] hs fun a hs => hK48 _ _ ?_
              clear hK48
              refine wp_ret ?_
              exact Vk.ret1 (P := Try.prog) (fn := Try.f126) (R := RR) (.bool false) hs rfl (by kernel_rfl) (by obtain rfl := hret16 _ ((Option.some.inj hm).symm); subst hRR; exact ⟨rfl, (Own.to hs.own [] 2 (by kernel_rfl) (by kernel_rfl))⟩)
            · replace hm := bif_f hm hb
              replace hs := hs.known (t := 76) hb (by kernel_rfl)
              refine qpu 2 hs fun a hs => ?_
              refine qld 0 (ci x0.kind) hs rfl fun a hs => ?_
              refine qpu 1 hs fun a hs => ?_
              obtain ⟨v_35, h_34, hm⟩ := bind_t hm
              refine Vk.step (Vk.call (some 81) 162 #[vi x0.kind, vi x2] hs (by kernel_rfl) (by kernel_rfl) (by kernel_rfl) ?_)
              refine (visorref17_Regs.ok k x0.kind x2 v_35 h_34 κ w (pt b_2 (blk (Tapi_Op.cells x0) 93) :: pt b_13 (blk [ci x0.a, ci x0.b, ci x0.d] 26) :: S) hs.own).mono ?_
              rintro _ w ⟨rfl, how⟩
              refine ⟨_, _, _, rfl, how, fun a hs => ?_⟩
              refine qpu 2 hs fun a hs => ?_
              rcases Bool.eq_false_or_eq_true (decide (q_17 ≥ v_35)) with hb | hb
              · replace hm := bif_t hm hb
                replace hs := hs.known (t := 83) hb (by kernel_rfl)
                refine qpu 1 hs fun a hs => ?_
                obtain ⟨h_37, hm⟩ := ite_t hm
                refine Vk.step (Vk.value (some 85) (.pointer (some ⟨b_13, 0 + q_17.toNat * 1, none⟩)) hs (by kernel_rfl) (op := (.indexAddr 26 (.tmp 7) (.tmp 84))) (by kernel_rfl) (fun o ho => run_idxArr (k := .i64) ho (by kernel_rfl) (by kernel_rfl) (by kernel_rfl) h_37 _) fun a hs => ?_)
                obtain ⟨v_39, h_38, hm⟩ := bind_t hm
                refine Vk.step (Vk.value (some 86) (vi v_39) hs (by kernel_rfl) (op := (.load 3 (.tmp 85))) (by kernel_rfl) (fun o ho => run_load1 (c := ci v_39) ho (by kernel_rfl) (by kernel_rfl) (Cell.own 1 rfl (getI_some h_38)) _ hs.own) fun a hs => ?_)
                refine qpe 3 [(1, vi x1), (2, vi x2), (3, pp b_2), (7, pp b_13), (8, vi q_17), (64, vi q_17), (65, .pointer (some ⟨b_13, 0 + q_17.toNat * 1, none⟩)), (66, vi v_28), (67, .bool (decide (v_28 < 0))), (68, .bool false), (69, vi q_17), (70, .pointer (some ⟨b_13, 0 + q_17.toNat * 1, none⟩)), (71, vi v_32), (72, vi x1), (73, .bool (decide (v_32 ≥ x1))), (74, .bool (decide (v_32 ≥ x1))), (77, vi q_17), (78, pp b_2), (79, vi x0.kind), (80, vi x2), (81, vi v_35), (82, .bool (decide (q_17 ≥ v_35))), (83, .bool true), (84, vi q_17), (85, .pointer (some ⟨b_13, 0 + q_17.toNat * 1, none⟩)), (86, vi v_39), (87, .bool (v_39 != (-1))), (88, .bool (v_39 != (-1))), (89, .bool (v_39 != (-1)))] hs fun a hs => hK21 _ _ ?_
                refine qcs (v_39 != (-1)) hs (fun hb => ?_) fun hb => ?_
                · replace hm := bif_t hm hb
                  refine qsr fun K49 hK49 => ?_
                  refine qpe 1 [(6, .bool false)] hs fun a hs => hK49 _ _ ?_
                  clear hK49
                  refine wp_ret ?_
                  exact Vk.ret1 (P := Try.prog) (fn := Try.f126) (R := RR) (.bool false) hs rfl (by kernel_rfl) (by obtain rfl := hret16 _ ((Option.some.inj hm).symm); subst hRR; exact ⟨rfl, (Own.to hs.own [] 2 (by kernel_rfl) (by kernel_rfl))⟩)
                · replace hm := bif_f hm hb
                  refine wp_skip ?_
                  refine hK20 _ _ ?_
                  refine Vk.region ?_
                  refine qpe 3 [(1, vi x1), (2, vi x2), (3, pp b_2), (7, pp b_13), (8, vi (IntKind.i64.wrap (q_17 + 1))), (64, vi q_17), (65, .pointer (some ⟨b_13, 0 + q_17.toNat * 1, none⟩)), (66, vi v_28), (67, .bool (decide (v_28 < 0))), (68, .bool false), (69, vi q_17), (70, .pointer (some ⟨b_13, 0 + q_17.toNat * 1, none⟩)), (71, vi v_32), (72, vi x1), (73, .bool (decide (v_32 ≥ x1))), (74, .bool (decide (v_32 ≥ x1))), (77, vi q_17), (78, pp b_2), (79, vi x0.kind), (80, vi x2), (81, vi v_35), (82, .bool (decide (q_17 ≥ v_35))), (83, .bool true), (84, vi q_17), (85, .pointer (some ⟨b_13, 0 + q_17.toNat * 1, none⟩)), (86, vi v_39), (87, .bool (v_39 != (-1))), (88, .bool (v_39 != (-1)))] hs fun a hs => ?_
                  refine ih (IntKind.i64.wrap (q_17 + 1)) _ _ ⟨hm, hs.go [1, 2, 3, 7, 8] [0, 1] 2 (by kernel_rfl) (by kernel_rfl) (by kernel_rfl)⟩
              · replace hm := bif_f hm hb
                replace hs := hs.known (t := 83) hb (by kernel_rfl)
                refine qpe 6 [(1, vi x1), (2, vi x2), (3, pp b_2), (7, pp b_13), (8, vi q_17), (64, vi q_17), (65, .pointer (some ⟨b_13, 0 + q_17.toNat * 1, none⟩)), (66, vi v_28), (67, .bool (decide (v_28 < 0))), (68, .bool false), (69, vi q_17), (70, .pointer (some ⟨b_13, 0 + q_17.toNat * 1, none⟩)), (71, vi v_32), (72, vi x1), (73, .bool (decide (v_32 ≥ x1))), (74, .bool (decide (v_32 ≥ x1))), (77, vi q_17), (78, pp b_2), (79, vi x0.kind), (80, vi x2), (81, vi v_35), (82, .bool (decide (q_17 ≥ v_35))), (83, .bool false), (88, .bool false), (89, .bool false)] hs fun a hs => hK21 _ _ ?_
                refine qcf hs ?_
                refine wp_skip ?_
                refine hK20 _ _ ?_
                refine Vk.region ?_
                refine qpe 3 [(1, vi x1), (2, vi x2), (3, pp b_2), (7, pp b_13), (8, vi (IntKind.i64.wrap (q_17 + 1))), (64, vi q_17), (65, .pointer (some ⟨b_13, 0 + q_17.toNat * 1, none⟩)), (66, vi v_28), (67, .bool (decide (v_28 < 0))), (68, .bool false), (69, vi q_17), (70, .pointer (some ⟨b_13, 0 + q_17.toNat * 1, none⟩)), (71, vi v_32), (72, vi x1), (73, .bool (decide (v_32 ≥ x1))), (74, .bool (decide (v_32 ≥ x1))), (77, vi q_17), (78, pp b_2), (79, vi x0.kind), (80, vi x2), (81, vi v_35), (82, .bool (decide (q_17 ≥ v_35))), (83, .bool false), (88, .bool false)] hs fun a hs => ?_
                refine ih (IntKind.i64.wrap (q_17 + 1)) _ _ ⟨hm, hs.go [1, 2, 3, 7, 8] [0, 1] 2 (by kernel_rfl) (by kernel_rfl) (by kernel_rfl)⟩
        · replace hm := bif_f hm hb
          replace hs := hs.known (t := 63) hb (by kernel_rfl)
          refine qpu 15 hs fun a hs => ?_
          refine qld 0 (ci x0.kind) hs rfl fun a hs => ?_
          refine qpu 1 hs fun a hs => ?_
          obtain ⟨v_42, h_41, hm⟩ := bind_t hm
          refine Vk.step (Vk.call (some 81) 162 #[vi x0.kind, vi x2] hs (by kernel_rfl) (by kernel_rfl) (by kernel_rfl) ?_)
          refine (visorref17_Regs.ok k x0.kind x2 v_42 h_41 κ w (pt b_2 (blk (Tapi_Op.cells x0) 93) :: pt b_13 (blk [ci x0.a, ci x0.b, ci x0.d] 26) :: S) hs.own).mono ?_
          rintro _ w ⟨rfl, how⟩
          refine ⟨_, _, _, rfl, how, fun a hs => ?_⟩
          refine qpu 2 hs fun a hs => ?_
          rcases Bool.eq_false_or_eq_true (decide (q_17 ≥ v_42)) with hb | hb
          · replace hm := bif_t hm hb
            replace hs := hs.known (t := 83) hb (by kernel_rfl)
            refine qpu 1 hs fun a hs => ?_
            obtain ⟨h_44, hm⟩ := ite_t hm
            refine Vk.step (Vk.value (some 85) (.pointer (some ⟨b_13, 0 + q_17.toNat * 1, none⟩)) hs (by kernel_rfl) (op := (.indexAddr 26 (.tmp 7) (.tmp 84))) (by kernel_rfl) (fun o ho => run_idxArr (k := .i64) ho (by kernel_rfl) (by kernel_rfl) (by kernel_rfl) h_44 _) fun a hs => ?_)
            obtain ⟨v_46, h_45, hm⟩ := bind_t hm
            refine Vk.step (Vk.value (some 86) (vi v_46) hs (by kernel_rfl) (op := (.load 3 (.tmp 85))) (by kernel_rfl) (fun o ho => run_load1 (c := ci v_46) ho (by kernel_rfl) (by kernel_rfl) (Cell.own 1 rfl (getI_some h_45)) _ hs.own) fun a hs => ?_)
            refine qpe 3 [(1, vi x1), (2, vi x2), (3, pp b_2), (7, pp b_13), (8, vi q_17), (77, vi q_17), (78, pp b_2), (79, vi x0.kind), (80, vi x2), (81, vi v_42), (82, .bool (decide (q_17 ≥ v_42))), (83, .bool true), (84, vi q_17), (85, .pointer (some ⟨b_13, 0 + q_17.toNat * 1, none⟩)), (86, vi v_46), (87, .bool (v_46 != (-1))), (88, .bool (v_46 != (-1))), (89, .bool (v_46 != (-1)))] hs fun a hs => hK21 _ _ ?_
            refine qcs (v_46 != (-1)) hs (fun hb => ?_) fun hb => ?_
            · replace hm := bif_t hm hb
              refine qsr fun K50 hK50 => ?_
              refine qpe 1 [(6, .bool false)] hs fun a hs => hK50 _ _ ?_
              clear hK50
              refine wp_ret ?_
              exact Vk.ret1 (P := Try.prog) (fn := Try.f126) (R := RR) (.bool false) hs rfl (by kernel_rfl) (by obtain rfl := hret16 _ ((Option.some.inj hm).symm); subst hRR; exact ⟨rfl, (Own.to hs.own [] 2 (by kernel_rfl) (by kernel_rfl))⟩)
            · replace hm := bif_f hm hb
              refine wp_skip ?_
              refine hK20 _ _ ?_
              refine Vk.region ?_
              refine qpe 3 [(1, vi x1), (2, vi x2), (3, pp b_2), (7, pp b_13), (8, vi (IntKind.i64.wrap (q_17 + 1))), (77, vi q_17), (78, pp b_2), (79, vi x0.kind), (80, vi x2), (81, vi v_42), (82, .bool (decide (q_17 ≥ v_42))), (83, .bool true), (84, vi q_17), (85, .pointer (some ⟨b_13, 0 + q_17.toNat * 1, none⟩)), (86, vi v_46), (87, .bool (v_46 != (-1))), (88, .bool (v_46 != (-1)))] hs fun a hs => ?_
              refine ih (IntKind.i64.wrap (q_17 + 1)) _ _ ⟨hm, hs.go [1, 2, 3, 7, 8] [0, 1] 2 (by kernel_rfl) (by kernel_rfl) (by kernel_rfl)⟩
          · replace hm := bif_f hm hb
            replace hs := hs.known (t := 83) hb (by kernel_rfl)
            refine qpe 6 [(1, vi x1), (2, vi x2), (3, pp b_2), (7, pp b_13), (8, vi q_17), (77, vi q_17), (78, pp b_2), (79, vi x0.kind), (80, vi x2), (81, vi v_42), (82, .bool (decide (q_17 ≥ v_42))), (83, .bool false), (88, .bool false), (89, .bool false)] hs fun a hs => hK21 _ _ ?_
            refine qcf hs ?_
            refine wp_skip ?_
            refine hK20 _ _ ?_
            refine Vk.region ?_
            refine qpe 3 [(1, vi x1), (2, vi x2), (3, pp b_2), (7, pp b_13), (8, vi (IntKind.i64.wrap (q_17 + 1))), (77, vi q_17), (78, pp b_2), (79, vi x0.kind), (80, vi x2), (81, vi v_42), (82, .bool (decide (q_17 ≥ v_42))), (83, .bool false), (88, .bool false)] hs fun a hs => ?_
            refine ih (IntKind.i64.wrap (q_17 + 1)) _ _ ⟨hm, hs.go [1, 2, 3, 7, 8] [0, 1] 2 (by kernel_rfl) (by kernel_rfl) (by kernel_rfl)⟩
      · replace hm := bif_f hm hb
        refine wp_exit ?_
        exact hx16 (Option.some.inj hm).symm _ _ (hs.go [3] [0] 2 (by kernel_rfl) (by kernel_rfl) (by kernel_rfl))
  refine Vk.region ?_
  refine qpu 3 hs fun a hs => ?_
  suffices hj_5 : ∀ a, St 111 a w κ [(1, vi x1), (2, vi x2), (3, pp b_2), (9, vi x2), (10, .bool (x2 != 2)), (11, .bool (x2 != 2)), (14, .bool ((x2 != 2) && (x2 != 3)))] (pt b_2 (blk (Tapi_Op.cells x0) 93) :: S) → wpFrom Try.prog _ _ 6 a w by
    rcases Bool.eq_false_or_eq_true (x2 != 2) with hb | hb
    · replace hs := hs.known (t := 11) hb (by kernel_rfl)
      refine qpu 3 hs fun a hs => ?_
      have hq := hs.pick [1, 2, 3, 9, 10, 11, 14] (L' := [(1, vi x1), (2, vi x2), (3, pp b_2), (9, vi x2), (10, .bool (x2 != 2)), (11, .bool true), (14, .bool (x2 != 3))]) (by kernel_rfl)
      exact hj_5 _ (hq.conv (by first | (rw [hb] <;> rfl) | rfl))
    · replace hs := hs.known (t := 11) hb (by kernel_rfl)
      refine qpu 3 hs fun a hs => ?_
      have hq := hs.pick [1, 2, 3, 9, 10, 11, 14] (L' := [(1, vi x1), (2, vi x2), (3, pp b_2), (9, vi x2), (10, .bool (x2 != 2)), (11, .bool false), (14, .bool false)]) (by kernel_rfl)
      exact hj_5 _ (hq.conv (by first | (rw [hb] <;> rfl) | rfl))
  intro a hs
  refine qpu 1 hs fun a hs => ?_
  suffices hj_6 : ∀ a, St 111 a w κ [(1, vi x1), (2, vi x2), (3, pp b_2), (9, vi x2), (10, .bool (x2 != 2)), (11, .bool (x2 != 2)), (14, .bool ((x2 != 2) && (x2 != 3))), (15, .bool ((x2 != 2) && (x2 != 3))), (19, .bool (((x2 != 2) && (x2 != 3)) || (decide (x0.kind < 1))))] (pt b_2 (blk (Tapi_Op.cells x0) 93) :: S) → wpFrom Try.prog _ _ 11 a w by
    rcases Bool.eq_false_or_eq_true ((x2 != 2) && (x2 != 3)) with hb | hb
    · replace hs := hs.known (t := 15) hb (by kernel_rfl)
      refine qpu 4 hs fun a hs => ?_
      have hq := hs.pick [1, 2, 3, 9, 10, 11, 14, 15, 19] (L' := [(1, vi x1), (2, vi x2), (3, pp b_2), (9, vi x2), (10, .bool (x2 != 2)), (11, .bool (x2 != 2)), (14, .bool ((x2 != 2) && (x2 != 3))), (15, .bool true), (19, .bool true)]) (by kernel_rfl)
      exact hj_6 _ (hq.conv (by first | (rw [hb] <;> rfl) | rfl))
    · replace hs := hs.known (t := 15) hb (by kernel_rfl)
      refine qpu 1 hs fun a hs => ?_
      refine qld 0 (ci x0.kind) hs rfl fun a hs => ?_
      refine qpu 2 hs fun a hs => ?_
      have hq := hs.pick [1, 2, 3, 9, 10, 11, 14, 15, 19] (L' := [(1, vi x1), (2, vi x2), (3, pp b_2), (9, vi x2), (10, .bool (x2 != 2)), (11, .bool (x2 != 2)), (14, .bool ((x2 != 2) && (x2 != 3))), (15, .bool false), (19, .bool (decide (x0.kind < 1)))]) (by kernel_rfl)
      exact hj_6 _ (hq.conv (by first | (rw [hb] <;> rfl) | rfl))
  intro a hs
  refine qpu 1 hs fun a hs => ?_
  suffices hj_7 : ∀ a, St 111 a w κ [(1, vi x1), (2, vi x2), (3, pp b_2), (9, vi x2), (10, .bool (x2 != 2)), (11, .bool (x2 != 2)), (14, .bool ((x2 != 2) && (x2 != 3))), (15, .bool ((x2 != 2) && (x2 != 3))), (19, .bool (((x2 != 2) && (x2 != 3)) || (decide (x0.kind < 1)))), (20, .bool (((x2 != 2) && (x2 != 3)) || (decide (x0.kind < 1)))), (24, .bool ((((x2 != 2) && (x2 != 3)) || (decide (x0.kind < 1))) || (decide (x0.kind > 12))))] (pt b_2 (blk (Tapi_Op.cells x0) 93) :: S) → wpFrom Try.prog _ _ 16 a w by
    rcases Bool.eq_false_or_eq_true (((x2 != 2) && (x2 != 3)) || (decide (x0.kind < 1))) with hb | hb
    · replace hs := hs.known (t := 20) hb (by kernel_rfl)
      refine qpu 4 hs fun a hs => ?_
      have hq := hs.pick [1, 2, 3, 9, 10, 11, 14, 15, 19, 20, 24] (L' := [(1, vi x1), (2, vi x2), (3, pp b_2), (9, vi x2), (10, .bool (x2 != 2)), (11, .bool (x2 != 2)), (14, .bool ((x2 != 2) && (x2 != 3))), (15, .bool ((x2 != 2) && (x2 != 3))), (19, .bool (((x2 != 2) && (x2 != 3)) || (decide (x0.kind < 1)))), (20, .bool true), (24, .bool true)]) (by kernel_rfl)
      exact hj_7 _ (hq.conv (by first | (rw [hb] <;> rfl) | rfl))
    · replace hs := hs.known (t := 20) hb (by kernel_rfl)
      refine qpu 1 hs fun a hs => ?_
      refine qld 0 (ci x0.kind) hs rfl fun a hs => ?_
      refine qpu 2 hs fun a hs => ?_
      have hq := hs.pick [1, 2, 3, 9, 10, 11, 14, 15, 19, 20, 24] (L' := [(1, vi x1), (2, vi x2), (3, pp b_2), (9, vi x2), (10, .bool (x2 != 2)), (11, .bool (x2 != 2)), (14, .bool ((x2 != 2) && (x2 != 3))), (15, .bool ((x2 != 2) && (x2 != 3))), (19, .bool (((x2 != 2) && (x2 != 3)) || (decide (x0.kind < 1)))), (20, .bool false), (24, .bool (decide (x0.kind > 12)))]) (by kernel_rfl)
      exact hj_7 _ (hq.conv (by first | (rw [hb] <;> rfl) | rfl))
  intro a hs
  refine qpu 1 hs fun a hs => ?_
  suffices hj_8 : ∀ a, St 111 a w κ [(1, vi x1), (2, vi x2), (3, pp b_2), (9, vi x2), (10, .bool (x2 != 2)), (11, .bool (x2 != 2)), (14, .bool ((x2 != 2) && (x2 != 3))), (15, .bool ((x2 != 2) && (x2 != 3))), (19, .bool (((x2 != 2) && (x2 != 3)) || (decide (x0.kind < 1)))), (20, .bool (((x2 != 2) && (x2 != 3)) || (decide (x0.kind < 1)))), (24, .bool ((((x2 != 2) && (x2 != 3)) || (decide (x0.kind < 1))) || (decide (x0.kind > 12)))), (25, .bool ((((x2 != 2) && (x2 != 3)) || (decide (x0.kind < 1))) || (decide (x0.kind > 12)))), (29, .bool (((((x2 != 2) && (x2 != 3)) || (decide (x0.kind < 1))) || (decide (x0.kind > 12))) || (decide (x0.dom < (-1)))))] (pt b_2 (blk (Tapi_Op.cells x0) 93) :: S) → wpFrom Try.prog _ _ 21 a w by
    rcases Bool.eq_false_or_eq_true ((((x2 != 2) && (x2 != 3)) || (decide (x0.kind < 1))) || (decide (x0.kind > 12))) with hb | hb
    · replace hs := hs.known (t := 25) hb (by kernel_rfl)
      refine qpu 4 hs fun a hs => ?_
      have hq := hs.pick [1, 2, 3, 9, 10, 11, 14, 15, 19, 20, 24, 25, 29] (L' := [(1, vi x1), (2, vi x2), (3, pp b_2), (9, vi x2), (10, .bool (x2 != 2)), (11, .bool (x2 != 2)), (14, .bool ((x2 != 2) && (x2 != 3))), (15, .bool ((x2 != 2) && (x2 != 3))), (19, .bool (((x2 != 2) && (x2 != 3)) || (decide (x0.kind < 1)))), (20, .bool (((x2 != 2) && (x2 != 3)) || (decide (x0.kind < 1)))), (24, .bool ((((x2 != 2) && (x2 != 3)) || (decide (x0.kind < 1))) || (decide (x0.kind > 12)))), (25, .bool true), (29, .bool true)]) (by kernel_rfl)
      exact hj_8 _ (hq.conv (by first | (rw [hb] <;> rfl) | rfl))
    · replace hs := hs.known (t := 25) hb (by kernel_rfl)
      refine qpu 1 hs fun a hs => ?_
      refine qld 0 (ci x0.dom) hs rfl fun a hs => ?_
      refine qpu 2 hs fun a hs => ?_
      have hq := hs.pick [1, 2, 3, 9, 10, 11, 14, 15, 19, 20, 24, 25, 29] (L' := [(1, vi x1), (2, vi x2), (3, pp b_2), (9, vi x2), (10, .bool (x2 != 2)), (11, .bool (x2 != 2)), (14, .bool ((x2 != 2) && (x2 != 3))), (15, .bool ((x2 != 2) && (x2 != 3))), (19, .bool (((x2 != 2) && (x2 != 3)) || (decide (x0.kind < 1)))), (20, .bool (((x2 != 2) && (x2 != 3)) || (decide (x0.kind < 1)))), (24, .bool ((((x2 != 2) && (x2 != 3)) || (decide (x0.kind < 1))) || (decide (x0.kind > 12)))), (25, .bool false), (29, .bool (decide (x0.dom < (-1))))]) (by kernel_rfl)
      exact hj_8 _ (hq.conv (by first | (rw [hb] <;> rfl) | rfl))
  intro a hs
  refine qpu 1 hs fun a hs => ?_
  suffices hj_9 : ∀ a, St 111 a w κ [(1, vi x1), (2, vi x2), (3, pp b_2), (9, vi x2), (10, .bool (x2 != 2)), (11, .bool (x2 != 2)), (14, .bool ((x2 != 2) && (x2 != 3))), (15, .bool ((x2 != 2) && (x2 != 3))), (19, .bool (((x2 != 2) && (x2 != 3)) || (decide (x0.kind < 1)))), (20, .bool (((x2 != 2) && (x2 != 3)) || (decide (x0.kind < 1)))), (24, .bool ((((x2 != 2) && (x2 != 3)) || (decide (x0.kind < 1))) || (decide (x0.kind > 12)))), (25, .bool ((((x2 != 2) && (x2 != 3)) || (decide (x0.kind < 1))) || (decide (x0.kind > 12)))), (29, .bool (((((x2 != 2) && (x2 != 3)) || (decide (x0.kind < 1))) || (decide (x0.kind > 12))) || (decide (x0.dom < (-1))))), (30, .bool (((((x2 != 2) && (x2 != 3)) || (decide (x0.kind < 1))) || (decide (x0.kind > 12))) || (decide (x0.dom < (-1))))), (35, .bool ((((((x2 != 2) && (x2 != 3)) || (decide (x0.kind < 1))) || (decide (x0.kind > 12))) || (decide (x0.dom < (-1)))) || (decide (x0.dom ≥ x2))))] (pt b_2 (blk (Tapi_Op.cells x0) 93) :: S) → wpFrom Try.prog _ _ 27 a w by
    rcases Bool.eq_false_or_eq_true (((((x2 != 2) && (x2 != 3)) || (decide (x0.kind < 1))) || (decide (x0.kind > 12))) || (decide (x0.dom < (-1)))) with hb | hb
    · replace hs := hs.known (t := 30) hb (by kernel_rfl)
      refine qpu 5 hs fun a hs => ?_
      have hq := hs.pick [1, 2, 3, 9, 10, 11, 14, 15, 19, 20, 24, 25, 29, 30, 35] (L' := [(1, vi x1), (2, vi x2), (3, pp b_2), (9, vi x2), (10, .bool (x2 != 2)), (11, .bool (x2 != 2)), (14, .bool ((x2 != 2) && (x2 != 3))), (15, .bool ((x2 != 2) && (x2 != 3))), (19, .bool (((x2 != 2) && (x2 != 3)) || (decide (x0.kind < 1)))), (20, .bool (((x2 != 2) && (x2 != 3)) || (decide (x0.kind < 1)))), (24, .bool ((((x2 != 2) && (x2 != 3)) || (decide (x0.kind < 1))) || (decide (x0.kind > 12)))), (25, .bool ((((x2 != 2) && (x2 != 3)) || (decide (x0.kind < 1))) || (decide (x0.kind > 12)))), (29, .bool (((((x2 != 2) && (x2 != 3)) || (decide (x0.kind < 1))) || (decide (x0.kind > 12))) || (decide (x0.dom < (-1))))), (30, .bool true), (35, .bool true)]) (by kernel_rfl)
      exact hj_9 _ (hq.conv (by first | (rw [hb] <;> rfl) | rfl))
    · replace hs := hs.known (t := 30) hb (by kernel_rfl)
      refine qpu 1 hs fun a hs => ?_
      refine qld 0 (ci x0.dom) hs rfl fun a hs => ?_
      refine qpu 3 hs fun a hs => ?_
      have hq := hs.pick [1, 2, 3, 9, 10, 11, 14, 15, 19, 20, 24, 25, 29, 30, 35] (L' := [(1, vi x1), (2, vi x2), (3, pp b_2), (9, vi x2), (10, .bool (x2 != 2)), (11, .bool (x2 != 2)), (14, .bool ((x2 != 2) && (x2 != 3))), (15, .bool ((x2 != 2) && (x2 != 3))), (19, .bool (((x2 != 2) && (x2 != 3)) || (decide (x0.kind < 1)))), (20, .bool (((x2 != 2) && (x2 != 3)) || (decide (x0.kind < 1)))), (24, .bool ((((x2 != 2) && (x2 != 3)) || (decide (x0.kind < 1))) || (decide (x0.kind > 12)))), (25, .bool ((((x2 != 2) && (x2 != 3)) || (decide (x0.kind < 1))) || (decide (x0.kind > 12)))), (29, .bool (((((x2 != 2) && (x2 != 3)) || (decide (x0.kind < 1))) || (decide (x0.kind > 12))) || (decide (x0.dom < (-1))))), (30, .bool false), (35, .bool (decide (x0.dom ≥ x2)))]) (by kernel_rfl)
      exact hj_9 _ (hq.conv (by first | (rw [hb] <;> rfl) | rfl))
  intro a hs
  refine qpu 1 hs fun a hs => ?_
  rcases Bool.eq_false_or_eq_true ((((((x2 != 2) && (x2 != 3)) || (decide (x0.kind < 1))) || (decide (x0.kind > 12))) || (decide (x0.dom < (-1)))) || (decide (x0.dom ≥ x2))) with hb | hb
  · replace hm := bif_t hm hb
    replace hs := hs.known (t := 36) hb (by kernel_rfl)
    refine qpe 9 [(1, vi x1), (2, vi x2), (3, pp b_2), (45, .bool true)] hs fun a hs => ?_
    exact hj4 true hm _ _ (hs.go [1, 2, 3, 45] [0] 1 (by kernel_rfl) (by kernel_rfl) (by kernel_rfl))
  · replace hm := bif_f hm hb
    replace hs := hs.known (t := 36) hb (by kernel_rfl)
    refine qpu 1 hs fun a hs => ?_
    refine qld 0 (ci x0.kind) hs rfl fun a hs => ?_
    refine qpu 2 hs fun a hs => ?_
    rcases Bool.eq_false_or_eq_true (x0.kind == 12) with hb | hb
    · replace hm := bif_t hm hb
      replace hs := hs.known (t := 40) hb (by kernel_rfl)
      refine qpu 1 hs fun a hs => ?_
      refine qld 0 (ci x0.dom) hs rfl fun a hs => ?_
      refine qpe 3 [(1, vi x1), (2, vi x2), (3, pp b_2), (45, .bool (x0.dom != (-1)))] hs fun a hs => ?_
      exact hj4 (x0.dom != (-1)) hm _ _ (hs.go [1, 2, 3, 45] [0] 1 (by kernel_rfl) (by kernel_rfl) (by kernel_rfl))
    · replace hm := bif_f hm hb
      replace hs := hs.known (t := 40) hb (by kernel_rfl)
      refine qpe 5 [(1, vi x1), (2, vi x2), (3, pp b_2), (45, .bool false)] hs fun a hs => ?_
      exact hj4 false hm _ _ (hs.go [1, 2, 3, 45] [0] 1 (by kernel_rfl) (by kernel_rfl) (by kernel_rfl))


def visorref19_M_Fails.j1 (k : Nat) (p_9 : Tvisorref19_M) : Option ((Int × Tvisorref19_M)) := some ((-1), p_9)
abbrev visorref19_M_Fails.R (κ : Ctx) (S : List HP) (x0 : Tvisorref19_M) (x1 : Int) (b_x0 : Nat) (r : (Int × Tvisorref19_M)) : Ending → World → Prop := fun e w' => e = .returned (vi r.1) ∧ Own κ w' (Tvisorref19_M.own κ b_x0 r.2 :: S)
def visorref19_M_Fails.m (k : Nat) (x0 : Tvisorref19_M) (x1 : Int) : Option (Int × Tvisorref19_M) := (bif x0.e == 0 then visorref19_M_Fails.j1 k (⟨x0.n, x0.most, x0.words, x0.draws, x0.fromF, x0.skip, x0.kind, x1, x0.ops, x0.blocks, x0.val, x0.tape, x0.dry⟩ : Tvisorref19_M) else visorref19_M_Fails.j1 k x0)

set_option maxRecDepth 100000 in
set_option maxHeartbeats 4000000 in
theorem visorref19_M_Fails.ok (k : Nat) (x0 : Tvisorref19_M) (x1 : Int) (r : (Int × Tvisorref19_M)) (hm : visorref19_M_Fails.m k x0 x1 = some r) (κ : Ctx) (w : World) (S : List HP) (b_x0 : Nat) (ho : Own κ w (Tvisorref19_M.own κ b_x0 x0 :: S)) :
    Calls Try.prog 128 #[pp b_x0, vi x1] w (visorref19_M_Fails.R κ S x0 x1 b_x0 r) := by
  unfold visorref19_M_Fails.m at hm
  generalize hRR : visorref19_M_Fails.R κ S x0 x1 b_x0 r = RR
  refine qen [(0, pp b_x0), (1, vi x1)] Try.func128 Try.ntmps128 ho fun a hs => ?_
  refine qsr fun K1 hK1 => ?_
  refine qpe 1 [(0, pp b_x0), (1, vi x1)] hs fun a hs => hK1 _ _ ?_
  clear hK1
  refine Vk.seq fun K2 hK2 => ?_
  have hj2 : ∀ (p_9 : Tvisorref19_M), visorref19_M_Fails.j1 k p_9 = some r → ∀ (a : Act) (w : World), St 14 a w κ [] (Tvisorref19_M.own κ b_x0 p_9 :: S) → K2 a w := by
    intro p_9 hm a w hs
    unfold visorref19_M_Fails.j1 at hm
    refine hK2 _ _ ?_
    refine qsr fun K10 hK10 => ?_
    refine qpe 1 [(4, vi (-1))] hs fun a hs => hK10 _ _ ?_
    clear hK10
    refine wp_ret ?_
    exact Vk.ret1 (P := Try.prog) (fn := Try.f128) (R := RR) (vi (-1)) hs rfl (by kernel_rfl) (by obtain rfl := Option.some.inj hm; subst hRR; exact ⟨rfl, (Own.to hs.own [0] 1 (by kernel_rfl) (by kernel_rfl))⟩)
  refine qsr fun K3 hK3 => ?_
  refine qpu 3 hs fun a hs => ?_
  obtain ⟨g_4, hs⟩ := hs.unbag 0 rfl
  refine qld 0 (ci x0.e) hs rfl fun a hs => ?_
  refine qpe 1 [(0, pp b_x0), (1, vi x1), (9, .bool (x0.e == 0))] hs fun a hs => hK3 _ _ ?_
  clear hK3
  refine qcs (x0.e == 0) hs (fun hb => ?_) fun hb => ?_
  · replace hm := bif_t hm hb
    refine Vk.region ?_
    refine qpu 4 hs fun a hs => ?_
    refine Vk.step (Vk.store1 (b := b_x0) (ty := 51) (x := (.tmp 13)) (y := (.tmp 11)) (off := 7) (ci x1) 0 hs (by kernel_rfl) (by kernel_rfl) (by kernel_rfl) (by kernel_rfl) (by kernel_rfl) (by kernel_rfl) rfl (Nat.le_of_ble_eq_true (by kernel_rfl)) fun a w hs => ?_)
    refine qpe 0 [] hs fun a hs => ?_
    replace hs := hs.bagG (l := Tvisorref19_M.parts κ b_x0 (⟨x0.n, x0.most, x0.words, x0.draws, x0.fromF, x0.skip, x0.kind, x1, x0.ops, x0.blocks, x0.val, x0.tape, x0.dry⟩ : Tvisorref19_M) g_4) (S' := S) (Own.to hs.own [0, 1, 2, 3, 4] 5 (by kernel_rfl) (by kernel_rfl))
    replace hs := hs.toEx (Tvisorref19_M.parts κ b_x0 (⟨x0.n, x0.most, x0.words, x0.draws, x0.fromF, x0.skip, x0.kind, x1, x0.ops, x0.blocks, x0.val, x0.tape, x0.dry⟩ : Tvisorref19_M)) g_4 0 rfl
    exact hj2 (⟨x0.n, x0.most, x0.words, x0.draws, x0.fromF, x0.skip, x0.kind, x1, x0.ops, x0.blocks, x0.val, x0.tape, x0.dry⟩ : Tvisorref19_M) hm _ _ (hs.go [] [0] 1 (by kernel_rfl) (by kernel_rfl) (by kernel_rfl))
  · replace hm := bif_f hm hb
    refine wp_skip ?_
    replace hs := hs.bagG (l := Tvisorref19_M.parts κ b_x0 x0 g_4) (S' := S) (Own.to hs.own [0, 1, 2, 3, 4] 5 (by kernel_rfl) (by kernel_rfl))
    replace hs := hs.toEx (Tvisorref19_M.parts κ b_x0 x0) g_4 0 rfl
    exact hj2 x0 hm _ _ (hs.go [] [0] 1 (by kernel_rfl) (by kernel_rfl) (by kernel_rfl))


abbrev visorref02_T_Draw.R (κ : Ctx) (S : List HP) (x0 : Tvisorref02_T) (b_x0 : Nat) (r : (Int × Bool × Tvisorref02_T)) : Ending → World → Prop := fun e w' => e = .returned (.tuple #[vw r.1, .bool r.2.1]) ∧ Own κ w' (Tvisorref02_T.own κ b_x0 r.2.2 :: S)
def visorref02_T_Draw.m (k : Nat) (x0 : Tvisorref02_T) : Option (Int × Bool × Tvisorref02_T) := (bif (decide (x0.free < 1)) || (((x0.l.length : Nat) : Int) == 0) then some (0, false, x0) else (if 0 ≤ (0 : Int) then (x0.l[0]?).bind fun e_12 => (if ((0 : Int) ≤ 1) ∧ 1 ≤ x0.l.length ∧ x0.l.length ≤ x0.l.length then some (e_12, true, (⟨cut x0.l (1) (x0.l.length), IntKind.i64.wrap (x0.used + 1), IntKind.i64.wrap (x0.free - 1)⟩ : Tvisorref02_T)) else none) else none))

set_option maxRecDepth 100000 in
set_option maxHeartbeats 4000000 in
theorem visorref02_T_Draw.ok (k : Nat) (x0 : Tvisorref02_T) (r : (Int × Bool × Tvisorref02_T)) (hm : visorref02_T_Draw.m k x0 = some r) (κ : Ctx) (w : World) (S : List HP) (b_x0 : Nat) (ho : Own κ w (Tvisorref02_T.own κ b_x0 x0 :: S)) :
    Calls Try.prog 129 #[pp b_x0] w (visorref02_T_Draw.R κ S x0 b_x0 r) := by
  unfold visorref02_T_Draw.m at hm
  generalize hRR : visorref02_T_Draw.R κ S x0 b_x0 r = RR
  refine qen [(0, pp b_x0)] Try.func129 Try.ntmps129 ho fun a hs => ?_
  refine qsr fun K1 hK1 => ?_
  refine qpe 2 [(0, pp b_x0)] hs fun a hs => hK1 _ _ ?_
  clear hK1
  refine Vk.seq fun K2 hK2 => ?_
  refine qsr fun K3 hK3 => ?_
  refine qpu 3 hs fun a hs => ?_
  obtain ⟨g_4, hs⟩ := hs.unbag 0 rfl
  refine qld 0 (ci x0.free) hs rfl fun a hs => ?_
  refine qpu 2 hs fun a hs => ?_
  suffices hj_6 : ∀ a, St 49 a w κ [(0, pp b_x0), (5, pp b_x0), (6, pp b_x0), (7, .pointer (some ⟨b_x0, 2, none⟩)), (8, vi x0.free), (9, .bool (decide (x0.free < 1))), (10, .bool (decide (x0.free < 1))), (17, .bool ((decide (x0.free < 1)) || (((x0.l.length : Nat) : Int) == 0)))] (pt b_x0 (blk (Tvisorref02_T.obj x0 g_4.1 g_4.2) 62) :: rdp κ g_4.1 g_4.2 1 (eI .u64) x0.l :: S) → wpFrom Try.prog _ _ 13 a w by
    rcases Bool.eq_false_or_eq_true (decide (x0.free < 1)) with hb | hb
    · replace hs := hs.known (t := 10) hb (by kernel_rfl)
      refine qpu 7 hs fun a hs => ?_
      have hq := hs.pick [0, 5, 6, 7, 8, 9, 10, 17] (L' := [(0, pp b_x0), (5, pp b_x0), (6, pp b_x0), (7, .pointer (some ⟨b_x0, 2, none⟩)), (8, vi x0.free), (9, .bool (decide (x0.free < 1))), (10, .bool true), (17, .bool true)]) (by kernel_rfl)
      exact hj_6 _ (hq.conv (by first | (rw [hb] <;> rfl) | rfl))
    · replace hs := hs.known (t := 10) hb (by kernel_rfl)
      refine qpu 3 hs fun a hs => ?_
      refine qld 0 (C.slc g_4.1 x0.l.length g_4.2) hs rfl fun a hs => ?_
      refine qpu 3 hs fun a hs => ?_
      have hq := hs.pick [0, 5, 6, 7, 8, 9, 10, 17] (L' := [(0, pp b_x0), (5, pp b_x0), (6, pp b_x0), (7, .pointer (some ⟨b_x0, 2, none⟩)), (8, vi x0.free), (9, .bool (decide (x0.free < 1))), (10, .bool false), (17, .bool (((x0.l.length : Nat) : Int) == 0))]) (by kernel_rfl)
      exact hj_6 _ (hq.conv (by first | (rw [hb] <;> rfl) | rfl))
  intro a hs
  refine qpe 0 [(0, pp b_x0), (17, .bool ((decide (x0.free < 1)) || (((x0.l.length : Nat) : Int) == 0)))] hs fun a hs => hK3 _ _ ?_
  clear hK3
  refine qcs ((decide (x0.free < 1)) || (((x0.l.length : Nat) : Int) == 0)) hs (fun hb => ?_) fun hb => ?_
  · replace hm := bif_t hm hb
    refine qsr fun K7 hK7 => ?_
    refine qpe 2 [(2, vw 0), (3, .bool false)] hs fun a hs => hK7 _ _ ?_
    clear hK7
    refine wp_ret ?_
    replace hs := hs.bagG (l := Tvisorref02_T.parts κ b_x0 x0 g_4) (S' := S) (Own.to hs.own [0, 1] 2 (by kernel_rfl) (by kernel_rfl))
    replace hs := hs.toEx (Tvisorref02_T.parts κ b_x0 x0) g_4 0 rfl
    exact Vk.ret2 (P := Try.prog) (fn := Try.f129) (R := RR) (vw 0) (.bool false) hs rfl (by kernel_rfl) (by kernel_rfl) (by obtain rfl := Option.some.inj hm; subst hRR; exact ⟨rfl, (Own.to hs.own [0] 1 (by kernel_rfl) (by kernel_rfl))⟩)
  · replace hm := bif_f hm hb
    refine wp_skip ?_
    refine hK2 _ _ ?_
    clear hK2
    refine qsr fun K8 hK8 => ?_
    refine qpu 3 hs fun a hs => ?_
    refine qld 0 (C.slc g_4.1 x0.l.length g_4.2) hs rfl fun a hs => ?_
    obtain ⟨h_9, hm⟩ := ite_t hm
    obtain ⟨e_12, h_10, hm⟩ := bind_t hm
    obtain ⟨b_13, o_14, hA_15, h_11⟩ := Sl.elem (Own.rdSl 0 hs.own.drop rfl) h_10
    refine Vk.step (Vk.value (some 22) (.pointer (some ⟨b_13, o_14 + 0 * 1, none⟩)) hs (by kernel_rfl) (op := (.indexAddr 25 (.tmp 21) (.const (vi 0)))) (by kernel_rfl) (fun o ho => run_idxSlc (k := .i64) ho (cap := g_4.2) (len := x0.l.length) ((congrArg (fun A => Value.slice A (x0.l.length) (g_4.2)) hA_15) ▸ (by kernel_rfl)) (by kernel_rfl) (by kernel_rfl) (idx_ok h_9 h_10) _) fun a hs => ?_)
    refine Vk.step (Vk.value (some 23) (vw e_12) hs (by kernel_rfl) (op := (.load 32 (.tmp 22))) (by kernel_rfl) (fun o ho => run_load1 (c := cw e_12) ho (by kernel_rfl) (by kernel_rfl) (fun w ho => h_11 w ho 0 _ rfl) _ hs.own.drop) fun a hs => ?_)
    refine qpe 1 [(0, pp b_x0), (4, vw e_12)] hs fun a hs => hK8 _ _ ?_
    clear hK8
    refine qsr fun K16 hK16 => ?_
    refine qpu 4 hs fun a hs => ?_
    refine qld 0 (C.slc g_4.1 x0.l.length g_4.2) hs rfl fun a hs => ?_
    obtain ⟨h_17, hm⟩ := ite_t hm
    obtain ⟨A_18, c_19, eA_20, ec_21, hx_22⟩ := Sl.sub (Own.rdSl 0 hs.own.drop rfl) h_17.2
    refine Vk.step (Vk.value (some 29) (.slice A_18 ((cut x0.l (1) (x0.l.length)).length) c_19) hs (by kernel_rfl) (op := (.slice 25 (.tmp 28) (some (.const (vi 1))) none none)) (by kernel_rfl) (fun o ho => run_sub (sz := 1) (e := 32) h_17.2 eA_20 ec_21 (Sl.le (Own.rdSl 0 hs.own.drop rfl)) ho (by kernel_rfl) (by kernel_rfl) (by kernel_rfl) ⟨.i64, 1, by kernel_rfl, h_17.1, rfl⟩ rfl _) fun a hs => ?_)
    replace hs := hs.cutRd 1 rfl h_17.2 eA_20 ec_21
    refine qpu 2 hs fun a hs => ?_
    refine Vk.step (Vk.store1 (b := b_x0) (ty := 25) (x := (.tmp 31)) (y := (.tmp 29)) (off := 0) (C.slc A_18 ((cut x0.l (1) (x0.l.length)).length) c_19) 0 hs (by kernel_rfl) (by kernel_rfl) (by kernel_rfl) (by kernel_rfl) (by kernel_rfl) (by kernel_rfl) rfl (Nat.le_of_ble_eq_true (by kernel_rfl)) fun a w hs => ?_)
    refine qpe 0 [(0, pp b_x0), (4, vw e_12)] hs fun a hs => hK16 _ _ ?_
    clear hK16
    refine qsr fun K23 hK23 => ?_
    refine qpu 4 hs fun a hs => ?_
    refine qld 0 (ci x0.free) hs rfl fun a hs => ?_
    refine qpu 3 hs fun a hs => ?_
    refine Vk.step (Vk.store1 (b := b_x0) (ty := 3) (x := (.tmp 39)) (y := (.tmp 37)) (off := 2) (ci (IntKind.i64.wrap (x0.free - 1))) 0 hs (by kernel_rfl) (by kernel_rfl) (by kernel_rfl) (by kernel_rfl) (by kernel_rfl) (by kernel_rfl) rfl (Nat.le_of_ble_eq_true (by kernel_rfl)) fun a w hs => ?_)
    refine qpe 0 [(0, pp b_x0), (4, vw e_12)] hs fun a hs => hK23 _ _ ?_
    clear hK23
    refine qsr fun K24 hK24 => ?_
    refine qpu 4 hs fun a hs => ?_
    refine qld 0 (ci x0.used) hs rfl fun a hs => ?_
    refine qpu 3 hs fun a hs => ?_
    refine Vk.step (Vk.store1 (b := b_x0) (ty := 3) (x := (.tmp 47)) (y := (.tmp 45)) (off := 1) (ci (IntKind.i64.wrap (x0.used + 1))) 0 hs (by kernel_rfl) (by kernel_rfl) (by kernel_rfl) (by kernel_rfl) (by kernel_rfl) (by kernel_rfl) rfl (Nat.le_of_ble_eq_true (by kernel_rfl)) fun a w hs => ?_)
    refine qpe 0 [(4, vw e_12)] hs fun a hs => hK24 _ _ ?_
    clear hK24
    refine qsr fun K25 hK25 => ?_
    refine qpe 3 [(2, vw e_12), (3, .bool true)] hs fun a hs => hK25 _ _ ?_
    clear hK25
    refine wp_ret ?_
    replace hs := hs.bagG (l := Tvisorref02_T.parts κ b_x0 (⟨cut x0.l (1) (x0.l.length), IntKind.i64.wrap (x0.used + 1), IntKind.i64.wrap (x0.free - 1)⟩ : Tvisorref02_T) (A_18, c_19)) (S' := S) (Own.to hs.own [0, 1] 2 (by kernel_rfl) (by kernel_rfl))
    replace hs := hs.toEx (Tvisorref02_T.parts κ b_x0 (⟨cut x0.l (1) (x0.l.length), IntKind.i64.wrap (x0.used + 1), IntKind.i64.wrap (x0.free - 1)⟩ : Tvisorref02_T)) (A_18, c_19) 0 rfl
    exact Vk.ret2 (P := Try.prog) (fn := Try.f129) (R := RR) (vw e_12) (.bool true) hs rfl (by kernel_rfl) (by kernel_rfl) (by obtain rfl := Option.some.inj hm; subst hRR; exact ⟨rfl, (Own.to hs.own [0] 1 (by kernel_rfl) (by kernel_rfl))⟩)


abbrev visorref19_M_At.R (κ : Ctx) (S : List HP) (x0 : Tvisorref19_M) (x1 : Int) (b_x0 : Nat) (g_x0 : Option Addr × Nat × Option Addr × Nat × Option Addr × Nat × Option Addr × Nat) (r : Int) : Ending → World → Prop := fun e w' => e = .returned (vw r) ∧ Own κ w' (bagL (Tvisorref19_M.parts κ b_x0 x0 g_x0) :: S)
def visorref19_M_At.m (k : Nat) (x0 : Tvisorref19_M) (x1 : Int) : Option Int := (bif (decide (x1 < 0)) || (decide (x1 ≥ ((x0.val.length : Nat) : Int))) then some 0 else (if 0 ≤ x1 then (x0.val[x1.toNat]?).bind fun e_14 => some e_14 else none))

set_option maxRecDepth 100000 in
set_option maxHeartbeats 4000000 in
theorem visorref19_M_At.ok (k : Nat) (x0 : Tvisorref19_M) (x1 : Int) (r : Int) (hm : visorref19_M_At.m k x0 x1 = some r) (κ : Ctx) (w : World) (S : List HP) (b_x0 : Nat) (g_x0 : Option Addr × Nat × Option Addr × Nat × Option Addr × Nat × Option Addr × Nat) (ho : Own κ w (bagL (Tvisorref19_M.parts κ b_x0 x0 g_x0) :: S)) :
    Calls Try.prog 131 #[pp b_x0, vi x1] w (visorref19_M_At.R κ S x0 x1 b_x0 g_x0 r) := by
  unfold visorref19_M_At.m at hm
  generalize hRR : visorref19_M_At.R κ S x0 x1 b_x0 g_x0 r = RR
  refine qen [(0, pp b_x0), (1, vi x1)] Try.func131 Try.ntmps131 ho fun a hs => ?_
  refine qsr fun K1 hK1 => ?_
  refine qpe 1 [(0, pp b_x0), (1, vi x1)] hs fun a hs => hK1 _ _ ?_
  clear hK1
  refine Vk.seq fun K2 hK2 => ?_
  refine qsr fun K3 hK3 => ?_
  refine qpu 3 hs fun a hs => ?_
  replace hs := hs.unbagAt 0 rfl
  suffices hj_8 : ∀ a, St 23 a w κ [(0, pp b_x0), (1, vi x1), (5, vi x1), (6, .bool (decide (x1 < 0))), (7, .bool (decide (x1 < 0))), (15, .bool ((decide (x1 < 0)) || (decide (x1 ≥ ((x0.val.length : Nat) : Int)))))] (pt b_x0 (blk (Tvisorref19_M.obj x0 g_x0.1 g_x0.2.1 g_x0.2.2.1 g_x0.2.2.2.1 g_x0.2.2.2.2.1 g_x0.2.2.2.2.2.1 g_x0.2.2.2.2.2.2.1 g_x0.2.2.2.2.2.2.2) 64) :: rowp g_x0.1 g_x0.2.1 93 6 Tapi_Op.cells x0.ops :: rowp g_x0.2.2.1 g_x0.2.2.2.1 175 3 Tapi_Span.cells x0.blocks :: rowp g_x0.2.2.2.2.1 g_x0.2.2.2.2.2.1 32 1 (eI .u64) x0.val :: rdp κ g_x0.2.2.2.2.2.2.1 g_x0.2.2.2.2.2.2.2 1 (eI .u64) x0.tape.l :: S) → wpFrom Try.prog _ _ 11 a w by
    rcases Bool.eq_false_or_eq_true (decide (x1 < 0)) with hb | hb
    · replace hs := hs.known (t := 7) hb (by kernel_rfl)
      refine qpu 8 hs fun a hs => ?_
      have hq := hs.pick [0, 1, 5, 6, 7, 15] (L' := [(0, pp b_x0), (1, vi x1), (5, vi x1), (6, .bool (decide (x1 < 0))), (7, .bool true), (15, .bool true)]) (by kernel_rfl)
      exact hj_8 _ (hq.conv (by first | (rw [hb] <;> rfl) | rfl))
    · replace hs := hs.known (t := 7) hb (by kernel_rfl)
      refine qpu 4 hs fun a hs => ?_
      refine qld 0 (C.slc g_x0.2.2.2.2.1 x0.val.length g_x0.2.2.2.2.2.1) hs rfl fun a hs => ?_
      refine qpu 3 hs fun a hs => ?_
      have hq := hs.pick [0, 1, 5, 6, 7, 15] (L' := [(0, pp b_x0), (1, vi x1), (5, vi x1), (6, .bool (decide (x1 < 0))), (7, .bool false), (15, .bool (decide (x1 ≥ ((x0.val.length : Nat) : Int))))]) (by kernel_rfl)
      exact hj_8 _ (hq.conv (by first | (rw [hb] <;> rfl) | rfl))
  intro a hs
  refine qpe 0 [(0, pp b_x0), (1, vi x1), (15, .bool ((decide (x1 < 0)) || (decide (x1 ≥ ((x0.val.length : Nat) : Int)))))] hs fun a hs => hK3 _ _ ?_
  clear hK3
  refine qcs ((decide (x1 < 0)) || (decide (x1 ≥ ((x0.val.length : Nat) : Int)))) hs (fun hb => ?_) fun hb => ?_
  · replace hm := bif_t hm hb
    refine qsr fun K9 hK9 => ?_
    refine qpe 1 [(4, vw 0)] hs fun a hs => hK9 _ _ ?_
    clear hK9
    refine wp_ret ?_
    replace hs := hs.bagG (l := Tvisorref19_M.parts κ b_x0 x0 g_x0) (S' := S) (Own.to hs.own [0, 1, 2, 3, 4] 5 (by kernel_rfl) (by kernel_rfl))
    exact Vk.ret1 (P := Try.prog) (fn := Try.f131) (R := RR) (vw 0) hs rfl (by kernel_rfl) (by obtain rfl := Option.some.inj hm; subst hRR; exact ⟨rfl, (Own.to hs.own [0] 1 (by kernel_rfl) (by kernel_rfl))⟩)
  · replace hm := bif_f hm hb
    refine wp_skip ?_
    refine hK2 _ _ ?_
    clear hK2
    refine qsr fun K10 hK10 => ?_
    refine qpu 3 hs fun a hs => ?_
    refine qld 0 (C.slc g_x0.2.2.2.2.1 x0.val.length g_x0.2.2.2.2.2.1) hs rfl fun a hs => ?_
    refine qpu 1 hs fun a hs => ?_
    obtain ⟨h_11, hm⟩ := ite_t hm
    obtain ⟨e_14, h_12, hm⟩ := bind_t hm
    obtain ⟨b_15, o_16, hA_17, h_13⟩ := Sl.elem (Own.rowSl 0 (Own.to (S' := rowp g_x0.2.2.2.2.1 g_x0.2.2.2.2.2.1 32 1 (eI .u64) x0.val :: S) hs.own [3] 5 (by kernel_rfl) (by kernel_rfl)) rfl) h_12
    refine Vk.step (Vk.value (some 21) (.pointer (some ⟨b_15, o_16 + x1.toNat * 1, none⟩)) hs (by kernel_rfl) (op := (.indexAddr 25 (.tmp 19) (.tmp 20))) (by kernel_rfl) (fun o ho => run_idxSlc (k := .i64) ho (cap := g_x0.2.2.2.2.2.1) (len := x0.val.length) ((congrArg (fun A => Value.slice A (x0.val.length) (g_x0.2.2.2.2.2.1)) hA_17) ▸ (by kernel_rfl)) (by kernel_rfl) (by kernel_rfl) (idx_ok h_11 h_12) _) fun a hs => ?_)
    refine Vk.step (Vk.value (some 22) (vw e_14) hs (by kernel_rfl) (op := (.load 32 (.tmp 21))) (by kernel_rfl) (fun o ho => run_load1 (c := cw e_14) ho (by kernel_rfl) (by kernel_rfl) (fun w ho => h_13 w ho 0 _ rfl) _ (Own.to (S' := rowp g_x0.2.2.2.2.1 g_x0.2.2.2.2.2.1 32 1 (eI .u64) x0.val :: S) hs.own [3] 5 (by kernel_rfl) (by kernel_rfl))) fun a hs => ?_)
    refine qpe 1 [(4, vw e_14)] hs fun a hs => hK10 _ _ ?_
    clear hK10
    refine wp_ret ?_
    replace hs := hs.bagG (l := Tvisorref19_M.parts κ b_x0 x0 g_x0) (S' := S) (Own.to hs.own [0, 1, 2, 3, 4] 5 (by kernel_rfl) (by kernel_rfl))
    exact Vk.ret1 (P := Try.prog) (fn := Try.f131) (R := RR) (vw e_14) hs rfl (by kernel_rfl) (by obtain rfl := Option.some.inj hm; subst hRR; exact ⟨rfl, (Own.to hs.own [0] 1 (by kernel_rfl) (by kernel_rfl))⟩)


def visorref01_Low.l1 (x0 : Int) : Nat → Int → Int → Option (Int)
  | 0, _, _ => none
  | k + 1, q_6, q_7 => (bif (decide (q_7 < x0)) && (decide (q_7 < 64)) then visorref01_Low.l1 x0 k (IntKind.u64.wrap ((IntKind.u64.wrap (q_6 * 2)) + 1)) (IntKind.i64.wrap (q_7 + 1)) else some q_6)
abbrev visorref01_Low.R (κ : Ctx) (S : List HP) (x0 : Int) (r : Int) : Ending → World → Prop := fun e w' => e = .returned (vw r) ∧ Own κ w' (S)
def visorref01_Low.m (k : Nat) (x0 : Int) : Option Int := (visorref01_Low.l1 x0 k 0 0).bind fun p_12 => some p_12

set_option maxRecDepth 100000 in
set_option maxHeartbeats 4000000 in
theorem visorref01_Low.ok (k : Nat) (x0 : Int) (r : Int) (hm : visorref01_Low.m k x0 = some r) (κ : Ctx) (w : World) (S : List HP) (ho : Own κ w (S)) :
    Calls Try.prog 64 #[vi x0] w (visorref01_Low.R κ S x0 r) := by
  unfold visorref01_Low.m at hm
  generalize hRR : visorref01_Low.R κ S x0 r = RR
  refine qen [(0, vi x0)] Try.func64 Try.ntmps64 ho fun a hs => ?_
  refine qsr fun K1 hK1 => ?_
  refine qpe 1 [(0, vi x0)] hs fun a hs => hK1 _ _ ?_
  clear hK1
  refine qsr fun K2 hK2 => ?_
  refine qpe 1 [(0, vi x0), (3, vw 0)] hs fun a hs => hK2 _ _ ?_
  clear hK2
  refine Vk.seq fun K3 hK3 => ?_
  refine qsr fun K4 hK4 => ?_
  refine qpe 1 [(0, vi x0), (3, vw 0), (4, vi 0)] hs fun a hs => hK4 _ _ ?_
  clear hK4
  refine wp_block ?_
  obtain ⟨r5, hl5, hm⟩ := bind_t hm
  have hx5 : ∀ (p_12 : Int), r5 = p_12 → ∀ (a : Act) (w : World), St 18 a w κ [(3, vw p_12)] (S) → K3 a w := by
    intro p_12 he a w hs
    subst r5
    refine hK3 _ _ ?_
    clear hK3
    refine qsr fun K15 hK15 => ?_
    refine qpe 2 [(2, vw p_12)] hs fun a hs => hK15 _ _ ?_
    clear hK15
    refine wp_ret ?_
    exact Vk.ret1 (P := Try.prog) (fn := Try.f64) (R := RR) (vw p_12) hs rfl (by kernel_rfl) (by obtain rfl := Option.some.inj hm; subst hRR; exact ⟨rfl, (Own.to hs.own [] 0 (by kernel_rfl) (by kernel_rfl))⟩)
  refine Vk.loopBy (fun k (s : Int × Int) a w => visorref01_Low.l1 x0 k s.1 s.2 = some r5 ∧ St 18 a w κ [(0, vi x0), (3, vw s.1), (4, vi s.2)] (S)) k (0, 0) ⟨hl5, hs.go [0, 3, 4] [] 0 (by kernel_rfl) (by kernel_rfl) (by kernel_rfl)⟩ (fun s a w h => by obtain ⟨h1, _⟩ := h; simp [visorref01_Low.l1] at h1) (fun k KL5 ih s a w h => ?_)
  obtain ⟨q_6, q_7⟩ := s
  obtain ⟨hm, hs⟩ := h
  try dsimp only at hm hs
  rw [visorref01_Low.l1] at hm
  refine Vk.seq fun K8 hK8 => ?_
  refine qsr fun K9 hK9 => ?_
  refine qpu 4 hs fun a hs => ?_
  suffices hj_10 : ∀ a, St 18 a w κ [(0, vi x0), (3, vw q_6), (4, vi q_7), (5, vi q_7), (6, vi x0), (7, .bool (decide (q_7 < x0))), (8, .bool (decide (q_7 < x0))), (11, .bool ((decide (q_7 < x0)) && (decide (q_7 < 64))))] (S) → wpFrom Try.prog _ _ 7 a w by
    rcases Bool.eq_false_or_eq_true (decide (q_7 < x0)) with hb | hb
    · replace hs := hs.known (t := 8) hb (by kernel_rfl)
      refine qpu 3 hs fun a hs => ?_
      have hq := hs.pick [0, 3, 4, 5, 6, 7, 8, 11] (L' := [(0, vi x0), (3, vw q_6), (4, vi q_7), (5, vi q_7), (6, vi x0), (7, .bool (decide (q_7 < x0))), (8, .bool true), (11, .bool (decide (q_7 < 64)))]) (by kernel_rfl)
      exact hj_10 _ (hq.conv (by first | (rw [hb] <;> rfl) | rfl))
    · replace hs := hs.known (t := 8) hb (by kernel_rfl)
      refine qpu 3 hs fun a hs => ?_
      have hq := hs.pick [0, 3, 4, 5, 6, 7, 8, 11] (L' := [(0, vi x0), (3, vw q_6), (4, vi q_7), (5, vi q_7), (6, vi x0), (7, .bool (decide (q_7 < x0))), (8, .bool false), (11, .bool false)]) (by kernel_rfl)
      exact hj_10 _ (hq.conv (by first | (rw [hb] <;> rfl) | rfl))
  intro a hs
  refine qpe 0 [(0, vi x0), (3, vw q_6), (4, vi q_7), (11, .bool ((decide (q_7 < x0)) && (decide (q_7 < 64))))] hs fun a hs => hK9 _ _ ?_
  clear hK9
  refine qcs ((decide (q_7 < x0)) && (decide (q_7 < 64))) hs (fun hb => ?_) fun hb => ?_
  · replace hm := bif_t hm hb
    refine wp_skip ?_
    refine hK8 _ _ ?_
    clear hK8
    refine Vk.seq fun K11 hK11 => ?_
    refine wp_block ?_
    refine Vk.region ?_
    refine qpe 4 [(0, vi x0), (3, vw (IntKind.u64.wrap ((IntKind.u64.wrap (q_6 * 2)) + 1))), (4, vi q_7)] hs fun a hs => hK11 _ _ ?_
    clear hK11
    refine Vk.region ?_
    refine qpe 3 [(0, vi x0), (3, vw (IntKind.u64.wrap ((IntKind.u64.wrap (q_6 * 2)) + 1))), (4, vi (IntKind.i64.wrap (q_7 + 1)))] hs fun a hs => ?_
    refine ih ((IntKind.u64.wrap ((IntKind.u64.wrap (q_6 * 2)) + 1)), (IntKind.i64.wrap (q_7 + 1))) _ _ ⟨hm, hs.go [0, 3, 4] [] 0 (by kernel_rfl) (by kernel_rfl) (by kernel_rfl)⟩
  · replace hm := bif_f hm hb
    refine wp_exit ?_
    exact hx5 q_6 (Option.some.inj hm).symm _ _ (hs.go [3] [] 0 (by kernel_rfl) (by kernel_rfl) (by kernel_rfl))


abbrev visorref01_Mod.R (κ : Ctx) (S : List HP) (x0 : Int) (x1 : Int) (r : Int) : Ending → World → Prop := fun e w' => e = .returned (vi r) ∧ Own κ w' (S)
def visorref01_Mod.m (k : Nat) (x0 : Int) (x1 : Int) : Option Int := (if x1 ≠ 0 then (bif decide ((Int.tmod x0 x1) < 0) then (if x1 ≠ 0 then some (IntKind.i64.wrap ((Int.tmod x0 x1) + x1)) else none) else (if x1 ≠ 0 then some (Int.tmod x0 x1) else none)) else none)

set_option maxRecDepth 100000 in
set_option maxHeartbeats 4000000 in
theorem visorref01_Mod.ok (k : Nat) (x0 : Int) (x1 : Int) (r : Int) (hm : visorref01_Mod.m k x0 x1 = some r) (κ : Ctx) (w : World) (S : List HP) (ho : Own κ w (S)) :
    Calls Try.prog 171 #[vi x0, vi x1] w (visorref01_Mod.R κ S x0 x1 r) := by
  unfold visorref01_Mod.m at hm
  generalize hRR : visorref01_Mod.R κ S x0 x1 r = RR
  refine qen [(0, vi x0), (1, vi x1)] Try.func171 Try.ntmps171 ho fun a hs => ?_
  refine qsr fun K1 hK1 => ?_
  refine qpe 1 [(0, vi x0), (1, vi x1)] hs fun a hs => hK1 _ _ ?_
  clear hK1
  refine Vk.seq fun K2 hK2 => ?_
  refine qsr fun K3 hK3 => ?_
  refine qpu 2 hs fun a hs => ?_
  obtain ⟨h_4, hm⟩ := ite_t hm
  refine Vk.step (Vk.value (some 7) (vi (Int.tmod x0 x1)) hs (by kernel_rfl) (op := (.binOp .rem 3 (.tmp 5) (.tmp 6) 3)) (by kernel_rfl) (fun o ho => run_rem ho (by kernel_rfl) (by kernel_rfl) h_4 _) fun a hs => ?_)
  refine qpe 1 [(0, vi x0), (1, vi x1), (8, .bool (decide ((Int.tmod x0 x1) < 0)))] hs fun a hs => hK3 _ _ ?_
  clear hK3
  refine qcs (decide ((Int.tmod x0 x1) < 0)) hs (fun hb => ?_) fun hb => ?_
  · replace hm := bif_t hm hb
    refine qsr fun K5 hK5 => ?_
    refine qpu 2 hs fun a hs => ?_
    obtain ⟨h_6, hm⟩ := ite_t hm
    refine Vk.step (Vk.value (some 11) (vi (Int.tmod x0 x1)) hs (by kernel_rfl) (op := (.binOp .rem 3 (.tmp 9) (.tmp 10) 3)) (by kernel_rfl) (fun o ho => run_rem ho (by kernel_rfl) (by kernel_rfl) h_6 _) fun a hs => ?_)
    refine qpe 3 [(4, vi (IntKind.i64.wrap ((Int.tmod x0 x1) + x1)))] hs fun a hs => hK5 _ _ ?_
    clear hK5
    refine wp_ret ?_
    exact Vk.ret1 (P := Try.prog) (fn := Try.f171) (R := RR) (vi (IntKind.i64.wrap ((Int.tmod x0 x1) + x1))) hs rfl (by kernel_rfl) (by obtain rfl := Option.some.inj hm; subst hRR; exact ⟨rfl, (Own.to hs.own [] 0 (by kernel_rfl) (by kernel_rfl))⟩)
  · replace hm := bif_f hm hb
    refine wp_skip ?_
    refine hK2 _ _ ?_
    clear hK2
    refine qsr fun K7 hK7 => ?_
    refine qpu 2 hs fun a hs => ?_
    obtain ⟨h_8, hm⟩ := ite_t hm
    refine Vk.step (Vk.value (some 16) (vi (Int.tmod x0 x1)) hs (by kernel_rfl) (op := (.binOp .rem 3 (.tmp 14) (.tmp 15) 3)) (by kernel_rfl) (fun o ho => run_rem ho (by kernel_rfl) (by kernel_rfl) h_8 _) fun a hs => ?_)
    refine qpe 1 [(4, vi (Int.tmod x0 x1))] hs fun a hs => hK7 _ _ ?_
    clear hK7
    refine wp_ret ?_
    exact Vk.ret1 (P := Try.prog) (fn := Try.f171) (R := RR) (vi (Int.tmod x0 x1)) hs rfl (by kernel_rfl) (by obtain rfl := Option.some.inj hm; subst hRR; exact ⟨rfl, (Own.to hs.own [] 0 (by kernel_rfl) (by kernel_rfl))⟩)


def visorref01_Rot.l1 (x1 : Int) : Nat → Int → Int → Option (Int)
  | 0, _, _ => none
  | k + 1, q_5, q_6 => (visorref01_Mod.m k x1 64).bind fun v_11 => (bif decide (q_6 < v_11) then visorref01_Rot.l1 x1 k (IntKind.u64.wrap ((IntKind.u64.wrap (q_5 * 2)) + (IntKind.u64.wrap (Int.tdiv q_5 9223372036854775808)))) (IntKind.i64.wrap (q_6 + 1)) else some q_5)
abbrev visorref01_Rot.R (κ : Ctx) (S : List HP) (x0 : Int) (x1 : Int) (r : Int) : Ending → World → Prop := fun e w' => e = .returned (vw r) ∧ Own κ w' (S)
def visorref01_Rot.m (k : Nat) (x0 : Int) (x1 : Int) : Option Int := (visorref01_Rot.l1 x1 k x0 0).bind fun p_13 => some p_13

set_option maxRecDepth 100000 in
set_option maxHeartbeats 4000000 in
theorem visorref01_Rot.ok (k : Nat) (x0 : Int) (x1 : Int) (r : Int) (hm : visorref01_Rot.m k x0 x1 = some r) (κ : Ctx) (w : World) (S : List HP) (ho : Own κ w (S)) :
    Calls Try.prog 163 #[vw x0, vi x1] w (visorref01_Rot.R κ S x0 x1 r) := by
  unfold visorref01_Rot.m at hm
  generalize hRR : visorref01_Rot.R κ S x0 x1 r = RR
  refine qen [(0, vw x0), (1, vi x1)] Try.func163 Try.ntmps163 ho fun a hs => ?_
  refine qsr fun K1 hK1 => ?_
  refine qpe 1 [(0, vw x0), (1, vi x1)] hs fun a hs => hK1 _ _ ?_
  clear hK1
  refine Vk.seq fun K2 hK2 => ?_
  refine qsr fun K3 hK3 => ?_
  refine qpe 1 [(0, vw x0), (1, vi x1), (5, vi 0)] hs fun a hs => hK3 _ _ ?_
  clear hK3
  refine wp_block ?_
  obtain ⟨r4, hl4, hm⟩ := bind_t hm
  have hx4 : ∀ (p_13 : Int), r4 = p_13 → ∀ (a : Act) (w : World), St 18 a w κ [(0, vw p_13)] (S) → K2 a w := by
    intro p_13 he a w hs
    subst r4
    refine hK2 _ _ ?_
    clear hK2
    refine qsr fun K16 hK16 => ?_
    refine qpe 2 [(4, vw p_13)] hs fun a hs => hK16 _ _ ?_
    clear hK16
    refine wp_ret ?_
    exact Vk.ret1 (P := Try.prog) (fn := Try.f163) (R := RR) (vw p_13) hs rfl (by kernel_rfl) (by obtain rfl := Option.some.inj hm; subst hRR; exact ⟨rfl, (Own.to hs.own [] 0 (by kernel_rfl) (by kernel_rfl))⟩)
  refine Vk.loopBy (fun k (s : Int × Int) a w => visorref01_Rot.l1 x1 k s.1 s.2 = some r4 ∧ St 18 a w κ [(0, vw s.1), (1, vi x1), (5, vi s.2)] (S)) k (x0, 0) ⟨hl4, hs.go [0, 1, 5] [] 0 (by kernel_rfl) (by kernel_rfl) (by kernel_rfl)⟩ (fun s a w h => by obtain ⟨h1, _⟩ := h; simp [visorref01_Rot.l1] at h1) (fun k KL4 ih s a w h => ?_)
  obtain ⟨q_5, q_6⟩ := s
  obtain ⟨hm, hs⟩ := h
  try dsimp only at hm hs
  rw [visorref01_Rot.l1] at hm
  refine Vk.seq fun K7 hK7 => ?_
  refine qsr fun K8 hK8 => ?_
  refine qpu 2 hs fun a hs => ?_
  obtain ⟨v_11, h_10, hm⟩ := bind_t hm
  refine Vk.step (Vk.call (some 8) 171 #[vi x1, vi 64] hs (by kernel_rfl) (by kernel_rfl) (by kernel_rfl) ?_)
  refine (visorref01_Mod.ok k x1 64 v_11 h_10 κ w (S) hs.own).mono ?_
  rintro _ w ⟨rfl, how⟩
  refine ⟨_, _, _, rfl, how, fun a hs => ?_⟩
  refine qpe 1 [(0, vw q_5), (1, vi x1), (5, vi q_6), (9, .bool (decide (q_6 < v_11)))] hs fun a hs => hK8 _ _ ?_
  clear hK8
  refine qcs (decide (q_6 < v_11)) hs (fun hb => ?_) fun hb => ?_
  · replace hm := bif_t hm hb
    refine wp_skip ?_
    refine hK7 _ _ ?_
    clear hK7
    refine Vk.seq fun K12 hK12 => ?_
    refine wp_block ?_
    refine Vk.region ?_
    refine qpe 6 [(0, vw (IntKind.u64.wrap ((IntKind.u64.wrap (q_5 * 2)) + (IntKind.u64.wrap (Int.tdiv q_5 9223372036854775808))))), (1, vi x1), (5, vi q_6)] hs fun a hs => hK12 _ _ ?_
    clear hK12
    refine Vk.region ?_
    refine qpe 3 [(0, vw (IntKind.u64.wrap ((IntKind.u64.wrap (q_5 * 2)) + (IntKind.u64.wrap (Int.tdiv q_5 9223372036854775808))))), (1, vi x1), (5, vi (IntKind.i64.wrap (q_6 + 1)))] hs fun a hs => ?_
    refine ih ((IntKind.u64.wrap ((IntKind.u64.wrap (q_5 * 2)) + (IntKind.u64.wrap (Int.tdiv q_5 9223372036854775808)))), (IntKind.i64.wrap (q_6 + 1))) _ _ ⟨hm, hs.go [0, 1, 5] [] 0 (by kernel_rfl) (by kernel_rfl) (by kernel_rfl)⟩
  · replace hm := bif_f hm hb
    refine wp_exit ?_
    exact hx4 q_5 (Option.some.inj hm).symm _ _ (hs.go [0] [] 0 (by kernel_rfl) (by kernel_rfl) (by kernel_rfl))


def visorref17_Eval.j1 (k : Nat) (x0 : Tapi_Op) (x1 : Int) (x2 : Int) (x3 : Int) (p_12 : Bool) : Option (Int) := (bif p_12 then some x0.c else (bif x0.kind == 5 then some (bxor .u64 x1 x2) else (bif x0.kind == 6 then some (IntKind.u64.wrap (18446744073709551615 - x1)) else (bif x0.kind == 7 then some (band .u64 x1 x2) else (bif x0.kind == 8 then some (band .u64 x1 x0.c) else (bif x0.kind == 9 then (visorref01_Low.m k (IntKind.i64.wrap (64 - (IntKind.i64.wrap (Int.tmod x0.c 64))))).bind fun v_26 => (visorref01_Rot.m k (band .u64 x1 v_26) (IntKind.i64.wrap (Int.tmod x0.c 64))).bind fun v_29 => some v_29 else (bif x0.kind == 10 then (visorref01_Rot.m k x1 (IntKind.i64.wrap (64 - (IntKind.i64.wrap (Int.tmod x0.c 64))))).bind fun v_34 => (visorref01_Low.m k (IntKind.i64.wrap (64 - (IntKind.i64.wrap (Int.tmod x0.c 64))))).bind fun v_37 => some (band .u64 v_34 v_37) else (bif x0.kind == 11 then (visorref01_Rot.m k x1 (IntKind.i64.wrap (Int.tmod x0.c 64))).bind fun v_42 => some v_42 else (bif x0.kind == 12 then some (bxor .u64 (bxor .u64 x1 x2) x3) else some 0)))))))))
abbrev visorref17_Eval.R (κ : Ctx) (S : List HP) (x0 : Tapi_Op) (x1 : Int) (x2 : Int) (x3 : Int) (x4 : Int) (r : Int) : Ending → World → Prop := fun e w' => e = .returned (vw r) ∧ Own κ w' (S)
def visorref17_Eval.m (k : Nat) (x0 : Tapi_Op) (x1 : Int) (x2 : Int) (x3 : Int) (x4 : Int) : Option Int := (bif x0.kind == 1 then some x4 else (bif x0.kind == 2 then some (bxor .u64 (bxor .u64 x4 x1) x2) else (bif x0.kind == 3 then visorref17_Eval.j1 k x0 x1 x2 x3 (x0.kind == 3) else visorref17_Eval.j1 k x0 x1 x2 x3 (x0.kind == 4))))

set_option maxRecDepth 100000 in
set_option maxHeartbeats 4000000 in
theorem visorref17_Eval.ok (k : Nat) (x0 : Tapi_Op) (x1 : Int) (x2 : Int) (x3 : Int) (x4 : Int) (r : Int) (hm : visorref17_Eval.m k x0 x1 x2 x3 x4 = some r) (κ : Ctx) (w : World) (S : List HP) (ho : Own κ w (S)) :
    Calls Try.prog 130 #[.agg (vals [ci x0.kind, ci x0.dom, ci x0.a, ci x0.b, ci x0.d, cw x0.c]), vw x1, vw x2, vw x3, vw x4] w (visorref17_Eval.R κ S x0 x1 x2 x3 x4 r) := by
  unfold visorref17_Eval.m at hm
  generalize hRR : visorref17_Eval.R κ S x0 x1 x2 x3 x4 r = RR
  refine qen [(0, .agg (vals [ci x0.kind, ci x0.dom, ci x0.a, ci x0.b, ci x0.d, cw x0.c])), (1, vw x1), (2, vw x2), (3, vw x3), (4, vw x4)] Try.func130 Try.ntmps130 ho fun a hs => ?_
  refine qsr fun K1 hK1 => ?_
  refine Vk.step (Vk.box (x := (.tmp 0)) 5 93 [ci x0.kind, ci x0.dom, ci x0.a, ci x0.b, ci x0.d, cw x0.c] hs (by kernel_rfl) (by kernel_rfl) (by kernel_rfl) fun b_2 w a hs => ?_)
  refine qpe 1 [(1, vw x1), (2, vw x2), (3, vw x3), (4, vw x4), (5, pp b_2)] hs fun a hs => hK1 _ _ ?_
  clear hK1
  refine qsr fun K3 hK3 => ?_
  refine qpu 1 hs fun a hs => ?_
  refine qld 0 (cw x0.c) hs rfl fun a hs => ?_
  refine qpe 3 [(1, vw x1), (2, vw x2), (3, vw x3), (4, vw x4), (5, pp b_2), (11, vi (IntKind.i64.wrap (Int.tmod x0.c 64)))] hs fun a hs => hK3 _ _ ?_
  clear hK3
  refine Vk.seq fun K4 hK4 => ?_
  refine qsr fun K5 hK5 => ?_
  refine qpu 1 hs fun a hs => ?_
  refine qld 0 (ci x0.kind) hs rfl fun a hs => ?_
  refine qpe 0 [(1, vw x1), (2, vw x2), (3, vw x3), (4, vw x4), (5, pp b_2), (11, vi (IntKind.i64.wrap (Int.tmod x0.c 64))), (17, vi x0.kind)] hs fun a hs => hK5 _ _ ?_
  clear hK5
  refine wp_block ?_
  refine qsr fun K6 hK6 => ?_
  refine qpe 2 [(1, vw x1), (2, vw x2), (3, vw x3), (4, vw x4), (5, pp b_2), (11, vi (IntKind.i64.wrap (Int.tmod x0.c 64))), (17, vi x0.kind), (18, .bool (x0.kind == 1))] hs fun a hs => hK6 _ _ ?_
  clear hK6
  refine qcs (x0.kind == 1) hs (fun hb => ?_) fun hb => ?_
  · replace hm := bif_t hm hb
    refine qsr fun K7 hK7 => ?_
    refine qpe 2 [(10, vw x4)] hs fun a hs => hK7 _ _ ?_
    clear hK7
    refine wp_ret ?_
    exact Vk.ret1 (P := Try.prog) (fn := Try.f130) (R := RR) (vw x4) hs rfl (by kernel_rfl) (by obtain rfl := Option.some.inj hm; subst hRR; exact ⟨rfl, (Own.to hs.own [] 1 (by kernel_rfl) (by kernel_rfl))⟩)
  · replace hm := bif_f hm hb
    refine qsr fun K8 hK8 => ?_
    refine qpe 2 [(1, vw x1), (2, vw x2), (3, vw x3), (4, vw x4), (5, pp b_2), (11, vi (IntKind.i64.wrap (Int.tmod x0.c 64))), (17, vi x0.kind), (21, .bool (x0.kind == 2))] hs fun a hs => hK8 _ _ ?_
    clear hK8
    refine qcs (x0.kind == 2) hs (fun hb => ?_) fun hb => ?_
    · replace hm := bif_t hm hb
      refine qsr fun K9 hK9 => ?_
      refine qpe 6 [(10, vw (bxor .u64 (bxor .u64 x4 x1) x2))] hs fun a hs => hK9 _ _ ?_
      clear hK9
      refine wp_ret ?_
      exact Vk.ret1 (P := Try.prog) (fn := Try.f130) (R := RR) (vw (bxor .u64 (bxor .u64 x4 x1) x2)) hs rfl (by kernel_rfl) (by obtain rfl := Option.some.inj hm; subst hRR; exact ⟨rfl, (Own.to hs.own [] 1 (by kernel_rfl) (by kernel_rfl))⟩)
    · replace hm := bif_f hm hb
      refine Vk.seq fun K10 hK10 => ?_
      have hj10 : ∀ (p_12 : Bool), visorref17_Eval.j1 k x0 x1 x2 x3 p_12 = some r → ∀ (a : Act) (w : World), St 84 a w κ [(1, vw x1), (2, vw x2), (3, vw x3), (5, pp b_2), (11, vi (IntKind.i64.wrap (Int.tmod x0.c 64))), (17, vi x0.kind), (28, .bool p_12)] (pt b_2 (blk (Tapi_Op.cells x0) 93) :: S) → K10 a w := by
        intro p_12 hm a w hs
        unfold visorref17_Eval.j1 at hm
        refine hK10 _ _ ?_
        refine qcs (p_12) hs (fun hb => ?_) fun hb => ?_
        · replace hm := bif_t hm hb
          refine qsr fun K13 hK13 => ?_
          refine qpu 1 hs fun a hs => ?_
          refine qld 0 (cw x0.c) hs rfl fun a hs => ?_
          refine qpe 1 [(10, vw x0.c)] hs fun a hs => hK13 _ _ ?_
          clear hK13
          refine wp_ret ?_
          exact Vk.ret1 (P := Try.prog) (fn := Try.f130) (R := RR) (vw x0.c) hs rfl (by kernel_rfl) (by obtain rfl := Option.some.inj hm; subst hRR; exact ⟨rfl, (Own.to hs.own [] 1 (by kernel_rfl) (by kernel_rfl))⟩)
        · replace hm := bif_f hm hb
          refine qsr fun K14 hK14 => ?_
          refine qpe 2 [(1, vw x1), (2, vw x2), (3, vw x3), (5, pp b_2), (11, vi (IntKind.i64.wrap (Int.tmod x0.c 64))), (17, vi x0.kind), (33, .bool (x0.kind == 5))] hs fun a hs => hK14 _ _ ?_
          clear hK14
          refine qcs (x0.kind == 5) hs (fun hb => ?_) fun hb => ?_
          · replace hm := bif_t hm hb
            refine qsr fun K15 hK15 => ?_
            refine qpe 4 [(10, vw (bxor .u64 x1 x2))] hs fun a hs => hK15 _ _ ?_
            clear hK15
            refine wp_ret ?_
            exact Vk.ret1 (P := Try.prog) (fn := Try.f130) (R := RR) (vw (bxor .u64 x1 x2)) hs rfl (by kernel_rfl) (by obtain rfl := Option.some.inj hm; subst hRR; exact ⟨rfl, (Own.to hs.own [] 1 (by kernel_rfl) (by kernel_rfl))⟩)
          · replace hm := bif_f hm hb
            refine qsr fun K16 hK16 => ?_
            refine qpe 2 [(1, vw x1), (2, vw x2), (3, vw x3), (5, pp b_2), (11, vi (IntKind.i64.wrap (Int.tmod x0.c 64))), (17, vi x0.kind), (38, .bool (x0.kind == 6))] hs fun a hs => hK16 _ _ ?_
            clear hK16
            refine qcs (x0.kind == 6) hs (fun hb => ?_) fun hb => ?_
            · replace hm := bif_t hm hb
              refine qsr fun K17 hK17 => ?_
              refine qpe 3 [(10, vw (IntKind.u64.wrap (18446744073709551615 - x1)))] hs fun a hs => hK17 _ _ ?_
              clear hK17
              refine wp_ret ?_
              exact Vk.ret1 (P := Try.prog) (fn := Try.f130) (R := RR) (vw (IntKind.u64.wrap (18446744073709551615 - x1))) hs rfl (by kernel_rfl) (by obtain rfl := Option.some.inj hm; subst hRR; exact ⟨rfl, (Own.to hs.own [] 1 (by kernel_rfl) (by kernel_rfl))⟩)
            · replace hm := bif_f hm hb
              refine qsr fun K18 hK18 => ?_
              refine qpe 2 [(1, vw x1), (2, vw x2), (3, vw x3), (5, pp b_2), (11, vi (IntKind.i64.wrap (Int.tmod x0.c 64))), (17, vi x0.kind), (42, .bool (x0.kind == 7))] hs fun a hs => hK18 _ _ ?_
              clear hK18
              refine qcs (x0.kind == 7) hs (fun hb => ?_) fun hb => ?_
              · replace hm := bif_t hm hb
                refine qsr fun K19 hK19 => ?_
                refine qpe 4 [(10, vw (band .u64 x1 x2))] hs fun a hs => hK19 _ _ ?_
                clear hK19
                refine wp_ret ?_
                exact Vk.ret1 (P := Try.prog) (fn := Try.f130) (R := RR) (vw (band .u64 x1 x2)) hs rfl (by kernel_rfl) (by obtain rfl := Option.some.inj hm; subst hRR; exact ⟨rfl, (Own.to hs.own [] 1 (by kernel_rfl) (by kernel_rfl))⟩)
              · replace hm := bif_f hm hb
                refine qsr fun K20 hK20 => ?_
                refine qpe 2 [(1, vw x1), (2, vw x2), (3, vw x3), (5, pp b_2), (11, vi (IntKind.i64.wrap (Int.tmod x0.c 64))), (17, vi x0.kind), (47, .bool (x0.kind == 8))] hs fun a hs => hK20 _ _ ?_
                clear hK20
                refine qcs (x0.kind == 8) hs (fun hb => ?_) fun hb => ?_
                · replace hm := bif_t hm hb
                  refine qsr fun K21 hK21 => ?_
                  refine qpu 2 hs fun a hs => ?_
                  refine qld 0 (cw x0.c) hs rfl fun a hs => ?_
                  refine qpe 2 [(10, vw (band .u64 x1 x0.c))] hs fun a hs => hK21 _ _ ?_
                  clear hK21
                  refine wp_ret ?_
                  exact Vk.ret1 (P := Try.prog) (fn := Try.f130) (R := RR) (vw (band .u64 x1 x0.c)) hs rfl (by kernel_rfl) (by obtain rfl := Option.some.inj hm; subst hRR; exact ⟨rfl, (Own.to hs.own [] 1 (by kernel_rfl) (by kernel_rfl))⟩)
                · replace hm := bif_f hm hb
                  refine qsr fun K22 hK22 => ?_
                  refine qpe 2 [(1, vw x1), (2, vw x2), (3, vw x3), (11, vi (IntKind.i64.wrap (Int.tmod x0.c 64))), (17, vi x0.kind), (53, .bool (x0.kind == 9))] hs fun a hs => hK22 _ _ ?_
                  clear hK22
                  refine qcs (x0.kind == 9) hs (fun hb => ?_) fun hb => ?_
                  · replace hm := bif_t hm hb
                    refine qsr fun K23 hK23 => ?_
                    refine qpu 3 hs fun a hs => ?_
                    obtain ⟨v_26, h_25, hm⟩ := bind_t hm
                    refine Vk.step (Vk.call (some 58) 64 #[vi (IntKind.i64.wrap (64 - (IntKind.i64.wrap (Int.tmod x0.c 64))))] hs (by kernel_rfl) (by kernel_rfl) (by kernel_rfl) ?_)
                    refine (visorref01_Low.ok k (IntKind.i64.wrap (64 - (IntKind.i64.wrap (Int.tmod x0.c 64)))) v_26 h_25 κ w (pt b_2 (blk (Tapi_Op.cells x0) 93) :: S) hs.own).mono ?_
                    rintro _ w ⟨rfl, how⟩
                    refine ⟨_, _, _, rfl, how, fun a hs => ?_⟩
                    refine qpu 2 hs fun a hs => ?_
                    obtain ⟨v_29, h_28, hm⟩ := bind_t hm
                    refine Vk.step (Vk.call (some 61) 163 #[vw (band .u64 x1 v_26), vi (IntKind.i64.wrap (Int.tmod x0.c 64))] hs (by kernel_rfl) (by kernel_rfl) (by kernel_rfl) ?_)
                    refine (visorref01_Rot.ok k (band .u64 x1 v_26) (IntKind.i64.wrap (Int.tmod x0.c 64)) v_29 h_28 κ w (pt b_2 (blk (Tapi_Op.cells x0) 93) :: S) hs.own).mono ?_
                    rintro _ w ⟨rfl, how⟩
                    refine ⟨_, _, _, rfl, how, fun a hs => ?_⟩
                    refine qpe 1 [(10, vw v_29)] hs fun a hs => hK23 _ _ ?_
                    clear hK23
                    refine wp_ret ?_
                    exact Vk.ret1 (P := Try.prog) (fn := Try.f130) (R := RR) (vw v_29) hs rfl (by kernel_rfl) (by obtain rfl := Option.some.inj hm; subst hRR; exact ⟨rfl, (Own.to hs.own [] 1 (by kernel_rfl) (by kernel_rfl))⟩)
                  · replace hm := bif_f hm hb
                    refine qsr fun K30 hK30 => ?_
                    refine qpe 2 [(1, vw x1), (2, vw x2), (3, vw x3), (11, vi (IntKind.i64.wrap (Int.tmod x0.c 64))), (17, vi x0.kind), (62, .bool (x0.kind == 10))] hs fun a hs => hK30 _ _ ?_
                    clear hK30
                    refine qcs (x0.kind == 10) hs (fun hb => ?_) fun hb => ?_
                    · replace hm := bif_t hm hb
                      refine qsr fun K31 hK31 => ?_
                      refine qpu 3 hs fun a hs => ?_
                      obtain ⟨v_34, h_33, hm⟩ := bind_t hm
                      refine Vk.step (Vk.call (some 67) 163 #[vw x1, vi (IntKind.i64.wrap (64 - (IntKind.i64.wrap (Int.tmod x0.c 64))))] hs (by kernel_rfl) (by kernel_rfl) (by kernel_rfl) ?_)
                      refine (visorref01_Rot.ok k x1 (IntKind.i64.wrap (64 - (IntKind.i64.wrap (Int.tmod x0.c 64)))) v_34 h_33 κ w (pt b_2 (blk (Tapi_Op.cells x0) 93) :: S) hs.own).mono ?_
                      rintro _ w ⟨rfl, how⟩
                      refine ⟨_, _, _, rfl, how, fun a hs => ?_⟩
                      refine qpu 2 hs fun a hs => ?_
                      obtain ⟨v_37, h_36, hm⟩ := bind_t hm
                      refine Vk.step (Vk.call (some 70) 64 #[vi (IntKind.i64.wrap (64 - (IntKind.i64.wrap (Int.tmod x0.c 64))))] hs (by kernel_rfl) (by kernel_rfl) (by kernel_rfl) ?_)
                      refine (visorref01_Low.ok k (IntKind.i64.wrap (64 - (IntKind.i64.wrap (Int.tmod x0.c 64)))) v_37 h_36 κ w (pt b_2 (blk (Tapi_Op.cells x0) 93) :: S) hs.own).mono ?_
                      rintro _ w ⟨rfl, how⟩
                      refine ⟨_, _, _, rfl, how, fun a hs => ?_⟩
                      refine qpe 2 [(10, vw (band .u64 v_34 v_37))] hs fun a hs => hK31 _ _ ?_
                      clear hK31
                      refine wp_ret ?_
                      exact Vk.ret1 (P := Try.prog) (fn := Try.f130) (R := RR) (vw (band .u64 v_34 v_37)) hs rfl (by kernel_rfl) (by obtain rfl := Option.some.inj hm; subst hRR; exact ⟨rfl, (Own.to hs.own [] 1 (by kernel_rfl) (by kernel_rfl))⟩)
                    · replace hm := bif_f hm hb
                      refine qsr fun K38 hK38 => ?_
                      refine qpe 2 [(1, vw x1), (2, vw x2), (3, vw x3), (11, vi (IntKind.i64.wrap (Int.tmod x0.c 64))), (17, vi x0.kind), (72, .bool (x0.kind == 11))] hs fun a hs => hK38 _ _ ?_
                      clear hK38
                      refine qcs (x0.kind == 11) hs (fun hb => ?_) fun hb => ?_
                      · replace hm := bif_t hm hb
                        refine qsr fun K39 hK39 => ?_
                        refine qpu 2 hs fun a hs => ?_
                        obtain ⟨v_42, h_41, hm⟩ := bind_t hm
                        refine Vk.step (Vk.call (some 76) 163 #[vw x1, vi (IntKind.i64.wrap (Int.tmod x0.c 64))] hs (by kernel_rfl) (by kernel_rfl) (by kernel_rfl) ?_)
                        refine (visorref01_Rot.ok k x1 (IntKind.i64.wrap (Int.tmod x0.c 64)) v_42 h_41 κ w (pt b_2 (blk (Tapi_Op.cells x0) 93) :: S) hs.own).mono ?_
                        rintro _ w ⟨rfl, how⟩
                        refine ⟨_, _, _, rfl, how, fun a hs => ?_⟩
                        refine qpe 1 [(10, vw v_42)] hs fun a hs => hK39 _ _ ?_
                        clear hK39
                        refine wp_ret ?_
                        exact Vk.ret1 (P := Try.prog) (fn := Try.f130) (R := RR) (vw v_42) hs rfl (by kernel_rfl) (by obtain rfl := Option.some.inj hm; subst hRR; exact ⟨rfl, (Own.to hs.own [] 1 (by kernel_rfl) (by kernel_rfl))⟩)
                      · replace hm := bif_f hm hb
                        refine qsr fun K43 hK43 => ?_
                        refine qpe 2 [(1, vw x1), (2, vw x2), (3, vw x3), (77, .bool (x0.kind == 12))] hs fun a hs => hK43 _ _ ?_
                        clear hK43
                        refine qcs (x0.kind == 12) hs (fun hb => ?_) fun hb => ?_
                        · replace hm := bif_t hm hb
                          refine qsr fun K44 hK44 => ?_
                          refine qpe 6 [(10, vw (bxor .u64 (bxor .u64 x1 x2) x3))] hs fun a hs => hK44 _ _ ?_
                          clear hK44
                          refine wp_ret ?_
                          exact Vk.ret1 (P := Try.prog) (fn := Try.f130) (R := RR) (vw (bxor .u64 (bxor .u64 x1 x2) x3)) hs rfl (by kernel_rfl) (by obtain rfl := Option.some.inj hm; subst hRR; exact ⟨rfl, (Own.to hs.own [] 1 (by kernel_rfl) (by kernel_rfl))⟩)
                        · replace hm := bif_f hm hb
                          refine wp_skip ?_
                          refine hK4 _ _ ?_
                          clear hK4
                          refine qsr fun K45 hK45 => ?_
                          refine qpe 1 [(10, vw 0)] hs fun a hs => hK45 _ _ ?_
                          clear hK45
                          refine wp_ret ?_
                          exact Vk.ret1 (P := Try.prog) (fn := Try.f130) (R := RR) (vw 0) hs rfl (by kernel_rfl) (by obtain rfl := Option.some.inj hm; subst hRR; exact ⟨rfl, (Own.to hs.own [] 1 (by kernel_rfl) (by kernel_rfl))⟩)
      refine qsr fun K11 hK11 => ?_
      refine qpe 2 [(1, vw x1), (2, vw x2), (3, vw x3), (5, pp b_2), (11, vi (IntKind.i64.wrap (Int.tmod x0.c 64))), (17, vi x0.kind), (28, .bool (x0.kind == 3))] hs fun a hs => hK11 _ _ ?_
      clear hK11
      refine qcs (x0.kind == 3) hs (fun hb => ?_) fun hb => ?_
      · replace hm := bif_t hm hb
        refine wp_skip ?_
        exact hj10 (x0.kind == 3) hm _ _ (hs.go [1, 2, 3, 5, 11, 17, 28] [0] 1 (by kernel_rfl) (by kernel_rfl) (by kernel_rfl))
      · replace hm := bif_f hm hb
        refine Vk.region ?_
        refine qpe 2 [(1, vw x1), (2, vw x2), (3, vw x3), (5, pp b_2), (11, vi (IntKind.i64.wrap (Int.tmod x0.c 64))), (17, vi x0.kind), (28, .bool (x0.kind == 4))] hs fun a hs => ?_
        exact hj10 (x0.kind == 4) hm _ _ (hs.go [1, 2, 3, 5, 11, 17, 28] [0] 1 (by kernel_rfl) (by kernel_rfl) (by kernel_rfl))


def visorref19_M_Do.j6 (k : Nat) (x1 : Tapi_Op) (p_84 : Int) (p_100 : Tvisorref19_M) : Option ((Int × Tvisorref19_M)) := (visorref19_M_At.m k p_100 x1.a).bind fun v_110 => (visorref19_M_At.m k p_100 x1.b).bind fun v_113 => (visorref19_M_At.m k p_100 x1.d).bind fun v_116 => (visorref17_Eval.m k x1 v_110 v_113 v_116 p_84).bind fun v_119 => (if (p_100.val.length + ([v_119] : List Int).length) * 8 ≤ 140737488355328 then (if (p_100.ops.length + ([x1] : List Tapi_Op).length) * 48 ≤ 140737488355328 then (visorref19_M_Len.m k (⟨p_100.n, p_100.most, p_100.words, p_100.draws, p_100.fromF, p_100.skip, p_100.kind, p_100.e, p_100.ops ++ ([x1] : List Tapi_Op), p_100.blocks, p_100.val ++ ([v_119] : List Int), p_100.tape, p_100.dry⟩ : Tvisorref19_M)).bind fun v_135 => some (IntKind.i64.wrap (v_135 - 1), (⟨p_100.n, p_100.most, p_100.words, p_100.draws, p_100.fromF, p_100.skip, p_100.kind, p_100.e, p_100.ops ++ ([x1] : List Tapi_Op), p_100.blocks, p_100.val ++ ([v_119] : List Int), p_100.tape, p_100.dry⟩ : Tvisorref19_M)) else none) else none)
def visorref19_M_Do.j5 (k : Nat) (x1 : Tapi_Op) (p_84 : Int) (p_92 : Tvisorref19_M) : Option ((Int × Tvisorref19_M)) := (bif x1.kind == 2 then visorref19_M_Do.j6 k x1 p_84 (⟨p_92.n, p_92.most, IntKind.i64.wrap (p_92.words + 1), p_92.draws, p_92.fromF, p_92.skip, p_92.kind, p_92.e, p_92.ops, p_92.blocks, p_92.val, p_92.tape, p_92.dry⟩ : Tvisorref19_M) else visorref19_M_Do.j6 k x1 p_84 p_92)
def visorref19_M_Do.j4 (k : Nat) (x1 : Tapi_Op) (p_83 : Tvisorref19_M) (p_84 : Int) : Option ((Int × Tvisorref19_M)) := (bif x1.kind == 1 then visorref19_M_Do.j5 k x1 p_84 (⟨p_83.n, p_83.most, p_83.words, IntKind.i64.wrap (p_83.draws + 1), p_83.fromF, p_83.skip, p_83.kind, p_83.e, p_83.ops, p_83.blocks, p_83.val, p_83.tape, p_83.dry⟩ : Tvisorref19_M) else visorref19_M_Do.j5 k x1 p_84 p_83)
def visorref19_M_Do.j3 (k : Nat) (x1 : Tapi_Op) (p_74 : Int) (p_75 : Bool) (p_76 : Tvisorref19_M) : Option ((Int × Tvisorref19_M)) := (bif !p_75 then (visorref19_M_Fails.m k p_76 2).bind fun v_82 => some (v_82.1, v_82.2) else visorref19_M_Do.j4 k x1 p_76 p_74)
def visorref19_M_Do.j2 (k : Nat) (x0 : Tvisorref19_M) (x1 : Tapi_Op) (x2 : Int) (p_36 : Bool) : Option ((Int × Tvisorref19_M)) := (bif p_36 then (visorref19_M_Fails.m k x0 3).bind fun v_40 => some (v_40.1, v_40.2) else (bif (x1.kind == 1) && (!x0.dry) then (bif (decide (x0.tape.free < 1)) || (((x0.tape.l.length : Nat) : Int) == 0) then visorref19_M_Do.j3 k x1 0 false x0 else (if 0 ≤ (0 : Int) then (x0.tape.l[0]?).bind fun e_60 => (if ((0 : Int) ≤ 1) ∧ 1 ≤ x0.tape.l.length ∧ x0.tape.l.length ≤ x0.tape.l.length then visorref19_M_Do.j3 k x1 e_60 true (⟨x0.n, x0.most, x0.words, x0.draws, x0.fromF, x0.skip, x0.kind, x0.e, x0.ops, x0.blocks, x0.val, (⟨cut x0.tape.l (1) (x0.tape.l.length), IntKind.i64.wrap (x0.tape.used + 1), IntKind.i64.wrap (x0.tape.free - 1)⟩ : Tvisorref02_T), x0.dry⟩ : Tvisorref19_M) else none) else none)) else visorref19_M_Do.j4 k x1 x0 x2))
def visorref19_M_Do.j1 (k : Nat) (x0 : Tvisorref19_M) (x1 : Tapi_Op) (x2 : Int) (p_20 : Bool) : Option ((Int × Tvisorref19_M)) := (bif p_20 then (visorref19_M_Fails.m k x0 1).bind fun v_24 => some (v_24.1, v_24.2) else (bif !x0.dry then (visorref19_M_Len.m k x0).bind fun v_35 => visorref19_M_Do.j2 k x0 x1 x2 (decide (v_35 ≥ x0.most)) else visorref19_M_Do.j2 k x0 x1 x2 false))
abbrev visorref19_M_Do.R (κ : Ctx) (S : List HP) (x0 : Tvisorref19_M) (x1 : Tapi_Op) (x2 : Int) (b_x0 : Nat) (r : (Int × Tvisorref19_M)) : Ending → World → Prop := fun e w' => e = .returned (vi r.1) ∧ Own κ w' (Tvisorref19_M.own κ b_x0 r.2 :: S)
def visorref19_M_Do.m (k : Nat) (x0 : Tvisorref19_M) (x1 : Tapi_Op) (x2 : Int) : Option (Int × Tvisorref19_M) := (bif x0.e != 0 then some ((-1), x0) else (visorref19_M_Len.m k x0).bind fun v_16 => (visorref17_Right.m k x1 v_16 x0.n).bind fun v_19 => (bif !v_19 then visorref19_M_Do.j1 k x0 x1 x2 true else (bif x1.kind == 2 then visorref19_M_Do.j1 k x0 x1 x2 (x1.c != (IntKind.u64.wrap x0.words)) else visorref19_M_Do.j1 k x0 x1 x2 false)))

set_option maxRecDepth 100000 in
set_option maxHeartbeats 4000000 in
theorem visorref19_M_Do.ok (k : Nat) (x0 : Tvisorref19_M) (x1 : Tapi_Op) (x2 : Int) (r : (Int × Tvisorref19_M)) (hm : visorref19_M_Do.m k x0 x1 x2 = some r) (κ : Ctx) (w : World) (S : List HP) (b_x0 : Nat) (ho : Own κ w (Tvisorref19_M.own κ b_x0 x0 :: S)) :
    Calls Try.prog 55 #[pp b_x0, .agg (vals [ci x1.kind, ci x1.dom, ci x1.a, ci x1.b, ci x1.d, cw x1.c]), vw x2] w (visorref19_M_Do.R κ S x0 x1 x2 b_x0 r) := by
  unfold visorref19_M_Do.m at hm
  generalize hRR : visorref19_M_Do.R κ S x0 x1 x2 b_x0 r = RR
  refine qen [(0, pp b_x0), (1, .agg (vals [ci x1.kind, ci x1.dom, ci x1.a, ci x1.b, ci x1.d, cw x1.c])), (2, vw x2)] Try.func55 Try.ntmps55 ho fun a hs => ?_
  refine qsr fun K1 hK1 => ?_
  refine Vk.step (Vk.box (x := (.tmp 1)) 4 93 [ci x1.kind, ci x1.dom, ci x1.a, ci x1.b, ci x1.d, cw x1.c] hs (by kernel_rfl) (by kernel_rfl) (by kernel_rfl) fun b_2 w a hs => ?_)
  refine qpe 1 [(0, pp b_x0), (2, vw x2), (4, pp b_2)] hs fun a hs => hK1 _ _ ?_
  clear hK1
  refine Vk.seq fun K3 hK3 => ?_
  refine qsr fun K4 hK4 => ?_
  refine qpu 3 hs fun a hs => ?_
  obtain ⟨g_5, hs⟩ := hs.unbag 1 rfl
  refine qld 0 (ci x0.e) hs rfl fun a hs => ?_
  refine qpe 1 [(0, pp b_x0), (2, vw x2), (4, pp b_2), (13, .bool (x0.e != 0))] hs fun a hs => hK4 _ _ ?_
  clear hK4
  refine qcs (x0.e != 0) hs (fun hb => ?_) fun hb => ?_
  · replace hm := bif_t hm hb
    refine qsr fun K10 hK10 => ?_
    refine qpe 1 [(6, vi (-1))] hs fun a hs => hK10 _ _ ?_
    clear hK10
    refine wp_ret ?_
    replace hs := hs.bagG (l := Tvisorref19_M.parts κ b_x0 x0 g_5) (S' := pt b_2 (blk (Tapi_Op.cells x1) 93) :: S) (Own.to hs.own [0, 1, 2, 3, 4, 5] 6 (by kernel_rfl) (by kernel_rfl))
    replace hs := hs.toEx (Tvisorref19_M.parts κ b_x0 x0) g_5 0 rfl
    exact Vk.ret1 (P := Try.prog) (fn := Try.f55) (R := RR) (vi (-1)) hs rfl (by kernel_rfl) (by obtain rfl := Option.some.inj hm; subst hRR; exact ⟨rfl, (Own.to hs.own [0] 2 (by kernel_rfl) (by kernel_rfl))⟩)
  · replace hm := bif_f hm hb
    refine wp_skip ?_
    refine hK3 _ _ ?_
    clear hK3
    refine Vk.seq fun K11 hK11 => ?_
    refine Vk.seq fun K12 hK12 => ?_
    have hj12 : ∀ (p_20 : Bool), visorref19_M_Do.j1 k x0 x1 x2 p_20 = some r → ∀ (a : Act) (w : World), St 137 a w κ [(0, pp b_x0), (2, vw x2), (4, pp b_2), (37, .bool p_20)] (Tvisorref19_M.own κ b_x0 x0 :: pt b_2 (blk (Tapi_Op.cells x1) 93) :: S) → K12 a w := by
      intro p_20 hm a w hs
      unfold visorref19_M_Do.j1 at hm
      refine hK12 _ _ ?_
      refine qcs (p_20) hs (fun hb => ?_) fun hb => ?_
      · replace hm := bif_t hm hb
        refine qsr fun K21 hK21 => ?_
        refine qpu 1 hs fun a hs => ?_
        obtain ⟨v_24, h_23, hm⟩ := bind_t hm
        refine Vk.step (Vk.call (some 39) 128 #[pp b_x0, vi 1] hs (by kernel_rfl) (by kernel_rfl) (by kernel_rfl) ?_)
        refine (visorref19_M_Fails.ok k x0 1 v_24 h_23 κ w (pt b_2 (blk (Tapi_Op.cells x1) 93) :: S) b_x0 (Own.to hs.own [0, 1] 2 (by kernel_rfl) (by kernel_rfl))).mono ?_
        rintro _ w ⟨rfl, how⟩
        refine ⟨_, _, _, rfl, how, fun a hs => ?_⟩
        refine qpe 1 [(6, vi v_24.1)] hs fun a hs => hK21 _ _ ?_
        clear hK21
        refine wp_ret ?_
        exact Vk.ret1 (P := Try.prog) (fn := Try.f55) (R := RR) (vi v_24.1) hs rfl (by kernel_rfl) (by obtain rfl := Option.some.inj hm; subst hRR; exact ⟨rfl, (Own.to hs.own [0] 2 (by kernel_rfl) (by kernel_rfl))⟩)
      · replace hm := bif_f hm hb
        refine wp_skip ?_
        refine hK11 _ _ ?_
        clear hK11
        refine Vk.seq fun K25 hK25 => ?_
        refine Vk.seq fun K26 hK26 => ?_
        have hj26 : ∀ (p_36 : Bool), visorref19_M_Do.j2 k x0 x1 x2 p_36 = some r → ∀ (a : Act) (w : World), St 137 a w κ [(0, pp b_x0), (2, vw x2), (4, pp b_2), (53, .bool p_36)] (Tvisorref19_M.own κ b_x0 x0 :: pt b_2 (blk (Tapi_Op.cells x1) 93) :: S) → K26 a w := by
          intro p_36 hm a w hs
          unfold visorref19_M_Do.j2 at hm
          refine hK26 _ _ ?_
          refine qcs (p_36) hs (fun hb => ?_) fun hb => ?_
          · replace hm := bif_t hm hb
            refine qsr fun K37 hK37 => ?_
            refine qpu 1 hs fun a hs => ?_
            obtain ⟨v_40, h_39, hm⟩ := bind_t hm
            refine Vk.step (Vk.call (some 55) 128 #[pp b_x0, vi 3] hs (by kernel_rfl) (by kernel_rfl) (by kernel_rfl) ?_)
            refine (visorref19_M_Fails.ok k x0 3 v_40 h_39 κ w (pt b_2 (blk (Tapi_Op.cells x1) 93) :: S) b_x0 (Own.to hs.own [0, 1] 2 (by kernel_rfl) (by kernel_rfl))).mono ?_
            rintro _ w ⟨rfl, how⟩
            refine ⟨_, _, _, rfl, how, fun a hs => ?_⟩
            refine qpe 1 [(6, vi v_40.1)] hs fun a hs => hK37 _ _ ?_
            clear hK37
            refine wp_ret ?_
            exact Vk.ret1 (P := Try.prog) (fn := Try.f55) (R := RR) (vi v_40.1) hs rfl (by kernel_rfl) (by obtain rfl := Option.some.inj hm; subst hRR; exact ⟨rfl, (Own.to hs.own [0] 2 (by kernel_rfl) (by kernel_rfl))⟩)
          · replace hm := bif_f hm hb
            refine wp_skip ?_
            refine hK25 _ _ ?_
            clear hK25
            refine Vk.seq fun K41 hK41 => ?_
            have hj41 : ∀ (p_83 : Tvisorref19_M) (p_84 : Int), visorref19_M_Do.j4 k x1 p_83 p_84 = some r → ∀ (a : Act) (w : World), St 137 a w κ [(0, pp b_x0), (2, vw p_84), (4, pp b_2)] (Tvisorref19_M.own κ b_x0 p_83 :: pt b_2 (blk (Tapi_Op.cells x1) 93) :: S) → K41 a w := by
              intro p_83 p_84 hm a w hs
              unfold visorref19_M_Do.j4 at hm
              refine hK41 _ _ ?_
              refine Vk.seq fun K85 hK85 => ?_
              have hj85 : ∀ (p_92 : Tvisorref19_M), visorref19_M_Do.j5 k x1 p_84 p_92 = some r → ∀ (a : Act) (w : World), St 137 a w κ [(0, pp b_x0), (2, vw p_84), (4, pp b_2)] (Tvisorref19_M.own κ b_x0 p_92 :: pt b_2 (blk (Tapi_Op.cells x1) 93) :: S) → K85 a w := by
                intro p_92 hm a w hs
                unfold visorref19_M_Do.j5 at hm
                refine hK85 _ _ ?_
                refine Vk.seq fun K93 hK93 => ?_
                have hj93 : ∀ (p_100 : Tvisorref19_M), visorref19_M_Do.j6 k x1 p_84 p_100 = some r → ∀ (a : Act) (w : World), St 137 a w κ [(0, pp b_x0), (2, vw p_84), (4, pp b_2)] (Tvisorref19_M.own κ b_x0 p_100 :: pt b_2 (blk (Tapi_Op.cells x1) 93) :: S) → K93 a w := by
                  intro p_100 hm a w hs
                  unfold visorref19_M_Do.j6 at hm
                  refine hK93 _ _ ?_
                  refine Vk.seq fun K101 hK101 => ?_
                  obtain ⟨g_102, hs⟩ := hs.unbag 0 rfl
                  obtain ⟨C_107, hC_107⟩ : ∃ X0 : List HP, X0 = (pt b_x0 (blk (Tvisorref19_M.obj p_100 g_102.1 g_102.2.1 g_102.2.2.1 g_102.2.2.2.1 g_102.2.2.2.2.1 g_102.2.2.2.2.2.1 g_102.2.2.2.2.2.2.1 g_102.2.2.2.2.2.2.2) 64) :: rowp g_102.1 g_102.2.1 93 6 Tapi_Op.cells p_100.ops :: rowp g_102.2.2.1 g_102.2.2.2.1 175 3 Tapi_Span.cells p_100.blocks :: rdp κ g_102.2.2.2.2.2.2.1 g_102.2.2.2.2.2.2.2 1 (eI .u64) p_100.tape.l :: pt b_2 (blk (Tapi_Op.cells x1) 93) :: S) := ⟨_, rfl⟩
                  refine qdr 22 κ C_107 hs fun w hs hqC_107 => ?_
                  have hcz : Own κ w (pt b_x0 (blk (Tvisorref19_M.obj p_100 g_102.1 g_102.2.1 g_102.2.2.1 g_102.2.2.2.1 g_102.2.2.2.2.1 g_102.2.2.2.2.2.1 g_102.2.2.2.2.2.2.1 g_102.2.2.2.2.2.2.2) 64) :: rowp g_102.1 g_102.2.1 93 6 Tapi_Op.cells p_100.ops :: rowp g_102.2.2.1 g_102.2.2.2.1 175 3 Tapi_Span.cells p_100.blocks :: rdp κ g_102.2.2.2.2.2.2.1 g_102.2.2.2.2.2.2.2 1 (eI .u64) p_100.tape.l :: pt b_2 (blk (Tapi_Op.cells x1) 93) :: S) := (Own.to hs.own [0, 1, 2, 4, 5] 6 (by kernel_rfl) (by kernel_rfl))
                  have hcl : Own κ w C_107 := by rw [hC_107]; exact hcz
                  refine qdp (fuel := 14) [0, 1, 2, 3, 6, 7, 10, 11, 14, 15, 18] hs hcl hqC_107 fun a hs => ?_
                  refine qdl 4 0 (C.slc g_102.2.2.2.2.1 p_100.val.length g_102.2.2.2.2.2.1) hs hcl hqC_107 hC_107 rfl fun a hs => ?_
                  refine qdn 5 4 ([ci x1.kind, ci x1.dom, ci x1.a, ci x1.b, ci x1.d, cw x1.c]) hs hcl hqC_107 hC_107 rfl fun a hs => ?_
                  refine qdl 8 4 (ci x1.a) hs hcl hqC_107 hC_107 rfl fun a hs => ?_
                  refine qdl 12 4 (ci x1.b) hs hcl hqC_107 hC_107 rfl fun a hs => ?_
                  refine qdl 16 4 (ci x1.d) hs hcl hqC_107 hC_107 rfl fun a hs => ?_
                  replace hs := hs.bagG (l := Tvisorref19_M.parts κ b_x0 p_100 g_102) (S' := pt b_2 (blk (Tapi_Op.cells x1) 93) :: S) (Own.to hs.own [0, 1, 2, 3, 4, 5] 6 (by kernel_rfl) (by kernel_rfl))
                  obtain ⟨v_110, h_109, hm⟩ := bind_t hm
                  refine Vk.dOnly (i := 9) (by kernel_rfl) (Vk.call (some 109) 131 #[pp b_x0, vi x1.a] hs (by kernel_rfl) (by kernel_rfl) (by kernel_rfl) ?_)
                  refine (visorref19_M_At.ok k p_100 x1.a v_110 h_109 κ w (pt b_2 (blk (Tapi_Op.cells x1) 93) :: S) b_x0 g_102 (Own.to hs.own [0, 1] 2 (by kernel_rfl) (by kernel_rfl))).mono ?_
                  rintro _ w ⟨rfl, how⟩
                  refine ⟨_, _, _, rfl, how, fun a hs => ?_⟩
                  replace hs := hs.unbagAt 0 rfl
                  replace hcl : Own κ w C_107 := by rw [hC_107]; exact (Own.to hs.own [0, 1, 2, 4, 5] 6 (by kernel_rfl) (by kernel_rfl))
                  refine ⟨fun _ => hcl, ?_⟩
                  replace hs := hs.bagG (l := Tvisorref19_M.parts κ b_x0 p_100 g_102) (S' := pt b_2 (blk (Tapi_Op.cells x1) 93) :: S) (Own.to hs.own [0, 1, 2, 3, 4, 5] 6 (by kernel_rfl) (by kernel_rfl))
                  obtain ⟨v_113, h_112, hm⟩ := bind_t hm
                  refine Vk.dOnly (i := 13) (by kernel_rfl) (Vk.call (some 113) 131 #[pp b_x0, vi x1.b] hs (by kernel_rfl) (by kernel_rfl) (by kernel_rfl) ?_)
                  refine (visorref19_M_At.ok k p_100 x1.b v_113 h_112 κ w (pt b_2 (blk (Tapi_Op.cells x1) 93) :: S) b_x0 g_102 (Own.to hs.own [0, 1] 2 (by kernel_rfl) (by kernel_rfl))).mono ?_
                  rintro _ w ⟨rfl, how⟩
                  refine ⟨_, _, _, rfl, how, fun a hs => ?_⟩
                  replace hs := hs.unbagAt 0 rfl
                  replace hcl : Own κ w C_107 := by rw [hC_107]; exact (Own.to hs.own [0, 1, 2, 4, 5] 6 (by kernel_rfl) (by kernel_rfl))
                  refine ⟨fun _ => hcl, ?_⟩
                  replace hs := hs.bagG (l := Tvisorref19_M.parts κ b_x0 p_100 g_102) (S' := pt b_2 (blk (Tapi_Op.cells x1) 93) :: S) (Own.to hs.own [0, 1, 2, 3, 4, 5] 6 (by kernel_rfl) (by kernel_rfl))
                  obtain ⟨v_116, h_115, hm⟩ := bind_t hm
                  refine Vk.dOnly (i := 17) (by kernel_rfl) (Vk.call (some 117) 131 #[pp b_x0, vi x1.d] hs (by kernel_rfl) (by kernel_rfl) (by kernel_rfl) ?_)
                  refine (visorref19_M_At.ok k p_100 x1.d v_116 h_115 κ w (pt b_2 (blk (Tapi_Op.cells x1) 93) :: S) b_x0 g_102 (Own.to hs.own [0, 1] 2 (by kernel_rfl) (by kernel_rfl))).mono ?_
                  rintro _ w ⟨rfl, how⟩
                  refine ⟨_, _, _, rfl, how, fun a hs => ?_⟩
                  replace hs := hs.unbagAt 0 rfl
                  replace hcl : Own κ w C_107 := by rw [hC_107]; exact (Own.to hs.own [0, 1, 2, 4, 5] 6 (by kernel_rfl) (by kernel_rfl))
                  refine ⟨fun _ => hcl, ?_⟩
                  obtain ⟨v_119, h_118, hm⟩ := bind_t hm
                  refine Vk.dOnly (i := 19) (by kernel_rfl) (Vk.call (some 119) 130 #[.agg (vals [ci x1.kind, ci x1.dom, ci x1.a, ci x1.b, ci x1.d, cw x1.c]), vw v_110, vw v_113, vw v_116, vw p_84] hs (by kernel_rfl) (by kernel_rfl) (by kernel_rfl) ?_)
                  refine (visorref17_Eval.ok k x1 v_110 v_113 v_116 p_84 v_119 h_118 κ w (pt b_x0 (blk (Tvisorref19_M.obj p_100 g_102.1 g_102.2.1 g_102.2.2.1 g_102.2.2.2.1 g_102.2.2.2.2.1 g_102.2.2.2.2.2.1 g_102.2.2.2.2.2.2.1 g_102.2.2.2.2.2.2.2) 64) :: rowp g_102.1 g_102.2.1 93 6 Tapi_Op.cells p_100.ops :: rowp g_102.2.2.1 g_102.2.2.2.1 175 3 Tapi_Span.cells p_100.blocks :: rowp g_102.2.2.2.2.1 g_102.2.2.2.2.2.1 32 1 (eI .u64) p_100.val :: rdp κ g_102.2.2.2.2.2.2.1 g_102.2.2.2.2.2.2.2 1 (eI .u64) p_100.tape.l :: pt b_2 (blk (Tapi_Op.cells x1) 93) :: S) hs.own).mono ?_
                  rintro _ w ⟨rfl, how⟩
                  refine ⟨_, _, _, rfl, how, fun a hs => ?_⟩
                  replace hcl : Own κ w C_107 := by rw [hC_107]; exact (Own.to hs.own [0, 1, 2, 4, 5] 6 (by kernel_rfl) (by kernel_rfl))
                  refine ⟨fun _ => hcl, ?_⟩
                  refine Vk.dOnly (i := 20) (by kernel_rfl) (Vk.buildOp (sz := 1) (by_ := 8) (t := 25) (e := 32) (parts := #[(0, (.tmp 119))]) (zs := vals [cw 0]) ([v_119] : List Int) (eI .u64) (some 120) hs (by kernel_rfl) (by kernel_rfl) (by kernel_rfl) (by kernel_rfl) (by decide) rfl (fun x _ => rfl) (Nat.le_of_ble_eq_true (by kernel_rfl)) (by kernel_rfl) fun A_120 w a hs => ?_)
                  replace hcl : Own κ w C_107 := by rw [hC_107]; exact (Own.to hs.own [1, 2, 3, 5, 6] 7 (by kernel_rfl) (by kernel_rfl))
                  refine ⟨fun _ => hcl, ?_⟩
                  obtain ⟨h_122, hm⟩ := ite_t hm
                  refine Vk.dOnly (i := 21) (by kernel_rfl) (Vk.appendOp (x := (.tmp 104)) (y := (.tmp 120)) (e := 32) (t := 25) (by_ := 8) (sz := 1) (enc := (eI .u64)) (A := g_102.2.2.2.2.1) (cap := g_102.2.2.2.2.2.1) (xs := p_100.val) (ys := ([v_119] : List Int)) (B := A_120) (c2 := 1) 4 (some 121) hs (by kernel_rfl) (by kernel_rfl) (by kernel_rfl) (by kernel_rfl) rfl (Sl.lift (fun w ho => (Own.to (S' := rowp A_120 1 32 1 (eI .u64) ([v_119] : List Int) :: S) ho [0] 7 (by kernel_rfl) (by kernel_rfl))) (Own.rowSl 0 (Own.to (S' := rowp A_120 1 32 1 (eI .u64) ([v_119] : List Int) :: S) hs.own [0] 7 (by kernel_rfl) (by kernel_rfl)) rfl)) (by kernel_rfl) (by kernel_rfl) (by decide) (by decide) h_122 fun A_123 c_124 w a hs => ?_)
                  replace hcl : Own κ w C_107 := by rw [hC_107]; exact (Own.to hs.own [1, 2, 3, 5, 6] 7 (by kernel_rfl) (by kernel_rfl))
                  refine ⟨fun _ => hcl, ?_⟩
                  refine Vk.dOnly (i := 22) (by kernel_rfl) (Vk.dPure1 [(122, pp b_x0)] hs (by kernel_rfl) fun a hs => ?_)
                  refine ⟨fun h => absurd h (by decide), ?_⟩
                  refine Vk.dOnly (i := 23) (by kernel_rfl) (Vk.dPure1 [(123, .pointer (some ⟨b_x0, 10, none⟩))] hs (by kernel_rfl) fun a hs => ?_)
                  refine ⟨fun h => absurd h (by decide), ?_⟩
                  refine Vk.dOnly (i := 24) (by kernel_rfl) (Vk.store1 (b := b_x0) (ty := 25) (x := (.tmp 123)) (y := (.tmp 121)) (off := 10) (C.slc A_123 ((p_100.val ++ ([v_119] : List Int)).length) c_124) 1 hs (by kernel_rfl) (by kernel_rfl) (by kernel_rfl) (by kernel_rfl) (by kernel_rfl) (by kernel_rfl) rfl (Nat.le_of_ble_eq_true (by kernel_rfl)) fun a w hs => ?_)
                  refine ⟨fun h => absurd h (by decide), ?_⟩
                  replace hs := hs.pick [0, 4] (L' := [(0, pp b_x0), (4, pp b_2)]) (by kernel_rfl)
                  refine Vk.dDone (by kernel_rfl) ?_
                  refine hK101 _ _ ?_
                  clear hK101
                  refine Vk.seq fun K125 hK125 => ?_
                  obtain ⟨C_126, hC_126⟩ : ∃ X0 : List HP, X0 = (rowp A_120 1 32 1 (eI .u64) ([v_119] : List Int) :: pt b_x0 (blk ((Tvisorref19_M.obj p_100 g_102.1 g_102.2.1 g_102.2.2.1 g_102.2.2.2.1 none 0 g_102.2.2.2.2.2.2.1 g_102.2.2.2.2.2.2.2).set 10 (C.slc A_123 ((p_100.val ++ ([v_119] : List Int)).length) c_124)) 64) :: rowp g_102.2.2.1 g_102.2.2.2.1 175 3 Tapi_Span.cells p_100.blocks :: rowp A_123 c_124 32 1 (eI .u64) (p_100.val ++ ([v_119] : List Int)) :: rdp κ g_102.2.2.2.2.2.2.1 g_102.2.2.2.2.2.2.2 1 (eI .u64) p_100.tape.l :: pt b_2 (blk (Tapi_Op.cells x1) 93) :: S) := ⟨_, rfl⟩
                  refine qdr 8 κ C_126 hs fun w hs hqC_126 => ?_
                  have hcz : Own κ w (rowp A_120 1 32 1 (eI .u64) ([v_119] : List Int) :: pt b_x0 (blk ((Tvisorref19_M.obj p_100 g_102.1 g_102.2.1 g_102.2.2.1 g_102.2.2.2.1 none 0 g_102.2.2.2.2.2.2.1 g_102.2.2.2.2.2.2.2).set 10 (C.slc A_123 ((p_100.val ++ ([v_119] : List Int)).length) c_124)) 64) :: rowp g_102.2.2.1 g_102.2.2.2.1 175 3 Tapi_Span.cells p_100.blocks :: rowp A_123 c_124 32 1 (eI .u64) (p_100.val ++ ([v_119] : List Int)) :: rdp κ g_102.2.2.2.2.2.2.1 g_102.2.2.2.2.2.2.2 1 (eI .u64) p_100.tape.l :: pt b_2 (blk (Tapi_Op.cells x1) 93) :: S) := (Own.to hs.own [0, 1, 3, 4, 5, 6] 7 (by kernel_rfl) (by kernel_rfl))
                  have hcl : Own κ w C_126 := by rw [hC_126]; exact hcz
                  refine qdp (fuel := 7) [0, 1, 2, 3] hs hcl hqC_126 fun a hs => ?_
                  refine qdl 4 1 (C.slc g_102.1 p_100.ops.length g_102.2.1) hs hcl hqC_126 hC_126 rfl fun a hs => ?_
                  refine qdn 5 5 ([ci x1.kind, ci x1.dom, ci x1.a, ci x1.b, ci x1.d, cw x1.c]) hs hcl hqC_126 hC_126 rfl fun a hs => ?_
                  refine Vk.dOnly (i := 6) (by kernel_rfl) (Vk.buildOp (sz := 6) (by_ := 48) (t := 59) (e := 93) (parts := #[(0, (.tmp 129))]) (zs := vals [ci 0, ci 0, ci 0, ci 0, ci 0, cw 0]) ([x1] : List Tapi_Op) Tapi_Op.cells (some 130) hs (by kernel_rfl) (by kernel_rfl) (by kernel_rfl) (by kernel_rfl) (by decide) rfl (fun x _ => rfl) (Nat.le_of_ble_eq_true (by kernel_rfl)) (by kernel_rfl) fun A_127 w a hs => ?_)
                  replace hcl : Own κ w C_126 := by rw [hC_126]; exact (Own.to hs.own [1, 2, 4, 5, 6, 7] 8 (by kernel_rfl) (by kernel_rfl))
                  refine ⟨fun _ => hcl, ?_⟩
                  obtain ⟨h_129, hm⟩ := ite_t hm
                  refine Vk.dOnly (i := 7) (by kernel_rfl) (Vk.appendOp (x := (.tmp 128)) (y := (.tmp 130)) (e := 93) (t := 59) (by_ := 48) (sz := 6) (enc := Tapi_Op.cells) (A := g_102.1) (cap := g_102.2.1) (xs := p_100.ops) (ys := ([x1] : List Tapi_Op)) (B := A_127) (c2 := 1) 3 (some 131) hs (by kernel_rfl) (by kernel_rfl) (by kernel_rfl) (by kernel_rfl) rfl (Sl.lift (fun w ho => (Own.to (S' := rowp A_127 1 93 6 Tapi_Op.cells ([x1] : List Tapi_Op) :: S) ho [0] 8 (by kernel_rfl) (by kernel_rfl))) (Own.rowSl 0 (Own.to (S' := rowp A_127 1 93 6 Tapi_Op.cells ([x1] : List Tapi_Op) :: S) hs.own [0] 8 (by kernel_rfl) (by kernel_rfl)) rfl)) (by kernel_rfl) (by kernel_rfl) (by decide) (by decide) h_129 fun A_130 c_131 w a hs => ?_)
                  replace hcl : Own κ w C_126 := by rw [hC_126]; exact (Own.to hs.own [1, 2, 4, 5, 6, 7] 8 (by kernel_rfl) (by kernel_rfl))
                  refine ⟨fun _ => hcl, ?_⟩
                  refine Vk.dOnly (i := 8) (by kernel_rfl) (Vk.dPure1 [(132, pp b_x0)] hs (by kernel_rfl) fun a hs => ?_)
                  refine ⟨fun h => absurd h (by decide), ?_⟩
                  refine Vk.dOnly (i := 9) (by kernel_rfl) (Vk.dPure1 [(133, .pointer (some ⟨b_x0, 8, none⟩))] hs (by kernel_rfl) fun a hs => ?_)
                  refine ⟨fun h => absurd h (by decide), ?_⟩
                  refine Vk.dOnly (i := 10) (by kernel_rfl) (Vk.store1 (b := b_x0) (ty := 59) (x := (.tmp 133)) (y := (.tmp 131)) (off := 8) (C.slc A_130 ((p_100.ops ++ ([x1] : List Tapi_Op)).length) c_131) 2 hs (by kernel_rfl) (by kernel_rfl) (by kernel_rfl) (by kernel_rfl) (by kernel_rfl) (by kernel_rfl) rfl (Nat.le_of_ble_eq_true (by kernel_rfl)) fun a w hs => ?_)
                  refine ⟨fun h => absurd h (by decide), ?_⟩
                  replace hs := hs.pick [0] (L' := [(0, pp b_x0)]) (by kernel_rfl)
                  refine Vk.dDone (by kernel_rfl) ?_
                  refine hK125 _ _ ?_
                  clear hK125
                  refine qsr fun K132 hK132 => ?_
                  refine qpu 1 hs fun a hs => ?_
                  replace hs := hs.bagG (l := Tvisorref19_M.parts κ b_x0 (⟨p_100.n, p_100.most, p_100.words, p_100.draws, p_100.fromF, p_100.skip, p_100.kind, p_100.e, p_100.ops ++ ([x1] : List Tapi_Op), p_100.blocks, p_100.val ++ ([v_119] : List Int), p_100.tape, p_100.dry⟩ : Tvisorref19_M) (A_130, c_131, g_102.2.2.1, g_102.2.2.2.1, A_123, c_124, g_102.2.2.2.2.2.2.1, g_102.2.2.2.2.2.2.2)) (S' := rowp A_127 1 93 6 Tapi_Op.cells ([x1] : List Tapi_Op) :: rowp A_120 1 32 1 (eI .u64) ([v_119] : List Int) :: pt b_2 (blk (Tapi_Op.cells x1) 93) :: S) (Own.to hs.own [2, 3, 4, 5, 6, 0, 1, 7] 8 (by kernel_rfl) (by kernel_rfl))
                  obtain ⟨v_135, h_134, hm⟩ := bind_t hm
                  refine Vk.step (Vk.call (some 135) 127 #[pp b_x0] hs (by kernel_rfl) (by kernel_rfl) (by kernel_rfl) ?_)
                  refine (visorref19_M_Len.ok k (⟨p_100.n, p_100.most, p_100.words, p_100.draws, p_100.fromF, p_100.skip, p_100.kind, p_100.e, p_100.ops ++ ([x1] : List Tapi_Op), p_100.blocks, p_100.val ++ ([v_119] : List Int), p_100.tape, p_100.dry⟩ : Tvisorref19_M) v_135 h_134 κ w (rowp A_127 1 93 6 Tapi_Op.cells ([x1] : List Tapi_Op) :: rowp A_120 1 32 1 (eI .u64) ([v_119] : List Int) :: pt b_2 (blk (Tapi_Op.cells x1) 93) :: S) b_x0 (A_130, c_131, g_102.2.2.1, g_102.2.2.2.1, A_123, c_124, g_102.2.2.2.2.2.2.1, g_102.2.2.2.2.2.2.2) (Own.to hs.own [0, 1, 2, 3] 4 (by kernel_rfl) (by kernel_rfl))).mono ?_
                  rintro _ w ⟨rfl, how⟩
                  refine ⟨_, _, _, rfl, how, fun a hs => ?_⟩
                  replace hs := hs.unbagAt 0 rfl
                  refine qpe 2 [(6, vi (IntKind.i64.wrap (v_135 - 1)))] hs fun a hs => hK132 _ _ ?_
                  clear hK132
                  refine wp_ret ?_
                  replace hs := hs.bagG (l := Tvisorref19_M.parts κ b_x0 (⟨p_100.n, p_100.most, p_100.words, p_100.draws, p_100.fromF, p_100.skip, p_100.kind, p_100.e, p_100.ops ++ ([x1] : List Tapi_Op), p_100.blocks, p_100.val ++ ([v_119] : List Int), p_100.tape, p_100.dry⟩ : Tvisorref19_M) (A_130, c_131, g_102.2.2.1, g_102.2.2.2.1, A_123, c_124, g_102.2.2.2.2.2.2.1, g_102.2.2.2.2.2.2.2)) (S' := rowp A_127 1 93 6 Tapi_Op.cells ([x1] : List Tapi_Op) :: rowp A_120 1 32 1 (eI .u64) ([v_119] : List Int) :: pt b_2 (blk (Tapi_Op.cells x1) 93) :: S) (Own.to hs.own [0, 1, 2, 3, 4, 5, 6, 7] 8 (by kernel_rfl) (by kernel_rfl))
                  replace hs := hs.toEx (Tvisorref19_M.parts κ b_x0 (⟨p_100.n, p_100.most, p_100.words, p_100.draws, p_100.fromF, p_100.skip, p_100.kind, p_100.e, p_100.ops ++ ([x1] : List Tapi_Op), p_100.blocks, p_100.val ++ ([v_119] : List Int), p_100.tape, p_100.dry⟩ : Tvisorref19_M)) (A_130, c_131, g_102.2.2.1, g_102.2.2.2.1, A_123, c_124, g_102.2.2.2.2.2.2.1, g_102.2.2.2.2.2.2.2) 0 rfl
                  exact Vk.ret1 (P := Try.prog) (fn := Try.f55) (R := RR) (vi (IntKind.i64.wrap (v_135 - 1))) hs rfl (by kernel_rfl) (by obtain rfl := Option.some.inj hm; subst hRR; exact ⟨rfl, (Own.to hs.own [0] 4 (by kernel_rfl) (by kernel_rfl))⟩)
                refine qsr fun K94 hK94 => ?_
                refine qpu 1 hs fun a hs => ?_
                refine qld 1 (ci x1.kind) hs rfl fun a hs => ?_
                refine qpe 1 [(0, pp b_x0), (2, vw p_84), (4, pp b_2), (91, .bool (x1.kind == 2))] hs fun a hs => hK94 _ _ ?_
                clear hK94
                refine qcs (x1.kind == 2) hs (fun hb => ?_) fun hb => ?_
                · replace hm := bif_t hm hb
                  refine Vk.region ?_
                  refine qpu 4 hs fun a hs => ?_
                  obtain ⟨g_95, hs⟩ := hs.unbag 0 rfl
                  refine qld 0 (ci p_92.words) hs rfl fun a hs => ?_
                  refine qpu 3 hs fun a hs => ?_
                  refine Vk.step (Vk.store1 (b := b_x0) (ty := 3) (x := (.tmp 99)) (y := (.tmp 97)) (off := 2) (ci (IntKind.i64.wrap (p_92.words + 1))) 0 hs (by kernel_rfl) (by kernel_rfl) (by kernel_rfl) (by kernel_rfl) (by kernel_rfl) (by kernel_rfl) rfl (Nat.le_of_ble_eq_true (by kernel_rfl)) fun a w hs => ?_)
                  refine qpe 0 [(0, pp b_x0), (2, vw p_84), (4, pp b_2)] hs fun a hs => ?_
                  replace hs := hs.bagG (l := Tvisorref19_M.parts κ b_x0 (⟨p_92.n, p_92.most, IntKind.i64.wrap (p_92.words + 1), p_92.draws, p_92.fromF, p_92.skip, p_92.kind, p_92.e, p_92.ops, p_92.blocks, p_92.val, p_92.tape, p_92.dry⟩ : Tvisorref19_M) g_95) (S' := pt b_2 (blk (Tapi_Op.cells x1) 93) :: S) (Own.to hs.own [0, 1, 2, 3, 4, 5] 6 (by kernel_rfl) (by kernel_rfl))
                  replace hs := hs.toEx (Tvisorref19_M.parts κ b_x0 (⟨p_92.n, p_92.most, IntKind.i64.wrap (p_92.words + 1), p_92.draws, p_92.fromF, p_92.skip, p_92.kind, p_92.e, p_92.ops, p_92.blocks, p_92.val, p_92.tape, p_92.dry⟩ : Tvisorref19_M)) g_95 0 rfl
                  exact hj93 (⟨p_92.n, p_92.most, IntKind.i64.wrap (p_92.words + 1), p_92.draws, p_92.fromF, p_92.skip, p_92.kind, p_92.e, p_92.ops, p_92.blocks, p_92.val, p_92.tape, p_92.dry⟩ : Tvisorref19_M) hm _ _ (hs.go [0, 2, 4] [0, 1] 2 (by kernel_rfl) (by kernel_rfl) (by kernel_rfl))
                · replace hm := bif_f hm hb
                  refine wp_skip ?_
                  exact hj93 p_92 hm _ _ (hs.go [0, 2, 4] [0, 1] 2 (by kernel_rfl) (by kernel_rfl) (by kernel_rfl))
              refine qsr fun K86 hK86 => ?_
              refine qpu 1 hs fun a hs => ?_
              refine qld 1 (ci x1.kind) hs rfl fun a hs => ?_
              refine qpe 1 [(0, pp b_x0), (2, vw p_84), (4, pp b_2), (80, .bool (x1.kind == 1))] hs fun a hs => hK86 _ _ ?_
              clear hK86
              refine qcs (x1.kind == 1) hs (fun hb => ?_) fun hb => ?_
              · replace hm := bif_t hm hb
                refine Vk.region ?_
                refine qpu 4 hs fun a hs => ?_
                obtain ⟨g_87, hs⟩ := hs.unbag 0 rfl
                refine qld 0 (ci p_83.draws) hs rfl fun a hs => ?_
                refine qpu 3 hs fun a hs => ?_
                refine Vk.step (Vk.store1 (b := b_x0) (ty := 3) (x := (.tmp 88)) (y := (.tmp 86)) (off := 3) (ci (IntKind.i64.wrap (p_83.draws + 1))) 0 hs (by kernel_rfl) (by kernel_rfl) (by kernel_rfl) (by kernel_rfl) (by kernel_rfl) (by kernel_rfl) rfl (Nat.le_of_ble_eq_true (by kernel_rfl)) fun a w hs => ?_)
                refine qpe 0 [(0, pp b_x0), (2, vw p_84), (4, pp b_2)] hs fun a hs => ?_
                replace hs := hs.bagG (l := Tvisorref19_M.parts κ b_x0 (⟨p_83.n, p_83.most, p_83.words, IntKind.i64.wrap (p_83.draws + 1), p_83.fromF, p_83.skip, p_83.kind, p_83.e, p_83.ops, p_83.blocks, p_83.val, p_83.tape, p_83.dry⟩ : Tvisorref19_M) g_87) (S' := pt b_2 (blk (Tapi_Op.cells x1) 93) :: S) (Own.to hs.own [0, 1, 2, 3, 4, 5] 6 (by kernel_rfl) (by kernel_rfl))
                replace hs := hs.toEx (Tvisorref19_M.parts κ b_x0 (⟨p_83.n, p_83.most, p_83.words, IntKind.i64.wrap (p_83.draws + 1), p_83.fromF, p_83.skip, p_83.kind, p_83.e, p_83.ops, p_83.blocks, p_83.val, p_83.tape, p_83.dry⟩ : Tvisorref19_M)) g_87 0 rfl
                exact hj85 (⟨p_83.n, p_83.most, p_83.words, IntKind.i64.wrap (p_83.draws + 1), p_83.fromF, p_83.skip, p_83.kind, p_83.e, p_83.ops, p_83.blocks, p_83.val, p_83.tape, p_83.dry⟩ : Tvisorref19_M) hm _ _ (hs.go [0, 2, 4] [0, 1] 2 (by kernel_rfl) (by kernel_rfl) (by kernel_rfl))
              · replace hm := bif_f hm hb
                refine wp_skip ?_
                exact hj85 p_83 hm _ _ (hs.go [0, 2, 4] [0, 1] 2 (by kernel_rfl) (by kernel_rfl) (by kernel_rfl))
            refine qsr fun K42 hK42 => ?_
            refine qpu 1 hs fun a hs => ?_
            refine qld 1 (ci x1.kind) hs rfl fun a hs => ?_
            refine qpu 2 hs fun a hs => ?_
            obtain ⟨g_43, hs⟩ := hs.unbag 0 rfl
            suffices hj_48 : ∀ a, St 137 a w κ [(0, pp b_x0), (2, vw x2), (4, pp b_2), (53, .bool p_36), (56, pp b_2), (57, vi x1.kind), (58, .bool (x1.kind == 1)), (59, .bool (x1.kind == 1)), (65, .bool ((x1.kind == 1) && (!x0.dry)))] (pt b_x0 (blk (Tvisorref19_M.obj x0 g_43.1 g_43.2.1 g_43.2.2.1 g_43.2.2.2.1 g_43.2.2.2.2.1 g_43.2.2.2.2.2.1 g_43.2.2.2.2.2.2.1 g_43.2.2.2.2.2.2.2) 64) :: rowp g_43.1 g_43.2.1 93 6 Tapi_Op.cells x0.ops :: rowp g_43.2.2.1 g_43.2.2.2.1 175 3 Tapi_Span.cells x0.blocks :: rowp g_43.2.2.2.2.1 g_43.2.2.2.2.2.1 32 1 (eI .u64) x0.val :: rdp κ g_43.2.2.2.2.2.2.1 g_43.2.2.2.2.2.2.2 1 (eI .u64) x0.tape.l :: pt b_2 (blk (Tapi_Op.cells x1) 93) :: S) → wpFrom Try.prog _ _ 10 a w by
              rcases Bool.eq_false_or_eq_true (x1.kind == 1) with hb | hb
              · replace hs := hs.known (t := 59) hb (by kernel_rfl)
                refine qpu 3 hs fun a hs => ?_
                refine qld 0 (C.bool x0.dry) hs rfl fun a hs => ?_
                refine qpu 2 hs fun a hs => ?_
                have hq := hs.pick [0, 2, 4, 53, 56, 57, 58, 59, 65] (L' := [(0, pp b_x0), (2, vw x2), (4, pp b_2), (53, .bool p_36), (56, pp b_2), (57, vi x1.kind), (58, .bool (x1.kind == 1)), (59, .bool true), (65, .bool (!x0.dry))]) (by kernel_rfl)
                exact hj_48 _ (hq.conv (by first | (rw [hb] <;> rfl) | rfl))
              · replace hs := hs.known (t := 59) hb (by kernel_rfl)
                refine qpu 6 hs fun a hs => ?_
                have hq := hs.pick [0, 2, 4, 53, 56, 57, 58, 59, 65] (L' := [(0, pp b_x0), (2, vw x2), (4, pp b_2), (53, .bool p_36), (56, pp b_2), (57, vi x1.kind), (58, .bool (x1.kind == 1)), (59, .bool false), (65, .bool false)]) (by kernel_rfl)
                exact hj_48 _ (hq.conv (by first | (rw [hb] <;> rfl) | rfl))
            intro a hs
            refine qpe 0 [(0, pp b_x0), (2, vw x2), (4, pp b_2), (65, .bool ((x1.kind == 1) && (!x0.dry)))] hs fun a hs => hK42 _ _ ?_
            clear hK42
            refine qcs ((x1.kind == 1) && (!x0.dry)) hs (fun hb => ?_) fun hb => ?_
            · replace hm := bif_t hm hb
              refine qsr fun K49 hK49 => ?_
              refine qpu 3 hs fun a hs => ?_
              refine Vk.step (Vk.call (some 70) 129 #[.pointer (some ⟨b_x0, 11, none⟩)] hs (by kernel_rfl) (by kernel_rfl) (by kernel_rfl) ?_)
              refine Vk.enterI [(0, .pointer (some ⟨b_x0, 11, none⟩))] Try.func129 rfl Try.ntmps129 (by kernel_rfl) (Nat.le_of_ble_eq_true (by kernel_rfl)) hs.own fun KR50 hKR50 hKP50 a hs => ?_
              have hj50 : ∀ (p_74 : Int) (p_75 : Bool) (p_76 : Tvisorref19_M), visorref19_M_Do.j3 k x1 p_74 p_75 p_76 = some r → ∀ (a : Act) (w : World), St 49 a w κ [(2, vw p_74), (3, .bool p_75)] (Tvisorref19_M.own κ b_x0 p_76 :: pt b_2 (blk (Tapi_Op.cells x1) 93) :: S) → KR50 a w := by
                intro p_74 p_75 p_76 hm a w hs
                unfold visorref19_M_Do.j3 at hm
                refine hKR50 _ _ ?_
                refine Vk.ret2 (P := Try.prog) (fn := Try.f129) (vw p_74) (.bool p_75) hs rfl (by kernel_rfl) (by kernel_rfl) ⟨_, _, _, rfl, hs.own, fun a hs => ?_⟩
                refine qpe 5 [(0, pp b_x0), (4, pp b_2), (7, vw p_74), (8, .bool p_75)] hs fun a hs => hK49 _ _ ?_
                clear hK49
                refine Vk.seq fun K77 hK77 => ?_
                refine qsr fun K78 hK78 => ?_
                refine qpe 2 [(0, pp b_x0), (4, pp b_2), (7, vw p_74), (74, .bool (!p_75))] hs fun a hs => hK78 _ _ ?_
                clear hK78
                refine qcs (!p_75) hs (fun hb => ?_) fun hb => ?_
                · replace hm := bif_t hm hb
                  refine qsr fun K79 hK79 => ?_
                  refine qpu 1 hs fun a hs => ?_
                  obtain ⟨v_82, h_81, hm⟩ := bind_t hm
                  refine Vk.step (Vk.call (some 76) 128 #[pp b_x0, vi 2] hs (by kernel_rfl) (by kernel_rfl) (by kernel_rfl) ?_)
                  refine (visorref19_M_Fails.ok k p_76 2 v_82 h_81 κ w (pt b_2 (blk (Tapi_Op.cells x1) 93) :: S) b_x0 (Own.to hs.own [0, 1] 2 (by kernel_rfl) (by kernel_rfl))).mono ?_
                  rintro _ w ⟨rfl, how⟩
                  refine ⟨_, _, _, rfl, how, fun a hs => ?_⟩
                  refine qpe 1 [(6, vi v_82.1)] hs fun a hs => hK79 _ _ ?_
                  clear hK79
                  refine wp_ret ?_
                  exact Vk.ret1 (P := Try.prog) (fn := Try.f55) (R := RR) (vi v_82.1) hs rfl (by kernel_rfl) (by obtain rfl := Option.some.inj hm; subst hRR; exact ⟨rfl, (Own.to hs.own [0] 2 (by kernel_rfl) (by kernel_rfl))⟩)
                · replace hm := bif_f hm hb
                  refine wp_skip ?_
                  refine hK77 _ _ ?_
                  clear hK77
                  refine Vk.region ?_
                  refine qpe 2 [(0, pp b_x0), (2, vw p_74), (4, pp b_2)] hs fun a hs => ?_
                  exact hj41 p_76 p_74 hm _ _ (hs.go [0, 2, 4] [0, 1] 2 (by kernel_rfl) (by kernel_rfl) (by kernel_rfl))
              refine qsr fun K51 hK51 => ?_
              refine qpe 2 [(0, .pointer (some ⟨b_x0, 11, none⟩))] hs fun a hs => hK51 _ _ ?_
              clear hK51
              refine Vk.seq fun K52 hK52 => ?_
              refine qsr fun K53 hK53 => ?_
              refine qpu 3 hs fun a hs => ?_
              refine qld 0 (ci x0.tape.free) hs rfl fun a hs => ?_
              refine qpu 2 hs fun a hs => ?_
              suffices hj_54 : ∀ a, St 49 a w κ [(0, .pointer (some ⟨b_x0, 11, none⟩)), (5, .pointer (some ⟨b_x0, 11, none⟩)), (6, .pointer (some ⟨b_x0, 11, none⟩)), (7, .pointer (some ⟨b_x0, 13, none⟩)), (8, vi x0.tape.free), (9, .bool (decide (x0.tape.free < 1))), (10, .bool (decide (x0.tape.free < 1))), (17, .bool ((decide (x0.tape.free < 1)) || (((x0.tape.l.length : Nat) : Int) == 0)))] (pt b_x0 (blk (Tvisorref19_M.obj x0 g_43.1 g_43.2.1 g_43.2.2.1 g_43.2.2.2.1 g_43.2.2.2.2.1 g_43.2.2.2.2.2.1 g_43.2.2.2.2.2.2.1 g_43.2.2.2.2.2.2.2) 64) :: rowp g_43.1 g_43.2.1 93 6 Tapi_Op.cells x0.ops :: rowp g_43.2.2.1 g_43.2.2.2.1 175 3 Tapi_Span.cells x0.blocks :: rowp g_43.2.2.2.2.1 g_43.2.2.2.2.2.1 32 1 (eI .u64) x0.val :: rdp κ g_43.2.2.2.2.2.2.1 g_43.2.2.2.2.2.2.2 1 (eI .u64) x0.tape.l :: pt b_2 (blk (Tapi_Op.cells x1) 93) :: S) → wpFrom Try.prog _ _ 13 a w by
                rcases Bool.eq_false_or_eq_true (decide (x0.tape.free < 1)) with hb | hb
                · replace hs := hs.known (t := 10) hb (by kernel_rfl)
                  refine qpu 7 hs fun a hs => ?_
                  have hq := hs.pick [0, 5, 6, 7, 8, 9, 10, 17] (L' := [(0, .pointer (some ⟨b_x0, 11, none⟩)), (5, .pointer (some ⟨b_x0, 11, none⟩)), (6, .pointer (some ⟨b_x0, 11, none⟩)), (7, .pointer (some ⟨b_x0, 13, none⟩)), (8, vi x0.tape.free), (9, .bool (decide (x0.tape.free < 1))), (10, .bool true), (17, .bool true)]) (by kernel_rfl)
                  exact hj_54 _ (hq.conv (by first | (rw [hb] <;> rfl) | rfl))
                · replace hs := hs.known (t := 10) hb (by kernel_rfl)
                  refine qpu 3 hs fun a hs => ?_
                  refine qld 0 (C.slc g_43.2.2.2.2.2.2.1 x0.tape.l.length g_43.2.2.2.2.2.2.2) hs rfl fun a hs => ?_
                  refine qpu 3 hs fun a hs => ?_
                  have hq := hs.pick [0, 5, 6, 7, 8, 9, 10, 17] (L' := [(0, .pointer (some ⟨b_x0, 11, none⟩)), (5, .pointer (some ⟨b_x0, 11, none⟩)), (6, .pointer (some ⟨b_x0, 11, none⟩)), (7, .pointer (some ⟨b_x0, 13, none⟩)), (8, vi x0.tape.free), (9, .bool (decide (x0.tape.free < 1))), (10, .bool false), (17, .bool (((x0.tape.l.length : Nat) : Int) == 0))]) (by kernel_rfl)
                  exact hj_54 _ (hq.conv (by first | (rw [hb] <;> rfl) | rfl))
              intro a hs
              refine qpe 0 [(0, .pointer (some ⟨b_x0, 11, none⟩)), (17, .bool ((decide (x0.tape.free < 1)) || (((x0.tape.l.length : Nat) : Int) == 0)))] hs fun a hs => hK53 _ _ ?_
              clear hK53
              refine qcs ((decide (x0.tape.free < 1)) || (((x0.tape.l.length : Nat) : Int) == 0)) hs (fun hb => ?_) fun hb => ?_
              · replace hm := bif_t hm hb
                refine qsr fun K55 hK55 => ?_
                refine qpe 2 [(2, vw 0), (3, .bool false)] hs fun a hs => hK55 _ _ ?_
                clear hK55
                refine wp_ret ?_
                refine hKP50 _ _ ?_
                replace hs := hs.bagG (l := Tvisorref19_M.parts κ b_x0 x0 g_43) (S' := pt b_2 (blk (Tapi_Op.cells x1) 93) :: S) (Own.to hs.own [0, 1, 2, 3, 4, 5] 6 (by kernel_rfl) (by kernel_rfl))
                replace hs := hs.toEx (Tvisorref19_M.parts κ b_x0 x0) g_43 0 rfl
                exact hj50 0 false x0 hm _ _ (hs.go [2, 3] [0, 1] 2 (by kernel_rfl) (by kernel_rfl) (by kernel_rfl))
              · replace hm := bif_f hm hb
                refine wp_skip ?_
                refine hK52 _ _ ?_
                clear hK52
                refine qsr fun K56 hK56 => ?_
                refine qpu 3 hs fun a hs => ?_
                refine qld 0 (C.slc g_43.2.2.2.2.2.2.1 x0.tape.l.length g_43.2.2.2.2.2.2.2) hs rfl fun a hs => ?_
                obtain ⟨h_57, hm⟩ := ite_t hm
                obtain ⟨e_60, h_58, hm⟩ := bind_t hm
                obtain ⟨b_61, o_62, hA_63, h_59⟩ := Sl.elem (Own.rdSl 0 (Own.to (S' := rdp κ g_43.2.2.2.2.2.2.1 g_43.2.2.2.2.2.2.2 1 (eI .u64) x0.tape.l :: S) hs.own [4] 6 (by kernel_rfl) (by kernel_rfl)) rfl) h_58
                refine Vk.step (Vk.value (some 22) (.pointer (some ⟨b_61, o_62 + 0 * 1, none⟩)) hs (by kernel_rfl) (op := (.indexAddr 25 (.tmp 21) (.const (vi 0)))) (by kernel_rfl) (fun o ho => run_idxSlc (k := .i64) ho (cap := g_43.2.2.2.2.2.2.2) (len := x0.tape.l.length) ((congrArg (fun A => Value.slice A (x0.tape.l.length) (g_43.2.2.2.2.2.2.2)) hA_63) ▸ (by kernel_rfl)) (by kernel_rfl) (by kernel_rfl) (idx_ok h_57 h_58) _) fun a hs => ?_)
                refine Vk.step (Vk.value (some 23) (vw e_60) hs (by kernel_rfl) (op := (.load 32 (.tmp 22))) (by kernel_rfl) (fun o ho => run_load1 (c := cw e_60) ho (by kernel_rfl) (by kernel_rfl) (fun w ho => h_59 w ho 0 _ rfl) _ (Own.to (S' := rdp κ g_43.2.2.2.2.2.2.1 g_43.2.2.2.2.2.2.2 1 (eI .u64) x0.tape.l :: S) hs.own [4] 6 (by kernel_rfl) (by kernel_rfl))) fun a hs => ?_)
                refine qpe 1 [(0, .pointer (some ⟨b_x0, 11, none⟩)), (4, vw e_60)] hs fun a hs => hK56 _ _ ?_
                clear hK56
                refine qsr fun K64 hK64 => ?_
                refine qpu 4 hs fun a hs => ?_
                refine qld 0 (C.slc g_43.2.2.2.2.2.2.1 x0.tape.l.length g_43.2.2.2.2.2.2.2) hs rfl fun a hs => ?_
                obtain ⟨h_65, hm⟩ := ite_t hm
                obtain ⟨A_66, c_67, eA_68, ec_69, hx_70⟩ := Sl.sub (Own.rdSl 0 (Own.to (S' := rdp κ g_43.2.2.2.2.2.2.1 g_43.2.2.2.2.2.2.2 1 (eI .u64) x0.tape.l :: S) hs.own [4] 6 (by kernel_rfl) (by kernel_rfl)) rfl) h_65.2
                refine Vk.step (Vk.value (some 29) (.slice A_66 ((cut x0.tape.l (1) (x0.tape.l.length)).length) c_67) hs (by kernel_rfl) (op := (.slice 25 (.tmp 28) (some (.const (vi 1))) none none)) (by kernel_rfl) (fun o ho => run_sub (sz := 1) (e := 32) h_65.2 eA_68 ec_69 (Sl.le (Own.rdSl 0 (Own.to (S' := rdp κ g_43.2.2.2.2.2.2.1 g_43.2.2.2.2.2.2.2 1 (eI .u64) x0.tape.l :: S) hs.own [4] 6 (by kernel_rfl) (by kernel_rfl)) rfl)) ho (by kernel_rfl) (by kernel_rfl) (by kernel_rfl) ⟨.i64, 1, by kernel_rfl, h_65.1, rfl⟩ rfl _) fun a hs => ?_)
                replace hs := hs.cutRd 4 rfl h_65.2 eA_68 ec_69
                refine qpu 2 hs fun a hs => ?_
                refine Vk.step (Vk.store1 (b := b_x0) (ty := 25) (x := (.tmp 31)) (y := (.tmp 29)) (off := 11) (C.slc A_66 ((cut x0.tape.l (1) (x0.tape.l.length)).length) c_67) 0 hs (by kernel_rfl) (by kernel_rfl) (by kernel_rfl) (by kernel_rfl) (by kernel_rfl) (by kernel_rfl) rfl (Nat.le_of_ble_eq_true (by kernel_rfl)) fun a w hs => ?_)
                refine qpe 0 [(0, .pointer (some ⟨b_x0, 11, none⟩)), (4, vw e_60)] hs fun a hs => hK64 _ _ ?_
                clear hK64
                refine qsr fun K71 hK71 => ?_
                refine qpu 4 hs fun a hs => ?_
                refine qld 0 (ci x0.tape.free) hs rfl fun a hs => ?_
                refine qpu 3 hs fun a hs => ?_
                refine Vk.step (Vk.store1 (b := b_x0) (ty := 3) (x := (.tmp 39)) (y := (.tmp 37)) (off := 13) (ci (IntKind.i64.wrap (x0.tape.free - 1))) 0 hs (by kernel_rfl) (by kernel_rfl) (by kernel_rfl) (by kernel_rfl) (by kernel_rfl) (by kernel_rfl) rfl (Nat.le_of_ble_eq_true (by kernel_rfl)) fun a w hs => ?_)
                refine qpe 0 [(0, .pointer (some ⟨b_x0, 11, none⟩)), (4, vw e_60)] hs fun a hs => hK71 _ _ ?_
                clear hK71
                refine qsr fun K72 hK72 => ?_
                refine qpu 4 hs fun a hs => ?_
                refine qld 0 (ci x0.tape.used) hs rfl fun a hs => ?_
                refine qpu 3 hs fun a hs => ?_
                refine Vk.step (Vk.store1 (b := b_x0) (ty := 3) (x := (.tmp 47)) (y := (.tmp 45)) (off := 12) (ci (IntKind.i64.wrap (x0.tape.used + 1))) 0 hs (by kernel_rfl) (by kernel_rfl) (by kernel_rfl) (by kernel_rfl) (by kernel_rfl) (by kernel_rfl) rfl (Nat.le_of_ble_eq_true (by kernel_rfl)) fun a w hs => ?_)
                refine qpe 0 [(4, vw e_60)] hs fun a hs => hK72 _ _ ?_
                clear hK72
                refine qsr fun K73 hK73 => ?_
                refine qpe 3 [(2, vw e_60), (3, .bool true)] hs fun a hs => hK73 _ _ ?_
                clear hK73
                refine wp_ret ?_
                refine hKP50 _ _ ?_
                replace hs := hs.bagG (l := Tvisorref19_M.parts κ b_x0 (⟨x0.n, x0.most, x0.words, x0.draws, x0.fromF, x0.skip, x0.kind, x0.e, x0.ops, x0.blocks, x0.val, (⟨cut x0.tape.l (1) (x0.tape.l.length), IntKind.i64.wrap (x0.tape.used + 1), IntKind.i64.wrap (x0.tape.free - 1)⟩ : Tvisorref02_T), x0.dry⟩ : Tvisorref19_M) (g_43.1, g_43.2.1, g_43.2.2.1, g_43.2.2.2.1, g_43.2.2.2.2.1, g_43.2.2.2.2.2.1, A_66, c_67)) (S' := pt b_2 (blk (Tapi_Op.cells x1) 93) :: S) (Own.to hs.own [0, 1, 2, 3, 4, 5] 6 (by kernel_rfl) (by kernel_rfl))
                replace hs := hs.toEx (Tvisorref19_M.parts κ b_x0 (⟨x0.n, x0.most, x0.words, x0.draws, x0.fromF, x0.skip, x0.kind, x0.e, x0.ops, x0.blocks, x0.val, (⟨cut x0.tape.l (1) (x0.tape.l.length), IntKind.i64.wrap (x0.tape.used + 1), IntKind.i64.wrap (x0.tape.free - 1)⟩ : Tvisorref02_T), x0.dry⟩ : Tvisorref19_M)) (g_43.1, g_43.2.1, g_43.2.2.1, g_43.2.2.2.1, g_43.2.2.2.2.1, g_43.2.2.2.2.2.1, A_66, c_67) 0 rfl
                exact hj50 e_60 true (⟨x0.n, x0.most, x0.words, x0.draws, x0.fromF, x0.skip, x0.kind, x0.e, x0.ops, x0.blocks, x0.val, (⟨cut x0.tape.l (1) (x0.tape.l.length), IntKind.i64.wrap (x0.tape.used + 1), IntKind.i64.wrap (x0.tape.free - 1)⟩ : Tvisorref02_T), x0.dry⟩ : Tvisorref19_M) hm _ _ (hs.go [2, 3] [0, 1] 2 (by kernel_rfl) (by kernel_rfl) (by kernel_rfl))
            · replace hm := bif_f hm hb
              refine wp_skip ?_
              replace hs := hs.bagG (l := Tvisorref19_M.parts κ b_x0 x0 g_43) (S' := pt b_2 (blk (Tapi_Op.cells x1) 93) :: S) (Own.to hs.own [0, 1, 2, 3, 4, 5] 6 (by kernel_rfl) (by kernel_rfl))
              replace hs := hs.toEx (Tvisorref19_M.parts κ b_x0 x0) g_43 0 rfl
              exact hj41 x0 x2 hm _ _ (hs.go [0, 2, 4] [0, 1] 2 (by kernel_rfl) (by kernel_rfl) (by kernel_rfl))
        obtain ⟨g_27, hs⟩ := hs.unbag 0 rfl
        obtain ⟨C_32, hC_32⟩ : ∃ X0 : List HP, X0 = (pt b_x0 (blk (Tvisorref19_M.obj x0 g_27.1 g_27.2.1 g_27.2.2.1 g_27.2.2.2.1 g_27.2.2.2.2.1 g_27.2.2.2.2.2.1 g_27.2.2.2.2.2.2.1 g_27.2.2.2.2.2.2.2) 64) :: rowp g_27.1 g_27.2.1 93 6 Tapi_Op.cells x0.ops :: rowp g_27.2.2.1 g_27.2.2.2.1 175 3 Tapi_Span.cells x0.blocks :: rowp g_27.2.2.2.2.1 g_27.2.2.2.2.2.1 32 1 (eI .u64) x0.val :: rdp κ g_27.2.2.2.2.2.2.1 g_27.2.2.2.2.2.2.2 1 (eI .u64) x0.tape.l :: pt b_2 (blk (Tapi_Op.cells x1) 93) :: S) := ⟨_, rfl⟩
        refine qdr 14 κ C_32 hs fun w hs hqC_32 => ?_
        have hcz : Own κ w (pt b_x0 (blk (Tvisorref19_M.obj x0 g_27.1 g_27.2.1 g_27.2.2.1 g_27.2.2.2.1 g_27.2.2.2.2.1 g_27.2.2.2.2.2.1 g_27.2.2.2.2.2.2.1 g_27.2.2.2.2.2.2.2) 64) :: rowp g_27.1 g_27.2.1 93 6 Tapi_Op.cells x0.ops :: rowp g_27.2.2.1 g_27.2.2.2.1 175 3 Tapi_Span.cells x0.blocks :: rowp g_27.2.2.2.2.1 g_27.2.2.2.2.2.1 32 1 (eI .u64) x0.val :: rdp κ g_27.2.2.2.2.2.2.1 g_27.2.2.2.2.2.2.2 1 (eI .u64) x0.tape.l :: pt b_2 (blk (Tapi_Op.cells x1) 93) :: S) := (Own.to hs.own [0, 1, 2, 3, 4, 5] 6 (by kernel_rfl) (by kernel_rfl))
        have hcl : Own κ w C_32 := by rw [hC_32]; exact hcz
        refine qdp (fuel := 11) [0, 1, 2] hs hcl hqC_32 fun a hs => ?_
        refine qdl 3 0 (C.bool x0.dry) hs hcl hqC_32 hC_32 rfl fun a hs => ?_
        refine qdp (fuel := 8) [4, 5] hs hcl hqC_32 fun a hs => ?_
        rcases Bool.eq_false_or_eq_true (!x0.dry) with hb | hb
        · replace hm := bif_t hm hb
          replace hs := hs.known (t := 45) hb (by kernel_rfl)
          refine qdp (fuel := 4) [6, 8, 9, 10] hs hcl hqC_32 fun a hs => ?_
          refine qdl 11 0 (ci x0.most) hs hcl hqC_32 hC_32 rfl fun a hs => ?_
          replace hs := hs.bagG (l := Tvisorref19_M.parts κ b_x0 x0 g_27) (S' := pt b_2 (blk (Tapi_Op.cells x1) 93) :: S) (Own.to hs.own [0, 1, 2, 3, 4, 5] 6 (by kernel_rfl) (by kernel_rfl))
          obtain ⟨v_35, h_34, hm⟩ := bind_t hm
          refine Vk.dOnly (i := 7) (by kernel_rfl) (Vk.call (some 47) 127 #[pp b_x0] hs (by kernel_rfl) (by kernel_rfl) (by kernel_rfl) ?_)
          refine (visorref19_M_Len.ok k x0 v_35 h_34 κ w (pt b_2 (blk (Tapi_Op.cells x1) 93) :: S) b_x0 g_27 (Own.to hs.own [0, 1] 2 (by kernel_rfl) (by kernel_rfl))).mono ?_
          rintro _ w ⟨rfl, how⟩
          refine ⟨_, _, _, rfl, how, fun a hs => ?_⟩
          replace hs := hs.unbagAt 0 rfl
          replace hcl : Own κ w C_32 := by rw [hC_32]; exact (Own.to hs.own [0, 1, 2, 3, 4, 5] 6 (by kernel_rfl) (by kernel_rfl))
          refine ⟨fun _ => hcl, ?_⟩
          refine qdp (fuel := 0) [12, 13] hs hcl hqC_32 fun a hs => ?_
          replace hs := hs.pick [0, 2, 4, 53] (L' := [(0, pp b_x0), (2, vw x2), (4, pp b_2), (53, .bool (decide (v_35 ≥ x0.most)))]) (by kernel_rfl)
          refine Vk.dDone (by kernel_rfl) ?_
          replace hs := hs.bagG (l := Tvisorref19_M.parts κ b_x0 x0 g_27) (S' := pt b_2 (blk (Tapi_Op.cells x1) 93) :: S) (Own.to hs.own [0, 1, 2, 3, 4, 5] 6 (by kernel_rfl) (by kernel_rfl))
          replace hs := hs.toEx (Tvisorref19_M.parts κ b_x0 x0) g_27 0 rfl
          exact hj26 (decide (v_35 ≥ x0.most)) hm _ _ (hs.go [0, 2, 4, 53] [0, 1] 2 (by kernel_rfl) (by kernel_rfl) (by kernel_rfl))
        · replace hm := bif_f hm hb
          replace hs := hs.known (t := 45) hb (by kernel_rfl)
          refine qdp (fuel := 0) [6, 7, 8, 9, 10, 11, 12, 13] hs hcl hqC_32 fun a hs => ?_
          replace hs := hs.pick [0, 2, 4, 53] (L' := [(0, pp b_x0), (2, vw x2), (4, pp b_2), (53, .bool false)]) (by kernel_rfl)
          refine Vk.dDone (by kernel_rfl) ?_
          replace hs := hs.bagG (l := Tvisorref19_M.parts κ b_x0 x0 g_27) (S' := pt b_2 (blk (Tapi_Op.cells x1) 93) :: S) (Own.to hs.own [0, 1, 2, 3, 4, 5] 6 (by kernel_rfl) (by kernel_rfl))
          replace hs := hs.toEx (Tvisorref19_M.parts κ b_x0 x0) g_27 0 rfl
          exact hj26 false hm _ _ (hs.go [0, 2, 4, 53] [0, 1] 2 (by kernel_rfl) (by kernel_rfl) (by kernel_rfl))
    obtain ⟨C_13, hC_13⟩ : ∃ X0 : List HP, X0 = (pt b_x0 (blk (Tvisorref19_M.obj x0 g_5.1 g_5.2.1 g_5.2.2.1 g_5.2.2.2.1 g_5.2.2.2.2.1 g_5.2.2.2.2.2.1 g_5.2.2.2.2.2.2.1 g_5.2.2.2.2.2.2.2) 64) :: rowp g_5.1 g_5.2.1 93 6 Tapi_Op.cells x0.ops :: rowp g_5.2.2.1 g_5.2.2.2.1 175 3 Tapi_Span.cells x0.blocks :: rowp g_5.2.2.2.2.1 g_5.2.2.2.2.2.1 32 1 (eI .u64) x0.val :: rdp κ g_5.2.2.2.2.2.2.1 g_5.2.2.2.2.2.2.2 1 (eI .u64) x0.tape.l :: pt b_2 (blk (Tapi_Op.cells x1) 93) :: S) := ⟨_, rfl⟩
    refine qdr 24 κ C_13 hs fun w hs hqC_13 => ?_
    have hcz : Own κ w (pt b_x0 (blk (Tvisorref19_M.obj x0 g_5.1 g_5.2.1 g_5.2.2.1 g_5.2.2.2.1 g_5.2.2.2.2.1 g_5.2.2.2.2.2.1 g_5.2.2.2.2.2.2.1 g_5.2.2.2.2.2.2.2) 64) :: rowp g_5.1 g_5.2.1 93 6 Tapi_Op.cells x0.ops :: rowp g_5.2.2.1 g_5.2.2.2.1 175 3 Tapi_Span.cells x0.blocks :: rowp g_5.2.2.2.2.1 g_5.2.2.2.2.2.1 32 1 (eI .u64) x0.val :: rdp κ g_5.2.2.2.2.2.2.1 g_5.2.2.2.2.2.2.2 1 (eI .u64) x0.tape.l :: pt b_2 (blk (Tapi_Op.cells x1) 93) :: S) := (Own.to hs.own [0, 1, 2, 3, 4, 5] 6 (by kernel_rfl) (by kernel_rfl))
    have hcl : Own κ w C_13 := by rw [hC_13]; exact hcz
    refine qdp (fuel := 20) [1, 3, 4, 5] hs hcl hqC_13 fun a hs => ?_
    refine qdn 0 5 ([ci x1.kind, ci x1.dom, ci x1.a, ci x1.b, ci x1.d, cw x1.c]) hs hcl hqC_13 hC_13 rfl fun a hs => ?_
    refine qdl 6 0 (ci x0.n) hs hcl hqC_13 hC_13 rfl fun a hs => ?_
    replace hs := hs.bagG (l := Tvisorref19_M.parts κ b_x0 x0 g_5) (S' := pt b_2 (blk (Tapi_Op.cells x1) 93) :: S) (Own.to hs.own [0, 1, 2, 3, 4, 5] 6 (by kernel_rfl) (by kernel_rfl))
    obtain ⟨v_16, h_15, hm⟩ := bind_t hm
    refine Vk.dOnly (i := 2) (by kernel_rfl) (Vk.call (some 16) 127 #[pp b_x0] hs (by kernel_rfl) (by kernel_rfl) (by kernel_rfl) ?_)
    refine (visorref19_M_Len.ok k x0 v_16 h_15 κ w (pt b_2 (blk (Tapi_Op.cells x1) 93) :: S) b_x0 g_5 (Own.to hs.own [0, 1] 2 (by kernel_rfl) (by kernel_rfl))).mono ?_
    rintro _ w ⟨rfl, how⟩
    refine ⟨_, _, _, rfl, how, fun a hs => ?_⟩
    replace hs := hs.unbagAt 0 rfl
    replace hcl : Own κ w C_13 := by rw [hC_13]; exact (Own.to hs.own [0, 1, 2, 3, 4, 5] 6 (by kernel_rfl) (by kernel_rfl))
    refine ⟨fun _ => hcl, ?_⟩
    obtain ⟨v_19, h_18, hm⟩ := bind_t hm
    refine Vk.dOnly (i := 7) (by kernel_rfl) (Vk.call (some 21) 126 #[.agg (vals [ci x1.kind, ci x1.dom, ci x1.a, ci x1.b, ci x1.d, cw x1.c]), vi v_16, vi x0.n] hs (by kernel_rfl) (by kernel_rfl) (by kernel_rfl) ?_)
    refine (visorref17_Right.ok k x1 v_16 x0.n v_19 h_18 κ w (pt b_x0 (blk (Tvisorref19_M.obj x0 g_5.1 g_5.2.1 g_5.2.2.1 g_5.2.2.2.1 g_5.2.2.2.2.1 g_5.2.2.2.2.2.1 g_5.2.2.2.2.2.2.1 g_5.2.2.2.2.2.2.2) 64) :: rowp g_5.1 g_5.2.1 93 6 Tapi_Op.cells x0.ops :: rowp g_5.2.2.1 g_5.2.2.2.1 175 3 Tapi_Span.cells x0.blocks :: rowp g_5.2.2.2.2.1 g_5.2.2.2.2.2.1 32 1 (eI .u64) x0.val :: rdp κ g_5.2.2.2.2.2.2.1 g_5.2.2.2.2.2.2.2 1 (eI .u64) x0.tape.l :: pt b_2 (blk (Tapi_Op.cells x1) 93) :: S) hs.own).mono ?_
    rintro _ w ⟨rfl, how⟩
    refine ⟨_, _, _, rfl, how, fun a hs => ?_⟩
    replace hcl : Own κ w C_13 := by rw [hC_13]; exact (Own.to hs.own [0, 1, 2, 3, 4, 5] 6 (by kernel_rfl) (by kernel_rfl))
    refine ⟨fun _ => hcl, ?_⟩
    refine qdp (fuel := 14) [8, 9] hs hcl hqC_13 fun a hs => ?_
    rcases Bool.eq_false_or_eq_true (!v_19) with hb | hb
    · replace hm := bif_t hm hb
      replace hs := hs.known (t := 23) hb (by kernel_rfl)
      refine qdp (fuel := 0) [10, 11, 12, 13, 14, 15, 16, 17, 18, 19, 20, 21, 22, 23] hs hcl hqC_13 fun a hs => ?_
      replace hs := hs.pick [0, 2, 4, 37] (L' := [(0, pp b_x0), (2, vw x2), (4, pp b_2), (37, .bool true)]) (by kernel_rfl)
      refine Vk.dDone (by kernel_rfl) ?_
      replace hs := hs.bagG (l := Tvisorref19_M.parts κ b_x0 x0 g_5) (S' := pt b_2 (blk (Tapi_Op.cells x1) 93) :: S) (Own.to hs.own [0, 1, 2, 3, 4, 5] 6 (by kernel_rfl) (by kernel_rfl))
      replace hs := hs.toEx (Tvisorref19_M.parts κ b_x0 x0) g_5 0 rfl
      exact hj12 true hm _ _ (hs.go [0, 2, 4, 37] [0, 1] 2 (by kernel_rfl) (by kernel_rfl) (by kernel_rfl))
    · replace hm := bif_f hm hb
      replace hs := hs.known (t := 23) hb (by kernel_rfl)
      refine qdp (fuel := 13) [10] hs hcl hqC_13 fun a hs => ?_
      refine qdl 11 5 (ci x1.kind) hs hcl hqC_13 hC_13 rfl fun a hs => ?_
      refine qdp (fuel := 10) [12, 13] hs hcl hqC_13 fun a hs => ?_
      rcases Bool.eq_false_or_eq_true (x1.kind == 2) with hb | hb
      · replace hm := bif_t hm hb
        replace hs := hs.known (t := 27) hb (by kernel_rfl)
        refine qdp (fuel := 6) [14, 16, 17, 18] hs hcl hqC_13 fun a hs => ?_
        refine qdl 15 5 (cw x1.c) hs hcl hqC_13 hC_13 rfl fun a hs => ?_
        refine qdl 19 0 (ci x0.words) hs hcl hqC_13 hC_13 rfl fun a hs => ?_
        refine qdp (fuel := 0) [20, 21, 22, 23] hs hcl hqC_13 fun a hs => ?_
        replace hs := hs.pick [0, 2, 4, 37] (L' := [(0, pp b_x0), (2, vw x2), (4, pp b_2), (37, .bool (x1.c != (IntKind.u64.wrap x0.words)))]) (by kernel_rfl)
        refine Vk.dDone (by kernel_rfl) ?_
        replace hs := hs.bagG (l := Tvisorref19_M.parts κ b_x0 x0 g_5) (S' := pt b_2 (blk (Tapi_Op.cells x1) 93) :: S) (Own.to hs.own [0, 1, 2, 3, 4, 5] 6 (by kernel_rfl) (by kernel_rfl))
        replace hs := hs.toEx (Tvisorref19_M.parts κ b_x0 x0) g_5 0 rfl
        exact hj12 (x1.c != (IntKind.u64.wrap x0.words)) hm _ _ (hs.go [0, 2, 4, 37] [0, 1] 2 (by kernel_rfl) (by kernel_rfl) (by kernel_rfl))
      · replace hm := bif_f hm hb
        replace hs := hs.known (t := 27) hb (by kernel_rfl)
        refine qdp (fuel := 0) [14, 15, 16, 17, 18, 19, 20, 21, 22, 23] hs hcl hqC_13 fun a hs => ?_
        replace hs := hs.pick [0, 2, 4, 37] (L' := [(0, pp b_x0), (2, vw x2), (4, pp b_2), (37, .bool false)]) (by kernel_rfl)
        refine Vk.dDone (by kernel_rfl) ?_
        replace hs := hs.bagG (l := Tvisorref19_M.parts κ b_x0 x0 g_5) (S' := pt b_2 (blk (Tapi_Op.cells x1) 93) :: S) (Own.to hs.own [0, 1, 2, 3, 4, 5] 6 (by kernel_rfl) (by kernel_rfl))
        replace hs := hs.toEx (Tvisorref19_M.parts κ b_x0 x0) g_5 0 rfl
        exact hj12 false hm _ _ (hs.go [0, 2, 4, 37] [0, 1] 2 (by kernel_rfl) (by kernel_rfl) (by kernel_rfl))


def visorref19_M_End.j1 (k : Nat) (p_26 : Tvisorref19_M) : Option (Tvisorref19_M) := some (⟨p_26.n, p_26.most, p_26.words, p_26.draws, p_26.fromF, p_26.skip, 0, p_26.e, p_26.ops, p_26.blocks, p_26.val, p_26.tape, p_26.dry⟩ : Tvisorref19_M)
abbrev visorref19_M_End.R (κ : Ctx) (S : List HP) (x0 : Tvisorref19_M) (b_x0 : Nat) (r : Tvisorref19_M) : Ending → World → Prop := fun e w' => e = .returned (.tuple #[]) ∧ Own κ w' (Tvisorref19_M.own κ b_x0 r :: S)
def visorref19_M_End.m (k : Nat) (x0 : Tvisorref19_M) : Option Tvisorref19_M := (bif x0.e != 0 then some x0 else (bif x0.kind == 0 then some (⟨x0.n, x0.most, x0.words, x0.draws, x0.fromF, x0.skip, x0.kind, 1, x0.ops, x0.blocks, x0.val, x0.tape, x0.dry⟩ : Tvisorref19_M) else (visorref19_M_Len.m k x0).bind fun v_16 => (bif decide (v_16 > x0.fromF) then (visorref19_M_Len.m k x0).bind fun v_20 => (if (x0.blocks.length + ([(⟨x0.kind, x0.fromF, v_20⟩ : Tapi_Span)] : List Tapi_Span).length) * 24 ≤ 140737488355328 then visorref19_M_End.j1 k (⟨x0.n, x0.most, x0.words, x0.draws, x0.fromF, x0.skip, x0.kind, x0.e, x0.ops, x0.blocks ++ ([(⟨x0.kind, x0.fromF, v_20⟩ : Tapi_Span)] : List Tapi_Span), x0.val, x0.tape, x0.dry⟩ : Tvisorref19_M) else none) else visorref19_M_End.j1 k x0)))

set_option maxRecDepth 100000 in
set_option maxHeartbeats 4000000 in
theorem visorref19_M_End.ok (k : Nat) (x0 : Tvisorref19_M) (r : Tvisorref19_M) (hm : visorref19_M_End.m k x0 = some r) (κ : Ctx) (w : World) (S : List HP) (b_x0 : Nat) (ho : Own κ w (Tvisorref19_M.own κ b_x0 x0 :: S)) :
    Calls Try.prog 124 #[pp b_x0] w (visorref19_M_End.R κ S x0 b_x0 r) := by
  unfold visorref19_M_End.m at hm
  generalize hRR : visorref19_M_End.R κ S x0 b_x0 r = RR
  refine qen [(0, pp b_x0)] Try.func124 Try.ntmps124 ho fun a hs => ?_
  refine Vk.seq fun K1 hK1 => ?_
  refine qsr fun K2 hK2 => ?_
  refine qpu 3 hs fun a hs => ?_
  obtain ⟨g_3, hs⟩ := hs.unbag 0 rfl
  refine qld 0 (ci x0.e) hs rfl fun a hs => ?_
  refine qpe 1 [(0, pp b_x0), (6, .bool (x0.e != 0))] hs fun a hs => hK2 _ _ ?_
  clear hK2
  refine qcs (x0.e != 0) hs (fun hb => ?_) fun hb => ?_
  · replace hm := bif_t hm hb
    refine wp_ret ?_
    replace hs := hs.bagG (l := Tvisorref19_M.parts κ b_x0 x0 g_3) (S' := S) (Own.to hs.own [0, 1, 2, 3, 4] 5 (by kernel_rfl) (by kernel_rfl))
    replace hs := hs.toEx (Tvisorref19_M.parts κ b_x0 x0) g_3 0 rfl
    exact Vk.ret0 (P := Try.prog) (fn := Try.f124) (R := RR) hs rfl (by obtain rfl := Option.some.inj hm; subst hRR; exact ⟨rfl, (Own.to hs.own [0] 1 (by kernel_rfl) (by kernel_rfl))⟩)
  · replace hm := bif_f hm hb
    refine wp_skip ?_
    refine hK1 _ _ ?_
    clear hK1
    refine Vk.seq fun K8 hK8 => ?_
    refine qsr fun K9 hK9 => ?_
    refine qpu 3 hs fun a hs => ?_
    refine qld 0 (ci x0.kind) hs rfl fun a hs => ?_
    refine qpe 1 [(0, pp b_x0), (11, .bool (x0.kind == 0))] hs fun a hs => hK9 _ _ ?_
    clear hK9
    refine qcs (x0.kind == 0) hs (fun hb => ?_) fun hb => ?_
    · replace hm := bif_t hm hb
      refine qsr fun K10 hK10 => ?_
      refine qpu 3 hs fun a hs => ?_
      refine Vk.step (Vk.store1 (b := b_x0) (ty := 51) (x := (.tmp 14)) (y := (.const (vi 1))) (off := 7) (ci 1) 0 hs (by kernel_rfl) (by kernel_rfl) (by kernel_rfl) (by kernel_rfl) (by kernel_rfl) (by kernel_rfl) rfl (Nat.le_of_ble_eq_true (by kernel_rfl)) fun a w hs => ?_)
      refine qpe 0 [] hs fun a hs => hK10 _ _ ?_
      clear hK10
      refine wp_ret ?_
      replace hs := hs.bagG (l := Tvisorref19_M.parts κ b_x0 (⟨x0.n, x0.most, x0.words, x0.draws, x0.fromF, x0.skip, x0.kind, 1, x0.ops, x0.blocks, x0.val, x0.tape, x0.dry⟩ : Tvisorref19_M) g_3) (S' := S) (Own.to hs.own [0, 1, 2, 3, 4] 5 (by kernel_rfl) (by kernel_rfl))
      replace hs := hs.toEx (Tvisorref19_M.parts κ b_x0 (⟨x0.n, x0.most, x0.words, x0.draws, x0.fromF, x0.skip, x0.kind, 1, x0.ops, x0.blocks, x0.val, x0.tape, x0.dry⟩ : Tvisorref19_M)) g_3 0 rfl
      exact Vk.ret0 (P := Try.prog) (fn := Try.f124) (R := RR) hs rfl (by obtain rfl := Option.some.inj hm; subst hRR; exact ⟨rfl, (Own.to hs.own [0] 1 (by kernel_rfl) (by kernel_rfl))⟩)
    · replace hm := bif_f hm hb
      refine wp_skip ?_
      refine hK8 _ _ ?_
      clear hK8
      refine Vk.seq fun K11 hK11 => ?_
      have hj11 : ∀ (p_26 : Tvisorref19_M), visorref19_M_End.j1 k p_26 = some r → ∀ (a : Act) (w : World), St 45 a w κ [(0, pp b_x0)] (Tvisorref19_M.own κ b_x0 p_26 :: S) → K11 a w := by
        intro p_26 hm a w hs
        unfold visorref19_M_End.j1 at hm
        refine hK11 _ _ ?_
        refine Vk.region ?_
        refine qpu 3 hs fun a hs => ?_
        obtain ⟨g_27, hs⟩ := hs.unbag 0 rfl
        refine Vk.step (Vk.store1 (b := b_x0) (ty := 3) (x := (.tmp 44)) (y := (.const (vi 0))) (off := 6) (ci 0) 0 hs (by kernel_rfl) (by kernel_rfl) (by kernel_rfl) (by kernel_rfl) (by kernel_rfl) (by kernel_rfl) rfl (Nat.le_of_ble_eq_true (by kernel_rfl)) fun a w hs => ?_)
        refine qpe 0 [] hs fun a hs => ?_
        replace hs := hs.bagG (l := Tvisorref19_M.parts κ b_x0 (⟨p_26.n, p_26.most, p_26.words, p_26.draws, p_26.fromF, p_26.skip, 0, p_26.e, p_26.ops, p_26.blocks, p_26.val, p_26.tape, p_26.dry⟩ : Tvisorref19_M) g_27) (S' := S) (Own.to hs.own [0, 1, 2, 3, 4] 5 (by kernel_rfl) (by kernel_rfl))
        replace hs := hs.toEx (Tvisorref19_M.parts κ b_x0 (⟨p_26.n, p_26.most, p_26.words, p_26.draws, p_26.fromF, p_26.skip, 0, p_26.e, p_26.ops, p_26.blocks, p_26.val, p_26.tape, p_26.dry⟩ : Tvisorref19_M)) g_27 0 rfl
        exact Vk.end0 (P := Try.prog) (fn := Try.f124) (R := RR) hs rfl (by obtain rfl := Option.some.inj hm; subst hRR; exact ⟨rfl, (Own.to hs.own [0] 1 (by kernel_rfl) (by kernel_rfl))⟩)
      refine Vk.seq fun K12 hK12 => ?_
      obtain ⟨C_13, hC_13⟩ : ∃ X0 : List HP, X0 = (pt b_x0 (blk (Tvisorref19_M.obj x0 g_3.1 g_3.2.1 g_3.2.2.1 g_3.2.2.2.1 g_3.2.2.2.2.1 g_3.2.2.2.2.2.1 g_3.2.2.2.2.2.2.1 g_3.2.2.2.2.2.2.2) 64) :: rowp g_3.1 g_3.2.1 93 6 Tapi_Op.cells x0.ops :: rowp g_3.2.2.1 g_3.2.2.2.1 175 3 Tapi_Span.cells x0.blocks :: rowp g_3.2.2.2.2.1 g_3.2.2.2.2.2.1 32 1 (eI .u64) x0.val :: rdp κ g_3.2.2.2.2.2.2.1 g_3.2.2.2.2.2.2.2 1 (eI .u64) x0.tape.l :: S) := ⟨_, rfl⟩
      refine qdr 7 κ C_13 hs fun w hs hqC_13 => ?_
      have hcz : Own κ w (pt b_x0 (blk (Tvisorref19_M.obj x0 g_3.1 g_3.2.1 g_3.2.2.1 g_3.2.2.2.1 g_3.2.2.2.2.1 g_3.2.2.2.2.2.1 g_3.2.2.2.2.2.2.1 g_3.2.2.2.2.2.2.2) 64) :: rowp g_3.1 g_3.2.1 93 6 Tapi_Op.cells x0.ops :: rowp g_3.2.2.1 g_3.2.2.2.1 175 3 Tapi_Span.cells x0.blocks :: rowp g_3.2.2.2.2.1 g_3.2.2.2.2.2.1 32 1 (eI .u64) x0.val :: rdp κ g_3.2.2.2.2.2.2.1 g_3.2.2.2.2.2.2.2 1 (eI .u64) x0.tape.l :: S) := (Own.to hs.own [0, 1, 2, 3, 4] 5 (by kernel_rfl) (by kernel_rfl))
      have hcl : Own κ w C_13 := by rw [hC_13]; exact hcz
      refine qdp (fuel := 3) [0, 2, 3, 4] hs hcl hqC_13 fun a hs => ?_
      refine qdl 5 0 (ci x0.fromF) hs hcl hqC_13 hC_13 rfl fun a hs => ?_
      replace hs := hs.bagG (l := Tvisorref19_M.parts κ b_x0 x0 g_3) (S' := S) (Own.to hs.own [0, 1, 2, 3, 4] 5 (by kernel_rfl) (by kernel_rfl))
      obtain ⟨v_16, h_15, hm⟩ := bind_t hm
      refine Vk.dOnly (i := 1) (by kernel_rfl) (Vk.call (some 16) 127 #[pp b_x0] hs (by kernel_rfl) (by kernel_rfl) (by kernel_rfl) ?_)
      refine (visorref19_M_Len.ok k x0 v_16 h_15 κ w (S) b_x0 g_3 (Own.to hs.own [0] 1 (by kernel_rfl) (by kernel_rfl))).mono ?_
      rintro _ w ⟨rfl, how⟩
      refine ⟨_, _, _, rfl, how, fun a hs => ?_⟩
      replace hs := hs.unbagAt 0 rfl
      replace hcl : Own κ w C_13 := by rw [hC_13]; exact (Own.to hs.own [0, 1, 2, 3, 4] 5 (by kernel_rfl) (by kernel_rfl))
      refine ⟨fun _ => hcl, ?_⟩
      refine qdp (fuel := 0) [6] hs hcl hqC_13 fun a hs => ?_
      replace hs := hs.pick [0, 21] (L' := [(0, pp b_x0), (21, .bool (decide (v_16 > x0.fromF)))]) (by kernel_rfl)
      refine Vk.dDone (by kernel_rfl) ?_
      refine hK12 _ _ ?_
      clear hK12
      refine qcs (decide (v_16 > x0.fromF)) hs (fun hb => ?_) fun hb => ?_
      · replace hm := bif_t hm hb
        obtain ⟨C_17, hC_17⟩ : ∃ X0 : List HP, X0 = (pt b_x0 (blk (Tvisorref19_M.obj x0 g_3.1 g_3.2.1 g_3.2.2.1 g_3.2.2.2.1 g_3.2.2.2.2.1 g_3.2.2.2.2.2.1 g_3.2.2.2.2.2.2.1 g_3.2.2.2.2.2.2.2) 64) :: rowp g_3.1 g_3.2.1 93 6 Tapi_Op.cells x0.ops :: rowp g_3.2.2.2.2.1 g_3.2.2.2.2.2.1 32 1 (eI .u64) x0.val :: rdp κ g_3.2.2.2.2.2.2.1 g_3.2.2.2.2.2.2.2 1 (eI .u64) x0.tape.l :: S) := ⟨_, rfl⟩
        refine qdr 18 κ C_17 hs fun w hs hqC_17 => ?_
        have hcz : Own κ w (pt b_x0 (blk (Tvisorref19_M.obj x0 g_3.1 g_3.2.1 g_3.2.2.1 g_3.2.2.2.1 g_3.2.2.2.2.1 g_3.2.2.2.2.2.1 g_3.2.2.2.2.2.2.1 g_3.2.2.2.2.2.2.2) 64) :: rowp g_3.1 g_3.2.1 93 6 Tapi_Op.cells x0.ops :: rowp g_3.2.2.2.2.1 g_3.2.2.2.2.2.1 32 1 (eI .u64) x0.val :: rdp κ g_3.2.2.2.2.2.2.1 g_3.2.2.2.2.2.2.2 1 (eI .u64) x0.tape.l :: S) := (Own.to hs.own [0, 1, 3, 4] 5 (by kernel_rfl) (by kernel_rfl))
        have hcl : Own κ w C_17 := by rw [hC_17]; exact hcz
        refine qdp (fuel := 10) [0, 1, 2, 3, 5, 6, 7, 9, 10, 11, 13] hs hcl hqC_17 fun a hs => ?_
        refine qdl 4 0 (C.slc g_3.2.2.1 x0.blocks.length g_3.2.2.2.1) hs hcl hqC_17 hC_17 rfl fun a hs => ?_
        refine qdl 8 0 (ci x0.kind) hs hcl hqC_17 hC_17 rfl fun a hs => ?_
        refine qdl 12 0 (ci x0.fromF) hs hcl hqC_17 hC_17 rfl fun a hs => ?_
        replace hs := hs.bagG (l := Tvisorref19_M.parts κ b_x0 x0 g_3) (S' := S) (Own.to hs.own [0, 1, 2, 3, 4] 5 (by kernel_rfl) (by kernel_rfl))
        obtain ⟨v_20, h_19, hm⟩ := bind_t hm
        refine Vk.dOnly (i := 14) (by kernel_rfl) (Vk.call (some 36) 127 #[pp b_x0] hs (by kernel_rfl) (by kernel_rfl) (by kernel_rfl) ?_)
        refine (visorref19_M_Len.ok k x0 v_20 h_19 κ w (S) b_x0 g_3 (Own.to hs.own [0] 1 (by kernel_rfl) (by kernel_rfl))).mono ?_
        rintro _ w ⟨rfl, how⟩
        refine ⟨_, _, _, rfl, how, fun a hs => ?_⟩
        replace hs := hs.unbagAt 0 rfl
        replace hcl : Own κ w C_17 := by rw [hC_17]; exact (Own.to hs.own [0, 1, 3, 4] 5 (by kernel_rfl) (by kernel_rfl))
        refine ⟨fun _ => hcl, ?_⟩
        refine qdp (fuel := 5) [15] hs hcl hqC_17 fun a hs => ?_
        refine Vk.dOnly (i := 16) (by kernel_rfl) (Vk.buildOp (sz := 3) (by_ := 24) (t := 60) (e := 175) (parts := #[(0, (.tmp 37))]) (zs := vals [ci 0, ci 0, ci 0]) ([(⟨x0.kind, x0.fromF, v_20⟩ : Tapi_Span)] : List Tapi_Span) Tapi_Span.cells (some 38) hs (by kernel_rfl) (by kernel_rfl) (by kernel_rfl) (by kernel_rfl) (by decide) rfl (fun x _ => rfl) (Nat.le_of_ble_eq_true (by kernel_rfl)) (by kernel_rfl) fun A_21 w a hs => ?_)
        replace hcl : Own κ w C_17 := by rw [hC_17]; exact (Own.to hs.own [1, 2, 4, 5] 6 (by kernel_rfl) (by kernel_rfl))
        refine ⟨fun _ => hcl, ?_⟩
        obtain ⟨h_23, hm⟩ := ite_t hm
        refine Vk.dOnly (i := 17) (by kernel_rfl) (Vk.appendOp (x := (.tmp 26)) (y := (.tmp 38)) (e := 175) (t := 60) (by_ := 24) (sz := 3) (enc := Tapi_Span.cells) (A := g_3.2.2.1) (cap := g_3.2.2.2.1) (xs := x0.blocks) (ys := ([(⟨x0.kind, x0.fromF, v_20⟩ : Tapi_Span)] : List Tapi_Span)) (B := A_21) (c2 := 1) 3 (some 39) hs (by kernel_rfl) (by kernel_rfl) (by kernel_rfl) (by kernel_rfl) rfl (Sl.lift (fun w ho => (Own.to (S' := rowp A_21 1 175 3 Tapi_Span.cells ([(⟨x0.kind, x0.fromF, v_20⟩ : Tapi_Span)] : List Tapi_Span) :: S) ho [0] 6 (by kernel_rfl) (by kernel_rfl))) (Own.rowSl 0 (Own.to (S' := rowp A_21 1 175 3 Tapi_Span.cells ([(⟨x0.kind, x0.fromF, v_20⟩ : Tapi_Span)] : List Tapi_Span) :: S) hs.own [0] 6 (by kernel_rfl) (by kernel_rfl)) rfl)) (by kernel_rfl) (by kernel_rfl) (by decide) (by decide) h_23 fun A_24 c_25 w a hs => ?_)
        replace hcl : Own κ w C_17 := by rw [hC_17]; exact (Own.to hs.own [1, 2, 4, 5] 6 (by kernel_rfl) (by kernel_rfl))
        refine ⟨fun _ => hcl, ?_⟩
        refine Vk.dOnly (i := 18) (by kernel_rfl) (Vk.dPure1 [(40, pp b_x0)] hs (by kernel_rfl) fun a hs => ?_)
        refine ⟨fun h => absurd h (by decide), ?_⟩
        refine Vk.dOnly (i := 19) (by kernel_rfl) (Vk.dPure1 [(41, .pointer (some ⟨b_x0, 9, none⟩))] hs (by kernel_rfl) fun a hs => ?_)
        refine ⟨fun h => absurd h (by decide), ?_⟩
        refine Vk.dOnly (i := 20) (by kernel_rfl) (Vk.store1 (b := b_x0) (ty := 60) (x := (.tmp 41)) (y := (.tmp 39)) (off := 9) (C.slc A_24 ((x0.blocks ++ ([(⟨x0.kind, x0.fromF, v_20⟩ : Tapi_Span)] : List Tapi_Span)).length) c_25) 1 hs (by kernel_rfl) (by kernel_rfl) (by kernel_rfl) (by kernel_rfl) (by kernel_rfl) (by kernel_rfl) rfl (Nat.le_of_ble_eq_true (by kernel_rfl)) fun a w hs => ?_)
        refine ⟨fun h => absurd h (by decide), ?_⟩
        replace hs := hs.pick [0] (L' := [(0, pp b_x0)]) (by kernel_rfl)
        refine Vk.dDone (by kernel_rfl) ?_
        replace hs := hs.bagG (l := Tvisorref19_M.parts κ b_x0 (⟨x0.n, x0.most, x0.words, x0.draws, x0.fromF, x0.skip, x0.kind, x0.e, x0.ops, x0.blocks ++ ([(⟨x0.kind, x0.fromF, v_20⟩ : Tapi_Span)] : List Tapi_Span), x0.val, x0.tape, x0.dry⟩ : Tvisorref19_M) (g_3.1, g_3.2.1, A_24, c_25, g_3.2.2.2.2.1, g_3.2.2.2.2.2.1, g_3.2.2.2.2.2.2.1, g_3.2.2.2.2.2.2.2)) (S' := rowp A_21 1 175 3 Tapi_Span.cells ([(⟨x0.kind, x0.fromF, v_20⟩ : Tapi_Span)] : List Tapi_Span) :: S) (Own.to hs.own [1, 2, 3, 4, 5, 0] 6 (by kernel_rfl) (by kernel_rfl))
        replace hs := hs.toEx (Tvisorref19_M.parts κ b_x0 (⟨x0.n, x0.most, x0.words, x0.draws, x0.fromF, x0.skip, x0.kind, x0.e, x0.ops, x0.blocks ++ ([(⟨x0.kind, x0.fromF, v_20⟩ : Tapi_Span)] : List Tapi_Span), x0.val, x0.tape, x0.dry⟩ : Tvisorref19_M)) (g_3.1, g_3.2.1, A_24, c_25, g_3.2.2.2.2.1, g_3.2.2.2.2.2.1, g_3.2.2.2.2.2.2.1, g_3.2.2.2.2.2.2.2) 0 rfl
        exact hj11 (⟨x0.n, x0.most, x0.words, x0.draws, x0.fromF, x0.skip, x0.kind, x0.e, x0.ops, x0.blocks ++ ([(⟨x0.kind, x0.fromF, v_20⟩ : Tapi_Span)] : List Tapi_Span), x0.val, x0.tape, x0.dry⟩ : Tvisorref19_M) hm _ _ (hs.go [0] [0] 2 (by kernel_rfl) (by kernel_rfl) (by kernel_rfl))
      · replace hm := bif_f hm hb
        refine wp_skip ?_
        replace hs := hs.bagG (l := Tvisorref19_M.parts κ b_x0 x0 g_3) (S' := S) (Own.to hs.own [0, 1, 2, 3, 4] 5 (by kernel_rfl) (by kernel_rfl))
        replace hs := hs.toEx (Tvisorref19_M.parts κ b_x0 x0) g_3 0 rfl
        exact hj11 x0 hm _ _ (hs.go [0] [0] 1 (by kernel_rfl) (by kernel_rfl) (by kernel_rfl))


def visorref20_Encode.l1 : Nat → Tvisorref19_M → Cells → Int → Option (Tvisorref19_M × Cells)
  | 0, _, _, _ => none
  | k + 1, q_16, q_17, q_18 => (bif decide (q_18 < q_16.n) then (visorref19_Op.m k 1 q_18 (-1) (-1) 0).bind fun v_29 => (visorref19_M_Do.m k q_16 v_29 0).bind fun v_32 => (if 0 ≤ q_18 ∧ q_18 < 3 then (if 0 + q_18.toNat * 1 < q_17.length then visorref20_Encode.l1 k v_32.2 (q_17.set (0 + q_18.toNat * 1) (ci v_32.1)) (IntKind.i64.wrap (q_18 + 1)) else none) else none) else some (q_16, q_17))
abbrev visorref20_Encode.R (κ : Ctx) (S : List HP) (x0 : Tvisorref19_M) (x1 : Int) (b_x0 : Nat) (r : (Cells × Tvisorref19_M)) : Ending → World → Prop := fun e w' => e = .returned (.agg (vals r.1)) ∧ Own κ w' (Tvisorref19_M.own κ b_x0 r.2 :: S)
def visorref20_Encode.m (k : Nat) (x0 : Tvisorref19_M) (x1 : Int) : Option (Cells × Tvisorref19_M) := (visorref20_None.m k).bind fun v_6 => (if v_6.length = 3 then (visorref19_M_Begin.m k x0 1).bind fun v_12 => (visorref20_Encode.l1 k v_12 v_6 1).bind fun x => match x with | (p_35, p_36) => (getI .i64 p_36 (1)).bind fun v_48 => (getI .i64 p_36 (2)).bind fun v_50 => (visorref19_Op.m k 2 0 v_48 v_50 (IntKind.u64.wrap p_35.words)).bind fun v_53 => (visorref19_M_Do.m k p_35 v_53 x1).bind fun v_56 => (if 0 < p_36.length then (visorref19_M_End.m k v_56.2).bind fun v_61 => (if (p_36.set (0) (ci v_56.1)).length = 3 then some ((p_36.set (0) (ci v_56.1)), v_61) else none) else none) else none)

set_option maxRecDepth 100000 in
set_option maxHeartbeats 4000000 in
theorem visorref20_Encode.ok (k : Nat) (x0 : Tvisorref19_M) (x1 : Int) (r : (Cells × Tvisorref19_M)) (hm : visorref20_Encode.m k x0 x1 = some r) (κ : Ctx) (w : World) (S : List HP) (b_x0 : Nat) (ho : Own κ w (Tvisorref19_M.own κ b_x0 x0 :: S)) :
    Calls Try.prog 46 #[pp b_x0, vw x1] w (visorref20_Encode.R κ S x0 x1 b_x0 r) := by
  unfold visorref20_Encode.m at hm
  generalize hRR : visorref20_Encode.R κ S x0 x1 b_x0 r = RR
  refine qen [(0, pp b_x0), (1, vw x1)] Try.func46 Try.ntmps46 ho fun a hs => ?_
  refine qsr fun K1 hK1 => ?_
  refine Vk.step (Vk.alloc 4 28 [ci 0, ci 0, ci 0] hs (by kernel_rfl) (by kernel_rfl) (by kernel_rfl) fun b_2 w a hs => ?_)
  refine qpe 0 [(0, pp b_x0), (1, vw x1), (4, pp b_2)] hs fun a hs => hK1 _ _ ?_
  clear hK1
  refine qsr fun K3 hK3 => ?_
  obtain ⟨v_6, h_5, hm⟩ := bind_t hm
  refine Vk.step (Vk.call (some 7) 83 #[] hs (by kernel_rfl) (by kernel_rfl) (by kernel_rfl) ?_)
  refine (visorref20_None.ok k v_6 h_5 κ w (pt b_2 (blk [ci 0, ci 0, ci 0] 28) :: Tvisorref19_M.own κ b_x0 x0 :: S) hs.own).mono ?_
  rintro _ w ⟨rfl, how⟩
  refine ⟨_, _, _, rfl, how, fun a hs => ?_⟩
  refine Vk.step (Vk.alloc 5 28 [ci 0, ci 0, ci 0] hs (by kernel_rfl) (by kernel_rfl) (by kernel_rfl) fun b_7 w a hs => ?_)
  obtain ⟨h_8, hm⟩ := ite_t hm
  refine Vk.step (Vk.storeA (b := b_7) (ty := 28) (x := (.tmp 5)) (y := (.tmp 7)) (sz := 3) v_6 0 hs (by kernel_rfl) (by kernel_rfl) (by kernel_rfl) (by kernel_rfl) (by kernel_rfl) h_8 (by kernel_rfl) rfl (Eq.trans (b := 3) h_8 (Eq.symm rfl)) fun a w hs => ?_)
  refine qpe 0 [(0, pp b_x0), (1, vw x1), (4, pp b_2), (5, pp b_7)] hs fun a hs => hK3 _ _ ?_
  clear hK3
  refine qsr fun K9 hK9 => ?_
  refine qpu 1 hs fun a hs => ?_
  obtain ⟨v_12, h_11, hm⟩ := bind_t hm
  refine Vk.step (Vk.call (some 9) 122 #[pp b_x0, vi 1] hs (by kernel_rfl) (by kernel_rfl) (by kernel_rfl) ?_)
  refine (visorref19_M_Begin.ok k x0 1 v_12 h_11 κ w (pt b_7 (blk v_6 28) :: pt b_2 (blk [ci 0, ci 0, ci 0] 28) :: S) b_x0 (Own.to hs.own [2, 0, 1] 3 (by kernel_rfl) (by kernel_rfl))).mono ?_
  rintro _ w ⟨rfl, how⟩
  refine ⟨_, _, _, rfl, how, fun a hs => ?_⟩
  refine qpe 0 [(0, pp b_x0), (1, vw x1), (4, pp b_2), (5, pp b_7)] hs fun a hs => hK9 _ _ ?_
  clear hK9
  refine Vk.seq fun K13 hK13 => ?_
  refine qsr fun K14 hK14 => ?_
  refine qpe 1 [(0, pp b_x0), (1, vw x1), (4, pp b_2), (5, pp b_7), (6, vi 1)] hs fun a hs => hK14 _ _ ?_
  clear hK14
  refine wp_block ?_
  obtain ⟨r15, hl15, hm⟩ := bind_t hm
  have hx15 : ∀ (p_35 : Tvisorref19_M) (p_36 : Cells), r15 = (p_35, p_36) → ∀ (a : Act) (w : World), St 45 a w κ [(0, pp b_x0), (1, vw x1), (4, pp b_2), (5, pp b_7)] (Tvisorref19_M.own κ b_x0 p_35 :: pt b_2 (blk [ci 0, ci 0, ci 0] 28) :: pt b_7 (blk p_36 28) :: S) → K13 a w := by
    intro p_35 p_36 he a w hs
    subst r15
    refine hK13 _ _ ?_
    clear hK13
    refine Vk.seq fun K40 hK40 => ?_
    obtain ⟨g_41, hs⟩ := hs.unbag 0 rfl
    obtain ⟨C_46, hC_46⟩ : ∃ X0 : List HP, X0 = (pt b_2 (blk [ci 0, ci 0, ci 0] 28) :: pt b_7 (blk p_36 28) :: S) := ⟨_, rfl⟩
    refine qdr 17 κ C_46 hs fun w hs hqC_46 => ?_
    have hcz : Own κ w (pt b_2 (blk [ci 0, ci 0, ci 0] 28) :: pt b_7 (blk p_36 28) :: S) := (Own.to hs.own [5, 6] 7 (by kernel_rfl) (by kernel_rfl))
    have hcl : Own κ w C_46 := by rw [hC_46]; exact hcz
    refine qdp (fuel := 8) [0, 1, 2, 4, 5, 7, 8, 9, 13, 15] hs hcl hqC_46 fun a hs => ?_
    obtain ⟨v_48, h_47, hm⟩ := bind_t hm
    refine Vk.dTakeT (i := 3) (some 28) (vi v_48) hs (by kernel_rfl) hqC_46 hcl (by kernel_rfl) (by kernel_rfl) (op := (.load 3 (.tmp 27))) (by kernel_rfl) (by kernel_rfl) (fun w hw o ho => by rw [hC_46] at hw; exact run_load1 (c := ci v_48) ho (by kernel_rfl) (by kernel_rfl) (Cell.own 1 rfl (getI_some h_47)) _ hw) fun a hs => ?_
    obtain ⟨v_50, h_49, hm⟩ := bind_t hm
    refine Vk.dTakeT (i := 6) (some 31) (vi v_50) hs (by kernel_rfl) hqC_46 hcl (by kernel_rfl) (by kernel_rfl) (op := (.load 3 (.tmp 30))) (by kernel_rfl) (by kernel_rfl) (fun w hw o ho => by rw [hC_46] at hw; exact run_load1 (c := ci v_50) ho (by kernel_rfl) (by kernel_rfl) (Cell.own 1 rfl (getI_some h_49)) _ hw) fun a hs => ?_
    refine Vk.dOnly (i := 10) (by kernel_rfl) (Vk.value (some 35) (vi p_35.words) hs (by kernel_rfl) (op := (.load 3 (.tmp 34))) (by kernel_rfl) (fun o ho => run_load1 (b := b_x0) (off := 2) (c := ci p_35.words) ho (by kernel_rfl) (by kernel_rfl) (Cell.own 0 rfl (by kernel_rfl)) _ hs.own) fun a hs => ?_)
    replace hcl : Own κ w C_46 := by rw [hC_46]; exact (Own.to hs.own [5, 6] 7 (by kernel_rfl) (by kernel_rfl))
    refine ⟨fun _ => hcl, ?_⟩
    refine qdp (fuel := 4) [11] hs hcl hqC_46 fun a hs => ?_
    obtain ⟨v_53, h_52, hm⟩ := bind_t hm
    refine Vk.dOnly (i := 12) (by kernel_rfl) (Vk.call (some 37) 123 #[vi 2, vi 0, vi v_48, vi v_50, vw (IntKind.u64.wrap p_35.words)] hs (by kernel_rfl) (by kernel_rfl) (by kernel_rfl) ?_)
    refine (visorref19_Op.ok k 2 0 v_48 v_50 (IntKind.u64.wrap p_35.words) v_53 h_52 κ w (pt b_x0 (blk (Tvisorref19_M.obj p_35 g_41.1 g_41.2.1 g_41.2.2.1 g_41.2.2.2.1 g_41.2.2.2.2.1 g_41.2.2.2.2.2.1 g_41.2.2.2.2.2.2.1 g_41.2.2.2.2.2.2.2) 64) :: rowp g_41.1 g_41.2.1 93 6 Tapi_Op.cells p_35.ops :: rowp g_41.2.2.1 g_41.2.2.2.1 175 3 Tapi_Span.cells p_35.blocks :: rowp g_41.2.2.2.2.1 g_41.2.2.2.2.2.1 32 1 (eI .u64) p_35.val :: rdp κ g_41.2.2.2.2.2.2.1 g_41.2.2.2.2.2.2.2 1 (eI .u64) p_35.tape.l :: pt b_2 (blk [ci 0, ci 0, ci 0] 28) :: pt b_7 (blk p_36 28) :: S) hs.own).mono ?_
    rintro _ w ⟨rfl, how⟩
    refine ⟨_, _, _, rfl, how, fun a hs => ?_⟩
    replace hcl : Own κ w C_46 := by rw [hC_46]; exact (Own.to hs.own [5, 6] 7 (by kernel_rfl) (by kernel_rfl))
    refine ⟨fun _ => hcl, ?_⟩
    replace hs := hs.bagG (l := Tvisorref19_M.parts κ b_x0 p_35 g_41) (S' := pt b_2 (blk [ci 0, ci 0, ci 0] 28) :: pt b_7 (blk p_36 28) :: S) (Own.to hs.own [0, 1, 2, 3, 4, 5, 6] 7 (by kernel_rfl) (by kernel_rfl))
    replace hs := hs.toEx (Tvisorref19_M.parts κ b_x0 p_35) g_41 0 rfl
    obtain ⟨v_56, h_55, hm⟩ := bind_t hm
    refine Vk.dOnly (i := 14) (by kernel_rfl) (Vk.call (some 39) 55 #[pp b_x0, .agg (vals [ci v_53.kind, ci v_53.dom, ci v_53.a, ci v_53.b, ci v_53.d, cw v_53.c]), vw x1] hs (by kernel_rfl) (by kernel_rfl) (by kernel_rfl) ?_)
    refine (visorref19_M_Do.ok k p_35 v_53 x1 v_56 h_55 κ w (pt b_2 (blk [ci 0, ci 0, ci 0] 28) :: pt b_7 (blk p_36 28) :: S) b_x0 (Own.to hs.own [0, 1, 2] 3 (by kernel_rfl) (by kernel_rfl))).mono ?_
    rintro _ w ⟨rfl, how⟩
    refine ⟨_, _, _, rfl, how, fun a hs => ?_⟩
    replace hcl : Own κ w C_46 := by rw [hC_46]; exact (Own.to hs.own [1, 2] 3 (by kernel_rfl) (by kernel_rfl))
    refine ⟨fun _ => hcl, ?_⟩
    refine qdp (fuel := 1) [16] hs hcl hqC_46 fun a hs => ?_
    obtain ⟨h_57, hm⟩ := ite_t hm
    refine Vk.dOnly (i := 17) (by kernel_rfl) (Vk.store1 (b := b_7) (ty := 3) (x := (.tmp 41)) (y := (.tmp 39)) (off := 0) (ci v_56.1) 2 hs (by kernel_rfl) (by kernel_rfl) (by kernel_rfl) (by kernel_rfl) (by kernel_rfl) (by kernel_rfl) rfl h_57 fun a w hs => ?_)
    refine ⟨fun h => absurd h (by decide), ?_⟩
    replace hs := hs.pick [0, 4, 5] (L' := [(0, pp b_x0), (4, pp b_2), (5, pp b_7)]) (by kernel_rfl)
    refine Vk.dDone (by kernel_rfl) ?_
    refine hK40 _ _ ?_
    clear hK40
    refine qsr fun K58 hK58 => ?_
    refine qpu 1 hs fun a hs => ?_
    obtain ⟨v_61, h_60, hm⟩ := bind_t hm
    refine Vk.step (Vk.call (some 43) 124 #[pp b_x0] hs (by kernel_rfl) (by kernel_rfl) (by kernel_rfl) ?_)
    refine (visorref19_M_End.ok k v_56.2 v_61 h_60 κ w (pt b_2 (blk [ci 0, ci 0, ci 0] 28) :: pt b_7 (blk (p_36.set (0) (ci v_56.1)) 28) :: S) b_x0 (Own.to hs.own [0, 1, 2] 3 (by kernel_rfl) (by kernel_rfl))).mono ?_
    rintro _ w ⟨rfl, how⟩
    refine ⟨_, _, _, rfl, how, fun a hs => ?_⟩
    refine qpe 0 [(4, pp b_2), (5, pp b_7)] hs fun a hs => hK58 _ _ ?_
    clear hK58
    refine qsr fun K62 hK62 => ?_
    obtain ⟨h_63, hm⟩ := ite_t hm
    refine Vk.step (Vk.value (some 44) (.agg (vals (p_36.set (0) (ci v_56.1)))) hs (by kernel_rfl) (op := (.load 28 (.tmp 5))) (by kernel_rfl) (fun o ho => run_loadN (cs := (p_36.set (0) (ci v_56.1))) ho (by kernel_rfl) (by kernel_rfl) h_63 (CellsAt.all 2 rfl) _ hs.own) fun a hs => ?_)
    refine Vk.step (Vk.storeA (b := b_2) (ty := 28) (x := (.tmp 4)) (y := (.tmp 44)) (sz := 3) (p_36.set (0) (ci v_56.1)) 1 hs (by kernel_rfl) (by kernel_rfl) (by kernel_rfl) (by kernel_rfl) (by kernel_rfl) h_63 (by kernel_rfl) rfl (Eq.trans (b := 3) h_63 (Eq.symm rfl)) fun a w hs => ?_)
    refine qpe 0 [(4, pp b_2)] hs fun a hs => hK62 _ _ ?_
    clear hK62
    refine wp_ret ?_
    exact Vk.retC (P := Try.prog) (fn := Try.f46) (R := RR) (p_36.set (0) (ci v_56.1)) hs rfl (by kernel_rfl) (sz := 3) (by kernel_rfl) h_63 (CellsAt.all 1 rfl) (by obtain rfl := Option.some.inj hm; subst hRR; exact ⟨rfl, (Own.to hs.own [0] 3 (by kernel_rfl) (by kernel_rfl))⟩)
  refine Vk.loopBy (fun k (s : Tvisorref19_M × Cells × Int) a w => visorref20_Encode.l1 k s.1 s.2.1 s.2.2 = some r15 ∧ St 45 a w κ [(0, pp b_x0), (1, vw x1), (4, pp b_2), (5, pp b_7), (6, vi s.2.2)] (Tvisorref19_M.own κ b_x0 s.1 :: pt b_2 (blk [ci 0, ci 0, ci 0] 28) :: pt b_7 (blk s.2.1 28) :: S)) k (v_12, v_6, 1) ⟨hl15, hs.go [0, 1, 4, 5, 6] [0, 2, 1] 3 (by kernel_rfl) (by kernel_rfl) (by kernel_rfl)⟩ (fun s a w h => by obtain ⟨h1, _⟩ := h; simp [visorref20_Encode.l1] at h1) (fun k KL15 ih s a w h => ?_)
  obtain ⟨q_16, q_17, q_18⟩ := s
  obtain ⟨hm, hs⟩ := h
  try dsimp only at hm hs
  rw [visorref20_Encode.l1] at hm
  refine Vk.seq fun K19 hK19 => ?_
  refine qsr fun K20 hK20 => ?_
  refine qpu 4 hs fun a hs => ?_
  obtain ⟨g_21, hs⟩ := hs.unbag 0 rfl
  refine qld 0 (ci q_16.n) hs rfl fun a hs => ?_
  refine qpe 1 [(0, pp b_x0), (1, vw x1), (4, pp b_2), (5, pp b_7), (6, vi q_18), (15, .bool (decide (q_18 < q_16.n)))] hs fun a hs => hK20 _ _ ?_
  clear hK20
  refine qcs (decide (q_18 < q_16.n)) hs (fun hb => ?_) fun hb => ?_
  · replace hm := bif_t hm hb
    refine wp_skip ?_
    refine hK19 _ _ ?_
    clear hK19
    refine Vk.seq fun K26 hK26 => ?_
    refine wp_block ?_
    refine Vk.region ?_
    refine qpu 3 hs fun a hs => ?_
    obtain ⟨v_29, h_28, hm⟩ := bind_t hm
    refine Vk.step (Vk.call (some 21) 123 #[vi 1, vi q_18, vi (-1), vi (-1), vw 0] hs (by kernel_rfl) (by kernel_rfl) (by kernel_rfl) ?_)
    refine (visorref19_Op.ok k 1 q_18 (-1) (-1) 0 v_29 h_28 κ w (pt b_x0 (blk (Tvisorref19_M.obj q_16 g_21.1 g_21.2.1 g_21.2.2.1 g_21.2.2.2.1 g_21.2.2.2.2.1 g_21.2.2.2.2.2.1 g_21.2.2.2.2.2.2.1 g_21.2.2.2.2.2.2.2) 64) :: rowp g_21.1 g_21.2.1 93 6 Tapi_Op.cells q_16.ops :: rowp g_21.2.2.1 g_21.2.2.2.1 175 3 Tapi_Span.cells q_16.blocks :: rowp g_21.2.2.2.2.1 g_21.2.2.2.2.2.1 32 1 (eI .u64) q_16.val :: rdp κ g_21.2.2.2.2.2.2.1 g_21.2.2.2.2.2.2.2 1 (eI .u64) q_16.tape.l :: pt b_2 (blk [ci 0, ci 0, ci 0] 28) :: pt b_7 (blk q_17 28) :: S) hs.own).mono ?_
    rintro _ w ⟨rfl, how⟩
    refine ⟨_, _, _, rfl, how, fun a hs => ?_⟩
    replace hs := hs.bagG (l := Tvisorref19_M.parts κ b_x0 q_16 g_21) (S' := pt b_2 (blk [ci 0, ci 0, ci 0] 28) :: pt b_7 (blk q_17 28) :: S) (Own.to hs.own [0, 1, 2, 3, 4, 5, 6] 7 (by kernel_rfl) (by kernel_rfl))
    replace hs := hs.toEx (Tvisorref19_M.parts κ b_x0 q_16) g_21 0 rfl
    obtain ⟨v_32, h_31, hm⟩ := bind_t hm
    refine Vk.step (Vk.call (some 22) 55 #[pp b_x0, .agg (vals [ci v_29.kind, ci v_29.dom, ci v_29.a, ci v_29.b, ci v_29.d, cw v_29.c]), vw 0] hs (by kernel_rfl) (by kernel_rfl) (by kernel_rfl) ?_)
    refine (visorref19_M_Do.ok k q_16 v_29 0 v_32 h_31 κ w (pt b_2 (blk [ci 0, ci 0, ci 0] 28) :: pt b_7 (blk q_17 28) :: S) b_x0 (Own.to hs.own [0, 1, 2] 3 (by kernel_rfl) (by kernel_rfl))).mono ?_
    rintro _ w ⟨rfl, how⟩
    refine ⟨_, _, _, rfl, how, fun a hs => ?_⟩
    refine qpu 1 hs fun a hs => ?_
    obtain ⟨h_33, hm⟩ := ite_t hm
    refine Vk.step (Vk.value (some 24) (.pointer (some ⟨b_7, 0 + q_18.toNat * 1, none⟩)) hs (by kernel_rfl) (op := (.indexAddr 26 (.tmp 23) (.tmp 18))) (by kernel_rfl) (fun o ho => run_idxArr (k := .i64) ho (by kernel_rfl) (by kernel_rfl) (by kernel_rfl) h_33 _) fun a hs => ?_)
    obtain ⟨h_34, hm⟩ := ite_t hm
    refine Vk.step (Vk.store1 (b := b_7) (ty := 3) (x := (.tmp 24)) (y := (.tmp 22)) (off := 0 + q_18.toNat * 1) (ci v_32.1) 2 hs (by kernel_rfl) (by kernel_rfl) (by kernel_rfl) (by kernel_rfl) (by kernel_rfl) (by kernel_rfl) rfl h_34 fun a w hs => ?_)
    refine qpe 0 [(0, pp b_x0), (1, vw x1), (4, pp b_2), (5, pp b_7), (6, vi q_18)] hs fun a hs => hK26 _ _ ?_
    clear hK26
    refine Vk.region ?_
    refine qpe 3 [(0, pp b_x0), (1, vw x1), (4, pp b_2), (5, pp b_7), (6, vi (IntKind.i64.wrap (q_18 + 1)))] hs fun a hs => ?_
    refine ih (v_32.2, (q_17.set (0 + q_18.toNat * 1) (ci v_32.1)), (IntKind.i64.wrap (q_18 + 1))) _ _ ⟨hm, hs.go [0, 1, 4, 5, 6] [0, 1, 2] 3 (by kernel_rfl) (by kernel_rfl) (by kernel_rfl)⟩
  · replace hm := bif_f hm hb
    refine wp_exit ?_
    replace hs := hs.bagG (l := Tvisorref19_M.parts κ b_x0 q_16 g_21) (S' := pt b_2 (blk [ci 0, ci 0, ci 0] 28) :: pt b_7 (blk q_17 28) :: S) (Own.to hs.own [0, 1, 2, 3, 4, 5, 6] 7 (by kernel_rfl) (by kernel_rfl))
    replace hs := hs.toEx (Tvisorref19_M.parts κ b_x0 q_16) g_21 0 rfl
    exact hx15 q_16 q_17 (Option.some.inj hm).symm _ _ (hs.go [0, 1, 4, 5] [0, 1, 2] 3 (by kernel_rfl) (by kernel_rfl) (by kernel_rfl))


def share_Told.j1 (k : Nat) (rec21 : Twire_Machine → Cells → Int → Option (Cells × Twire_Machine)) (q_23 : Cells) (q_24 : Int) (p_47 : Int) (p_48 : Twire_Machine) : Option (Cells × Twire_Machine) := (if 0 ≤ q_24 ∧ q_24 < 3 then (if 0 + q_24.toNat * 1 < q_23.length then rec21 p_48 (q_23.set (0 + q_24.toNat * 1) (ci p_47)) (IntKind.i64.wrap (q_24 + 1)) else none) else none)
def share_Told.l1 (x1 : Int) (v_20 : Int) : Nat → Twire_Machine → Cells → Int → Option (Cells × Twire_Machine)
  | 0, _, _, _ => none
  | k + 1, q_22, q_23, q_24 => (bif decide (q_24 < v_20) then (bif decide (q_24 > 0) then (wire_Machine_Do.m k q_22 (⟨3, q_24, (-1), (-1), (-1), 0⟩ : Tapi_Op) 0).bind fun v_39 => share_Told.j1 k (share_Told.l1 x1 v_20 k) q_23 q_24 v_39.1 v_39.2 else (wire_Machine_Do.m k q_22 (⟨4, q_24, (-1), (-1), (-1), x1⟩ : Tapi_Op) 0).bind fun v_46 => share_Told.j1 k (share_Told.l1 x1 v_20 k) q_23 q_24 v_46.1 v_46.2) else some (q_23, q_22))
abbrev share_Told.R (κ : Ctx) (S : List HP) (x0 : Twire_Machine) (x1 : Int) (b_x0 : Nat) (r : (Cells × Twire_Machine)) : Ending → World → Prop := fun e w' => e = .returned (.agg (vals r.1)) ∧ Own κ w' (Twire_Machine.own b_x0 r.2 :: S)
def share_Told.m (k : Nat) (x0 : Twire_Machine) (x1 : Int) : Option (Cells × Twire_Machine) := (share_none.m k).bind fun v_12 => (if v_12.length = 3 then (wire_Machine_N.m k x0).bind fun v_20 => (share_Told.l1 x1 v_20 k x0 v_12 0).bind fun x => match x with | (p_51, p_52) => (if p_51.length = 3 then some (p_51, p_52) else none) else none)

set_option maxRecDepth 100000 in
set_option maxHeartbeats 4000000 in
theorem share_Told.ok (k : Nat) (x0 : Twire_Machine) (x1 : Int) (r : (Cells × Twire_Machine)) (hm : share_Told.m k x0 x1 = some r) (κ : Ctx) (w : World) (S : List HP) (b_x0 : Nat) (ho : Own κ w (Twire_Machine.own b_x0 x0 :: S)) :
    Calls Try.prog 97 #[pp b_x0, vw x1] w (share_Told.R κ S x0 x1 b_x0 r) := by
  unfold share_Told.m at hm
  generalize hRR : share_Told.R κ S x0 x1 b_x0 r = RR
  refine qen [(0, pp b_x0), (1, vw x1)] Try.func97 Try.ntmps97 ho fun a hs => ?_
  refine qsr fun K1 hK1 => ?_
  refine Vk.step (Vk.box (x := (.tmp 0)) 2 41 [cp b_x0] hs (by kernel_rfl) (by kernel_rfl) (by kernel_rfl) fun b_2 w a hs => ?_)
  refine Vk.step (Vk.box (x := (.tmp 1)) 3 32 [cw x1] hs (by kernel_rfl) (by kernel_rfl) (by kernel_rfl) fun b_3 w a hs => ?_)
  refine Vk.step (Vk.alloc 4 28 [ci 0, ci 0, ci 0] hs (by kernel_rfl) (by kernel_rfl) (by kernel_rfl) fun b_4 w a hs => ?_)
  refine qpe 0 [(2, pp b_2), (3, pp b_3), (4, pp b_4)] hs fun a hs => hK1 _ _ ?_
  clear hK1
  refine qsr fun K5 hK5 => ?_
  refine qld 2 (cp b_x0) hs rfl fun a hs => ?_
  refine qpu 1 hs fun a hs => ?_
  refine Vk.step (Vk.call (some 7) 132 #[pp b_x0, .func (.func 152) #[] #[pp b_2, pp b_3]] hs (by kernel_rfl) (by kernel_rfl) (by kernel_rfl) ?_)
  refine Vk.enterI [(0, pp b_x0), (1, .func (.func 152) #[] #[pp b_2, pp b_3])] Try.func132 rfl Try.ntmps132 (by kernel_rfl) (Nat.le_of_ble_eq_true (by kernel_rfl)) hs.own fun KR6 hKR6 hKP6 a hs => ?_
  refine qsr fun K7 hK7 => ?_
  refine Vk.step (Vk.alloc 4 28 [ci 0, ci 0, ci 0] hs (by kernel_rfl) (by kernel_rfl) (by kernel_rfl) fun b_8 w a hs => ?_)
  refine qpe 0 [(0, pp b_x0), (1, .func (.func 152) #[] #[pp b_2, pp b_3]), (4, pp b_8)] hs fun a hs => hK7 _ _ ?_
  clear hK7
  refine qsr fun K9 hK9 => ?_
  obtain ⟨v_12, h_11, hm⟩ := bind_t hm
  refine Vk.step (Vk.call (some 7) 119 #[] hs (by kernel_rfl) (by kernel_rfl) (by kernel_rfl) ?_)
  refine (share_none.ok k v_12 h_11 κ w (pt b_8 (blk [ci 0, ci 0, ci 0] 28) :: pt b_4 (blk [ci 0, ci 0, ci 0] 28) :: pt b_3 (blk [cw x1] 32) :: pt b_2 (blk [cp b_x0] 41) :: Twire_Machine.own b_x0 x0 :: S) hs.own).mono ?_
  rintro _ w ⟨rfl, how⟩
  refine ⟨_, _, _, rfl, how, fun a hs => ?_⟩
  refine Vk.step (Vk.alloc 5 28 [ci 0, ci 0, ci 0] hs (by kernel_rfl) (by kernel_rfl) (by kernel_rfl) fun b_13 w a hs => ?_)
  obtain ⟨h_14, hm⟩ := ite_t hm
  refine Vk.step (Vk.storeA (b := b_13) (ty := 28) (x := (.tmp 5)) (y := (.tmp 7)) (sz := 3) v_12 0 hs (by kernel_rfl) (by kernel_rfl) (by kernel_rfl) (by kernel_rfl) (by kernel_rfl) h_14 (by kernel_rfl) rfl (Eq.trans (b := 3) h_14 (Eq.symm rfl)) fun a w hs => ?_)
  refine qpe 0 [(0, pp b_x0), (1, .func (.func 152) #[] #[pp b_2, pp b_3]), (4, pp b_8), (5, pp b_13)] hs fun a hs => hK9 _ _ ?_
  clear hK9
  refine Vk.seq fun K15 hK15 => ?_
  refine qsr fun K16 hK16 => ?_
  refine qpu 1 hs fun a hs => ?_
  obtain ⟨g_17, hs⟩ := hs.unex 5 rfl
  obtain ⟨v_20, h_19, hm⟩ := bind_t hm
  refine Vk.step (Vk.call (some 9) 89 #[pp b_x0] hs (by kernel_rfl) (by kernel_rfl) (by kernel_rfl) ?_)
  refine (wire_Machine_N.ok k x0 v_20 h_19 κ w (pt b_13 (blk v_12 28) :: pt b_8 (blk [ci 0, ci 0, ci 0] 28) :: pt b_4 (blk [ci 0, ci 0, ci 0] 28) :: pt b_3 (blk [cw x1] 32) :: pt b_2 (blk [cp b_x0] 41) :: S) b_x0 g_17 (Own.to hs.own [5, 0, 1, 2, 3, 4] 6 (by kernel_rfl) (by kernel_rfl))).mono ?_
  rintro _ w ⟨rfl, how⟩
  refine ⟨_, _, _, rfl, how, fun a hs => ?_⟩
  refine qpe 1 [(1, .func (.func 152) #[] #[pp b_2, pp b_3]), (4, pp b_8), (5, pp b_13), (9, vi v_20), (10, vi 0)] hs fun a hs => hK16 _ _ ?_
  clear hK16
  refine wp_block ?_
  replace hs := hs.toEx (Twire_Machine.parts b_x0 x0) g_17 0 rfl
  obtain ⟨r21, hl21, hm⟩ := bind_t hm
  have hx21 : ∀ (p_51 : Cells) (p_52 : Twire_Machine), r21 = (p_51, p_52) → ∀ (a : Act) (w : World), St 21 a w κ [(4, pp b_8), (5, pp b_13)] (pt b_8 (blk [ci 0, ci 0, ci 0] 28) :: pt b_13 (blk p_51 28) :: Twire_Machine.own b_x0 p_52 :: pt b_2 (blk [cp b_x0] 41) :: pt b_3 (blk [cw x1] 32) :: pt b_4 (blk [ci 0, ci 0, ci 0] 28) :: S) → K15 a w := by
    intro p_51 p_52 he a w hs
    subst r21
    refine hK15 _ _ ?_
    clear hK15
    refine qsr fun K56 hK56 => ?_
    obtain ⟨h_57, hm⟩ := ite_t hm
    refine Vk.step (Vk.value (some 20) (.agg (vals p_51)) hs (by kernel_rfl) (op := (.load 28 (.tmp 5))) (by kernel_rfl) (fun o ho => run_loadN (cs := p_51) ho (by kernel_rfl) (by kernel_rfl) h_57 (CellsAt.all 1 rfl) _ hs.own) fun a hs => ?_)
    refine Vk.step (Vk.storeA (b := b_8) (ty := 28) (x := (.tmp 4)) (y := (.tmp 20)) (sz := 3) p_51 0 hs (by kernel_rfl) (by kernel_rfl) (by kernel_rfl) (by kernel_rfl) (by kernel_rfl) h_57 (by kernel_rfl) rfl (Eq.trans (b := 3) h_57 (Eq.symm rfl)) fun a w hs => ?_)
    refine qpe 0 [(4, pp b_8)] hs fun a hs => hK56 _ _ ?_
    clear hK56
    refine wp_ret ?_
    refine hKP6 _ _ ?_
    refine hKR6 _ _ ?_
    refine Vk.retC (P := Try.prog) (fn := Try.f132) p_51 hs rfl (by kernel_rfl) (sz := 3) (by kernel_rfl) h_57 (CellsAt.all 0 rfl) ⟨_, _, _, rfl, hs.own, fun a hs => ?_⟩
    refine Vk.step (Vk.storeA (b := b_4) (ty := 28) (x := (.tmp 4)) (y := (.tmp 7)) (sz := 3) p_51 5 hs (by kernel_rfl) (by kernel_rfl) (by kernel_rfl) (by kernel_rfl) (by kernel_rfl) h_57 (by kernel_rfl) rfl (Eq.trans (b := 3) h_57 (Eq.symm rfl)) fun a w hs => ?_)
    refine qpe 0 [(4, pp b_4)] hs fun a hs => hK5 _ _ ?_
    clear hK5
    refine wp_ret ?_
    exact Vk.retC (P := Try.prog) (fn := Try.f97) (R := RR) p_51 hs rfl (by kernel_rfl) (sz := 3) (by kernel_rfl) h_57 (CellsAt.all 5 rfl) (by obtain rfl := Option.some.inj hm; subst hRR; exact ⟨rfl, (Own.to hs.own [2] 6 (by kernel_rfl) (by kernel_rfl))⟩)
  refine Vk.loopBy (fun k (s : Twire_Machine × Cells × Int) a w => share_Told.l1 x1 v_20 k s.1 s.2.1 s.2.2 = some r21 ∧ St 21 a w κ [(1, .func (.func 152) #[] #[pp b_2, pp b_3]), (4, pp b_8), (5, pp b_13), (9, vi v_20), (10, vi s.2.2)] (pt b_2 (blk [cp b_x0] 41) :: Twire_Machine.own b_x0 s.1 :: pt b_3 (blk [cw x1] 32) :: pt b_8 (blk [ci 0, ci 0, ci 0] 28) :: pt b_13 (blk s.2.1 28) :: pt b_4 (blk [ci 0, ci 0, ci 0] 28) :: S)) k (x0, v_12, 0) ⟨hl21, hs.go [1, 4, 5, 9, 10] [5, 0, 4, 2, 1, 3] 6 (by kernel_rfl) (by kernel_rfl) (by kernel_rfl)⟩ (fun s a w h => by obtain ⟨h1, _⟩ := h; simp [share_Told.l1] at h1) (fun k KL21 ih s a w h => ?_)
  obtain ⟨q_22, q_23, q_24⟩ := s
  obtain ⟨hm, hs⟩ := h
  try dsimp only at hm hs
  rw [share_Told.l1] at hm
  refine qsr fun K25 hK25 => ?_
  refine qpe 1 [(1, .func (.func 152) #[] #[pp b_2, pp b_3]), (4, pp b_8), (5, pp b_13), (9, vi v_20), (10, vi q_24), (11, .bool (decide (q_24 < v_20)))] hs fun a hs => hK25 _ _ ?_
  clear hK25
  refine Vk.seq fun K26 hK26 => ?_
  refine qcs (decide (q_24 < v_20)) hs (fun hb => ?_) fun hb => ?_
  · replace hm := bif_t hm hb
    refine wp_skip ?_
    refine hK26 _ _ ?_
    clear hK26
    refine Vk.seq fun K27 hK27 => ?_
    refine wp_block ?_
    refine qsr fun K28 hK28 => ?_
    refine qpe 2 [(1, .func (.func 152) #[] #[pp b_2, pp b_3]), (4, pp b_8), (5, pp b_13), (6, vi q_24), (9, vi v_20), (10, vi q_24)] hs fun a hs => hK28 _ _ ?_
    clear hK28
    refine Vk.region ?_
    refine qpu 3 hs fun a hs => ?_
    refine Vk.step (Vk.call (some 16) 152 #[vi q_24, pp b_2, pp b_3] hs (by kernel_rfl) (by kernel_rfl) (by kernel_rfl) ?_)
    refine Vk.enterI [(0, vi q_24), (1, pp b_2), (2, pp b_3)] Try.func152 rfl Try.ntmps152 (by kernel_rfl) (Nat.le_of_ble_eq_true (by kernel_rfl)) hs.own fun KR29 hKR29 hKP29 a hs => ?_
    have hj29 : ∀ (p_47 : Int) (p_48 : Twire_Machine), share_Told.j1 k (share_Told.l1 x1 v_20 k) q_23 q_24 p_47 p_48 = some r21 → ∀ (a : Act) (w : World), St 14 a w κ [(4, vi p_47)] (Twire_Machine.own b_x0 p_48 :: pt b_2 (blk [cp b_x0] 41) :: pt b_3 (blk [cw x1] 32) :: pt b_4 (blk [ci 0, ci 0, ci 0] 28) :: pt b_8 (blk [ci 0, ci 0, ci 0] 28) :: pt b_13 (blk q_23 28) :: S) → KR29 a w := by
      intro p_47 p_48 hm a w hs
      unfold share_Told.j1 at hm
      refine hKR29 _ _ ?_
      refine Vk.ret1 (P := Try.prog) (fn := Try.f152) (vi p_47) hs rfl (by kernel_rfl) ⟨_, _, _, rfl, hs.own, fun a hs => ?_⟩
      refine qpu 1 hs fun a hs => ?_
      obtain ⟨h_49, hm⟩ := ite_t hm
      refine Vk.step (Vk.value (some 18) (.pointer (some ⟨b_13, 0 + q_24.toNat * 1, none⟩)) hs (by kernel_rfl) (op := (.indexAddr 26 (.tmp 17) (.tmp 13))) (by kernel_rfl) (fun o ho => run_idxArr (k := .i64) ho (by kernel_rfl) (by kernel_rfl) (by kernel_rfl) h_49 _) fun a hs => ?_)
      obtain ⟨h_50, hm⟩ := ite_t hm
      refine Vk.step (Vk.store1 (b := b_13) (ty := 3) (x := (.tmp 18)) (y := (.tmp 16)) (off := 0 + q_24.toNat * 1) (ci p_47) 5 hs (by kernel_rfl) (by kernel_rfl) (by kernel_rfl) (by kernel_rfl) (by kernel_rfl) (by kernel_rfl) rfl h_50 fun a w hs => ?_)
      refine qpe 0 [(1, .func (.func 152) #[] #[pp b_2, pp b_3]), (4, pp b_8), (5, pp b_13), (9, vi v_20), (10, vi q_24)] hs fun a hs => hK27 _ _ ?_
      clear hK27
      refine Vk.region ?_
      refine qpe 2 [(1, .func (.func 152) #[] #[pp b_2, pp b_3]), (4, pp b_8), (5, pp b_13), (9, vi v_20), (10, vi (IntKind.i64.wrap (q_24 + 1)))] hs fun a hs => ?_
      refine ih (p_48, (q_23.set (0 + q_24.toNat * 1) (ci p_47)), (IntKind.i64.wrap (q_24 + 1))) _ _ ⟨hm, hs.go [1, 4, 5, 9, 10] [1, 0, 2, 4, 5, 3] 6 (by kernel_rfl) (by kernel_rfl) (by kernel_rfl)⟩
    refine qsr fun K30 hK30 => ?_
    refine qpe 1 [(0, vi q_24), (1, pp b_2), (2, pp b_3)] hs fun a hs => hK30 _ _ ?_
    clear hK30
    refine Vk.seq fun K31 hK31 => ?_
    refine qsr fun K32 hK32 => ?_
    refine qpe 2 [(0, vi q_24), (1, pp b_2), (2, pp b_3), (6, .bool (decide (q_24 > 0)))] hs fun a hs => hK32 _ _ ?_
    clear hK32
    refine qcs (decide (q_24 > 0)) hs (fun hb => ?_) fun hb => ?_
    · replace hm := bif_t hm hb
      refine qsr fun K33 hK33 => ?_
      refine qld 0 (cp b_x0) hs rfl fun a hs => ?_
      refine qpu 1 hs fun a hs => ?_
      refine Vk.step (Vk.call (some 9) 84 #[pp b_x0, vi q_24, vw 0] hs (by kernel_rfl) (by kernel_rfl) (by kernel_rfl) ?_)
      refine Vk.enterI [(0, pp b_x0), (1, vi q_24), (2, vw 0)] Try.func84 rfl Try.ntmps84 (by kernel_rfl) (Nat.le_of_ble_eq_true (by kernel_rfl)) hs.own fun KR34 hKR34 hKP34 a hs => ?_
      refine qsr fun K35 hK35 => ?_
      refine qpe 1 [(0, pp b_x0), (1, vi q_24), (2, vw 0)] hs fun a hs => hK35 _ _ ?_
      clear hK35
      refine qsr fun K36 hK36 => ?_
      refine qpu 4 hs fun a hs => ?_
      obtain ⟨v_39, h_38, hm⟩ := bind_t hm
      refine Vk.step (Vk.call (some 11) 147 #[pp b_x0, .agg (vals [ci 3, ci q_24, ci (-1), ci (-1), ci (-1), cw 0]), vw 0] hs (by kernel_rfl) (by kernel_rfl) (by kernel_rfl) ?_)
      refine (wire_Machine_Do.ok k q_22 (⟨3, q_24, (-1), (-1), (-1), 0⟩ : Tapi_Op) 0 v_39 h_38 κ w (pt b_2 (blk [cp b_x0] 41) :: pt b_3 (blk [cw x1] 32) :: pt b_8 (blk [ci 0, ci 0, ci 0] 28) :: pt b_13 (blk q_23 28) :: pt b_4 (blk [ci 0, ci 0, ci 0] 28) :: S) b_x0 (Own.to hs.own [1, 0, 2, 3, 4, 5] 6 (by kernel_rfl) (by kernel_rfl))).mono ?_
      rintro _ w ⟨rfl, how⟩
      refine ⟨_, _, _, rfl, how, fun a hs => ?_⟩
      refine qpe 1 [(6, vi v_39.1)] hs fun a hs => hK36 _ _ ?_
      clear hK36
      refine wp_ret ?_
      refine hKP34 _ _ ?_
      refine hKR34 _ _ ?_
      refine Vk.ret1 (P := Try.prog) (fn := Try.f84) (vi v_39.1) hs rfl (by kernel_rfl) ⟨_, _, _, rfl, hs.own, fun a hs => ?_⟩
      refine qpe 1 [(4, vi v_39.1)] hs fun a hs => hK33 _ _ ?_
      clear hK33
      refine wp_ret ?_
      refine hKP29 _ _ ?_
      exact hj29 v_39.1 v_39.2 hm _ _ (hs.go [4] [0, 1, 2, 5, 3, 4] 6 (by kernel_rfl) (by kernel_rfl) (by kernel_rfl))
    · replace hm := bif_f hm hb
      refine wp_skip ?_
      refine hK31 _ _ ?_
      clear hK31
      refine qsr fun K40 hK40 => ?_
      refine qld 0 (cp b_x0) hs rfl fun a hs => ?_
      refine qpu 1 hs fun a hs => ?_
      refine qld 2 (cw x1) hs rfl fun a hs => ?_
      refine Vk.step (Vk.call (some 13) 153 #[pp b_x0, vi q_24, vw x1] hs (by kernel_rfl) (by kernel_rfl) (by kernel_rfl) ?_)
      refine Vk.enterI [(0, pp b_x0), (1, vi q_24), (2, vw x1)] Try.func153 rfl Try.ntmps153 (by kernel_rfl) (Nat.le_of_ble_eq_true (by kernel_rfl)) hs.own fun KR41 hKR41 hKP41 a hs => ?_
      refine qsr fun K42 hK42 => ?_
      refine qpe 1 [(0, pp b_x0), (1, vi q_24), (2, vw x1)] hs fun a hs => hK42 _ _ ?_
      clear hK42
      refine qsr fun K43 hK43 => ?_
      refine qpu 4 hs fun a hs => ?_
      obtain ⟨v_46, h_45, hm⟩ := bind_t hm
      refine Vk.step (Vk.call (some 11) 147 #[pp b_x0, .agg (vals [ci 4, ci q_24, ci (-1), ci (-1), ci (-1), cw x1]), vw 0] hs (by kernel_rfl) (by kernel_rfl) (by kernel_rfl) ?_)
      refine (wire_Machine_Do.ok k q_22 (⟨4, q_24, (-1), (-1), (-1), x1⟩ : Tapi_Op) 0 v_46 h_45 κ w (pt b_2 (blk [cp b_x0] 41) :: pt b_3 (blk [cw x1] 32) :: pt b_8 (blk [ci 0, ci 0, ci 0] 28) :: pt b_13 (blk q_23 28) :: pt b_4 (blk [ci 0, ci 0, ci 0] 28) :: S) b_x0 (Own.to hs.own [1, 0, 2, 3, 4, 5] 6 (by kernel_rfl) (by kernel_rfl))).mono ?_
      rintro _ w ⟨rfl, how⟩
      refine ⟨_, _, _, rfl, how, fun a hs => ?_⟩
      refine qpe 1 [(6, vi v_46.1)] hs fun a hs => hK43 _ _ ?_
      clear hK43
      refine wp_ret ?_
      refine hKP41 _ _ ?_
      refine hKR41 _ _ ?_
      refine Vk.ret1 (P := Try.prog) (fn := Try.f153) (vi v_46.1) hs rfl (by kernel_rfl) ⟨_, _, _, rfl, hs.own, fun a hs => ?_⟩
      refine qpe 1 [(4, vi v_46.1)] hs fun a hs => hK40 _ _ ?_
      clear hK40
      refine wp_ret ?_
      refine hKP29 _ _ ?_
      exact hj29 v_46.1 v_46.2 hm _ _ (hs.go [4] [0, 1, 2, 5, 3, 4] 6 (by kernel_rfl) (by kernel_rfl) (by kernel_rfl))
  · replace hm := bif_f hm hb
    refine wp_exit ?_
    exact hx21 q_23 q_22 (Option.some.inj hm).symm _ _ (hs.go [4, 5] [3, 4, 1, 0, 2, 5] 6 (by kernel_rfl) (by kernel_rfl) (by kernel_rfl))


def visorref20_Const.l1 : Nat → Tvisorref19_M → Cells → Int → Option (Cells × Tvisorref19_M)
  | 0, _, _, _ => none
  | k + 1, q_20, q_21, q_22 => (bif decide (q_22 < q_20.n) then (visorref19_Op.m k 3 q_22 (-1) (-1) 0).bind fun v_33 => (visorref19_M_Do.m k q_20 v_33 0).bind fun v_36 => (if 0 ≤ q_22 ∧ q_22 < 3 then (if 0 + q_22.toNat * 1 < q_21.length then visorref20_Const.l1 k v_36.2 (q_21.set (0 + q_22.toNat * 1) (ci v_36.1)) (IntKind.i64.wrap (q_22 + 1)) else none) else none) else some (q_21, q_20))
abbrev visorref20_Const.R (κ : Ctx) (S : List HP) (x0 : Tvisorref19_M) (x1 : Int) (x2 : Int) (b_x0 : Nat) (r : (Cells × Tvisorref19_M)) : Ending → World → Prop := fun e w' => e = .returned (.agg (vals r.1)) ∧ Own κ w' (Tvisorref19_M.own κ b_x0 r.2 :: S)
def visorref20_Const.m (k : Nat) (x0 : Tvisorref19_M) (x1 : Int) (x2 : Int) : Option (Cells × Tvisorref19_M) := (visorref20_None.m k).bind fun v_6 => (if v_6.length = 3 then (visorref19_Op.m k x1 0 (-1) (-1) x2).bind fun v_12 => (visorref19_M_Do.m k x0 v_12 0).bind fun v_15 => (if 0 < v_6.length then (visorref20_Const.l1 k v_15.2 (v_6.set (0) (ci v_15.1)) 1).bind fun x => match x with | (p_39, p_40) => (if p_39.length = 3 then some (p_39, p_40) else none) else none) else none)

set_option maxRecDepth 100000 in
set_option maxHeartbeats 4000000 in
theorem visorref20_Const.ok (k : Nat) (x0 : Tvisorref19_M) (x1 : Int) (x2 : Int) (r : (Cells × Tvisorref19_M)) (hm : visorref20_Const.m k x0 x1 x2 = some r) (κ : Ctx) (w : World) (S : List HP) (b_x0 : Nat) (ho : Own κ w (Tvisorref19_M.own κ b_x0 x0 :: S)) :
    Calls Try.prog 67 #[pp b_x0, vi x1, vw x2] w (visorref20_Const.R κ S x0 x1 x2 b_x0 r) := by
  unfold visorref20_Const.m at hm
  generalize hRR : visorref20_Const.R κ S x0 x1 x2 b_x0 r = RR
  refine qen [(0, pp b_x0), (1, vi x1), (2, vw x2)] Try.func67 Try.ntmps67 ho fun a hs => ?_
  refine qsr fun K1 hK1 => ?_
  refine Vk.step (Vk.alloc 6 28 [ci 0, ci 0, ci 0] hs (by kernel_rfl) (by kernel_rfl) (by kernel_rfl) fun b_2 w a hs => ?_)
  refine qpe 0 [(0, pp b_x0), (1, vi x1), (2, vw x2), (6, pp b_2)] hs fun a hs => hK1 _ _ ?_
  clear hK1
  refine qsr fun K3 hK3 => ?_
  obtain ⟨v_6, h_5, hm⟩ := bind_t hm
  refine Vk.step (Vk.call (some 9) 83 #[] hs (by kernel_rfl) (by kernel_rfl) (by kernel_rfl) ?_)
  refine (visorref20_None.ok k v_6 h_5 κ w (pt b_2 (blk [ci 0, ci 0, ci 0] 28) :: Tvisorref19_M.own κ b_x0 x0 :: S) hs.own).mono ?_
  rintro _ w ⟨rfl, how⟩
  refine ⟨_, _, _, rfl, how, fun a hs => ?_⟩
  refine Vk.step (Vk.alloc 7 28 [ci 0, ci 0, ci 0] hs (by kernel_rfl) (by kernel_rfl) (by kernel_rfl) fun b_7 w a hs => ?_)
  obtain ⟨h_8, hm⟩ := ite_t hm
  refine Vk.step (Vk.storeA (b := b_7) (ty := 28) (x := (.tmp 7)) (y := (.tmp 9)) (sz := 3) v_6 0 hs (by kernel_rfl) (by kernel_rfl) (by kernel_rfl) (by kernel_rfl) (by kernel_rfl) h_8 (by kernel_rfl) rfl (Eq.trans (b := 3) h_8 (Eq.symm rfl)) fun a w hs => ?_)
  refine qpe 0 [(0, pp b_x0), (1, vi x1), (2, vw x2), (6, pp b_2), (7, pp b_7)] hs fun a hs => hK3 _ _ ?_
  clear hK3
  refine qsr fun K9 hK9 => ?_
  refine qpu 3 hs fun a hs => ?_
  obtain ⟨v_12, h_11, hm⟩ := bind_t hm
  refine Vk.step (Vk.call (some 13) 123 #[vi x1, vi 0, vi (-1), vi (-1), vw x2] hs (by kernel_rfl) (by kernel_rfl) (by kernel_rfl) ?_)
  refine (visorref19_Op.ok k x1 0 (-1) (-1) x2 v_12 h_11 κ w (pt b_7 (blk v_6 28) :: pt b_2 (blk [ci 0, ci 0, ci 0] 28) :: Tvisorref19_M.own κ b_x0 x0 :: S) hs.own).mono ?_
  rintro _ w ⟨rfl, how⟩
  refine ⟨_, _, _, rfl, how, fun a hs => ?_⟩
  obtain ⟨v_15, h_14, hm⟩ := bind_t hm
  refine Vk.step (Vk.call (some 14) 55 #[pp b_x0, .agg (vals [ci v_12.kind, ci v_12.dom, ci v_12.a, ci v_12.b, ci v_12.d, cw v_12.c]), vw 0] hs (by kernel_rfl) (by kernel_rfl) (by kernel_rfl) ?_)
  refine (visorref19_M_Do.ok k x0 v_12 0 v_15 h_14 κ w (pt b_7 (blk v_6 28) :: pt b_2 (blk [ci 0, ci 0, ci 0] 28) :: S) b_x0 (Own.to hs.own [2, 0, 1] 3 (by kernel_rfl) (by kernel_rfl))).mono ?_
  rintro _ w ⟨rfl, how⟩
  refine ⟨_, _, _, rfl, how, fun a hs => ?_⟩
  refine qpu 2 hs fun a hs => ?_
  obtain ⟨h_16, hm⟩ := ite_t hm
  refine Vk.step (Vk.store1 (b := b_7) (ty := 3) (x := (.tmp 16)) (y := (.tmp 14)) (off := 0) (ci v_15.1) 1 hs (by kernel_rfl) (by kernel_rfl) (by kernel_rfl) (by kernel_rfl) (by kernel_rfl) (by kernel_rfl) rfl h_16 fun a w hs => ?_)
  refine qpe 0 [(0, pp b_x0), (6, pp b_2), (7, pp b_7)] hs fun a hs => hK9 _ _ ?_
  clear hK9
  refine Vk.seq fun K17 hK17 => ?_
  refine qsr fun K18 hK18 => ?_
  refine qpe 1 [(0, pp b_x0), (6, pp b_2), (7, pp b_7), (8, vi 1)] hs fun a hs => hK18 _ _ ?_
  clear hK18
  refine wp_block ?_
  obtain ⟨r19, hl19, hm⟩ := bind_t hm
  have hx19 : ∀ (p_39 : Cells) (p_40 : Tvisorref19_M), r19 = (p_39, p_40) → ∀ (a : Act) (w : World), St 33 a w κ [(6, pp b_2), (7, pp b_7)] (pt b_2 (blk [ci 0, ci 0, ci 0] 28) :: pt b_7 (blk p_39 28) :: Tvisorref19_M.own κ b_x0 p_40 :: S) → K17 a w := by
    intro p_39 p_40 he a w hs
    subst r19
    refine hK17 _ _ ?_
    clear hK17
    refine qsr fun K44 hK44 => ?_
    obtain ⟨h_45, hm⟩ := ite_t hm
    refine Vk.step (Vk.value (some 32) (.agg (vals p_39)) hs (by kernel_rfl) (op := (.load 28 (.tmp 7))) (by kernel_rfl) (fun o ho => run_loadN (cs := p_39) ho (by kernel_rfl) (by kernel_rfl) h_45 (CellsAt.all 1 rfl) _ hs.own) fun a hs => ?_)
    refine Vk.step (Vk.storeA (b := b_2) (ty := 28) (x := (.tmp 6)) (y := (.tmp 32)) (sz := 3) p_39 0 hs (by kernel_rfl) (by kernel_rfl) (by kernel_rfl) (by kernel_rfl) (by kernel_rfl) h_45 (by kernel_rfl) rfl (Eq.trans (b := 3) h_45 (Eq.symm rfl)) fun a w hs => ?_)
    refine qpe 0 [(6, pp b_2)] hs fun a hs => hK44 _ _ ?_
    clear hK44
    refine wp_ret ?_
    exact Vk.retC (P := Try.prog) (fn := Try.f67) (R := RR) p_39 hs rfl (by kernel_rfl) (sz := 3) (by kernel_rfl) h_45 (CellsAt.all 0 rfl) (by obtain rfl := Option.some.inj hm; subst hRR; exact ⟨rfl, (Own.to hs.own [2] 3 (by kernel_rfl) (by kernel_rfl))⟩)
  refine Vk.loopBy (fun k (s : Tvisorref19_M × Cells × Int) a w => visorref20_Const.l1 k s.1 s.2.1 s.2.2 = some r19 ∧ St 33 a w κ [(0, pp b_x0), (6, pp b_2), (7, pp b_7), (8, vi s.2.2)] (Tvisorref19_M.own κ b_x0 s.1 :: pt b_2 (blk [ci 0, ci 0, ci 0] 28) :: pt b_7 (blk s.2.1 28) :: S)) k (v_15.2, (v_6.set (0) (ci v_15.1)), 1) ⟨hl19, hs.go [0, 6, 7, 8] [0, 2, 1] 3 (by kernel_rfl) (by kernel_rfl) (by kernel_rfl)⟩ (fun s a w h => by obtain ⟨h1, _⟩ := h; simp [visorref20_Const.l1] at h1) (fun k KL19 ih s a w h => ?_)
  obtain ⟨q_20, q_21, q_22⟩ := s
  obtain ⟨hm, hs⟩ := h
  try dsimp only at hm hs
  rw [visorref20_Const.l1] at hm
  refine Vk.seq fun K23 hK23 => ?_
  refine qsr fun K24 hK24 => ?_
  refine qpu 4 hs fun a hs => ?_
  obtain ⟨g_25, hs⟩ := hs.unbag 0 rfl
  refine qld 0 (ci q_20.n) hs rfl fun a hs => ?_
  refine qpe 1 [(0, pp b_x0), (6, pp b_2), (7, pp b_7), (8, vi q_22), (22, .bool (decide (q_22 < q_20.n)))] hs fun a hs => hK24 _ _ ?_
  clear hK24
  refine qcs (decide (q_22 < q_20.n)) hs (fun hb => ?_) fun hb => ?_
  · replace hm := bif_t hm hb
    refine wp_skip ?_
    refine hK23 _ _ ?_
    clear hK23
    refine Vk.seq fun K30 hK30 => ?_
    refine wp_block ?_
    refine Vk.region ?_
    refine qpu 3 hs fun a hs => ?_
    obtain ⟨v_33, h_32, hm⟩ := bind_t hm
    refine Vk.step (Vk.call (some 28) 123 #[vi 3, vi q_22, vi (-1), vi (-1), vw 0] hs (by kernel_rfl) (by kernel_rfl) (by kernel_rfl) ?_)
    refine (visorref19_Op.ok k 3 q_22 (-1) (-1) 0 v_33 h_32 κ w (pt b_x0 (blk (Tvisorref19_M.obj q_20 g_25.1 g_25.2.1 g_25.2.2.1 g_25.2.2.2.1 g_25.2.2.2.2.1 g_25.2.2.2.2.2.1 g_25.2.2.2.2.2.2.1 g_25.2.2.2.2.2.2.2) 64) :: rowp g_25.1 g_25.2.1 93 6 Tapi_Op.cells q_20.ops :: rowp g_25.2.2.1 g_25.2.2.2.1 175 3 Tapi_Span.cells q_20.blocks :: rowp g_25.2.2.2.2.1 g_25.2.2.2.2.2.1 32 1 (eI .u64) q_20.val :: rdp κ g_25.2.2.2.2.2.2.1 g_25.2.2.2.2.2.2.2 1 (eI .u64) q_20.tape.l :: pt b_2 (blk [ci 0, ci 0, ci 0] 28) :: pt b_7 (blk q_21 28) :: S) hs.own).mono ?_
    rintro _ w ⟨rfl, how⟩
    refine ⟨_, _, _, rfl, how, fun a hs => ?_⟩
    replace hs := hs.bagG (l := Tvisorref19_M.parts κ b_x0 q_20 g_25) (S' := pt b_2 (blk [ci 0, ci 0, ci 0] 28) :: pt b_7 (blk q_21 28) :: S) (Own.to hs.own [0, 1, 2, 3, 4, 5, 6] 7 (by kernel_rfl) (by kernel_rfl))
    replace hs := hs.toEx (Tvisorref19_M.parts κ b_x0 q_20) g_25 0 rfl
    obtain ⟨v_36, h_35, hm⟩ := bind_t hm
    refine Vk.step (Vk.call (some 29) 55 #[pp b_x0, .agg (vals [ci v_33.kind, ci v_33.dom, ci v_33.a, ci v_33.b, ci v_33.d, cw v_33.c]), vw 0] hs (by kernel_rfl) (by kernel_rfl) (by kernel_rfl) ?_)
    refine (visorref19_M_Do.ok k q_20 v_33 0 v_36 h_35 κ w (pt b_2 (blk [ci 0, ci 0, ci 0] 28) :: pt b_7 (blk q_21 28) :: S) b_x0 (Own.to hs.own [0, 1, 2] 3 (by kernel_rfl) (by kernel_rfl))).mono ?_
    rintro _ w ⟨rfl, how⟩
    refine ⟨_, _, _, rfl, how, fun a hs => ?_⟩
    refine qpu 1 hs fun a hs => ?_
    obtain ⟨h_37, hm⟩ := ite_t hm
    refine Vk.step (Vk.value (some 31) (.pointer (some ⟨b_7, 0 + q_22.toNat * 1, none⟩)) hs (by kernel_rfl) (op := (.indexAddr 26 (.tmp 30) (.tmp 25))) (by kernel_rfl) (fun o ho => run_idxArr (k := .i64) ho (by kernel_rfl) (by kernel_rfl) (by kernel_rfl) h_37 _) fun a hs => ?_)
    obtain ⟨h_38, hm⟩ := ite_t hm
    refine Vk.step (Vk.store1 (b := b_7) (ty := 3) (x := (.tmp 31)) (y := (.tmp 29)) (off := 0 + q_22.toNat * 1) (ci v_36.1) 2 hs (by kernel_rfl) (by kernel_rfl) (by kernel_rfl) (by kernel_rfl) (by kernel_rfl) (by kernel_rfl) rfl h_38 fun a w hs => ?_)
    refine qpe 0 [(0, pp b_x0), (6, pp b_2), (7, pp b_7), (8, vi q_22)] hs fun a hs => hK30 _ _ ?_
    clear hK30
    refine Vk.region ?_
    refine qpe 3 [(0, pp b_x0), (6, pp b_2), (7, pp b_7), (8, vi (IntKind.i64.wrap (q_22 + 1)))] hs fun a hs => ?_
    refine ih (v_36.2, (q_21.set (0 + q_22.toNat * 1) (ci v_36.1)), (IntKind.i64.wrap (q_22 + 1))) _ _ ⟨hm, hs.go [0, 6, 7, 8] [0, 1, 2] 3 (by kernel_rfl) (by kernel_rfl) (by kernel_rfl)⟩
  · replace hm := bif_f hm hb
    refine wp_exit ?_
    replace hs := hs.bagG (l := Tvisorref19_M.parts κ b_x0 q_20 g_25) (S' := pt b_2 (blk [ci 0, ci 0, ci 0] 28) :: pt b_7 (blk q_21 28) :: S) (Own.to hs.own [0, 1, 2, 3, 4, 5, 6] 7 (by kernel_rfl) (by kernel_rfl))
    replace hs := hs.toEx (Tvisorref19_M.parts κ b_x0 q_20) g_25 0 rfl
    exact hx19 q_21 q_20 (Option.some.inj hm).symm _ _ (hs.go [6, 7] [1, 2, 0] 3 (by kernel_rfl) (by kernel_rfl) (by kernel_rfl))


def share_Public.j1 (k : Nat) (rec21 : Twire_Machine → Cells → Int → Option (Cells × Twire_Machine)) (q_23 : Cells) (q_24 : Int) (p_47 : Int) (p_48 : Twire_Machine) : Option (Cells × Twire_Machine) := (if 0 ≤ q_24 ∧ q_24 < 3 then (if 0 + q_24.toNat * 1 < q_23.length then rec21 p_48 (q_23.set (0 + q_24.toNat * 1) (ci p_47)) (IntKind.i64.wrap (q_24 + 1)) else none) else none)
def share_Public.l1 (x1 : Int) (v_20 : Int) : Nat → Twire_Machine → Cells → Int → Option (Cells × Twire_Machine)
  | 0, _, _, _ => none
  | k + 1, q_22, q_23, q_24 => (bif decide (q_24 < v_20) then (bif decide (q_24 > 0) then (wire_Machine_Do.m k q_22 (⟨3, q_24, (-1), (-1), (-1), 0⟩ : Tapi_Op) 0).bind fun v_39 => share_Public.j1 k (share_Public.l1 x1 v_20 k) q_23 q_24 v_39.1 v_39.2 else (wire_Machine_Do.m k q_22 (⟨3, q_24, (-1), (-1), (-1), x1⟩ : Tapi_Op) 0).bind fun v_46 => share_Public.j1 k (share_Public.l1 x1 v_20 k) q_23 q_24 v_46.1 v_46.2) else some (q_23, q_22))
abbrev share_Public.R (κ : Ctx) (S : List HP) (x0 : Twire_Machine) (x1 : Int) (b_x0 : Nat) (r : (Cells × Twire_Machine)) : Ending → World → Prop := fun e w' => e = .returned (.agg (vals r.1)) ∧ Own κ w' (Twire_Machine.own b_x0 r.2 :: S)
def share_Public.m (k : Nat) (x0 : Twire_Machine) (x1 : Int) : Option (Cells × Twire_Machine) := (share_none.m k).bind fun v_12 => (if v_12.length = 3 then (wire_Machine_N.m k x0).bind fun v_20 => (share_Public.l1 x1 v_20 k x0 v_12 0).bind fun x => match x with | (p_51, p_52) => (if p_51.length = 3 then some (p_51, p_52) else none) else none)

set_option maxRecDepth 100000 in
set_option maxHeartbeats 4000000 in
theorem share_Public.ok (k : Nat) (x0 : Twire_Machine) (x1 : Int) (r : (Cells × Twire_Machine)) (hm : share_Public.m k x0 x1 = some r) (κ : Ctx) (w : World) (S : List HP) (b_x0 : Nat) (ho : Own κ w (Twire_Machine.own b_x0 x0 :: S)) :
    Calls Try.prog 59 #[pp b_x0, vw x1] w (share_Public.R κ S x0 x1 b_x0 r) := by
  unfold share_Public.m at hm
  generalize hRR : share_Public.R κ S x0 x1 b_x0 r = RR
  refine qen [(0, pp b_x0), (1, vw x1)] Try.func59 Try.ntmps59 ho fun a hs => ?_
  refine qsr fun K1 hK1 => ?_
  refine Vk.step (Vk.box (x := (.tmp 0)) 2 41 [cp b_x0] hs (by kernel_rfl) (by kernel_rfl) (by kernel_rfl) fun b_2 w a hs => ?_)
  refine Vk.step (Vk.box (x := (.tmp 1)) 3 32 [cw x1] hs (by kernel_rfl) (by kernel_rfl) (by kernel_rfl) fun b_3 w a hs => ?_)
  refine Vk.step (Vk.alloc 4 28 [ci 0, ci 0, ci 0] hs (by kernel_rfl) (by kernel_rfl) (by kernel_rfl) fun b_4 w a hs => ?_)
  refine qpe 0 [(2, pp b_2), (3, pp b_3), (4, pp b_4)] hs fun a hs => hK1 _ _ ?_
  clear hK1
  refine qsr fun K5 hK5 => ?_
  refine qld 2 (cp b_x0) hs rfl fun a hs => ?_
  refine qpu 1 hs fun a hs => ?_
  refine Vk.step (Vk.call (some 7) 132 #[pp b_x0, .func (.func 133) #[] #[pp b_2, pp b_3]] hs (by kernel_rfl) (by kernel_rfl) (by kernel_rfl) ?_)
  refine Vk.enterI [(0, pp b_x0), (1, .func (.func 133) #[] #[pp b_2, pp b_3])] Try.func132 rfl Try.ntmps132 (by kernel_rfl) (Nat.le_of_ble_eq_true (by kernel_rfl)) hs.own fun KR6 hKR6 hKP6 a hs => ?_
  refine qsr fun K7 hK7 => ?_
  refine Vk.step (Vk.alloc 4 28 [ci 0, ci 0, ci 0] hs (by kernel_rfl) (by kernel_rfl) (by kernel_rfl) fun b_8 w a hs => ?_)
  refine qpe 0 [(0, pp b_x0), (1, .func (.func 133) #[] #[pp b_2, pp b_3]), (4, pp b_8)] hs fun a hs => hK7 _ _ ?_
  clear hK7
  refine qsr fun K9 hK9 => ?_
  obtain ⟨v_12, h_11, hm⟩ := bind_t hm
  refine Vk.step (Vk.call (some 7) 119 #[] hs (by kernel_rfl) (by kernel_rfl) (by kernel_rfl) ?_)
  refine (share_none.ok k v_12 h_11 κ w (pt b_8 (blk [ci 0, ci 0, ci 0] 28) :: pt b_4 (blk [ci 0, ci 0, ci 0] 28) :: pt b_3 (blk [cw x1] 32) :: pt b_2 (blk [cp b_x0] 41) :: Twire_Machine.own b_x0 x0 :: S) hs.own).mono ?_
  rintro _ w ⟨rfl, how⟩
  refine ⟨_, _, _, rfl, how, fun a hs => ?_⟩
  refine Vk.step (Vk.alloc 5 28 [ci 0, ci 0, ci 0] hs (by kernel_rfl) (by kernel_rfl) (by kernel_rfl) fun b_13 w a hs => ?_)
  obtain ⟨h_14, hm⟩ := ite_t hm
  refine Vk.step (Vk.storeA (b := b_13) (ty := 28) (x := (.tmp 5)) (y := (.tmp 7)) (sz := 3) v_12 0 hs (by kernel_rfl) (by kernel_rfl) (by kernel_rfl) (by kernel_rfl) (by kernel_rfl) h_14 (by kernel_rfl) rfl (Eq.trans (b := 3) h_14 (Eq.symm rfl)) fun a w hs => ?_)
  refine qpe 0 [(0, pp b_x0), (1, .func (.func 133) #[] #[pp b_2, pp b_3]), (4, pp b_8), (5, pp b_13)] hs fun a hs => hK9 _ _ ?_
  clear hK9
  refine Vk.seq fun K15 hK15 => ?_
  refine qsr fun K16 hK16 => ?_
  refine qpu 1 hs fun a hs => ?_
  obtain ⟨g_17, hs⟩ := hs.unex 5 rfl
  obtain ⟨v_20, h_19, hm⟩ := bind_t hm
  refine Vk.step (Vk.call (some 9) 89 #[pp b_x0] hs (by kernel_rfl) (by kernel_rfl) (by kernel_rfl) ?_)
  refine (wire_Machine_N.ok k x0 v_20 h_19 κ w (pt b_13 (blk v_12 28) :: pt b_8 (blk [ci 0, ci 0, ci 0] 28) :: pt b_4 (blk [ci 0, ci 0, ci 0] 28) :: pt b_3 (blk [cw x1] 32) :: pt b_2 (blk [cp b_x0] 41) :: S) b_x0 g_17 (Own.to hs.own [5, 0, 1, 2, 3, 4] 6 (by kernel_rfl) (by kernel_rfl))).mono ?_
  rintro _ w ⟨rfl, how⟩
  refine ⟨_, _, _, rfl, how, fun a hs => ?_⟩
  refine qpe 1 [(1, .func (.func 133) #[] #[pp b_2, pp b_3]), (4, pp b_8), (5, pp b_13), (9, vi v_20), (10, vi 0)] hs fun a hs => hK16 _ _ ?_
  clear hK16
  refine wp_block ?_
  replace hs := hs.toEx (Twire_Machine.parts b_x0 x0) g_17 0 rfl
  obtain ⟨r21, hl21, hm⟩ := bind_t hm
  have hx21 : ∀ (p_51 : Cells) (p_52 : Twire_Machine), r21 = (p_51, p_52) → ∀ (a : Act) (w : World), St 21 a w κ [(4, pp b_8), (5, pp b_13)] (pt b_8 (blk [ci 0, ci 0, ci 0] 28) :: pt b_13 (blk p_51 28) :: Twire_Machine.own b_x0 p_52 :: pt b_2 (blk [cp b_x0] 41) :: pt b_3 (blk [cw x1] 32) :: pt b_4 (blk [ci 0, ci 0, ci 0] 28) :: S) → K15 a w := by
    intro p_51 p_52 he a w hs
    subst r21
    refine hK15 _ _ ?_
    clear hK15
    refine qsr fun K56 hK56 => ?_
    obtain ⟨h_57, hm⟩ := ite_t hm
    refine Vk.step (Vk.value (some 20) (.agg (vals p_51)) hs (by kernel_rfl) (op := (.load 28 (.tmp 5))) (by kernel_rfl) (fun o ho => run_loadN (cs := p_51) ho (by kernel_rfl) (by kernel_rfl) h_57 (CellsAt.all 1 rfl) _ hs.own) fun a hs => ?_)
    refine Vk.step (Vk.storeA (b := b_8) (ty := 28) (x := (.tmp 4)) (y := (.tmp 20)) (sz := 3) p_51 0 hs (by kernel_rfl) (by kernel_rfl) (by kernel_rfl) (by kernel_rfl) (by kernel_rfl) h_57 (by kernel_rfl) rfl (Eq.trans (b := 3) h_57 (Eq.symm rfl)) fun a w hs => ?_)
    refine qpe 0 [(4, pp b_8)] hs fun a hs => hK56 _ _ ?_
    clear hK56
    refine wp_ret ?_
    refine hKP6 _ _ ?_
    refine hKR6 _ _ ?_
    refine Vk.retC (P := Try.prog) (fn := Try.f132) p_51 hs rfl (by kernel_rfl) (sz := 3) (by kernel_rfl) h_57 (CellsAt.all 0 rfl) ⟨_, _, _, rfl, hs.own, fun a hs => ?_⟩
    refine Vk.step (Vk.storeA (b := b_4) (ty := 28) (x := (.tmp 4)) (y := (.tmp 7)) (sz := 3) p_51 5 hs (by kernel_rfl) (by kernel_rfl) (by kernel_rfl) (by kernel_rfl) (by kernel_rfl) h_57 (by kernel_rfl) rfl (Eq.trans (b := 3) h_57 (Eq.symm rfl)) fun a w hs => ?_)
    refine qpe 0 [(4, pp b_4)] hs fun a hs => hK5 _ _ ?_
    clear hK5
    refine wp_ret ?_
    exact Vk.retC (P := Try.prog) (fn := Try.f59) (R := RR) p_51 hs rfl (by kernel_rfl) (sz := 3) (by kernel_rfl) h_57 (CellsAt.all 5 rfl) (by obtain rfl := Option.some.inj hm; subst hRR; exact ⟨rfl, (Own.to hs.own [2] 6 (by kernel_rfl) (by kernel_rfl))⟩)
  refine Vk.loopBy (fun k (s : Twire_Machine × Cells × Int) a w => share_Public.l1 x1 v_20 k s.1 s.2.1 s.2.2 = some r21 ∧ St 21 a w κ [(1, .func (.func 133) #[] #[pp b_2, pp b_3]), (4, pp b_8), (5, pp b_13), (9, vi v_20), (10, vi s.2.2)] (pt b_2 (blk [cp b_x0] 41) :: Twire_Machine.own b_x0 s.1 :: pt b_3 (blk [cw x1] 32) :: pt b_8 (blk [ci 0, ci 0, ci 0] 28) :: pt b_13 (blk s.2.1 28) :: pt b_4 (blk [ci 0, ci 0, ci 0] 28) :: S)) k (x0, v_12, 0) ⟨hl21, hs.go [1, 4, 5, 9, 10] [5, 0, 4, 2, 1, 3] 6 (by kernel_rfl) (by kernel_rfl) (by kernel_rfl)⟩ (fun s a w h => by obtain ⟨h1, _⟩ := h; simp [share_Public.l1] at h1) (fun k KL21 ih s a w h => ?_)
  obtain ⟨q_22, q_23, q_24⟩ := s
  obtain ⟨hm, hs⟩ := h
  try dsimp only at hm hs
  rw [share_Public.l1] at hm
  refine qsr fun K25 hK25 => ?_
  refine qpe 1 [(1, .func (.func 133) #[] #[pp b_2, pp b_3]), (4, pp b_8), (5, pp b_13), (9, vi v_20), (10, vi q_24), (11, .bool (decide (q_24 < v_20)))] hs fun a hs => hK25 _ _ ?_
  clear hK25
  refine Vk.seq fun K26 hK26 => ?_
  refine qcs (decide (q_24 < v_20)) hs (fun hb => ?_) fun hb => ?_
  · replace hm := bif_t hm hb
    refine wp_skip ?_
    refine hK26 _ _ ?_
    clear hK26
    refine Vk.seq fun K27 hK27 => ?_
    refine wp_block ?_
    refine qsr fun K28 hK28 => ?_
    refine qpe 2 [(1, .func (.func 133) #[] #[pp b_2, pp b_3]), (4, pp b_8), (5, pp b_13), (6, vi q_24), (9, vi v_20), (10, vi q_24)] hs fun a hs => hK28 _ _ ?_
    clear hK28
    refine Vk.region ?_
    refine qpu 3 hs fun a hs => ?_
    refine Vk.step (Vk.call (some 16) 133 #[vi q_24, pp b_2, pp b_3] hs (by kernel_rfl) (by kernel_rfl) (by kernel_rfl) ?_)
    refine Vk.enterI [(0, vi q_24), (1, pp b_2), (2, pp b_3)] Try.func133 rfl Try.ntmps133 (by kernel_rfl) (Nat.le_of_ble_eq_true (by kernel_rfl)) hs.own fun KR29 hKR29 hKP29 a hs => ?_
    have hj29 : ∀ (p_47 : Int) (p_48 : Twire_Machine), share_Public.j1 k (share_Public.l1 x1 v_20 k) q_23 q_24 p_47 p_48 = some r21 → ∀ (a : Act) (w : World), St 14 a w κ [(4, vi p_47)] (Twire_Machine.own b_x0 p_48 :: pt b_2 (blk [cp b_x0] 41) :: pt b_3 (blk [cw x1] 32) :: pt b_4 (blk [ci 0, ci 0, ci 0] 28) :: pt b_8 (blk [ci 0, ci 0, ci 0] 28) :: pt b_13 (blk q_23 28) :: S) → KR29 a w := by
      intro p_47 p_48 hm a w hs
      unfold share_Public.j1 at hm
      refine hKR29 _ _ ?_
      refine Vk.ret1 (P := Try.prog) (fn := Try.f133) (vi p_47) hs rfl (by kernel_rfl) ⟨_, _, _, rfl, hs.own, fun a hs => ?_⟩
      refine qpu 1 hs fun a hs => ?_
      obtain ⟨h_49, hm⟩ := ite_t hm
      refine Vk.step (Vk.value (some 18) (.pointer (some ⟨b_13, 0 + q_24.toNat * 1, none⟩)) hs (by kernel_rfl) (op := (.indexAddr 26 (.tmp 17) (.tmp 13))) (by kernel_rfl) (fun o ho => run_idxArr (k := .i64) ho (by kernel_rfl) (by kernel_rfl) (by kernel_rfl) h_49 _) fun a hs => ?_)
      obtain ⟨h_50, hm⟩ := ite_t hm
      refine Vk.step (Vk.store1 (b := b_13) (ty := 3) (x := (.tmp 18)) (y := (.tmp 16)) (off := 0 + q_24.toNat * 1) (ci p_47) 5 hs (by kernel_rfl) (by kernel_rfl) (by kernel_rfl) (by kernel_rfl) (by kernel_rfl) (by kernel_rfl) rfl h_50 fun a w hs => ?_)
      refine qpe 0 [(1, .func (.func 133) #[] #[pp b_2, pp b_3]), (4, pp b_8), (5, pp b_13), (9, vi v_20), (10, vi q_24)] hs fun a hs => hK27 _ _ ?_
      clear hK27
      refine Vk.region ?_
      refine qpe 2 [(1, .func (.func 133) #[] #[pp b_2, pp b_3]), (4, pp b_8), (5, pp b_13), (9, vi v_20), (10, vi (IntKind.i64.wrap (q_24 + 1)))] hs fun a hs => ?_
      refine ih (p_48, (q_23.set (0 + q_24.toNat * 1) (ci p_47)), (IntKind.i64.wrap (q_24 + 1))) _ _ ⟨hm, hs.go [1, 4, 5, 9, 10] [1, 0, 2, 4, 5, 3] 6 (by kernel_rfl) (by kernel_rfl) (by kernel_rfl)⟩
    refine qsr fun K30 hK30 => ?_
    refine qpe 1 [(0, vi q_24), (1, pp b_2), (2, pp b_3)] hs fun a hs => hK30 _ _ ?_
    clear hK30
    refine Vk.seq fun K31 hK31 => ?_
    refine qsr fun K32 hK32 => ?_
    refine qpe 2 [(0, vi q_24), (1, pp b_2), (2, pp b_3), (6, .bool (decide (q_24 > 0)))] hs fun a hs => hK32 _ _ ?_
    clear hK32
    refine qcs (decide (q_24 > 0)) hs (fun hb => ?_) fun hb => ?_
    · replace hm := bif_t hm hb
      refine qsr fun K33 hK33 => ?_
      refine qld 0 (cp b_x0) hs rfl fun a hs => ?_
      refine qpu 1 hs fun a hs => ?_
      refine Vk.step (Vk.call (some 9) 84 #[pp b_x0, vi q_24, vw 0] hs (by kernel_rfl) (by kernel_rfl) (by kernel_rfl) ?_)
      refine Vk.enterI [(0, pp b_x0), (1, vi q_24), (2, vw 0)] Try.func84 rfl Try.ntmps84 (by kernel_rfl) (Nat.le_of_ble_eq_true (by kernel_rfl)) hs.own fun KR34 hKR34 hKP34 a hs => ?_
      refine qsr fun K35 hK35 => ?_
      refine qpe 1 [(0, pp b_x0), (1, vi q_24), (2, vw 0)] hs fun a hs => hK35 _ _ ?_
      clear hK35
      refine qsr fun K36 hK36 => ?_
      refine qpu 4 hs fun a hs => ?_
      obtain ⟨v_39, h_38, hm⟩ := bind_t hm
      refine Vk.step (Vk.call (some 11) 147 #[pp b_x0, .agg (vals [ci 3, ci q_24, ci (-1), ci (-1), ci (-1), cw 0]), vw 0] hs (by kernel_rfl) (by kernel_rfl) (by kernel_rfl) ?_)
      refine (wire_Machine_Do.ok k q_22 (⟨3, q_24, (-1), (-1), (-1), 0⟩ : Tapi_Op) 0 v_39 h_38 κ w (pt b_2 (blk [cp b_x0] 41) :: pt b_3 (blk [cw x1] 32) :: pt b_8 (blk [ci 0, ci 0, ci 0] 28) :: pt b_13 (blk q_23 28) :: pt b_4 (blk [ci 0, ci 0, ci 0] 28) :: S) b_x0 (Own.to hs.own [1, 0, 2, 3, 4, 5] 6 (by kernel_rfl) (by kernel_rfl))).mono ?_
      rintro _ w ⟨rfl, how⟩
      refine ⟨_, _, _, rfl, how, fun a hs => ?_⟩
      refine qpe 1 [(6, vi v_39.1)] hs fun a hs => hK36 _ _ ?_
      clear hK36
      refine wp_ret ?_
      refine hKP34 _ _ ?_
      refine hKR34 _ _ ?_
      refine Vk.ret1 (P := Try.prog) (fn := Try.f84) (vi v_39.1) hs rfl (by kernel_rfl) ⟨_, _, _, rfl, hs.own, fun a hs => ?_⟩
      refine qpe 1 [(4, vi v_39.1)] hs fun a hs => hK33 _ _ ?_
      clear hK33
      refine wp_ret ?_
      refine hKP29 _ _ ?_
      exact hj29 v_39.1 v_39.2 hm _ _ (hs.go [4] [0, 1, 2, 5, 3, 4] 6 (by kernel_rfl) (by kernel_rfl) (by kernel_rfl))
    · replace hm := bif_f hm hb
      refine wp_skip ?_
      refine hK31 _ _ ?_
      clear hK31
      refine qsr fun K40 hK40 => ?_
      refine qld 0 (cp b_x0) hs rfl fun a hs => ?_
      refine qpu 1 hs fun a hs => ?_
      refine qld 2 (cw x1) hs rfl fun a hs => ?_
      refine Vk.step (Vk.call (some 13) 84 #[pp b_x0, vi q_24, vw x1] hs (by kernel_rfl) (by kernel_rfl) (by kernel_rfl) ?_)
      refine Vk.enterI [(0, pp b_x0), (1, vi q_24), (2, vw x1)] Try.func84 rfl Try.ntmps84 (by kernel_rfl) (Nat.le_of_ble_eq_true (by kernel_rfl)) hs.own fun KR41 hKR41 hKP41 a hs => ?_
      refine qsr fun K42 hK42 => ?_
      refine qpe 1 [(0, pp b_x0), (1, vi q_24), (2, vw x1)] hs fun a hs => hK42 _ _ ?_
      clear hK42
      refine qsr fun K43 hK43 => ?_
      refine qpu 4 hs fun a hs => ?_
      obtain ⟨v_46, h_45, hm⟩ := bind_t hm
      refine Vk.step (Vk.call (some 11) 147 #[pp b_x0, .agg (vals [ci 3, ci q_24, ci (-1), ci (-1), ci (-1), cw x1]), vw 0] hs (by kernel_rfl) (by kernel_rfl) (by kernel_rfl) ?_)
      refine (wire_Machine_Do.ok k q_22 (⟨3, q_24, (-1), (-1), (-1), x1⟩ : Tapi_Op) 0 v_46 h_45 κ w (pt b_2 (blk [cp b_x0] 41) :: pt b_3 (blk [cw x1] 32) :: pt b_8 (blk [ci 0, ci 0, ci 0] 28) :: pt b_13 (blk q_23 28) :: pt b_4 (blk [ci 0, ci 0, ci 0] 28) :: S) b_x0 (Own.to hs.own [1, 0, 2, 3, 4, 5] 6 (by kernel_rfl) (by kernel_rfl))).mono ?_
      rintro _ w ⟨rfl, how⟩
      refine ⟨_, _, _, rfl, how, fun a hs => ?_⟩
      refine qpe 1 [(6, vi v_46.1)] hs fun a hs => hK43 _ _ ?_
      clear hK43
      refine wp_ret ?_
      refine hKP41 _ _ ?_
      refine hKR41 _ _ ?_
      refine Vk.ret1 (P := Try.prog) (fn := Try.f84) (vi v_46.1) hs rfl (by kernel_rfl) ⟨_, _, _, rfl, hs.own, fun a hs => ?_⟩
      refine qpe 1 [(4, vi v_46.1)] hs fun a hs => hK40 _ _ ?_
      clear hK40
      refine wp_ret ?_
      refine hKP29 _ _ ?_
      exact hj29 v_46.1 v_46.2 hm _ _ (hs.go [4] [0, 1, 2, 5, 3, 4] 6 (by kernel_rfl) (by kernel_rfl) (by kernel_rfl))
  · replace hm := bif_f hm hb
    refine wp_exit ?_
    exact hx21 q_23 q_22 (Option.some.inj hm).symm _ _ (hs.go [4, 5] [3, 4, 1, 0, 2, 5] 6 (by kernel_rfl) (by kernel_rfl) (by kernel_rfl))


abbrev visorlaw20_pick.R (κ : Ctx) (S : List HP) (x0 : List Cells) (x1 : Int) (A_x0 : Option Addr) (c_x0 : Nat) (r : Int) : Ending → World → Prop := fun e w' => e = .returned (vi r) ∧ Own κ w' (S)
def visorlaw20_pick.m (k : Nat) (x0 : List Cells) (x1 : Int) : Option Int := (if ((x0.length : Nat) : Int) ≠ 0 then (bif decide ((Int.tmod x1 ((x0.length : Nat) : Int)) < 0) then some (IntKind.i64.wrap ((Int.tmod x1 ((x0.length : Nat) : Int)) + ((x0.length : Nat) : Int))) else some (Int.tmod x1 ((x0.length : Nat) : Int))) else none)

set_option maxRecDepth 100000 in
set_option maxHeartbeats 4000000 in
theorem visorlaw20_pick.ok (k : Nat) (x0 : List Cells) (x1 : Int) (r : Int) (hm : visorlaw20_pick.m k x0 x1 = some r) (κ : Ctx) (w : World) (S : List HP) (A_x0 : Option Addr) (c_x0 : Nat) (hx_x0 : Sl κ S A_x0 c_x0 3 eC x0) (ho : Own κ w (S)) :
    Calls Try.prog 98 #[.slice A_x0 x0.length c_x0, vi x1] w (visorlaw20_pick.R κ S x0 x1 A_x0 c_x0 r) := by
  unfold visorlaw20_pick.m at hm
  generalize hRR : visorlaw20_pick.R κ S x0 x1 A_x0 c_x0 r = RR
  refine qen [(0, .slice A_x0 x0.length c_x0), (1, vi x1)] Try.func98 Try.ntmps98 ho fun a hs => ?_
  refine qsr fun K1 hK1 => ?_
  refine qpe 1 [(0, .slice A_x0 x0.length c_x0), (1, vi x1)] hs fun a hs => hK1 _ _ ?_
  clear hK1
  refine qsr fun K2 hK2 => ?_
  refine qpu 3 hs fun a hs => ?_
  obtain ⟨h_3, hm⟩ := ite_t hm
  refine Vk.step (Vk.value (some 9) (vi (Int.tmod x1 ((x0.length : Nat) : Int))) hs (by kernel_rfl) (op := (.binOp .rem 3 (.tmp 6) (.tmp 8) 3)) (by kernel_rfl) (fun o ho => run_rem ho (by kernel_rfl) (by kernel_rfl) h_3 _) fun a hs => ?_)
  refine qpe 1 [(0, .slice A_x0 x0.length c_x0), (5, vi (Int.tmod x1 ((x0.length : Nat) : Int)))] hs fun a hs => hK2 _ _ ?_
  clear hK2
  refine Vk.seq fun K4 hK4 => ?_
  refine qsr fun K5 hK5 => ?_
  refine qpe 2 [(0, .slice A_x0 x0.length c_x0), (5, vi (Int.tmod x1 ((x0.length : Nat) : Int))), (11, .bool (decide ((Int.tmod x1 ((x0.length : Nat) : Int)) < 0)))] hs fun a hs => hK5 _ _ ?_
  clear hK5
  refine qcs (decide ((Int.tmod x1 ((x0.length : Nat) : Int)) < 0)) hs (fun hb => ?_) fun hb => ?_
  · replace hm := bif_t hm hb
    refine qsr fun K6 hK6 => ?_
    refine qpe 5 [(4, vi (IntKind.i64.wrap ((Int.tmod x1 ((x0.length : Nat) : Int)) + ((x0.length : Nat) : Int))))] hs fun a hs => hK6 _ _ ?_
    clear hK6
    refine wp_ret ?_
    exact Vk.ret1 (P := Try.prog) (fn := Try.f98) (R := RR) (vi (IntKind.i64.wrap ((Int.tmod x1 ((x0.length : Nat) : Int)) + ((x0.length : Nat) : Int)))) hs rfl (by kernel_rfl) (by obtain rfl := Option.some.inj hm; subst hRR; exact ⟨rfl, (Own.to hs.own [] 0 (by kernel_rfl) (by kernel_rfl))⟩)
  · replace hm := bif_f hm hb
    refine wp_skip ?_
    refine hK4 _ _ ?_
    clear hK4
    refine qsr fun K7 hK7 => ?_
    refine qpe 2 [(4, vi (Int.tmod x1 ((x0.length : Nat) : Int)))] hs fun a hs => hK7 _ _ ?_
    clear hK7
    refine wp_ret ?_
    exact Vk.ret1 (P := Try.prog) (fn := Try.f98) (R := RR) (vi (Int.tmod x1 ((x0.length : Nat) : Int))) hs rfl (by kernel_rfl) (by obtain rfl := Option.some.inj hm; subst hRR; exact ⟨rfl, (Own.to hs.own [] 0 (by kernel_rfl) (by kernel_rfl))⟩)


def share_Xor.l1 (x1 : Cells) (x2 : Cells) (v_21 : Int) : Nat → Twire_Machine → Cells → Int → Option (Cells × Twire_Machine)
  | 0, _, _, _ => none
  | k + 1, q_23, q_24, q_25 => (bif decide (q_25 < v_21) then (if 0 ≤ q_25 ∧ q_25 < 3 then (getI .i64 x1 (0 + q_25.toNat * 1)).bind fun v_36 => (if 0 ≤ q_25 ∧ q_25 < 3 then (getI .i64 x2 (0 + q_25.toNat * 1)).bind fun v_39 => (wire_Machine_Do.m k q_23 (⟨5, q_25, v_36, v_39, (-1), 0⟩ : Tapi_Op) 0).bind fun v_45 => (if 0 ≤ q_25 ∧ q_25 < 3 then (if 0 + q_25.toNat * 1 < q_24.length then share_Xor.l1 x1 x2 v_21 k v_45.2 (q_24.set (0 + q_25.toNat * 1) (ci v_45.1)) (IntKind.i64.wrap (q_25 + 1)) else none) else none) else none) else none) else some (q_24, q_23))
abbrev share_Xor.R (κ : Ctx) (S : List HP) (x0 : Twire_Machine) (x1 : Cells) (x2 : Cells) (b_x0 : Nat) (r : (Cells × Twire_Machine)) : Ending → World → Prop := fun e w' => e = .returned (.agg (vals r.1)) ∧ Own κ w' (Twire_Machine.own b_x0 r.2 :: S)
def share_Xor.m (k : Nat) (x0 : Twire_Machine) (x1 : Cells) (x2 : Cells) : Option (Cells × Twire_Machine) := (share_none.m k).bind fun v_13 => (if v_13.length = 3 then (wire_Machine_N.m k x0).bind fun v_21 => (share_Xor.l1 x1 x2 v_21 k x0 v_13 0).bind fun x => match x with | (p_48, p_49) => (if p_48.length = 3 then some (p_48, p_49) else none) else none)

set_option maxRecDepth 100000 in
set_option maxHeartbeats 4000000 in
theorem share_Xor.ok (k : Nat) (x0 : Twire_Machine) (x1 : Cells) (x2 : Cells) (r : (Cells × Twire_Machine)) (hm : share_Xor.m k x0 x1 x2 = some r) (κ : Ctx) (w : World) (S : List HP) (b_x0 : Nat) (ho : Own κ w (Twire_Machine.own b_x0 x0 :: S)) :
    Calls Try.prog 99 #[pp b_x0, .agg (vals x1), .agg (vals x2)] w (share_Xor.R κ S x0 x1 x2 b_x0 r) := by
  unfold share_Xor.m at hm
  generalize hRR : share_Xor.R κ S x0 x1 x2 b_x0 r = RR
  refine qen [(0, pp b_x0), (1, .agg (vals x1)), (2, .agg (vals x2))] Try.func99 Try.ntmps99 ho fun a hs => ?_
  refine qsr fun K1 hK1 => ?_
  refine Vk.step (Vk.box (x := (.tmp 0)) 3 41 [cp b_x0] hs (by kernel_rfl) (by kernel_rfl) (by kernel_rfl) fun b_2 w a hs => ?_)
  refine Vk.step (Vk.box (x := (.tmp 1)) 4 28 x1 hs (by kernel_rfl) (by kernel_rfl) (by kernel_rfl) fun b_3 w a hs => ?_)
  refine Vk.step (Vk.box (x := (.tmp 2)) 5 28 x2 hs (by kernel_rfl) (by kernel_rfl) (by kernel_rfl) fun b_4 w a hs => ?_)
  refine Vk.step (Vk.alloc 6 28 [ci 0, ci 0, ci 0] hs (by kernel_rfl) (by kernel_rfl) (by kernel_rfl) fun b_5 w a hs => ?_)
  refine qpe 0 [(3, pp b_2), (4, pp b_3), (5, pp b_4), (6, pp b_5)] hs fun a hs => hK1 _ _ ?_
  clear hK1
  refine qsr fun K6 hK6 => ?_
  refine qld 3 (cp b_x0) hs rfl fun a hs => ?_
  refine qpu 1 hs fun a hs => ?_
  refine Vk.step (Vk.call (some 9) 132 #[pp b_x0, .func (.func 154) #[] #[pp b_2, pp b_3, pp b_4]] hs (by kernel_rfl) (by kernel_rfl) (by kernel_rfl) ?_)
  refine Vk.enterI [(0, pp b_x0), (1, .func (.func 154) #[] #[pp b_2, pp b_3, pp b_4])] Try.func132 rfl Try.ntmps132 (by kernel_rfl) (Nat.le_of_ble_eq_true (by kernel_rfl)) hs.own fun KR7 hKR7 hKP7 a hs => ?_
  refine qsr fun K8 hK8 => ?_
  refine Vk.step (Vk.alloc 4 28 [ci 0, ci 0, ci 0] hs (by kernel_rfl) (by kernel_rfl) (by kernel_rfl) fun b_9 w a hs => ?_)
  refine qpe 0 [(0, pp b_x0), (1, .func (.func 154) #[] #[pp b_2, pp b_3, pp b_4]), (4, pp b_9)] hs fun a hs => hK8 _ _ ?_
  clear hK8
  refine qsr fun K10 hK10 => ?_
  obtain ⟨v_13, h_12, hm⟩ := bind_t hm
  refine Vk.step (Vk.call (some 7) 119 #[] hs (by kernel_rfl) (by kernel_rfl) (by kernel_rfl) ?_)
  refine (share_none.ok k v_13 h_12 κ w (pt b_9 (blk [ci 0, ci 0, ci 0] 28) :: pt b_5 (blk [ci 0, ci 0, ci 0] 28) :: pt b_4 (blk x2 28) :: pt b_3 (blk x1 28) :: pt b_2 (blk [cp b_x0] 41) :: Twire_Machine.own b_x0 x0 :: S) hs.own).mono ?_
  rintro _ w ⟨rfl, how⟩
  refine ⟨_, _, _, rfl, how, fun a hs => ?_⟩
  refine Vk.step (Vk.alloc 5 28 [ci 0, ci 0, ci 0] hs (by kernel_rfl) (by kernel_rfl) (by kernel_rfl) fun b_14 w a hs => ?_)
  obtain ⟨h_15, hm⟩ := ite_t hm
  refine Vk.step (Vk.storeA (b := b_14) (ty := 28) (x := (.tmp 5)) (y := (.tmp 7)) (sz := 3) v_13 0 hs (by kernel_rfl) (by kernel_rfl) (by kernel_rfl) (by kernel_rfl) (by kernel_rfl) h_15 (by kernel_rfl) rfl (Eq.trans (b := 3) h_15 (Eq.symm rfl)) fun a w hs => ?_)
  refine qpe 0 [(0, pp b_x0), (1, .func (.func 154) #[] #[pp b_2, pp b_3, pp b_4]), (4, pp b_9), (5, pp b_14)] hs fun a hs => hK10 _ _ ?_
  clear hK10
  refine Vk.seq fun K16 hK16 => ?_
  refine qsr fun K17 hK17 => ?_
  refine qpu 1 hs fun a hs => ?_
  obtain ⟨g_18, hs⟩ := hs.unex 6 rfl
  obtain ⟨v_21, h_20, hm⟩ := bind_t hm
  refine Vk.step (Vk.call (some 9) 89 #[pp b_x0] hs (by kernel_rfl) (by kernel_rfl) (by kernel_rfl) ?_)
  refine (wire_Machine_N.ok k x0 v_21 h_20 κ w (pt b_14 (blk v_13 28) :: pt b_9 (blk [ci 0, ci 0, ci 0] 28) :: pt b_5 (blk [ci 0, ci 0, ci 0] 28) :: pt b_4 (blk x2 28) :: pt b_3 (blk x1 28) :: pt b_2 (blk [cp b_x0] 41) :: S) b_x0 g_18 (Own.to hs.own [6, 0, 1, 2, 3, 4, 5] 7 (by kernel_rfl) (by kernel_rfl))).mono ?_
  rintro _ w ⟨rfl, how⟩
  refine ⟨_, _, _, rfl, how, fun a hs => ?_⟩
  refine qpe 1 [(1, .func (.func 154) #[] #[pp b_2, pp b_3, pp b_4]), (4, pp b_9), (5, pp b_14), (9, vi v_21), (10, vi 0)] hs fun a hs => hK17 _ _ ?_
  clear hK17
  refine wp_block ?_
  replace hs := hs.toEx (Twire_Machine.parts b_x0 x0) g_18 0 rfl
  obtain ⟨r22, hl22, hm⟩ := bind_t hm
  have hx22 : ∀ (p_48 : Cells) (p_49 : Twire_Machine), r22 = (p_48, p_49) → ∀ (a : Act) (w : World), St 21 a w κ [(4, pp b_9), (5, pp b_14)] (pt b_9 (blk [ci 0, ci 0, ci 0] 28) :: pt b_14 (blk p_48 28) :: Twire_Machine.own b_x0 p_49 :: pt b_2 (blk [cp b_x0] 41) :: pt b_3 (blk x1 28) :: pt b_4 (blk x2 28) :: pt b_5 (blk [ci 0, ci 0, ci 0] 28) :: S) → K16 a w := by
    intro p_48 p_49 he a w hs
    subst r22
    refine hK16 _ _ ?_
    clear hK16
    refine qsr fun K53 hK53 => ?_
    obtain ⟨h_54, hm⟩ := ite_t hm
    refine Vk.step (Vk.value (some 20) (.agg (vals p_48)) hs (by kernel_rfl) (op := (.load 28 (.tmp 5))) (by kernel_rfl) (fun o ho => run_loadN (cs := p_48) ho (by kernel_rfl) (by kernel_rfl) h_54 (CellsAt.all 1 rfl) _ hs.own) fun a hs => ?_)
    refine Vk.step (Vk.storeA (b := b_9) (ty := 28) (x := (.tmp 4)) (y := (.tmp 20)) (sz := 3) p_48 0 hs (by kernel_rfl) (by kernel_rfl) (by kernel_rfl) (by kernel_rfl) (by kernel_rfl) h_54 (by kernel_rfl) rfl (Eq.trans (b := 3) h_54 (Eq.symm rfl)) fun a w hs => ?_)
    refine qpe 0 [(4, pp b_9)] hs fun a hs => hK53 _ _ ?_
    clear hK53
    refine wp_ret ?_
    refine hKP7 _ _ ?_
    refine hKR7 _ _ ?_
    refine Vk.retC (P := Try.prog) (fn := Try.f132) p_48 hs rfl (by kernel_rfl) (sz := 3) (by kernel_rfl) h_54 (CellsAt.all 0 rfl) ⟨_, _, _, rfl, hs.own, fun a hs => ?_⟩
    refine Vk.step (Vk.storeA (b := b_5) (ty := 28) (x := (.tmp 6)) (y := (.tmp 9)) (sz := 3) p_48 6 hs (by kernel_rfl) (by kernel_rfl) (by kernel_rfl) (by kernel_rfl) (by kernel_rfl) h_54 (by kernel_rfl) rfl (Eq.trans (b := 3) h_54 (Eq.symm rfl)) fun a w hs => ?_)
    refine qpe 0 [(6, pp b_5)] hs fun a hs => hK6 _ _ ?_
    clear hK6
    refine wp_ret ?_
    exact Vk.retC (P := Try.prog) (fn := Try.f99) (R := RR) p_48 hs rfl (by kernel_rfl) (sz := 3) (by kernel_rfl) h_54 (CellsAt.all 6 rfl) (by obtain rfl := Option.some.inj hm; subst hRR; exact ⟨rfl, (Own.to hs.own [2] 7 (by kernel_rfl) (by kernel_rfl))⟩)
  refine Vk.loopBy (fun k (s : Twire_Machine × Cells × Int) a w => share_Xor.l1 x1 x2 v_21 k s.1 s.2.1 s.2.2 = some r22 ∧ St 21 a w κ [(1, .func (.func 154) #[] #[pp b_2, pp b_3, pp b_4]), (4, pp b_9), (5, pp b_14), (9, vi v_21), (10, vi s.2.2)] (pt b_2 (blk [cp b_x0] 41) :: Twire_Machine.own b_x0 s.1 :: pt b_3 (blk x1 28) :: pt b_4 (blk x2 28) :: pt b_9 (blk [ci 0, ci 0, ci 0] 28) :: pt b_14 (blk s.2.1 28) :: pt b_5 (blk [ci 0, ci 0, ci 0] 28) :: S)) k (x0, v_13, 0) ⟨hl22, hs.go [1, 4, 5, 9, 10] [6, 0, 5, 4, 2, 1, 3] 7 (by kernel_rfl) (by kernel_rfl) (by kernel_rfl)⟩ (fun s a w h => by obtain ⟨h1, _⟩ := h; simp [share_Xor.l1] at h1) (fun k KL22 ih s a w h => ?_)
  obtain ⟨q_23, q_24, q_25⟩ := s
  obtain ⟨hm, hs⟩ := h
  try dsimp only at hm hs
  rw [share_Xor.l1] at hm
  refine qsr fun K26 hK26 => ?_
  refine qpe 1 [(1, .func (.func 154) #[] #[pp b_2, pp b_3, pp b_4]), (4, pp b_9), (5, pp b_14), (9, vi v_21), (10, vi q_25), (11, .bool (decide (q_25 < v_21)))] hs fun a hs => hK26 _ _ ?_
  clear hK26
  refine Vk.seq fun K27 hK27 => ?_
  refine qcs (decide (q_25 < v_21)) hs (fun hb => ?_) fun hb => ?_
  · replace hm := bif_t hm hb
    refine wp_skip ?_
    refine hK27 _ _ ?_
    clear hK27
    refine Vk.seq fun K28 hK28 => ?_
    refine wp_block ?_
    refine qsr fun K29 hK29 => ?_
    refine qpe 2 [(1, .func (.func 154) #[] #[pp b_2, pp b_3, pp b_4]), (4, pp b_9), (5, pp b_14), (6, vi q_25), (9, vi v_21), (10, vi q_25)] hs fun a hs => hK29 _ _ ?_
    clear hK29
    refine Vk.region ?_
    refine qpu 3 hs fun a hs => ?_
    refine Vk.step (Vk.call (some 16) 154 #[vi q_25, pp b_2, pp b_3, pp b_4] hs (by kernel_rfl) (by kernel_rfl) (by kernel_rfl) ?_)
    refine Vk.enterI [(0, vi q_25), (1, pp b_2), (2, pp b_3), (3, pp b_4)] Try.func154 rfl Try.ntmps154 (by kernel_rfl) (Nat.le_of_ble_eq_true (by kernel_rfl)) hs.own fun KR30 hKR30 hKP30 a hs => ?_
    refine qsr fun K31 hK31 => ?_
    refine qpe 1 [(0, vi q_25), (1, pp b_2), (2, pp b_3), (3, pp b_4)] hs fun a hs => hK31 _ _ ?_
    clear hK31
    refine Vk.seq fun K32 hK32 => ?_
    obtain ⟨C_33, hC_33⟩ : ∃ X0 : List HP, X0 = (pt b_2 (blk [cp b_x0] 41) :: Twire_Machine.own b_x0 q_23 :: pt b_3 (blk x1 28) :: pt b_4 (blk x2 28) :: pt b_9 (blk [ci 0, ci 0, ci 0] 28) :: pt b_14 (blk q_24 28) :: pt b_5 (blk [ci 0, ci 0, ci 0] 28) :: S) := ⟨_, rfl⟩
    refine qdr 10 κ C_33 hs fun w hs hqC_33 => ?_
    have hcz : Own κ w (pt b_2 (blk [cp b_x0] 41) :: Twire_Machine.own b_x0 q_23 :: pt b_3 (blk x1 28) :: pt b_4 (blk x2 28) :: pt b_9 (blk [ci 0, ci 0, ci 0] 28) :: pt b_14 (blk q_24 28) :: pt b_5 (blk [ci 0, ci 0, ci 0] 28) :: S) := (Own.to hs.own [0, 1, 2, 3, 4, 5, 6] 7 (by kernel_rfl) (by kernel_rfl))
    have hcl : Own κ w C_33 := by rw [hC_33]; exact hcz
    refine qdp (fuel := 7) [1, 2, 3, 6, 7] hs hcl hqC_33 fun a hs => ?_
    refine qdl 0 0 (cp b_x0) hs hcl hqC_33 hC_33 rfl fun a hs => ?_
    obtain ⟨h_34, hm⟩ := ite_t hm
    refine Vk.dTakeT (i := 4) (some 10) (.pointer (some ⟨b_3, 0 + q_25.toNat * 1, none⟩)) hs (by kernel_rfl) hqC_33 hcl (by kernel_rfl) (by kernel_rfl) (op := (.indexAddr 26 (.tmp 9) (.tmp 8))) (by kernel_rfl) (by kernel_rfl) (fun w hw o ho => by rw [hC_33] at hw; exact run_idxArr (k := .i64) ho (by kernel_rfl) (by kernel_rfl) (by kernel_rfl) h_34 _) fun a hs => ?_
    obtain ⟨v_36, h_35, hm⟩ := bind_t hm
    refine Vk.dTakeT (i := 5) (some 11) (vi v_36) hs (by kernel_rfl) hqC_33 hcl (by kernel_rfl) (by kernel_rfl) (op := (.load 3 (.tmp 10))) (by kernel_rfl) (by kernel_rfl) (fun w hw o ho => by rw [hC_33] at hw; exact run_load1 (c := ci v_36) ho (by kernel_rfl) (by kernel_rfl) (Cell.own 2 rfl (getI_some h_35)) _ hw) fun a hs => ?_
    obtain ⟨h_37, hm⟩ := ite_t hm
    refine Vk.dTakeT (i := 8) (some 14) (.pointer (some ⟨b_4, 0 + q_25.toNat * 1, none⟩)) hs (by kernel_rfl) hqC_33 hcl (by kernel_rfl) (by kernel_rfl) (op := (.indexAddr 26 (.tmp 13) (.tmp 12))) (by kernel_rfl) (by kernel_rfl) (fun w hw o ho => by rw [hC_33] at hw; exact run_idxArr (k := .i64) ho (by kernel_rfl) (by kernel_rfl) (by kernel_rfl) h_37 _) fun a hs => ?_
    obtain ⟨v_39, h_38, hm⟩ := bind_t hm
    refine Vk.dTakeT (i := 9) (some 15) (vi v_39) hs (by kernel_rfl) hqC_33 hcl (by kernel_rfl) (by kernel_rfl) (op := (.load 3 (.tmp 14))) (by kernel_rfl) (by kernel_rfl) (fun w hw o ho => by rw [hC_33] at hw; exact run_load1 (c := ci v_39) ho (by kernel_rfl) (by kernel_rfl) (Cell.own 3 rfl (getI_some h_38)) _ hw) fun a hs => ?_
    refine Vk.dOnly (i := 10) (by kernel_rfl) (Vk.call (some 16) 150 #[pp b_x0, vi 5, vi q_25, vi v_36, vi v_39] hs (by kernel_rfl) (by kernel_rfl) (by kernel_rfl) ?_)
    refine Vk.enterI [(0, pp b_x0), (1, vi 5), (2, vi q_25), (3, vi v_36), (4, vi v_39)] Try.func150 rfl Try.ntmps150 (by kernel_rfl) (Nat.le_of_ble_eq_true (by kernel_rfl)) hs.own fun KR40 hKR40 hKP40 a hs => ?_
    refine qsr fun K41 hK41 => ?_
    refine qpe 1 [(0, pp b_x0), (1, vi 5), (2, vi q_25), (3, vi v_36), (4, vi v_39)] hs fun a hs => hK41 _ _ ?_
    clear hK41
    refine qsr fun K42 hK42 => ?_
    refine qpu 6 hs fun a hs => ?_
    obtain ⟨v_45, h_44, hm⟩ := bind_t hm
    refine Vk.step (Vk.call (some 17) 147 #[pp b_x0, .agg (vals [ci 5, ci q_25, ci v_36, ci v_39, ci (-1), cw 0]), vw 0] hs (by kernel_rfl) (by kernel_rfl) (by kernel_rfl) ?_)
    refine (wire_Machine_Do.ok k q_23 (⟨5, q_25, v_36, v_39, (-1), 0⟩ : Tapi_Op) 0 v_45 h_44 κ w (pt b_2 (blk [cp b_x0] 41) :: pt b_3 (blk x1 28) :: pt b_4 (blk x2 28) :: pt b_9 (blk [ci 0, ci 0, ci 0] 28) :: pt b_14 (blk q_24 28) :: pt b_5 (blk [ci 0, ci 0, ci 0] 28) :: S) b_x0 (Own.to hs.own [1, 0, 2, 3, 4, 5, 6] 7 (by kernel_rfl) (by kernel_rfl))).mono ?_
    rintro _ w ⟨rfl, how⟩
    refine ⟨_, _, _, rfl, how, fun a hs => ?_⟩
    refine qpe 1 [(10, vi v_45.1)] hs fun a hs => hK42 _ _ ?_
    clear hK42
    refine wp_ret ?_
    refine hKP40 _ _ ?_
    refine hKR40 _ _ ?_
    refine Vk.ret1 (P := Try.prog) (fn := Try.f150) (vi v_45.1) hs rfl (by kernel_rfl) ⟨_, _, _, rfl, hs.own, fun a hs => ?_⟩
    refine ⟨fun h => absurd h (by decide), ?_⟩
    refine Vk.dOnly (i := 11) (by kernel_rfl) (Vk.dPure1 [(5, vi v_45.1)] hs (by kernel_rfl) fun a hs => ?_)
    refine ⟨fun h => absurd h (by decide), ?_⟩
    replace hs := hs.pick [5] (L' := [(5, vi v_45.1)]) (by kernel_rfl)
    refine Vk.dDone (by kernel_rfl) ?_
    refine hK32 _ _ ?_
    clear hK32
    refine wp_ret ?_
    refine hKP30 _ _ ?_
    refine hKR30 _ _ ?_
    refine Vk.ret1 (P := Try.prog) (fn := Try.f154) (vi v_45.1) hs rfl (by kernel_rfl) ⟨_, _, _, rfl, hs.own, fun a hs => ?_⟩
    refine qpu 1 hs fun a hs => ?_
    obtain ⟨h_46, hm⟩ := ite_t hm
    refine Vk.step (Vk.value (some 18) (.pointer (some ⟨b_14, 0 + q_25.toNat * 1, none⟩)) hs (by kernel_rfl) (op := (.indexAddr 26 (.tmp 17) (.tmp 13))) (by kernel_rfl) (fun o ho => run_idxArr (k := .i64) ho (by kernel_rfl) (by kernel_rfl) (by kernel_rfl) h_46 _) fun a hs => ?_)
    obtain ⟨h_47, hm⟩ := ite_t hm
    refine Vk.step (Vk.store1 (b := b_14) (ty := 3) (x := (.tmp 18)) (y := (.tmp 16)) (off := 0 + q_25.toNat * 1) (ci v_45.1) 5 hs (by kernel_rfl) (by kernel_rfl) (by kernel_rfl) (by kernel_rfl) (by kernel_rfl) (by kernel_rfl) rfl h_47 fun a w hs => ?_)
    refine qpe 0 [(1, .func (.func 154) #[] #[pp b_2, pp b_3, pp b_4]), (4, pp b_9), (5, pp b_14), (9, vi v_21), (10, vi q_25)] hs fun a hs => hK28 _ _ ?_
    clear hK28
    refine Vk.region ?_
    refine qpe 2 [(1, .func (.func 154) #[] #[pp b_2, pp b_3, pp b_4]), (4, pp b_9), (5, pp b_14), (9, vi v_21), (10, vi (IntKind.i64.wrap (q_25 + 1)))] hs fun a hs => ?_
    refine ih (v_45.2, (q_24.set (0 + q_25.toNat * 1) (ci v_45.1)), (IntKind.i64.wrap (q_25 + 1))) _ _ ⟨hm, hs.go [1, 4, 5, 9, 10] [1, 0, 2, 3, 4, 5, 6] 7 (by kernel_rfl) (by kernel_rfl) (by kernel_rfl)⟩
  · replace hm := bif_f hm hb
    refine wp_exit ?_
    exact hx22 q_24 q_23 (Option.some.inj hm).symm _ _ (hs.go [4, 5] [4, 5, 1, 0, 2, 3, 6] 7 (by kernel_rfl) (by kernel_rfl) (by kernel_rfl))

end Go.Proofs.Ytflgefjocjpjaaa
