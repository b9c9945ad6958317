/- Of each Go function that TimesEven comes to: a model in plain Lean, and that the program's call does what the model says; no condition. -/
import Derived.Test.YtflgefjocjpjaaaProg
import Derived.Test.YtflgefjocjpjaaaVpeafiacm
import Derived.Test.YtflgefjocjpjaaaMTimesEven0
namespace Go.Proofs.Ytflgefjocjpjaaa
open Go Go.Vk
set_option linter.unusedVariables false


abbrev wire_Machine_Two.R (κ : Ctx) (S : List HP) (x0 : Twire_Machine) (x1 : Int) (x2 : Int) (x3 : Int) (x4 : Int) (b_x0 : Nat) (r : (Int × Twire_Machine)) : Ending → World → Prop := fun e w' => e = .returned (vi r.1) ∧ Own κ w' (Twire_Machine.own b_x0 r.2 :: S)
def wire_Machine_Two.m (k : Nat) (x0 : Twire_Machine) (x1 : Int) (x2 : Int) (x3 : Int) (x4 : Int) : Option (Int × Twire_Machine) := (wire_Machine_Do.m k x0 (⟨x1, x2, x3, x4, (-1), 0⟩ : Tapi_Op) 0).bind fun v_5 => some (v_5.1, v_5.2)

set_option maxRecDepth 100000 in
set_option maxHeartbeats 4000000 in
theorem wire_Machine_Two.ok (k : Nat) (x0 : Twire_Machine) (x1 : Int) (x2 : Int) (x3 : Int) (x4 : Int) (r : (Int × Twire_Machine)) (hm : wire_Machine_Two.m k x0 x1 x2 x3 x4 = some r) (κ : Ctx) (w : World) (S : List HP) (b_x0 : Nat) (ho : Own κ w (Twire_Machine.own b_x0 x0 :: S)) :
    Calls Try.prog 150 #[pp b_x0, vi x1, vi x2, vi x3, vi x4] w (wire_Machine_Two.R κ S x0 x1 x2 x3 x4 b_x0 r) := by
  unfold wire_Machine_Two.m at hm
  generalize hRR : wire_Machine_Two.R κ S x0 x1 x2 x3 x4 b_x0 r = RR
  refine qen [(0, pp b_x0), (1, vi x1), (2, vi x2), (3, vi x3), (4, vi x4)] Try.func150 Try.ntmps150 ho fun a hs => ?_
  refine qsr fun K1 hK1 => ?_
  refine qpe 1 [(0, pp b_x0), (1, vi x1), (2, vi x2), (3, vi x3), (4, vi x4)] hs fun a hs => hK1 _ _ ?_
  clear hK1
  refine qsr fun K2 hK2 => ?_
  refine qpu 6 hs fun a hs => ?_
  obtain ⟨v_5, h_4, hm⟩ := bind_t hm
  refine Vk.step (Vk.call (some 17) 147 #[pp b_x0, .agg (vals [ci x1, ci x2, ci x3, ci x4, ci (-1), cw 0]), vw 0] hs (by kernel_rfl) (by kernel_rfl) (by kernel_rfl) ?_)
  refine (wire_Machine_Do.ok k x0 (⟨x1, x2, x3, x4, (-1), 0⟩ : Tapi_Op) 0 v_5 h_4 κ w (S) b_x0 (Own.to hs.own [0] 1 (by kernel_rfl) (by kernel_rfl))).mono ?_
  rintro _ w ⟨rfl, how⟩
  refine ⟨_, _, _, rfl, how, fun a hs => ?_⟩
  refine qpe 1 [(10, vi v_5.1)] hs fun a hs => hK2 _ _ ?_
  clear hK2
  refine wp_ret ?_
  exact Vk.ret1 (P := Try.prog) (fn := Try.f150) (R := RR) (vi v_5.1) hs rfl (by kernel_rfl) (by obtain rfl := Option.some.inj hm; subst hRR; exact ⟨rfl, (Own.to hs.own [0] 1 (by kernel_rfl) (by kernel_rfl))⟩)


def wire_Machine_End.j1 (k : Nat) (x0 : Twire_Machine) (p_18 : Bool) : Option (Twire_Machine) := (bif p_18 then (wire_Machine_Len.m k x0).bind fun v_26 => (if (x0.blocks.length + ([(⟨x0.openF, x0.fromF, v_26⟩ : Tapi_Span)] : List Tapi_Span).length) * 24 ≤ 140737488355328 then some (⟨x0.n, x0.most, x0.base, x0.words, x0.draws, x0.dry, 0, x0.fromF, x0.bad, x0.tape, x0.ops, x0.values, x0.blocks ++ ([(⟨x0.openF, x0.fromF, v_26⟩ : Tapi_Span)] : List Tapi_Span)⟩ : Twire_Machine) else none) else some (⟨x0.n, x0.most, x0.base, x0.words, x0.draws, x0.dry, 0, x0.fromF, x0.bad, x0.tape, x0.ops, x0.values, x0.blocks⟩ : Twire_Machine))
abbrev wire_Machine_End.R (κ : Ctx) (S : List HP) (x0 : Twire_Machine) (b_x0 : Nat) (r : Twire_Machine) : Ending → World → Prop := fun e w' => e = .returned (.tuple #[]) ∧ Own κ w' (Twire_Machine.own b_x0 r :: S)
def wire_Machine_End.m (k : Nat) (x0 : Twire_Machine) : Option Twire_Machine := (bif x0.bad != 0 then some x0 else (bif x0.openF == 0 then (wire_Machine_fail.m k x0 1).bind fun v_11 => some v_11.2 else (wire_Machine_Len.m k x0).bind fun v_17 => (bif decide (v_17 > x0.fromF) then wire_Machine_End.j1 k x0 (!x0.dry) else wire_Machine_End.j1 k x0 false)))

set_option maxRecDepth 100000 in
set_option maxHeartbeats 4000000 in
theorem wire_Machine_End.ok (k : Nat) (x0 : Twire_Machine) (r : Twire_Machine) (hm : wire_Machine_End.m k x0 = some r) (κ : Ctx) (w : World) (S : List HP) (b_x0 : Nat) (ho : Own κ w (Twire_Machine.own b_x0 x0 :: S)) :
    Calls Try.prog 94 #[pp b_x0] w (wire_Machine_End.R κ S x0 b_x0 r) := by
  unfold wire_Machine_End.m at hm
  generalize hRR : wire_Machine_End.R κ S x0 b_x0 r = RR
  refine qen [(0, pp b_x0)] Try.func94 Try.ntmps94 ho fun a hs => ?_
  refine Vk.seq fun K1 hK1 => ?_
  refine wp_block ?_
  refine qsr fun K2 hK2 => ?_
  refine qpu 6 hs fun a hs => ?_
  obtain ⟨g_3, hs⟩ := hs.unbag 0 rfl
  refine qld 0 (ci x0.bad) hs rfl fun a hs => ?_
  refine qpe 3 [(0, pp b_x0), (2, .bool (x0.bad != 0))] hs fun a hs => hK2 _ _ ?_
  clear hK2
  refine qcs (x0.bad != 0) hs (fun hb => ?_) fun hb => ?_
  · replace hm := bif_t hm hb
    refine wp_ret ?_
    replace hs := hs.bagG (l := Twire_Machine.parts b_x0 x0 g_3) (S' := S) (Own.to hs.own [0, 1, 2, 3, 4] 5 (by kernel_rfl) (by kernel_rfl))
    replace hs := hs.toEx (Twire_Machine.parts b_x0 x0) g_3 0 rfl
    exact Vk.ret0 (P := Try.prog) (fn := Try.f94) (R := RR) hs rfl (by obtain rfl := Option.some.inj hm; subst hRR; exact ⟨rfl, (Own.to hs.own [0] 1 (by kernel_rfl) (by kernel_rfl))⟩)
  · replace hm := bif_f hm hb
    refine qsr fun K7 hK7 => ?_
    refine qpu 3 hs fun a hs => ?_
    refine qld 0 (ci x0.openF) hs rfl fun a hs => ?_
    refine qpe 2 [(0, pp b_x0), (12, .bool (x0.openF == 0))] hs fun a hs => hK7 _ _ ?_
    clear hK7
    refine qcs (x0.openF == 0) hs (fun hb => ?_) fun hb => ?_
    · replace hm := bif_t hm hb
      refine qsr fun K8 hK8 => ?_
      refine qpu 1 hs fun a hs => ?_
      replace hs := hs.bagG (l := Twire_Machine.parts b_x0 x0 g_3) (S' := S) (Own.to hs.own [0, 1, 2, 3, 4] 5 (by kernel_rfl) (by kernel_rfl))
      replace hs := hs.toEx (Twire_Machine.parts b_x0 x0) g_3 0 rfl
      obtain ⟨v_11, h_10, hm⟩ := bind_t hm
      refine Vk.step (Vk.call (some 19) 149 #[pp b_x0, vi 1] hs (by kernel_rfl) (by kernel_rfl) (by kernel_rfl) ?_)
      refine (wire_Machine_fail.ok k x0 1 v_11 h_10 κ w (S) b_x0 (Own.to hs.own [0] 1 (by kernel_rfl) (by kernel_rfl))).mono ?_
      rintro _ w ⟨rfl, how⟩
      refine ⟨_, _, _, rfl, how, fun a hs => ?_⟩
      refine qpe 0 [] hs fun a hs => hK8 _ _ ?_
      clear hK8
      refine wp_ret ?_
      exact Vk.ret0 (P := Try.prog) (fn := Try.f94) (R := RR) hs rfl (by obtain rfl := Option.some.inj hm; subst hRR; exact ⟨rfl, (Own.to hs.own [0] 1 (by kernel_rfl) (by kernel_rfl))⟩)
    · replace hm := bif_f hm hb
      refine wp_skip ?_
      refine hK1 _ _ ?_
      clear hK1
      refine Vk.seq fun K12 hK12 => ?_
      refine Vk.seq fun K13 hK13 => ?_
      have hj13 : ∀ (p_18 : Bool), wire_Machine_End.j1 k x0 p_18 = some r → ∀ (a : Act) (w : World), St 57 a w κ [(0, pp b_x0), (33, .bool p_18)] (Twire_Machine.own b_x0 x0 :: S) → K13 a w := by
        intro p_18 hm a w hs
        unfold wire_Machine_End.j1 at hm
        refine hK13 _ _ ?_
        refine qcs (p_18) hs (fun hb => ?_) fun hb => ?_
        · replace hm := bif_t hm hb
          obtain ⟨g_19, hs⟩ := hs.unbag 0 rfl
          obtain ⟨C_23, hC_23⟩ : ∃ X0 : List HP, X0 = (pt b_x0 (blk (Twire_Machine.obj x0 g_19.1 g_19.2.1 g_19.2.2.1 g_19.2.2.2.1 g_19.2.2.2.2.1 g_19.2.2.2.2.2.1 g_19.2.2.2.2.2.2) 139) :: opto x0.dry (Ttape_Tape.own g_19.1 x0.tape) :: rowp g_19.2.1 g_19.2.2.1 93 6 Tapi_Op.cells x0.ops :: rowp g_19.2.2.2.1 g_19.2.2.2.2.1 32 1 (eI .u64) x0.values :: S) := ⟨_, rfl⟩
          refine qdr 18 κ C_23 hs fun w hs hqC_23 => ?_
          have hcz : Own κ w (pt b_x0 (blk (Twire_Machine.obj x0 g_19.1 g_19.2.1 g_19.2.2.1 g_19.2.2.2.1 g_19.2.2.2.2.1 g_19.2.2.2.2.2.1 g_19.2.2.2.2.2.2) 139) :: opto x0.dry (Ttape_Tape.own g_19.1 x0.tape) :: rowp g_19.2.1 g_19.2.2.1 93 6 Tapi_Op.cells x0.ops :: rowp g_19.2.2.2.1 g_19.2.2.2.2.1 32 1 (eI .u64) x0.values :: S) := (Own.to hs.own [0, 1, 2, 3] 5 (by kernel_rfl) (by kernel_rfl))
          have hcl : Own κ w C_23 := by rw [hC_23]; exact hcz
          refine qdp (fuel := 10) [0, 1, 2, 3, 5, 6, 7, 9, 10, 11, 13] hs hcl hqC_23 fun a hs => ?_
          refine qdl 4 0 (C.slc g_19.2.2.2.2.2.1 x0.blocks.length g_19.2.2.2.2.2.2) hs hcl hqC_23 hC_23 rfl fun a hs => ?_
          refine qdl 8 0 (ci x0.openF) hs hcl hqC_23 hC_23 rfl fun a hs => ?_
          refine qdl 12 0 (ci x0.fromF) hs hcl hqC_23 hC_23 rfl fun a hs => ?_
          replace hs := hs.bagG (l := Twire_Machine.parts b_x0 x0 g_19) (S' := S) (Own.to hs.own [0, 1, 2, 3, 4] 5 (by kernel_rfl) (by kernel_rfl))
          obtain ⟨v_26, h_25, hm⟩ := bind_t hm
          refine Vk.dOnly (i := 14) (by kernel_rfl) (Vk.call (some 48) 32 #[pp b_x0] hs (by kernel_rfl) (by kernel_rfl) (by kernel_rfl) ?_)
          refine (wire_Machine_Len.ok k x0 v_26 h_25 κ w (S) b_x0 g_19 (Own.to hs.own [0] 1 (by kernel_rfl) (by kernel_rfl))).mono ?_
          rintro _ w ⟨rfl, how⟩
          refine ⟨_, _, _, rfl, how, fun a hs => ?_⟩
          replace hs := hs.unbagAt 0 rfl
          replace hcl : Own κ w C_23 := by rw [hC_23]; exact (Own.to hs.own [0, 1, 2, 3] 5 (by kernel_rfl) (by kernel_rfl))
          refine ⟨fun _ => hcl, ?_⟩
          refine qdp (fuel := 5) [15] hs hcl hqC_23 fun a hs => ?_
          refine Vk.dOnly (i := 16) (by kernel_rfl) (Vk.buildOp (sz := 3) (by_ := 24) (t := 60) (e := 175) (parts := #[(0, (.tmp 49))]) (zs := vals [ci 0, ci 0, ci 0]) ([(⟨x0.openF, x0.fromF, v_26⟩ : Tapi_Span)] : List Tapi_Span) Tapi_Span.cells (some 50) hs (by kernel_rfl) (by kernel_rfl) (by kernel_rfl) (by kernel_rfl) (by decide) rfl (fun x _ => rfl) (Nat.le_of_ble_eq_true (by kernel_rfl)) (by kernel_rfl) fun A_27 w a hs => ?_)
          replace hcl : Own κ w C_23 := by rw [hC_23]; exact (Own.to hs.own [1, 2, 3, 4] 6 (by kernel_rfl) (by kernel_rfl))
          refine ⟨fun _ => hcl, ?_⟩
          obtain ⟨h_29, hm⟩ := ite_t hm
          refine Vk.dOnly (i := 17) (by kernel_rfl) (Vk.appendOp (x := (.tmp 38)) (y := (.tmp 50)) (e := 175) (t := 60) (by_ := 24) (sz := 3) (enc := Tapi_Span.cells) (A := g_19.2.2.2.2.2.1) (cap := g_19.2.2.2.2.2.2) (xs := x0.blocks) (ys := ([(⟨x0.openF, x0.fromF, v_26⟩ : Tapi_Span)] : List Tapi_Span)) (B := A_27) (c2 := 1) 5 (some 51) hs (by kernel_rfl) (by kernel_rfl) (by kernel_rfl) (by kernel_rfl) rfl (Sl.lift (fun w ho => (Own.to (S' := rowp A_27 1 175 3 Tapi_Span.cells ([(⟨x0.openF, x0.fromF, v_26⟩ : Tapi_Span)] : List Tapi_Span) :: S) ho [0] 6 (by kernel_rfl) (by kernel_rfl))) (Own.rowSl 0 (Own.to (S' := rowp A_27 1 175 3 Tapi_Span.cells ([(⟨x0.openF, x0.fromF, v_26⟩ : Tapi_Span)] : List Tapi_Span) :: S) hs.own [0] 6 (by kernel_rfl) (by kernel_rfl)) rfl)) (by kernel_rfl) (by kernel_rfl) (by decide) (by decide) h_29 fun A_30 c_31 w a hs => ?_)
          replace hcl : Own κ w C_23 := by rw [hC_23]; exact (Own.to hs.own [1, 2, 3, 4] 6 (by kernel_rfl) (by kernel_rfl))
          refine ⟨fun _ => hcl, ?_⟩
          refine Vk.dOnly (i := 18) (by kernel_rfl) (Vk.dPure1 [(52, pp b_x0)] hs (by kernel_rfl) fun a hs => ?_)
          refine ⟨fun h => absurd h (by decide), ?_⟩
          refine Vk.dOnly (i := 19) (by kernel_rfl) (Vk.dPure1 [(53, .pointer (some ⟨b_x0, 12, none⟩))] hs (by kernel_rfl) fun a hs => ?_)
          refine ⟨fun h => absurd h (by decide), ?_⟩
          refine Vk.dOnly (i := 20) (by kernel_rfl) (Vk.store1 (b := b_x0) (ty := 60) (x := (.tmp 53)) (y := (.tmp 51)) (off := 12) (C.slc A_30 ((x0.blocks ++ ([(⟨x0.openF, x0.fromF, v_26⟩ : Tapi_Span)] : List Tapi_Span)).length) c_31) 1 hs (by kernel_rfl) (by kernel_rfl) (by kernel_rfl) (by kernel_rfl) (by kernel_rfl) (by kernel_rfl) rfl (Nat.le_of_ble_eq_true (by kernel_rfl)) fun a w hs => ?_)
          refine ⟨fun h => absurd h (by decide), ?_⟩
          replace hs := hs.pick [0] (L' := [(0, pp b_x0)]) (by kernel_rfl)
          refine Vk.dDone (by kernel_rfl) ?_
          refine hK12 _ _ ?_
          refine Vk.region ?_
          refine qpu 3 hs fun a hs => ?_
          refine Vk.step (Vk.store1 (b := b_x0) (ty := 3) (x := (.tmp 56)) (y := (.const (vi 0))) (off := 6) (ci 0) 1 hs (by kernel_rfl) (by kernel_rfl) (by kernel_rfl) (by kernel_rfl) (by kernel_rfl) (by kernel_rfl) rfl (Nat.le_of_ble_eq_true (by kernel_rfl)) fun a w hs => ?_)
          refine qpe 0 [] hs fun a hs => ?_
          replace hs := hs.bagG (l := Twire_Machine.parts b_x0 (⟨x0.n, x0.most, x0.base, x0.words, x0.draws, x0.dry, 0, x0.fromF, x0.bad, x0.tape, x0.ops, x0.values, x0.blocks ++ ([(⟨x0.openF, x0.fromF, v_26⟩ : Tapi_Span)] : List Tapi_Span)⟩ : Twire_Machine) (g_19.1, g_19.2.1, g_19.2.2.1, g_19.2.2.2.1, g_19.2.2.2.2.1, A_30, c_31)) (S' := rowp A_27 1 175 3 Tapi_Span.cells ([(⟨x0.openF, x0.fromF, v_26⟩ : Tapi_Span)] : List Tapi_Span) :: S) (Own.to hs.own [1, 2, 3, 4, 5, 0] 6 (by kernel_rfl) (by kernel_rfl))
          replace hs := hs.toEx (Twire_Machine.parts b_x0 (⟨x0.n, x0.most, x0.base, x0.words, x0.draws, x0.dry, 0, x0.fromF, x0.bad, x0.tape, x0.ops, x0.values, x0.blocks ++ ([(⟨x0.openF, x0.fromF, v_26⟩ : Tapi_Span)] : List Tapi_Span)⟩ : Twire_Machine)) (g_19.1, g_19.2.1, g_19.2.2.1, g_19.2.2.2.1, g_19.2.2.2.2.1, A_30, c_31) 0 rfl
          exact Vk.end0 (P := Try.prog) (fn := Try.f94) (R := RR) hs rfl (by obtain rfl := Option.some.inj hm; subst hRR; exact ⟨rfl, (Own.to hs.own [0] 2 (by kernel_rfl) (by kernel_rfl))⟩)
        · replace hm := bif_f hm hb
          refine wp_skip ?_
          refine hK12 _ _ ?_
          refine Vk.region ?_
          refine qpu 3 hs fun a hs => ?_
          obtain ⟨g_32, hs⟩ := hs.unbag 0 rfl
          refine Vk.step (Vk.store1 (b := b_x0) (ty := 3) (x := (.tmp 56)) (y := (.const (vi 0))) (off := 6) (ci 0) 0 hs (by kernel_rfl) (by kernel_rfl) (by kernel_rfl) (by kernel_rfl) (by kernel_rfl) (by kernel_rfl) rfl (Nat.le_of_ble_eq_true (by kernel_rfl)) fun a w hs => ?_)
          refine qpe 0 [] hs fun a hs => ?_
          replace hs := hs.bagG (l := Twire_Machine.parts b_x0 (⟨x0.n, x0.most, x0.base, x0.words, x0.draws, x0.dry, 0, x0.fromF, x0.bad, x0.tape, x0.ops, x0.values, x0.blocks⟩ : Twire_Machine) g_32) (S' := S) (Own.to hs.own [0, 1, 2, 3, 4] 5 (by kernel_rfl) (by kernel_rfl))
          replace hs := hs.toEx (Twire_Machine.parts b_x0 (⟨x0.n, x0.most, x0.base, x0.words, x0.draws, x0.dry, 0, x0.fromF, x0.bad, x0.tape, x0.ops, x0.values, x0.blocks⟩ : Twire_Machine)) g_32 0 rfl
          exact Vk.end0 (P := Try.prog) (fn := Try.f94) (R := RR) hs rfl (by obtain rfl := Option.some.inj hm; subst hRR; exact ⟨rfl, (Own.to hs.own [0] 1 (by kernel_rfl) (by kernel_rfl))⟩)
      obtain ⟨C_14, hC_14⟩ : ∃ X0 : List HP, X0 = (pt b_x0 (blk (Twire_Machine.obj x0 g_3.1 g_3.2.1 g_3.2.2.1 g_3.2.2.2.1 g_3.2.2.2.2.1 g_3.2.2.2.2.2.1 g_3.2.2.2.2.2.2) 139) :: opto x0.dry (Ttape_Tape.own g_3.1 x0.tape) :: rowp g_3.2.1 g_3.2.2.1 93 6 Tapi_Op.cells x0.ops :: rowp g_3.2.2.2.1 g_3.2.2.2.2.1 32 1 (eI .u64) x0.values :: rowp g_3.2.2.2.2.2.1 g_3.2.2.2.2.2.2 175 3 Tapi_Span.cells x0.blocks :: S) := ⟨_, rfl⟩
      refine qdr 14 κ C_14 hs fun w hs hqC_14 => ?_
      have hcz : Own κ w (pt b_x0 (blk (Twire_Machine.obj x0 g_3.1 g_3.2.1 g_3.2.2.1 g_3.2.2.2.1 g_3.2.2.2.2.1 g_3.2.2.2.2.2.1 g_3.2.2.2.2.2.2) 139) :: opto x0.dry (Ttape_Tape.own g_3.1 x0.tape) :: rowp g_3.2.1 g_3.2.2.1 93 6 Tapi_Op.cells x0.ops :: rowp g_3.2.2.2.1 g_3.2.2.2.2.1 32 1 (eI .u64) x0.values :: rowp g_3.2.2.2.2.2.1 g_3.2.2.2.2.2.2 175 3 Tapi_Span.cells x0.blocks :: S) := (Own.to hs.own [0, 1, 2, 3, 4] 5 (by kernel_rfl) (by kernel_rfl))
      have hcl : Own κ w C_14 := by rw [hC_14]; exact hcz
      refine qdp (fuel := 10) [0, 2, 3, 4] hs hcl hqC_14 fun a hs => ?_
      refine qdl 5 0 (ci x0.fromF) hs hcl hqC_14 hC_14 rfl fun a hs => ?_
      replace hs := hs.bagG (l := Twire_Machine.parts b_x0 x0 g_3) (S' := S) (Own.to hs.own [0, 1, 2, 3, 4] 5 (by kernel_rfl) (by kernel_rfl))
      obtain ⟨v_17, h_16, hm⟩ := bind_t hm
      refine Vk.dOnly (i := 1) (by kernel_rfl) (Vk.call (some 21) 32 #[pp b_x0] hs (by kernel_rfl) (by kernel_rfl) (by kernel_rfl) ?_)
      refine (wire_Machine_Len.ok k x0 v_17 h_16 κ w (S) b_x0 g_3 (Own.to hs.own [0] 1 (by kernel_rfl) (by kernel_rfl))).mono ?_
      rintro _ w ⟨rfl, how⟩
      refine ⟨_, _, _, rfl, how, fun a hs => ?_⟩
      replace hs := hs.unbagAt 0 rfl
      replace hcl : Own κ w C_14 := by rw [hC_14]; exact (Own.to hs.own [0, 1, 2, 3, 4] 5 (by kernel_rfl) (by kernel_rfl))
      refine ⟨fun _ => hcl, ?_⟩
      refine qdp (fuel := 6) [6, 7] hs hcl hqC_14 fun a hs => ?_
      rcases Bool.eq_false_or_eq_true (decide (v_17 > x0.fromF)) with hb | hb
      · replace hm := bif_t hm hb
        replace hs := hs.known (t := 27) hb (by kernel_rfl)
        refine qdp (fuel := 3) [8, 9, 10] hs hcl hqC_14 fun a hs => ?_
        refine qdl 11 0 (C.bool x0.dry) hs hcl hqC_14 hC_14 rfl fun a hs => ?_
        refine qdp (fuel := 0) [12, 13] hs hcl hqC_14 fun a hs => ?_
        replace hs := hs.pick [0, 33] (L' := [(0, pp b_x0), (33, .bool (!x0.dry))]) (by kernel_rfl)
        refine Vk.dDone (by kernel_rfl) ?_
        replace hs := hs.bagG (l := Twire_Machine.parts b_x0 x0 g_3) (S' := S) (Own.to hs.own [0, 1, 2, 3, 4] 5 (by kernel_rfl) (by kernel_rfl))
        replace hs := hs.toEx (Twire_Machine.parts b_x0 x0) g_3 0 rfl
        exact hj13 (!x0.dry) hm _ _ (hs.go [0, 33] [0] 1 (by kernel_rfl) (by kernel_rfl) (by kernel_rfl))
      · replace hm := bif_f hm hb
        replace hs := hs.known (t := 27) hb (by kernel_rfl)
        refine qdp (fuel := 0) [8, 9, 10, 11, 12, 13] hs hcl hqC_14 fun a hs => ?_
        replace hs := hs.pick [0, 33] (L' := [(0, pp b_x0), (33, .bool false)]) (by kernel_rfl)
        refine Vk.dDone (by kernel_rfl) ?_
        replace hs := hs.bagG (l := Twire_Machine.parts b_x0 x0 g_3) (S' := S) (Own.to hs.own [0, 1, 2, 3, 4] 5 (by kernel_rfl) (by kernel_rfl))
        replace hs := hs.toEx (Twire_Machine.parts b_x0 x0) g_3 0 rfl
        exact hj13 false hm _ _ (hs.go [0, 33] [0] 1 (by kernel_rfl) (by kernel_rfl) (by kernel_rfl))


abbrev times_Dom.R (κ : Ctx) (S : List HP) (x0 : Twire_Machine) (x1 : Cells) (x2 : Cells) (b_x0 : Nat) (r : (Cells × Twire_Machine)) : Ending → World → Prop := fun e w' => e = .returned (.agg (vals r.1)) ∧ Own κ w' (Twire_Machine.own b_x0 r.2 :: S)
def times_Dom.m (k : Nat) (x0 : Twire_Machine) (x1 : Cells) (x2 : Cells) : Option (Cells × Twire_Machine) := (wire_Machine_N.m k x0).bind fun v_10 => (bif v_10 == 2 then (wire_Machine_Begin.m k x0 3).bind fun v_14 => (if x1.length = 3 then (if x2.length = 3 then (wire_Machine_N.m k v_14).bind fun v_29 => (bif v_29 == 2 then (wire_Machine_Rand.m k v_14 (-1)).bind fun v_45 => (getI .i64 x1 (0)).bind fun v_76 => (getI .i64 x2 (0)).bind fun v_78 => (wire_Machine_Two.m k v_45.2 7 0 v_76 v_78).bind fun v_81 => (getI .i64 x1 (0)).bind fun v_89 => (getI .i64 x2 (1)).bind fun v_91 => (wire_Machine_Two.m k v_81.2 7 0 v_89 v_91).bind fun v_94 => (getI .i64 x1 (1)).bind fun v_111 => (getI .i64 x2 (0)).bind fun v_113 => (wire_Machine_Two.m k v_94.2 7 1 v_111 v_113).bind fun v_116 => (getI .i64 x1 (1)).bind fun v_124 => (getI .i64 x2 (1)).bind fun v_126 => (wire_Machine_Two.m k v_116.2 7 1 v_124 v_126).bind fun v_129 => (wire_Machine_N.m k v_129.2).bind fun v_147 => (bif v_147 == 2 then (wire_Machine_Two.m k v_129.2 5 0 v_94.1 v_45.1).bind fun v_179 => (wire_Machine_Two.m k v_179.2 5 0 v_81.1 v_179.1).bind fun v_182 => (wire_Machine_Two.m k v_182.2 5 1 v_116.1 v_45.1).bind fun v_209 => (wire_Machine_Two.m k v_209.2 5 1 v_129.1 v_209.1).bind fun v_212 => (wire_Machine_End.m k v_212.2).bind fun v_230 => some ([ci v_182.1, ci v_212.1, ci (-1)], v_230) else none) else none) else none) else none) else (bif v_10 == 3 then (wire_Machine_Begin.m k x0 3).bind fun v_235 => (if x1.length = 3 then (if x2.length = 3 then (wire_Machine_N.m k v_235).bind fun v_250 => (bif v_250 == 3 then (wire_Machine_Rand.m k v_235 (-1)).bind fun v_266 => (wire_Machine_Rand.m k v_266.2 (-1)).bind fun v_274 => (wire_Machine_Rand.m k v_274.2 (-1)).bind fun v_291 => (getI .i64 x1 (0)).bind fun v_322 => (getI .i64 x2 (0)).bind fun v_324 => (wire_Machine_Two.m k v_291.2 7 0 v_322 v_324).bind fun v_327 => (getI .i64 x1 (0)).bind fun v_335 => (getI .i64 x2 (1)).bind fun v_337 => (wire_Machine_Two.m k v_327.2 7 0 v_335 v_337).bind fun v_340 => (getI .i64 x1 (0)).bind fun v_348 => (getI .i64 x2 (2)).bind fun v_350 => (wire_Machine_Two.m k v_340.2 7 0 v_348 v_350).bind fun v_353 => (getI .i64 x1 (1)).bind fun v_370 => (getI .i64 x2 (0)).bind fun v_372 => (wire_Machine_Two.m k v_353.2 7 1 v_370 v_372).bind fun v_375 => (getI .i64 x1 (1)).bind fun v_383 => (getI .i64 x2 (1)).bind fun v_385 => (wire_Machine_Two.m k v_375.2 7 1 v_383 v_385).bind fun v_388 => (getI .i64 x1 (1)).bind fun v_396 => (getI .i64 x2 (2)).bind fun v_398 => (wire_Machine_Two.m k v_388.2 7 1 v_396 v_398).bind fun v_401 => (getI .i64 x1 (2)).bind fun v_418 => (getI .i64 x2 (0)).bind fun v_420 => (wire_Machine_Two.m k v_401.2 7 2 v_418 v_420).bind fun v_423 => (getI .i64 x1 (2)).bind fun v_431 => (getI .i64 x2 (1)).bind fun v_433 => (wire_Machine_Two.m k v_423.2 7 2 v_431 v_433).bind fun v_436 => (getI .i64 x1 (2)).bind fun v_444 => (getI .i64 x2 (2)).bind fun v_446 => (wire_Machine_Two.m k v_436.2 7 2 v_444 v_446).bind fun v_449 => (wire_Machine_N.m k v_449.2).bind fun v_467 => (bif v_467 == 3 then (wire_Machine_Two.m k v_449.2 5 0 v_340.1 v_266.1).bind fun v_499 => (wire_Machine_Two.m k v_499.2 5 0 v_327.1 v_499.1).bind fun v_502 => (wire_Machine_Two.m k v_502.2 5 0 v_353.1 v_274.1).bind fun v_519 => (wire_Machine_Two.m k v_519.2 5 0 v_502.1 v_519.1).bind fun v_522 => (wire_Machine_Two.m k v_522.2 5 1 v_375.1 v_266.1).bind fun v_549 => (wire_Machine_Two.m k v_549.2 5 1 v_388.1 v_549.1).bind fun v_552 => (wire_Machine_Two.m k v_552.2 5 1 v_401.1 v_291.1).bind fun v_575 => (wire_Machine_Two.m k v_575.2 5 1 v_552.1 v_575.1).bind fun v_578 => (wire_Machine_Two.m k v_578.2 5 2 v_423.1 v_274.1).bind fun v_605 => (wire_Machine_Two.m k v_605.2 5 2 v_449.1 v_605.1).bind fun v_608 => (wire_Machine_Two.m k v_608.2 5 2 v_436.1 v_291.1).bind fun v_625 => (wire_Machine_Two.m k v_625.2 5 2 v_608.1 v_625.1).bind fun v_628 => (wire_Machine_End.m k v_628.2).bind fun v_646 => some ([ci v_522.1, ci v_578.1, ci v_628.1], v_646) else none) else none) else none) else none) else none))

set_option maxRecDepth 100000 in
set_option maxHeartbeats 4000000 in
theorem times_Dom.ok (k : Nat) (x0 : Twire_Machine) (x1 : Cells) (x2 : Cells) (r : (Cells × Twire_Machine)) (hm : times_Dom.m k x0 x1 x2 = some r) (κ : Ctx) (w : World) (S : List HP) (b_x0 : Nat) (ho : Own κ w (Twire_Machine.own b_x0 x0 :: S)) :
    Calls Try.prog 20 #[pp b_x0, .agg (vals x1), .agg (vals x2)] w (times_Dom.R κ S x0 x1 x2 b_x0 r) := by
  unfold times_Dom.m at hm
  generalize hRR : times_Dom.R κ S x0 x1 x2 b_x0 r = RR
  refine qen [(0, pp b_x0), (1, .agg (vals x1)), (2, .agg (vals x2))] Try.func20 Try.ntmps20 ho fun a hs => ?_
  refine qsr fun K1 hK1 => ?_
  refine Vk.step (Vk.box (x := (.tmp 1)) 4 28 x1 hs (by kernel_rfl) (by kernel_rfl) (by kernel_rfl) fun b_2 w a hs => ?_)
  refine Vk.step (Vk.box (x := (.tmp 2)) 5 28 x2 hs (by kernel_rfl) (by kernel_rfl) (by kernel_rfl) fun b_3 w a hs => ?_)
  refine Vk.step (Vk.alloc 6 28 [ci 0, ci 0, ci 0] hs (by kernel_rfl) (by kernel_rfl) (by kernel_rfl) fun b_4 w a hs => ?_)
  refine qpe 0 [(0, pp b_x0), (4, pp b_2), (5, pp b_3), (6, pp b_4)] hs fun a hs => hK1 _ _ ?_
  clear hK1
  refine Vk.seq fun K5 hK5 => ?_
  refine qsr fun K6 hK6 => ?_
  refine qpu 1 hs fun a hs => ?_
  obtain ⟨g_7, hs⟩ := hs.unex 3 rfl
  obtain ⟨v_10, h_9, hm⟩ := bind_t hm
  refine Vk.step (Vk.call (some 10) 89 #[pp b_x0] hs (by kernel_rfl) (by kernel_rfl) (by kernel_rfl) ?_)
  refine (wire_Machine_N.ok k x0 v_10 h_9 κ w (pt b_4 (blk [ci 0, ci 0, ci 0] 28) :: pt b_3 (blk x2 28) :: pt b_2 (blk x1 28) :: S) b_x0 g_7 (Own.to hs.own [3, 0, 1, 2] 4 (by kernel_rfl) (by kernel_rfl))).mono ?_
  rintro _ w ⟨rfl, how⟩
  refine ⟨_, _, _, rfl, how, fun a hs => ?_⟩
  rcases Bool.eq_false_or_eq_true (v_10 == 2) with hb | hb
  · replace hm := bif_t hm hb
    obtain rfl := Vk.of_beq hb
    refine qpe 1 [(0, pp b_x0), (4, pp b_2), (5, pp b_3), (6, pp b_4), (11, .bool false)] hs fun a hs => hK6 _ _ ?_
    refine qcf hs ?_
    refine wp_skip ?_
    refine hK5 _ _ ?_
    refine qsr fun K11 hK11 => ?_
    refine qpu 1 hs fun a hs => ?_
    replace hs := hs.toEx (Twire_Machine.parts b_x0 x0) g_7 0 rfl
    obtain ⟨v_14, h_13, hm⟩ := bind_t hm
    refine Vk.step (Vk.call (some 15) 90 #[pp b_x0, vi 3] hs (by kernel_rfl) (by kernel_rfl) (by kernel_rfl) ?_)
    refine (wire_Machine_Begin.ok k x0 3 v_14 h_13 κ w (pt b_4 (blk [ci 0, ci 0, ci 0] 28) :: pt b_3 (blk x2 28) :: pt b_2 (blk x1 28) :: S) b_x0 (Own.to hs.own [0, 1, 2, 3] 4 (by kernel_rfl) (by kernel_rfl))).mono ?_
    rintro _ w ⟨rfl, how⟩
    refine ⟨_, _, _, rfl, how, fun a hs => ?_⟩
    refine qpe 0 [(0, pp b_x0), (4, pp b_2), (5, pp b_3), (6, pp b_4)] hs fun a hs => hK11 _ _ ?_
    clear hK11
    refine qsr fun K15 hK15 => ?_
    refine qpu 1 hs fun a hs => ?_
    obtain ⟨h_16, hm⟩ := ite_t hm
    refine Vk.step (Vk.value (some 17) (.agg (vals x1)) hs (by kernel_rfl) (op := (.load 28 (.tmp 4))) (by kernel_rfl) (fun o ho => run_loadN (cs := x1) ho (by kernel_rfl) (by kernel_rfl) h_16 (CellsAt.all 3 rfl) _ hs.own) fun a hs => ?_)
    obtain ⟨h_17, hm⟩ := ite_t hm
    refine Vk.step (Vk.value (some 18) (.agg (vals x2)) hs (by kernel_rfl) (op := (.load 28 (.tmp 5))) (by kernel_rfl) (fun o ho => run_loadN (cs := x2) ho (by kernel_rfl) (by kernel_rfl) h_17 (CellsAt.all 2 rfl) _ hs.own) fun a hs => ?_)
    refine Vk.step (Vk.call (some 19) 91 #[pp b_x0, .agg (vals x1), .agg (vals x2)] hs (by kernel_rfl) (by kernel_rfl) (by kernel_rfl) ?_)
    refine Vk.enterI [(0, pp b_x0), (1, .agg (vals x1)), (2, .agg (vals x2))] Try.func91 rfl Try.ntmps91 (by kernel_rfl) (Nat.le_of_ble_eq_true (by kernel_rfl)) hs.own fun KR18 hKR18 hKP18 a hs => ?_
    refine qsr fun K19 hK19 => ?_
    refine Vk.step (Vk.box (x := (.tmp 1)) 4 28 x1 hs (by kernel_rfl) (by kernel_rfl) (by kernel_rfl) fun b_20 w a hs => ?_)
    refine Vk.step (Vk.box (x := (.tmp 2)) 5 28 x2 hs (by kernel_rfl) (by kernel_rfl) (by kernel_rfl) fun b_21 w a hs => ?_)
    refine qpe 1 [(0, pp b_x0), (4, pp b_20), (5, pp b_21)] hs fun a hs => hK19 _ _ ?_
    clear hK19
    refine qsr fun K22 hK22 => ?_
    refine qpu 1 hs fun a hs => ?_
    refine Vk.step (Vk.mapOp 14 186 hs (by kernel_rfl) (by kernel_rfl) fun b_23 w a hs => ?_)
    refine qpu 1 hs fun a hs => ?_
    refine Vk.step (Vk.box (x := (.tmp 15)) 16 188 [cp b_x0, C.map (some b_23), ci 0, ci 0, ci 0, ci 0, ci 0, ci 0, ci 0, ci 0, ci 0] hs (by kernel_rfl) (by kernel_rfl) (by kernel_rfl) fun b_24 w a hs => ?_)
    refine qpe 1 [(0, pp b_x0), (4, pp b_20), (5, pp b_21), (7, pp b_24)] hs fun a hs => hK22 _ _ ?_
    clear hK22
    refine qsr fun K25 hK25 => ?_
    refine qpu 1 hs fun a hs => ?_
    obtain ⟨g_26, hs⟩ := hs.unex 4 rfl
    obtain ⟨v_29, h_28, hm⟩ := bind_t hm
    refine Vk.step (Vk.call (some 18) 89 #[pp b_x0] hs (by kernel_rfl) (by kernel_rfl) (by kernel_rfl) ?_)
    refine (wire_Machine_N.ok k v_14 v_29 h_28 κ w (pt b_24 (blk [cp b_x0, C.map (some b_23), ci 0, ci 0, ci 0, ci 0, ci 0, ci 0, ci 0, ci 0, ci 0] 188) :: pt b_23 (.map #[] 0) :: pt b_21 (blk x2 28) :: pt b_20 (blk x1 28) :: pt b_4 (blk [ci 0, ci 0, ci 0] 28) :: pt b_3 (blk x2 28) :: pt b_2 (blk x1 28) :: S) b_x0 g_26 (Own.to hs.own [4, 0, 1, 2, 3, 5, 6, 7] 8 (by kernel_rfl) (by kernel_rfl))).mono ?_
    rintro _ w ⟨rfl, how⟩
    refine ⟨_, _, _, rfl, how, fun a hs => ?_⟩
    rcases Bool.eq_false_or_eq_true (v_29 == 2) with hb | hb
    · replace hm := bif_t hm hb
      obtain rfl := Vk.of_beq hb
      refine qpe 1 [(0, pp b_x0), (4, pp b_20), (5, pp b_21), (7, pp b_24), (8, vi 2)] hs fun a hs => hK25 _ _ ?_
      clear hK25
      refine Vk.seq fun K30 hK30 => ?_
      refine qsr fun K31 hK31 => ?_
      refine qpe 2 [(0, pp b_x0), (4, pp b_20), (5, pp b_21), (7, pp b_24), (8, vi 2), (19, vi 2), (20, vi 0)] hs fun a hs => hK31 _ _ ?_
      clear hK31
      refine wp_block ?_
      refine Vk.unroll0 40 ?_
      refine Vk.unroll fun KL32 hKL32 => ?_
      refine qsr fun K33 hK33 => ?_
      refine qpe 1 [(0, pp b_x0), (4, pp b_20), (5, pp b_21), (7, pp b_24), (8, vi 2), (19, vi 2), (20, vi 0), (21, .bool true)] hs fun a hs => hK33 _ _ ?_
      clear hK33
      refine Vk.seq fun K34 hK34 => ?_
      refine qct hs ?_
      refine wp_skip ?_
      refine hK34 _ _ ?_
      clear hK34
      refine Vk.seq fun K35 hK35 => ?_
      refine wp_block ?_
      refine qsr fun K36 hK36 => ?_
      refine qpe 2 [(0, pp b_x0), (4, pp b_20), (5, pp b_21), (7, pp b_24), (8, vi 2), (9, vi 0), (19, vi 2), (20, vi 0)] hs fun a hs => hK36 _ _ ?_
      clear hK36
      refine qsr fun K37 hK37 => ?_
      refine qpe 3 [(0, pp b_x0), (4, pp b_20), (5, pp b_21), (7, pp b_24), (8, vi 2), (9, vi 0), (10, vi 1), (19, vi 2), (20, vi 0)] hs fun a hs => hK37 _ _ ?_
      clear hK37
      refine wp_block ?_
      refine Vk.unroll0 40 ?_
      refine Vk.unroll fun KL38 hKL38 => ?_
      refine Vk.seq fun K39 hK39 => ?_
      refine qsr fun K40 hK40 => ?_
      refine qpe 3 [(0, pp b_x0), (4, pp b_20), (5, pp b_21), (7, pp b_24), (8, vi 2), (9, vi 0), (10, vi 1), (19, vi 2), (20, vi 0), (27, .bool true)] hs fun a hs => hK40 _ _ ?_
      clear hK40
      refine qct hs ?_
      refine wp_skip ?_
      refine hK39 _ _ ?_
      clear hK39
      refine Vk.seq fun K41 hK41 => ?_
      refine wp_block ?_
      obtain ⟨C_42, hC_42⟩ : ∃ X0 : List HP, X0 = (pt b_24 (blk [cp b_x0, C.map (some b_23), ci 0, ci 0, ci 0, ci 0, ci 0, ci 0, ci 0, ci 0, ci 0] 188) :: pt b_23 (.map #[] 0) :: pt b_21 (blk x2 28) :: pt b_20 (blk x1 28) :: pt b_4 (blk [ci 0, ci 0, ci 0] 28) :: pt b_3 (blk x2 28) :: pt b_2 (blk x1 28) :: S) := ⟨_, rfl⟩
      refine qdr 9 κ C_42 hs fun w hs hqC_42 => ?_
      have hcz : Own κ w (pt b_24 (blk [cp b_x0, C.map (some b_23), ci 0, ci 0, ci 0, ci 0, ci 0, ci 0, ci 0, ci 0, ci 0] 188) :: pt b_23 (.map #[] 0) :: pt b_21 (blk x2 28) :: pt b_20 (blk x1 28) :: pt b_4 (blk [ci 0, ci 0, ci 0] 28) :: pt b_3 (blk x2 28) :: pt b_2 (blk x1 28) :: S) := (Own.to hs.own [1, 2, 3, 4, 5, 6, 7] 8 (by kernel_rfl) (by kernel_rfl))
      have hcl : Own κ w C_42 := by rw [hC_42]; exact hcz
      refine qdp (fuel := 3) [0, 1, 2, 4, 5, 6, 7] hs hcl hqC_42 fun a hs => ?_
      refine qdl 3 0 (C.map (some b_23)) hs hcl hqC_42 hC_42 rfl fun a hs => ?_
      replace hs := hs.toEx (Twire_Machine.parts b_x0 v_14) g_26 0 rfl
      obtain ⟨v_45, h_44, hm⟩ := bind_t hm
      refine Vk.dOnly (i := 8) (by kernel_rfl) (Vk.call (some 38) 120 #[pp b_x0, vi (-1)] hs (by kernel_rfl) (by kernel_rfl) (by kernel_rfl) ?_)
      refine (wire_Machine_Rand.ok k v_14 (-1) v_45 h_44 κ w (pt b_24 (blk [cp b_x0, C.map (some b_23), ci 0, ci 0, ci 0, ci 0, ci 0, ci 0, ci 0, ci 0, ci 0] 188) :: pt b_23 (.map #[] 0) :: pt b_21 (blk x2 28) :: pt b_20 (blk x1 28) :: pt b_4 (blk [ci 0, ci 0, ci 0] 28) :: pt b_3 (blk x2 28) :: pt b_2 (blk x1 28) :: S) b_x0 (Own.to hs.own [0, 1, 2, 3, 4, 5, 6, 7] 8 (by kernel_rfl) (by kernel_rfl))).mono ?_
      rintro _ w ⟨rfl, how⟩
      refine ⟨_, _, _, rfl, how, fun a hs => ?_⟩
      replace hcl : Own κ w C_42 := by rw [hC_42]; exact (Own.to hs.own [1, 2, 3, 4, 5, 6, 7] 8 (by kernel_rfl) (by kernel_rfl))
      refine ⟨fun _ => hcl, ?_⟩
      refine Vk.dOnly (i := 9) (by kernel_rfl) (Vk.updateOp (t := 186) (xm := (.tmp 33)) (xk := (.tmp 36)) (xv := (.tmp 38)) (b := b_23) (es' := #[⟨.agg (vals [ci 0, ci 1]), vi v_45.1, 0⟩]) (clock' := 1) (.agg (vals [ci 0, ci 1])) (vi v_45.1) 2 hs (by kernel_rfl) (by kernel_rfl) (by kernel_rfl) (by kernel_rfl) (by kernel_rfl) rfl (by kernel_rfl) fun a w hs => ?_)
      refine ⟨fun h => absurd h (by decide), ?_⟩
      replace hs := hs.pick [0, 4, 5, 7, 8, 9, 10, 19, 20] (L' := [(0, pp b_x0), (4, pp b_20), (5, pp b_21), (7, pp b_24), (8, vi 2), (9, vi 0), (10, vi 1), (19, vi 2), (20, vi 0)]) (by kernel_rfl)
      refine Vk.dDone (by kernel_rfl) ?_
      refine hK41 _ _ ?_
      clear hK41
      refine Vk.region ?_
      refine qpe 3 [(0, pp b_x0), (4, pp b_20), (5, pp b_21), (7, pp b_24), (8, vi 2), (9, vi 0), (10, vi 2), (19, vi 2), (20, vi 0)] hs fun a hs => hKL38 _ _ ?_
      clear hKL38
      refine Vk.unroll fun KL46 hKL46 => ?_
      refine Vk.seq fun K47 hK47 => ?_
      refine qsr fun K48 hK48 => ?_
      refine qpe 3 [(0, pp b_x0), (4, pp b_20), (5, pp b_21), (7, pp b_24), (8, vi 2), (9, vi 0), (10, vi 2), (19, vi 2), (20, vi 0), (27, .bool false)] hs fun a hs => hK48 _ _ ?_
      clear hK48
      refine qcf hs ?_
      refine wp_exit ?_
      refine hK35 _ _ ?_
      clear hK35
      refine Vk.region ?_
      refine qpe 2 [(0, pp b_x0), (4, pp b_20), (5, pp b_21), (7, pp b_24), (8, vi 2), (19, vi 2), (20, vi 1)] hs fun a hs => hKL32 _ _ ?_
      clear hKL32
      refine Vk.unroll fun KL49 hKL49 => ?_
      refine qsr fun K50 hK50 => ?_
      refine qpe 1 [(0, pp b_x0), (4, pp b_20), (5, pp b_21), (7, pp b_24), (8, vi 2), (19, vi 2), (20, vi 1), (21, .bool true)] hs fun a hs => hK50 _ _ ?_
      clear hK50
      refine Vk.seq fun K51 hK51 => ?_
      refine qct hs ?_
      refine wp_skip ?_
      refine hK51 _ _ ?_
      clear hK51
      refine Vk.seq fun K52 hK52 => ?_
      refine wp_block ?_
      refine qsr fun K53 hK53 => ?_
      refine qpe 2 [(0, pp b_x0), (4, pp b_20), (5, pp b_21), (7, pp b_24), (8, vi 2), (9, vi 1), (19, vi 2), (20, vi 1)] hs fun a hs => hK53 _ _ ?_
      clear hK53
      refine qsr fun K54 hK54 => ?_
      refine qpe 3 [(0, pp b_x0), (4, pp b_20), (5, pp b_21), (7, pp b_24), (8, vi 2), (9, vi 1), (10, vi 2), (19, vi 2), (20, vi 1)] hs fun a hs => hK54 _ _ ?_
      clear hK54
      refine wp_block ?_
      refine Vk.unroll0 40 ?_
      refine Vk.unroll fun KL55 hKL55 => ?_
      refine Vk.seq fun K56 hK56 => ?_
      refine qsr fun K57 hK57 => ?_
      refine qpe 3 [(0, pp b_x0), (4, pp b_20), (5, pp b_21), (7, pp b_24), (8, vi 2), (9, vi 1), (10, vi 2), (19, vi 2), (20, vi 1), (27, .bool false)] hs fun a hs => hK57 _ _ ?_
      clear hK57
      refine qcf hs ?_
      refine wp_exit ?_
      refine hK52 _ _ ?_
      clear hK52
      refine Vk.region ?_
      refine qpe 2 [(0, pp b_x0), (4, pp b_20), (5, pp b_21), (7, pp b_24), (8, vi 2), (19, vi 2), (20, vi 2)] hs fun a hs => hKL49 _ _ ?_
      clear hKL49
      refine Vk.unroll fun KL58 hKL58 => ?_
      refine qsr fun K59 hK59 => ?_
      refine qpe 1 [(0, pp b_x0), (4, pp b_20), (5, pp b_21), (7, pp b_24), (8, vi 2), (19, vi 2), (20, vi 2), (21, .bool false)] hs fun a hs => hK59 _ _ ?_
      clear hK59
      refine Vk.seq fun K60 hK60 => ?_
      refine qcf hs ?_
      refine wp_exit ?_
      refine hK30 _ _ ?_
      clear hK30
      refine Vk.seq fun K61 hK61 => ?_
      refine qsr fun K62 hK62 => ?_
      refine qpe 2 [(0, pp b_x0), (4, pp b_20), (5, pp b_21), (7, pp b_24), (8, vi 2), (40, vi 2), (41, vi 0)] hs fun a hs => hK62 _ _ ?_
      clear hK62
      refine wp_block ?_
      refine Vk.unroll0 40 ?_
      refine Vk.unroll fun KL63 hKL63 => ?_
      refine qsr fun K64 hK64 => ?_
      refine qpe 1 [(0, pp b_x0), (4, pp b_20), (5, pp b_21), (7, pp b_24), (8, vi 2), (40, vi 2), (41, vi 0), (42, .bool true)] hs fun a hs => hK64 _ _ ?_
      clear hK64
      refine Vk.seq fun K65 hK65 => ?_
      refine qct hs ?_
      refine wp_skip ?_
      refine hK65 _ _ ?_
      clear hK65
      refine Vk.seq fun K66 hK66 => ?_
      refine wp_block ?_
      refine qsr fun K67 hK67 => ?_
      refine qpe 2 [(0, pp b_x0), (4, pp b_20), (5, pp b_21), (7, pp b_24), (8, vi 2), (11, vi 0), (40, vi 2), (41, vi 0)] hs fun a hs => hK67 _ _ ?_
      clear hK67
      refine qsr fun K68 hK68 => ?_
      refine qpe 2 [(0, pp b_x0), (4, pp b_20), (5, pp b_21), (7, pp b_24), (8, vi 2), (11, vi 0), (40, vi 2), (41, vi 0), (44, vi 2), (45, vi 0)] hs fun a hs => hK68 _ _ ?_
      clear hK68
      refine wp_block ?_
      refine Vk.unroll0 40 ?_
      refine Vk.unroll fun KL69 hKL69 => ?_
      refine qsr fun K70 hK70 => ?_
      refine qpe 1 [(0, pp b_x0), (4, pp b_20), (5, pp b_21), (7, pp b_24), (8, vi 2), (11, vi 0), (40, vi 2), (41, vi 0), (44, vi 2), (45, vi 0), (46, .bool true)] hs fun a hs => hK70 _ _ ?_
      clear hK70
      refine Vk.seq fun K71 hK71 => ?_
      refine qct hs ?_
      refine wp_skip ?_
      refine hK71 _ _ ?_
      clear hK71
      refine Vk.seq fun K72 hK72 => ?_
      refine wp_block ?_
      refine qsr fun K73 hK73 => ?_
      refine qpe 2 [(0, pp b_x0), (4, pp b_20), (5, pp b_21), (7, pp b_24), (8, vi 2), (11, vi 0), (12, vi 0), (40, vi 2), (41, vi 0), (44, vi 2), (45, vi 0)] hs fun a hs => hK73 _ _ ?_
      clear hK73
      obtain ⟨C_74, hC_74⟩ : ∃ X0 : List HP, X0 = (pt b_24 (blk [cp b_x0, C.map (some b_23), ci 0, ci 0, ci 0, ci 0, ci 0, ci 0, ci 0, ci 0, ci 0] 188) :: pt b_23 (.map #[⟨.agg (vals [ci 0, ci 1]), vi v_45.1, 0⟩] 1) :: pt b_21 (blk x2 28) :: pt b_20 (blk x1 28) :: pt b_4 (blk [ci 0, ci 0, ci 0] 28) :: pt b_3 (blk x2 28) :: pt b_2 (blk x1 28) :: S) := ⟨_, rfl⟩
      refine qdr 18 κ C_74 hs fun w hs hqC_74 => ?_
      have hcz : Own κ w (pt b_24 (blk [cp b_x0, C.map (some b_23), ci 0, ci 0, ci 0, ci 0, ci 0, ci 0, ci 0, ci 0, ci 0] 188) :: pt b_23 (.map #[⟨.agg (vals [ci 0, ci 1]), vi v_45.1, 0⟩] 1) :: pt b_21 (blk x2 28) :: pt b_20 (blk x1 28) :: pt b_4 (blk [ci 0, ci 0, ci 0] 28) :: pt b_3 (blk x2 28) :: pt b_2 (blk x1 28) :: S) := (Own.to hs.own [1, 2, 3, 4, 5, 6, 7] 8 (by kernel_rfl) (by kernel_rfl))
      have hcl : Own κ w C_74 := by rw [hC_74]; exact hcz
      refine qdp (fuel := 5) [0, 1, 2, 3, 4, 5, 6, 7, 9, 10, 11, 14, 15, 16] hs hcl hqC_74 fun a hs => ?_
      obtain ⟨v_76, h_75, hm⟩ := bind_t hm
      refine Vk.dTakeT (i := 8) (some 56) (vi v_76) hs (by kernel_rfl) hqC_74 hcl (by kernel_rfl) (by kernel_rfl) (op := (.load 3 (.tmp 55))) (by kernel_rfl) (by kernel_rfl) (fun w hw o ho => by rw [hC_74] at hw; exact run_load1 (c := ci v_76) ho (by kernel_rfl) (by kernel_rfl) (Cell.own 3 rfl (getI_some h_75)) _ hw) fun a hs => ?_
      obtain ⟨v_78, h_77, hm⟩ := bind_t hm
      refine Vk.dTakeT (i := 12) (some 60) (vi v_78) hs (by kernel_rfl) hqC_74 hcl (by kernel_rfl) (by kernel_rfl) (op := (.load 3 (.tmp 59))) (by kernel_rfl) (by kernel_rfl) (fun w hw o ho => by rw [hC_74] at hw; exact run_load1 (c := ci v_78) ho (by kernel_rfl) (by kernel_rfl) (Cell.own 2 rfl (getI_some h_77)) _ hw) fun a hs => ?_
      obtain ⟨v_81, h_80, hm⟩ := bind_t hm
      refine Vk.dOnly (i := 13) (by kernel_rfl) (Vk.call (some 61) 150 #[pp b_x0, vi 7, vi 0, vi v_76, vi v_78] hs (by kernel_rfl) (by kernel_rfl) (by kernel_rfl) ?_)
      refine (wire_Machine_Two.ok k v_45.2 7 0 v_76 v_78 v_81 h_80 κ w (pt b_24 (blk [cp b_x0, C.map (some b_23), ci 0, ci 0, ci 0, ci 0, ci 0, ci 0, ci 0, ci 0, ci 0] 188) :: pt b_23 (.map #[⟨.agg (vals [ci 0, ci 1]), vi v_45.1, 0⟩] 1) :: pt b_21 (blk x2 28) :: pt b_20 (blk x1 28) :: pt b_4 (blk [ci 0, ci 0, ci 0] 28) :: pt b_3 (blk x2 28) :: pt b_2 (blk x1 28) :: S) b_x0 (Own.to hs.own [0, 1, 2, 3, 4, 5, 6, 7] 8 (by kernel_rfl) (by kernel_rfl))).mono ?_
      rintro _ w ⟨rfl, how⟩
      refine ⟨_, _, _, rfl, how, fun a hs => ?_⟩
      replace hcl : Own κ w C_74 := by rw [hC_74]; exact (Own.to hs.own [1, 2, 3, 4, 5, 6, 7] 8 (by kernel_rfl) (by kernel_rfl))
      refine ⟨fun _ => hcl, ?_⟩
      refine qdp (fuel := 1) [17] hs hcl hqC_74 fun a hs => ?_
      refine Vk.dOnly (i := 18) (by kernel_rfl) (Vk.store1 (b := b_24) (ty := 3) (x := (.tmp 65)) (y := (.tmp 61)) (off := 2) (ci v_81.1) 1 hs (by kernel_rfl) (by kernel_rfl) (by kernel_rfl) (by kernel_rfl) (by kernel_rfl) (by kernel_rfl) rfl (Nat.le_of_ble_eq_true (by kernel_rfl)) fun a w hs => ?_)
      refine ⟨fun h => absurd h (by decide), ?_⟩
      replace hs := hs.pick [0, 4, 5, 7, 8, 11, 40, 41, 44, 45] (L' := [(0, pp b_x0), (4, pp b_20), (5, pp b_21), (7, pp b_24), (8, vi 2), (11, vi 0), (40, vi 2), (41, vi 0), (44, vi 2), (45, vi 0)]) (by kernel_rfl)
      refine Vk.dDone (by kernel_rfl) ?_
      refine hK72 _ _ ?_
      clear hK72
      refine Vk.region ?_
      refine qpe 2 [(0, pp b_x0), (4, pp b_20), (5, pp b_21), (7, pp b_24), (8, vi 2), (11, vi 0), (40, vi 2), (41, vi 0), (44, vi 2), (45, vi 1)] hs fun a hs => hKL69 _ _ ?_
      clear hKL69
      refine Vk.unroll fun KL82 hKL82 => ?_
      refine qsr fun K83 hK83 => ?_
      refine qpe 1 [(0, pp b_x0), (4, pp b_20), (5, pp b_21), (7, pp b_24), (8, vi 2), (11, vi 0), (40, vi 2), (41, vi 0), (44, vi 2), (45, vi 1), (46, .bool true)] hs fun a hs => hK83 _ _ ?_
      clear hK83
      refine Vk.seq fun K84 hK84 => ?_
      refine qct hs ?_
      refine wp_skip ?_
      refine hK84 _ _ ?_
      clear hK84
      refine Vk.seq fun K85 hK85 => ?_
      refine wp_block ?_
      refine qsr fun K86 hK86 => ?_
      refine qpe 2 [(0, pp b_x0), (4, pp b_20), (5, pp b_21), (7, pp b_24), (8, vi 2), (11, vi 0), (12, vi 1), (40, vi 2), (41, vi 0), (44, vi 2), (45, vi 1)] hs fun a hs => hK86 _ _ ?_
      clear hK86
      obtain ⟨C_87, hC_87⟩ : ∃ X0 : List HP, X0 = (pt b_24 (blk [cp b_x0, C.map (some b_23), ci v_81.1, ci 0, ci 0, ci 0, ci 0, ci 0, ci 0, ci 0, ci 0] 188) :: pt b_23 (.map #[⟨.agg (vals [ci 0, ci 1]), vi v_45.1, 0⟩] 1) :: pt b_21 (blk x2 28) :: pt b_20 (blk x1 28) :: pt b_4 (blk [ci 0, ci 0, ci 0] 28) :: pt b_3 (blk x2 28) :: pt b_2 (blk x1 28) :: S) := ⟨_, rfl⟩
      refine qdr 18 κ C_87 hs fun w hs hqC_87 => ?_
      have hcz : Own κ w (pt b_24 (blk [cp b_x0, C.map (some b_23), ci v_81.1, ci 0, ci 0, ci 0, ci 0, ci 0, ci 0, ci 0, ci 0] 188) :: pt b_23 (.map #[⟨.agg (vals [ci 0, ci 1]), vi v_45.1, 0⟩] 1) :: pt b_21 (blk x2 28) :: pt b_20 (blk x1 28) :: pt b_4 (blk [ci 0, ci 0, ci 0] 28) :: pt b_3 (blk x2 28) :: pt b_2 (blk x1 28) :: S) := (Own.to hs.own [1, 2, 3, 4, 5, 6, 7] 8 (by kernel_rfl) (by kernel_rfl))
      have hcl : Own κ w C_87 := by rw [hC_87]; exact hcz
      refine qdp (fuel := 5) [0, 1, 2, 3, 4, 5, 6, 7, 9, 10, 11, 14, 15, 16] hs hcl hqC_87 fun a hs => ?_
      obtain ⟨v_89, h_88, hm⟩ := bind_t hm
      refine Vk.dTakeT (i := 8) (some 56) (vi v_89) hs (by kernel_rfl) hqC_87 hcl (by kernel_rfl) (by kernel_rfl) (op := (.load 3 (.tmp 55))) (by kernel_rfl) (by kernel_rfl) (fun w hw o ho => by rw [hC_87] at hw; exact run_load1 (c := ci v_89) ho (by kernel_rfl) (by kernel_rfl) (Cell.own 3 rfl (getI_some h_88)) _ hw) fun a hs => ?_
      obtain ⟨v_91, h_90, hm⟩ := bind_t hm
      refine Vk.dTakeT (i := 12) (some 60) (vi v_91) hs (by kernel_rfl) hqC_87 hcl (by kernel_rfl) (by kernel_rfl) (op := (.load 3 (.tmp 59))) (by kernel_rfl) (by kernel_rfl) (fun w hw o ho => by rw [hC_87] at hw; exact run_load1 (c := ci v_91) ho (by kernel_rfl) (by kernel_rfl) (Cell.own 2 rfl (getI_some h_90)) _ hw) fun a hs => ?_
      obtain ⟨v_94, h_93, hm⟩ := bind_t hm
      refine Vk.dOnly (i := 13) (by kernel_rfl) (Vk.call (some 61) 150 #[pp b_x0, vi 7, vi 0, vi v_89, vi v_91] hs (by kernel_rfl) (by kernel_rfl) (by kernel_rfl) ?_)
      refine (wire_Machine_Two.ok k v_81.2 7 0 v_89 v_91 v_94 h_93 κ w (pt b_24 (blk [cp b_x0, C.map (some b_23), ci v_81.1, ci 0, ci 0, ci 0, ci 0, ci 0, ci 0, ci 0, ci 0] 188) :: pt b_23 (.map #[⟨.agg (vals [ci 0, ci 1]), vi v_45.1, 0⟩] 1) :: pt b_21 (blk x2 28) :: pt b_20 (blk x1 28) :: pt b_4 (blk [ci 0, ci 0, ci 0] 28) :: pt b_3 (blk x2 28) :: pt b_2 (blk x1 28) :: S) b_x0 (Own.to hs.own [0, 1, 2, 3, 4, 5, 6, 7] 8 (by kernel_rfl) (by kernel_rfl))).mono ?_
      rintro _ w ⟨rfl, how⟩
      refine ⟨_, _, _, rfl, how, fun a hs => ?_⟩
      replace hcl : Own κ w C_87 := by rw [hC_87]; exact (Own.to hs.own [1, 2, 3, 4, 5, 6, 7] 8 (by kernel_rfl) (by kernel_rfl))
      refine ⟨fun _ => hcl, ?_⟩
      refine qdp (fuel := 1) [17] hs hcl hqC_87 fun a hs => ?_
      refine Vk.dOnly (i := 18) (by kernel_rfl) (Vk.store1 (b := b_24) (ty := 3) (x := (.tmp 65)) (y := (.tmp 61)) (off := 3) (ci v_94.1) 1 hs (by kernel_rfl) (by kernel_rfl) (by kernel_rfl) (by kernel_rfl) (by kernel_rfl) (by kernel_rfl) rfl (Nat.le_of_ble_eq_true (by kernel_rfl)) fun a w hs => ?_)
      refine ⟨fun h => absurd h (by decide), ?_⟩
      replace hs := hs.pick [0, 4, 5, 7, 8, 11, 40, 41, 44, 45] (L' := [(0, pp b_x0), (4, pp b_20), (5, pp b_21), (7, pp b_24), (8, vi 2), (11, vi 0), (40, vi 2), (41, vi 0), (44, vi 2), (45, vi 1)]) (by kernel_rfl)
      refine Vk.dDone (by kernel_rfl) ?_
      refine hK85 _ _ ?_
      clear hK85
      refine Vk.region ?_
      refine qpe 2 [(0, pp b_x0), (4, pp b_20), (5, pp b_21), (7, pp b_24), (8, vi 2), (11, vi 0), (40, vi 2), (41, vi 0), (44, vi 2), (45, vi 2)] hs fun a hs => hKL82 _ _ ?_
      clear hKL82
      refine Vk.unroll fun KL95 hKL95 => ?_
      refine qsr fun K96 hK96 => ?_
      refine qpe 1 [(0, pp b_x0), (4, pp b_20), (5, pp b_21), (7, pp b_24), (8, vi 2), (11, vi 0), (40, vi 2), (41, vi 0), (44, vi 2), (45, vi 2), (46, .bool false)] hs fun a hs => hK96 _ _ ?_
      clear hK96
      refine Vk.seq fun K97 hK97 => ?_
      refine qcf hs ?_
      refine wp_exit ?_
      refine hK66 _ _ ?_
      clear hK66
      refine Vk.region ?_
      refine qpe 2 [(0, pp b_x0), (4, pp b_20), (5, pp b_21), (7, pp b_24), (8, vi 2), (40, vi 2), (41, vi 1)] hs fun a hs => hKL63 _ _ ?_
      clear hKL63
      refine Vk.unroll fun KL98 hKL98 => ?_
      refine qsr fun K99 hK99 => ?_
      refine qpe 1 [(0, pp b_x0), (4, pp b_20), (5, pp b_21), (7, pp b_24), (8, vi 2), (40, vi 2), (41, vi 1), (42, .bool true)] hs fun a hs => hK99 _ _ ?_
      clear hK99
      refine Vk.seq fun K100 hK100 => ?_
      refine qct hs ?_
      refine wp_skip ?_
      refine hK100 _ _ ?_
      clear hK100
      refine Vk.seq fun K101 hK101 => ?_
      refine wp_block ?_
      refine qsr fun K102 hK102 => ?_
      refine qpe 2 [(0, pp b_x0), (4, pp b_20), (5, pp b_21), (7, pp b_24), (8, vi 2), (11, vi 1), (40, vi 2), (41, vi 1)] hs fun a hs => hK102 _ _ ?_
      clear hK102
      refine qsr fun K103 hK103 => ?_
      refine qpe 2 [(0, pp b_x0), (4, pp b_20), (5, pp b_21), (7, pp b_24), (8, vi 2), (11, vi 1), (40, vi 2), (41, vi 1), (44, vi 2), (45, vi 0)] hs fun a hs => hK103 _ _ ?_
      clear hK103
      refine wp_block ?_
      refine Vk.unroll0 40 ?_
      refine Vk.unroll fun KL104 hKL104 => ?_
      refine qsr fun K105 hK105 => ?_
      refine qpe 1 [(0, pp b_x0), (4, pp b_20), (5, pp b_21), (7, pp b_24), (8, vi 2), (11, vi 1), (40, vi 2), (41, vi 1), (44, vi 2), (45, vi 0), (46, .bool true)] hs fun a hs => hK105 _ _ ?_
      clear hK105
      refine Vk.seq fun K106 hK106 => ?_
      refine qct hs ?_
      refine wp_skip ?_
      refine hK106 _ _ ?_
      clear hK106
      refine Vk.seq fun K107 hK107 => ?_
      refine wp_block ?_
      refine qsr fun K108 hK108 => ?_
      refine qpe 2 [(0, pp b_x0), (4, pp b_20), (5, pp b_21), (7, pp b_24), (8, vi 2), (11, vi 1), (12, vi 0), (40, vi 2), (41, vi 1), (44, vi 2), (45, vi 0)] hs fun a hs => hK108 _ _ ?_
      clear hK108
      obtain ⟨C_109, hC_109⟩ : ∃ X0 : List HP, X0 = (pt b_24 (blk [cp b_x0, C.map (some b_23), ci v_81.1, ci v_94.1, ci 0, ci 0, ci 0, ci 0, ci 0, ci 0, ci 0] 188) :: pt b_23 (.map #[⟨.agg (vals [ci 0, ci 1]), vi v_45.1, 0⟩] 1) :: pt b_21 (blk x2 28) :: pt b_20 (blk x1 28) :: pt b_4 (blk [ci 0, ci 0, ci 0] 28) :: pt b_3 (blk x2 28) :: pt b_2 (blk x1 28) :: S) := ⟨_, rfl⟩
      refine qdr 18 κ C_109 hs fun w hs hqC_109 => ?_
      have hcz : Own κ w (pt b_24 (blk [cp b_x0, C.map (some b_23), ci v_81.1, ci v_94.1, ci 0, ci 0, ci 0, ci 0, ci 0, ci 0, ci 0] 188) :: pt b_23 (.map #[⟨.agg (vals [ci 0, ci 1]), vi v_45.1, 0⟩] 1) :: pt b_21 (blk x2 28) :: pt b_20 (blk x1 28) :: pt b_4 (blk [ci 0, ci 0, ci 0] 28) :: pt b_3 (blk x2 28) :: pt b_2 (blk x1 28) :: S) := (Own.to hs.own [1, 2, 3, 4, 5, 6, 7] 8 (by kernel_rfl) (by kernel_rfl))
      have hcl : Own κ w C_109 := by rw [hC_109]; exact hcz
      refine qdp (fuel := 5) [0, 1, 2, 3, 4, 5, 6, 7, 9, 10, 11, 14, 15, 16] hs hcl hqC_109 fun a hs => ?_
      obtain ⟨v_111, h_110, hm⟩ := bind_t hm
      refine Vk.dTakeT (i := 8) (some 56) (vi v_111) hs (by kernel_rfl) hqC_109 hcl (by kernel_rfl) (by kernel_rfl) (op := (.load 3 (.tmp 55))) (by kernel_rfl) (by kernel_rfl) (fun w hw o ho => by rw [hC_109] at hw; exact run_load1 (c := ci v_111) ho (by kernel_rfl) (by kernel_rfl) (Cell.own 3 rfl (getI_some h_110)) _ hw) fun a hs => ?_
      obtain ⟨v_113, h_112, hm⟩ := bind_t hm
      refine Vk.dTakeT (i := 12) (some 60) (vi v_113) hs (by kernel_rfl) hqC_109 hcl (by kernel_rfl) (by kernel_rfl) (op := (.load 3 (.tmp 59))) (by kernel_rfl) (by kernel_rfl) (fun w hw o ho => by rw [hC_109] at hw; exact run_load1 (c := ci v_113) ho (by kernel_rfl) (by kernel_rfl) (Cell.own 2 rfl (getI_some h_112)) _ hw) fun a hs => ?_
      obtain ⟨v_116, h_115, hm⟩ := bind_t hm
      refine Vk.dOnly (i := 13) (by kernel_rfl) (Vk.call (some 61) 150 #[pp b_x0, vi 7, vi 1, vi v_111, vi v_113] hs (by kernel_rfl) (by kernel_rfl) (by kernel_rfl) ?_)
      refine (wire_Machine_Two.ok k v_94.2 7 1 v_111 v_113 v_116 h_115 κ w (pt b_24 (blk [cp b_x0, C.map (some b_23), ci v_81.1, ci v_94.1, ci 0, ci 0, ci 0, ci 0, ci 0, ci 0, ci 0] 188) :: pt b_23 (.map #[⟨.agg (vals [ci 0, ci 1]), vi v_45.1, 0⟩] 1) :: pt b_21 (blk x2 28) :: pt b_20 (blk x1 28) :: pt b_4 (blk [ci 0, ci 0, ci 0] 28) :: pt b_3 (blk x2 28) :: pt b_2 (blk x1 28) :: S) b_x0 (Own.to hs.own [0, 1, 2, 3, 4, 5, 6, 7] 8 (by kernel_rfl) (by kernel_rfl))).mono ?_
      rintro _ w ⟨rfl, how⟩
      refine ⟨_, _, _, rfl, how, fun a hs => ?_⟩
      replace hcl : Own κ w C_109 := by rw [hC_109]; exact (Own.to hs.own [1, 2, 3, 4, 5, 6, 7] 8 (by kernel_rfl) (by kernel_rfl))
      refine ⟨fun _ => hcl, ?_⟩
      refine qdp (fuel := 1) [17] hs hcl hqC_109 fun a hs => ?_
      refine Vk.dOnly (i := 18) (by kernel_rfl) (Vk.store1 (b := b_24) (ty := 3) (x := (.tmp 65)) (y := (.tmp 61)) (off := 5) (ci v_116.1) 1 hs (by kernel_rfl) (by kernel_rfl) (by kernel_rfl) (by kernel_rfl) (by kernel_rfl) (by kernel_rfl) rfl (Nat.le_of_ble_eq_true (by kernel_rfl)) fun a w hs => ?_)
      refine ⟨fun h => absurd h (by decide), ?_⟩
      replace hs := hs.pick [0, 4, 5, 7, 8, 11, 40, 41, 44, 45] (L' := [(0, pp b_x0), (4, pp b_20), (5, pp b_21), (7, pp b_24), (8, vi 2), (11, vi 1), (40, vi 2), (41, vi 1), (44, vi 2), (45, vi 0)]) (by kernel_rfl)
      refine Vk.dDone (by kernel_rfl) ?_
      refine hK107 _ _ ?_
      clear hK107
      refine Vk.region ?_
      refine qpe 2 [(0, pp b_x0), (4, pp b_20), (5, pp b_21), (7, pp b_24), (8, vi 2), (11, vi 1), (40, vi 2), (41, vi 1), (44, vi 2), (45, vi 1)] hs fun a hs => hKL104 _ _ ?_
      clear hKL104
      refine Vk.unroll fun KL117 hKL117 => ?_
      refine qsr fun K118 hK118 => ?_
      refine qpe 1 [(0, pp b_x0), (4, pp b_20), (5, pp b_21), (7, pp b_24), (8, vi 2), (11, vi 1), (40, vi 2), (41, vi 1), (44, vi 2), (45, vi 1), (46, .bool true)] hs fun a hs => hK118 _ _ ?_
      clear hK118
      refine Vk.seq fun K119 hK119 => ?_
      refine qct hs ?_
      refine wp_skip ?_
      refine hK119 _ _ ?_
      clear hK119
      refine Vk.seq fun K120 hK120 => ?_
      refine wp_block ?_
      refine qsr fun K121 hK121 => ?_
      refine qpe 2 [(0, pp b_x0), (4, pp b_20), (5, pp b_21), (7, pp b_24), (8, vi 2), (11, vi 1), (12, vi 1), (40, vi 2), (41, vi 1), (44, vi 2), (45, vi 1)] hs fun a hs => hK121 _ _ ?_
      clear hK121
      obtain ⟨C_122, hC_122⟩ : ∃ X0 : List HP, X0 = (pt b_24 (blk [cp b_x0, C.map (some b_23), ci v_81.1, ci v_94.1, ci 0, ci v_116.1, ci 0, ci 0, ci 0, ci 0, ci 0] 188) :: pt b_23 (.map #[⟨.agg (vals [ci 0, ci 1]), vi v_45.1, 0⟩] 1) :: pt b_21 (blk x2 28) :: pt b_20 (blk x1 28) :: pt b_4 (blk [ci 0, ci 0, ci 0] 28) :: pt b_3 (blk x2 28) :: pt b_2 (blk x1 28) :: S) := ⟨_, rfl⟩
      refine qdr 18 κ C_122 hs fun w hs hqC_122 => ?_
      have hcz : Own κ w (pt b_24 (blk [cp b_x0, C.map (some b_23), ci v_81.1, ci v_94.1, ci 0, ci v_116.1, ci 0, ci 0, ci 0, ci 0, ci 0] 188) :: pt b_23 (.map #[⟨.agg (vals [ci 0, ci 1]), vi v_45.1, 0⟩] 1) :: pt b_21 (blk x2 28) :: pt b_20 (blk x1 28) :: pt b_4 (blk [ci 0, ci 0, ci 0] 28) :: pt b_3 (blk x2 28) :: pt b_2 (blk x1 28) :: S) := (Own.to hs.own [1, 2, 3, 4, 5, 6, 7] 8 (by kernel_rfl) (by kernel_rfl))
      have hcl : Own κ w C_122 := by rw [hC_122]; exact hcz
      refine qdp (fuel := 5) [0, 1, 2, 3, 4, 5, 6, 7, 9, 10, 11, 14, 15, 16] hs hcl hqC_122 fun a hs => ?_
      obtain ⟨v_124, h_123, hm⟩ := bind_t hm
      refine Vk.dTakeT (i := 8) (some 56) (vi v_124) hs (by kernel_rfl) hqC_122 hcl (by kernel_rfl) (by kernel_rfl) (op := (.load 3 (.tmp 55))) (by kernel_rfl) (by kernel_rfl) (fun w hw o ho => by rw [hC_122] at hw; exact run_load1 (c := ci v_124) ho (by kernel_rfl) (by kernel_rfl) (Cell.own 3 rfl (getI_some h_123)) _ hw) fun a hs => ?_
      obtain ⟨v_126, h_125, hm⟩ := bind_t hm
      refine Vk.dTakeT (i := 12) (some 60) (vi v_126) hs (by kernel_rfl) hqC_122 hcl (by kernel_rfl) (by kernel_rfl) (op := (.load 3 (.tmp 59))) (by kernel_rfl) (by kernel_rfl) (fun w hw o ho => by rw [hC_122] at hw; exact run_load1 (c := ci v_126) ho (by kernel_rfl) (by kernel_rfl) (Cell.own 2 rfl (getI_some h_125)) _ hw) fun a hs => ?_
      obtain ⟨v_129, h_128, hm⟩ := bind_t hm
      refine Vk.dOnly (i := 13) (by kernel_rfl) (Vk.call (some 61) 150 #[pp b_x0, vi 7, vi 1, vi v_124, vi v_126] hs (by kernel_rfl) (by kernel_rfl) (by kernel_rfl) ?_)
      refine (wire_Machine_Two.ok k v_116.2 7 1 v_124 v_126 v_129 h_128 κ w (pt b_24 (blk [cp b_x0, C.map (some b_23), ci v_81.1, ci v_94.1, ci 0, ci v_116.1, ci 0, ci 0, ci 0, ci 0, ci 0] 188) :: pt b_23 (.map #[⟨.agg (vals [ci 0, ci 1]), vi v_45.1, 0⟩] 1) :: pt b_21 (blk x2 28) :: pt b_20 (blk x1 28) :: pt b_4 (blk [ci 0, ci 0, ci 0] 28) :: pt b_3 (blk x2 28) :: pt b_2 (blk x1 28) :: S) b_x0 (Own.to hs.own [0, 1, 2, 3, 4, 5, 6, 7] 8 (by kernel_rfl) (by kernel_rfl))).mono ?_
      rintro _ w ⟨rfl, how⟩
      refine ⟨_, _, _, rfl, how, fun a hs => ?_⟩
      replace hcl : Own κ w C_122 := by rw [hC_122]; exact (Own.to hs.own [1, 2, 3, 4, 5, 6, 7] 8 (by kernel_rfl) (by kernel_rfl))
      refine ⟨fun _ => hcl, ?_⟩
      refine qdp (fuel := 1) [17] hs hcl hqC_122 fun a hs => ?_
      refine Vk.dOnly (i := 18) (by kernel_rfl) (Vk.store1 (b := b_24) (ty := 3) (x := (.tmp 65)) (y := (.tmp 61)) (off := 6) (ci v_129.1) 1 hs (by kernel_rfl) (by kernel_rfl) (by kernel_rfl) (by kernel_rfl) (by kernel_rfl) (by kernel_rfl) rfl (Nat.le_of_ble_eq_true (by kernel_rfl)) fun a w hs => ?_)
      refine ⟨fun h => absurd h (by decide), ?_⟩
      replace hs := hs.pick [0, 4, 5, 7, 8, 11, 40, 41, 44, 45] (L' := [(0, pp b_x0), (4, pp b_20), (5, pp b_21), (7, pp b_24), (8, vi 2), (11, vi 1), (40, vi 2), (41, vi 1), (44, vi 2), (45, vi 1)]) (by kernel_rfl)
      refine Vk.dDone (by kernel_rfl) ?_
      refine hK120 _ _ ?_
      clear hK120
      refine Vk.region ?_
      refine qpe 2 [(0, pp b_x0), (4, pp b_20), (5, pp b_21), (7, pp b_24), (8, vi 2), (11, vi 1), (40, vi 2), (41, vi 1), (44, vi 2), (45, vi 2)] hs fun a hs => hKL117 _ _ ?_
      clear hKL117
      refine Vk.unroll fun KL130 hKL130 => ?_
      refine qsr fun K131 hK131 => ?_
      refine qpe 1 [(0, pp b_x0), (4, pp b_20), (5, pp b_21), (7, pp b_24), (8, vi 2), (11, vi 1), (40, vi 2), (41, vi 1), (44, vi 2), (45, vi 2), (46, .bool false)] hs fun a hs => hK131 _ _ ?_
      clear hK131
      refine Vk.seq fun K132 hK132 => ?_
      refine qcf hs ?_
      refine wp_exit ?_
      refine hK101 _ _ ?_
      clear hK101
      refine Vk.region ?_
      refine qpe 2 [(0, pp b_x0), (4, pp b_20), (5, pp b_21), (7, pp b_24), (8, vi 2), (40, vi 2), (41, vi 2)] hs fun a hs => hKL98 _ _ ?_
      clear hKL98
      refine Vk.unroll fun KL133 hKL133 => ?_
      refine qsr fun K134 hK134 => ?_
      refine qpe 1 [(0, pp b_x0), (4, pp b_20), (5, pp b_21), (7, pp b_24), (8, vi 2), (40, vi 2), (41, vi 2), (42, .bool false)] hs fun a hs => hK134 _ _ ?_
      clear hK134
      refine Vk.seq fun K135 hK135 => ?_
      refine qcf hs ?_
      refine wp_exit ?_
      refine hK61 _ _ ?_
      clear hK61
      refine qsr fun K136 hK136 => ?_
      refine qpe 2 [(6, pp b_24)] hs fun a hs => hK136 _ _ ?_
      clear hK136
      refine wp_ret ?_
      refine hKP18 _ _ ?_
      refine hKR18 _ _ ?_
      refine Vk.ret1 (P := Try.prog) (fn := Try.f91) (pp b_24) hs rfl (by kernel_rfl) ⟨_, _, _, rfl, hs.own, fun a hs => ?_⟩
      refine qpe 1 [(0, pp b_x0), (6, pp b_4), (7, pp b_24)] hs fun a hs => hK15 _ _ ?_
      clear hK15
      refine qsr fun K137 hK137 => ?_
      refine qpu 3 hs fun a hs => ?_
      refine Vk.step (Vk.call (some 23) 92 #[pp b_24, .func (.func 93) #[pp b_24] #[]] hs (by kernel_rfl) (by kernel_rfl) (by kernel_rfl) ?_)
      refine Vk.enterI [(0, pp b_24), (1, .func (.func 93) #[pp b_24] #[])] Try.func92 rfl Try.ntmps92 (by kernel_rfl) (Nat.le_of_ble_eq_true (by kernel_rfl)) hs.own fun KR138 hKR138 hKP138 a hs => ?_
      refine qsr fun K139 hK139 => ?_
      refine Vk.step (Vk.alloc 4 28 [ci 0, ci 0, ci 0] hs (by kernel_rfl) (by kernel_rfl) (by kernel_rfl) fun b_140 w a hs => ?_)
      refine qpe 0 [(0, pp b_24), (1, .func (.func 93) #[pp b_24] #[]), (4, pp b_140)] hs fun a hs => hK139 _ _ ?_
      clear hK139
      refine qsr fun K141 hK141 => ?_
      refine qpu 2 hs fun a hs => ?_
      refine Vk.step (Vk.alloc 5 28 [ci 0, ci 0, ci 0] hs (by kernel_rfl) (by kernel_rfl) (by kernel_rfl) fun b_142 w a hs => ?_)
      refine Vk.step (Vk.storeA (b := b_142) (ty := 28) (x := (.tmp 5)) (y := (.tmp 10)) (sz := 3) [ci (-1), ci (-1), ci (-1)] 0 hs (by kernel_rfl) (by kernel_rfl) (by kernel_rfl) (by kernel_rfl) (by kernel_rfl) rfl (by kernel_rfl) rfl (Eq.trans (b := 3) rfl (Eq.symm rfl)) fun a w hs => ?_)
      refine qpe 0 [(0, pp b_24), (1, .func (.func 93) #[pp b_24] #[]), (4, pp b_140), (5, pp b_142)] hs fun a hs => hK141 _ _ ?_
      clear hK141
      refine qsr fun K143 hK143 => ?_
      refine qpu 3 hs fun a hs => ?_
      refine qld 3 (cp b_x0) hs rfl fun a hs => ?_
      obtain ⟨g_144, hs⟩ := hs.unex 2 rfl
      obtain ⟨v_147, h_146, hm⟩ := bind_t hm
      refine Vk.step (Vk.call (some 15) 89 #[pp b_x0] hs (by kernel_rfl) (by kernel_rfl) (by kernel_rfl) ?_)
      refine (wire_Machine_N.ok k v_129.2 v_147 h_146 κ w (pt b_142 (blk [ci (-1), ci (-1), ci (-1)] 28) :: pt b_140 (blk [ci 0, ci 0, ci 0] 28) :: pt b_24 (blk [cp b_x0, C.map (some b_23), ci v_81.1, ci v_94.1, ci 0, ci v_116.1, ci v_129.1, ci 0, ci 0, ci 0, ci 0] 188) :: pt b_23 (.map #[⟨.agg (vals [ci 0, ci 1]), vi v_45.1, 0⟩] 1) :: pt b_21 (blk x2 28) :: pt b_20 (blk x1 28) :: pt b_4 (blk [ci 0, ci 0, ci 0] 28) :: pt b_3 (blk x2 28) :: pt b_2 (blk x1 28) :: S) b_x0 g_144 (Own.to hs.own [2, 0, 1, 3, 4, 5, 6, 7, 8, 9] 10 (by kernel_rfl) (by kernel_rfl))).mono ?_
      rintro _ w ⟨rfl, how⟩
      refine ⟨_, _, _, rfl, how, fun a hs => ?_⟩
      rcases Bool.eq_false_or_eq_true (v_147 == 2) with hb | hb
      · replace hm := bif_t hm hb
        obtain rfl := Vk.of_beq hb
        refine qpe 1 [(0, pp b_24), (1, .func (.func 93) #[pp b_24] #[]), (4, pp b_140), (5, pp b_142), (6, vi 2)] hs fun a hs => hK143 _ _ ?_
        clear hK143
        refine Vk.seq fun K148 hK148 => ?_
        refine qsr fun K149 hK149 => ?_
        refine qpe 2 [(0, pp b_24), (1, .func (.func 93) #[pp b_24] #[]), (4, pp b_140), (5, pp b_142), (6, vi 2), (16, vi 2), (17, vi 0)] hs fun a hs => hK149 _ _ ?_
        clear hK149
        refine wp_block ?_
        refine Vk.unroll0 40 ?_
        refine Vk.unroll fun KL150 hKL150 => ?_
        refine qsr fun K151 hK151 => ?_
        refine qpe 1 [(0, pp b_24), (1, .func (.func 93) #[pp b_24] #[]), (4, pp b_140), (5, pp b_142), (6, vi 2), (16, vi 2), (17, vi 0), (18, .bool true)] hs fun a hs => hK151 _ _ ?_
        clear hK151
        refine Vk.seq fun K152 hK152 => ?_
        refine qct hs ?_
        refine wp_skip ?_
        refine hK152 _ _ ?_
        clear hK152
        refine Vk.seq fun K153 hK153 => ?_
        refine wp_block ?_
        refine qsr fun K154 hK154 => ?_
        refine qpe 2 [(0, pp b_24), (1, .func (.func 93) #[pp b_24] #[]), (4, pp b_140), (5, pp b_142), (6, vi 2), (7, vi 0), (16, vi 2), (17, vi 0)] hs fun a hs => hK154 _ _ ?_
        clear hK154
        refine qsr fun K155 hK155 => ?_
        refine qpu 8 hs fun a hs => ?_
        refine qld 3 (ci v_81.1) hs rfl fun a hs => ?_
        refine qpu 2 hs fun a hs => ?_
        refine Vk.step (Vk.store1 (b := b_142) (ty := 3) (x := (.tmp 30)) (y := (.tmp 28)) (off := 0) (ci v_81.1) 1 hs (by kernel_rfl) (by kernel_rfl) (by kernel_rfl) (by kernel_rfl) (by kernel_rfl) (by kernel_rfl) rfl (Nat.le_of_ble_eq_true (by kernel_rfl)) fun a w hs => ?_)
        refine qpe 0 [(0, pp b_24), (1, .func (.func 93) #[pp b_24] #[]), (4, pp b_140), (5, pp b_142), (6, vi 2), (7, vi 0), (16, vi 2), (17, vi 0)] hs fun a hs => hK155 _ _ ?_
        clear hK155
        refine qsr fun K156 hK156 => ?_
        refine qpe 2 [(0, pp b_24), (1, .func (.func 93) #[pp b_24] #[]), (4, pp b_140), (5, pp b_142), (6, vi 2), (7, vi 0), (16, vi 2), (17, vi 0), (31, vi 2), (32, vi 0)] hs fun a hs => hK156 _ _ ?_
        clear hK156
        refine wp_block ?_
        refine Vk.unroll0 40 ?_
        refine Vk.unroll fun KL157 hKL157 => ?_
        refine qsr fun K158 hK158 => ?_
        refine qpe 1 [(0, pp b_24), (1, .func (.func 93) #[pp b_24] #[]), (4, pp b_140), (5, pp b_142), (6, vi 2), (7, vi 0), (16, vi 2), (17, vi 0), (31, vi 2), (32, vi 0), (33, .bool true)] hs fun a hs => hK158 _ _ ?_
        clear hK158
        refine Vk.seq fun K159 hK159 => ?_
        refine qct hs ?_
        refine wp_skip ?_
        refine hK159 _ _ ?_
        clear hK159
        refine Vk.seq fun K160 hK160 => ?_
        refine wp_block ?_
        refine qsr fun K161 hK161 => ?_
        refine qpe 2 [(0, pp b_24), (1, .func (.func 93) #[pp b_24] #[]), (4, pp b_140), (5, pp b_142), (6, vi 2), (7, vi 0), (8, vi 0), (16, vi 2), (17, vi 0), (31, vi 2), (32, vi 0)] hs fun a hs => hK161 _ _ ?_
        clear hK161
        refine qsr fun K162 hK162 => ?_
        refine qpe 3 [(0, pp b_24), (1, .func (.func 93) #[pp b_24] #[]), (4, pp b_140), (5, pp b_142), (6, vi 2), (7, vi 0), (8, vi 0), (16, vi 2), (17, vi 0), (31, vi 2), (32, vi 0), (37, .bool false)] hs fun a hs => hK162 _ _ ?_
        clear hK162
        refine qcf hs ?_
        refine wp_skip ?_
        refine hK160 _ _ ?_
        clear hK160
        refine Vk.region ?_
        refine qpe 2 [(0, pp b_24), (1, .func (.func 93) #[pp b_24] #[]), (4, pp b_140), (5, pp b_142), (6, vi 2), (7, vi 0), (16, vi 2), (17, vi 0), (31, vi 2), (32, vi 1)] hs fun a hs => hKL157 _ _ ?_
        clear hKL157
        refine Vk.unroll fun KL163 hKL163 => ?_
        refine qsr fun K164 hK164 => ?_
        refine qpe 1 [(0, pp b_24), (1, .func (.func 93) #[pp b_24] #[]), (4, pp b_140), (5, pp b_142), (6, vi 2), (7, vi 0), (16, vi 2), (17, vi 0), (31, vi 2), (32, vi 1), (33, .bool true)] hs fun a hs => hK164 _ _ ?_
        clear hK164
        refine Vk.seq fun K165 hK165 => ?_
        refine qct hs ?_
        refine wp_skip ?_
        refine hK165 _ _ ?_
        clear hK165
        refine Vk.seq fun K166 hK166 => ?_
        refine wp_block ?_
        refine qsr fun K167 hK167 => ?_
        refine qpe 2 [(0, pp b_24), (1, .func (.func 93) #[pp b_24] #[]), (4, pp b_140), (5, pp b_142), (6, vi 2), (7, vi 0), (8, vi 1), (16, vi 2), (17, vi 0), (31, vi 2), (32, vi 1)] hs fun a hs => hK167 _ _ ?_
        clear hK167
        refine qsr fun K168 hK168 => ?_
        refine qpe 3 [(0, pp b_24), (1, .func (.func 93) #[pp b_24] #[]), (4, pp b_140), (5, pp b_142), (6, vi 2), (7, vi 0), (8, vi 1), (16, vi 2), (17, vi 0), (31, vi 2), (32, vi 1), (37, .bool true)] hs fun a hs => hK168 _ _ ?_
        clear hK168
        refine qct hs ?_
        obtain ⟨C_169, hC_169⟩ : ∃ X0 : List HP, X0 = (pt b_142 (blk [ci v_81.1, ci (-1), ci (-1)] 28) :: pt b_140 (blk [ci 0, ci 0, ci 0] 28) :: pt b_24 (blk [cp b_x0, C.map (some b_23), ci v_81.1, ci v_94.1, ci 0, ci v_116.1, ci v_129.1, ci 0, ci 0, ci 0, ci 0] 188) :: pt b_23 (.map #[⟨.agg (vals [ci 0, ci 1]), vi v_45.1, 0⟩] 1) :: pt b_21 (blk x2 28) :: pt b_20 (blk x1 28) :: pt b_4 (blk [ci 0, ci 0, ci 0] 28) :: pt b_3 (blk x2 28) :: pt b_2 (blk x1 28) :: S) := ⟨_, rfl⟩
        refine qdr 17 κ C_169 hs fun w hs hqC_169 => ?_
        have hcz : Own κ w (pt b_142 (blk [ci v_81.1, ci (-1), ci (-1)] 28) :: pt b_140 (blk [ci 0, ci 0, ci 0] 28) :: pt b_24 (blk [cp b_x0, C.map (some b_23), ci v_81.1, ci v_94.1, ci 0, ci v_116.1, ci v_129.1, ci 0, ci 0, ci 0, ci 0] 188) :: pt b_23 (.map #[⟨.agg (vals [ci 0, ci 1]), vi v_45.1, 0⟩] 1) :: pt b_21 (blk x2 28) :: pt b_20 (blk x1 28) :: pt b_4 (blk [ci 0, ci 0, ci 0] 28) :: pt b_3 (blk x2 28) :: pt b_2 (blk x1 28) :: S) := (Own.to hs.own [1, 2, 3, 4, 5, 6, 7, 8, 9] 10 (by kernel_rfl) (by kernel_rfl))
        have hcl : Own κ w C_169 := by rw [hC_169]; exact hcz
        refine qdp (fuel := 6) [0, 1, 2, 3, 5, 6, 7, 8, 10, 11, 12, 15] hs hcl hqC_169 fun a hs => ?_
        refine qdl 4 2 (cp b_x0) hs hcl hqC_169 hC_169 rfl fun a hs => ?_
        refine qdl 9 0 (ci v_81.1) hs hcl hqC_169 hC_169 rfl fun a hs => ?_
        refine Vk.dOnly (i := 13) (by kernel_rfl) (Vk.call (some 51) 93 #[pp b_24, vi 0, vi 1] hs (by kernel_rfl) (by kernel_rfl) (by kernel_rfl) ?_)
        refine Vk.enterI [(0, pp b_24), (1, vi 0), (2, vi 1)] Try.func93 rfl Try.ntmps93 (by kernel_rfl) (Nat.le_of_ble_eq_true (by kernel_rfl)) hs.own fun KR170 hKR170 hKP170 a hs => ?_
        refine qsr fun K171 hK171 => ?_
        refine qpe 1 [(0, pp b_24), (1, vi 0), (2, vi 1)] hs fun a hs => hK171 _ _ ?_
        clear hK171
        refine Vk.seq fun K172 hK172 => ?_
        obtain ⟨C_173, hC_173⟩ : ∃ X0 : List HP, X0 = (bagL (Twire_Machine.parts b_x0 v_129.2 g_144) :: pt b_142 (blk [ci v_81.1, ci (-1), ci (-1)] 28) :: pt b_140 (blk [ci 0, ci 0, ci 0] 28) :: pt b_24 (blk [cp b_x0, C.map (some b_23), ci v_81.1, ci v_94.1, ci 0, ci v_116.1, ci v_129.1, ci 0, ci 0, ci 0, ci 0] 188) :: pt b_23 (.map #[⟨.agg (vals [ci 0, ci 1]), vi v_45.1, 0⟩] 1) :: pt b_21 (blk x2 28) :: pt b_20 (blk x1 28) :: pt b_4 (blk [ci 0, ci 0, ci 0] 28) :: pt b_3 (blk x2 28) :: pt b_2 (blk x1 28) :: S) := ⟨_, rfl⟩
        refine qdr 17 κ C_173 hs fun w hs hqC_173 => ?_
        have hcz : Own κ w (bagL (Twire_Machine.parts b_x0 v_129.2 g_144) :: pt b_142 (blk [ci v_81.1, ci (-1), ci (-1)] 28) :: pt b_140 (blk [ci 0, ci 0, ci 0] 28) :: pt b_24 (blk [cp b_x0, C.map (some b_23), ci v_81.1, ci v_94.1, ci 0, ci v_116.1, ci v_129.1, ci 0, ci 0, ci 0, ci 0] 188) :: pt b_23 (.map #[⟨.agg (vals [ci 0, ci 1]), vi v_45.1, 0⟩] 1) :: pt b_21 (blk x2 28) :: pt b_20 (blk x1 28) :: pt b_4 (blk [ci 0, ci 0, ci 0] 28) :: pt b_3 (blk x2 28) :: pt b_2 (blk x1 28) :: S) := (Own.to hs.own [0, 1, 2, 3, 4, 5, 6, 7, 8, 9] 10 (by kernel_rfl) (by kernel_rfl))
        have hcl : Own κ w C_173 := by rw [hC_173]; exact hcz
        refine qdp (fuel := 5) [0, 1, 2, 4, 5, 6, 7, 8, 9, 10, 11, 13, 14, 15] hs hcl hqC_173 fun a hs => ?_
        refine qdl 3 3 (cp b_x0) hs hcl hqC_173 hC_173 rfl fun a hs => ?_
        refine qdl 12 3 (ci v_94.1) hs hcl hqC_173 hC_173 rfl fun a hs => ?_
        refine Vk.dOnly (i := 16) (by kernel_rfl) (Vk.call (some 23) 151 #[pp b_24, vi 0, vi 1] hs (by kernel_rfl) (by kernel_rfl) (by kernel_rfl) ?_)
        refine Vk.enterI [(0, pp b_24), (1, vi 0), (2, vi 1)] Try.func151 rfl Try.ntmps151 (by kernel_rfl) (Nat.le_of_ble_eq_true (by kernel_rfl)) hs.own fun KR174 hKR174 hKP174 a hs => ?_
        refine qsr fun K175 hK175 => ?_
        refine qpe 1 [(0, pp b_24), (1, vi 0), (2, vi 1)] hs fun a hs => hK175 _ _ ?_
        clear hK175
        refine qsr fun K176 hK176 => ?_
        refine qpu 3 hs fun a hs => ?_
        refine qld 3 (C.map (some b_23)) hs rfl fun a hs => ?_
        refine qpu 7 hs fun a hs => ?_
        refine Vk.step (Vk.value (some 18) (vi v_45.1) hs (by kernel_rfl) (op := (.lookup 186 (.tmp 10) (.tmp 17) false)) (by kernel_rfl) (fun o ho => run_lookup (b := b_23) (key := .agg (vals [ci 0, ci 1])) 4 rfl ho (by kernel_rfl) (by kernel_rfl) (by kernel_rfl) _ hs.own) fun a hs => ?_)
        refine qpe 1 [(6, vi v_45.1)] hs fun a hs => hK176 _ _ ?_
        clear hK176
        refine wp_ret ?_
        refine hKP174 _ _ ?_
        refine hKR174 _ _ ?_
        refine Vk.ret1 (P := Try.prog) (fn := Try.f151) (vi v_45.1) hs rfl (by kernel_rfl) ⟨_, _, _, rfl, hs.own, fun a hs => ?_⟩
        replace hcl : Own κ w C_173 := by rw [hC_173]; exact (Own.to hs.own [0, 1, 2, 3, 4, 5, 6, 7, 8, 9] 10 (by kernel_rfl) (by kernel_rfl))
        refine ⟨fun _ => hcl, ?_⟩
        replace hs := hs.toEx (Twire_Machine.parts b_x0 v_129.2) g_144 0 rfl
        obtain ⟨v_179, h_178, hm⟩ := bind_t hm
        refine Vk.dOnly (i := 17) (by kernel_rfl) (Vk.call (some 24) 150 #[pp b_x0, vi 5, vi 0, vi v_94.1, vi v_45.1] hs (by kernel_rfl) (by kernel_rfl) (by kernel_rfl) ?_)
        refine (wire_Machine_Two.ok k v_129.2 5 0 v_94.1 v_45.1 v_179 h_178 κ w (pt b_142 (blk [ci v_81.1, ci (-1), ci (-1)] 28) :: pt b_140 (blk [ci 0, ci 0, ci 0] 28) :: pt b_24 (blk [cp b_x0, C.map (some b_23), ci v_81.1, ci v_94.1, ci 0, ci v_116.1, ci v_129.1, ci 0, ci 0, ci 0, ci 0] 188) :: pt b_23 (.map #[⟨.agg (vals [ci 0, ci 1]), vi v_45.1, 0⟩] 1) :: pt b_21 (blk x2 28) :: pt b_20 (blk x1 28) :: pt b_4 (blk [ci 0, ci 0, ci 0] 28) :: pt b_3 (blk x2 28) :: pt b_2 (blk x1 28) :: S) b_x0 (Own.to hs.own [0, 1, 2, 3, 4, 5, 6, 7, 8, 9] 10 (by kernel_rfl) (by kernel_rfl))).mono ?_
        rintro _ w ⟨rfl, how⟩
        refine ⟨_, _, _, rfl, how, fun a hs => ?_⟩
        refine ⟨fun h => absurd h (by decide), ?_⟩
        refine Vk.dOnly (i := 18) (by kernel_rfl) (Vk.dPure1 [(6, vi v_179.1)] hs (by kernel_rfl) fun a hs => ?_)
        refine ⟨fun h => absurd h (by decide), ?_⟩
        replace hs := hs.pick [6] (L' := [(6, vi v_179.1)]) (by kernel_rfl)
        refine Vk.dDone (by kernel_rfl) ?_
        refine hK172 _ _ ?_
        clear hK172
        refine wp_ret ?_
        refine hKP170 _ _ ?_
        refine hKR170 _ _ ?_
        refine Vk.ret1 (P := Try.prog) (fn := Try.f93) (vi v_179.1) hs rfl (by kernel_rfl) ⟨_, _, _, rfl, hs.own, fun a hs => ?_⟩
        replace hcl : Own κ w C_169 := by rw [hC_169]; exact (Own.to hs.own [1, 2, 3, 4, 5, 6, 7, 8, 9] 10 (by kernel_rfl) (by kernel_rfl))
        refine ⟨fun _ => hcl, ?_⟩
        obtain ⟨v_182, h_181, hm⟩ := bind_t hm
        refine Vk.dOnly (i := 14) (by kernel_rfl) (Vk.call (some 52) 150 #[pp b_x0, vi 5, vi 0, vi v_81.1, vi v_179.1] hs (by kernel_rfl) (by kernel_rfl) (by kernel_rfl) ?_)
        refine (wire_Machine_Two.ok k v_179.2 5 0 v_81.1 v_179.1 v_182 h_181 κ w (pt b_142 (blk [ci v_81.1, ci (-1), ci (-1)] 28) :: pt b_140 (blk [ci 0, ci 0, ci 0] 28) :: pt b_24 (blk [cp b_x0, C.map (some b_23), ci v_81.1, ci v_94.1, ci 0, ci v_116.1, ci v_129.1, ci 0, ci 0, ci 0, ci 0] 188) :: pt b_23 (.map #[⟨.agg (vals [ci 0, ci 1]), vi v_45.1, 0⟩] 1) :: pt b_21 (blk x2 28) :: pt b_20 (blk x1 28) :: pt b_4 (blk [ci 0, ci 0, ci 0] 28) :: pt b_3 (blk x2 28) :: pt b_2 (blk x1 28) :: S) b_x0 (Own.to hs.own [0, 1, 2, 3, 4, 5, 6, 7, 8, 9] 10 (by kernel_rfl) (by kernel_rfl))).mono ?_
        rintro _ w ⟨rfl, how⟩
        refine ⟨_, _, _, rfl, how, fun a hs => ?_⟩
        replace hcl : Own κ w C_169 := by rw [hC_169]; exact (Own.to hs.own [1, 2, 3, 4, 5, 6, 7, 8, 9] 10 (by kernel_rfl) (by kernel_rfl))
        refine ⟨fun _ => hcl, ?_⟩
        refine qdp (fuel := 1) [16] hs hcl hqC_169 fun a hs => ?_
        refine Vk.dOnly (i := 17) (by kernel_rfl) (Vk.store1 (b := b_142) (ty := 3) (x := (.tmp 54)) (y := (.tmp 52)) (off := 0) (ci v_182.1) 1 hs (by kernel_rfl) (by kernel_rfl) (by kernel_rfl) (by kernel_rfl) (by kernel_rfl) (by kernel_rfl) rfl (Nat.le_of_ble_eq_true (by kernel_rfl)) fun a w hs => ?_)
        refine ⟨fun h => absurd h (by decide), ?_⟩
        replace hs := hs.pick [0, 1, 4, 5, 6, 7, 16, 17, 31, 32] (L' := [(0, pp b_24), (1, .func (.func 93) #[pp b_24] #[]), (4, pp b_140), (5, pp b_142), (6, vi 2), (7, vi 0), (16, vi 2), (17, vi 0), (31, vi 2), (32, vi 1)]) (by kernel_rfl)
        refine Vk.dDone (by kernel_rfl) ?_
        refine hK166 _ _ ?_
        clear hK166
        refine Vk.region ?_
        refine qpe 2 [(0, pp b_24), (1, .func (.func 93) #[pp b_24] #[]), (4, pp b_140), (5, pp b_142), (6, vi 2), (7, vi 0), (16, vi 2), (17, vi 0), (31, vi 2), (32, vi 2)] hs fun a hs => hKL163 _ _ ?_
        clear hKL163
        refine Vk.unroll fun KL183 hKL183 => ?_
        refine qsr fun K184 hK184 => ?_
        refine qpe 1 [(0, pp b_24), (1, .func (.func 93) #[pp b_24] #[]), (4, pp b_140), (5, pp b_142), (6, vi 2), (7, vi 0), (16, vi 2), (17, vi 0), (31, vi 2), (32, vi 2), (33, .bool false)] hs fun a hs => hK184 _ _ ?_
        clear hK184
        refine Vk.seq fun K185 hK185 => ?_
        refine qcf hs ?_
        refine wp_exit ?_
        refine hK153 _ _ ?_
        clear hK153
        refine Vk.region ?_
        refine qpe 2 [(0, pp b_24), (1, .func (.func 93) #[pp b_24] #[]), (4, pp b_140), (5, pp b_142), (6, vi 2), (16, vi 2), (17, vi 1)] hs fun a hs => hKL150 _ _ ?_
        clear hKL150
        refine Vk.unroll fun KL186 hKL186 => ?_
        refine qsr fun K187 hK187 => ?_
        refine qpe 1 [(0, pp b_24), (1, .func (.func 93) #[pp b_24] #[]), (4, pp b_140), (5, pp b_142), (6, vi 2), (16, vi 2), (17, vi 1), (18, .bool true)] hs fun a hs => hK187 _ _ ?_
        clear hK187
        refine Vk.seq fun K188 hK188 => ?_
        refine qct hs ?_
        refine wp_skip ?_
        refine hK188 _ _ ?_
        clear hK188
        refine Vk.seq fun K189 hK189 => ?_
        refine wp_block ?_
        refine qsr fun K190 hK190 => ?_
        refine qpe 2 [(0, pp b_24), (1, .func (.func 93) #[pp b_24] #[]), (4, pp b_140), (5, pp b_142), (6, vi 2), (7, vi 1), (16, vi 2), (17, vi 1)] hs fun a hs => hK190 _ _ ?_
        clear hK190
        refine qsr fun K191 hK191 => ?_
        refine qpu 8 hs fun a hs => ?_
        refine qld 3 (ci v_129.1) hs rfl fun a hs => ?_
        refine qpu 2 hs fun a hs => ?_
        refine Vk.step (Vk.store1 (b := b_142) (ty := 3) (x := (.tmp 30)) (y := (.tmp 28)) (off := 1) (ci v_129.1) 1 hs (by kernel_rfl) (by kernel_rfl) (by kernel_rfl) (by kernel_rfl) (by kernel_rfl) (by kernel_rfl) rfl (Nat.le_of_ble_eq_true (by kernel_rfl)) fun a w hs => ?_)
        refine qpe 0 [(0, pp b_24), (1, .func (.func 93) #[pp b_24] #[]), (4, pp b_140), (5, pp b_142), (6, vi 2), (7, vi 1), (16, vi 2), (17, vi 1)] hs fun a hs => hK191 _ _ ?_
        clear hK191
        refine qsr fun K192 hK192 => ?_
        refine qpe 2 [(0, pp b_24), (1, .func (.func 93) #[pp b_24] #[]), (4, pp b_140), (5, pp b_142), (6, vi 2), (7, vi 1), (16, vi 2), (17, vi 1), (31, vi 2), (32, vi 0)] hs fun a hs => hK192 _ _ ?_
        clear hK192
        refine wp_block ?_
        refine Vk.unroll0 40 ?_
        refine Vk.unroll fun KL193 hKL193 => ?_
        refine qsr fun K194 hK194 => ?_
        refine qpe 1 [(0, pp b_24), (1, .func (.func 93) #[pp b_24] #[]), (4, pp b_140), (5, pp b_142), (6, vi 2), (7, vi 1), (16, vi 2), (17, vi 1), (31, vi 2), (32, vi 0), (33, .bool true)] hs fun a hs => hK194 _ _ ?_
        clear hK194
        refine Vk.seq fun K195 hK195 => ?_
        refine qct hs ?_
        refine wp_skip ?_
        refine hK195 _ _ ?_
        clear hK195
        refine Vk.seq fun K196 hK196 => ?_
        refine wp_block ?_
        refine qsr fun K197 hK197 => ?_
        refine qpe 2 [(0, pp b_24), (1, .func (.func 93) #[pp b_24] #[]), (4, pp b_140), (5, pp b_142), (6, vi 2), (7, vi 1), (8, vi 0), (16, vi 2), (17, vi 1), (31, vi 2), (32, vi 0)] hs fun a hs => hK197 _ _ ?_
        clear hK197
        refine qsr fun K198 hK198 => ?_
        refine qpe 3 [(0, pp b_24), (1, .func (.func 93) #[pp b_24] #[]), (4, pp b_140), (5, pp b_142), (6, vi 2), (7, vi 1), (8, vi 0), (16, vi 2), (17, vi 1), (31, vi 2), (32, vi 0), (37, .bool true)] hs fun a hs => hK198 _ _ ?_
        clear hK198
        refine qct hs ?_
        obtain ⟨C_199, hC_199⟩ : ∃ X0 : List HP, X0 = (pt b_142 (blk [ci v_182.1, ci v_129.1, ci (-1)] 28) :: pt b_140 (blk [ci 0, ci 0, ci 0] 28) :: pt b_24 (blk [cp b_x0, C.map (some b_23), ci v_81.1, ci v_94.1, ci 0, ci v_116.1, ci v_129.1, ci 0, ci 0, ci 0, ci 0] 188) :: pt b_23 (.map #[⟨.agg (vals [ci 0, ci 1]), vi v_45.1, 0⟩] 1) :: pt b_21 (blk x2 28) :: pt b_20 (blk x1 28) :: pt b_4 (blk [ci 0, ci 0, ci 0] 28) :: pt b_3 (blk x2 28) :: pt b_2 (blk x1 28) :: S) := ⟨_, rfl⟩
        refine qdr 17 κ C_199 hs fun w hs hqC_199 => ?_
        have hcz : Own κ w (pt b_142 (blk [ci v_182.1, ci v_129.1, ci (-1)] 28) :: pt b_140 (blk [ci 0, ci 0, ci 0] 28) :: pt b_24 (blk [cp b_x0, C.map (some b_23), ci v_81.1, ci v_94.1, ci 0, ci v_116.1, ci v_129.1, ci 0, ci 0, ci 0, ci 0] 188) :: pt b_23 (.map #[⟨.agg (vals [ci 0, ci 1]), vi v_45.1, 0⟩] 1) :: pt b_21 (blk x2 28) :: pt b_20 (blk x1 28) :: pt b_4 (blk [ci 0, ci 0, ci 0] 28) :: pt b_3 (blk x2 28) :: pt b_2 (blk x1 28) :: S) := (Own.to hs.own [1, 2, 3, 4, 5, 6, 7, 8, 9] 10 (by kernel_rfl) (by kernel_rfl))
        have hcl : Own κ w C_199 := by rw [hC_199]; exact hcz
        refine qdp (fuel := 6) [0, 1, 2, 3, 5, 6, 7, 8, 10, 11, 12, 15] hs hcl hqC_199 fun a hs => ?_
        refine qdl 4 2 (cp b_x0) hs hcl hqC_199 hC_199 rfl fun a hs => ?_
        refine qdl 9 0 (ci v_129.1) hs hcl hqC_199 hC_199 rfl fun a hs => ?_
        refine Vk.dOnly (i := 13) (by kernel_rfl) (Vk.call (some 51) 93 #[pp b_24, vi 1, vi 0] hs (by kernel_rfl) (by kernel_rfl) (by kernel_rfl) ?_)
        refine Vk.enterI [(0, pp b_24), (1, vi 1), (2, vi 0)] Try.func93 rfl Try.ntmps93 (by kernel_rfl) (Nat.le_of_ble_eq_true (by kernel_rfl)) hs.own fun KR200 hKR200 hKP200 a hs => ?_
        refine qsr fun K201 hK201 => ?_
        refine qpe 1 [(0, pp b_24), (1, vi 1), (2, vi 0)] hs fun a hs => hK201 _ _ ?_
        clear hK201
        refine Vk.seq fun K202 hK202 => ?_
        obtain ⟨C_203, hC_203⟩ : ∃ X0 : List HP, X0 = (Twire_Machine.own b_x0 v_182.2 :: pt b_142 (blk [ci v_182.1, ci v_129.1, ci (-1)] 28) :: pt b_140 (blk [ci 0, ci 0, ci 0] 28) :: pt b_24 (blk [cp b_x0, C.map (some b_23), ci v_81.1, ci v_94.1, ci 0, ci v_116.1, ci v_129.1, ci 0, ci 0, ci 0, ci 0] 188) :: pt b_23 (.map #[⟨.agg (vals [ci 0, ci 1]), vi v_45.1, 0⟩] 1) :: pt b_21 (blk x2 28) :: pt b_20 (blk x1 28) :: pt b_4 (blk [ci 0, ci 0, ci 0] 28) :: pt b_3 (blk x2 28) :: pt b_2 (blk x1 28) :: S) := ⟨_, rfl⟩
        refine qdr 17 κ C_203 hs fun w hs hqC_203 => ?_
        have hcz : Own κ w (Twire_Machine.own b_x0 v_182.2 :: pt b_142 (blk [ci v_182.1, ci v_129.1, ci (-1)] 28) :: pt b_140 (blk [ci 0, ci 0, ci 0] 28) :: pt b_24 (blk [cp b_x0, C.map (some b_23), ci v_81.1, ci v_94.1, ci 0, ci v_116.1, ci v_129.1, ci 0, ci 0, ci 0, ci 0] 188) :: pt b_23 (.map #[⟨.agg (vals [ci 0, ci 1]), vi v_45.1, 0⟩] 1) :: pt b_21 (blk x2 28) :: pt b_20 (blk x1 28) :: pt b_4 (blk [ci 0, ci 0, ci 0] 28) :: pt b_3 (blk x2 28) :: pt b_2 (blk x1 28) :: S) := (Own.to hs.own [0, 1, 2, 3, 4, 5, 6, 7, 8, 9] 10 (by kernel_rfl) (by kernel_rfl))
        have hcl : Own κ w C_203 := by rw [hC_203]; exact hcz
        refine qdp (fuel := 5) [0, 1, 2, 4, 5, 6, 7, 8, 9, 10, 11, 13, 14, 15] hs hcl hqC_203 fun a hs => ?_
        refine qdl 3 3 (cp b_x0) hs hcl hqC_203 hC_203 rfl fun a hs => ?_
        refine qdl 12 3 (ci v_116.1) hs hcl hqC_203 hC_203 rfl fun a hs => ?_
        refine Vk.dOnly (i := 16) (by kernel_rfl) (Vk.call (some 23) 151 #[pp b_24, vi 1, vi 0] hs (by kernel_rfl) (by kernel_rfl) (by kernel_rfl) ?_)
        refine Vk.enterI [(0, pp b_24), (1, vi 1), (2, vi 0)] Try.func151 rfl Try.ntmps151 (by kernel_rfl) (Nat.le_of_ble_eq_true (by kernel_rfl)) hs.own fun KR204 hKR204 hKP204 a hs => ?_
        refine qsr fun K205 hK205 => ?_
        refine qpe 1 [(0, pp b_24), (1, vi 1), (2, vi 0)] hs fun a hs => hK205 _ _ ?_
        clear hK205
        refine qsr fun K206 hK206 => ?_
        refine qpu 3 hs fun a hs => ?_
        refine qld 3 (C.map (some b_23)) hs rfl fun a hs => ?_
        refine qpu 7 hs fun a hs => ?_
        refine Vk.step (Vk.value (some 18) (vi v_45.1) hs (by kernel_rfl) (op := (.lookup 186 (.tmp 10) (.tmp 17) false)) (by kernel_rfl) (fun o ho => run_lookup (b := b_23) (key := .agg (vals [ci 0, ci 1])) 4 rfl ho (by kernel_rfl) (by kernel_rfl) (by kernel_rfl) _ hs.own) fun a hs => ?_)
        refine qpe 1 [(6, vi v_45.1)] hs fun a hs => hK206 _ _ ?_
        clear hK206
        refine wp_ret ?_
        refine hKP204 _ _ ?_
        refine hKR204 _ _ ?_
        refine Vk.ret1 (P := Try.prog) (fn := Try.f151) (vi v_45.1) hs rfl (by kernel_rfl) ⟨_, _, _, rfl, hs.own, fun a hs => ?_⟩
        replace hcl : Own κ w C_203 := by rw [hC_203]; exact (Own.to hs.own [0, 1, 2, 3, 4, 5, 6, 7, 8, 9] 10 (by kernel_rfl) (by kernel_rfl))
        refine ⟨fun _ => hcl, ?_⟩
        obtain ⟨v_209, h_208, hm⟩ := bind_t hm
        refine Vk.dOnly (i := 17) (by kernel_rfl) (Vk.call (some 24) 150 #[pp b_x0, vi 5, vi 1, vi v_116.1, vi v_45.1] hs (by kernel_rfl) (by kernel_rfl) (by kernel_rfl) ?_)
        refine (wire_Machine_Two.ok k v_182.2 5 1 v_116.1 v_45.1 v_209 h_208 κ w (pt b_142 (blk [ci v_182.1, ci v_129.1, ci (-1)] 28) :: pt b_140 (blk [ci 0, ci 0, ci 0] 28) :: pt b_24 (blk [cp b_x0, C.map (some b_23), ci v_81.1, ci v_94.1, ci 0, ci v_116.1, ci v_129.1, ci 0, ci 0, ci 0, ci 0] 188) :: pt b_23 (.map #[⟨.agg (vals [ci 0, ci 1]), vi v_45.1, 0⟩] 1) :: pt b_21 (blk x2 28) :: pt b_20 (blk x1 28) :: pt b_4 (blk [ci 0, ci 0, ci 0] 28) :: pt b_3 (blk x2 28) :: pt b_2 (blk x1 28) :: S) b_x0 (Own.to hs.own [0, 1, 2, 3, 4, 5, 6, 7, 8, 9] 10 (by kernel_rfl) (by kernel_rfl))).mono ?_
        rintro _ w ⟨rfl, how⟩
        refine ⟨_, _, _, rfl, how, fun a hs => ?_⟩
        refine ⟨fun h => absurd h (by decide), ?_⟩
        refine Vk.dOnly (i := 18) (by kernel_rfl) (Vk.dPure1 [(6, vi v_209.1)] hs (by kernel_rfl) fun a hs => ?_)
        refine ⟨fun h => absurd h (by decide), ?_⟩
        replace hs := hs.pick [6] (L' := [(6, vi v_209.1)]) (by kernel_rfl)
        refine Vk.dDone (by kernel_rfl) ?_
        refine hK202 _ _ ?_
        clear hK202
        refine wp_ret ?_
        refine hKP200 _ _ ?_
        refine hKR200 _ _ ?_
        refine Vk.ret1 (P := Try.prog) (fn := Try.f93) (vi v_209.1) hs rfl (by kernel_rfl) ⟨_, _, _, rfl, hs.own, fun a hs => ?_⟩
        replace hcl : Own κ w C_199 := by rw [hC_199]; exact (Own.to hs.own [1, 2, 3, 4, 5, 6, 7, 8, 9] 10 (by kernel_rfl) (by kernel_rfl))
        refine ⟨fun _ => hcl, ?_⟩
        obtain ⟨v_212, h_211, hm⟩ := bind_t hm
        refine Vk.dOnly (i := 14) (by kernel_rfl) (Vk.call (some 52) 150 #[pp b_x0, vi 5, vi 1, vi v_129.1, vi v_209.1] hs (by kernel_rfl) (by kernel_rfl) (by kernel_rfl) ?_)
        refine (wire_Machine_Two.ok k v_209.2 5 1 v_129.1 v_209.1 v_212 h_211 κ w (pt b_142 (blk [ci v_182.1, ci v_129.1, ci (-1)] 28) :: pt b_140 (blk [ci 0, ci 0, ci 0] 28) :: pt b_24 (blk [cp b_x0, C.map (some b_23), ci v_81.1, ci v_94.1, ci 0, ci v_116.1, ci v_129.1, ci 0, ci 0, ci 0, ci 0] 188) :: pt b_23 (.map #[⟨.agg (vals [ci 0, ci 1]), vi v_45.1, 0⟩] 1) :: pt b_21 (blk x2 28) :: pt b_20 (blk x1 28) :: pt b_4 (blk [ci 0, ci 0, ci 0] 28) :: pt b_3 (blk x2 28) :: pt b_2 (blk x1 28) :: S) b_x0 (Own.to hs.own [0, 1, 2, 3, 4, 5, 6, 7, 8, 9] 10 (by kernel_rfl) (by kernel_rfl))).mono ?_
        rintro _ w ⟨rfl, how⟩
        refine ⟨_, _, _, rfl, how, fun a hs => ?_⟩
        replace hcl : Own κ w C_199 := by rw [hC_199]; exact (Own.to hs.own [1, 2, 3, 4, 5, 6, 7, 8, 9] 10 (by kernel_rfl) (by kernel_rfl))
        refine ⟨fun _ => hcl, ?_⟩
        refine qdp (fuel := 1) [16] hs hcl hqC_199 fun a hs => ?_
        refine Vk.dOnly (i := 17) (by kernel_rfl) (Vk.store1 (b := b_142) (ty := 3) (x := (.tmp 54)) (y := (.tmp 52)) (off := 1) (ci v_212.1) 1 hs (by kernel_rfl) (by kernel_rfl) (by kernel_rfl) (by kernel_rfl) (by kernel_rfl) (by kernel_rfl) rfl (Nat.le_of_ble_eq_true (by kernel_rfl)) fun a w hs => ?_)
        refine ⟨fun h => absurd h (by decide), ?_⟩
        replace hs := hs.pick [0, 1, 4, 5, 6, 7, 16, 17, 31, 32] (L' := [(0, pp b_24), (1, .func (.func 93) #[pp b_24] #[]), (4, pp b_140), (5, pp b_142), (6, vi 2), (7, vi 1), (16, vi 2), (17, vi 1), (31, vi 2), (32, vi 0)]) (by kernel_rfl)
        refine Vk.dDone (by kernel_rfl) ?_
        refine hK196 _ _ ?_
        clear hK196
        refine Vk.region ?_
        refine qpe 2 [(0, pp b_24), (1, .func (.func 93) #[pp b_24] #[]), (4, pp b_140), (5, pp b_142), (6, vi 2), (7, vi 1), (16, vi 2), (17, vi 1), (31, vi 2), (32, vi 1)] hs fun a hs => hKL193 _ _ ?_
        clear hKL193
        refine Vk.unroll fun KL213 hKL213 => ?_
        refine qsr fun K214 hK214 => ?_
        refine qpe 1 [(0, pp b_24), (1, .func (.func 93) #[pp b_24] #[]), (4, pp b_140), (5, pp b_142), (6, vi 2), (7, vi 1), (16, vi 2), (17, vi 1), (31, vi 2), (32, vi 1), (33, .bool true)] hs fun a hs => hK214 _ _ ?_
        clear hK214
        refine Vk.seq fun K215 hK215 => ?_
        refine qct hs ?_
        refine wp_skip ?_
        refine hK215 _ _ ?_
        clear hK215
        refine Vk.seq fun K216 hK216 => ?_
        refine wp_block ?_
        refine qsr fun K217 hK217 => ?_
        refine qpe 2 [(0, pp b_24), (1, .func (.func 93) #[pp b_24] #[]), (4, pp b_140), (5, pp b_142), (6, vi 2), (7, vi 1), (8, vi 1), (16, vi 2), (17, vi 1), (31, vi 2), (32, vi 1)] hs fun a hs => hK217 _ _ ?_
        clear hK217
        refine qsr fun K218 hK218 => ?_
        refine qpe 3 [(0, pp b_24), (1, .func (.func 93) #[pp b_24] #[]), (4, pp b_140), (5, pp b_142), (6, vi 2), (7, vi 1), (8, vi 1), (16, vi 2), (17, vi 1), (31, vi 2), (32, vi 1), (37, .bool false)] hs fun a hs => hK218 _ _ ?_
        clear hK218
        refine qcf hs ?_
        refine wp_skip ?_
        refine hK216 _ _ ?_
        clear hK216
        refine Vk.region ?_
        refine qpe 2 [(0, pp b_24), (1, .func (.func 93) #[pp b_24] #[]), (4, pp b_140), (5, pp b_142), (6, vi 2), (7, vi 1), (16, vi 2), (17, vi 1), (31, vi 2), (32, vi 2)] hs fun a hs => hKL213 _ _ ?_
        clear hKL213
        refine Vk.unroll fun KL219 hKL219 => ?_
        refine qsr fun K220 hK220 => ?_
        refine qpe 1 [(0, pp b_24), (1, .func (.func 93) #[pp b_24] #[]), (4, pp b_140), (5, pp b_142), (6, vi 2), (7, vi 1), (16, vi 2), (17, vi 1), (31, vi 2), (32, vi 2), (33, .bool false)] hs fun a hs => hK220 _ _ ?_
        clear hK220
        refine Vk.seq fun K221 hK221 => ?_
        refine qcf hs ?_
        refine wp_exit ?_
        refine hK189 _ _ ?_
        clear hK189
        refine Vk.region ?_
        refine qpe 2 [(0, pp b_24), (1, .func (.func 93) #[pp b_24] #[]), (4, pp b_140), (5, pp b_142), (6, vi 2), (16, vi 2), (17, vi 2)] hs fun a hs => hKL186 _ _ ?_
        clear hKL186
        refine Vk.unroll fun KL222 hKL222 => ?_
        refine qsr fun K223 hK223 => ?_
        refine qpe 1 [(0, pp b_24), (1, .func (.func 93) #[pp b_24] #[]), (4, pp b_140), (5, pp b_142), (6, vi 2), (16, vi 2), (17, vi 2), (18, .bool false)] hs fun a hs => hK223 _ _ ?_
        clear hK223
        refine Vk.seq fun K224 hK224 => ?_
        refine qcf hs ?_
        refine wp_exit ?_
        refine hK148 _ _ ?_
        clear hK148
        refine qsr fun K225 hK225 => ?_
        refine qln 1 ([ci v_182.1, ci v_212.1, ci (-1)]) hs rfl fun a hs => ?_
        refine Vk.step (Vk.storeA (b := b_140) (ty := 28) (x := (.tmp 4)) (y := (.tmp 57)) (sz := 3) [ci v_182.1, ci v_212.1, ci (-1)] 2 hs (by kernel_rfl) (by kernel_rfl) (by kernel_rfl) (by kernel_rfl) (by kernel_rfl) rfl (by kernel_rfl) rfl (Eq.trans (b := 3) rfl (Eq.symm rfl)) fun a w hs => ?_)
        refine qpe 0 [(4, pp b_140)] hs fun a hs => hK225 _ _ ?_
        clear hK225
        refine wp_ret ?_
        refine hKP138 _ _ ?_
        refine hKR138 _ _ ?_
        refine Vk.retC (P := Try.prog) (fn := Try.f92) [ci v_182.1, ci v_212.1, ci (-1)] hs rfl (by kernel_rfl) (sz := 3) (by kernel_rfl) rfl (CellsAt.all 2 rfl) ⟨_, _, _, rfl, hs.own, fun a hs => ?_⟩
        refine Vk.step (Vk.alloc 8 28 [ci 0, ci 0, ci 0] hs (by kernel_rfl) (by kernel_rfl) (by kernel_rfl) fun b_226 w a hs => ?_)
        refine Vk.step (Vk.storeA (b := b_226) (ty := 28) (x := (.tmp 8)) (y := (.tmp 23)) (sz := 3) [ci v_182.1, ci v_212.1, ci (-1)] 0 hs (by kernel_rfl) (by kernel_rfl) (by kernel_rfl) (by kernel_rfl) (by kernel_rfl) rfl (by kernel_rfl) rfl (Eq.trans (b := 3) rfl (Eq.symm rfl)) fun a w hs => ?_)
        refine qpe 0 [(0, pp b_x0), (6, pp b_4), (8, pp b_226)] hs fun a hs => hK137 _ _ ?_
        clear hK137
        refine qsr fun K227 hK227 => ?_
        refine qpu 1 hs fun a hs => ?_
        obtain ⟨v_230, h_229, hm⟩ := bind_t hm
        refine Vk.step (Vk.call (some 25) 94 #[pp b_x0] hs (by kernel_rfl) (by kernel_rfl) (by kernel_rfl) ?_)
        refine (wire_Machine_End.ok k v_212.2 v_230 h_229 κ w (pt b_226 (blk [ci v_182.1, ci v_212.1, ci (-1)] 28) :: pt b_142 (blk [ci v_182.1, ci v_212.1, ci (-1)] 28) :: pt b_140 (blk [ci v_182.1, ci v_212.1, ci (-1)] 28) :: pt b_24 (blk [cp b_x0, C.map (some b_23), ci v_81.1, ci v_94.1, ci 0, ci v_116.1, ci v_129.1, ci 0, ci 0, ci 0, ci 0] 188) :: pt b_23 (.map #[⟨.agg (vals [ci 0, ci 1]), vi v_45.1, 0⟩] 1) :: pt b_21 (blk x2 28) :: pt b_20 (blk x1 28) :: pt b_4 (blk [ci 0, ci 0, ci 0] 28) :: pt b_3 (blk x2 28) :: pt b_2 (blk x1 28) :: S) b_x0 (Own.to hs.own [1, 0, 2, 3, 4, 5, 6, 7, 8, 9, 10] 11 (by kernel_rfl) (by kernel_rfl))).mono ?_
        rintro _ w ⟨rfl, how⟩
        refine ⟨_, _, _, rfl, how, fun a hs => ?_⟩
        refine qpe 0 [(6, pp b_4), (8, pp b_226)] hs fun a hs => hK227 _ _ ?_
        clear hK227
        refine qsr fun K231 hK231 => ?_
        refine qln 1 ([ci v_182.1, ci v_212.1, ci (-1)]) hs rfl fun a hs => ?_
        refine Vk.step (Vk.storeA (b := b_4) (ty := 28) (x := (.tmp 6)) (y := (.tmp 26)) (sz := 3) [ci v_182.1, ci v_212.1, ci (-1)] 8 hs (by kernel_rfl) (by kernel_rfl) (by kernel_rfl) (by kernel_rfl) (by kernel_rfl) rfl (by kernel_rfl) rfl (Eq.trans (b := 3) rfl (Eq.symm rfl)) fun a w hs => ?_)
        refine qpe 0 [(6, pp b_4)] hs fun a hs => hK231 _ _ ?_
        clear hK231
        refine wp_ret ?_
        exact Vk.retC (P := Try.prog) (fn := Try.f20) (R := RR) [ci v_182.1, ci v_212.1, ci (-1)] hs rfl (by kernel_rfl) (sz := 3) (by kernel_rfl) rfl (CellsAt.all 8 rfl) (by obtain rfl := Option.some.inj hm; subst hRR; exact ⟨rfl, (Own.to hs.own [0] 11 (by kernel_rfl) (by kernel_rfl))⟩)
      · replace hm := bif_f hm hb
        cases hm
    · replace hm := bif_f hm hb
      cases hm
  · replace hm := bif_f hm hb
    rcases Bool.eq_false_or_eq_true (v_10 == 3) with hb | hb
    · replace hm := bif_t hm hb
      obtain rfl := Vk.of_beq hb
      refine qpe 1 [(0, pp b_x0), (4, pp b_2), (5, pp b_3), (6, pp b_4), (11, .bool false)] hs fun a hs => hK6 _ _ ?_
      refine qcf hs ?_
      refine wp_skip ?_
      refine hK5 _ _ ?_
      refine qsr fun K232 hK232 => ?_
      refine qpu 1 hs fun a hs => ?_
      replace hs := hs.toEx (Twire_Machine.parts b_x0 x0) g_7 0 rfl
      obtain ⟨v_235, h_234, hm⟩ := bind_t hm
      refine Vk.step (Vk.call (some 15) 90 #[pp b_x0, vi 3] hs (by kernel_rfl) (by kernel_rfl) (by kernel_rfl) ?_)
      refine (wire_Machine_Begin.ok k x0 3 v_235 h_234 κ w (pt b_4 (blk [ci 0, ci 0, ci 0] 28) :: pt b_3 (blk x2 28) :: pt b_2 (blk x1 28) :: S) b_x0 (Own.to hs.own [0, 1, 2, 3] 4 (by kernel_rfl) (by kernel_rfl))).mono ?_
      rintro _ w ⟨rfl, how⟩
      refine ⟨_, _, _, rfl, how, fun a hs => ?_⟩
      refine qpe 0 [(0, pp b_x0), (4, pp b_2), (5, pp b_3), (6, pp b_4)] hs fun a hs => hK232 _ _ ?_
      clear hK232
      refine qsr fun K236 hK236 => ?_
      refine qpu 1 hs fun a hs => ?_
      obtain ⟨h_237, hm⟩ := ite_t hm
      refine Vk.step (Vk.value (some 17) (.agg (vals x1)) hs (by kernel_rfl) (op := (.load 28 (.tmp 4))) (by kernel_rfl) (fun o ho => run_loadN (cs := x1) ho (by kernel_rfl) (by kernel_rfl) h_237 (CellsAt.all 3 rfl) _ hs.own) fun a hs => ?_)
      obtain ⟨h_238, hm⟩ := ite_t hm
      refine Vk.step (Vk.value (some 18) (.agg (vals x2)) hs (by kernel_rfl) (op := (.load 28 (.tmp 5))) (by kernel_rfl) (fun o ho => run_loadN (cs := x2) ho (by kernel_rfl) (by kernel_rfl) h_238 (CellsAt.all 2 rfl) _ hs.own) fun a hs => ?_)
      refine Vk.step (Vk.call (some 19) 91 #[pp b_x0, .agg (vals x1), .agg (vals x2)] hs (by kernel_rfl) (by kernel_rfl) (by kernel_rfl) ?_)
      refine Vk.enterI [(0, pp b_x0), (1, .agg (vals x1)), (2, .agg (vals x2))] Try.func91 rfl Try.ntmps91 (by kernel_rfl) (Nat.le_of_ble_eq_true (by kernel_rfl)) hs.own fun KR239 hKR239 hKP239 a hs => ?_
      refine qsr fun K240 hK240 => ?_
      refine Vk.step (Vk.box (x := (.tmp 1)) 4 28 x1 hs (by kernel_rfl) (by kernel_rfl) (by kernel_rfl) fun b_241 w a hs => ?_)
      refine Vk.step (Vk.box (x := (.tmp 2)) 5 28 x2 hs (by kernel_rfl) (by kernel_rfl) (by kernel_rfl) fun b_242 w a hs => ?_)
      refine qpe 1 [(0, pp b_x0), (4, pp b_241), (5, pp b_242)] hs fun a hs => hK240 _ _ ?_
      clear hK240
      refine qsr fun K243 hK243 => ?_
      refine qpu 1 hs fun a hs => ?_
      refine Vk.step (Vk.mapOp 14 186 hs (by kernel_rfl) (by kernel_rfl) fun b_244 w a hs => ?_)
      refine qpu 1 hs fun a hs => ?_
      refine Vk.step (Vk.box (x := (.tmp 15)) 16 188 [cp b_x0, C.map (some b_244), ci 0, ci 0, ci 0, ci 0, ci 0, ci 0, ci 0, ci 0, ci 0] hs (by kernel_rfl) (by kernel_rfl) (by kernel_rfl) fun b_245 w a hs => ?_)
      refine qpe 1 [(0, pp b_x0), (4, pp b_241), (5, pp b_242), (7, pp b_245)] hs fun a hs => hK243 _ _ ?_
      clear hK243
      refine qsr fun K246 hK246 => ?_
      refine qpu 1 hs fun a hs => ?_
      obtain ⟨g_247, hs⟩ := hs.unex 4 rfl
      obtain ⟨v_250, h_249, hm⟩ := bind_t hm
      refine Vk.step (Vk.call (some 18) 89 #[pp b_x0] hs (by kernel_rfl) (by kernel_rfl) (by kernel_rfl) ?_)
      refine (wire_Machine_N.ok k v_235 v_250 h_249 κ w (pt b_245 (blk [cp b_x0, C.map (some b_244), ci 0, ci 0, ci 0, ci 0, ci 0, ci 0, ci 0, ci 0, ci 0] 188) :: pt b_244 (.map #[] 0) :: pt b_242 (blk x2 28) :: pt b_241 (blk x1 28) :: pt b_4 (blk [ci 0, ci 0, ci 0] 28) :: pt b_3 (blk x2 28) :: pt b_2 (blk x1 28) :: S) b_x0 g_247 (Own.to hs.own [4, 0, 1, 2, 3, 5, 6, 7] 8 (by kernel_rfl) (by kernel_rfl))).mono ?_
      rintro _ w ⟨rfl, how⟩
      refine ⟨_, _, _, rfl, how, fun a hs => ?_⟩
      rcases Bool.eq_false_or_eq_true (v_250 == 3) with hb | hb
      · replace hm := bif_t hm hb
        obtain rfl := Vk.of_beq hb
        refine qpe 1 [(0, pp b_x0), (4, pp b_241), (5, pp b_242), (7, pp b_245), (8, vi 3)] hs fun a hs => hK246 _ _ ?_
        clear hK246
        refine Vk.seq fun K251 hK251 => ?_
        refine qsr fun K252 hK252 => ?_
        refine qpe 2 [(0, pp b_x0), (4, pp b_241), (5, pp b_242), (7, pp b_245), (8, vi 3), (19, vi 3), (20, vi 0)] hs fun a hs => hK252 _ _ ?_
        clear hK252
        refine wp_block ?_
        refine Vk.unroll0 40 ?_
        refine Vk.unroll fun KL253 hKL253 => ?_
        refine qsr fun K254 hK254 => ?_
        refine qpe 1 [(0, pp b_x0), (4, pp b_241), (5, pp b_242), (7, pp b_245), (8, vi 3), (19, vi 3), (20, vi 0), (21, .bool true)] hs fun a hs => hK254 _ _ ?_
        clear hK254
        refine Vk.seq fun K255 hK255 => ?_
        refine qct hs ?_
        refine wp_skip ?_
        refine hK255 _ _ ?_
        clear hK255
        refine Vk.seq fun K256 hK256 => ?_
        refine wp_block ?_
        refine qsr fun K257 hK257 => ?_
        refine qpe 2 [(0, pp b_x0), (4, pp b_241), (5, pp b_242), (7, pp b_245), (8, vi 3), (9, vi 0), (19, vi 3), (20, vi 0)] hs fun a hs => hK257 _ _ ?_
        clear hK257
        refine qsr fun K258 hK258 => ?_
        refine qpe 3 [(0, pp b_x0), (4, pp b_241), (5, pp b_242), (7, pp b_245), (8, vi 3), (9, vi 0), (10, vi 1), (19, vi 3), (20, vi 0)] hs fun a hs => hK258 _ _ ?_
        clear hK258
        refine wp_block ?_
        refine Vk.unroll0 40 ?_
        refine Vk.unroll fun KL259 hKL259 => ?_
        refine Vk.seq fun K260 hK260 => ?_
        refine qsr fun K261 hK261 => ?_
        refine qpe 3 [(0, pp b_x0), (4, pp b_241), (5, pp b_242), (7, pp b_245), (8, vi 3), (9, vi 0), (10, vi 1), (19, vi 3), (20, vi 0), (27, .bool true)] hs fun a hs => hK261 _ _ ?_
        clear hK261
        refine qct hs ?_
        refine wp_skip ?_
        refine hK260 _ _ ?_
        clear hK260
        refine Vk.seq fun K262 hK262 => ?_
        refine wp_block ?_
        obtain ⟨C_263, hC_263⟩ : ∃ X0 : List HP, X0 = (pt b_245 (blk [cp b_x0, C.map (some b_244), ci 0, ci 0, ci 0, ci 0, ci 0, ci 0, ci 0, ci 0, ci 0] 188) :: pt b_244 (.map #[] 0) :: pt b_242 (blk x2 28) :: pt b_241 (blk x1 28) :: pt b_4 (blk [ci 0, ci 0, ci 0] 28) :: pt b_3 (blk x2 28) :: pt b_2 (blk x1 28) :: S) := ⟨_, rfl⟩
        refine qdr 9 κ C_263 hs fun w hs hqC_263 => ?_
        have hcz : Own κ w (pt b_245 (blk [cp b_x0, C.map (some b_244), ci 0, ci 0, ci 0, ci 0, ci 0, ci 0, ci 0, ci 0, ci 0] 188) :: pt b_244 (.map #[] 0) :: pt b_242 (blk x2 28) :: pt b_241 (blk x1 28) :: pt b_4 (blk [ci 0, ci 0, ci 0] 28) :: pt b_3 (blk x2 28) :: pt b_2 (blk x1 28) :: S) := (Own.to hs.own [1, 2, 3, 4, 5, 6, 7] 8 (by kernel_rfl) (by kernel_rfl))
        have hcl : Own κ w C_263 := by rw [hC_263]; exact hcz
        refine qdp (fuel := 3) [0, 1, 2, 4, 5, 6, 7] hs hcl hqC_263 fun a hs => ?_
        refine qdl 3 0 (C.map (some b_244)) hs hcl hqC_263 hC_263 rfl fun a hs => ?_
        replace hs := hs.toEx (Twire_Machine.parts b_x0 v_235) g_247 0 rfl
        obtain ⟨v_266, h_265, hm⟩ := bind_t hm
        refine Vk.dOnly (i := 8) (by kernel_rfl) (Vk.call (some 38) 120 #[pp b_x0, vi (-1)] hs (by kernel_rfl) (by kernel_rfl) (by kernel_rfl) ?_)
        refine (wire_Machine_Rand.ok k v_235 (-1) v_266 h_265 κ w (pt b_245 (blk [cp b_x0, C.map (some b_244), ci 0, ci 0, ci 0, ci 0, ci 0, ci 0, ci 0, ci 0, ci 0] 188) :: pt b_244 (.map #[] 0) :: pt b_242 (blk x2 28) :: pt b_241 (blk x1 28) :: pt b_4 (blk [ci 0, ci 0, ci 0] 28) :: pt b_3 (blk x2 28) :: pt b_2 (blk x1 28) :: S) b_x0 (Own.to hs.own [0, 1, 2, 3, 4, 5, 6, 7] 8 (by kernel_rfl) (by kernel_rfl))).mono ?_
        rintro _ w ⟨rfl, how⟩
        refine ⟨_, _, _, rfl, how, fun a hs => ?_⟩
        replace hcl : Own κ w C_263 := by rw [hC_263]; exact (Own.to hs.own [1, 2, 3, 4, 5, 6, 7] 8 (by kernel_rfl) (by kernel_rfl))
        refine ⟨fun _ => hcl, ?_⟩
        refine Vk.dOnly (i := 9) (by kernel_rfl) (Vk.updateOp (t := 186) (xm := (.tmp 33)) (xk := (.tmp 36)) (xv := (.tmp 38)) (b := b_244) (es' := #[⟨.agg (vals [ci 0, ci 1]), vi v_266.1, 0⟩]) (clock' := 1) (.agg (vals [ci 0, ci 1])) (vi v_266.1) 2 hs (by kernel_rfl) (by kernel_rfl) (by kernel_rfl) (by kernel_rfl) (by kernel_rfl) rfl (by kernel_rfl) fun a w hs => ?_)
        refine ⟨fun h => absurd h (by decide), ?_⟩
        replace hs := hs.pick [0, 4, 5, 7, 8, 9, 10, 19, 20] (L' := [(0, pp b_x0), (4, pp b_241), (5, pp b_242), (7, pp b_245), (8, vi 3), (9, vi 0), (10, vi 1), (19, vi 3), (20, vi 0)]) (by kernel_rfl)
        refine Vk.dDone (by kernel_rfl) ?_
        refine hK262 _ _ ?_
        clear hK262
        refine Vk.region ?_
        refine qpe 3 [(0, pp b_x0), (4, pp b_241), (5, pp b_242), (7, pp b_245), (8, vi 3), (9, vi 0), (10, vi 2), (19, vi 3), (20, vi 0)] hs fun a hs => hKL259 _ _ ?_
        clear hKL259
        refine Vk.unroll fun KL267 hKL267 => ?_
        refine Vk.seq fun K268 hK268 => ?_
        refine qsr fun K269 hK269 => ?_
        refine qpe 3 [(0, pp b_x0), (4, pp b_241), (5, pp b_242), (7, pp b_245), (8, vi 3), (9, vi 0), (10, vi 2), (19, vi 3), (20, vi 0), (27, .bool true)] hs fun a hs => hK269 _ _ ?_
        clear hK269
        refine qct hs ?_
        refine wp_skip ?_
        refine hK268 _ _ ?_
        clear hK268
        refine Vk.seq fun K270 hK270 => ?_
        refine wp_block ?_
        obtain ⟨C_271, hC_271⟩ : ∃ X0 : List HP, X0 = (pt b_245 (blk [cp b_x0, C.map (some b_244), ci 0, ci 0, ci 0, ci 0, ci 0, ci 0, ci 0, ci 0, ci 0] 188) :: pt b_244 (.map #[⟨.agg (vals [ci 0, ci 1]), vi v_266.1, 0⟩] 1) :: pt b_242 (blk x2 28) :: pt b_241 (blk x1 28) :: pt b_4 (blk [ci 0, ci 0, ci 0] 28) :: pt b_3 (blk x2 28) :: pt b_2 (blk x1 28) :: S) := ⟨_, rfl⟩
        refine qdr 9 κ C_271 hs fun w hs hqC_271 => ?_
        have hcz : Own κ w (pt b_245 (blk [cp b_x0, C.map (some b_244), ci 0, ci 0, ci 0, ci 0, ci 0, ci 0, ci 0, ci 0, ci 0] 188) :: pt b_244 (.map #[⟨.agg (vals [ci 0, ci 1]), vi v_266.1, 0⟩] 1) :: pt b_242 (blk x2 28) :: pt b_241 (blk x1 28) :: pt b_4 (blk [ci 0, ci 0, ci 0] 28) :: pt b_3 (blk x2 28) :: pt b_2 (blk x1 28) :: S) := (Own.to hs.own [1, 2, 3, 4, 5, 6, 7] 8 (by kernel_rfl) (by kernel_rfl))
        have hcl : Own κ w C_271 := by rw [hC_271]; exact hcz
        refine qdp (fuel := 3) [0, 1, 2, 4, 5, 6, 7] hs hcl hqC_271 fun a hs => ?_
        refine qdl 3 0 (C.map (some b_244)) hs hcl hqC_271 hC_271 rfl fun a hs => ?_
        obtain ⟨v_274, h_273, hm⟩ := bind_t hm
        refine Vk.dOnly (i := 8) (by kernel_rfl) (Vk.call (some 38) 120 #[pp b_x0, vi (-1)] hs (by kernel_rfl) (by kernel_rfl) (by kernel_rfl) ?_)
        refine (wire_Machine_Rand.ok k v_266.2 (-1) v_274 h_273 κ w (pt b_245 (blk [cp b_x0, C.map (some b_244), ci 0, ci 0, ci 0, ci 0, ci 0, ci 0, ci 0, ci 0, ci 0] 188) :: pt b_244 (.map #[⟨.agg (vals [ci 0, ci 1]), vi v_266.1, 0⟩] 1) :: pt b_242 (blk x2 28) :: pt b_241 (blk x1 28) :: pt b_4 (blk [ci 0, ci 0, ci 0] 28) :: pt b_3 (blk x2 28) :: pt b_2 (blk x1 28) :: S) b_x0 (Own.to hs.own [0, 1, 2, 3, 4, 5, 6, 7] 8 (by kernel_rfl) (by kernel_rfl))).mono ?_
        rintro _ w ⟨rfl, how⟩
        refine ⟨_, _, _, rfl, how, fun a hs => ?_⟩
        replace hcl : Own κ w C_271 := by rw [hC_271]; exact (Own.to hs.own [1, 2, 3, 4, 5, 6, 7] 8 (by kernel_rfl) (by kernel_rfl))
        refine ⟨fun _ => hcl, ?_⟩
        refine Vk.dOnly (i := 9) (by kernel_rfl) (Vk.updateOp (t := 186) (xm := (.tmp 33)) (xk := (.tmp 36)) (xv := (.tmp 38)) (b := b_244) (es' := #[⟨.agg (vals [ci 0, ci 1]), vi v_266.1, 0⟩, ⟨.agg (vals [ci 0, ci 2]), vi v_274.1, 1⟩]) (clock' := 2) (.agg (vals [ci 0, ci 2])) (vi v_274.1) 2 hs (by kernel_rfl) (by kernel_rfl) (by kernel_rfl) (by kernel_rfl) (by kernel_rfl) rfl (by kernel_rfl) fun a w hs => ?_)
        refine ⟨fun h => absurd h (by decide), ?_⟩
        replace hs := hs.pick [0, 4, 5, 7, 8, 9, 10, 19, 20] (L' := [(0, pp b_x0), (4, pp b_241), (5, pp b_242), (7, pp b_245), (8, vi 3), (9, vi 0), (10, vi 2), (19, vi 3), (20, vi 0)]) (by kernel_rfl)
        refine Vk.dDone (by kernel_rfl) ?_
        refine hK270 _ _ ?_
        clear hK270
        refine Vk.region ?_
        refine qpe 3 [(0, pp b_x0), (4, pp b_241), (5, pp b_242), (7, pp b_245), (8, vi 3), (9, vi 0), (10, vi 3), (19, vi 3), (20, vi 0)] hs fun a hs => hKL267 _ _ ?_
        clear hKL267
        refine Vk.unroll fun KL275 hKL275 => ?_
        refine Vk.seq fun K276 hK276 => ?_
        refine qsr fun K277 hK277 => ?_
        refine qpe 3 [(0, pp b_x0), (4, pp b_241), (5, pp b_242), (7, pp b_245), (8, vi 3), (9, vi 0), (10, vi 3), (19, vi 3), (20, vi 0), (27, .bool false)] hs fun a hs => hK277 _ _ ?_
        clear hK277
        refine qcf hs ?_
        refine wp_exit ?_
        refine hK256 _ _ ?_
        clear hK256
        refine Vk.region ?_
        refine qpe 2 [(0, pp b_x0), (4, pp b_241), (5, pp b_242), (7, pp b_245), (8, vi 3), (19, vi 3), (20, vi 1)] hs fun a hs => hKL253 _ _ ?_
        clear hKL253
        refine Vk.unroll fun KL278 hKL278 => ?_
        refine qsr fun K279 hK279 => ?_
        refine qpe 1 [(0, pp b_x0), (4, pp b_241), (5, pp b_242), (7, pp b_245), (8, vi 3), (19, vi 3), (20, vi 1), (21, .bool true)] hs fun a hs => hK279 _ _ ?_
        clear hK279
        refine Vk.seq fun K280 hK280 => ?_
        refine qct hs ?_
        refine wp_skip ?_
        refine hK280 _ _ ?_
        clear hK280
        refine Vk.seq fun K281 hK281 => ?_
        refine wp_block ?_
        refine qsr fun K282 hK282 => ?_
        refine qpe 2 [(0, pp b_x0), (4, pp b_241), (5, pp b_242), (7, pp b_245), (8, vi 3), (9, vi 1), (19, vi 3), (20, vi 1)] hs fun a hs => hK282 _ _ ?_
        clear hK282
        refine qsr fun K283 hK283 => ?_
        refine qpe 3 [(0, pp b_x0), (4, pp b_241), (5, pp b_242), (7, pp b_245), (8, vi 3), (9, vi 1), (10, vi 2), (19, vi 3), (20, vi 1)] hs fun a hs => hK283 _ _ ?_
        clear hK283
        refine wp_block ?_
        refine Vk.unroll0 40 ?_
        refine Vk.unroll fun KL284 hKL284 => ?_
        refine Vk.seq fun K285 hK285 => ?_
        refine qsr fun K286 hK286 => ?_
        refine qpe 3 [(0, pp b_x0), (4, pp b_241), (5, pp b_242), (7, pp b_245), (8, vi 3), (9, vi 1), (10, vi 2), (19, vi 3), (20, vi 1), (27, .bool true)] hs fun a hs => hK286 _ _ ?_
        clear hK286
        refine qct hs ?_
        refine wp_skip ?_
        refine hK285 _ _ ?_
        clear hK285
        refine Vk.seq fun K287 hK287 => ?_
        refine wp_block ?_
        obtain ⟨C_288, hC_288⟩ : ∃ X0 : List HP, X0 = (pt b_245 (blk [cp b_x0, C.map (some b_244), ci 0, ci 0, ci 0, ci 0, ci 0, ci 0, ci 0, ci 0, ci 0] 188) :: pt b_244 (.map #[⟨.agg (vals [ci 0, ci 1]), vi v_266.1, 0⟩, ⟨.agg (vals [ci 0, ci 2]), vi v_274.1, 1⟩] 2) :: pt b_242 (blk x2 28) :: pt b_241 (blk x1 28) :: pt b_4 (blk [ci 0, ci 0, ci 0] 28) :: pt b_3 (blk x2 28) :: pt b_2 (blk x1 28) :: S) := ⟨_, rfl⟩
        refine qdr 9 κ C_288 hs fun w hs hqC_288 => ?_
        have hcz : Own κ w (pt b_245 (blk [cp b_x0, C.map (some b_244), ci 0, ci 0, ci 0, ci 0, ci 0, ci 0, ci 0, ci 0, ci 0] 188) :: pt b_244 (.map #[⟨.agg (vals [ci 0, ci 1]), vi v_266.1, 0⟩, ⟨.agg (vals [ci 0, ci 2]), vi v_274.1, 1⟩] 2) :: pt b_242 (blk x2 28) :: pt b_241 (blk x1 28) :: pt b_4 (blk [ci 0, ci 0, ci 0] 28) :: pt b_3 (blk x2 28) :: pt b_2 (blk x1 28) :: S) := (Own.to hs.own [1, 2, 3, 4, 5, 6, 7] 8 (by kernel_rfl) (by kernel_rfl))
        have hcl : Own κ w C_288 := by rw [hC_288]; exact hcz
        refine qdp (fuel := 3) [0, 1, 2, 4, 5, 6, 7] hs hcl hqC_288 fun a hs => ?_
        refine qdl 3 0 (C.map (some b_244)) hs hcl hqC_288 hC_288 rfl fun a hs => ?_
        obtain ⟨v_291, h_290, hm⟩ := bind_t hm
        refine Vk.dOnly (i := 8) (by kernel_rfl) (Vk.call (some 38) 120 #[pp b_x0, vi (-1)] hs (by kernel_rfl) (by kernel_rfl) (by kernel_rfl) ?_)
        refine (wire_Machine_Rand.ok k v_274.2 (-1) v_291 h_290 κ w (pt b_245 (blk [cp b_x0, C.map (some b_244), ci 0, ci 0, ci 0, ci 0, ci 0, ci 0, ci 0, ci 0, ci 0] 188) :: pt b_244 (.map #[⟨.agg (vals [ci 0, ci 1]), vi v_266.1, 0⟩, ⟨.agg (vals [ci 0, ci 2]), vi v_274.1, 1⟩] 2) :: pt b_242 (blk x2 28) :: pt b_241 (blk x1 28) :: pt b_4 (blk [ci 0, ci 0, ci 0] 28) :: pt b_3 (blk x2 28) :: pt b_2 (blk x1 28) :: S) b_x0 (Own.to hs.own [0, 1, 2, 3, 4, 5, 6, 7] 8 (by kernel_rfl) (by kernel_rfl))).mono ?_
        rintro _ w ⟨rfl, how⟩
        refine ⟨_, _, _, rfl, how, fun a hs => ?_⟩
        replace hcl : Own κ w C_288 := by rw [hC_288]; exact (Own.to hs.own [1, 2, 3, 4, 5, 6, 7] 8 (by kernel_rfl) (by kernel_rfl))
        refine ⟨fun _ => hcl, ?_⟩
        refine Vk.dOnly (i := 9) (by kernel_rfl) (Vk.updateOp (t := 186) (xm := (.tmp 33)) (xk := (.tmp 36)) (xv := (.tmp 38)) (b := b_244) (es' := #[⟨.agg (vals [ci 0, ci 1]), vi v_266.1, 0⟩, ⟨.agg (vals [ci 0, ci 2]), vi v_274.1, 1⟩, ⟨.agg (vals [ci 1, ci 2]), vi v_291.1, 2⟩]) (clock' := 3) (.agg (vals [ci 1, ci 2])) (vi v_291.1) 2 hs (by kernel_rfl) (by kernel_rfl) (by kernel_rfl) (by kernel_rfl) (by kernel_rfl) rfl (by kernel_rfl) fun a w hs => ?_)
        refine ⟨fun h => absurd h (by decide), ?_⟩
        replace hs := hs.pick [0, 4, 5, 7, 8, 9, 10, 19, 20] (L' := [(0, pp b_x0), (4, pp b_241), (5, pp b_242), (7, pp b_245), (8, vi 3), (9, vi 1), (10, vi 2), (19, vi 3), (20, vi 1)]) (by kernel_rfl)
        refine Vk.dDone (by kernel_rfl) ?_
        refine hK287 _ _ ?_
        clear hK287
        refine Vk.region ?_
        refine qpe 3 [(0, pp b_x0), (4, pp b_241), (5, pp b_242), (7, pp b_245), (8, vi 3), (9, vi 1), (10, vi 3), (19, vi 3), (20, vi 1)] hs fun a hs => hKL284 _ _ ?_
        clear hKL284
        refine Vk.unroll fun KL292 hKL292 => ?_
        refine Vk.seq fun K293 hK293 => ?_
        refine qsr fun K294 hK294 => ?_
        refine qpe 3 [(0, pp b_x0), (4, pp b_241), (5, pp b_242), (7, pp b_245), (8, vi 3), (9, vi 1), (10, vi 3), (19, vi 3), (20, vi 1), (27, .bool false)] hs fun a hs => hK294 _ _ ?_
        clear hK294
        refine qcf hs ?_
        refine wp_exit ?_
        refine hK281 _ _ ?_
        clear hK281
        refine Vk.region ?_
        refine qpe 2 [(0, pp b_x0), (4, pp b_241), (5, pp b_242), (7, pp b_245), (8, vi 3), (19, vi 3), (20, vi 2)] hs fun a hs => hKL278 _ _ ?_
        clear hKL278
        refine Vk.unroll fun KL295 hKL295 => ?_
        refine qsr fun K296 hK296 => ?_
        refine qpe 1 [(0, pp b_x0), (4, pp b_241), (5, pp b_242), (7, pp b_245), (8, vi 3), (19, vi 3), (20, vi 2), (21, .bool true)] hs fun a hs => hK296 _ _ ?_
        clear hK296
        refine Vk.seq fun K297 hK297 => ?_
        refine qct hs ?_
        refine wp_skip ?_
        refine hK297 _ _ ?_
        clear hK297
        refine Vk.seq fun K298 hK298 => ?_
        refine wp_block ?_
        refine qsr fun K299 hK299 => ?_
        refine qpe 2 [(0, pp b_x0), (4, pp b_241), (5, pp b_242), (7, pp b_245), (8, vi 3), (9, vi 2), (19, vi 3), (20, vi 2)] hs fun a hs => hK299 _ _ ?_
        clear hK299
        refine qsr fun K300 hK300 => ?_
        refine qpe 3 [(0, pp b_x0), (4, pp b_241), (5, pp b_242), (7, pp b_245), (8, vi 3), (9, vi 2), (10, vi 3), (19, vi 3), (20, vi 2)] hs fun a hs => hK300 _ _ ?_
        clear hK300
        refine wp_block ?_
        refine Vk.unroll0 40 ?_
        refine Vk.unroll fun KL301 hKL301 => ?_
        refine Vk.seq fun K302 hK302 => ?_
        refine qsr fun K303 hK303 => ?_
        refine qpe 3 [(0, pp b_x0), (4, pp b_241), (5, pp b_242), (7, pp b_245), (8, vi 3), (9, vi 2), (10, vi 3), (19, vi 3), (20, vi 2), (27, .bool false)] hs fun a hs => hK303 _ _ ?_
        clear hK303
        refine qcf hs ?_
        refine wp_exit ?_
        refine hK298 _ _ ?_
        clear hK298
        refine Vk.region ?_
        refine qpe 2 [(0, pp b_x0), (4, pp b_241), (5, pp b_242), (7, pp b_245), (8, vi 3), (19, vi 3), (20, vi 3)] hs fun a hs => hKL295 _ _ ?_
        clear hKL295
        refine Vk.unroll fun KL304 hKL304 => ?_
        refine qsr fun K305 hK305 => ?_
        refine qpe 1 [(0, pp b_x0), (4, pp b_241), (5, pp b_242), (7, pp b_245), (8, vi 3), (19, vi 3), (20, vi 3), (21, .bool false)] hs fun a hs => hK305 _ _ ?_
        clear hK305
        refine Vk.seq fun K306 hK306 => ?_
        refine qcf hs ?_
        refine wp_exit ?_
        refine hK251 _ _ ?_
        clear hK251
        refine Vk.seq fun K307 hK307 => ?_
        refine qsr fun K308 hK308 => ?_
        refine qpe 2 [(0, pp b_x0), (4, pp b_241), (5, pp b_242), (7, pp b_245), (8, vi 3), (40, vi 3), (41, vi 0)] hs fun a hs => hK308 _ _ ?_
        clear hK308
        refine wp_block ?_
        refine Vk.unroll0 40 ?_
        refine Vk.unroll fun KL309 hKL309 => ?_
        refine qsr fun K310 hK310 => ?_
        refine qpe 1 [(0, pp b_x0), (4, pp b_241), (5, pp b_242), (7, pp b_245), (8, vi 3), (40, vi 3), (41, vi 0), (42, .bool true)] hs fun a hs => hK310 _ _ ?_
        clear hK310
        refine Vk.seq fun K311 hK311 => ?_
        refine qct hs ?_
        refine wp_skip ?_
        refine hK311 _ _ ?_
        clear hK311
        refine Vk.seq fun K312 hK312 => ?_
        refine wp_block ?_
        refine qsr fun K313 hK313 => ?_
        refine qpe 2 [(0, pp b_x0), (4, pp b_241), (5, pp b_242), (7, pp b_245), (8, vi 3), (11, vi 0), (40, vi 3), (41, vi 0)] hs fun a hs => hK313 _ _ ?_
        clear hK313
        refine qsr fun K314 hK314 => ?_
        refine qpe 2 [(0, pp b_x0), (4, pp b_241), (5, pp b_242), (7, pp b_245), (8, vi 3), (11, vi 0), (40, vi 3), (41, vi 0), (44, vi 3), (45, vi 0)] hs fun a hs => hK314 _ _ ?_
        clear hK314
        refine wp_block ?_
        refine Vk.unroll0 40 ?_
        refine Vk.unroll fun KL315 hKL315 => ?_
        refine qsr fun K316 hK316 => ?_
        refine qpe 1 [(0, pp b_x0), (4, pp b_241), (5, pp b_242), (7, pp b_245), (8, vi 3), (11, vi 0), (40, vi 3), (41, vi 0), (44, vi 3), (45, vi 0), (46, .bool true)] hs fun a hs => hK316 _ _ ?_
        clear hK316
        refine Vk.seq fun K317 hK317 => ?_
        refine qct hs ?_
        refine wp_skip ?_
        refine hK317 _ _ ?_
        clear hK317
        refine Vk.seq fun K318 hK318 => ?_
        refine wp_block ?_
        refine qsr fun K319 hK319 => ?_
        refine qpe 2 [(0, pp b_x0), (4, pp b_241), (5, pp b_242), (7, pp b_245), (8, vi 3), (11, vi 0), (12, vi 0), (40, vi 3), (41, vi 0), (44, vi 3), (45, vi 0)] hs fun a hs => hK319 _ _ ?_
        clear hK319
        obtain ⟨C_320, hC_320⟩ : ∃ X0 : List HP, X0 = (pt b_245 (blk [cp b_x0, C.map (some b_244), ci 0, ci 0, ci 0, ci 0, ci 0, ci 0, ci 0, ci 0, ci 0] 188) :: pt b_244 (.map #[⟨.agg (vals [ci 0, ci 1]), vi v_266.1, 0⟩, ⟨.agg (vals [ci 0, ci 2]), vi v_274.1, 1⟩, ⟨.agg (vals [ci 1, ci 2]), vi v_291.1, 2⟩] 3) :: pt b_242 (blk x2 28) :: pt b_241 (blk x1 28) :: pt b_4 (blk [ci 0, ci 0, ci 0] 28) :: pt b_3 (blk x2 28) :: pt b_2 (blk x1 28) :: S) := ⟨_, rfl⟩
        refine qdr 18 κ C_320 hs fun w hs hqC_320 => ?_
        have hcz : Own κ w (pt b_245 (blk [cp b_x0, C.map (some b_244), ci 0, ci 0, ci 0, ci 0, ci 0, ci 0, ci 0, ci 0, ci 0] 188) :: pt b_244 (.map #[⟨.agg (vals [ci 0, ci 1]), vi v_266.1, 0⟩, ⟨.agg (vals [ci 0, ci 2]), vi v_274.1, 1⟩, ⟨.agg (vals [ci 1, ci 2]), vi v_291.1, 2⟩] 3) :: pt b_242 (blk x2 28) :: pt b_241 (blk x1 28) :: pt b_4 (blk [ci 0, ci 0, ci 0] 28) :: pt b_3 (blk x2 28) :: pt b_2 (blk x1 28) :: S) := (Own.to hs.own [1, 2, 3, 4, 5, 6, 7] 8 (by kernel_rfl) (by kernel_rfl))
        have hcl : Own κ w C_320 := by rw [hC_320]; exact hcz
        refine qdp (fuel := 5) [0, 1, 2, 3, 4, 5, 6, 7, 9, 10, 11, 14, 15, 16] hs hcl hqC_320 fun a hs => ?_
        obtain ⟨v_322, h_321, hm⟩ := bind_t hm
        refine Vk.dTakeT (i := 8) (some 56) (vi v_322) hs (by kernel_rfl) hqC_320 hcl (by kernel_rfl) (by kernel_rfl) (op := (.load 3 (.tmp 55))) (by kernel_rfl) (by kernel_rfl) (fun w hw o ho => by rw [hC_320] at hw; exact run_load1 (c := ci v_322) ho (by kernel_rfl) (by kernel_rfl) (Cell.own 3 rfl (getI_some h_321)) _ hw) fun a hs => ?_
        obtain ⟨v_324, h_323, hm⟩ := bind_t hm
        refine Vk.dTakeT (i := 12) (some 60) (vi v_324) hs (by kernel_rfl) hqC_320 hcl (by kernel_rfl) (by kernel_rfl) (op := (.load 3 (.tmp 59))) (by kernel_rfl) (by kernel_rfl) (fun w hw o ho => by rw [hC_320] at hw; exact run_load1 (c := ci v_324) ho (by kernel_rfl) (by kernel_rfl) (Cell.own 2 rfl (getI_some h_323)) _ hw) fun a hs => ?_
        obtain ⟨v_327, h_326, hm⟩ := bind_t hm
        refine Vk.dOnly (i := 13) (by kernel_rfl) (Vk.call (some 61) 150 #[pp b_x0, vi 7, vi 0, vi v_322, vi v_324] hs (by kernel_rfl) (by kernel_rfl) (by kernel_rfl) ?_)
        refine (wire_Machine_Two.ok k v_291.2 7 0 v_322 v_324 v_327 h_326 κ w (pt b_245 (blk [cp b_x0, C.map (some b_244), ci 0, ci 0, ci 0, ci 0, ci 0, ci 0, ci 0, ci 0, ci 0] 188) :: pt b_244 (.map #[⟨.agg (vals [ci 0, ci 1]), vi v_266.1, 0⟩, ⟨.agg (vals [ci 0, ci 2]), vi v_274.1, 1⟩, ⟨.agg (vals [ci 1, ci 2]), vi v_291.1, 2⟩] 3) :: pt b_242 (blk x2 28) :: pt b_241 (blk x1 28) :: pt b_4 (blk [ci 0, ci 0, ci 0] 28) :: pt b_3 (blk x2 28) :: pt b_2 (blk x1 28) :: S) b_x0 (Own.to hs.own [0, 1, 2, 3, 4, 5, 6, 7] 8 (by kernel_rfl) (by kernel_rfl))).mono ?_
        rintro _ w ⟨rfl, how⟩
        refine ⟨_, _, _, rfl, how, fun a hs => ?_⟩
        replace hcl : Own κ w C_320 := by rw [hC_320]; exact (Own.to hs.own [1, 2, 3, 4, 5, 6, 7] 8 (by kernel_rfl) (by kernel_rfl))
        refine ⟨fun _ => hcl, ?_⟩
        refine qdp (fuel := 1) [17] hs hcl hqC_320 fun a hs => ?_
        refine Vk.dOnly (i := 18) (by kernel_rfl) (Vk.store1 (b := b_245) (ty := 3) (x := (.tmp 65)) (y := (.tmp 61)) (off := 2) (ci v_327.1) 1 hs (by kernel_rfl) (by kernel_rfl) (by kernel_rfl) (by kernel_rfl) (by kernel_rfl) (by kernel_rfl) rfl (Nat.le_of_ble_eq_true (by kernel_rfl)) fun a w hs => ?_)
        refine ⟨fun h => absurd h (by decide), ?_⟩
        replace hs := hs.pick [0, 4, 5, 7, 8, 11, 40, 41, 44, 45] (L' := [(0, pp b_x0), (4, pp b_241), (5, pp b_242), (7, pp b_245), (8, vi 3), (11, vi 0), (40, vi 3), (41, vi 0), (44, vi 3), (45, vi 0)]) (by kernel_rfl)
        refine Vk.dDone (by kernel_rfl) ?_
        refine hK318 _ _ ?_
        clear hK318
        refine Vk.region ?_
        refine qpe 2 [(0, pp b_x0), (4, pp b_241), (5, pp b_242), (7, pp b_245), (8, vi 3), (11, vi 0), (40, vi 3), (41, vi 0), (44, vi 3), (45, vi 1)] hs fun a hs => hKL315 _ _ ?_
        clear hKL315
        refine Vk.unroll fun KL328 hKL328 => ?_
        refine qsr fun K329 hK329 => ?_
        refine qpe 1 [(0, pp b_x0), (4, pp b_241), (5, pp b_242), (7, pp b_245), (8, vi 3), (11, vi 0), (40, vi 3), (41, vi 0), (44, vi 3), (45, vi 1), (46, .bool true)] hs fun a hs => hK329 _ _ ?_
        clear hK329
        refine Vk.seq fun K330 hK330 => ?_
        refine qct hs ?_
        refine wp_skip ?_
        refine hK330 _ _ ?_
        clear hK330
        refine Vk.seq fun K331 hK331 => ?_
        refine wp_block ?_
        refine qsr fun K332 hK332 => ?_
        refine qpe 2 [(0, pp b_x0), (4, pp b_241), (5, pp b_242), (7, pp b_245), (8, vi 3), (11, vi 0), (12, vi 1), (40, vi 3), (41, vi 0), (44, vi 3), (45, vi 1)] hs fun a hs => hK332 _ _ ?_
        clear hK332
        obtain ⟨C_333, hC_333⟩ : ∃ X0 : List HP, X0 = (pt b_245 (blk [cp b_x0, C.map (some b_244), ci v_327.1, ci 0, ci 0, ci 0, ci 0, ci 0, ci 0, ci 0, ci 0] 188) :: pt b_244 (.map #[⟨.agg (vals [ci 0, ci 1]), vi v_266.1, 0⟩, ⟨.agg (vals [ci 0, ci 2]), vi v_274.1, 1⟩, ⟨.agg (vals [ci 1, ci 2]), vi v_291.1, 2⟩] 3) :: pt b_242 (blk x2 28) :: pt b_241 (blk x1 28) :: pt b_4 (blk [ci 0, ci 0, ci 0] 28) :: pt b_3 (blk x2 28) :: pt b_2 (blk x1 28) :: S) := ⟨_, rfl⟩
        refine qdr 18 κ C_333 hs fun w hs hqC_333 => ?_
        have hcz : Own κ w (pt b_245 (blk [cp b_x0, C.map (some b_244), ci v_327.1, ci 0, ci 0, ci 0, ci 0, ci 0, ci 0, ci 0, ci 0] 188) :: pt b_244 (.map #[⟨.agg (vals [ci 0, ci 1]), vi v_266.1, 0⟩, ⟨.agg (vals [ci 0, ci 2]), vi v_274.1, 1⟩, ⟨.agg (vals [ci 1, ci 2]), vi v_291.1, 2⟩] 3) :: pt b_242 (blk x2 28) :: pt b_241 (blk x1 28) :: pt b_4 (blk [ci 0, ci 0, ci 0] 28) :: pt b_3 (blk x2 28) :: pt b_2 (blk x1 28) :: S) := (Own.to hs.own [1, 2, 3, 4, 5, 6, 7] 8 (by kernel_rfl) (by kernel_rfl))
        have hcl : Own κ w C_333 := by rw [hC_333]; exact hcz
        refine qdp (fuel := 5) [0, 1, 2, 3, 4, 5, 6, 7, 9, 10, 11, 14, 15, 16] hs hcl hqC_333 fun a hs => ?_
        obtain ⟨v_335, h_334, hm⟩ := bind_t hm
        refine Vk.dTakeT (i := 8) (some 56) (vi v_335) hs (by kernel_rfl) hqC_333 hcl (by kernel_rfl) (by kernel_rfl) (op := (.load 3 (.tmp 55))) (by kernel_rfl) (by kernel_rfl) (fun w hw o ho => by rw [hC_333] at hw; exact run_load1 (c := ci v_335) ho (by kernel_rfl) (by kernel_rfl) (Cell.own 3 rfl (getI_some h_334)) _ hw) fun a hs => ?_
        obtain ⟨v_337, h_336, hm⟩ := bind_t hm
        refine Vk.dTakeT (i := 12) (some 60) (vi v_337) hs (by kernel_rfl) hqC_333 hcl (by kernel_rfl) (by kernel_rfl) (op := (.load 3 (.tmp 59))) (by kernel_rfl) (by kernel_rfl) (fun w hw o ho => by rw [hC_333] at hw; exact run_load1 (c := ci v_337) ho (by kernel_rfl) (by kernel_rfl) (Cell.own 2 rfl (getI_some h_336)) _ hw) fun a hs => ?_
        obtain ⟨v_340, h_339, hm⟩ := bind_t hm
        refine Vk.dOnly (i := 13) (by kernel_rfl) (Vk.call (some 61) 150 #[pp b_x0, vi 7, vi 0, vi v_335, vi v_337] hs (by kernel_rfl) (by kernel_rfl) (by kernel_rfl) ?_)
        refine (wire_Machine_Two.ok k v_327.2 7 0 v_335 v_337 v_340 h_339 κ w (pt b_245 (blk [cp b_x0, C.map (some b_244), ci v_327.1, ci 0, ci 0, ci 0, ci 0, ci 0, ci 0, ci 0, ci 0] 188) :: pt b_244 (.map #[⟨.agg (vals [ci 0, ci 1]), vi v_266.1, 0⟩, ⟨.agg (vals [ci 0, ci 2]), vi v_274.1, 1⟩, ⟨.agg (vals [ci 1, ci 2]), vi v_291.1, 2⟩] 3) :: pt b_242 (blk x2 28) :: pt b_241 (blk x1 28) :: pt b_4 (blk [ci 0, ci 0, ci 0] 28) :: pt b_3 (blk x2 28) :: pt b_2 (blk x1 28) :: S) b_x0 (Own.to hs.own [0, 1, 2, 3, 4, 5, 6, 7] 8 (by kernel_rfl) (by kernel_rfl))).mono ?_
        rintro _ w ⟨rfl, how⟩
        refine ⟨_, _, _, rfl, how, fun a hs => ?_⟩
        replace hcl : Own κ w C_333 := by rw [hC_333]; exact (Own.to hs.own [1, 2, 3, 4, 5, 6, 7] 8 (by kernel_rfl) (by kernel_rfl))
        refine ⟨fun _ => hcl, ?_⟩
        refine qdp (fuel := 1) [17] hs hcl hqC_333 fun a hs => ?_
        refine Vk.dOnly (i := 18) (by kernel_rfl) (Vk.store1 (b := b_245) (ty := 3) (x := (.tmp 65)) (y := (.tmp 61)) (off := 3) (ci v_340.1) 1 hs (by kernel_rfl) (by kernel_rfl) (by kernel_rfl) (by kernel_rfl) (by kernel_rfl) (by kernel_rfl) rfl (Nat.le_of_ble_eq_true (by kernel_rfl)) fun a w hs => ?_)
        refine ⟨fun h => absurd h (by decide), ?_⟩
        replace hs := hs.pick [0, 4, 5, 7, 8, 11, 40, 41, 44, 45] (L' := [(0, pp b_x0), (4, pp b_241), (5, pp b_242), (7, pp b_245), (8, vi 3), (11, vi 0), (40, vi 3), (41, vi 0), (44, vi 3), (45, vi 1)]) (by kernel_rfl)
        refine Vk.dDone (by kernel_rfl) ?_
        refine hK331 _ _ ?_
        clear hK331
        refine Vk.region ?_
        refine qpe 2 [(0, pp b_x0), (4, pp b_241), (5, pp b_242), (7, pp b_245), (8, vi 3), (11, vi 0), (40, vi 3), (41, vi 0), (44, vi 3), (45, vi 2)] hs fun a hs => hKL328 _ _ ?_
        clear hKL328
        refine Vk.unroll fun KL341 hKL341 => ?_
        refine qsr fun K342 hK342 => ?_
        refine qpe 1 [(0, pp b_x0), (4, pp b_241), (5, pp b_242), (7, pp b_245), (8, vi 3), (11, vi 0), (40, vi 3), (41, vi 0), (44, vi 3), (45, vi 2), (46, .bool true)] hs fun a hs => hK342 _ _ ?_
        clear hK342
        refine Vk.seq fun K343 hK343 => ?_
        refine qct hs ?_
        refine wp_skip ?_
        refine hK343 _ _ ?_
        clear hK343
        refine Vk.seq fun K344 hK344 => ?_
        refine wp_block ?_
        refine qsr fun K345 hK345 => ?_
        refine qpe 2 [(0, pp b_x0), (4, pp b_241), (5, pp b_242), (7, pp b_245), (8, vi 3), (11, vi 0), (12, vi 2), (40, vi 3), (41, vi 0), (44, vi 3), (45, vi 2)] hs fun a hs => hK345 _ _ ?_
        clear hK345
        obtain ⟨C_346, hC_346⟩ : ∃ X0 : List HP, X0 = (pt b_245 (blk [cp b_x0, C.map (some b_244), ci v_327.1, ci v_340.1, ci 0, ci 0, ci 0, ci 0, ci 0, ci 0, ci 0] 188) :: pt b_244 (.map #[⟨.agg (vals [ci 0, ci 1]), vi v_266.1, 0⟩, ⟨.agg (vals [ci 0, ci 2]), vi v_274.1, 1⟩, ⟨.agg (vals [ci 1, ci 2]), vi v_291.1, 2⟩] 3) :: pt b_242 (blk x2 28) :: pt b_241 (blk x1 28) :: pt b_4 (blk [ci 0, ci 0, ci 0] 28) :: pt b_3 (blk x2 28) :: pt b_2 (blk x1 28) :: S) := ⟨_, rfl⟩
        refine qdr 18 κ C_346 hs fun w hs hqC_346 => ?_
        have hcz : Own κ w (pt b_245 (blk [cp b_x0, C.map (some b_244), ci v_327.1, ci v_340.1, ci 0, ci 0, ci 0, ci 0, ci 0, ci 0, ci 0] 188) :: pt b_244 (.map #[⟨.agg (vals [ci 0, ci 1]), vi v_266.1, 0⟩, ⟨.agg (vals [ci 0, ci 2]), vi v_274.1, 1⟩, ⟨.agg (vals [ci 1, ci 2]), vi v_291.1, 2⟩] 3) :: pt b_242 (blk x2 28) :: pt b_241 (blk x1 28) :: pt b_4 (blk [ci 0, ci 0, ci 0] 28) :: pt b_3 (blk x2 28) :: pt b_2 (blk x1 28) :: S) := (Own.to hs.own [1, 2, 3, 4, 5, 6, 7] 8 (by kernel_rfl) (by kernel_rfl))
        have hcl : Own κ w C_346 := by rw [hC_346]; exact hcz
        refine qdp (fuel := 5) [0, 1, 2, 3, 4, 5, 6, 7, 9, 10, 11, 14, 15, 16] hs hcl hqC_346 fun a hs => ?_
        obtain ⟨v_348, h_347, hm⟩ := bind_t hm
        refine Vk.dTakeT (i := 8) (some 56) (vi v_348) hs (by kernel_rfl) hqC_346 hcl (by kernel_rfl) (by kernel_rfl) (op := (.load 3 (.tmp 55))) (by kernel_rfl) (by kernel_rfl) (fun w hw o ho => by rw [hC_346] at hw; exact run_load1 (c := ci v_348) ho (by kernel_rfl) (by kernel_rfl) (Cell.own 3 rfl (getI_some h_347)) _ hw) fun a hs => ?_
        obtain ⟨v_350, h_349, hm⟩ := bind_t hm
        refine Vk.dTakeT (i := 12) (some 60) (vi v_350) hs (by kernel_rfl) hqC_346 hcl (by kernel_rfl) (by kernel_rfl) (op := (.load 3 (.tmp 59))) (by kernel_rfl) (by kernel_rfl) (fun w hw o ho => by rw [hC_346] at hw; exact run_load1 (c := ci v_350) ho (by kernel_rfl) (by kernel_rfl) (Cell.own 2 rfl (getI_some h_349)) _ hw) fun a hs => ?_
        obtain ⟨v_353, h_352, hm⟩ := bind_t hm
        refine Vk.dOnly (i := 13) (by kernel_rfl) (Vk.call (some 61) 150 #[pp b_x0, vi 7, vi 0, vi v_348, vi v_350] hs (by kernel_rfl) (by kernel_rfl) (by kernel_rfl) ?_)
        refine (wire_Machine_Two.ok k v_340.2 7 0 v_348 v_350 v_353 h_352 κ w (pt b_245 (blk [cp b_x0, C.map (some b_244), ci v_327.1, ci v_340.1, ci 0, ci 0, ci 0, ci 0, ci 0, ci 0, ci 0] 188) :: pt b_244 (.map #[⟨.agg (vals [ci 0, ci 1]), vi v_266.1, 0⟩, ⟨.agg (vals [ci 0, ci 2]), vi v_274.1, 1⟩, ⟨.agg (vals [ci 1, ci 2]), vi v_291.1, 2⟩] 3) :: pt b_242 (blk x2 28) :: pt b_241 (blk x1 28) :: pt b_4 (blk [ci 0, ci 0, ci 0] 28) :: pt b_3 (blk x2 28) :: pt b_2 (blk x1 28) :: S) b_x0 (Own.to hs.own [0, 1, 2, 3, 4, 5, 6, 7] 8 (by kernel_rfl) (by kernel_rfl))).mono ?_
        rintro _ w ⟨rfl, how⟩
        refine ⟨_, _, _, rfl, how, fun a hs => ?_⟩
        replace hcl : Own κ w C_346 := by rw [hC_346]; exact (Own.to hs.own [1, 2, 3, 4, 5, 6, 7] 8 (by kernel_rfl) (by kernel_rfl))
        refine ⟨fun _ => hcl, ?_⟩
        refine qdp (fuel := 1) [17] hs hcl hqC_346 fun a hs => ?_
        refine Vk.dOnly (i := 18) (by kernel_rfl) (Vk.store1 (b := b_245) (ty := 3) (x := (.tmp 65)) (y := (.tmp 61)) (off := 4) (ci v_353.1) 1 hs (by kernel_rfl) (by kernel_rfl) (by kernel_rfl) (by kernel_rfl) (by kernel_rfl) (by kernel_rfl) rfl (Nat.le_of_ble_eq_true (by kernel_rfl)) fun a w hs => ?_)
        refine ⟨fun h => absurd h (by decide), ?_⟩
        replace hs := hs.pick [0, 4, 5, 7, 8, 11, 40, 41, 44, 45] (L' := [(0, pp b_x0), (4, pp b_241), (5, pp b_242), (7, pp b_245), (8, vi 3), (11, vi 0), (40, vi 3), (41, vi 0), (44, vi 3), (45, vi 2)]) (by kernel_rfl)
        refine Vk.dDone (by kernel_rfl) ?_
        refine hK344 _ _ ?_
        clear hK344
        refine Vk.region ?_
        refine qpe 2 [(0, pp b_x0), (4, pp b_241), (5, pp b_242), (7, pp b_245), (8, vi 3), (11, vi 0), (40, vi 3), (41, vi 0), (44, vi 3), (45, vi 3)] hs fun a hs => hKL341 _ _ ?_
        clear hKL341
        refine Vk.unroll fun KL354 hKL354 => ?_
        refine qsr fun K355 hK355 => ?_
        refine qpe 1 [(0, pp b_x0), (4, pp b_241), (5, pp b_242), (7, pp b_245), (8, vi 3), (11, vi 0), (40, vi 3), (41, vi 0), (44, vi 3), (45, vi 3), (46, .bool false)] hs fun a hs => hK355 _ _ ?_
        clear hK355
        refine Vk.seq fun K356 hK356 => ?_
        refine qcf hs ?_
        refine wp_exit ?_
        refine hK312 _ _ ?_
        clear hK312
        refine Vk.region ?_
        refine qpe 2 [(0, pp b_x0), (4, pp b_241), (5, pp b_242), (7, pp b_245), (8, vi 3), (40, vi 3), (41, vi 1)] hs fun a hs => hKL309 _ _ ?_
        clear hKL309
        refine Vk.unroll fun KL357 hKL357 => ?_
        refine qsr fun K358 hK358 => ?_
        refine qpe 1 [(0, pp b_x0), (4, pp b_241), (5, pp b_242), (7, pp b_245), (8, vi 3), (40, vi 3), (41, vi 1), (42, .bool true)] hs fun a hs => hK358 _ _ ?_
        clear hK358
        refine Vk.seq fun K359 hK359 => ?_
        refine qct hs ?_
        refine wp_skip ?_
        refine hK359 _ _ ?_
        clear hK359
        refine Vk.seq fun K360 hK360 => ?_
        refine wp_block ?_
        refine qsr fun K361 hK361 => ?_
        refine qpe 2 [(0, pp b_x0), (4, pp b_241), (5, pp b_242), (7, pp b_245), (8, vi 3), (11, vi 1), (40, vi 3), (41, vi 1)] hs fun a hs => hK361 _ _ ?_
        clear hK361
        refine qsr fun K362 hK362 => ?_
        refine qpe 2 [(0, pp b_x0), (4, pp b_241), (5, pp b_242), (7, pp b_245), (8, vi 3), (11, vi 1), (40, vi 3), (41, vi 1), (44, vi 3), (45, vi 0)] hs fun a hs => hK362 _ _ ?_
        clear hK362
        refine wp_block ?_
        refine Vk.unroll0 40 ?_
        refine Vk.unroll fun KL363 hKL363 => ?_
        refine qsr fun K364 hK364 => ?_
        refine qpe 1 [(0, pp b_x0), (4, pp b_241), (5, pp b_242), (7, pp b_245), (8, vi 3), (11, vi 1), (40, vi 3), (41, vi 1), (44, vi 3), (45, vi 0), (46, .bool true)] hs fun a hs => hK364 _ _ ?_
        clear hK364
        refine Vk.seq fun K365 hK365 => ?_
        refine qct hs ?_
        refine wp_skip ?_
        refine hK365 _ _ ?_
        clear hK365
        refine Vk.seq fun K366 hK366 => ?_
        refine wp_block ?_
        refine qsr fun K367 hK367 => ?_
        refine qpe 2 [(0, pp b_x0), (4, pp b_241), (5, pp b_242), (7, pp b_245), (8, vi 3), (11, vi 1), (12, vi 0), (40, vi 3), (41, vi 1), (44, vi 3), (45, vi 0)] hs fun a hs => hK367 _ _ ?_
        clear hK367
        obtain ⟨C_368, hC_368⟩ : ∃ X0 : List HP, X0 = (pt b_245 (blk [cp b_x0, C.map (some b_244), ci v_327.1, ci v_340.1, ci v_353.1, ci 0, ci 0, ci 0, ci 0, ci 0, ci 0] 188) :: pt b_244 (.map #[⟨.agg (vals [ci 0, ci 1]), vi v_266.1, 0⟩, ⟨.agg (vals [ci 0, ci 2]), vi v_274.1, 1⟩, ⟨.agg (vals [ci 1, ci 2]), vi v_291.1, 2⟩] 3) :: pt b_242 (blk x2 28) :: pt b_241 (blk x1 28) :: pt b_4 (blk [ci 0, ci 0, ci 0] 28) :: pt b_3 (blk x2 28) :: pt b_2 (blk x1 28) :: S) := ⟨_, rfl⟩
        refine qdr 18 κ C_368 hs fun w hs hqC_368 => ?_
        have hcz : Own κ w (pt b_245 (blk [cp b_x0, C.map (some b_244), ci v_327.1, ci v_340.1, ci v_353.1, ci 0, ci 0, ci 0, ci 0, ci 0, ci 0] 188) :: pt b_244 (.map #[⟨.agg (vals [ci 0, ci 1]), vi v_266.1, 0⟩, ⟨.agg (vals [ci 0, ci 2]), vi v_274.1, 1⟩, ⟨.agg (vals [ci 1, ci 2]), vi v_291.1, 2⟩] 3) :: pt b_242 (blk x2 28) :: pt b_241 (blk x1 28) :: pt b_4 (blk [ci 0, ci 0, ci 0] 28) :: pt b_3 (blk x2 28) :: pt b_2 (blk x1 28) :: S) := (Own.to hs.own [1, 2, 3, 4, 5, 6, 7] 8 (by kernel_rfl) (by kernel_rfl))
        have hcl : Own κ w C_368 := by rw [hC_368]; exact hcz
        refine qdp (fuel := 5) [0, 1, 2, 3, 4, 5, 6, 7, 9, 10, 11, 14, 15, 16] hs hcl hqC_368 fun a hs => ?_
        obtain ⟨v_370, h_369, hm⟩ := bind_t hm
        refine Vk.dTakeT (i := 8) (some 56) (vi v_370) hs (by kernel_rfl) hqC_368 hcl (by kernel_rfl) (by kernel_rfl) (op := (.load 3 (.tmp 55))) (by kernel_rfl) (by kernel_rfl) (fun w hw o ho => by rw [hC_368] at hw; exact run_load1 (c := ci v_370) ho (by kernel_rfl) (by kernel_rfl) (Cell.own 3 rfl (getI_some h_369)) _ hw) fun a hs => ?_
        obtain ⟨v_372, h_371, hm⟩ := bind_t hm
        refine Vk.dTakeT (i := 12) (some 60) (vi v_372) hs (by kernel_rfl) hqC_368 hcl (by kernel_rfl) (by kernel_rfl) (op := (.load 3 (.tmp 59))) (by kernel_rfl) (by kernel_rfl) (fun w hw o ho => by rw [hC_368] at hw; exact run_load1 (c := ci v_372) ho (by kernel_rfl) (by kernel_rfl) (Cell.own 2 rfl (getI_some h_371)) _ hw) fun a hs => ?_
        obtain ⟨v_375, h_374, hm⟩ := bind_t hm
        refine Vk.dOnly (i := 13) (by kernel_rfl) (Vk.call (some 61) 150 #[pp b_x0, vi 7, vi 1, vi v_370, vi v_372] hs (by kernel_rfl) (by kernel_rfl) (by kernel_rfl) ?_)
        refine (wire_Machine_Two.ok k v_353.2 7 1 v_370 v_372 v_375 h_374 κ w (pt b_245 (blk [cp b_x0, C.map (some b_244), ci v_327.1, ci v_340.1, ci v_353.1, ci 0, ci 0, ci 0, ci 0, ci 0, ci 0] 188) :: pt b_244 (.map #[⟨.agg (vals [ci 0, ci 1]), vi v_266.1, 0⟩, ⟨.agg (vals [ci 0, ci 2]), vi v_274.1, 1⟩, ⟨.agg (vals [ci 1, ci 2]), vi v_291.1, 2⟩] 3) :: pt b_242 (blk x2 28) :: pt b_241 (blk x1 28) :: pt b_4 (blk [ci 0, ci 0, ci 0] 28) :: pt b_3 (blk x2 28) :: pt b_2 (blk x1 28) :: S) b_x0 (Own.to hs.own [0, 1, 2, 3, 4, 5, 6, 7] 8 (by kernel_rfl) (by kernel_rfl))).mono ?_
        rintro _ w ⟨rfl, how⟩
        refine ⟨_, _, _, rfl, how, fun a hs => ?_⟩
        replace hcl : Own κ w C_368 := by rw [hC_368]; exact (Own.to hs.own [1, 2, 3, 4, 5, 6, 7] 8 (by kernel_rfl) (by kernel_rfl))
        refine ⟨fun _ => hcl, ?_⟩
        refine qdp (fuel := 1) [17] hs hcl hqC_368 fun a hs => ?_
        refine Vk.dOnly (i := 18) (by kernel_rfl) (Vk.store1 (b := b_245) (ty := 3) (x := (.tmp 65)) (y := (.tmp 61)) (off := 5) (ci v_375.1) 1 hs (by kernel_rfl) (by kernel_rfl) (by kernel_rfl) (by kernel_rfl) (by kernel_rfl) (by kernel_rfl) rfl (Nat.le_of_ble_eq_true (by kernel_rfl)) fun a w hs => ?_)
        refine ⟨fun h => absurd h (by decide), ?_⟩
        replace hs := hs.pick [0, 4, 5, 7, 8, 11, 40, 41, 44, 45] (L' := [(0, pp b_x0), (4, pp b_241), (5, pp b_242), (7, pp b_245), (8, vi 3), (11, vi 1), (40, vi 3), (41, vi 1), (44, vi 3), (45, vi 0)]) (by kernel_rfl)
        refine Vk.dDone (by kernel_rfl) ?_
        refine hK366 _ _ ?_
        clear hK366
        refine Vk.region ?_
        refine qpe 2 [(0, pp b_x0), (4, pp b_241), (5, pp b_242), (7, pp b_245), (8, vi 3), (11, vi 1), (40, vi 3), (41, vi 1), (44, vi 3), (45, vi 1)] hs fun a hs => hKL363 _ _ ?_
        clear hKL363
        refine Vk.unroll fun KL376 hKL376 => ?_
        refine qsr fun K377 hK377 => ?_
        refine qpe 1 [(0, pp b_x0), (4, pp b_241), (5, pp b_242), (7, pp b_245), (8, vi 3), (11, vi 1), (40, vi 3), (41, vi 1), (44, vi 3), (45, vi 1), (46, .bool true)] hs fun a hs => hK377 _ _ ?_
        clear hK377
        refine Vk.seq fun K378 hK378 => ?_
        refine qct hs ?_
        refine wp_skip ?_
        refine hK378 _ _ ?_
        clear hK378
        refine Vk.seq fun K379 hK379 => ?_
        refine wp_block ?_
        refine qsr fun K380 hK380 => ?_
        refine qpe 2 [(0, pp b_x0), (4, pp b_241), (5, pp b_242), (7, pp b_245), (8, vi 3), (11, vi 1), (12, vi 1), (40, vi 3), (41, vi 1), (44, vi 3), (45, vi 1)] hs fun a hs => hK380 _ _ ?_
        clear hK380
        obtain ⟨C_381, hC_381⟩ : ∃ X0 : List HP, X0 = (pt b_245 (blk [cp b_x0, C.map (some b_244), ci v_327.1, ci v_340.1, ci v_353.1, ci v_375.1, ci 0, ci 0, ci 0, ci 0, ci 0] 188) :: pt b_244 (.map #[⟨.agg (vals [ci 0, ci 1]), vi v_266.1, 0⟩, ⟨.agg (vals [ci 0, ci 2]), vi v_274.1, 1⟩, ⟨.agg (vals [ci 1, ci 2]), vi v_291.1, 2⟩] 3) :: pt b_242 (blk x2 28) :: pt b_241 (blk x1 28) :: pt b_4 (blk [ci 0, ci 0, ci 0] 28) :: pt b_3 (blk x2 28) :: pt b_2 (blk x1 28) :: S) := ⟨_, rfl⟩
        refine qdr 18 κ C_381 hs fun w hs hqC_381 => ?_
        have hcz : Own κ w (pt b_245 (blk [cp b_x0, C.map (some b_244), ci v_327.1, ci v_340.1, ci v_353.1, ci v_375.1, ci 0, ci 0, ci 0, ci 0, ci 0] 188) :: pt b_244 (.map #[⟨.agg (vals [ci 0, ci 1]), vi v_266.1, 0⟩, ⟨.agg (vals [ci 0, ci 2]), vi v_274.1, 1⟩, ⟨.agg (vals [ci 1, ci 2]), vi v_291.1, 2⟩] 3) :: pt b_242 (blk x2 28) :: pt b_241 (blk x1 28) :: pt b_4 (blk [ci 0, ci 0, ci 0] 28) :: pt b_3 (blk x2 28) :: pt b_2 (blk x1 28) :: S) := (Own.to hs.own [1, 2, 3, 4, 5, 6, 7] 8 (by kernel_rfl) (by kernel_rfl))
        have hcl : Own κ w C_381 := by rw [hC_381]; exact hcz
        refine qdp (fuel := 5) [0, 1, 2, 3, 4, 5, 6, 7, 9, 10, 11, 14, 15, 16] hs hcl hqC_381 fun a hs => ?_
        obtain ⟨v_383, h_382, hm⟩ := bind_t hm
        refine Vk.dTakeT (i := 8) (some 56) (vi v_383) hs (by kernel_rfl) hqC_381 hcl (by kernel_rfl) (by kernel_rfl) (op := (.load 3 (.tmp 55))) (by kernel_rfl) (by kernel_rfl) (fun w hw o ho => by rw [hC_381] at hw; exact run_load1 (c := ci v_383) ho (by kernel_rfl) (by kernel_rfl) (Cell.own 3 rfl (getI_some h_382)) _ hw) fun a hs => ?_
        obtain ⟨v_385, h_384, hm⟩ := bind_t hm
        refine Vk.dTakeT (i := 12) (some 60) (vi v_385) hs (by kernel_rfl) hqC_381 hcl (by kernel_rfl) (by kernel_rfl) (op := (.load 3 (.tmp 59))) (by kernel_rfl) (by kernel_rfl) (fun w hw o ho => by rw [hC_381] at hw; exact run_load1 (c := ci v_385) ho (by kernel_rfl) (by kernel_rfl) (Cell.own 2 rfl (getI_some h_384)) _ hw) fun a hs => ?_
        obtain ⟨v_388, h_387, hm⟩ := bind_t hm
        refine Vk.dOnly (i := 13) (by kernel_rfl) (Vk.call (some 61) 150 #[pp b_x0, vi 7, vi 1, vi v_383, vi v_385] hs (by kernel_rfl) (by kernel_rfl) (by kernel_rfl) ?_)
        refine (wire_Machine_Two.ok k v_375.2 7 1 v_383 v_385 v_388 h_387 κ w (pt b_245 (blk [cp b_x0, C.map (some b_244), ci v_327.1, ci v_340.1, ci v_353.1, ci v_375.1, ci 0, ci 0, ci 0, ci 0, ci 0] 188) :: pt b_244 (.map #[⟨.agg (vals [ci 0, ci 1]), vi v_266.1, 0⟩, ⟨.agg (vals [ci 0, ci 2]), vi v_274.1, 1⟩, ⟨.agg (vals [ci 1, ci 2]), vi v_291.1, 2⟩] 3) :: pt b_242 (blk x2 28) :: pt b_241 (blk x1 28) :: pt b_4 (blk [ci 0, ci 0, ci 0] 28) :: pt b_3 (blk x2 28) :: pt b_2 (blk x1 28) :: S) b_x0 (Own.to hs.own [0, 1, 2, 3, 4, 5, 6, 7] 8 (by kernel_rfl) (by kernel_rfl))).mono ?_
        rintro _ w ⟨rfl, how⟩
        refine ⟨_, _, _, rfl, how, fun a hs => ?_⟩
        replace hcl : Own κ w C_381 := by rw [hC_381]; exact (Own.to hs.own [1, 2, 3, 4, 5, 6, 7] 8 (by kernel_rfl) (by kernel_rfl))
        refine ⟨fun _ => hcl, ?_⟩
        refine qdp (fuel := 1) [17] hs hcl hqC_381 fun a hs => ?_
        refine Vk.dOnly (i := 18) (by kernel_rfl) (Vk.store1 (b := b_245) (ty := 3) (x := (.tmp 65)) (y := (.tmp 61)) (off := 6) (ci v_388.1) 1 hs (by kernel_rfl) (by kernel_rfl) (by kernel_rfl) (by kernel_rfl) (by kernel_rfl) (by kernel_rfl) rfl (Nat.le_of_ble_eq_true (by kernel_rfl)) fun a w hs => ?_)
        refine ⟨fun h => absurd h (by decide), ?_⟩
        replace hs := hs.pick [0, 4, 5, 7, 8, 11, 40, 41, 44, 45] (L' := [(0, pp b_x0), (4, pp b_241), (5, pp b_242), (7, pp b_245), (8, vi 3), (11, vi 1), (40, vi 3), (41, vi 1), (44, vi 3), (45, vi 1)]) (by kernel_rfl)
        refine Vk.dDone (by kernel_rfl) ?_
        refine hK379 _ _ ?_
        clear hK379
        refine Vk.region ?_
        refine qpe 2 [(0, pp b_x0), (4, pp b_241), (5, pp b_242), (7, pp b_245), (8, vi 3), (11, vi 1), (40, vi 3), (41, vi 1), (44, vi 3), (45, vi 2)] hs fun a hs => hKL376 _ _ ?_
        clear hKL376
        refine Vk.unroll fun KL389 hKL389 => ?_
        refine qsr fun K390 hK390 => ?_
        refine qpe 1 [(0, pp b_x0), (4, pp b_241), (5, pp b_242), (7, pp b_245), (8, vi 3), (11, vi 1), (40, vi 3), (41, vi 1), (44, vi 3), (45, vi 2), (46, .bool true)] hs fun a hs => hK390 _ _ ?_
        clear hK390
        refine Vk.seq fun K391 hK391 => ?_
        refine qct hs ?_
        refine wp_skip ?_
        refine hK391 _ _ ?_
        clear hK391
        refine Vk.seq fun K392 hK392 => ?_
        refine wp_block ?_
        refine qsr fun K393 hK393 => ?_
        refine qpe 2 [(0, pp b_x0), (4, pp b_241), (5, pp b_242), (7, pp b_245), (8, vi 3), (11, vi 1), (12, vi 2), (40, vi 3), (41, vi 1), (44, vi 3), (45, vi 2)] hs fun a hs => hK393 _ _ ?_
        clear hK393
        obtain ⟨C_394, hC_394⟩ : ∃ X0 : List HP, X0 = (pt b_245 (blk [cp b_x0, C.map (some b_244), ci v_327.1, ci v_340.1, ci v_353.1, ci v_375.1, ci v_388.1, ci 0, ci 0, ci 0, ci 0] 188) :: pt b_244 (.map #[⟨.agg (vals [ci 0, ci 1]), vi v_266.1, 0⟩, ⟨.agg (vals [ci 0, ci 2]), vi v_274.1, 1⟩, ⟨.agg (vals [ci 1, ci 2]), vi v_291.1, 2⟩] 3) :: pt b_242 (blk x2 28) :: pt b_241 (blk x1 28) :: pt b_4 (blk [ci 0, ci 0, ci 0] 28) :: pt b_3 (blk x2 28) :: pt b_2 (blk x1 28) :: S) := ⟨_, rfl⟩
        refine qdr 18 κ C_394 hs fun w hs hqC_394 => ?_
        have hcz : Own κ w (pt b_245 (blk [cp b_x0, C.map (some b_244), ci v_327.1, ci v_340.1, ci v_353.1, ci v_375.1, ci v_388.1, ci 0, ci 0, ci 0, ci 0] 188) :: pt b_244 (.map #[⟨.agg (vals [ci 0, ci 1]), vi v_266.1, 0⟩, ⟨.agg (vals [ci 0, ci 2]), vi v_274.1, 1⟩, ⟨.agg (vals [ci 1, ci 2]), vi v_291.1, 2⟩] 3) :: pt b_242 (blk x2 28) :: pt b_241 (blk x1 28) :: pt b_4 (blk [ci 0, ci 0, ci 0] 28) :: pt b_3 (blk x2 28) :: pt b_2 (blk x1 28) :: S) := (Own.to hs.own [1, 2, 3, 4, 5, 6, 7] 8 (by kernel_rfl) (by kernel_rfl))
        have hcl : Own κ w C_394 := by rw [hC_394]; exact hcz
        refine qdp (fuel := 5) [0, 1, 2, 3, 4, 5, 6, 7, 9, 10, 11, 14, 15, 16] hs hcl hqC_394 fun a hs => ?_
        obtain ⟨v_396, h_395, hm⟩ := bind_t hm
        refine Vk.dTakeT (i := 8) (some 56) (vi v_396) hs (by kernel_rfl) hqC_394 hcl (by kernel_rfl) (by kernel_rfl) (op := (.load 3 (.tmp 55))) (by kernel_rfl) (by kernel_rfl) (fun w hw o ho => by rw [hC_394] at hw; exact run_load1 (c := ci v_396) ho (by kernel_rfl) (by kernel_rfl) (Cell.own 3 rfl (getI_some h_395)) _ hw) fun a hs => ?_
        obtain ⟨v_398, h_397, hm⟩ := bind_t hm
        refine Vk.dTakeT (i := 12) (some 60) (vi v_398) hs (by kernel_rfl) hqC_394 hcl (by kernel_rfl) (by kernel_rfl) (op := (.load 3 (.tmp 59))) (by kernel_rfl) (by kernel_rfl) (fun w hw o ho => by rw [hC_394] at hw; exact run_load1 (c := ci v_398) ho (by kernel_rfl) (by kernel_rfl) (Cell.own 2 rfl (getI_some h_397)) _ hw) fun a hs => ?_
        obtain ⟨v_401, h_400, hm⟩ := bind_t hm
        refine Vk.dOnly (i := 13) (by kernel_rfl) (Vk.call (some 61) 150 #[pp b_x0, vi 7, vi 1, vi v_396, vi v_398] hs (by kernel_rfl) (by kernel_rfl) (by kernel_rfl) ?_)
        refine (wire_Machine_Two.ok k v_388.2 7 1 v_396 v_398 v_401 h_400 κ w (pt b_245 (blk [cp b_x0, C.map (some b_244), ci v_327.1, ci v_340.1, ci v_353.1, ci v_375.1, ci v_388.1, ci 0, ci 0, ci 0, ci 0] 188) :: pt b_244 (.map #[⟨.agg (vals [ci 0, ci 1]), vi v_266.1, 0⟩, ⟨.agg (vals [ci 0, ci 2]), vi v_274.1, 1⟩, ⟨.agg (vals [ci 1, ci 2]), vi v_291.1, 2⟩] 3) :: pt b_242 (blk x2 28) :: pt b_241 (blk x1 28) :: pt b_4 (blk [ci 0, ci 0, ci 0] 28) :: pt b_3 (blk x2 28) :: pt b_2 (blk x1 28) :: S) b_x0 (Own.to hs.own [0, 1, 2, 3, 4, 5, 6, 7] 8 (by kernel_rfl) (by kernel_rfl))).mono ?_
        rintro _ w ⟨rfl, how⟩
        refine ⟨_, _, _, rfl, how, fun a hs => ?_⟩
        replace hcl : Own κ w C_394 := by rw [hC_394]; exact (Own.to hs.own [1, 2, 3, 4, 5, 6, 7] 8 (by kernel_rfl) (by kernel_rfl))
        refine ⟨fun _ => hcl, ?_⟩
        refine qdp (fuel := 1) [17] hs hcl hqC_394 fun a hs => ?_
        refine Vk.dOnly (i := 18) (by kernel_rfl) (Vk.store1 (b := b_245) (ty := 3) (x := (.tmp 65)) (y := (.tmp 61)) (off := 7) (ci v_401.1) 1 hs (by kernel_rfl) (by kernel_rfl) (by kernel_rfl) (by kernel_rfl) (by kernel_rfl) (by kernel_rfl) rfl (Nat.le_of_ble_eq_true (by kernel_rfl)) fun a w hs => ?_)
        refine ⟨fun h => absurd h (by decide), ?_⟩
        replace hs := hs.pick [0, 4, 5, 7, 8, 11, 40, 41, 44, 45] (L' := [(0, pp b_x0), (4, pp b_241), (5, pp b_242), (7, pp b_245), (8, vi 3), (11, vi 1), (40, vi 3), (41, vi 1), (44, vi 3), (45, vi 2)]) (by kernel_rfl)
        refine Vk.dDone (by kernel_rfl) ?_
        refine hK392 _ _ ?_
        clear hK392
        refine Vk.region ?_
        refine qpe 2 [(0, pp b_x0), (4, pp b_241), (5, pp b_242), (7, pp b_245), (8, vi 3), (11, vi 1), (40, vi 3), (41, vi 1), (44, vi 3), (45, vi 3)] hs fun a hs => hKL389 _ _ ?_
        clear hKL389
        refine Vk.unroll fun KL402 hKL402 => ?_
        refine qsr fun K403 hK403 => ?_
        refine qpe 1 [(0, pp b_x0), (4, pp b_241), (5, pp b_242), (7, pp b_245), (8, vi 3), (11, vi 1), (40, vi 3), (41, vi 1), (44, vi 3), (45, vi 3), (46, .bool false)] hs fun a hs => hK403 _ _ ?_
        clear hK403
        refine Vk.seq fun K404 hK404 => ?_
        refine qcf hs ?_
        refine wp_exit ?_
        refine hK360 _ _ ?_
        clear hK360
        refine Vk.region ?_
        refine qpe 2 [(0, pp b_x0), (4, pp b_241), (5, pp b_242), (7, pp b_245), (8, vi 3), (40, vi 3), (41, vi 2)] hs fun a hs => hKL357 _ _ ?_
        clear hKL357
        refine Vk.unroll fun KL405 hKL405 => ?_
        refine qsr fun K406 hK406 => ?_
        refine qpe 1 [(0, pp b_x0), (4, pp b_241), (5, pp b_242), (7, pp b_245), (8, vi 3), (40, vi 3), (41, vi 2), (42, .bool true)] hs fun a hs => hK406 _ _ ?_
        clear hK406
        refine Vk.seq fun K407 hK407 => ?_
        refine qct hs ?_
        refine wp_skip ?_
        refine hK407 _ _ ?_
        clear hK407
        refine Vk.seq fun K408 hK408 => ?_
        refine wp_block ?_
        refine qsr fun K409 hK409 => ?_
        refine qpe 2 [(0, pp b_x0), (4, pp b_241), (5, pp b_242), (7, pp b_245), (8, vi 3), (11, vi 2), (40, vi 3), (41, vi 2)] hs fun a hs => hK409 _ _ ?_
        clear hK409
        refine qsr fun K410 hK410 => ?_
        refine qpe 2 [(0, pp b_x0), (4, pp b_241), (5, pp b_242), (7, pp b_245), (8, vi 3), (11, vi 2), (40, vi 3), (41, vi 2), (44, vi 3), (45, vi 0)] hs fun a hs => hK410 _ _ ?_
        clear hK410
        refine wp_block ?_
        refine Vk.unroll0 40 ?_
        refine Vk.unroll fun KL411 hKL411 => ?_
        refine qsr fun K412 hK412 => ?_
        refine qpe 1 [(0, pp b_x0), (4, pp b_241), (5, pp b_242), (7, pp b_245), (8, vi 3), (11, vi 2), (40, vi 3), (41, vi 2), (44, vi 3), (45, vi 0), (46, .bool true)] hs fun a hs => hK412 _ _ ?_
        clear hK412
        refine Vk.seq fun K413 hK413 => ?_
        refine qct hs ?_
        refine wp_skip ?_
        refine hK413 _ _ ?_
        clear hK413
        refine Vk.seq fun K414 hK414 => ?_
        refine wp_block ?_
        refine qsr fun K415 hK415 => ?_
        refine qpe 2 [(0, pp b_x0), (4, pp b_241), (5, pp b_242), (7, pp b_245), (8, vi 3), (11, vi 2), (12, vi 0), (40, vi 3), (41, vi 2), (44, vi 3), (45, vi 0)] hs fun a hs => hK415 _ _ ?_
        clear hK415
        obtain ⟨C_416, hC_416⟩ : ∃ X0 : List HP, X0 = (pt b_245 (blk [cp b_x0, C.map (some b_244), ci v_327.1, ci v_340.1, ci v_353.1, ci v_375.1, ci v_388.1, ci v_401.1, ci 0, ci 0, ci 0] 188) :: pt b_244 (.map #[⟨.agg (vals [ci 0, ci 1]), vi v_266.1, 0⟩, ⟨.agg (vals [ci 0, ci 2]), vi v_274.1, 1⟩, ⟨.agg (vals [ci 1, ci 2]), vi v_291.1, 2⟩] 3) :: pt b_242 (blk x2 28) :: pt b_241 (blk x1 28) :: pt b_4 (blk [ci 0, ci 0, ci 0] 28) :: pt b_3 (blk x2 28) :: pt b_2 (blk x1 28) :: S) := ⟨_, rfl⟩
        refine qdr 18 κ C_416 hs fun w hs hqC_416 => ?_
        have hcz : Own κ w (pt b_245 (blk [cp b_x0, C.map (some b_244), ci v_327.1, ci v_340.1, ci v_353.1, ci v_375.1, ci v_388.1, ci v_401.1, ci 0, ci 0, ci 0] 188) :: pt b_244 (.map #[⟨.agg (vals [ci 0, ci 1]), vi v_266.1, 0⟩, ⟨.agg (vals [ci 0, ci 2]), vi v_274.1, 1⟩, ⟨.agg (vals [ci 1, ci 2]), vi v_291.1, 2⟩] 3) :: pt b_242 (blk x2 28) :: pt b_241 (blk x1 28) :: pt b_4 (blk [ci 0, ci 0, ci 0] 28) :: pt b_3 (blk x2 28) :: pt b_2 (blk x1 28) :: S) := (Own.to hs.own [1, 2, 3, 4, 5, 6, 7] 8 (by kernel_rfl) (by kernel_rfl))
        have hcl : Own κ w C_416 := by rw [hC_416]; exact hcz
        refine qdp (fuel := 5) [0, 1, 2, 3, 4, 5, 6, 7, 9, 10, 11, 14, 15, 16] hs hcl hqC_416 fun a hs => ?_
        obtain ⟨v_418, h_417, hm⟩ := bind_t hm
        refine Vk.dTakeT (i := 8) (some 56) (vi v_418) hs (by kernel_rfl) hqC_416 hcl (by kernel_rfl) (by kernel_rfl) (op := (.load 3 (.tmp 55))) (by kernel_rfl) (by kernel_rfl) (fun w hw o ho => by rw [hC_416] at hw; exact run_load1 (c := ci v_418) ho (by kernel_rfl) (by kernel_rfl) (Cell.own 3 rfl (getI_some h_417)) _ hw) fun a hs => ?_
        obtain ⟨v_420, h_419, hm⟩ := bind_t hm
        refine Vk.dTakeT (i := 12) (some 60) (vi v_420) hs (by kernel_rfl) hqC_416 hcl (by kernel_rfl) (by kernel_rfl) (op := (.load 3 (.tmp 59))) (by kernel_rfl) (by kernel_rfl) (fun w hw o ho => by rw [hC_416] at hw; exact run_load1 (c := ci v_420) ho (by kernel_rfl) (by kernel_rfl) (Cell.own 2 rfl (getI_some h_419)) _ hw) fun a hs => ?_
        obtain ⟨v_423, h_422, hm⟩ := bind_t hm
        refine Vk.dOnly (i := 13) (by kernel_rfl) (Vk.call (some 61) 150 #[pp b_x0, vi 7, vi 2, vi v_418, vi v_420] hs (by kernel_rfl) (by kernel_rfl) (by kernel_rfl) ?_)
        refine (wire_Machine_Two.ok k v_401.2 7 2 v_418 v_420 v_423 h_422 κ w (pt b_245 (blk [cp b_x0, C.map (some b_244), ci v_327.1, ci v_340.1, ci v_353.1, ci v_375.1, ci v_388.1, ci v_401.1, ci 0, ci 0, ci 0] 188) :: pt b_244 (.map #[⟨.agg (vals [ci 0, ci 1]), vi v_266.1, 0⟩, ⟨.agg (vals [ci 0, ci 2]), vi v_274.1, 1⟩, ⟨.agg (vals [ci 1, ci 2]), vi v_291.1, 2⟩] 3) :: pt b_242 (blk x2 28) :: pt b_241 (blk x1 28) :: pt b_4 (blk [ci 0, ci 0, ci 0] 28) :: pt b_3 (blk x2 28) :: pt b_2 (blk x1 28) :: S) b_x0 (Own.to hs.own [0, 1, 2, 3, 4, 5, 6, 7] 8 (by kernel_rfl) (by kernel_rfl))).mono ?_
        rintro _ w ⟨rfl, how⟩
        refine ⟨_, _, _, rfl, how, fun a hs => ?_⟩
        replace hcl : Own κ w C_416 := by rw [hC_416]; exact (Own.to hs.own [1, 2, 3, 4, 5, 6, 7] 8 (by kernel_rfl) (by kernel_rfl))
        refine ⟨fun _ => hcl, ?_⟩
        refine qdp (fuel := 1) [17] hs hcl hqC_416 fun a hs => ?_
        refine Vk.dOnly (i := 18) (by kernel_rfl) (Vk.store1 (b := b_245) (ty := 3) (x := (.tmp 65)) (y := (.tmp 61)) (off := 8) (ci v_423.1) 1 hs (by kernel_rfl) (by kernel_rfl) (by kernel_rfl) (by kernel_rfl) (by kernel_rfl) (by kernel_rfl) rfl (Nat.le_of_ble_eq_true (by kernel_rfl)) fun a w hs => ?_)
        refine ⟨fun h => absurd h (by decide), ?_⟩
        replace hs := hs.pick [0, 4, 5, 7, 8, 11, 40, 41, 44, 45] (L' := [(0, pp b_x0), (4, pp b_241), (5, pp b_242), (7, pp b_245), (8, vi 3), (11, vi 2), (40, vi 3), (41, vi 2), (44, vi 3), (45, vi 0)]) (by kernel_rfl)
        refine Vk.dDone (by kernel_rfl) ?_
        refine hK414 _ _ ?_
        clear hK414
        refine Vk.region ?_
        refine qpe 2 [(0, pp b_x0), (4, pp b_241), (5, pp b_242), (7, pp b_245), (8, vi 3), (11, vi 2), (40, vi 3), (41, vi 2), (44, vi 3), (45, vi 1)] hs fun a hs => hKL411 _ _ ?_
        clear hKL411
        refine Vk.unroll fun KL424 hKL424 => ?_
        refine qsr fun K425 hK425 => ?_
        refine qpe 1 [(0, pp b_x0), (4, pp b_241), (5, pp b_242), (7, pp b_245), (8, vi 3), (11, vi 2), (40, vi 3), (41, vi 2), (44, vi 3), (45, vi 1), (46, .bool true)] hs fun a hs => hK425 _ _ ?_
        clear hK425
        refine Vk.seq fun K426 hK426 => ?_
        refine qct hs ?_
        refine wp_skip ?_
        refine hK426 _ _ ?_
        clear hK426
        refine Vk.seq fun K427 hK427 => ?_
        refine wp_block ?_
        refine qsr fun K428 hK428 => ?_
        refine qpe 2 [(0, pp b_x0), (4, pp b_241), (5, pp b_242), (7, pp b_245), (8, vi 3), (11, vi 2), (12, vi 1), (40, vi 3), (41, vi 2), (44, vi 3), (45, vi 1)] hs fun a hs => hK428 _ _ ?_
        clear hK428
        obtain ⟨C_429, hC_429⟩ : ∃ X0 : List HP, X0 = (pt b_245 (blk [cp b_x0, C.map (some b_244), ci v_327.1, ci v_340.1, ci v_353.1, ci v_375.1, ci v_388.1, ci v_401.1, ci v_423.1, ci 0, ci 0] 188) :: pt b_244 (.map #[⟨.agg (vals [ci 0, ci 1]), vi v_266.1, 0⟩, ⟨.agg (vals [ci 0, ci 2]), vi v_274.1, 1⟩, ⟨.agg (vals [ci 1, ci 2]), vi v_291.1, 2⟩] 3) :: pt b_242 (blk x2 28) :: pt b_241 (blk x1 28) :: pt b_4 (blk [ci 0, ci 0, ci 0] 28) :: pt b_3 (blk x2 28) :: pt b_2 (blk x1 28) :: S) := ⟨_, rfl⟩
        refine qdr 18 κ C_429 hs fun w hs hqC_429 => ?_
        have hcz : Own κ w (pt b_245 (blk [cp b_x0, C.map (some b_244), ci v_327.1, ci v_340.1, ci v_353.1, ci v_375.1, ci v_388.1, ci v_401.1, ci v_423.1, ci 0, ci 0] 188) :: pt b_244 (.map #[⟨.agg (vals [ci 0, ci 1]), vi v_266.1, 0⟩, ⟨.agg (vals [ci 0, ci 2]), vi v_274.1, 1⟩, ⟨.agg (vals [ci 1, ci 2]), vi v_291.1, 2⟩] 3) :: pt b_242 (blk x2 28) :: pt b_241 (blk x1 28) :: pt b_4 (blk [ci 0, ci 0, ci 0] 28) :: pt b_3 (blk x2 28) :: pt b_2 (blk x1 28) :: S) := (Own.to hs.own [1, 2, 3, 4, 5, 6, 7] 8 (by kernel_rfl) (by kernel_rfl))
        have hcl : Own κ w C_429 := by rw [hC_429]; exact hcz
        refine qdp (fuel := 5) [0, 1, 2, 3, 4, 5, 6, 7, 9, 10, 11, 14, 15, 16] hs hcl hqC_429 fun a hs => ?_
        obtain ⟨v_431, h_430, hm⟩ := bind_t hm
        refine Vk.dTakeT (i := 8) (some 56) (vi v_431) hs (by kernel_rfl) hqC_429 hcl (by kernel_rfl) (by kernel_rfl) (op := (.load 3 (.tmp 55))) (by kernel_rfl) (by kernel_rfl) (fun w hw o ho => by rw [hC_429] at hw; exact run_load1 (c := ci v_431) ho (by kernel_rfl) (by kernel_rfl) (Cell.own 3 rfl (getI_some h_430)) _ hw) fun a hs => ?_
        obtain ⟨v_433, h_432, hm⟩ := bind_t hm
        refine Vk.dTakeT (i := 12) (some 60) (vi v_433) hs (by kernel_rfl) hqC_429 hcl (by kernel_rfl) (by kernel_rfl) (op := (.load 3 (.tmp 59))) (by kernel_rfl) (by kernel_rfl) (fun w hw o ho => by rw [hC_429] at hw; exact run_load1 (c := ci v_433) ho (by kernel_rfl) (by kernel_rfl) (Cell.own 2 rfl (getI_some h_432)) _ hw) fun a hs => ?_
        obtain ⟨v_436, h_435, hm⟩ := bind_t hm
        refine Vk.dOnly (i := 13) (by kernel_rfl) (Vk.call (some 61) 150 #[pp b_x0, vi 7, vi 2, vi v_431, vi v_433] hs (by kernel_rfl) (by kernel_rfl) (by kernel_rfl) ?_)
        refine (wire_Machine_Two.ok k v_423.2 7 2 v_431 v_433 v_436 h_435 κ w (pt b_245 (blk [cp b_x0, C.map (some b_244), ci v_327.1, ci v_340.1, ci v_353.1, ci v_375.1, ci v_388.1, ci v_401.1, ci v_423.1, ci 0, ci 0] 188) :: pt b_244 (.map #[⟨.agg (vals [ci 0, ci 1]), vi v_266.1, 0⟩, ⟨.agg (vals [ci 0, ci 2]), vi v_274.1, 1⟩, ⟨.agg (vals [ci 1, ci 2]), vi v_291.1, 2⟩] 3) :: pt b_242 (blk x2 28) :: pt b_241 (blk x1 28) :: pt b_4 (blk [ci 0, ci 0, ci 0] 28) :: pt b_3 (blk x2 28) :: pt b_2 (blk x1 28) :: S) b_x0 (Own.to hs.own [0, 1, 2, 3, 4, 5, 6, 7] 8 (by kernel_rfl) (by kernel_rfl))).mono ?_
        rintro _ w ⟨rfl, how⟩
        refine ⟨_, _, _, rfl, how, fun a hs => ?_⟩
        replace hcl : Own κ w C_429 := by rw [hC_429]; exact (Own.to hs.own [1, 2, 3, 4, 5, 6, 7] 8 (by kernel_rfl) (by kernel_rfl))
        refine ⟨fun _ => hcl, ?_⟩
        refine qdp (fuel := 1) [17] hs hcl hqC_429 fun a hs => ?_
        refine Vk.dOnly (i := 18) (by kernel_rfl) (Vk.store1 (b := b_245) (ty := 3) (x := (.tmp 65)) (y := (.tmp 61)) (off := 9) (ci v_436.1) 1 hs (by kernel_rfl) (by kernel_rfl) (by kernel_rfl) (by kernel_rfl) (by kernel_rfl) (by kernel_rfl) rfl (Nat.le_of_ble_eq_true (by kernel_rfl)) fun a w hs => ?_)
        refine ⟨fun h => absurd h (by decide), ?_⟩
        replace hs := hs.pick [0, 4, 5, 7, 8, 11, 40, 41, 44, 45] (L' := [(0, pp b_x0), (4, pp b_241), (5, pp b_242), (7, pp b_245), (8, vi 3), (11, vi 2), (40, vi 3), (41, vi 2), (44, vi 3), (45, vi 1)]) (by kernel_rfl)
        refine Vk.dDone (by kernel_rfl) ?_
        refine hK427 _ _ ?_
        clear hK427
        refine Vk.region ?_
        refine qpe 2 [(0, pp b_x0), (4, pp b_241), (5, pp b_242), (7, pp b_245), (8, vi 3), (11, vi 2), (40, vi 3), (41, vi 2), (44, vi 3), (45, vi 2)] hs fun a hs => hKL424 _ _ ?_
        clear hKL424
        refine Vk.unroll fun KL437 hKL437 => ?_
        refine qsr fun K438 hK438 => ?_
        refine qpe 1 [(0, pp b_x0), (4, pp b_241), (5, pp b_242), (7, pp b_245), (8, vi 3), (11, vi 2), (40, vi 3), (41, vi 2), (44, vi 3), (45, vi 2), (46, .bool true)] hs fun a hs => hK438 _ _ ?_
        clear hK438
        refine Vk.seq fun K439 hK439 => ?_
        refine qct hs ?_
        refine wp_skip ?_
        refine hK439 _ _ ?_
        clear hK439
        refine Vk.seq fun K440 hK440 => ?_
        refine wp_block ?_
        refine qsr fun K441 hK441 => ?_
        refine qpe 2 [(0, pp b_x0), (4, pp b_241), (5, pp b_242), (7, pp b_245), (8, vi 3), (11, vi 2), (12, vi 2), (40, vi 3), (41, vi 2), (44, vi 3), (45, vi 2)] hs fun a hs => hK441 _ _ ?_
        clear hK441
        obtain ⟨C_442, hC_442⟩ : ∃ X0 : List HP, X0 = (pt b_245 (blk [cp b_x0, C.map (some b_244), ci v_327.1, ci v_340.1, ci v_353.1, ci v_375.1, ci v_388.1, ci v_401.1, ci v_423.1, ci v_436.1, ci 0] 188) :: pt b_244 (.map #[⟨.agg (vals [ci 0, ci 1]), vi v_266.1, 0⟩, ⟨.agg (vals [ci 0, ci 2]), vi v_274.1, 1⟩, ⟨.agg (vals [ci 1, ci 2]), vi v_291.1, 2⟩] 3) :: pt b_242 (blk x2 28) :: pt b_241 (blk x1 28) :: pt b_4 (blk [ci 0, ci 0, ci 0] 28) :: pt b_3 (blk x2 28) :: pt b_2 (blk x1 28) :: S) := ⟨_, rfl⟩
        refine qdr 18 κ C_442 hs fun w hs hqC_442 => ?_
        have hcz : Own κ w (pt b_245 (blk [cp b_x0, C.map (some b_244), ci v_327.1, ci v_340.1, ci v_353.1, ci v_375.1, ci v_388.1, ci v_401.1, ci v_423.1, ci v_436.1, ci 0] 188) :: pt b_244 (.map #[⟨.agg (vals [ci 0, ci 1]), vi v_266.1, 0⟩, ⟨.agg (vals [ci 0, ci 2]), vi v_274.1, 1⟩, ⟨.agg (vals [ci 1, ci 2]), vi v_291.1, 2⟩] 3) :: pt b_242 (blk x2 28) :: pt b_241 (blk x1 28) :: pt b_4 (blk [ci 0, ci 0, ci 0] 28) :: pt b_3 (blk x2 28) :: pt b_2 (blk x1 28) :: S) := (Own.to hs.own [1, 2, 3, 4, 5, 6, 7] 8 (by kernel_rfl) (by kernel_rfl))
        have hcl : Own κ w C_442 := by rw [hC_442]; exact hcz
        refine qdp (fuel := 5) [0, 1, 2, 3, 4, 5, 6, 7, 9, 10, 11, 14, 15, 16] hs hcl hqC_442 fun a hs => ?_
        obtain ⟨v_444, h_443, hm⟩ := bind_t hm
        refine Vk.dTakeT (i := 8) (some 56) (vi v_444) hs (by kernel_rfl) hqC_442 hcl (by kernel_rfl) (by kernel_rfl) (op := (.load 3 (.tmp 55))) (by kernel_rfl) (by kernel_rfl) (fun w hw o ho => by rw [hC_442] at hw; exact run_load1 (c := ci v_444) ho (by kernel_rfl) (by kernel_rfl) (Cell.own 3 rfl (getI_some h_443)) _ hw) fun a hs => ?_
        obtain ⟨v_446, h_445, hm⟩ := bind_t hm
        refine Vk.dTakeT (i := 12) (some 60) (vi v_446) hs (by kernel_rfl) hqC_442 hcl (by kernel_rfl) (by kernel_rfl) (op := (.load 3 (.tmp 59))) (by kernel_rfl) (by kernel_rfl) (fun w hw o ho => by rw [hC_442] at hw; exact run_load1 (c := ci v_446) ho (by kernel_rfl) (by kernel_rfl) (Cell.own 2 rfl (getI_some h_445)) _ hw) fun a hs => ?_
        obtain ⟨v_449, h_448, hm⟩ := bind_t hm
        refine Vk.dOnly (i := 13) (by kernel_rfl) (Vk.call (some 61) 150 #[pp b_x0, vi 7, vi 2, vi v_444, vi v_446] hs (by kernel_rfl) (by kernel_rfl) (by kernel_rfl) ?_)
        refine (wire_Machine_Two.ok k v_436.2 7 2 v_444 v_446 v_449 h_448 κ w (pt b_245 (blk [cp b_x0, C.map (some b_244), ci v_327.1, ci v_340.1, ci v_353.1, ci v_375.1, ci v_388.1, ci v_401.1, ci v_423.1, ci v_436.1, ci 0] 188) :: pt b_244 (.map #[⟨.agg (vals [ci 0, ci 1]), vi v_266.1, 0⟩, ⟨.agg (vals [ci 0, ci 2]), vi v_274.1, 1⟩, ⟨.agg (vals [ci 1, ci 2]), vi v_291.1, 2⟩] 3) :: pt b_242 (blk x2 28) :: pt b_241 (blk x1 28) :: pt b_4 (blk [ci 0, ci 0, ci 0] 28) :: pt b_3 (blk x2 28) :: pt b_2 (blk x1 28) :: S) b_x0 (Own.to hs.own [0, 1, 2, 3, 4, 5, 6, 7] 8 (by kernel_rfl) (by kernel_rfl))).mono ?_
        rintro _ w ⟨rfl, how⟩
        refine ⟨_, _, _, rfl, how, fun a hs => ?_⟩
        replace hcl : Own κ w C_442 := by rw [hC_442]; exact (Own.to hs.own [1, 2, 3, 4, 5, 6, 7] 8 (by kernel_rfl) (by kernel_rfl))
        refine ⟨fun _ => hcl, ?_⟩
        refine qdp (fuel := 1) [17] hs hcl hqC_442 fun a hs => ?_
        refine Vk.dOnly (i := 18) (by kernel_rfl) (Vk.store1 (b := b_245) (ty := 3) (x := (.tmp 65)) (y := (.tmp 61)) (off := 10) (ci v_449.1) 1 hs (by kernel_rfl) (by kernel_rfl) (by kernel_rfl) (by kernel_rfl) (by kernel_rfl) (by kernel_rfl) rfl (Nat.le_of_ble_eq_true (by kernel_rfl)) fun a w hs => ?_)
        refine ⟨fun h => absurd h (by decide), ?_⟩
        replace hs := hs.pick [0, 4, 5, 7, 8, 11, 40, 41, 44, 45] (L' := [(0, pp b_x0), (4, pp b_241), (5, pp b_242), (7, pp b_245), (8, vi 3), (11, vi 2), (40, vi 3), (41, vi 2), (44, vi 3), (45, vi 2)]) (by kernel_rfl)
        refine Vk.dDone (by kernel_rfl) ?_
        refine hK440 _ _ ?_
        clear hK440
        refine Vk.region ?_
        refine qpe 2 [(0, pp b_x0), (4, pp b_241), (5, pp b_242), (7, pp b_245), (8, vi 3), (11, vi 2), (40, vi 3), (41, vi 2), (44, vi 3), (45, vi 3)] hs fun a hs => hKL437 _ _ ?_
        clear hKL437
        refine Vk.unroll fun KL450 hKL450 => ?_
        refine qsr fun K451 hK451 => ?_
        refine qpe 1 [(0, pp b_x0), (4, pp b_241), (5, pp b_242), (7, pp b_245), (8, vi 3), (11, vi 2), (40, vi 3), (41, vi 2), (44, vi 3), (45, vi 3), (46, .bool false)] hs fun a hs => hK451 _ _ ?_
        clear hK451
        refine Vk.seq fun K452 hK452 => ?_
        refine qcf hs ?_
        refine wp_exit ?_
        refine hK408 _ _ ?_
        clear hK408
        refine Vk.region ?_
        refine qpe 2 [(0, pp b_x0), (4, pp b_241), (5, pp b_242), (7, pp b_245), (8, vi 3), (40, vi 3), (41, vi 3)] hs fun a hs => hKL405 _ _ ?_
        clear hKL405
        refine Vk.unroll fun KL453 hKL453 => ?_
        refine qsr fun K454 hK454 => ?_
        refine qpe 1 [(0, pp b_x0), (4, pp b_241), (5, pp b_242), (7, pp b_245), (8, vi 3), (40, vi 3), (41, vi 3), (42, .bool false)] hs fun a hs => hK454 _ _ ?_
        clear hK454
        refine Vk.seq fun K455 hK455 => ?_
        refine qcf hs ?_
        refine wp_exit ?_
        refine hK307 _ _ ?_
        clear hK307
        refine qsr fun K456 hK456 => ?_
        refine qpe 2 [(6, pp b_245)] hs fun a hs => hK456 _ _ ?_
        clear hK456
        refine wp_ret ?_
        refine hKP239 _ _ ?_
        refine hKR239 _ _ ?_
        refine Vk.ret1 (P := Try.prog) (fn := Try.f91) (pp b_245) hs rfl (by kernel_rfl) ⟨_, _, _, rfl, hs.own, fun a hs => ?_⟩
        refine qpe 1 [(0, pp b_x0), (6, pp b_4), (7, pp b_245)] hs fun a hs => hK236 _ _ ?_
        clear hK236
        refine qsr fun K457 hK457 => ?_
        refine qpu 3 hs fun a hs => ?_
        refine Vk.step (Vk.call (some 23) 92 #[pp b_245, .func (.func 93) #[pp b_245] #[]] hs (by kernel_rfl) (by kernel_rfl) (by kernel_rfl) ?_)
        refine Vk.enterI [(0, pp b_245), (1, .func (.func 93) #[pp b_245] #[])] Try.func92 rfl Try.ntmps92 (by kernel_rfl) (Nat.le_of_ble_eq_true (by kernel_rfl)) hs.own fun KR458 hKR458 hKP458 a hs => ?_
        refine qsr fun K459 hK459 => ?_
        refine Vk.step (Vk.alloc 4 28 [ci 0, ci 0, ci 0] hs (by kernel_rfl) (by kernel_rfl) (by kernel_rfl) fun b_460 w a hs => ?_)
        refine qpe 0 [(0, pp b_245), (1, .func (.func 93) #[pp b_245] #[]), (4, pp b_460)] hs fun a hs => hK459 _ _ ?_
        clear hK459
        refine qsr fun K461 hK461 => ?_
        refine qpu 2 hs fun a hs => ?_
        refine Vk.step (Vk.alloc 5 28 [ci 0, ci 0, ci 0] hs (by kernel_rfl) (by kernel_rfl) (by kernel_rfl) fun b_462 w a hs => ?_)
        refine Vk.step (Vk.storeA (b := b_462) (ty := 28) (x := (.tmp 5)) (y := (.tmp 10)) (sz := 3) [ci (-1), ci (-1), ci (-1)] 0 hs (by kernel_rfl) (by kernel_rfl) (by kernel_rfl) (by kernel_rfl) (by kernel_rfl) rfl (by kernel_rfl) rfl (Eq.trans (b := 3) rfl (Eq.symm rfl)) fun a w hs => ?_)
        refine qpe 0 [(0, pp b_245), (1, .func (.func 93) #[pp b_245] #[]), (4, pp b_460), (5, pp b_462)] hs fun a hs => hK461 _ _ ?_
        clear hK461
        refine qsr fun K463 hK463 => ?_
        refine qpu 3 hs fun a hs => ?_
        refine qld 3 (cp b_x0) hs rfl fun a hs => ?_
        obtain ⟨g_464, hs⟩ := hs.unex 2 rfl
        obtain ⟨v_467, h_466, hm⟩ := bind_t hm
        refine Vk.step (Vk.call (some 15) 89 #[pp b_x0] hs (by kernel_rfl) (by kernel_rfl) (by kernel_rfl) ?_)
        refine (wire_Machine_N.ok k v_449.2 v_467 h_466 κ w (pt b_462 (blk [ci (-1), ci (-1), ci (-1)] 28) :: pt b_460 (blk [ci 0, ci 0, ci 0] 28) :: pt b_245 (blk [cp b_x0, C.map (some b_244), ci v_327.1, ci v_340.1, ci v_353.1, ci v_375.1, ci v_388.1, ci v_401.1, ci v_423.1, ci v_436.1, ci v_449.1] 188) :: pt b_244 (.map #[⟨.agg (vals [ci 0, ci 1]), vi v_266.1, 0⟩, ⟨.agg (vals [ci 0, ci 2]), vi v_274.1, 1⟩, ⟨.agg (vals [ci 1, ci 2]), vi v_291.1, 2⟩] 3) :: pt b_242 (blk x2 28) :: pt b_241 (blk x1 28) :: pt b_4 (blk [ci 0, ci 0, ci 0] 28) :: pt b_3 (blk x2 28) :: pt b_2 (blk x1 28) :: S) b_x0 g_464 (Own.to hs.own [2, 0, 1, 3, 4, 5, 6, 7, 8, 9] 10 (by kernel_rfl) (by kernel_rfl))).mono ?_
        rintro _ w ⟨rfl, how⟩
        refine ⟨_, _, _, rfl, how, fun a hs => ?_⟩
        rcases Bool.eq_false_or_eq_true (v_467 == 3) with hb | hb
        · replace hm := bif_t hm hb
          obtain rfl := Vk.of_beq hb
          refine qpe 1 [(0, pp b_245), (1, .func (.func 93) #[pp b_245] #[]), (4, pp b_460), (5, pp b_462), (6, vi 3)] hs fun a hs => hK463 _ _ ?_
          clear hK463
          refine Vk.seq fun K468 hK468 => ?_
          refine qsr fun K469 hK469 => ?_
          refine qpe 2 [(0, pp b_245), (1, .func (.func 93) #[pp b_245] #[]), (4, pp b_460), (5, pp b_462), (6, vi 3), (16, vi 3), (17, vi 0)] hs fun a hs => hK469 _ _ ?_
          clear hK469
          refine wp_block ?_
          refine Vk.unroll0 40 ?_
          refine Vk.unroll fun KL470 hKL470 => ?_
          refine qsr fun K471 hK471 => ?_
          refine qpe 1 [(0, pp b_245), (1, .func (.func 93) #[pp b_245] #[]), (4, pp b_460), (5, pp b_462), (6, vi 3), (16, vi 3), (17, vi 0), (18, .bool true)] hs fun a hs => hK471 _ _ ?_
          clear hK471
          refine Vk.seq fun K472 hK472 => ?_
          refine qct hs ?_
          refine wp_skip ?_
          refine hK472 _ _ ?_
          clear hK472
          refine Vk.seq fun K473 hK473 => ?_
          refine wp_block ?_
          refine qsr fun K474 hK474 => ?_
          refine qpe 2 [(0, pp b_245), (1, .func (.func 93) #[pp b_245] #[]), (4, pp b_460), (5, pp b_462), (6, vi 3), (7, vi 0), (16, vi 3), (17, vi 0)] hs fun a hs => hK474 _ _ ?_
          clear hK474
          refine qsr fun K475 hK475 => ?_
          refine qpu 8 hs fun a hs => ?_
          refine qld 3 (ci v_327.1) hs rfl fun a hs => ?_
          refine qpu 2 hs fun a hs => ?_
          refine Vk.step (Vk.store1 (b := b_462) (ty := 3) (x := (.tmp 30)) (y := (.tmp 28)) (off := 0) (ci v_327.1) 1 hs (by kernel_rfl) (by kernel_rfl) (by kernel_rfl) (by kernel_rfl) (by kernel_rfl) (by kernel_rfl) rfl (Nat.le_of_ble_eq_true (by kernel_rfl)) fun a w hs => ?_)
          refine qpe 0 [(0, pp b_245), (1, .func (.func 93) #[pp b_245] #[]), (4, pp b_460), (5, pp b_462), (6, vi 3), (7, vi 0), (16, vi 3), (17, vi 0)] hs fun a hs => hK475 _ _ ?_
          clear hK475
          refine qsr fun K476 hK476 => ?_
          refine qpe 2 [(0, pp b_245), (1, .func (.func 93) #[pp b_245] #[]), (4, pp b_460), (5, pp b_462), (6, vi 3), (7, vi 0), (16, vi 3), (17, vi 0), (31, vi 3), (32, vi 0)] hs fun a hs => hK476 _ _ ?_
          clear hK476
          refine wp_block ?_
          refine Vk.unroll0 40 ?_
          refine Vk.unroll fun KL477 hKL477 => ?_
          refine qsr fun K478 hK478 => ?_
          refine qpe 1 [(0, pp b_245), (1, .func (.func 93) #[pp b_245] #[]), (4, pp b_460), (5, pp b_462), (6, vi 3), (7, vi 0), (16, vi 3), (17, vi 0), (31, vi 3), (32, vi 0), (33, .bool true)] hs fun a hs => hK478 _ _ ?_
          clear hK478
          refine Vk.seq fun K479 hK479 => ?_
          refine qct hs ?_
          refine wp_skip ?_
          refine hK479 _ _ ?_
          clear hK479
          refine Vk.seq fun K480 hK480 => ?_
          refine wp_block ?_
          refine qsr fun K481 hK481 => ?_
          refine qpe 2 [(0, pp b_245), (1, .func (.func 93) #[pp b_245] #[]), (4, pp b_460), (5, pp b_462), (6, vi 3), (7, vi 0), (8, vi 0), (16, vi 3), (17, vi 0), (31, vi 3), (32, vi 0)] hs fun a hs => hK481 _ _ ?_
          clear hK481
          refine qsr fun K482 hK482 => ?_
          refine qpe 3 [(0, pp b_245), (1, .func (.func 93) #[pp b_245] #[]), (4, pp b_460), (5, pp b_462), (6, vi 3), (7, vi 0), (8, vi 0), (16, vi 3), (17, vi 0), (31, vi 3), (32, vi 0), (37, .bool false)] hs fun a hs => hK482 _ _ ?_
          clear hK482
          refine qcf hs ?_
          refine wp_skip ?_
          refine hK480 _ _ ?_
          clear hK480
          refine Vk.region ?_
          refine qpe 2 [(0, pp b_245), (1, .func (.func 93) #[pp b_245] #[]), (4, pp b_460), (5, pp b_462), (6, vi 3), (7, vi 0), (16, vi 3), (17, vi 0), (31, vi 3), (32, vi 1)] hs fun a hs => hKL477 _ _ ?_
          clear hKL477
          refine Vk.unroll fun KL483 hKL483 => ?_
          refine qsr fun K484 hK484 => ?_
          refine qpe 1 [(0, pp b_245), (1, .func (.func 93) #[pp b_245] #[]), (4, pp b_460), (5, pp b_462), (6, vi 3), (7, vi 0), (16, vi 3), (17, vi 0), (31, vi 3), (32, vi 1), (33, .bool true)] hs fun a hs => hK484 _ _ ?_
          clear hK484
          refine Vk.seq fun K485 hK485 => ?_
          refine qct hs ?_
          refine wp_skip ?_
          refine hK485 _ _ ?_
          clear hK485
          refine Vk.seq fun K486 hK486 => ?_
          refine wp_block ?_
          refine qsr fun K487 hK487 => ?_
          refine qpe 2 [(0, pp b_245), (1, .func (.func 93) #[pp b_245] #[]), (4, pp b_460), (5, pp b_462), (6, vi 3), (7, vi 0), (8, vi 1), (16, vi 3), (17, vi 0), (31, vi 3), (32, vi 1)] hs fun a hs => hK487 _ _ ?_
          clear hK487
          refine qsr fun K488 hK488 => ?_
          refine qpe 3 [(0, pp b_245), (1, .func (.func 93) #[pp b_245] #[]), (4, pp b_460), (5, pp b_462), (6, vi 3), (7, vi 0), (8, vi 1), (16, vi 3), (17, vi 0), (31, vi 3), (32, vi 1), (37, .bool true)] hs fun a hs => hK488 _ _ ?_
          clear hK488
          refine qct hs ?_
          obtain ⟨C_489, hC_489⟩ : ∃ X0 : List HP, X0 = (pt b_462 (blk [ci v_327.1, ci (-1), ci (-1)] 28) :: pt b_460 (blk [ci 0, ci 0, ci 0] 28) :: pt b_245 (blk [cp b_x0, C.map (some b_244), ci v_327.1, ci v_340.1, ci v_353.1, ci v_375.1, ci v_388.1, ci v_401.1, ci v_423.1, ci v_436.1, ci v_449.1] 188) :: pt b_244 (.map #[⟨.agg (vals [ci 0, ci 1]), vi v_266.1, 0⟩, ⟨.agg (vals [ci 0, ci 2]), vi v_274.1, 1⟩, ⟨.agg (vals [ci 1, ci 2]), vi v_291.1, 2⟩] 3) :: pt b_242 (blk x2 28) :: pt b_241 (blk x1 28) :: pt b_4 (blk [ci 0, ci 0, ci 0] 28) :: pt b_3 (blk x2 28) :: pt b_2 (blk x1 28) :: S) := ⟨_, rfl⟩
          refine qdr 17 κ C_489 hs fun w hs hqC_489 => ?_
          have hcz : Own κ w (pt b_462 (blk [ci v_327.1, ci (-1), ci (-1)] 28) :: pt b_460 (blk [ci 0, ci 0, ci 0] 28) :: pt b_245 (blk [cp b_x0, C.map (some b_244), ci v_327.1, ci v_340.1, ci v_353.1, ci v_375.1, ci v_388.1, ci v_401.1, ci v_423.1, ci v_436.1, ci v_449.1] 188) :: pt b_244 (.map #[⟨.agg (vals [ci 0, ci 1]), vi v_266.1, 0⟩, ⟨.agg (vals [ci 0, ci 2]), vi v_274.1, 1⟩, ⟨.agg (vals [ci 1, ci 2]), vi v_291.1, 2⟩] 3) :: pt b_242 (blk x2 28) :: pt b_241 (blk x1 28) :: pt b_4 (blk [ci 0, ci 0, ci 0] 28) :: pt b_3 (blk x2 28) :: pt b_2 (blk x1 28) :: S) := (Own.to hs.own [1, 2, 3, 4, 5, 6, 7, 8, 9] 10 (by kernel_rfl) (by kernel_rfl))
          have hcl : Own κ w C_489 := by rw [hC_489]; exact hcz
          refine qdp (fuel := 6) [0, 1, 2, 3, 5, 6, 7, 8, 10, 11, 12, 15] hs hcl hqC_489 fun a hs => ?_
          refine qdl 4 2 (cp b_x0) hs hcl hqC_489 hC_489 rfl fun a hs => ?_
          refine qdl 9 0 (ci v_327.1) hs hcl hqC_489 hC_489 rfl fun a hs => ?_
          refine Vk.dOnly (i := 13) (by kernel_rfl) (Vk.call (some 51) 93 #[pp b_245, vi 0, vi 1] hs (by kernel_rfl) (by kernel_rfl) (by kernel_rfl) ?_)
          refine Vk.enterI [(0, pp b_245), (1, vi 0), (2, vi 1)] Try.func93 rfl Try.ntmps93 (by kernel_rfl) (Nat.le_of_ble_eq_true (by kernel_rfl)) hs.own fun KR490 hKR490 hKP490 a hs => ?_
          refine qsr fun K491 hK491 => ?_
          refine qpe 1 [(0, pp b_245), (1, vi 0), (2, vi 1)] hs fun a hs => hK491 _ _ ?_
          clear hK491
          refine Vk.seq fun K492 hK492 => ?_
          obtain ⟨C_493, hC_493⟩ : ∃ X0 : List HP, X0 = (bagL (Twire_Machine.parts b_x0 v_449.2 g_464) :: pt b_462 (blk [ci v_327.1, ci (-1), ci (-1)] 28) :: pt b_460 (blk [ci 0, ci 0, ci 0] 28) :: pt b_245 (blk [cp b_x0, C.map (some b_244), ci v_327.1, ci v_340.1, ci v_353.1, ci v_375.1, ci v_388.1, ci v_401.1, ci v_423.1, ci v_436.1, ci v_449.1] 188) :: pt b_244 (.map #[⟨.agg (vals [ci 0, ci 1]), vi v_266.1, 0⟩, ⟨.agg (vals [ci 0, ci 2]), vi v_274.1, 1⟩, ⟨.agg (vals [ci 1, ci 2]), vi v_291.1, 2⟩] 3) :: pt b_242 (blk x2 28) :: pt b_241 (blk x1 28) :: pt b_4 (blk [ci 0, ci 0, ci 0] 28) :: pt b_3 (blk x2 28) :: pt b_2 (blk x1 28) :: S) := ⟨_, rfl⟩
          refine qdr 17 κ C_493 hs fun w hs hqC_493 => ?_
          have hcz : Own κ w (bagL (Twire_Machine.parts b_x0 v_449.2 g_464) :: pt b_462 (blk [ci v_327.1, ci (-1), ci (-1)] 28) :: pt b_460 (blk [ci 0, ci 0, ci 0] 28) :: pt b_245 (blk [cp b_x0, C.map (some b_244), ci v_327.1, ci v_340.1, ci v_353.1, ci v_375.1, ci v_388.1, ci v_401.1, ci v_423.1, ci v_436.1, ci v_449.1] 188) :: pt b_244 (.map #[⟨.agg (vals [ci 0, ci 1]), vi v_266.1, 0⟩, ⟨.agg (vals [ci 0, ci 2]), vi v_274.1, 1⟩, ⟨.agg (vals [ci 1, ci 2]), vi v_291.1, 2⟩] 3) :: pt b_242 (blk x2 28) :: pt b_241 (blk x1 28) :: pt b_4 (blk [ci 0, ci 0, ci 0] 28) :: pt b_3 (blk x2 28) :: pt b_2 (blk x1 28) :: S) := (Own.to hs.own [0, 1, 2, 3, 4, 5, 6, 7, 8, 9] 10 (by kernel_rfl) (by kernel_rfl))
          have hcl : Own κ w C_493 := by rw [hC_493]; exact hcz
          refine qdp (fuel := 5) [0, 1, 2, 4, 5, 6, 7, 8, 9, 10, 11, 13, 14, 15] hs hcl hqC_493 fun a hs => ?_
          refine qdl 3 3 (cp b_x0) hs hcl hqC_493 hC_493 rfl fun a hs => ?_
          refine qdl 12 3 (ci v_340.1) hs hcl hqC_493 hC_493 rfl fun a hs => ?_
          refine Vk.dOnly (i := 16) (by kernel_rfl) (Vk.call (some 23) 151 #[pp b_245, vi 0, vi 1] hs (by kernel_rfl) (by kernel_rfl) (by kernel_rfl) ?_)
          refine Vk.enterI [(0, pp b_245), (1, vi 0), (2, vi 1)] Try.func151 rfl Try.ntmps151 (by kernel_rfl) (Nat.le_of_ble_eq_true (by kernel_rfl)) hs.own fun KR494 hKR494 hKP494 a hs => ?_
          refine qsr fun K495 hK495 => ?_
          refine qpe 1 [(0, pp b_245), (1, vi 0), (2, vi 1)] hs fun a hs => hK495 _ _ ?_
          clear hK495
          refine qsr fun K496 hK496 => ?_
          refine qpu 3 hs fun a hs => ?_
          refine qld 3 (C.map (some b_244)) hs rfl fun a hs => ?_
          refine qpu 7 hs fun a hs => ?_
          refine Vk.step (Vk.value (some 18) (vi v_266.1) hs (by kernel_rfl) (op := (.lookup 186 (.tmp 10) (.tmp 17) false)) (by kernel_rfl) (fun o ho => run_lookup (b := b_244) (key := .agg (vals [ci 0, ci 1])) 4 rfl ho (by kernel_rfl) (by kernel_rfl) (by kernel_rfl) _ hs.own) fun a hs => ?_)
          refine qpe 1 [(6, vi v_266.1)] hs fun a hs => hK496 _ _ ?_
          clear hK496
          refine wp_ret ?_
          refine hKP494 _ _ ?_
          refine hKR494 _ _ ?_
          refine Vk.ret1 (P := Try.prog) (fn := Try.f151) (vi v_266.1) hs rfl (by kernel_rfl) ⟨_, _, _, rfl, hs.own, fun a hs => ?_⟩
          replace hcl : Own κ w C_493 := by rw [hC_493]; exact (Own.to hs.own [0, 1, 2, 3, 4, 5, 6, 7, 8, 9] 10 (by kernel_rfl) (by kernel_rfl))
          refine ⟨fun _ => hcl, ?_⟩
          replace hs := hs.toEx (Twire_Machine.parts b_x0 v_449.2) g_464 0 rfl
          obtain ⟨v_499, h_498, hm⟩ := bind_t hm
          refine Vk.dOnly (i := 17) (by kernel_rfl) (Vk.call (some 24) 150 #[pp b_x0, vi 5, vi 0, vi v_340.1, vi v_266.1] hs (by kernel_rfl) (by kernel_rfl) (by kernel_rfl) ?_)
          refine (wire_Machine_Two.ok k v_449.2 5 0 v_340.1 v_266.1 v_499 h_498 κ w (pt b_462 (blk [ci v_327.1, ci (-1), ci (-1)] 28) :: pt b_460 (blk [ci 0, ci 0, ci 0] 28) :: pt b_245 (blk [cp b_x0, C.map (some b_244), ci v_327.1, ci v_340.1, ci v_353.1, ci v_375.1, ci v_388.1, ci v_401.1, ci v_423.1, ci v_436.1, ci v_449.1] 188) :: pt b_244 (.map #[⟨.agg (vals [ci 0, ci 1]), vi v_266.1, 0⟩, ⟨.agg (vals [ci 0, ci 2]), vi v_274.1, 1⟩, ⟨.agg (vals [ci 1, ci 2]), vi v_291.1, 2⟩] 3) :: pt b_242 (blk x2 28) :: pt b_241 (blk x1 28) :: pt b_4 (blk [ci 0, ci 0, ci 0] 28) :: pt b_3 (blk x2 28) :: pt b_2 (blk x1 28) :: S) b_x0 (Own.to hs.own [0, 1, 2, 3, 4, 5, 6, 7, 8, 9] 10 (by kernel_rfl) (by kernel_rfl))).mono ?_
          rintro _ w ⟨rfl, how⟩
          refine ⟨_, _, _, rfl, how, fun a hs => ?_⟩
          refine ⟨fun h => absurd h (by decide), ?_⟩
          refine Vk.dOnly (i := 18) (by kernel_rfl) (Vk.dPure1 [(6, vi v_499.1)] hs (by kernel_rfl) fun a hs => ?_)
          refine ⟨fun h => absurd h (by decide), ?_⟩
          replace hs := hs.pick [6] (L' := [(6, vi v_499.1)]) (by kernel_rfl)
          refine Vk.dDone (by kernel_rfl) ?_
          refine hK492 _ _ ?_
          clear hK492
          refine wp_ret ?_
          refine hKP490 _ _ ?_
          refine hKR490 _ _ ?_
          refine Vk.ret1 (P := Try.prog) (fn := Try.f93) (vi v_499.1) hs rfl (by kernel_rfl) ⟨_, _, _, rfl, hs.own, fun a hs => ?_⟩
          replace hcl : Own κ w C_489 := by rw [hC_489]; exact (Own.to hs.own [1, 2, 3, 4, 5, 6, 7, 8, 9] 10 (by kernel_rfl) (by kernel_rfl))
          refine ⟨fun _ => hcl, ?_⟩
          obtain ⟨v_502, h_501, hm⟩ := bind_t hm
          refine Vk.dOnly (i := 14) (by kernel_rfl) (Vk.call (some 52) 150 #[pp b_x0, vi 5, vi 0, vi v_327.1, vi v_499.1] hs (by kernel_rfl) (by kernel_rfl) (by kernel_rfl) ?_)
          refine (wire_Machine_Two.ok k v_499.2 5 0 v_327.1 v_499.1 v_502 h_501 κ w (pt b_462 (blk [ci v_327.1, ci (-1), ci (-1)] 28) :: pt b_460 (blk [ci 0, ci 0, ci 0] 28) :: pt b_245 (blk [cp b_x0, C.map (some b_244), ci v_327.1, ci v_340.1, ci v_353.1, ci v_375.1, ci v_388.1, ci v_401.1, ci v_423.1, ci v_436.1, ci v_449.1] 188) :: pt b_244 (.map #[⟨.agg (vals [ci 0, ci 1]), vi v_266.1, 0⟩, ⟨.agg (vals [ci 0, ci 2]), vi v_274.1, 1⟩, ⟨.agg (vals [ci 1, ci 2]), vi v_291.1, 2⟩] 3) :: pt b_242 (blk x2 28) :: pt b_241 (blk x1 28) :: pt b_4 (blk [ci 0, ci 0, ci 0] 28) :: pt b_3 (blk x2 28) :: pt b_2 (blk x1 28) :: S) b_x0 (Own.to hs.own [0, 1, 2, 3, 4, 5, 6, 7, 8, 9] 10 (by kernel_rfl) (by kernel_rfl))).mono ?_
          rintro _ w ⟨rfl, how⟩
          refine ⟨_, _, _, rfl, how, fun a hs => ?_⟩
          replace hcl : Own κ w C_489 := by rw [hC_489]; exact (Own.to hs.own [1, 2, 3, 4, 5, 6, 7, 8, 9] 10 (by kernel_rfl) (by kernel_rfl))
          refine ⟨fun _ => hcl, ?_⟩
          refine qdp (fuel := 1) [16] hs hcl hqC_489 fun a hs => ?_
          refine Vk.dOnly (i := 17) (by kernel_rfl) (Vk.store1 (b := b_462) (ty := 3) (x := (.tmp 54)) (y := (.tmp 52)) (off := 0) (ci v_502.1) 1 hs (by kernel_rfl) (by kernel_rfl) (by kernel_rfl) (by kernel_rfl) (by kernel_rfl) (by kernel_rfl) rfl (Nat.le_of_ble_eq_true (by kernel_rfl)) fun a w hs => ?_)
          refine ⟨fun h => absurd h (by decide), ?_⟩
          replace hs := hs.pick [0, 1, 4, 5, 6, 7, 16, 17, 31, 32] (L' := [(0, pp b_245), (1, .func (.func 93) #[pp b_245] #[]), (4, pp b_460), (5, pp b_462), (6, vi 3), (7, vi 0), (16, vi 3), (17, vi 0), (31, vi 3), (32, vi 1)]) (by kernel_rfl)
          refine Vk.dDone (by kernel_rfl) ?_
          refine hK486 _ _ ?_
          clear hK486
          refine Vk.region ?_
          refine qpe 2 [(0, pp b_245), (1, .func (.func 93) #[pp b_245] #[]), (4, pp b_460), (5, pp b_462), (6, vi 3), (7, vi 0), (16, vi 3), (17, vi 0), (31, vi 3), (32, vi 2)] hs fun a hs => hKL483 _ _ ?_
          clear hKL483
          refine Vk.unroll fun KL503 hKL503 => ?_
          refine qsr fun K504 hK504 => ?_
          refine qpe 1 [(0, pp b_245), (1, .func (.func 93) #[pp b_245] #[]), (4, pp b_460), (5, pp b_462), (6, vi 3), (7, vi 0), (16, vi 3), (17, vi 0), (31, vi 3), (32, vi 2), (33, .bool true)] hs fun a hs => hK504 _ _ ?_
          clear hK504
          refine Vk.seq fun K505 hK505 => ?_
          refine qct hs ?_
          refine wp_skip ?_
          refine hK505 _ _ ?_
          clear hK505
          refine Vk.seq fun K506 hK506 => ?_
          refine wp_block ?_
          refine qsr fun K507 hK507 => ?_
          refine qpe 2 [(0, pp b_245), (1, .func (.func 93) #[pp b_245] #[]), (4, pp b_460), (5, pp b_462), (6, vi 3), (7, vi 0), (8, vi 2), (16, vi 3), (17, vi 0), (31, vi 3), (32, vi 2)] hs fun a hs => hK507 _ _ ?_
          clear hK507
          refine qsr fun K508 hK508 => ?_
          refine qpe 3 [(0, pp b_245), (1, .func (.func 93) #[pp b_245] #[]), (4, pp b_460), (5, pp b_462), (6, vi 3), (7, vi 0), (8, vi 2), (16, vi 3), (17, vi 0), (31, vi 3), (32, vi 2), (37, .bool true)] hs fun a hs => hK508 _ _ ?_
          clear hK508
          refine qct hs ?_
          obtain ⟨C_509, hC_509⟩ : ∃ X0 : List HP, X0 = (pt b_462 (blk [ci v_502.1, ci (-1), ci (-1)] 28) :: pt b_460 (blk [ci 0, ci 0, ci 0] 28) :: pt b_245 (blk [cp b_x0, C.map (some b_244), ci v_327.1, ci v_340.1, ci v_353.1, ci v_375.1, ci v_388.1, ci v_401.1, ci v_423.1, ci v_436.1, ci v_449.1] 188) :: pt b_244 (.map #[⟨.agg (vals [ci 0, ci 1]), vi v_266.1, 0⟩, ⟨.agg (vals [ci 0, ci 2]), vi v_274.1, 1⟩, ⟨.agg (vals [ci 1, ci 2]), vi v_291.1, 2⟩] 3) :: pt b_242 (blk x2 28) :: pt b_241 (blk x1 28) :: pt b_4 (blk [ci 0, ci 0, ci 0] 28) :: pt b_3 (blk x2 28) :: pt b_2 (blk x1 28) :: S) := ⟨_, rfl⟩
          refine qdr 17 κ C_509 hs fun w hs hqC_509 => ?_
          have hcz : Own κ w (pt b_462 (blk [ci v_502.1, ci (-1), ci (-1)] 28) :: pt b_460 (blk [ci 0, ci 0, ci 0] 28) :: pt b_245 (blk [cp b_x0, C.map (some b_244), ci v_327.1, ci v_340.1, ci v_353.1, ci v_375.1, ci v_388.1, ci v_401.1, ci v_423.1, ci v_436.1, ci v_449.1] 188) :: pt b_244 (.map #[⟨.agg (vals [ci 0, ci 1]), vi v_266.1, 0⟩, ⟨.agg (vals [ci 0, ci 2]), vi v_274.1, 1⟩, ⟨.agg (vals [ci 1, ci 2]), vi v_291.1, 2⟩] 3) :: pt b_242 (blk x2 28) :: pt b_241 (blk x1 28) :: pt b_4 (blk [ci 0, ci 0, ci 0] 28) :: pt b_3 (blk x2 28) :: pt b_2 (blk x1 28) :: S) := (Own.to hs.own [1, 2, 3, 4, 5, 6, 7, 8, 9] 10 (by kernel_rfl) (by kernel_rfl))
          have hcl : Own κ w C_509 := by rw [hC_509]; exact hcz
          refine qdp (fuel := 6) [0, 1, 2, 3, 5, 6, 7, 8, 10, 11, 12, 15] hs hcl hqC_509 fun a hs => ?_
          refine qdl 4 2 (cp b_x0) hs hcl hqC_509 hC_509 rfl fun a hs => ?_
          refine qdl 9 0 (ci v_502.1) hs hcl hqC_509 hC_509 rfl fun a hs => ?_
          refine Vk.dOnly (i := 13) (by kernel_rfl) (Vk.call (some 51) 93 #[pp b_245, vi 0, vi 2] hs (by kernel_rfl) (by kernel_rfl) (by kernel_rfl) ?_)
          refine Vk.enterI [(0, pp b_245), (1, vi 0), (2, vi 2)] Try.func93 rfl Try.ntmps93 (by kernel_rfl) (Nat.le_of_ble_eq_true (by kernel_rfl)) hs.own fun KR510 hKR510 hKP510 a hs => ?_
          refine qsr fun K511 hK511 => ?_
          refine qpe 1 [(0, pp b_245), (1, vi 0), (2, vi 2)] hs fun a hs => hK511 _ _ ?_
          clear hK511
          refine Vk.seq fun K512 hK512 => ?_
          obtain ⟨C_513, hC_513⟩ : ∃ X0 : List HP, X0 = (Twire_Machine.own b_x0 v_502.2 :: pt b_462 (blk [ci v_502.1, ci (-1), ci (-1)] 28) :: pt b_460 (blk [ci 0, ci 0, ci 0] 28) :: pt b_245 (blk [cp b_x0, C.map (some b_244), ci v_327.1, ci v_340.1, ci v_353.1, ci v_375.1, ci v_388.1, ci v_401.1, ci v_423.1, ci v_436.1, ci v_449.1] 188) :: pt b_244 (.map #[⟨.agg (vals [ci 0, ci 1]), vi v_266.1, 0⟩, ⟨.agg (vals [ci 0, ci 2]), vi v_274.1, 1⟩, ⟨.agg (vals [ci 1, ci 2]), vi v_291.1, 2⟩] 3) :: pt b_242 (blk x2 28) :: pt b_241 (blk x1 28) :: pt b_4 (blk [ci 0, ci 0, ci 0] 28) :: pt b_3 (blk x2 28) :: pt b_2 (blk x1 28) :: S) := ⟨_, rfl⟩
          refine qdr 17 κ C_513 hs fun w hs hqC_513 => ?_
          have hcz : Own κ w (Twire_Machine.own b_x0 v_502.2 :: pt b_462 (blk [ci v_502.1, ci (-1), ci (-1)] 28) :: pt b_460 (blk [ci 0, ci 0, ci 0] 28) :: pt b_245 (blk [cp b_x0, C.map (some b_244), ci v_327.1, ci v_340.1, ci v_353.1, ci v_375.1, ci v_388.1, ci v_401.1, ci v_423.1, ci v_436.1, ci v_449.1] 188) :: pt b_244 (.map #[⟨.agg (vals [ci 0, ci 1]), vi v_266.1, 0⟩, ⟨.agg (vals [ci 0, ci 2]), vi v_274.1, 1⟩, ⟨.agg (vals [ci 1, ci 2]), vi v_291.1, 2⟩] 3) :: pt b_242 (blk x2 28) :: pt b_241 (blk x1 28) :: pt b_4 (blk [ci 0, ci 0, ci 0] 28) :: pt b_3 (blk x2 28) :: pt b_2 (blk x1 28) :: S) := (Own.to hs.own [0, 1, 2, 3, 4, 5, 6, 7, 8, 9] 10 (by kernel_rfl) (by kernel_rfl))
          have hcl : Own κ w C_513 := by rw [hC_513]; exact hcz
          refine qdp (fuel := 5) [0, 1, 2, 4, 5, 6, 7, 8, 9, 10, 11, 13, 14, 15] hs hcl hqC_513 fun a hs => ?_
          refine qdl 3 3 (cp b_x0) hs hcl hqC_513 hC_513 rfl fun a hs => ?_
          refine qdl 12 3 (ci v_353.1) hs hcl hqC_513 hC_513 rfl fun a hs => ?_
          refine Vk.dOnly (i := 16) (by kernel_rfl) (Vk.call (some 23) 151 #[pp b_245, vi 0, vi 2] hs (by kernel_rfl) (by kernel_rfl) (by kernel_rfl) ?_)
          refine Vk.enterI [(0, pp b_245), (1, vi 0), (2, vi 2)] Try.func151 rfl Try.ntmps151 (by kernel_rfl) (Nat.le_of_ble_eq_true (by kernel_rfl)) hs.own fun KR514 hKR514 hKP514 a hs => ?_
          refine qsr fun K515 hK515 => ?_
          refine qpe 1 [(0, pp b_245), (1, vi 0), (2, vi 2)] hs fun a hs => hK515 _ _ ?_
          clear hK515
          refine qsr fun K516 hK516 => ?_
          refine qpu 3 hs fun a hs => ?_
          refine qld 3 (C.map (some b_244)) hs rfl fun a hs => ?_
          refine qpu 7 hs fun a hs => ?_
          refine Vk.step (Vk.value (some 18) (vi v_274.1) hs (by kernel_rfl) (op := (.lookup 186 (.tmp 10) (.tmp 17) false)) (by kernel_rfl) (fun o ho => run_lookup (b := b_244) (key := .agg (vals [ci 0, ci 2])) 4 rfl ho (by kernel_rfl) (by kernel_rfl) (by kernel_rfl) _ hs.own) fun a hs => ?_)
          refine qpe 1 [(6, vi v_274.1)] hs fun a hs => hK516 _ _ ?_
          clear hK516
          refine wp_ret ?_
          refine hKP514 _ _ ?_
          refine hKR514 _ _ ?_
          refine Vk.ret1 (P := Try.prog) (fn := Try.f151) (vi v_274.1) hs rfl (by kernel_rfl) ⟨_, _, _, rfl, hs.own, fun a hs => ?_⟩
          replace hcl : Own κ w C_513 := by rw [hC_513]; exact (Own.to hs.own [0, 1, 2, 3, 4, 5, 6, 7, 8, 9] 10 (by kernel_rfl) (by kernel_rfl))
          refine ⟨fun _ => hcl, ?_⟩
          obtain ⟨v_519, h_518, hm⟩ := bind_t hm
          refine Vk.dOnly (i := 17) (by kernel_rfl) (Vk.call (some 24) 150 #[pp b_x0, vi 5, vi 0, vi v_353.1, vi v_274.1] hs (by kernel_rfl) (by kernel_rfl) (by kernel_rfl) ?_)
          refine (wire_Machine_Two.ok k v_502.2 5 0 v_353.1 v_274.1 v_519 h_518 κ w (pt b_462 (blk [ci v_502.1, ci (-1), ci (-1)] 28) :: pt b_460 (blk [ci 0, ci 0, ci 0] 28) :: pt b_245 (blk [cp b_x0, C.map (some b_244), ci v_327.1, ci v_340.1, ci v_353.1, ci v_375.1, ci v_388.1, ci v_401.1, ci v_423.1, ci v_436.1, ci v_449.1] 188) :: pt b_244 (.map #[⟨.agg (vals [ci 0, ci 1]), vi v_266.1, 0⟩, ⟨.agg (vals [ci 0, ci 2]), vi v_274.1, 1⟩, ⟨.agg (vals [ci 1, ci 2]), vi v_291.1, 2⟩] 3) :: pt b_242 (blk x2 28) :: pt b_241 (blk x1 28) :: pt b_4 (blk [ci 0, ci 0, ci 0] 28) :: pt b_3 (blk x2 28) :: pt b_2 (blk x1 28) :: S) b_x0 (Own.to hs.own [0, 1, 2, 3, 4, 5, 6, 7, 8, 9] 10 (by kernel_rfl) (by kernel_rfl))).mono ?_
          rintro _ w ⟨rfl, how⟩
          refine ⟨_, _, _, rfl, how, fun a hs => ?_⟩
          refine ⟨fun h => absurd h (by decide), ?_⟩
          refine Vk.dOnly (i := 18) (by kernel_rfl) (Vk.dPure1 [(6, vi v_519.1)] hs (by kernel_rfl) fun a hs => ?_)
          refine ⟨fun h => absurd h (by decide), ?_⟩
          replace hs := hs.pick [6] (L' := [(6, vi v_519.1)]) (by kernel_rfl)
          refine Vk.dDone (by kernel_rfl) ?_
          refine hK512 _ _ ?_
          clear hK512
          refine wp_ret ?_
          refine hKP510 _ _ ?_
          refine hKR510 _ _ ?_
          refine Vk.ret1 (P := Try.prog) (fn := Try.f93) (vi v_519.1) hs rfl (by kernel_rfl) ⟨_, _, _, rfl, hs.own, fun a hs => ?_⟩
          replace hcl : Own κ w C_509 := by rw [hC_509]; exact (Own.to hs.own [1, 2, 3, 4, 5, 6, 7, 8, 9] 10 (by kernel_rfl) (by kernel_rfl))
          refine ⟨fun _ => hcl, ?_⟩
          obtain ⟨v_522, h_521, hm⟩ := bind_t hm
          refine Vk.dOnly (i := 14) (by kernel_rfl) (Vk.call (some 52) 150 #[pp b_x0, vi 5, vi 0, vi v_502.1, vi v_519.1] hs (by kernel_rfl) (by kernel_rfl) (by kernel_rfl) ?_)
          refine (wire_Machine_Two.ok k v_519.2 5 0 v_502.1 v_519.1 v_522 h_521 κ w (pt b_462 (blk [ci v_502.1, ci (-1), ci (-1)] 28) :: pt b_460 (blk [ci 0, ci 0, ci 0] 28) :: pt b_245 (blk [cp b_x0, C.map (some b_244), ci v_327.1, ci v_340.1, ci v_353.1, ci v_375.1, ci v_388.1, ci v_401.1, ci v_423.1, ci v_436.1, ci v_449.1] 188) :: pt b_244 (.map #[⟨.agg (vals [ci 0, ci 1]), vi v_266.1, 0⟩, ⟨.agg (vals [ci 0, ci 2]), vi v_274.1, 1⟩, ⟨.agg (vals [ci 1, ci 2]), vi v_291.1, 2⟩] 3) :: pt b_242 (blk x2 28) :: pt b_241 (blk x1 28) :: pt b_4 (blk [ci 0, ci 0, ci 0] 28) :: pt b_3 (blk x2 28) :: pt b_2 (blk x1 28) :: S) b_x0 (Own.to hs.own [0, 1, 2, 3, 4, 5, 6, 7, 8, 9] 10 (by kernel_rfl) (by kernel_rfl))).mono ?_
          rintro _ w ⟨rfl, how⟩
          refine ⟨_, _, _, rfl, how, fun a hs => ?_⟩
          replace hcl : Own κ w C_509 := by rw [hC_509]; exact (Own.to hs.own [1, 2, 3, 4, 5, 6, 7, 8, 9] 10 (by kernel_rfl) (by kernel_rfl))
          refine ⟨fun _ => hcl, ?_⟩
          refine qdp (fuel := 1) [16] hs hcl hqC_509 fun a hs => ?_
          refine Vk.dOnly (i := 17) (by kernel_rfl) (Vk.store1 (b := b_462) (ty := 3) (x := (.tmp 54)) (y := (.tmp 52)) (off := 0) (ci v_522.1) 1 hs (by kernel_rfl) (by kernel_rfl) (by kernel_rfl) (by kernel_rfl) (by kernel_rfl) (by kernel_rfl) rfl (Nat.le_of_ble_eq_true (by kernel_rfl)) fun a w hs => ?_)
          refine ⟨fun h => absurd h (by decide), ?_⟩
          replace hs := hs.pick [0, 1, 4, 5, 6, 7, 16, 17, 31, 32] (L' := [(0, pp b_245), (1, .func (.func 93) #[pp b_245] #[]), (4, pp b_460), (5, pp b_462), (6, vi 3), (7, vi 0), (16, vi 3), (17, vi 0), (31, vi 3), (32, vi 2)]) (by kernel_rfl)
          refine Vk.dDone (by kernel_rfl) ?_
          refine hK506 _ _ ?_
          clear hK506
          refine Vk.region ?_
          refine qpe 2 [(0, pp b_245), (1, .func (.func 93) #[pp b_245] #[]), (4, pp b_460), (5, pp b_462), (6, vi 3), (7, vi 0), (16, vi 3), (17, vi 0), (31, vi 3), (32, vi 3)] hs fun a hs => hKL503 _ _ ?_
          clear hKL503
          refine Vk.unroll fun KL523 hKL523 => ?_
          refine qsr fun K524 hK524 => ?_
          refine qpe 1 [(0, pp b_245), (1, .func (.func 93) #[pp b_245] #[]), (4, pp b_460), (5, pp b_462), (6, vi 3), (7, vi 0), (16, vi 3), (17, vi 0), (31, vi 3), (32, vi 3), (33, .bool false)] hs fun a hs => hK524 _ _ ?_
          clear hK524
          refine Vk.seq fun K525 hK525 => ?_
          refine qcf hs ?_
          refine wp_exit ?_
          refine hK473 _ _ ?_
          clear hK473
          refine Vk.region ?_
          refine qpe 2 [(0, pp b_245), (1, .func (.func 93) #[pp b_245] #[]), (4, pp b_460), (5, pp b_462), (6, vi 3), (16, vi 3), (17, vi 1)] hs fun a hs => hKL470 _ _ ?_
          clear hKL470
          refine Vk.unroll fun KL526 hKL526 => ?_
          refine qsr fun K527 hK527 => ?_
          refine qpe 1 [(0, pp b_245), (1, .func (.func 93) #[pp b_245] #[]), (4, pp b_460), (5, pp b_462), (6, vi 3), (16, vi 3), (17, vi 1), (18, .bool true)] hs fun a hs => hK527 _ _ ?_
          clear hK527
          refine Vk.seq fun K528 hK528 => ?_
          refine qct hs ?_
          refine wp_skip ?_
          refine hK528 _ _ ?_
          clear hK528
          refine Vk.seq fun K529 hK529 => ?_
          refine wp_block ?_
          refine qsr fun K530 hK530 => ?_
          refine qpe 2 [(0, pp b_245), (1, .func (.func 93) #[pp b_245] #[]), (4, pp b_460), (5, pp b_462), (6, vi 3), (7, vi 1), (16, vi 3), (17, vi 1)] hs fun a hs => hK530 _ _ ?_
          clear hK530
          refine qsr fun K531 hK531 => ?_
          refine qpu 8 hs fun a hs => ?_
          refine qld 3 (ci v_388.1) hs rfl fun a hs => ?_
          refine qpu 2 hs fun a hs => ?_
          refine Vk.step (Vk.store1 (b := b_462) (ty := 3) (x := (.tmp 30)) (y := (.tmp 28)) (off := 1) (ci v_388.1) 1 hs (by kernel_rfl) (by kernel_rfl) (by kernel_rfl) (by kernel_rfl) (by kernel_rfl) (by kernel_rfl) rfl (Nat.le_of_ble_eq_true (by kernel_rfl)) fun a w hs => ?_)
          refine qpe 0 [(0, pp b_245), (1, .func (.func 93) #[pp b_245] #[]), (4, pp b_460), (5, pp b_462), (6, vi 3), (7, vi 1), (16, vi 3), (17, vi 1)] hs fun a hs => hK531 _ _ ?_
          clear hK531
          refine qsr fun K532 hK532 => ?_
          refine qpe 2 [(0, pp b_245), (1, .func (.func 93) #[pp b_245] #[]), (4, pp b_460), (5, pp b_462), (6, vi 3), (7, vi 1), (16, vi 3), (17, vi 1), (31, vi 3), (32, vi 0)] hs fun a hs => hK532 _ _ ?_
          clear hK532
          refine wp_block ?_
          refine Vk.unroll0 40 ?_
          refine Vk.unroll fun KL533 hKL533 => ?_
          refine qsr fun K534 hK534 => ?_
          refine qpe 1 [(0, pp b_245), (1, .func (.func 93) #[pp b_245] #[]), (4, pp b_460), (5, pp b_462), (6, vi 3), (7, vi 1), (16, vi 3), (17, vi 1), (31, vi 3), (32, vi 0), (33, .bool true)] hs fun a hs => hK534 _ _ ?_
          clear hK534
          refine Vk.seq fun K535 hK535 => ?_
          refine qct hs ?_
          refine wp_skip ?_
          refine hK535 _ _ ?_
          clear hK535
          refine Vk.seq fun K536 hK536 => ?_
          refine wp_block ?_
          refine qsr fun K537 hK537 => ?_
          refine qpe 2 [(0, pp b_245), (1, .func (.func 93) #[pp b_245] #[]), (4, pp b_460), (5, pp b_462), (6, vi 3), (7, vi 1), (8, vi 0), (16, vi 3), (17, vi 1), (31, vi 3), (32, vi 0)] hs fun a hs => hK537 _ _ ?_
          clear hK537
          refine qsr fun K538 hK538 => ?_
          refine qpe 3 [(0, pp b_245), (1, .func (.func 93) #[pp b_245] #[]), (4, pp b_460), (5, pp b_462), (6, vi 3), (7, vi 1), (8, vi 0), (16, vi 3), (17, vi 1), (31, vi 3), (32, vi 0), (37, .bool true)] hs fun a hs => hK538 _ _ ?_
          clear hK538
          refine qct hs ?_
          obtain ⟨C_539, hC_539⟩ : ∃ X0 : List HP, X0 = (pt b_462 (blk [ci v_522.1, ci v_388.1, ci (-1)] 28) :: pt b_460 (blk [ci 0, ci 0, ci 0] 28) :: pt b_245 (blk [cp b_x0, C.map (some b_244), ci v_327.1, ci v_340.1, ci v_353.1, ci v_375.1, ci v_388.1, ci v_401.1, ci v_423.1, ci v_436.1, ci v_449.1] 188) :: pt b_244 (.map #[⟨.agg (vals [ci 0, ci 1]), vi v_266.1, 0⟩, ⟨.agg (vals [ci 0, ci 2]), vi v_274.1, 1⟩, ⟨.agg (vals [ci 1, ci 2]), vi v_291.1, 2⟩] 3) :: pt b_242 (blk x2 28) :: pt b_241 (blk x1 28) :: pt b_4 (blk [ci 0, ci 0, ci 0] 28) :: pt b_3 (blk x2 28) :: pt b_2 (blk x1 28) :: S) := ⟨_, rfl⟩
          refine qdr 17 κ C_539 hs fun w hs hqC_539 => ?_
          have hcz : Own κ w (pt b_462 (blk [ci v_522.1, ci v_388.1, ci (-1)] 28) :: pt b_460 (blk [ci 0, ci 0, ci 0] 28) :: pt b_245 (blk [cp b_x0, C.map (some b_244), ci v_327.1, ci v_340.1, ci v_353.1, ci v_375.1, ci v_388.1, ci v_401.1, ci v_423.1, ci v_436.1, ci v_449.1] 188) :: pt b_244 (.map #[⟨.agg (vals [ci 0, ci 1]), vi v_266.1, 0⟩, ⟨.agg (vals [ci 0, ci 2]), vi v_274.1, 1⟩, ⟨.agg (vals [ci 1, ci 2]), vi v_291.1, 2⟩] 3) :: pt b_242 (blk x2 28) :: pt b_241 (blk x1 28) :: pt b_4 (blk [ci 0, ci 0, ci 0] 28) :: pt b_3 (blk x2 28) :: pt b_2 (blk x1 28) :: S) := (Own.to hs.own [1, 2, 3, 4, 5, 6, 7, 8, 9] 10 (by kernel_rfl) (by kernel_rfl))
          have hcl : Own κ w C_539 := by rw [hC_539]; exact hcz
          refine qdp (fuel := 6) [0, 1, 2, 3, 5, 6, 7, 8, 10, 11, 12, 15] hs hcl hqC_539 fun a hs => ?_
          refine qdl 4 2 (cp b_x0) hs hcl hqC_539 hC_539 rfl fun a hs => ?_
          refine qdl 9 0 (ci v_388.1) hs hcl hqC_539 hC_539 rfl fun a hs => ?_
          refine Vk.dOnly (i := 13) (by kernel_rfl) (Vk.call (some 51) 93 #[pp b_245, vi 1, vi 0] hs (by kernel_rfl) (by kernel_rfl) (by kernel_rfl) ?_)
          refine Vk.enterI [(0, pp b_245), (1, vi 1), (2, vi 0)] Try.func93 rfl Try.ntmps93 (by kernel_rfl) (Nat.le_of_ble_eq_true (by kernel_rfl)) hs.own fun KR540 hKR540 hKP540 a hs => ?_
          refine qsr fun K541 hK541 => ?_
          refine qpe 1 [(0, pp b_245), (1, vi 1), (2, vi 0)] hs fun a hs => hK541 _ _ ?_
          clear hK541
          refine Vk.seq fun K542 hK542 => ?_
          obtain ⟨C_543, hC_543⟩ : ∃ X0 : List HP, X0 = (Twire_Machine.own b_x0 v_522.2 :: pt b_462 (blk [ci v_522.1, ci v_388.1, ci (-1)] 28) :: pt b_460 (blk [ci 0, ci 0, ci 0] 28) :: pt b_245 (blk [cp b_x0, C.map (some b_244), ci v_327.1, ci v_340.1, ci v_353.1, ci v_375.1, ci v_388.1, ci v_401.1, ci v_423.1, ci v_436.1, ci v_449.1] 188) :: pt b_244 (.map #[⟨.agg (vals [ci 0, ci 1]), vi v_266.1, 0⟩, ⟨.agg (vals [ci 0, ci 2]), vi v_274.1, 1⟩, ⟨.agg (vals [ci 1, ci 2]), vi v_291.1, 2⟩] 3) :: pt b_242 (blk x2 28) :: pt b_241 (blk x1 28) :: pt b_4 (blk [ci 0, ci 0, ci 0] 28) :: pt b_3 (blk x2 28) :: pt b_2 (blk x1 28) :: S) := ⟨_, rfl⟩
          refine qdr 17 κ C_543 hs fun w hs hqC_543 => ?_
          have hcz : Own κ w (Twire_Machine.own b_x0 v_522.2 :: pt b_462 (blk [ci v_522.1, ci v_388.1, ci (-1)] 28) :: pt b_460 (blk [ci 0, ci 0, ci 0] 28) :: pt b_245 (blk [cp b_x0, C.map (some b_244), ci v_327.1, ci v_340.1, ci v_353.1, ci v_375.1, ci v_388.1, ci v_401.1, ci v_423.1, ci v_436.1, ci v_449.1] 188) :: pt b_244 (.map #[⟨.agg (vals [ci 0, ci 1]), vi v_266.1, 0⟩, ⟨.agg (vals [ci 0, ci 2]), vi v_274.1, 1⟩, ⟨.agg (vals [ci 1, ci 2]), vi v_291.1, 2⟩] 3) :: pt b_242 (blk x2 28) :: pt b_241 (blk x1 28) :: pt b_4 (blk [ci 0, ci 0, ci 0] 28) :: pt b_3 (blk x2 28) :: pt b_2 (blk x1 28) :: S) := (Own.to hs.own [0, 1, 2, 3, 4, 5, 6, 7, 8, 9] 10 (by kernel_rfl) (by kernel_rfl))
          have hcl : Own κ w C_543 := by rw [hC_543]; exact hcz
          refine qdp (fuel := 5) [0, 1, 2, 4, 5, 6, 7, 8, 9, 10, 11, 13, 14, 15] hs hcl hqC_543 fun a hs => ?_
          refine qdl 3 3 (cp b_x0) hs hcl hqC_543 hC_543 rfl fun a hs => ?_
          refine qdl 12 3 (ci v_375.1) hs hcl hqC_543 hC_543 rfl fun a hs => ?_
          refine Vk.dOnly (i := 16) (by kernel_rfl) (Vk.call (some 23) 151 #[pp b_245, vi 1, vi 0] hs (by kernel_rfl) (by kernel_rfl) (by kernel_rfl) ?_)
          refine Vk.enterI [(0, pp b_245), (1, vi 1), (2, vi 0)] Try.func151 rfl Try.ntmps151 (by kernel_rfl) (Nat.le_of_ble_eq_true (by kernel_rfl)) hs.own fun KR544 hKR544 hKP544 a hs => ?_
          refine qsr fun K545 hK545 => ?_
          refine qpe 1 [(0, pp b_245), (1, vi 1), (2, vi 0)] hs fun a hs => hK545 _ _ ?_
          clear hK545
          refine qsr fun K546 hK546 => ?_
          refine qpu 3 hs fun a hs => ?_
          refine qld 3 (C.map (some b_244)) hs rfl fun a hs => ?_
          refine qpu 7 hs fun a hs => ?_
          refine Vk.step (Vk.value (some 18) (vi v_266.1) hs (by kernel_rfl) (op := (.lookup 186 (.tmp 10) (.tmp 17) false)) (by kernel_rfl) (fun o ho => run_lookup (b := b_244) (key := .agg (vals [ci 0, ci 1])) 4 rfl ho (by kernel_rfl) (by kernel_rfl) (by kernel_rfl) _ hs.own) fun a hs => ?_)
          refine qpe 1 [(6, vi v_266.1)] hs fun a hs => hK546 _ _ ?_
          clear hK546
          refine wp_ret ?_
          refine hKP544 _ _ ?_
          refine hKR544 _ _ ?_
          refine Vk.ret1 (P := Try.prog) (fn := Try.f151) (vi v_266.1) hs rfl (by kernel_rfl) ⟨_, _, _, rfl, hs.own, fun a hs => ?_⟩
          replace hcl : Own κ w C_543 := by rw [hC_543]; exact (Own.to hs.own [0, 1, 2, 3, 4, 5, 6, 7, 8, 9] 10 (by kernel_rfl) (by kernel_rfl))
          refine ⟨fun _ => hcl, ?_⟩
          obtain ⟨v_549, h_548, hm⟩ := bind_t hm
          refine Vk.dOnly (i := 17) (by kernel_rfl) (Vk.call (some 24) 150 #[pp b_x0, vi 5, vi 1, vi v_375.1, vi v_266.1] hs (by kernel_rfl) (by kernel_rfl) (by kernel_rfl) ?_)
          refine (wire_Machine_Two.ok k v_522.2 5 1 v_375.1 v_266.1 v_549 h_548 κ w (pt b_462 (blk [ci v_522.1, ci v_388.1, ci (-1)] 28) :: pt b_460 (blk [ci 0, ci 0, ci 0] 28) :: pt b_245 (blk [cp b_x0, C.map (some b_244), ci v_327.1, ci v_340.1, ci v_353.1, ci v_375.1, ci v_388.1, ci v_401.1, ci v_423.1, ci v_436.1, ci v_449.1] 188) :: pt b_244 (.map #[⟨.agg (vals [ci 0, ci 1]), vi v_266.1, 0⟩, ⟨.agg (vals [ci 0, ci 2]), vi v_274.1, 1⟩, ⟨.agg (vals [ci 1, ci 2]), vi v_291.1, 2⟩] 3) :: pt b_242 (blk x2 28) :: pt b_241 (blk x1 28) :: pt b_4 (blk [ci 0, ci 0, ci 0] 28) :: pt b_3 (blk x2 28) :: pt b_2 (blk x1 28) :: S) b_x0 (Own.to hs.own [0, 1, 2, 3, 4, 5, 6, 7, 8, 9] 10 (by kernel_rfl) (by kernel_rfl))).mono ?_
          rintro _ w ⟨rfl, how⟩
          refine ⟨_, _, _, rfl, how, fun a hs => ?_⟩
          refine ⟨fun h => absurd h (by decide), ?_⟩
          refine Vk.dOnly (i := 18) (by kernel_rfl) (Vk.dPure1 [(6, vi v_549.1)] hs (by kernel_rfl) fun a hs => ?_)
          refine ⟨fun h => absurd h (by decide), ?_⟩
          replace hs := hs.pick [6] (L' := [(6, vi v_549.1)]) (by kernel_rfl)
          refine Vk.dDone (by kernel_rfl) ?_
          refine hK542 _ _ ?_
          clear hK542
          refine wp_ret ?_
          refine hKP540 _ _ ?_
          refine hKR540 _ _ ?_
          refine Vk.ret1 (P := Try.prog) (fn := Try.f93) (vi v_549.1) hs rfl (by kernel_rfl) ⟨_, _, _, rfl, hs.own, fun a hs => ?_⟩
          replace hcl : Own κ w C_539 := by rw [hC_539]; exact (Own.to hs.own [1, 2, 3, 4, 5, 6, 7, 8, 9] 10 (by kernel_rfl) (by kernel_rfl))
          refine ⟨fun _ => hcl, ?_⟩
          obtain ⟨v_552, h_551, hm⟩ := bind_t hm
          refine Vk.dOnly (i := 14) (by kernel_rfl) (Vk.call (some 52) 150 #[pp b_x0, vi 5, vi 1, vi v_388.1, vi v_549.1] hs (by kernel_rfl) (by kernel_rfl) (by kernel_rfl) ?_)
          refine (wire_Machine_Two.ok k v_549.2 5 1 v_388.1 v_549.1 v_552 h_551 κ w (pt b_462 (blk [ci v_522.1, ci v_388.1, ci (-1)] 28) :: pt b_460 (blk [ci 0, ci 0, ci 0] 28) :: pt b_245 (blk [cp b_x0, C.map (some b_244), ci v_327.1, ci v_340.1, ci v_353.1, ci v_375.1, ci v_388.1, ci v_401.1, ci v_423.1, ci v_436.1, ci v_449.1] 188) :: pt b_244 (.map #[⟨.agg (vals [ci 0, ci 1]), vi v_266.1, 0⟩, ⟨.agg (vals [ci 0, ci 2]), vi v_274.1, 1⟩, ⟨.agg (vals [ci 1, ci 2]), vi v_291.1, 2⟩] 3) :: pt b_242 (blk x2 28) :: pt b_241 (blk x1 28) :: pt b_4 (blk [ci 0, ci 0, ci 0] 28) :: pt b_3 (blk x2 28) :: pt b_2 (blk x1 28) :: S) b_x0 (Own.to hs.own [0, 1, 2, 3, 4, 5, 6, 7, 8, 9] 10 (by kernel_rfl) (by kernel_rfl))).mono ?_
          rintro _ w ⟨rfl, how⟩
          refine ⟨_, _, _, rfl, how, fun a hs => ?_⟩
          replace hcl : Own κ w C_539 := by rw [hC_539]; exact (Own.to hs.own [1, 2, 3, 4, 5, 6, 7, 8, 9] 10 (by kernel_rfl) (by kernel_rfl))
          refine ⟨fun _ => hcl, ?_⟩
          refine qdp (fuel := 1) [16] hs hcl hqC_539 fun a hs => ?_
          refine Vk.dOnly (i := 17) (by kernel_rfl) (Vk.store1 (b := b_462) (ty := 3) (x := (.tmp 54)) (y := (.tmp 52)) (off := 1) (ci v_552.1) 1 hs (by kernel_rfl) (by kernel_rfl) (by kernel_rfl) (by kernel_rfl) (by kernel_rfl) (by kernel_rfl) rfl (Nat.le_of_ble_eq_true (by kernel_rfl)) fun a w hs => ?_)
          refine ⟨fun h => absurd h (by decide), ?_⟩
          replace hs := hs.pick [0, 1, 4, 5, 6, 7, 16, 17, 31, 32] (L' := [(0, pp b_245), (1, .func (.func 93) #[pp b_245] #[]), (4, pp b_460), (5, pp b_462), (6, vi 3), (7, vi 1), (16, vi 3), (17, vi 1), (31, vi 3), (32, vi 0)]) (by kernel_rfl)
          refine Vk.dDone (by kernel_rfl) ?_
          refine hK536 _ _ ?_
          clear hK536
          refine Vk.region ?_
          refine qpe 2 [(0, pp b_245), (1, .func (.func 93) #[pp b_245] #[]), (4, pp b_460), (5, pp b_462), (6, vi 3), (7, vi 1), (16, vi 3), (17, vi 1), (31, vi 3), (32, vi 1)] hs fun a hs => hKL533 _ _ ?_
          clear hKL533
          refine Vk.unroll fun KL553 hKL553 => ?_
          refine qsr fun K554 hK554 => ?_
          refine qpe 1 [(0, pp b_245), (1, .func (.func 93) #[pp b_245] #[]), (4, pp b_460), (5, pp b_462), (6, vi 3), (7, vi 1), (16, vi 3), (17, vi 1), (31, vi 3), (32, vi 1), (33, .bool true)] hs fun a hs => hK554 _ _ ?_
          clear hK554
          refine Vk.seq fun K555 hK555 => ?_
          refine qct hs ?_
          refine wp_skip ?_
          refine hK555 _ _ ?_
          clear hK555
          refine Vk.seq fun K556 hK556 => ?_
          refine wp_block ?_
          refine qsr fun K557 hK557 => ?_
          refine qpe 2 [(0, pp b_245), (1, .func (.func 93) #[pp b_245] #[]), (4, pp b_460), (5, pp b_462), (6, vi 3), (7, vi 1), (8, vi 1), (16, vi 3), (17, vi 1), (31, vi 3), (32, vi 1)] hs fun a hs => hK557 _ _ ?_
          clear hK557
          refine qsr fun K558 hK558 => ?_
          refine qpe 3 [(0, pp b_245), (1, .func (.func 93) #[pp b_245] #[]), (4, pp b_460), (5, pp b_462), (6, vi 3), (7, vi 1), (8, vi 1), (16, vi 3), (17, vi 1), (31, vi 3), (32, vi 1), (37, .bool false)] hs fun a hs => hK558 _ _ ?_
          clear hK558
          refine qcf hs ?_
          refine wp_skip ?_
          refine hK556 _ _ ?_
          clear hK556
          refine Vk.region ?_
          refine qpe 2 [(0, pp b_245), (1, .func (.func 93) #[pp b_245] #[]), (4, pp b_460), (5, pp b_462), (6, vi 3), (7, vi 1), (16, vi 3), (17, vi 1), (31, vi 3), (32, vi 2)] hs fun a hs => hKL553 _ _ ?_
          clear hKL553
          refine Vk.unroll fun KL559 hKL559 => ?_
          refine qsr fun K560 hK560 => ?_
          refine qpe 1 [(0, pp b_245), (1, .func (.func 93) #[pp b_245] #[]), (4, pp b_460), (5, pp b_462), (6, vi 3), (7, vi 1), (16, vi 3), (17, vi 1), (31, vi 3), (32, vi 2), (33, .bool true)] hs fun a hs => hK560 _ _ ?_
          clear hK560
          refine Vk.seq fun K561 hK561 => ?_
          refine qct hs ?_
          refine wp_skip ?_
          refine hK561 _ _ ?_
          clear hK561
          refine Vk.seq fun K562 hK562 => ?_
          refine wp_block ?_
          refine qsr fun K563 hK563 => ?_
          refine qpe 2 [(0, pp b_245), (1, .func (.func 93) #[pp b_245] #[]), (4, pp b_460), (5, pp b_462), (6, vi 3), (7, vi 1), (8, vi 2), (16, vi 3), (17, vi 1), (31, vi 3), (32, vi 2)] hs fun a hs => hK563 _ _ ?_
          clear hK563
          refine qsr fun K564 hK564 => ?_
          refine qpe 3 [(0, pp b_245), (1, .func (.func 93) #[pp b_245] #[]), (4, pp b_460), (5, pp b_462), (6, vi 3), (7, vi 1), (8, vi 2), (16, vi 3), (17, vi 1), (31, vi 3), (32, vi 2), (37, .bool true)] hs fun a hs => hK564 _ _ ?_
          clear hK564
          refine qct hs ?_
          obtain ⟨C_565, hC_565⟩ : ∃ X0 : List HP, X0 = (pt b_462 (blk [ci v_522.1, ci v_552.1, ci (-1)] 28) :: pt b_460 (blk [ci 0, ci 0, ci 0] 28) :: pt b_245 (blk [cp b_x0, C.map (some b_244), ci v_327.1, ci v_340.1, ci v_353.1, ci v_375.1, ci v_388.1, ci v_401.1, ci v_423.1, ci v_436.1, ci v_449.1] 188) :: pt b_244 (.map #[⟨.agg (vals [ci 0, ci 1]), vi v_266.1, 0⟩, ⟨.agg (vals [ci 0, ci 2]), vi v_274.1, 1⟩, ⟨.agg (vals [ci 1, ci 2]), vi v_291.1, 2⟩] 3) :: pt b_242 (blk x2 28) :: pt b_241 (blk x1 28) :: pt b_4 (blk [ci 0, ci 0, ci 0] 28) :: pt b_3 (blk x2 28) :: pt b_2 (blk x1 28) :: S) := ⟨_, rfl⟩
          refine qdr 17 κ C_565 hs fun w hs hqC_565 => ?_
          have hcz : Own κ w (pt b_462 (blk [ci v_522.1, ci v_552.1, ci (-1)] 28) :: pt b_460 (blk [ci 0, ci 0, ci 0] 28) :: pt b_245 (blk [cp b_x0, C.map (some b_244), ci v_327.1, ci v_340.1, ci v_353.1, ci v_375.1, ci v_388.1, ci v_401.1, ci v_423.1, ci v_436.1, ci v_449.1] 188) :: pt b_244 (.map #[⟨.agg (vals [ci 0, ci 1]), vi v_266.1, 0⟩, ⟨.agg (vals [ci 0, ci 2]), vi v_274.1, 1⟩, ⟨.agg (vals [ci 1, ci 2]), vi v_291.1, 2⟩] 3) :: pt b_242 (blk x2 28) :: pt b_241 (blk x1 28) :: pt b_4 (blk [ci 0, ci 0, ci 0] 28) :: pt b_3 (blk x2 28) :: pt b_2 (blk x1 28) :: S) := (Own.to hs.own [1, 2, 3, 4, 5, 6, 7, 8, 9] 10 (by kernel_rfl) (by kernel_rfl))
          have hcl : Own κ w C_565 := by rw [hC_565]; exact hcz
          refine qdp (fuel := 6) [0, 1, 2, 3, 5, 6, 7, 8, 10, 11, 12, 15] hs hcl hqC_565 fun a hs => ?_
          refine qdl 4 2 (cp b_x0) hs hcl hqC_565 hC_565 rfl fun a hs => ?_
          refine qdl 9 0 (ci v_552.1) hs hcl hqC_565 hC_565 rfl fun a hs => ?_
          refine Vk.dOnly (i := 13) (by kernel_rfl) (Vk.call (some 51) 93 #[pp b_245, vi 1, vi 2] hs (by kernel_rfl) (by kernel_rfl) (by kernel_rfl) ?_)
          refine Vk.enterI [(0, pp b_245), (1, vi 1), (2, vi 2)] Try.func93 rfl Try.ntmps93 (by kernel_rfl) (Nat.le_of_ble_eq_true (by kernel_rfl)) hs.own fun KR566 hKR566 hKP566 a hs => ?_
          refine qsr fun K567 hK567 => ?_
          refine qpe 1 [(0, pp b_245), (1, vi 1), (2, vi 2)] hs fun a hs => hK567 _ _ ?_
          clear hK567
          refine Vk.seq fun K568 hK568 => ?_
          obtain ⟨C_569, hC_569⟩ : ∃ X0 : List HP, X0 = (Twire_Machine.own b_x0 v_552.2 :: pt b_462 (blk [ci v_522.1, ci v_552.1, ci (-1)] 28) :: pt b_460 (blk [ci 0, ci 0, ci 0] 28) :: pt b_245 (blk [cp b_x0, C.map (some b_244), ci v_327.1, ci v_340.1, ci v_353.1, ci v_375.1, ci v_388.1, ci v_401.1, ci v_423.1, ci v_436.1, ci v_449.1] 188) :: pt b_244 (.map #[⟨.agg (vals [ci 0, ci 1]), vi v_266.1, 0⟩, ⟨.agg (vals [ci 0, ci 2]), vi v_274.1, 1⟩, ⟨.agg (vals [ci 1, ci 2]), vi v_291.1, 2⟩] 3) :: pt b_242 (blk x2 28) :: pt b_241 (blk x1 28) :: pt b_4 (blk [ci 0, ci 0, ci 0] 28) :: pt b_3 (blk x2 28) :: pt b_2 (blk x1 28) :: S) := ⟨_, rfl⟩
          refine qdr 17 κ C_569 hs fun w hs hqC_569 => ?_
          have hcz : Own κ w (Twire_Machine.own b_x0 v_552.2 :: pt b_462 (blk [ci v_522.1, ci v_552.1, ci (-1)] 28) :: pt b_460 (blk [ci 0, ci 0, ci 0] 28) :: pt b_245 (blk [cp b_x0, C.map (some b_244), ci v_327.1, ci v_340.1, ci v_353.1, ci v_375.1, ci v_388.1, ci v_401.1, ci v_423.1, ci v_436.1, ci v_449.1] 188) :: pt b_244 (.map #[⟨.agg (vals [ci 0, ci 1]), vi v_266.1, 0⟩, ⟨.agg (vals [ci 0, ci 2]), vi v_274.1, 1⟩, ⟨.agg (vals [ci 1, ci 2]), vi v_291.1, 2⟩] 3) :: pt b_242 (blk x2 28) :: pt b_241 (blk x1 28) :: pt b_4 (blk [ci 0, ci 0, ci 0] 28) :: pt b_3 (blk x2 28) :: pt b_2 (blk x1 28) :: S) := (Own.to hs.own [0, 1, 2, 3, 4, 5, 6, 7, 8, 9] 10 (by kernel_rfl) (by kernel_rfl))
          have hcl : Own κ w C_569 := by rw [hC_569]; exact hcz
          refine qdp (fuel := 5) [0, 1, 2, 4, 5, 6, 7, 8, 9, 10, 11, 13, 14, 15] hs hcl hqC_569 fun a hs => ?_
          refine qdl 3 3 (cp b_x0) hs hcl hqC_569 hC_569 rfl fun a hs => ?_
          refine qdl 12 3 (ci v_401.1) hs hcl hqC_569 hC_569 rfl fun a hs => ?_
          refine Vk.dOnly (i := 16) (by kernel_rfl) (Vk.call (some 23) 151 #[pp b_245, vi 1, vi 2] hs (by kernel_rfl) (by kernel_rfl) (by kernel_rfl) ?_)
          refine Vk.enterI [(0, pp b_245), (1, vi 1), (2, vi 2)] Try.func151 rfl Try.ntmps151 (by kernel_rfl) (Nat.le_of_ble_eq_true (by kernel_rfl)) hs.own fun KR570 hKR570 hKP570 a hs => ?_
          refine qsr fun K571 hK571 => ?_
          refine qpe 1 [(0, pp b_245), (1, vi 1), (2, vi 2)] hs fun a hs => hK571 _ _ ?_
          clear hK571
          refine qsr fun K572 hK572 => ?_
          refine qpu 3 hs fun a hs => ?_
          refine qld 3 (C.map (some b_244)) hs rfl fun a hs => ?_
          refine qpu 7 hs fun a hs => ?_
          refine Vk.step (Vk.value (some 18) (vi v_291.1) hs (by kernel_rfl) (op := (.lookup 186 (.tmp 10) (.tmp 17) false)) (by kernel_rfl) (fun o ho => run_lookup (b := b_244) (key := .agg (vals [ci 1, ci 2])) 4 rfl ho (by kernel_rfl) (by kernel_rfl) (by kernel_rfl) _ hs.own) fun a hs => ?_)
          refine qpe 1 [(6, vi v_291.1)] hs fun a hs => hK572 _ _ ?_
          clear hK572
          refine wp_ret ?_
          refine hKP570 _ _ ?_
          refine hKR570 _ _ ?_
          refine Vk.ret1 (P := Try.prog) (fn := Try.f151) (vi v_291.1) hs rfl (by kernel_rfl) ⟨_, _, _, rfl, hs.own, fun a hs => ?_⟩
          replace hcl : Own κ w C_569 := by rw [hC_569]; exact (Own.to hs.own [0, 1, 2, 3, 4, 5, 6, 7, 8, 9] 10 (by kernel_rfl) (by kernel_rfl))
          refine ⟨fun _ => hcl, ?_⟩
          obtain ⟨v_575, h_574, hm⟩ := bind_t hm
          refine Vk.dOnly (i := 17) (by kernel_rfl) (Vk.call (some 24) 150 #[pp b_x0, vi 5, vi 1, vi v_401.1, vi v_291.1] hs (by kernel_rfl) (by kernel_rfl) (by kernel_rfl) ?_)
          refine (wire_Machine_Two.ok k v_552.2 5 1 v_401.1 v_291.1 v_575 h_574 κ w (pt b_462 (blk [ci v_522.1, ci v_552.1, ci (-1)] 28) :: pt b_460 (blk [ci 0, ci 0, ci 0] 28) :: pt b_245 (blk [cp b_x0, C.map (some b_244), ci v_327.1, ci v_340.1, ci v_353.1, ci v_375.1, ci v_388.1, ci v_401.1, ci v_423.1, ci v_436.1, ci v_449.1] 188) :: pt b_244 (.map #[⟨.agg (vals [ci 0, ci 1]), vi v_266.1, 0⟩, ⟨.agg (vals [ci 0, ci 2]), vi v_274.1, 1⟩, ⟨.agg (vals [ci 1, ci 2]), vi v_291.1, 2⟩] 3) :: pt b_242 (blk x2 28) :: pt b_241 (blk x1 28) :: pt b_4 (blk [ci 0, ci 0, ci 0] 28) :: pt b_3 (blk x2 28) :: pt b_2 (blk x1 28) :: S) b_x0 (Own.to hs.own [0, 1, 2, 3, 4, 5, 6, 7, 8, 9] 10 (by kernel_rfl) (by kernel_rfl))).mono ?_
          rintro _ w ⟨rfl, how⟩
          refine ⟨_, _, _, rfl, how, fun a hs => ?_⟩
          refine ⟨fun h => absurd h (by decide), ?_⟩
          refine Vk.dOnly (i := 18) (by kernel_rfl) (Vk.dPure1 [(6, vi v_575.1)] hs (by kernel_rfl) fun a hs => ?_)
          refine ⟨fun h => absurd h (by decide), ?_⟩
          replace hs := hs.pick [6] (L' := [(6, vi v_575.1)]) (by kernel_rfl)
          refine Vk.dDone (by kernel_rfl) ?_
          refine hK568 _ _ ?_
          clear hK568
          refine wp_ret ?_
          refine hKP566 _ _ ?_
          refine hKR566 _ _ ?_
          refine Vk.ret1 (P := Try.prog) (fn := Try.f93) (vi v_575.1) hs rfl (by kernel_rfl) ⟨_, _, _, rfl, hs.own, fun a hs => ?_⟩
          replace hcl : Own κ w C_565 := by rw [hC_565]; exact (Own.to hs.own [1, 2, 3, 4, 5, 6, 7, 8, 9] 10 (by kernel_rfl) (by kernel_rfl))
          refine ⟨fun _ => hcl, ?_⟩
          obtain ⟨v_578, h_577, hm⟩ := bind_t hm
          refine Vk.dOnly (i := 14) (by kernel_rfl) (Vk.call (some 52) 150 #[pp b_x0, vi 5, vi 1, vi v_552.1, vi v_575.1] hs (by kernel_rfl) (by kernel_rfl) (by kernel_rfl) ?_)
          refine (wire_Machine_Two.ok k v_575.2 5 1 v_552.1 v_575.1 v_578 h_577 κ w (pt b_462 (blk [ci v_522.1, ci v_552.1, ci (-1)] 28) :: pt b_460 (blk [ci 0, ci 0, ci 0] 28) :: pt b_245 (blk [cp b_x0, C.map (some b_244), ci v_327.1, ci v_340.1, ci v_353.1, ci v_375.1, ci v_388.1, ci v_401.1, ci v_423.1, ci v_436.1, ci v_449.1] 188) :: pt b_244 (.map #[⟨.agg (vals [ci 0, ci 1]), vi v_266.1, 0⟩, ⟨.agg (vals [ci 0, ci 2]), vi v_274.1, 1⟩, ⟨.agg (vals [ci 1, ci 2]), vi v_291.1, 2⟩] 3) :: pt b_242 (blk x2 28) :: pt b_241 (blk x1 28) :: pt b_4 (blk [ci 0, ci 0, ci 0] 28) :: pt b_3 (blk x2 28) :: pt b_2 (blk x1 28) :: S) b_x0 (Own.to hs.own [0, 1, 2, 3, 4, 5, 6, 7, 8, 9] 10 (by kernel_rfl) (by kernel_rfl))).mono ?_
          rintro _ w ⟨rfl, how⟩
          refine ⟨_, _, _, rfl, how, fun a hs => ?_⟩
          replace hcl : Own κ w C_565 := by rw [hC_565]; exact (Own.to hs.own [1, 2, 3, 4, 5, 6, 7, 8, 9] 10 (by kernel_rfl) (by kernel_rfl))
          refine ⟨fun _ => hcl, ?_⟩
          refine qdp (fuel := 1) [16] hs hcl hqC_565 fun a hs => ?_
          refine Vk.dOnly (i := 17) (by kernel_rfl) (Vk.store1 (b := b_462) (ty := 3) (x := (.tmp 54)) (y := (.tmp 52)) (off := 1) (ci v_578.1) 1 hs (by kernel_rfl) (by kernel_rfl) (by kernel_rfl) (by kernel_rfl) (by kernel_rfl) (by kernel_rfl) rfl (Nat.le_of_ble_eq_true (by kernel_rfl)) fun a w hs => ?_)
          refine ⟨fun h => absurd h (by decide), ?_⟩
          replace hs := hs.pick [0, 1, 4, 5, 6, 7, 16, 17, 31, 32] (L' := [(0, pp b_245), (1, .func (.func 93) #[pp b_245] #[]), (4, pp b_460), (5, pp b_462), (6, vi 3), (7, vi 1), (16, vi 3), (17, vi 1), (31, vi 3), (32, vi 2)]) (by kernel_rfl)
          refine Vk.dDone (by kernel_rfl) ?_
          refine hK562 _ _ ?_
          clear hK562
          refine Vk.region ?_
          refine qpe 2 [(0, pp b_245), (1, .func (.func 93) #[pp b_245] #[]), (4, pp b_460), (5, pp b_462), (6, vi 3), (7, vi 1), (16, vi 3), (17, vi 1), (31, vi 3), (32, vi 3)] hs fun a hs => hKL559 _ _ ?_
          clear hKL559
          refine Vk.unroll fun KL579 hKL579 => ?_
          refine qsr fun K580 hK580 => ?_
          refine qpe 1 [(0, pp b_245), (1, .func (.func 93) #[pp b_245] #[]), (4, pp b_460), (5, pp b_462), (6, vi 3), (7, vi 1), (16, vi 3), (17, vi 1), (31, vi 3), (32, vi 3), (33, .bool false)] hs fun a hs => hK580 _ _ ?_
          clear hK580
          refine Vk.seq fun K581 hK581 => ?_
          refine qcf hs ?_
          refine wp_exit ?_
          refine hK529 _ _ ?_
          clear hK529
          refine Vk.region ?_
          refine qpe 2 [(0, pp b_245), (1, .func (.func 93) #[pp b_245] #[]), (4, pp b_460), (5, pp b_462), (6, vi 3), (16, vi 3), (17, vi 2)] hs fun a hs => hKL526 _ _ ?_
          clear hKL526
          refine Vk.unroll fun KL582 hKL582 => ?_
          refine qsr fun K583 hK583 => ?_
          refine qpe 1 [(0, pp b_245), (1, .func (.func 93) #[pp b_245] #[]), (4, pp b_460), (5, pp b_462), (6, vi 3), (16, vi 3), (17, vi 2), (18, .bool true)] hs fun a hs => hK583 _ _ ?_
          clear hK583
          refine Vk.seq fun K584 hK584 => ?_
          refine qct hs ?_
          refine wp_skip ?_
          refine hK584 _ _ ?_
          clear hK584
          refine Vk.seq fun K585 hK585 => ?_
          refine wp_block ?_
          refine qsr fun K586 hK586 => ?_
          refine qpe 2 [(0, pp b_245), (1, .func (.func 93) #[pp b_245] #[]), (4, pp b_460), (5, pp b_462), (6, vi 3), (7, vi 2), (16, vi 3), (17, vi 2)] hs fun a hs => hK586 _ _ ?_
          clear hK586
          refine qsr fun K587 hK587 => ?_
          refine qpu 8 hs fun a hs => ?_
          refine qld 3 (ci v_449.1) hs rfl fun a hs => ?_
          refine qpu 2 hs fun a hs => ?_
          refine Vk.step (Vk.store1 (b := b_462) (ty := 3) (x := (.tmp 30)) (y := (.tmp 28)) (off := 2) (ci v_449.1) 1 hs (by kernel_rfl) (by kernel_rfl) (by kernel_rfl) (by kernel_rfl) (by kernel_rfl) (by kernel_rfl) rfl (Nat.le_of_ble_eq_true (by kernel_rfl)) fun a w hs => ?_)
          refine qpe 0 [(0, pp b_245), (1, .func (.func 93) #[pp b_245] #[]), (4, pp b_460), (5, pp b_462), (6, vi 3), (7, vi 2), (16, vi 3), (17, vi 2)] hs fun a hs => hK587 _ _ ?_
          clear hK587
          refine qsr fun K588 hK588 => ?_
          refine qpe 2 [(0, pp b_245), (1, .func (.func 93) #[pp b_245] #[]), (4, pp b_460), (5, pp b_462), (6, vi 3), (7, vi 2), (16, vi 3), (17, vi 2), (31, vi 3), (32, vi 0)] hs fun a hs => hK588 _ _ ?_
          clear hK588
          refine wp_block ?_
          refine Vk.unroll0 40 ?_
          refine Vk.unroll fun KL589 hKL589 => ?_
          refine qsr fun K590 hK590 => ?_
          refine qpe 1 [(0, pp b_245), (1, .func (.func 93) #[pp b_245] #[]), (4, pp b_460), (5, pp b_462), (6, vi 3), (7, vi 2), (16, vi 3), (17, vi 2), (31, vi 3), (32, vi 0), (33, .bool true)] hs fun a hs => hK590 _ _ ?_
          clear hK590
          refine Vk.seq fun K591 hK591 => ?_
          refine qct hs ?_
          refine wp_skip ?_
          refine hK591 _ _ ?_
          clear hK591
          refine Vk.seq fun K592 hK592 => ?_
          refine wp_block ?_
          refine qsr fun K593 hK593 => ?_
          refine qpe 2 [(0, pp b_245), (1, .func (.func 93) #[pp b_245] #[]), (4, pp b_460), (5, pp b_462), (6, vi 3), (7, vi 2), (8, vi 0), (16, vi 3), (17, vi 2), (31, vi 3), (32, vi 0)] hs fun a hs => hK593 _ _ ?_
          clear hK593
          refine qsr fun K594 hK594 => ?_
          refine qpe 3 [(0, pp b_245), (1, .func (.func 93) #[pp b_245] #[]), (4, pp b_460), (5, pp b_462), (6, vi 3), (7, vi 2), (8, vi 0), (16, vi 3), (17, vi 2), (31, vi 3), (32, vi 0), (37, .bool true)] hs fun a hs => hK594 _ _ ?_
          clear hK594
          refine qct hs ?_
          obtain ⟨C_595, hC_595⟩ : ∃ X0 : List HP, X0 = (pt b_462 (blk [ci v_522.1, ci v_578.1, ci v_449.1] 28) :: pt b_460 (blk [ci 0, ci 0, ci 0] 28) :: pt b_245 (blk [cp b_x0, C.map (some b_244), ci v_327.1, ci v_340.1, ci v_353.1, ci v_375.1, ci v_388.1, ci v_401.1, ci v_423.1, ci v_436.1, ci v_449.1] 188) :: pt b_244 (.map #[⟨.agg (vals [ci 0, ci 1]), vi v_266.1, 0⟩, ⟨.agg (vals [ci 0, ci 2]), vi v_274.1, 1⟩, ⟨.agg (vals [ci 1, ci 2]), vi v_291.1, 2⟩] 3) :: pt b_242 (blk x2 28) :: pt b_241 (blk x1 28) :: pt b_4 (blk [ci 0, ci 0, ci 0] 28) :: pt b_3 (blk x2 28) :: pt b_2 (blk x1 28) :: S) := ⟨_, rfl⟩
          refine qdr 17 κ C_595 hs fun w hs hqC_595 => ?_
          have hcz : Own κ w (pt b_462 (blk [ci v_522.1, ci v_578.1, ci v_449.1] 28) :: pt b_460 (blk [ci 0, ci 0, ci 0] 28) :: pt b_245 (blk [cp b_x0, C.map (some b_244), ci v_327.1, ci v_340.1, ci v_353.1, ci v_375.1, ci v_388.1, ci v_401.1, ci v_423.1, ci v_436.1, ci v_449.1] 188) :: pt b_244 (.map #[⟨.agg (vals [ci 0, ci 1]), vi v_266.1, 0⟩, ⟨.agg (vals [ci 0, ci 2]), vi v_274.1, 1⟩, ⟨.agg (vals [ci 1, ci 2]), vi v_291.1, 2⟩] 3) :: pt b_242 (blk x2 28) :: pt b_241 (blk x1 28) :: pt b_4 (blk [ci 0, ci 0, ci 0] 28) :: pt b_3 (blk x2 28) :: pt b_2 (blk x1 28) :: S) := (Own.to hs.own [1, 2, 3, 4, 5, 6, 7, 8, 9] 10 (by kernel_rfl) (by kernel_rfl))
          have hcl : Own κ w C_595 := by rw [hC_595]; exact hcz
          refine qdp (fuel := 6) [0, 1, 2, 3, 5, 6, 7, 8, 10, 11, 12, 15] hs hcl hqC_595 fun a hs => ?_
          refine qdl 4 2 (cp b_x0) hs hcl hqC_595 hC_595 rfl fun a hs => ?_
          refine qdl 9 0 (ci v_449.1) hs hcl hqC_595 hC_595 rfl fun a hs => ?_
          refine Vk.dOnly (i := 13) (by kernel_rfl) (Vk.call (some 51) 93 #[pp b_245, vi 2, vi 0] hs (by kernel_rfl) (by kernel_rfl) (by kernel_rfl) ?_)
          refine Vk.enterI [(0, pp b_245), (1, vi 2), (2, vi 0)] Try.func93 rfl Try.ntmps93 (by kernel_rfl) (Nat.le_of_ble_eq_true (by kernel_rfl)) hs.own fun KR596 hKR596 hKP596 a hs => ?_
          refine qsr fun K597 hK597 => ?_
          refine qpe 1 [(0, pp b_245), (1, vi 2), (2, vi 0)] hs fun a hs => hK597 _ _ ?_
          clear hK597
          refine Vk.seq fun K598 hK598 => ?_
          obtain ⟨C_599, hC_599⟩ : ∃ X0 : List HP, X0 = (Twire_Machine.own b_x0 v_578.2 :: pt b_462 (blk [ci v_522.1, ci v_578.1, ci v_449.1] 28) :: pt b_460 (blk [ci 0, ci 0, ci 0] 28) :: pt b_245 (blk [cp b_x0, C.map (some b_244), ci v_327.1, ci v_340.1, ci v_353.1, ci v_375.1, ci v_388.1, ci v_401.1, ci v_423.1, ci v_436.1, ci v_449.1] 188) :: pt b_244 (.map #[⟨.agg (vals [ci 0, ci 1]), vi v_266.1, 0⟩, ⟨.agg (vals [ci 0, ci 2]), vi v_274.1, 1⟩, ⟨.agg (vals [ci 1, ci 2]), vi v_291.1, 2⟩] 3) :: pt b_242 (blk x2 28) :: pt b_241 (blk x1 28) :: pt b_4 (blk [ci 0, ci 0, ci 0] 28) :: pt b_3 (blk x2 28) :: pt b_2 (blk x1 28) :: S) := ⟨_, rfl⟩
          refine qdr 17 κ C_599 hs fun w hs hqC_599 => ?_
          have hcz : Own κ w (Twire_Machine.own b_x0 v_578.2 :: pt b_462 (blk [ci v_522.1, ci v_578.1, ci v_449.1] 28) :: pt b_460 (blk [ci 0, ci 0, ci 0] 28) :: pt b_245 (blk [cp b_x0, C.map (some b_244), ci v_327.1, ci v_340.1, ci v_353.1, ci v_375.1, ci v_388.1, ci v_401.1, ci v_423.1, ci v_436.1, ci v_449.1] 188) :: pt b_244 (.map #[⟨.agg (vals [ci 0, ci 1]), vi v_266.1, 0⟩, ⟨.agg (vals [ci 0, ci 2]), vi v_274.1, 1⟩, ⟨.agg (vals [ci 1, ci 2]), vi v_291.1, 2⟩] 3) :: pt b_242 (blk x2 28) :: pt b_241 (blk x1 28) :: pt b_4 (blk [ci 0, ci 0, ci 0] 28) :: pt b_3 (blk x2 28) :: pt b_2 (blk x1 28) :: S) := (Own.to hs.own [0, 1, 2, 3, 4, 5, 6, 7, 8, 9] 10 (by kernel_rfl) (by kernel_rfl))
          have hcl : Own κ w C_599 := by rw [hC_599]; exact hcz
          refine qdp (fuel := 5) [0, 1, 2, 4, 5, 6, 7, 8, 9, 10, 11, 13, 14, 15] hs hcl hqC_599 fun a hs => ?_
          refine qdl 3 3 (cp b_x0) hs hcl hqC_599 hC_599 rfl fun a hs => ?_
          refine qdl 12 3 (ci v_423.1) hs hcl hqC_599 hC_599 rfl fun a hs => ?_
          refine Vk.dOnly (i := 16) (by kernel_rfl) (Vk.call (some 23) 151 #[pp b_245, vi 2, vi 0] hs (by kernel_rfl) (by kernel_rfl) (by kernel_rfl) ?_)
          refine Vk.enterI [(0, pp b_245), (1, vi 2), (2, vi 0)] Try.func151 rfl Try.ntmps151 (by kernel_rfl) (Nat.le_of_ble_eq_true (by kernel_rfl)) hs.own fun KR600 hKR600 hKP600 a hs => ?_
          refine qsr fun K601 hK601 => ?_
          refine qpe 1 [(0, pp b_245), (1, vi 2), (2, vi 0)] hs fun a hs => hK601 _ _ ?_
          clear hK601
          refine qsr fun K602 hK602 => ?_
          refine qpu 3 hs fun a hs => ?_
          refine qld 3 (C.map (some b_244)) hs rfl fun a hs => ?_
          refine qpu 7 hs fun a hs => ?_
          refine Vk.step (Vk.value (some 18) (vi v_274.1) hs (by kernel_rfl) (op := (.lookup 186 (.tmp 10) (.tmp 17) false)) (by kernel_rfl) (fun o ho => run_lookup (b := b_244) (key := .agg (vals [ci 0, ci 2])) 4 rfl ho (by kernel_rfl) (by kernel_rfl) (by kernel_rfl) _ hs.own) fun a hs => ?_)
          refine qpe 1 [(6, vi v_274.1)] hs fun a hs => hK602 _ _ ?_
          clear hK602
          refine wp_ret ?_
          refine hKP600 _ _ ?_
          refine hKR600 _ _ ?_
          refine Vk.ret1 (P := Try.prog) (fn := Try.f151) (vi v_274.1) hs rfl (by kernel_rfl) ⟨_, _, _, rfl, hs.own, fun a hs => ?_⟩
          replace hcl : Own κ w C_599 := by rw [hC_599]; exact (Own.to hs.own [0, 1, 2, 3, 4, 5, 6, 7, 8, 9] 10 (by kernel_rfl) (by kernel_rfl))
          refine ⟨fun _ => hcl, ?_⟩
          obtain ⟨v_605, h_604, hm⟩ := bind_t hm
          refine Vk.dOnly (i := 17) (by kernel_rfl) (Vk.call (some 24) 150 #[pp b_x0, vi 5, vi 2, vi v_423.1, vi v_274.1] hs (by kernel_rfl) (by kernel_rfl) (by kernel_rfl) ?_)
          refine (wire_Machine_Two.ok k v_578.2 5 2 v_423.1 v_274.1 v_605 h_604 κ w (pt b_462 (blk [ci v_522.1, ci v_578.1, ci v_449.1] 28) :: pt b_460 (blk [ci 0, ci 0, ci 0] 28) :: pt b_245 (blk [cp b_x0, C.map (some b_244), ci v_327.1, ci v_340.1, ci v_353.1, ci v_375.1, ci v_388.1, ci v_401.1, ci v_423.1, ci v_436.1, ci v_449.1] 188) :: pt b_244 (.map #[⟨.agg (vals [ci 0, ci 1]), vi v_266.1, 0⟩, ⟨.agg (vals [ci 0, ci 2]), vi v_274.1, 1⟩, ⟨.agg (vals [ci 1, ci 2]), vi v_291.1, 2⟩] 3) :: pt b_242 (blk x2 28) :: pt b_241 (blk x1 28) :: pt b_4 (blk [ci 0, ci 0, ci 0] 28) :: pt b_3 (blk x2 28) :: pt b_2 (blk x1 28) :: S) b_x0 (Own.to hs.own [0, 1, 2, 3, 4, 5, 6, 7, 8, 9] 10 (by kernel_rfl) (by kernel_rfl))).mono ?_
          rintro _ w ⟨rfl, how⟩
          refine ⟨_, _, _, rfl, how, fun a hs => ?_⟩
          refine ⟨fun h => absurd h (by decide), ?_⟩
          refine Vk.dOnly (i := 18) (by kernel_rfl) (Vk.dPure1 [(6, vi v_605.1)] hs (by kernel_rfl) fun a hs => ?_)
          refine ⟨fun h => absurd h (by decide), ?_⟩
          replace hs := hs.pick [6] (L' := [(6, vi v_605.1)]) (by kernel_rfl)
          refine Vk.dDone (by kernel_rfl) ?_
          refine hK598 _ _ ?_
          clear hK598
          refine wp_ret ?_
          refine hKP596 _ _ ?_
          refine hKR596 _ _ ?_
          refine Vk.ret1 (P := Try.prog) (fn := Try.f93) (vi v_605.1) hs rfl (by kernel_rfl) ⟨_, _, _, rfl, hs.own, fun a hs => ?_⟩
          replace hcl : Own κ w C_595 := by rw [hC_595]; exact (Own.to hs.own [1, 2, 3, 4, 5, 6, 7, 8, 9] 10 (by kernel_rfl) (by kernel_rfl))
          refine ⟨fun _ => hcl, ?_⟩
          obtain ⟨v_608, h_607, hm⟩ := bind_t hm
          refine Vk.dOnly (i := 14) (by kernel_rfl) (Vk.call (some 52) 150 #[pp b_x0, vi 5, vi 2, vi v_449.1, vi v_605.1] hs (by kernel_rfl) (by kernel_rfl) (by kernel_rfl) ?_)
          refine (wire_Machine_Two.ok k v_605.2 5 2 v_449.1 v_605.1 v_608 h_607 κ w (pt b_462 (blk [ci v_522.1, ci v_578.1, ci v_449.1] 28) :: pt b_460 (blk [ci 0, ci 0, ci 0] 28) :: pt b_245 (blk [cp b_x0, C.map (some b_244), ci v_327.1, ci v_340.1, ci v_353.1, ci v_375.1, ci v_388.1, ci v_401.1, ci v_423.1, ci v_436.1, ci v_449.1] 188) :: pt b_244 (.map #[⟨.agg (vals [ci 0, ci 1]), vi v_266.1, 0⟩, ⟨.agg (vals [ci 0, ci 2]), vi v_274.1, 1⟩, ⟨.agg (vals [ci 1, ci 2]), vi v_291.1, 2⟩] 3) :: pt b_242 (blk x2 28) :: pt b_241 (blk x1 28) :: pt b_4 (blk [ci 0, ci 0, ci 0] 28) :: pt b_3 (blk x2 28) :: pt b_2 (blk x1 28) :: S) b_x0 (Own.to hs.own [0, 1, 2, 3, 4, 5, 6, 7, 8, 9] 10 (by kernel_rfl) (by kernel_rfl))).mono ?_
          rintro _ w ⟨rfl, how⟩
          refine ⟨_, _, _, rfl, how, fun a hs => ?_⟩
          replace hcl : Own κ w C_595 := by rw [hC_595]; exact (Own.to hs.own [1, 2, 3, 4, 5, 6, 7, 8, 9] 10 (by kernel_rfl) (by kernel_rfl))
          refine ⟨fun _ => hcl, ?_⟩
          refine qdp (fuel := 1) [16] hs hcl hqC_595 fun a hs => ?_
          refine Vk.dOnly (i := 17) (by kernel_rfl) (Vk.store1 (b := b_462) (ty := 3) (x := (.tmp 54)) (y := (.tmp 52)) (off := 2) (ci v_608.1) 1 hs (by kernel_rfl) (by kernel_rfl) (by kernel_rfl) (by kernel_rfl) (by kernel_rfl) (by kernel_rfl) rfl (Nat.le_of_ble_eq_true (by kernel_rfl)) fun a w hs => ?_)
          refine ⟨fun h => absurd h (by decide), ?_⟩
          replace hs := hs.pick [0, 1, 4, 5, 6, 7, 16, 17, 31, 32] (L' := [(0, pp b_245), (1, .func (.func 93) #[pp b_245] #[]), (4, pp b_460), (5, pp b_462), (6, vi 3), (7, vi 2), (16, vi 3), (17, vi 2), (31, vi 3), (32, vi 0)]) (by kernel_rfl)
          refine Vk.dDone (by kernel_rfl) ?_
          refine hK592 _ _ ?_
          clear hK592
          refine Vk.region ?_
          refine qpe 2 [(0, pp b_245), (1, .func (.func 93) #[pp b_245] #[]), (4, pp b_460), (5, pp b_462), (6, vi 3), (7, vi 2), (16, vi 3), (17, vi 2), (31, vi 3), (32, vi 1)] hs fun a hs => hKL589 _ _ ?_
          clear hKL589
          refine Vk.unroll fun KL609 hKL609 => ?_
          refine qsr fun K610 hK610 => ?_
          refine qpe 1 [(0, pp b_245), (1, .func (.func 93) #[pp b_245] #[]), (4, pp b_460), (5, pp b_462), (6, vi 3), (7, vi 2), (16, vi 3), (17, vi 2), (31, vi 3), (32, vi 1), (33, .bool true)] hs fun a hs => hK610 _ _ ?_
          clear hK610
          refine Vk.seq fun K611 hK611 => ?_
          refine qct hs ?_
          refine wp_skip ?_
          refine hK611 _ _ ?_
          clear hK611
          refine Vk.seq fun K612 hK612 => ?_
          refine wp_block ?_
          refine qsr fun K613 hK613 => ?_
          refine qpe 2 [(0, pp b_245), (1, .func (.func 93) #[pp b_245] #[]), (4, pp b_460), (5, pp b_462), (6, vi 3), (7, vi 2), (8, vi 1), (16, vi 3), (17, vi 2), (31, vi 3), (32, vi 1)] hs fun a hs => hK613 _ _ ?_
          clear hK613
          refine qsr fun K614 hK614 => ?_
          refine qpe 3 [(0, pp b_245), (1, .func (.func 93) #[pp b_245] #[]), (4, pp b_460), (5, pp b_462), (6, vi 3), (7, vi 2), (8, vi 1), (16, vi 3), (17, vi 2), (31, vi 3), (32, vi 1), (37, .bool true)] hs fun a hs => hK614 _ _ ?_
          clear hK614
          refine qct hs ?_
          obtain ⟨C_615, hC_615⟩ : ∃ X0 : List HP, X0 = (pt b_462 (blk [ci v_522.1, ci v_578.1, ci v_608.1] 28) :: pt b_460 (blk [ci 0, ci 0, ci 0] 28) :: pt b_245 (blk [cp b_x0, C.map (some b_244), ci v_327.1, ci v_340.1, ci v_353.1, ci v_375.1, ci v_388.1, ci v_401.1, ci v_423.1, ci v_436.1, ci v_449.1] 188) :: pt b_244 (.map #[⟨.agg (vals [ci 0, ci 1]), vi v_266.1, 0⟩, ⟨.agg (vals [ci 0, ci 2]), vi v_274.1, 1⟩, ⟨.agg (vals [ci 1, ci 2]), vi v_291.1, 2⟩] 3) :: pt b_242 (blk x2 28) :: pt b_241 (blk x1 28) :: pt b_4 (blk [ci 0, ci 0, ci 0] 28) :: pt b_3 (blk x2 28) :: pt b_2 (blk x1 28) :: S) := ⟨_, rfl⟩
          refine qdr 17 κ C_615 hs fun w hs hqC_615 => ?_
          have hcz : Own κ w (pt b_462 (blk [ci v_522.1, ci v_578.1, ci v_608.1] 28) :: pt b_460 (blk [ci 0, ci 0, ci 0] 28) :: pt b_245 (blk [cp b_x0, C.map (some b_244), ci v_327.1, ci v_340.1, ci v_353.1, ci v_375.1, ci v_388.1, ci v_401.1, ci v_423.1, ci v_436.1, ci v_449.1] 188) :: pt b_244 (.map #[⟨.agg (vals [ci 0, ci 1]), vi v_266.1, 0⟩, ⟨.agg (vals [ci 0, ci 2]), vi v_274.1, 1⟩, ⟨.agg (vals [ci 1, ci 2]), vi v_291.1, 2⟩] 3) :: pt b_242 (blk x2 28) :: pt b_241 (blk x1 28) :: pt b_4 (blk [ci 0, ci 0, ci 0] 28) :: pt b_3 (blk x2 28) :: pt b_2 (blk x1 28) :: S) := (Own.to hs.own [1, 2, 3, 4, 5, 6, 7, 8, 9] 10 (by kernel_rfl) (by kernel_rfl))
          have hcl : Own κ w C_615 := by rw [hC_615]; exact hcz
          refine qdp (fuel := 6) [0, 1, 2, 3, 5, 6, 7, 8, 10, 11, 12, 15] hs hcl hqC_615 fun a hs => ?_
          refine qdl 4 2 (cp b_x0) hs hcl hqC_615 hC_615 rfl fun a hs => ?_
          refine qdl 9 0 (ci v_608.1) hs hcl hqC_615 hC_615 rfl fun a hs => ?_
          refine Vk.dOnly (i := 13) (by kernel_rfl) (Vk.call (some 51) 93 #[pp b_245, vi 2, vi 1] hs (by kernel_rfl) (by kernel_rfl) (by kernel_rfl) ?_)
          refine Vk.enterI [(0, pp b_245), (1, vi 2), (2, vi 1)] Try.func93 rfl Try.ntmps93 (by kernel_rfl) (Nat.le_of_ble_eq_true (by kernel_rfl)) hs.own fun KR616 hKR616 hKP616 a hs => ?_
          refine qsr fun K617 hK617 => ?_
          refine qpe 1 [(0, pp b_245), (1, vi 2), (2, vi 1)] hs fun a hs => hK617 _ _ ?_
          clear hK617
          refine Vk.seq fun K618 hK618 => ?_
          obtain ⟨C_619, hC_619⟩ : ∃ X0 : List HP, X0 = (Twire_Machine.own b_x0 v_608.2 :: pt b_462 (blk [ci v_522.1, ci v_578.1, ci v_608.1] 28) :: pt b_460 (blk [ci 0, ci 0, ci 0] 28) :: pt b_245 (blk [cp b_x0, C.map (some b_244), ci v_327.1, ci v_340.1, ci v_353.1, ci v_375.1, ci v_388.1, ci v_401.1, ci v_423.1, ci v_436.1, ci v_449.1] 188) :: pt b_244 (.map #[⟨.agg (vals [ci 0, ci 1]), vi v_266.1, 0⟩, ⟨.agg (vals [ci 0, ci 2]), vi v_274.1, 1⟩, ⟨.agg (vals [ci 1, ci 2]), vi v_291.1, 2⟩] 3) :: pt b_242 (blk x2 28) :: pt b_241 (blk x1 28) :: pt b_4 (blk [ci 0, ci 0, ci 0] 28) :: pt b_3 (blk x2 28) :: pt b_2 (blk x1 28) :: S) := ⟨_, rfl⟩
          refine qdr 17 κ C_619 hs fun w hs hqC_619 => ?_
          have hcz : Own κ w (Twire_Machine.own b_x0 v_608.2 :: pt b_462 (blk [ci v_522.1, ci v_578.1, ci v_608.1] 28) :: pt b_460 (blk [ci 0, ci 0, ci 0] 28) :: pt b_245 (blk [cp b_x0, C.map (some b_244), ci v_327.1, ci v_340.1, ci v_353.1, ci v_375.1, ci v_388.1, ci v_401.1, ci v_423.1, ci v_436.1, ci v_449.1] 188) :: pt b_244 (.map #[⟨.agg (vals [ci 0, ci 1]), vi v_266.1, 0⟩, ⟨.agg (vals [ci 0, ci 2]), vi v_274.1, 1⟩, ⟨.agg (vals [ci 1, ci 2]), vi v_291.1, 2⟩] 3) :: pt b_242 (blk x2 28) :: pt b_241 (blk x1 28) :: pt b_4 (blk [ci 0, ci 0, ci 0] 28) :: pt b_3 (blk x2 28) :: pt b_2 (blk x1 28) :: S) := (Own.to hs.own [0, 1, 2, 3, 4, 5, 6, 7, 8, 9] 10 (by kernel_rfl) (by kernel_rfl))
          have hcl : Own κ w C_619 := by rw [hC_619]; exact hcz
          refine qdp (fuel := 5) [0, 1, 2, 4, 5, 6, 7, 8, 9, 10, 11, 13, 14, 15] hs hcl hqC_619 fun a hs => ?_
          refine qdl 3 3 (cp b_x0) hs hcl hqC_619 hC_619 rfl fun a hs => ?_
          refine qdl 12 3 (ci v_436.1) hs hcl hqC_619 hC_619 rfl fun a hs => ?_
          refine Vk.dOnly (i := 16) (by kernel_rfl) (Vk.call (some 23) 151 #[pp b_245, vi 2, vi 1] hs (by kernel_rfl) (by kernel_rfl) (by kernel_rfl) ?_)
          refine Vk.enterI [(0, pp b_245), (1, vi 2), (2, vi 1)] Try.func151 rfl Try.ntmps151 (by kernel_rfl) (Nat.le_of_ble_eq_true (by kernel_rfl)) hs.own fun KR620 hKR620 hKP620 a hs => ?_
          refine qsr fun K621 hK621 => ?_
          refine qpe 1 [(0, pp b_245), (1, vi 2), (2, vi 1)] hs fun a hs => hK621 _ _ ?_
          clear hK621
          refine qsr fun K622 hK622 => ?_
          refine qpu 3 hs fun a hs => ?_
          refine qld 3 (C.map (some b_244)) hs rfl fun a hs => ?_
          refine qpu 7 hs fun a hs => ?_
          refine Vk.step (Vk.value (some 18) (vi v_291.1) hs (by kernel_rfl) (op := (.lookup 186 (.tmp 10) (.tmp 17) false)) (by kernel_rfl) (fun o ho => run_lookup (b := b_244) (key := .agg (vals [ci 1, ci 2])) 4 rfl ho (by kernel_rfl) (by kernel_rfl) (by kernel_rfl) _ hs.own) fun a hs => ?_)
          refine qpe 1 [(6, vi v_291.1)] hs fun a hs => hK622 _ _ ?_
          clear hK622
          refine wp_ret ?_
          refine hKP620 _ _ ?_
          refine hKR620 _ _ ?_
          refine Vk.ret1 (P := Try.prog) (fn := Try.f151) (vi v_291.1) hs rfl (by kernel_rfl) ⟨_, _, _, rfl, hs.own, fun a hs => ?_⟩
          replace hcl : Own κ w C_619 := by rw [hC_619]; exact (Own.to hs.own [0, 1, 2, 3, 4, 5, 6, 7, 8, 9] 10 (by kernel_rfl) (by kernel_rfl))
          refine ⟨fun _ => hcl, ?_⟩
          obtain ⟨v_625, h_624, hm⟩ := bind_t hm
          refine Vk.dOnly (i := 17) (by kernel_rfl) (Vk.call (some 24) 150 #[pp b_x0, vi 5, vi 2, vi v_436.1, vi v_291.1] hs (by kernel_rfl) (by kernel_rfl) (by kernel_rfl) ?_)
          refine (wire_Machine_Two.ok k v_608.2 5 2 v_436.1 v_291.1 v_625 h_624 κ w (pt b_462 (blk [ci v_522.1, ci v_578.1, ci v_608.1] 28) :: pt b_460 (blk [ci 0, ci 0, ci 0] 28) :: pt b_245 (blk [cp b_x0, C.map (some b_244), ci v_327.1, ci v_340.1, ci v_353.1, ci v_375.1, ci v_388.1, ci v_401.1, ci v_423.1, ci v_436.1, ci v_449.1] 188) :: pt b_244 (.map #[⟨.agg (vals [ci 0, ci 1]), vi v_266.1, 0⟩, ⟨.agg (vals [ci 0, ci 2]), vi v_274.1, 1⟩, ⟨.agg (vals [ci 1, ci 2]), vi v_291.1, 2⟩] 3) :: pt b_242 (blk x2 28) :: pt b_241 (blk x1 28) :: pt b_4 (blk [ci 0, ci 0, ci 0] 28) :: pt b_3 (blk x2 28) :: pt b_2 (blk x1 28) :: S) b_x0 (Own.to hs.own [0, 1, 2, 3, 4, 5, 6, 7, 8, 9] 10 (by kernel_rfl) (by kernel_rfl))).mono ?_
          rintro _ w ⟨rfl, how⟩
          refine ⟨_, _, _, rfl, how, fun a hs => ?_⟩
          refine ⟨fun h => absurd h (by decide), ?_⟩
          refine Vk.dOnly (i := 18) (by kernel_rfl) (Vk.dPure1 [(6, vi v_625.1)] hs (by kernel_rfl) fun a hs => ?_)
          refine ⟨fun h => absurd h (by decide), ?_⟩
          replace hs := hs.pick [6] (L' := [(6, vi v_625.1)]) (by kernel_rfl)
          refine Vk.dDone (by kernel_rfl) ?_
          refine hK618 _ _ ?_
          clear hK618
          refine wp_ret ?_
          refine hKP616 _ _ ?_
          refine hKR616 _ _ ?_
          refine Vk.ret1 (P := Try.prog) (fn := Try.f93) (vi v_625.1) hs rfl (by kernel_rfl) ⟨_, _, _, rfl, hs.own, fun a hs => ?_⟩
          replace hcl : Own κ w C_615 := by rw [hC_615]; exact (Own.to hs.own [1, 2, 3, 4, 5, 6, 7, 8, 9] 10 (by kernel_rfl) (by kernel_rfl))
          refine ⟨fun _ => hcl, ?_⟩
          obtain ⟨v_628, h_627, hm⟩ := bind_t hm
          refine Vk.dOnly (i := 14) (by kernel_rfl) (Vk.call (some 52) 150 #[pp b_x0, vi 5, vi 2, vi v_608.1, vi v_625.1] hs (by kernel_rfl) (by kernel_rfl) (by kernel_rfl) ?_)
          refine (wire_Machine_Two.ok k v_625.2 5 2 v_608.1 v_625.1 v_628 h_627 κ w (pt b_462 (blk [ci v_522.1, ci v_578.1, ci v_608.1] 28) :: pt b_460 (blk [ci 0, ci 0, ci 0] 28) :: pt b_245 (blk [cp b_x0, C.map (some b_244), ci v_327.1, ci v_340.1, ci v_353.1, ci v_375.1, ci v_388.1, ci v_401.1, ci v_423.1, ci v_436.1, ci v_449.1] 188) :: pt b_244 (.map #[⟨.agg (vals [ci 0, ci 1]), vi v_266.1, 0⟩, ⟨.agg (vals [ci 0, ci 2]), vi v_274.1, 1⟩, ⟨.agg (vals [ci 1, ci 2]), vi v_291.1, 2⟩] 3) :: pt b_242 (blk x2 28) :: pt b_241 (blk x1 28) :: pt b_4 (blk [ci 0, ci 0, ci 0] 28) :: pt b_3 (blk x2 28) :: pt b_2 (blk x1 28) :: S) b_x0 (Own.to hs.own [0, 1, 2, 3, 4, 5, 6, 7, 8, 9] 10 (by kernel_rfl) (by kernel_rfl))).mono ?_
          rintro _ w ⟨rfl, how⟩
          refine ⟨_, _, _, rfl, how, fun a hs => ?_⟩
          replace hcl : Own κ w C_615 := by rw [hC_615]; exact (Own.to hs.own [1, 2, 3, 4, 5, 6, 7, 8, 9] 10 (by kernel_rfl) (by kernel_rfl))
          refine ⟨fun _ => hcl, ?_⟩
          refine qdp (fuel := 1) [16] hs hcl hqC_615 fun a hs => ?_
          refine Vk.dOnly (i := 17) (by kernel_rfl) (Vk.store1 (b := b_462) (ty := 3) (x := (.tmp 54)) (y := (.tmp 52)) (off := 2) (ci v_628.1) 1 hs (by kernel_rfl) (by kernel_rfl) (by kernel_rfl) (by kernel_rfl) (by kernel_rfl) (by kernel_rfl) rfl (Nat.le_of_ble_eq_true (by kernel_rfl)) fun a w hs => ?_)
          refine ⟨fun h => absurd h (by decide), ?_⟩
          replace hs := hs.pick [0, 1, 4, 5, 6, 7, 16, 17, 31, 32] (L' := [(0, pp b_245), (1, .func (.func 93) #[pp b_245] #[]), (4, pp b_460), (5, pp b_462), (6, vi 3), (7, vi 2), (16, vi 3), (17, vi 2), (31, vi 3), (32, vi 1)]) (by kernel_rfl)
          refine Vk.dDone (by kernel_rfl) ?_
          refine hK612 _ _ ?_
          clear hK612
          refine Vk.region ?_
          refine qpe 2 [(0, pp b_245), (1, .func (.func 93) #[pp b_245] #[]), (4, pp b_460), (5, pp b_462), (6, vi 3), (7, vi 2), (16, vi 3), (17, vi 2), (31, vi 3), (32, vi 2)] hs fun a hs => hKL609 _ _ ?_
          clear hKL609
          refine Vk.unroll fun KL629 hKL629 => ?_
          refine qsr fun K630 hK630 => ?_
          refine qpe 1 [(0, pp b_245), (1, .func (.func 93) #[pp b_245] #[]), (4, pp b_460), (5, pp b_462), (6, vi 3), (7, vi 2), (16, vi 3), (17, vi 2), (31, vi 3), (32, vi 2), (33, .bool true)] hs fun a hs => hK630 _ _ ?_
          clear hK630
          refine Vk.seq fun K631 hK631 => ?_
          refine qct hs ?_
          refine wp_skip ?_
          refine hK631 _ _ ?_
          clear hK631
          refine Vk.seq fun K632 hK632 => ?_
          refine wp_block ?_
          refine qsr fun K633 hK633 => ?_
          refine qpe 2 [(0, pp b_245), (1, .func (.func 93) #[pp b_245] #[]), (4, pp b_460), (5, pp b_462), (6, vi 3), (7, vi 2), (8, vi 2), (16, vi 3), (17, vi 2), (31, vi 3), (32, vi 2)] hs fun a hs => hK633 _ _ ?_
          clear hK633
          refine qsr fun K634 hK634 => ?_
          refine qpe 3 [(0, pp b_245), (1, .func (.func 93) #[pp b_245] #[]), (4, pp b_460), (5, pp b_462), (6, vi 3), (7, vi 2), (8, vi 2), (16, vi 3), (17, vi 2), (31, vi 3), (32, vi 2), (37, .bool false)] hs fun a hs => hK634 _ _ ?_
          clear hK634
          refine qcf hs ?_
          refine wp_skip ?_
          refine hK632 _ _ ?_
          clear hK632
          refine Vk.region ?_
          refine qpe 2 [(0, pp b_245), (1, .func (.func 93) #[pp b_245] #[]), (4, pp b_460), (5, pp b_462), (6, vi 3), (7, vi 2), (16, vi 3), (17, vi 2), (31, vi 3), (32, vi 3)] hs fun a hs => hKL629 _ _ ?_
          clear hKL629
          refine Vk.unroll fun KL635 hKL635 => ?_
          refine qsr fun K636 hK636 => ?_
          refine qpe 1 [(0, pp b_245), (1, .func (.func 93) #[pp b_245] #[]), (4, pp b_460), (5, pp b_462), (6, vi 3), (7, vi 2), (16, vi 3), (17, vi 2), (31, vi 3), (32, vi 3), (33, .bool false)] hs fun a hs => hK636 _ _ ?_
          clear hK636
          refine Vk.seq fun K637 hK637 => ?_
          refine qcf hs ?_
          refine wp_exit ?_
          refine hK585 _ _ ?_
          clear hK585
          refine Vk.region ?_
          refine qpe 2 [(0, pp b_245), (1, .func (.func 93) #[pp b_245] #[]), (4, pp b_460), (5, pp b_462), (6, vi 3), (16, vi 3), (17, vi 3)] hs fun a hs => hKL582 _ _ ?_
          clear hKL582
          refine Vk.unroll fun KL638 hKL638 => ?_
          refine qsr fun K639 hK639 => ?_
          refine qpe 1 [(0, pp b_245), (1, .func (.func 93) #[pp b_245] #[]), (4, pp b_460), (5, pp b_462), (6, vi 3), (16, vi 3), (17, vi 3), (18, .bool false)] hs fun a hs => hK639 _ _ ?_
          clear hK639
          refine Vk.seq fun K640 hK640 => ?_
          refine qcf hs ?_
          refine wp_exit ?_
          refine hK468 _ _ ?_
          clear hK468
          refine qsr fun K641 hK641 => ?_
          refine qln 1 ([ci v_522.1, ci v_578.1, ci v_628.1]) hs rfl fun a hs => ?_
          refine Vk.step (Vk.storeA (b := b_460) (ty := 28) (x := (.tmp 4)) (y := (.tmp 57)) (sz := 3) [ci v_522.1, ci v_578.1, ci v_628.1] 2 hs (by kernel_rfl) (by kernel_rfl) (by kernel_rfl) (by kernel_rfl) (by kernel_rfl) rfl (by kernel_rfl) rfl (Eq.trans (b := 3) rfl (Eq.symm rfl)) fun a w hs => ?_)
          refine qpe 0 [(4, pp b_460)] hs fun a hs => hK641 _ _ ?_
          clear hK641
          refine wp_ret ?_
          refine hKP458 _ _ ?_
          refine hKR458 _ _ ?_
          refine Vk.retC (P := Try.prog) (fn := Try.f92) [ci v_522.1, ci v_578.1, ci v_628.1] hs rfl (by kernel_rfl) (sz := 3) (by kernel_rfl) rfl (CellsAt.all 2 rfl) ⟨_, _, _, rfl, hs.own, fun a hs => ?_⟩
          refine Vk.step (Vk.alloc 8 28 [ci 0, ci 0, ci 0] hs (by kernel_rfl) (by kernel_rfl) (by kernel_rfl) fun b_642 w a hs => ?_)
          refine Vk.step (Vk.storeA (b := b_642) (ty := 28) (x := (.tmp 8)) (y := (.tmp 23)) (sz := 3) [ci v_522.1, ci v_578.1, ci v_628.1] 0 hs (by kernel_rfl) (by kernel_rfl) (by kernel_rfl) (by kernel_rfl) (by kernel_rfl) rfl (by kernel_rfl) rfl (Eq.trans (b := 3) rfl (Eq.symm rfl)) fun a w hs => ?_)
          refine qpe 0 [(0, pp b_x0), (6, pp b_4), (8, pp b_642)] hs fun a hs => hK457 _ _ ?_
          clear hK457
          refine qsr fun K643 hK643 => ?_
          refine qpu 1 hs fun a hs => ?_
          obtain ⟨v_646, h_645, hm⟩ := bind_t hm
          refine Vk.step (Vk.call (some 25) 94 #[pp b_x0] hs (by kernel_rfl) (by kernel_rfl) (by kernel_rfl) ?_)
          refine (wire_Machine_End.ok k v_628.2 v_646 h_645 κ w (pt b_642 (blk [ci v_522.1, ci v_578.1, ci v_628.1] 28) :: pt b_462 (blk [ci v_522.1, ci v_578.1, ci v_628.1] 28) :: pt b_460 (blk [ci v_522.1, ci v_578.1, ci v_628.1] 28) :: pt b_245 (blk [cp b_x0, C.map (some b_244), ci v_327.1, ci v_340.1, ci v_353.1, ci v_375.1, ci v_388.1, ci v_401.1, ci v_423.1, ci v_436.1, ci v_449.1] 188) :: pt b_244 (.map #[⟨.agg (vals [ci 0, ci 1]), vi v_266.1, 0⟩, ⟨.agg (vals [ci 0, ci 2]), vi v_274.1, 1⟩, ⟨.agg (vals [ci 1, ci 2]), vi v_291.1, 2⟩] 3) :: pt b_242 (blk x2 28) :: pt b_241 (blk x1 28) :: pt b_4 (blk [ci 0, ci 0, ci 0] 28) :: pt b_3 (blk x2 28) :: pt b_2 (blk x1 28) :: S) b_x0 (Own.to hs.own [1, 0, 2, 3, 4, 5, 6, 7, 8, 9, 10] 11 (by kernel_rfl) (by kernel_rfl))).mono ?_
          rintro _ w ⟨rfl, how⟩
          refine ⟨_, _, _, rfl, how, fun a hs => ?_⟩
          refine qpe 0 [(6, pp b_4), (8, pp b_642)] hs fun a hs => hK643 _ _ ?_
          clear hK643
          refine qsr fun K647 hK647 => ?_
          refine qln 1 ([ci v_522.1, ci v_578.1, ci v_628.1]) hs rfl fun a hs => ?_
          refine Vk.step (Vk.storeA (b := b_4) (ty := 28) (x := (.tmp 6)) (y := (.tmp 26)) (sz := 3) [ci v_522.1, ci v_578.1, ci v_628.1] 8 hs (by kernel_rfl) (by kernel_rfl) (by kernel_rfl) (by kernel_rfl) (by kernel_rfl) rfl (by kernel_rfl) rfl (Eq.trans (b := 3) rfl (Eq.symm rfl)) fun a w hs => ?_)
          refine qpe 0 [(6, pp b_4)] hs fun a hs => hK647 _ _ ?_
          clear hK647
          refine wp_ret ?_
          exact Vk.retC (P := Try.prog) (fn := Try.f20) (R := RR) [ci v_522.1, ci v_578.1, ci v_628.1] hs rfl (by kernel_rfl) (sz := 3) (by kernel_rfl) rfl (CellsAt.all 8 rfl) (by obtain rfl := Option.some.inj hm; subst hRR; exact ⟨rfl, (Own.to hs.own [0] 11 (by kernel_rfl) (by kernel_rfl))⟩)
        · replace hm := bif_f hm hb
          cases hm
      · replace hm := bif_f hm hb
        cases hm
    · replace hm := bif_f hm hb
      cases hm

end Go.Proofs.Ytflgefjocjpjaaa
