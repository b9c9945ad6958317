/- Of each Go function that WirePlays comes to: a model in plain Lean, and that the program's call does what the model says; no condition. -/
import Derived.Test.YtjjdlidjlepgeaaProg
import Derived.Test.YtjjdlidjlepgeaaVbcbbhpan
import Derived.Test.YtjjdlidjlepgeaaMWirePlays1
namespace Go.Proofs.Ytjjdlidjlepgeaa
open Go Go.Vk
set_option linter.unusedVariables false


def visorref17_Right.j3 (k : Nat) (x0 : Tapi_Op) (p_67 : Bool) : Option (Bool) := (bif p_67 then some true else some (x0.c == 0))
def visorref17_Right.j2 (k : Nat) (x0 : Tapi_Op) (p_60 : Bool) : Option (Bool) := (bif p_60 then some (decide (x0.c < 64)) else (bif x0.kind == 2 then some (decide (x0.c < 1048576)) else (bif x0.kind == 3 then visorref17_Right.j3 k x0 (x0.kind == 3) else (bif x0.kind == 4 then visorref17_Right.j3 k x0 (x0.kind == 4) else visorref17_Right.j3 k x0 (x0.kind == 8)))))
def visorref17_Right.l1 (x0 : Tapi_Op) (x1 : Int) (x2 : Int) : Nat → Int → Option (Sum (Bool) (Unit))
  | 0, _ => none
  | k + 1, q_17 => (bif decide (q_17 < 3) then (visorref17_Regs.m k x0.kind x2).bind fun v_24 => (bif decide (q_17 < v_24) then (if 0 ≤ q_17 ∧ q_17 < 3 then (getI .i64 [C.int .i64 x0.a, C.int .i64 x0.b, C.int .i64 x0.d] (0 + q_17.toNat * 1)).bind fun v_28 => (bif decide (v_28 < 0) then some (.inl false) else (if 0 ≤ q_17 ∧ q_17 < 3 then (getI .i64 [C.int .i64 x0.a, C.int .i64 x0.b, C.int .i64 x0.d] (0 + q_17.toNat * 1)).bind fun v_32 => (bif decide (v_32 ≥ x1) then some (.inl false) else (visorref17_Regs.m k x0.kind x2).bind fun v_35 => (bif decide (q_17 ≥ v_35) then (if 0 ≤ q_17 ∧ q_17 < 3 then (getI .i64 [C.int .i64 x0.a, C.int .i64 x0.b, C.int .i64 x0.d] (0 + q_17.toNat * 1)).bind fun v_39 => (bif v_39 != (-1) then some (.inl false) else visorref17_Right.l1 x0 x1 x2 k (IntKind.i64.wrap (q_17 + 1))) else none) else visorref17_Right.l1 x0 x1 x2 k (IntKind.i64.wrap (q_17 + 1)))) else none)) else none) else (visorref17_Regs.m k x0.kind x2).bind fun v_42 => (bif decide (q_17 ≥ v_42) then (if 0 ≤ q_17 ∧ q_17 < 3 then (getI .i64 [C.int .i64 x0.a, C.int .i64 x0.b, C.int .i64 x0.d] (0 + q_17.toNat * 1)).bind fun v_46 => (bif v_46 != (-1) then some (.inl false) else visorref17_Right.l1 x0 x1 x2 k (IntKind.i64.wrap (q_17 + 1))) else none) else visorref17_Right.l1 x0 x1 x2 k (IntKind.i64.wrap (q_17 + 1)))) else some (.inr ()))
def visorref17_Right.j1 (k : Nat) (x0 : Tapi_Op) (x1 : Int) (x2 : Int) (p_10 : Bool) : Option (Bool) := (bif p_10 then some false else (visorref17_Right.l1 x0 x1 x2 k 0).bind fun x => match x with | .inl v => some v | .inr () => (bif x0.kind == 9 then visorref17_Right.j2 k x0 (x0.kind == 9) else (bif x0.kind == 10 then visorref17_Right.j2 k x0 (x0.kind == 10) else visorref17_Right.j2 k x0 (x0.kind == 11))))
abbrev visorref17_Right.R (κ : Ctx) (S : List HP) (x0 : Tapi_Op) (x1 : Int) (x2 : Int) (r : Bool) : Ending → World → Prop := fun e w' => e = .returned (.bool r) ∧ Own κ w' (S)
def visorref17_Right.m (k : Nat) (x0 : Tapi_Op) (x1 : Int) (x2 : Int) : Option Bool := (bif (((((x2 != 2) && (x2 != 3)) || (decide (x0.kind < 1))) || (decide (x0.kind > 12))) || (decide (x0.dom < (-1)))) || (decide (x0.dom ≥ x2)) then visorref17_Right.j1 k x0 x1 x2 true else (bif x0.kind == 12 then visorref17_Right.j1 k x0 x1 x2 (x0.dom != (-1)) else visorref17_Right.j1 k x0 x1 x2 false))

set_option maxRecDepth 100000 in
set_option maxHeartbeats 4000000 in
theorem visorref17_Right.ok (k : Nat) (x0 : Tapi_Op) (x1 : Int) (x2 : Int) (r : Bool) (hm : visorref17_Right.m k x0 x1 x2 = some r) (κ : Ctx) (w : World) (S : List HP) (ho : Own κ w (S)) :
    Calls Try.prog 85 #[.agg (vals [C.int .i64 x0.kind, C.int .i64 x0.dom, C.int .i64 x0.a, C.int .i64 x0.b, C.int .i64 x0.d, C.int .u64 x0.c]), .int .i64 x1, .int .i64 x2] w (visorref17_Right.R κ S x0 x1 x2 r) := by
  unfold visorref17_Right.m at hm
  refine Vk.enter [(0, .agg (vals [C.int .i64 x0.kind, C.int .i64 x0.dom, C.int .i64 x0.a, C.int .i64 x0.b, C.int .i64 x0.d, C.int .u64 x0.c])), (1, .int .i64 x1), (2, .int .i64 x2)] Try.func85 rfl Try.ntmps85 (by kernel_rfl) (Nat.le_of_ble_eq_true (by kernel_rfl)) ho fun a hs => ?_
  refine Vk.seq fun K1 hK1 => ?_
  refine Vk.region ?_
  refine Vk.step (Vk.box (x := (.tmp 0)) 3 32 [C.int .i64 x0.kind, C.int .i64 x0.dom, C.int .i64 x0.a, C.int .i64 x0.b, C.int .i64 x0.d, C.int .u64 x0.c] hs (by kernel_rfl) (by kernel_rfl) (by kernel_rfl) fun b_2 w a hs => ?_)
  refine Vk.pures 1 [(6, .bool false)] hs (by kernel_rfl) fun a hs => ?_
  replace hs := hs.pick [1, 2, 3] (L' := [(1, .int .i64 x1), (2, .int .i64 x2), (3, .pointer (some ⟨b_2, 0, none⟩))]) (by kernel_rfl)
  refine Vk.done (by kernel_rfl) ?_
  refine hK1 _ _ ?_
  clear hK1
  refine Vk.seq fun K3 hK3 => ?_
  refine Vk.seq fun K4 hK4 => ?_
  have hj4 : ∀ (p_10 : Bool), visorref17_Right.j1 k x0 x1 x2 p_10 = some r → ∀ (a : Act) (w : World), St 111 a w κ [(1, .int .i64 x1), (2, .int .i64 x2), (3, .pointer (some ⟨b_2, 0, none⟩)), (45, .bool p_10)] (pt b_2 (blk (Tapi_Op.cells x0) 32) :: S) → K4 a w := by
    intro p_10 hm a w hs
    unfold visorref17_Right.j1 at hm
    refine hK4 _ _ ?_
    refine Vk.condS (b := p_10) hs (by kernel_rfl) (by kernel_rfl) (fun hb => ?_) (fun hb => ?_)
    · replace hm := bif_t hm hb
      refine Vk.seq fun K11 hK11 => ?_
      refine Vk.region ?_
      refine Vk.pures 1 [(6, .bool false)] hs (by kernel_rfl) fun a hs => ?_
      replace hs := hs.pick [6] (L' := [(6, .bool false)]) (by kernel_rfl)
      refine Vk.done (by kernel_rfl) ?_
      refine hK11 _ _ ?_
      clear hK11
      refine wp_ret ?_
      exact Vk.ret1 (P := Try.prog) (fn := Try.f85) (R := visorref17_Right.R κ S x0 x1 x2 r) (.bool false) hs rfl (by kernel_rfl) (by obtain rfl := Option.some.inj hm; exact ⟨rfl, (Own.to hs.own [] 1 (by kernel_rfl) (by kernel_rfl))⟩)
    · replace hm := bif_f hm hb
      refine wp_skip ?_
      refine hK3 _ _ ?_
      clear hK3
      refine Vk.seq fun K12 hK12 => ?_
      refine Vk.region ?_
      refine Vk.pures 1 [(46, .pointer (some ⟨b_2, 2, none⟩))] hs (by kernel_rfl) fun a hs => ?_
      refine Vk.step (Vk.value (some 47) (.int .i64 x0.a) hs (by kernel_rfl) (op := (.load 3 (.tmp 46))) (by kernel_rfl) (fun o ho => run_load1 (b := b_2) (off := 2) (c := C.int .i64 x0.a) ho (by kernel_rfl) (by kernel_rfl) (Cell.own 0 rfl (by kernel_rfl)) _ hs.own) fun a hs => ?_)
      refine Vk.pures 1 [(48, .pointer (some ⟨b_2, 3, none⟩))] hs (by kernel_rfl) fun a hs => ?_
      refine Vk.step (Vk.value (some 49) (.int .i64 x0.b) hs (by kernel_rfl) (op := (.load 3 (.tmp 48))) (by kernel_rfl) (fun o ho => run_load1 (b := b_2) (off := 3) (c := C.int .i64 x0.b) ho (by kernel_rfl) (by kernel_rfl) (Cell.own 0 rfl (by kernel_rfl)) _ hs.own) fun a hs => ?_)
      refine Vk.pures 1 [(50, .pointer (some ⟨b_2, 4, none⟩))] hs (by kernel_rfl) fun a hs => ?_
      refine Vk.step (Vk.value (some 51) (.int .i64 x0.d) hs (by kernel_rfl) (op := (.load 3 (.tmp 50))) (by kernel_rfl) (fun o ho => run_load1 (b := b_2) (off := 4) (c := C.int .i64 x0.d) ho (by kernel_rfl) (by kernel_rfl) (Cell.own 0 rfl (by kernel_rfl)) _ hs.own) fun a hs => ?_)
      refine Vk.pures 1 [(52, .agg (vals [C.int .i64 x0.a, C.int .i64 x0.b, C.int .i64 x0.d]))] hs (by kernel_rfl) fun a hs => ?_
      refine Vk.step (Vk.alloc 7 63 [C.int .i64 0, C.int .i64 0, C.int .i64 0] hs (by kernel_rfl) (by kernel_rfl) (by kernel_rfl) fun b_13 w a hs => ?_)
      refine Vk.step (Vk.storeA (b := b_13) (ty := 63) (x := (.tmp 7)) (y := (.tmp 52)) (sz := 3) [C.int .i64 x0.a, C.int .i64 x0.b, C.int .i64 x0.d] 0 hs (by kernel_rfl) (by kernel_rfl) (by kernel_rfl) (by kernel_rfl) (by kernel_rfl) rfl (by kernel_rfl) rfl (Eq.trans (b := 3) rfl (Eq.symm rfl)) fun a w hs => ?_)
      replace hs := hs.pick [1, 2, 3, 7] (L' := [(1, .int .i64 x1), (2, .int .i64 x2), (3, .pointer (some ⟨b_2, 0, none⟩)), (7, .pointer (some ⟨b_13, 0, none⟩))]) (by kernel_rfl)
      refine Vk.done (by kernel_rfl) ?_
      refine hK12 _ _ ?_
      clear hK12
      refine Vk.seq fun K14 hK14 => ?_
      refine Vk.seq fun K15 hK15 => ?_
      refine Vk.region ?_
      refine Vk.pures 1 [(8, .int .i64 0)] hs (by kernel_rfl) fun a hs => ?_
      replace hs := hs.pick [1, 2, 3, 7, 8] (L' := [(1, .int .i64 x1), (2, .int .i64 x2), (3, .pointer (some ⟨b_2, 0, none⟩)), (7, .pointer (some ⟨b_13, 0, none⟩)), (8, .int .i64 0)]) (by kernel_rfl)
      refine Vk.done (by kernel_rfl) ?_
      refine hK15 _ _ ?_
      clear hK15
      refine wp_block ?_
      obtain ⟨r16, hl16, hm⟩ := bind_t hm
      have hx16 : r16 = Sum.inr () → ∀ (a : Act) (w : World), St 111 a w κ [(3, .pointer (some ⟨b_2, 0, none⟩))] (pt b_2 (blk (Tapi_Op.cells x0) 32) :: S) → K14 a w := by
        intro he a w hs
        subst r16
        refine hK14 _ _ ?_
        clear hK14
        refine Vk.seq fun K55 hK55 => ?_
        refine Vk.seq fun K56 hK56 => ?_
        refine Vk.region ?_
        refine Vk.pures 1 [(90, .pointer (some ⟨b_2, 0, none⟩))] hs (by kernel_rfl) fun a hs => ?_
        refine Vk.step (Vk.value (some 91) (.int .i64 x0.kind) hs (by kernel_rfl) (op := (.load 3 (.tmp 90))) (by kernel_rfl) (fun o ho => run_load1 (b := b_2) (off := 0) (c := C.int .i64 x0.kind) ho (by kernel_rfl) (by kernel_rfl) (Cell.own 0 rfl (by kernel_rfl)) _ hs.own) fun a hs => ?_)
        replace hs := hs.pick [3, 91] (L' := [(3, .pointer (some ⟨b_2, 0, none⟩)), (91, .int .i64 x0.kind)]) (by kernel_rfl)
        refine Vk.done (by kernel_rfl) ?_
        refine hK56 _ _ ?_
        clear hK56
        refine wp_block ?_
        refine Vk.seq fun K57 hK57 => ?_
        have hj57 : ∀ (p_60 : Bool), visorref17_Right.j2 k x0 p_60 = some r → ∀ (a : Act) (w : World), St 111 a w κ [(3, .pointer (some ⟨b_2, 0, none⟩)), (91, .int .i64 x0.kind), (92, .bool p_60)] (pt b_2 (blk (Tapi_Op.cells x0) 32) :: S) → K57 a w := by
          intro p_60 hm a w hs
          unfold visorref17_Right.j2 at hm
          refine hK57 _ _ ?_
          refine Vk.condS (b := p_60) hs (by kernel_rfl) (by kernel_rfl) (fun hb => ?_) (fun hb => ?_)
          · replace hm := bif_t hm hb
            refine Vk.seq fun K61 hK61 => ?_
            refine Vk.region ?_
            refine Vk.pures 1 [(96, .pointer (some ⟨b_2, 5, none⟩))] hs (by kernel_rfl) fun a hs => ?_
            refine Vk.step (Vk.value (some 97) (.int .u64 x0.c) hs (by kernel_rfl) (op := (.load 23 (.tmp 96))) (by kernel_rfl) (fun o ho => run_load1 (b := b_2) (off := 5) (c := C.int .u64 x0.c) ho (by kernel_rfl) (by kernel_rfl) (Cell.own 0 rfl (by kernel_rfl)) _ hs.own) fun a hs => ?_)
            refine Vk.pures 2 [(6, .bool (decide (x0.c < 64))), (98, .bool (decide (x0.c < 64)))] hs (by kernel_rfl) fun a hs => ?_
            replace hs := hs.pick [6] (L' := [(6, .bool (decide (x0.c < 64)))]) (by kernel_rfl)
            refine Vk.done (by kernel_rfl) ?_
            refine hK61 _ _ ?_
            clear hK61
            refine wp_ret ?_
            exact Vk.ret1 (P := Try.prog) (fn := Try.f85) (R := visorref17_Right.R κ S x0 x1 x2 r) (.bool (decide (x0.c < 64))) hs rfl (by kernel_rfl) (by obtain rfl := Option.some.inj hm; exact ⟨rfl, (Own.to hs.own [] 1 (by kernel_rfl) (by kernel_rfl))⟩)
          · replace hm := bif_f hm hb
            refine Vk.seq fun K62 hK62 => ?_
            refine Vk.region ?_
            refine Vk.pures 2 [(99, .bool (x0.kind == 2)), (100, .bool (x0.kind == 2))] hs (by kernel_rfl) fun a hs => ?_
            replace hs := hs.pick [3, 91, 99] (L' := [(3, .pointer (some ⟨b_2, 0, none⟩)), (91, .int .i64 x0.kind), (99, .bool (x0.kind == 2))]) (by kernel_rfl)
            refine Vk.done (by kernel_rfl) ?_
            refine hK62 _ _ ?_
            clear hK62
            refine Vk.condS (b := x0.kind == 2) hs (by kernel_rfl) (by kernel_rfl) (fun hb => ?_) (fun hb => ?_)
            · replace hm := bif_t hm hb
              refine Vk.seq fun K63 hK63 => ?_
              refine Vk.region ?_
              refine Vk.pures 1 [(101, .pointer (some ⟨b_2, 5, none⟩))] hs (by kernel_rfl) fun a hs => ?_
              refine Vk.step (Vk.value (some 102) (.int .u64 x0.c) hs (by kernel_rfl) (op := (.load 23 (.tmp 101))) (by kernel_rfl) (fun o ho => run_load1 (b := b_2) (off := 5) (c := C.int .u64 x0.c) ho (by kernel_rfl) (by kernel_rfl) (Cell.own 0 rfl (by kernel_rfl)) _ hs.own) fun a hs => ?_)
              refine Vk.pures 2 [(6, .bool (decide (x0.c < 1048576))), (103, .bool (decide (x0.c < 1048576)))] hs (by kernel_rfl) fun a hs => ?_
              replace hs := hs.pick [6] (L' := [(6, .bool (decide (x0.c < 1048576)))]) (by kernel_rfl)
              refine Vk.done (by kernel_rfl) ?_
              refine hK63 _ _ ?_
              clear hK63
              refine wp_ret ?_
              exact Vk.ret1 (P := Try.prog) (fn := Try.f85) (R := visorref17_Right.R κ S x0 x1 x2 r) (.bool (decide (x0.c < 1048576))) hs rfl (by kernel_rfl) (by obtain rfl := Option.some.inj hm; exact ⟨rfl, (Own.to hs.own [] 1 (by kernel_rfl) (by kernel_rfl))⟩)
            · replace hm := bif_f hm hb
              refine Vk.seq fun K64 hK64 => ?_
              have hj64 : ∀ (p_67 : Bool), visorref17_Right.j3 k x0 p_67 = some r → ∀ (a : Act) (w : World), St 111 a w κ [(3, .pointer (some ⟨b_2, 0, none⟩)), (104, .bool p_67)] (pt b_2 (blk (Tapi_Op.cells x0) 32) :: S) → K64 a w := by
                intro p_67 hm a w hs
                unfold visorref17_Right.j3 at hm
                refine hK64 _ _ ?_
                refine Vk.condS (b := p_67) hs (by kernel_rfl) (by kernel_rfl) (fun hb => ?_) (fun hb => ?_)
                · replace hm := bif_t hm hb
                  refine Vk.seq fun K68 hK68 => ?_
                  refine Vk.region ?_
                  refine Vk.pures 1 [(6, .bool true)] hs (by kernel_rfl) fun a hs => ?_
                  replace hs := hs.pick [6] (L' := [(6, .bool true)]) (by kernel_rfl)
                  refine Vk.done (by kernel_rfl) ?_
                  refine hK68 _ _ ?_
                  clear hK68
                  refine wp_ret ?_
                  exact Vk.ret1 (P := Try.prog) (fn := Try.f85) (R := visorref17_Right.R κ S x0 x1 x2 r) (.bool true) hs rfl (by kernel_rfl) (by obtain rfl := Option.some.inj hm; exact ⟨rfl, (Own.to hs.own [] 1 (by kernel_rfl) (by kernel_rfl))⟩)
                · replace hm := bif_f hm hb
                  refine wp_skip ?_
                  refine hK55 _ _ ?_
                  clear hK55
                  refine Vk.seq fun K69 hK69 => ?_
                  refine Vk.region ?_
                  refine Vk.pures 1 [(108, .pointer (some ⟨b_2, 5, none⟩))] hs (by kernel_rfl) fun a hs => ?_
                  refine Vk.step (Vk.value (some 109) (.int .u64 x0.c) hs (by kernel_rfl) (op := (.load 23 (.tmp 108))) (by kernel_rfl) (fun o ho => run_load1 (b := b_2) (off := 5) (c := C.int .u64 x0.c) ho (by kernel_rfl) (by kernel_rfl) (Cell.own 0 rfl (by kernel_rfl)) _ hs.own) fun a hs => ?_)
                  refine Vk.pures 2 [(6, .bool (x0.c == 0)), (110, .bool (x0.c == 0))] hs (by kernel_rfl) fun a hs => ?_
                  replace hs := hs.pick [6] (L' := [(6, .bool (x0.c == 0))]) (by kernel_rfl)
                  refine Vk.done (by kernel_rfl) ?_
                  refine hK69 _ _ ?_
                  clear hK69
                  refine wp_ret ?_
                  exact Vk.ret1 (P := Try.prog) (fn := Try.f85) (R := visorref17_Right.R κ S x0 x1 x2 r) (.bool (x0.c == 0)) hs rfl (by kernel_rfl) (by obtain rfl := Option.some.inj hm; exact ⟨rfl, (Own.to hs.own [] 1 (by kernel_rfl) (by kernel_rfl))⟩)
              refine Vk.seq fun K65 hK65 => ?_
              refine Vk.region ?_
              refine Vk.pures 2 [(104, .bool (x0.kind == 3)), (105, .bool (x0.kind == 3))] hs (by kernel_rfl) fun a hs => ?_
              replace hs := hs.pick [3, 91, 104] (L' := [(3, .pointer (some ⟨b_2, 0, none⟩)), (91, .int .i64 x0.kind), (104, .bool (x0.kind == 3))]) (by kernel_rfl)
              refine Vk.done (by kernel_rfl) ?_
              refine hK65 _ _ ?_
              clear hK65
              refine Vk.condS (b := x0.kind == 3) hs (by kernel_rfl) (by kernel_rfl) (fun hb => ?_) (fun hb => ?_)
              · replace hm := bif_t hm hb
                refine wp_skip ?_
                exact hj64 (x0.kind == 3) hm _ _ (hs.go [3, 104] [0] 1 (by kernel_rfl) (by kernel_rfl) (by kernel_rfl))
              · replace hm := bif_f hm hb
                refine Vk.seq fun K66 hK66 => ?_
                refine Vk.region ?_
                refine Vk.pures 2 [(104, .bool (x0.kind == 4)), (106, .bool (x0.kind == 4))] hs (by kernel_rfl) fun a hs => ?_
                replace hs := hs.pick [3, 91, 104] (L' := [(3, .pointer (some ⟨b_2, 0, none⟩)), (91, .int .i64 x0.kind), (104, .bool (x0.kind == 4))]) (by kernel_rfl)
                refine Vk.done (by kernel_rfl) ?_
                refine hK66 _ _ ?_
                clear hK66
                refine Vk.condS (b := x0.kind == 4) hs (by kernel_rfl) (by kernel_rfl) (fun hb => ?_) (fun hb => ?_)
                · replace hm := bif_t hm hb
                  refine wp_skip ?_
                  exact hj64 (x0.kind == 4) hm _ _ (hs.go [3, 104] [0] 1 (by kernel_rfl) (by kernel_rfl) (by kernel_rfl))
                · replace hm := bif_f hm hb
                  refine Vk.region ?_
                  refine Vk.pures 2 [(104, .bool (x0.kind == 8)), (107, .bool (x0.kind == 8))] hs (by kernel_rfl) fun a hs => ?_
                  replace hs := hs.pick [3, 104] (L' := [(3, .pointer (some ⟨b_2, 0, none⟩)), (104, .bool (x0.kind == 8))]) (by kernel_rfl)
                  refine Vk.done (by kernel_rfl) ?_
                  exact hj64 (x0.kind == 8) hm _ _ (hs.go [3, 104] [0] 1 (by kernel_rfl) (by kernel_rfl) (by kernel_rfl))
        refine Vk.seq fun K58 hK58 => ?_
        refine Vk.region ?_
        refine Vk.pures 2 [(92, .bool (x0.kind == 9)), (93, .bool (x0.kind == 9))] hs (by kernel_rfl) fun a hs => ?_
        replace hs := hs.pick [3, 91, 92] (L' := [(3, .pointer (some ⟨b_2, 0, none⟩)), (91, .int .i64 x0.kind), (92, .bool (x0.kind == 9))]) (by kernel_rfl)
        refine Vk.done (by kernel_rfl) ?_
        refine hK58 _ _ ?_
        clear hK58
        refine Vk.condS (b := x0.kind == 9) hs (by kernel_rfl) (by kernel_rfl) (fun hb => ?_) (fun hb => ?_)
        · replace hm := bif_t hm hb
          refine wp_skip ?_
          exact hj57 (x0.kind == 9) hm _ _ (hs.go [3, 91, 92] [0] 1 (by kernel_rfl) (by kernel_rfl) (by kernel_rfl))
        · replace hm := bif_f hm hb
          refine Vk.seq fun K59 hK59 => ?_
          refine Vk.region ?_
          refine Vk.pures 2 [(92, .bool (x0.kind == 10)), (94, .bool (x0.kind == 10))] hs (by kernel_rfl) fun a hs => ?_
          replace hs := hs.pick [3, 91, 92] (L' := [(3, .pointer (some ⟨b_2, 0, none⟩)), (91, .int .i64 x0.kind), (92, .bool (x0.kind == 10))]) (by kernel_rfl)
          refine Vk.done (by kernel_rfl) ?_
          refine hK59 _ _ ?_
          clear hK59
          refine Vk.condS (b := x0.kind == 10) hs (by kernel_rfl) (by kernel_rfl) (fun hb => ?_) (fun hb => ?_)
          · replace hm := bif_t hm hb
            refine wp_skip ?_
            exact hj57 (x0.kind == 10) hm _ _ (hs.go [3, 91, 92] [0] 1 (by kernel_rfl) (by kernel_rfl) (by kernel_rfl))
          · replace hm := bif_f hm hb
            refine Vk.region ?_
            refine Vk.pures 2 [(92, .bool (x0.kind == 11)), (95, .bool (x0.kind == 11))] hs (by kernel_rfl) fun a hs => ?_
            replace hs := hs.pick [3, 91, 92] (L' := [(3, .pointer (some ⟨b_2, 0, none⟩)), (91, .int .i64 x0.kind), (92, .bool (x0.kind == 11))]) (by kernel_rfl)
            refine Vk.done (by kernel_rfl) ?_
            exact hj57 (x0.kind == 11) hm _ _ (hs.go [3, 91, 92] [0] 1 (by kernel_rfl) (by kernel_rfl) (by kernel_rfl))
      have hret16 : ∀ v, r16 = Sum.inl v → v = r := by intro v he; subst r16; exact Option.some.inj hm
      refine Vk.loopBy (fun k (s : Int) a w => visorref17_Right.l1 x0 x1 x2 k s = some r16 ∧ St 111 a w κ [(1, .int .i64 x1), (2, .int .i64 x2), (3, .pointer (some ⟨b_2, 0, none⟩)), (7, .pointer (some ⟨b_13, 0, none⟩)), (8, .int .i64 s)] (pt b_2 (blk (Tapi_Op.cells x0) 32) :: pt b_13 (blk [C.int .i64 x0.a, C.int .i64 x0.b, C.int .i64 x0.d] 63) :: S)) k 0 ⟨hl16, hs.go [1, 2, 3, 7, 8] [1, 0] 2 (by kernel_rfl) (by kernel_rfl) (by kernel_rfl)⟩ (fun s a w h => by obtain ⟨h1, _⟩ := h; simp [visorref17_Right.l1] at h1) (fun k KL16 ih q_17 a w h => ?_)
      obtain ⟨hm, hs⟩ := h
      try dsimp only at hm hs
      rw [visorref17_Right.l1] at hm
      refine Vk.seq fun K18 hK18 => ?_
      refine Vk.seq fun K19 hK19 => ?_
      refine Vk.region ?_
      refine Vk.pures 2 [(54, .bool (decide (q_17 < 3))), (53, .int .i64 q_17)] hs (by kernel_rfl) fun a hs => ?_
      replace hs := hs.pick [1, 2, 3, 7, 8, 54] (L' := [(1, .int .i64 x1), (2, .int .i64 x2), (3, .pointer (some ⟨b_2, 0, none⟩)), (7, .pointer (some ⟨b_13, 0, none⟩)), (8, .int .i64 q_17), (54, .bool (decide (q_17 < 3)))]) (by kernel_rfl)
      refine Vk.done (by kernel_rfl) ?_
      refine hK19 _ _ ?_
      clear hK19
      refine Vk.condS (b := decide (q_17 < 3)) hs (by kernel_rfl) (by kernel_rfl) (fun hb => ?_) (fun hb => ?_)
      · replace hm := bif_t hm hb
        refine wp_skip ?_
        refine hK18 _ _ ?_
        clear hK18
        refine Vk.seq fun K20 hK20 => ?_
        refine wp_block ?_
        refine Vk.seq fun K21 hK21 => ?_
        refine Vk.region ?_
        refine Vk.pures 2 [(58, .pointer (some ⟨b_2, 0, none⟩)), (57, .int .i64 q_17)] hs (by kernel_rfl) fun a hs => ?_
        refine Vk.step (Vk.value (some 59) (.int .i64 x0.kind) hs (by kernel_rfl) (op := (.load 3 (.tmp 58))) (by kernel_rfl) (fun o ho => run_load1 (b := b_2) (off := 0) (c := C.int .i64 x0.kind) ho (by kernel_rfl) (by kernel_rfl) (Cell.own 0 rfl (by kernel_rfl)) _ hs.own) fun a hs => ?_)
        refine Vk.pures 1 [(60, .int .i64 x2)] hs (by kernel_rfl) fun a hs => ?_
        obtain ⟨v_24, h_23, hm⟩ := bind_t hm
        refine Vk.step (Vk.call (some 61) 118 #[.int .i64 x0.kind, .int .i64 x2] hs (by kernel_rfl) (by kernel_rfl) (by kernel_rfl) ?_)
        refine (visorref17_Regs.ok k x0.kind x2 v_24 h_23 κ w (pt b_2 (blk (Tapi_Op.cells x0) 32) :: pt b_13 (blk [C.int .i64 x0.a, C.int .i64 x0.b, C.int .i64 x0.d] 63) :: S) hs.own).mono ?_
        rintro _ w ⟨rfl, how⟩
        refine ⟨_, _, _, rfl, how, fun a hs => ?_⟩
        refine Vk.pures 2 [(63, .bool (decide (q_17 < v_24))), (62, .bool (decide (q_17 < v_24)))] hs (by kernel_rfl) fun a hs => ?_
        rcases Bool.eq_false_or_eq_true (decide (q_17 < v_24)) with hb | hb
        · replace hm := bif_t hm hb
          replace hs := hs.known (t := 63) hb (by kernel_rfl)
          refine Vk.pures 1 [(64, .int .i64 q_17)] hs (by kernel_rfl) fun a hs => ?_
          obtain ⟨h_26, hm⟩ := ite_t hm
          refine Vk.step (Vk.value (some 65) (.pointer (some ⟨b_13, 0 + q_17.toNat * 1, none⟩)) hs (by kernel_rfl) (op := (.indexAddr 63 (.tmp 7) (.tmp 64))) (by kernel_rfl) (fun o ho => run_idxArr (k := .i64) ho (by kernel_rfl) (by kernel_rfl) (by kernel_rfl) h_26 _) fun a hs => ?_)
          obtain ⟨v_28, h_27, hm⟩ := bind_t hm
          refine Vk.step (Vk.value (some 66) (.int .i64 v_28) hs (by kernel_rfl) (op := (.load 3 (.tmp 65))) (by kernel_rfl) (fun o ho => run_load1 (c := C.int .i64 v_28) ho (by kernel_rfl) (by kernel_rfl) (Cell.own 1 rfl (getI_some h_27)) _ hs.own) fun a hs => ?_)
          refine Vk.pures 2 [(68, .bool (decide (v_28 < 0))), (67, .bool (decide (v_28 < 0)))] hs (by kernel_rfl) fun a hs => ?_
          rcases Bool.eq_false_or_eq_true (decide (v_28 < 0)) with hb | hb
          · replace hm := bif_t hm hb
            replace hs := hs.known (t := 68) hb (by kernel_rfl)
            refine Vk.pures 21 [(89, .bool true), (88, undef), (87, undef), (86, undef), (85, undef), (84, undef), (83, undef), (82, undef), (81, undef), (80, undef), (79, undef), (78, undef), (77, undef), (76, .bool true), (75, .bool true), (74, .bool true), (73, undef), (72, undef), (71, undef), (70, undef), (69, undef)] hs (by kernel_rfl) fun a hs => ?_
            replace hs := hs.pick [1, 2, 3, 7, 8, 64, 65, 66, 67, 68, 74, 89] (L' := [(1, .int .i64 x1), (2, .int .i64 x2), (3, .pointer (some ⟨b_2, 0, none⟩)), (7, .pointer (some ⟨b_13, 0, none⟩)), (8, .int .i64 q_17), (64, .int .i64 q_17), (65, .pointer (some ⟨b_13, 0 + q_17.toNat * 1, none⟩)), (66, .int .i64 v_28), (67, .bool (decide (v_28 < 0))), (68, .bool true), (74, .bool true), (89, .bool true)]) (by kernel_rfl)
            refine Vk.done (by kernel_rfl) ?_
            refine hK21 _ _ ?_
            refine Vk.condT hs (by kernel_rfl) (by kernel_rfl) ?_
            refine Vk.seq fun K47 hK47 => ?_
            refine Vk.region ?_
            refine Vk.pures 1 [(6, .bool false)] hs (by kernel_rfl) fun a hs => ?_
            replace hs := hs.pick [6] (L' := [(6, .bool false)]) (by kernel_rfl)
            refine Vk.done (by kernel_rfl) ?_
            refine hK47 _ _ ?_
            clear hK47
            refine wp_ret ?_
            exact Vk.ret1 (P := Try.prog) (fn := Try.f85) (R := visorref17_Right.R κ S x0 x1 x2 r) (.bool false) hs rfl (by kernel_rfl) (by obtain rfl := hret16 _ ((Option.some.inj hm).symm); exact ⟨rfl, (Own.to hs.own [] 2 (by kernel_rfl) (by kernel_rfl))⟩)
          · replace hm := bif_f hm hb
            replace hs := hs.known (t := 68) hb (by kernel_rfl)
            refine Vk.pures 1 [(69, .int .i64 q_17)] hs (by kernel_rfl) fun a hs => ?_
            obtain ⟨h_30, hm⟩ := ite_t hm
            refine Vk.step (Vk.value (some 70) (.pointer (some ⟨b_13, 0 + q_17.toNat * 1, none⟩)) hs (by kernel_rfl) (op := (.indexAddr 63 (.tmp 7) (.tmp 69))) (by kernel_rfl) (fun o ho => run_idxArr (k := .i64) ho (by kernel_rfl) (by kernel_rfl) (by kernel_rfl) h_30 _) fun a hs => ?_)
            obtain ⟨v_32, h_31, hm⟩ := bind_t hm
            refine Vk.step (Vk.value (some 71) (.int .i64 v_32) hs (by kernel_rfl) (op := (.load 3 (.tmp 70))) (by kernel_rfl) (fun o ho => run_load1 (c := C.int .i64 v_32) ho (by kernel_rfl) (by kernel_rfl) (Cell.own 1 rfl (getI_some h_31)) _ hs.own) fun a hs => ?_)
            refine Vk.pures 5 [(76, .bool (decide (v_32 ≥ x1))), (75, .bool (decide (v_32 ≥ x1))), (74, .bool (decide (v_32 ≥ x1))), (73, .bool (decide (v_32 ≥ x1))), (72, .int .i64 x1)] hs (by kernel_rfl) fun a hs => ?_
            rcases Bool.eq_false_or_eq_true (decide (v_32 ≥ x1)) with hb | hb
            · replace hm := bif_t hm hb
              replace hs := hs.known (t := 76) hb (by kernel_rfl)
              refine Vk.pures 13 [(89, .bool true), (88, undef), (87, undef), (86, undef), (85, undef), (84, undef), (83, undef), (82, undef), (81, undef), (80, undef), (79, undef), (78, undef), (77, undef)] hs (by kernel_rfl) fun a hs => ?_
              replace hs := hs.pick [1, 2, 3, 7, 8, 64, 65, 66, 67, 68, 69, 70, 71, 72, 73, 74, 89] (L' := [(1, .int .i64 x1), (2, .int .i64 x2), (3, .pointer (some ⟨b_2, 0, none⟩)), (7, .pointer (some ⟨b_13, 0, none⟩)), (8, .int .i64 q_17), (64, .int .i64 q_17), (65, .pointer (some ⟨b_13, 0 + q_17.toNat * 1, none⟩)), (66, .int .i64 v_28), (67, .bool (decide (v_28 < 0))), (68, .bool false), (69, .int .i64 q_17), (70, .pointer (some ⟨b_13, 0 + q_17.toNat * 1, none⟩)), (71, .int .i64 v_32), (72, .int .i64 x1), (73, .bool (decide (v_32 ≥ x1))), (74, .bool (decide (v_32 ≥ x1))), (89, .bool true)]) (by kernel_rfl)
              refine Vk.done (by kernel_rfl) ?_
              refine hK21 _ _ ?_
              refine Vk.condT hs (by kernel_rfl) (by kernel_rfl) ?_
              refine Vk.seq fun K48 hK48 => ?_
              refine Vk.region ?_
              refine Vk.pures 1 [(6, .bool false)] hs (by kernel_rfl) fun a hs => ?_
              replace hs := hs.pick [6] (L' := [(6, .bool false)]) (by kernel_rfl)
              refine Vk.done (by kernel_rfl) ?_
              refine hK48 _ _ ?_
              clear hK48
              refine wp_ret ?_
              exact Vk.ret1 (P := Try.prog) (fn := Try.f85) (R := visorref17_Right.R κ S x0 x1 x2 r) (.bool false) hs rfl (by kernel_rfl) (by obtain rfl := hret16 _ ((Option.some.inj hm).symm); exact ⟨rfl, (Own.to hs.own [] 2 (by kernel_rfl) (by kernel_rfl))⟩)
            · replace hm := bif_f hm hb
              replace hs := hs.known (t := 76) hb (by kernel_rfl)
              refine Vk.pures 2 [(78, .pointer (some ⟨b_2, 0, none⟩)), (77, .int .i64 q_17)] hs (by kernel_rfl) fun a hs => ?_
              refine Vk.step (Vk.value (some 79) (.int .i64 x0.kind) hs (by kernel_rfl) (op := (.load 3 (.tmp 78))) (by kernel_rfl) (fun o ho => run_load1 (b := b_2) (off := 0) (c := C.int .i64 x0.kind) ho (by kernel_rfl) (by kernel_rfl) (Cell.own 0 rfl (by kernel_rfl)) _ hs.own) fun a hs => ?_)
              refine Vk.pures 1 [(80, .int .i64 x2)] hs (by kernel_rfl) fun a hs => ?_
              obtain ⟨v_35, h_34, hm⟩ := bind_t hm
              refine Vk.step (Vk.call (some 81) 118 #[.int .i64 x0.kind, .int .i64 x2] hs (by kernel_rfl) (by kernel_rfl) (by kernel_rfl) ?_)
              refine (visorref17_Regs.ok k x0.kind x2 v_35 h_34 κ w (pt b_2 (blk (Tapi_Op.cells x0) 32) :: pt b_13 (blk [C.int .i64 x0.a, C.int .i64 x0.b, C.int .i64 x0.d] 63) :: S) hs.own).mono ?_
              rintro _ w ⟨rfl, how⟩
              refine ⟨_, _, _, rfl, how, fun a hs => ?_⟩
              refine Vk.pures 2 [(83, .bool (decide (q_17 ≥ v_35))), (82, .bool (decide (q_17 ≥ v_35)))] hs (by kernel_rfl) fun a hs => ?_
              rcases Bool.eq_false_or_eq_true (decide (q_17 ≥ v_35)) with hb | hb
              · replace hm := bif_t hm hb
                replace hs := hs.known (t := 83) hb (by kernel_rfl)
                refine Vk.pures 1 [(84, .int .i64 q_17)] hs (by kernel_rfl) fun a hs => ?_
                obtain ⟨h_37, hm⟩ := ite_t hm
                refine Vk.step (Vk.value (some 85) (.pointer (some ⟨b_13, 0 + q_17.toNat * 1, none⟩)) hs (by kernel_rfl) (op := (.indexAddr 63 (.tmp 7) (.tmp 84))) (by kernel_rfl) (fun o ho => run_idxArr (k := .i64) ho (by kernel_rfl) (by kernel_rfl) (by kernel_rfl) h_37 _) fun a hs => ?_)
                obtain ⟨v_39, h_38, hm⟩ := bind_t hm
                refine Vk.step (Vk.value (some 86) (.int .i64 v_39) hs (by kernel_rfl) (op := (.load 3 (.tmp 85))) (by kernel_rfl) (fun o ho => run_load1 (c := C.int .i64 v_39) ho (by kernel_rfl) (by kernel_rfl) (Cell.own 1 rfl (getI_some h_38)) _ hs.own) fun a hs => ?_)
                refine Vk.pures 3 [(89, .bool (v_39 != (-1))), (88, .bool (v_39 != (-1))), (87, .bool (v_39 != (-1)))] hs (by kernel_rfl) fun a hs => ?_
                replace hs := hs.pick [1, 2, 3, 7, 8, 64, 65, 66, 67, 68, 69, 70, 71, 72, 73, 74, 77, 78, 79, 80, 81, 82, 83, 84, 85, 86, 87, 88, 89] (L' := [(1, .int .i64 x1), (2, .int .i64 x2), (3, .pointer (some ⟨b_2, 0, none⟩)), (7, .pointer (some ⟨b_13, 0, none⟩)), (8, .int .i64 q_17), (64, .int .i64 q_17), (65, .pointer (some ⟨b_13, 0 + q_17.toNat * 1, none⟩)), (66, .int .i64 v_28), (67, .bool (decide (v_28 < 0))), (68, .bool false), (69, .int .i64 q_17), (70, .pointer (some ⟨b_13, 0 + q_17.toNat * 1, none⟩)), (71, .int .i64 v_32), (72, .int .i64 x1), (73, .bool (decide (v_32 ≥ x1))), (74, .bool (decide (v_32 ≥ x1))), (77, .int .i64 q_17), (78, .pointer (some ⟨b_2, 0, none⟩)), (79, .int .i64 x0.kind), (80, .int .i64 x2), (81, .int .i64 v_35), (82, .bool (decide (q_17 ≥ v_35))), (83, .bool true), (84, .int .i64 q_17), (85, .pointer (some ⟨b_13, 0 + q_17.toNat * 1, none⟩)), (86, .int .i64 v_39), (87, .bool (v_39 != (-1))), (88, .bool (v_39 != (-1))), (89, .bool (v_39 != (-1)))]) (by kernel_rfl)
                refine Vk.done (by kernel_rfl) ?_
                refine hK21 _ _ ?_
                refine Vk.condS (b := v_39 != (-1)) hs (by kernel_rfl) (by kernel_rfl) (fun hb => ?_) (fun hb => ?_)
                · replace hm := bif_t hm hb
                  refine Vk.seq fun K49 hK49 => ?_
                  refine Vk.region ?_
                  refine Vk.pures 1 [(6, .bool false)] hs (by kernel_rfl) fun a hs => ?_
                  replace hs := hs.pick [6] (L' := [(6, .bool false)]) (by kernel_rfl)
                  refine Vk.done (by kernel_rfl) ?_
                  refine hK49 _ _ ?_
                  clear hK49
                  refine wp_ret ?_
                  exact Vk.ret1 (P := Try.prog) (fn := Try.f85) (R := visorref17_Right.R κ S x0 x1 x2 r) (.bool false) hs rfl (by kernel_rfl) (by obtain rfl := hret16 _ ((Option.some.inj hm).symm); exact ⟨rfl, (Own.to hs.own [] 2 (by kernel_rfl) (by kernel_rfl))⟩)
                · replace hm := bif_f hm hb
                  refine wp_skip ?_
                  refine hK20 _ _ ?_
                  refine Vk.region ?_
                  refine Vk.pures 3 [(8, .int .i64 (IntKind.i64.wrap (q_17 + 1))), (56, .int .i64 (IntKind.i64.wrap (q_17 + 1))), (55, .int .i64 q_17)] hs (by kernel_rfl) fun a hs => ?_
                  replace hs := hs.pick [1, 2, 3, 7, 8, 64, 65, 66, 67, 68, 69, 70, 71, 72, 73, 74, 77, 78, 79, 80, 81, 82, 83, 84, 85, 86, 87, 88] (L' := [(1, .int .i64 x1), (2, .int .i64 x2), (3, .pointer (some ⟨b_2, 0, none⟩)), (7, .pointer (some ⟨b_13, 0, none⟩)), (8, .int .i64 (IntKind.i64.wrap (q_17 + 1))), (64, .int .i64 q_17), (65, .pointer (some ⟨b_13, 0 + q_17.toNat * 1, none⟩)), (66, .int .i64 v_28), (67, .bool (decide (v_28 < 0))), (68, .bool false), (69, .int .i64 q_17), (70, .pointer (some ⟨b_13, 0 + q_17.toNat * 1, none⟩)), (71, .int .i64 v_32), (72, .int .i64 x1), (73, .bool (decide (v_32 ≥ x1))), (74, .bool (decide (v_32 ≥ x1))), (77, .int .i64 q_17), (78, .pointer (some ⟨b_2, 0, none⟩)), (79, .int .i64 x0.kind), (80, .int .i64 x2), (81, .int .i64 v_35), (82, .bool (decide (q_17 ≥ v_35))), (83, .bool true), (84, .int .i64 q_17), (85, .pointer (some ⟨b_13, 0 + q_17.toNat * 1, none⟩)), (86, .int .i64 v_39), (87, .bool (v_39 != (-1))), (88, .bool (v_39 != (-1)))]) (by kernel_rfl)
                  refine Vk.done (by kernel_rfl) ?_
                  refine ih (IntKind.i64.wrap (q_17 + 1)) _ _ ⟨hm, hs.go [1, 2, 3, 7, 8] [0, 1] 2 (by kernel_rfl) (by kernel_rfl) (by kernel_rfl)⟩
              · replace hm := bif_f hm hb
                replace hs := hs.known (t := 83) hb (by kernel_rfl)
                refine Vk.pures 6 [(89, .bool false), (88, .bool false), (87, undef), (86, undef), (85, undef), (84, undef)] hs (by kernel_rfl) fun a hs => ?_
                replace hs := hs.pick [1, 2, 3, 7, 8, 64, 65, 66, 67, 68, 69, 70, 71, 72, 73, 74, 77, 78, 79, 80, 81, 82, 83, 88, 89] (L' := [(1, .int .i64 x1), (2, .int .i64 x2), (3, .pointer (some ⟨b_2, 0, none⟩)), (7, .pointer (some ⟨b_13, 0, none⟩)), (8, .int .i64 q_17), (64, .int .i64 q_17), (65, .pointer (some ⟨b_13, 0 + q_17.toNat * 1, none⟩)), (66, .int .i64 v_28), (67, .bool (decide (v_28 < 0))), (68, .bool false), (69, .int .i64 q_17), (70, .pointer (some ⟨b_13, 0 + q_17.toNat * 1, none⟩)), (71, .int .i64 v_32), (72, .int .i64 x1), (73, .bool (decide (v_32 ≥ x1))), (74, .bool (decide (v_32 ≥ x1))), (77, .int .i64 q_17), (78, .pointer (some ⟨b_2, 0, none⟩)), (79, .int .i64 x0.kind), (80, .int .i64 x2), (81, .int .i64 v_35), (82, .bool (decide (q_17 ≥ v_35))), (83, .bool false), (88, .bool false), (89, .bool false)]) (by kernel_rfl)
                refine Vk.done (by kernel_rfl) ?_
                refine hK21 _ _ ?_
                refine Vk.condF hs (by kernel_rfl) (by kernel_rfl) ?_
                refine wp_skip ?_
                refine hK20 _ _ ?_
                refine Vk.region ?_
                refine Vk.pures 3 [(8, .int .i64 (IntKind.i64.wrap (q_17 + 1))), (56, .int .i64 (IntKind.i64.wrap (q_17 + 1))), (55, .int .i64 q_17)] hs (by kernel_rfl) fun a hs => ?_
                replace hs := hs.pick [1, 2, 3, 7, 8, 64, 65, 66, 67, 68, 69, 70, 71, 72, 73, 74, 77, 78, 79, 80, 81, 82, 83, 88] (L' := [(1, .int .i64 x1), (2, .int .i64 x2), (3, .pointer (some ⟨b_2, 0, none⟩)), (7, .pointer (some ⟨b_13, 0, none⟩)), (8, .int .i64 (IntKind.i64.wrap (q_17 + 1))), (64, .int .i64 q_17), (65, .pointer (some ⟨b_13, 0 + q_17.toNat * 1, none⟩)), (66, .int .i64 v_28), (67, .bool (decide (v_28 < 0))), (68, .bool false), (69, .int .i64 q_17), (70, .pointer (some ⟨b_13, 0 + q_17.toNat * 1, none⟩)), (71, .int .i64 v_32), (72, .int .i64 x1), (73, .bool (decide (v_32 ≥ x1))), (74, .bool (decide (v_32 ≥ x1))), (77, .int .i64 q_17), (78, .pointer (some ⟨b_2, 0, none⟩)), (79, .int .i64 x0.kind), (80, .int .i64 x2), (81, .int .i64 v_35), (82, .bool (decide (q_17 ≥ v_35))), (83, .bool false), (88, .bool false)]) (by kernel_rfl)
                refine Vk.done (by kernel_rfl) ?_
                refine ih (IntKind.i64.wrap (q_17 + 1)) _ _ ⟨hm, hs.go [1, 2, 3, 7, 8] [0, 1] 2 (by kernel_rfl) (by kernel_rfl) (by kernel_rfl)⟩
        · replace hm := bif_f hm hb
          replace hs := hs.known (t := 63) hb (by kernel_rfl)
          refine Vk.pures 15 [(78, .pointer (some ⟨b_2, 0, none⟩)), (77, .int .i64 q_17), (76, .bool false), (75, .bool false), (74, undef), (73, undef), (72, undef), (71, undef), (70, undef), (69, undef), (68, undef), (67, undef), (66, undef), (65, undef), (64, undef)] hs (by kernel_rfl) fun a hs => ?_
          refine Vk.step (Vk.value (some 79) (.int .i64 x0.kind) hs (by kernel_rfl) (op := (.load 3 (.tmp 78))) (by kernel_rfl) (fun o ho => run_load1 (b := b_2) (off := 0) (c := C.int .i64 x0.kind) ho (by kernel_rfl) (by kernel_rfl) (Cell.own 0 rfl (by kernel_rfl)) _ hs.own) fun a hs => ?_)
          refine Vk.pures 1 [(80, .int .i64 x2)] hs (by kernel_rfl) fun a hs => ?_
          obtain ⟨v_42, h_41, hm⟩ := bind_t hm
          refine Vk.step (Vk.call (some 81) 118 #[.int .i64 x0.kind, .int .i64 x2] hs (by kernel_rfl) (by kernel_rfl) (by kernel_rfl) ?_)
          refine (visorref17_Regs.ok k x0.kind x2 v_42 h_41 κ w (pt b_2 (blk (Tapi_Op.cells x0) 32) :: pt b_13 (blk [C.int .i64 x0.a, C.int .i64 x0.b, C.int .i64 x0.d] 63) :: S) hs.own).mono ?_
          rintro _ w ⟨rfl, how⟩
          refine ⟨_, _, _, rfl, how, fun a hs => ?_⟩
          refine Vk.pures 2 [(83, .bool (decide (q_17 ≥ v_42))), (82, .bool (decide (q_17 ≥ v_42)))] hs (by kernel_rfl) fun a hs => ?_
          rcases Bool.eq_false_or_eq_true (decide (q_17 ≥ v_42)) with hb | hb
          · replace hm := bif_t hm hb
            replace hs := hs.known (t := 83) hb (by kernel_rfl)
            refine Vk.pures 1 [(84, .int .i64 q_17)] hs (by kernel_rfl) fun a hs => ?_
            obtain ⟨h_44, hm⟩ := ite_t hm
            refine Vk.step (Vk.value (some 85) (.pointer (some ⟨b_13, 0 + q_17.toNat * 1, none⟩)) hs (by kernel_rfl) (op := (.indexAddr 63 (.tmp 7) (.tmp 84))) (by kernel_rfl) (fun o ho => run_idxArr (k := .i64) ho (by kernel_rfl) (by kernel_rfl) (by kernel_rfl) h_44 _) fun a hs => ?_)
            obtain ⟨v_46, h_45, hm⟩ := bind_t hm
            refine Vk.step (Vk.value (some 86) (.int .i64 v_46) hs (by kernel_rfl) (op := (.load 3 (.tmp 85))) (by kernel_rfl) (fun o ho => run_load1 (c := C.int .i64 v_46) ho (by kernel_rfl) (by kernel_rfl) (Cell.own 1 rfl (getI_some h_45)) _ hs.own) fun a hs => ?_)
            refine Vk.pures 3 [(89, .bool (v_46 != (-1))), (88, .bool (v_46 != (-1))), (87, .bool (v_46 != (-1)))] hs (by kernel_rfl) fun a hs => ?_
            replace hs := hs.pick [1, 2, 3, 7, 8, 77, 78, 79, 80, 81, 82, 83, 84, 85, 86, 87, 88, 89] (L' := [(1, .int .i64 x1), (2, .int .i64 x2), (3, .pointer (some ⟨b_2, 0, none⟩)), (7, .pointer (some ⟨b_13, 0, none⟩)), (8, .int .i64 q_17), (77, .int .i64 q_17), (78, .pointer (some ⟨b_2, 0, none⟩)), (79, .int .i64 x0.kind), (80, .int .i64 x2), (81, .int .i64 v_42), (82, .bool (decide (q_17 ≥ v_42))), (83, .bool true), (84, .int .i64 q_17), (85, .pointer (some ⟨b_13, 0 + q_17.toNat * 1, none⟩)), (86, .int .i64 v_46), (87, .bool (v_46 != (-1))), (88, .bool (v_46 != (-1))), (89, .bool (v_46 != (-1)))]) (by kernel_rfl)
            refine Vk.done (by kernel_rfl) ?_
            refine hK21 _ _ ?_
            refine Vk.condS (b := v_46 != (-1)) hs (by kernel_rfl) (by kernel_rfl) (fun hb => ?_) (fun hb => ?_)
            · replace hm := bif_t hm hb
              refine Vk.seq fun K50 hK50 => ?_
              refine Vk.region ?_
              refine Vk.pures 1 [(6, .bool false)] hs (by kernel_rfl) fun a hs => ?_
              replace hs := hs.pick [6] (L' := [(6, .bool false)]) (by kernel_rfl)
              refine Vk.done (by kernel_rfl) ?_
              refine hK50 _ _ ?_
              clear hK50
              refine wp_ret ?_
              exact Vk.ret1 (P := Try.prog) (fn := Try.f85) (R := visorref17_Right.R κ S x0 x1 x2 r) (.bool false) hs rfl (by kernel_rfl) (by obtain rfl := hret16 _ ((Option.some.inj hm).symm); exact ⟨rfl, (Own.to hs.own [] 2 (by kernel_rfl) (by kernel_rfl))⟩)
            · replace hm := bif_f hm hb
              refine wp_skip ?_
              refine hK20 _ _ ?_
              refine Vk.region ?_
              refine Vk.pures 3 [(8, .int .i64 (IntKind.i64.wrap (q_17 + 1))), (56, .int .i64 (IntKind.i64.wrap (q_17 + 1))), (55, .int .i64 q_17)] hs (by kernel_rfl) fun a hs => ?_
              replace hs := hs.pick [1, 2, 3, 7, 8, 77, 78, 79, 80, 81, 82, 83, 84, 85, 86, 87, 88] (L' := [(1, .int .i64 x1), (2, .int .i64 x2), (3, .pointer (some ⟨b_2, 0, none⟩)), (7, .pointer (some ⟨b_13, 0, none⟩)), (8, .int .i64 (IntKind.i64.wrap (q_17 + 1))), (77, .int .i64 q_17), (78, .pointer (some ⟨b_2, 0, none⟩)), (79, .int .i64 x0.kind), (80, .int .i64 x2), (81, .int .i64 v_42), (82, .bool (decide (q_17 ≥ v_42))), (83, .bool true), (84, .int .i64 q_17), (85, .pointer (some ⟨b_13, 0 + q_17.toNat * 1, none⟩)), (86, .int .i64 v_46), (87, .bool (v_46 != (-1))), (88, .bool (v_46 != (-1)))]) (by kernel_rfl)
              refine Vk.done (by kernel_rfl) ?_
              refine ih (IntKind.i64.wrap (q_17 + 1)) _ _ ⟨hm, hs.go [1, 2, 3, 7, 8] [0, 1] 2 (by kernel_rfl) (by kernel_rfl) (by kernel_rfl)⟩
          · replace hm := bif_f hm hb
            replace hs := hs.known (t := 83) hb (by kernel_rfl)
            refine Vk.pures 6 [(89, .bool false), (88, .bool false), (87, undef), (86, undef), (85, undef), (84, undef)] hs (by kernel_rfl) fun a hs => ?_
            replace hs := hs.pick [1, 2, 3, 7, 8, 77, 78, 79, 80, 81, 82, 83, 88, 89] (L' := [(1, .int .i64 x1), (2, .int .i64 x2), (3, .pointer (some ⟨b_2, 0, none⟩)), (7, .pointer (some ⟨b_13, 0, none⟩)), (8, .int .i64 q_17), (77, .int .i64 q_17), (78, .pointer (some ⟨b_2, 0, none⟩)), (79, .int .i64 x0.kind), (80, .int .i64 x2), (81, .int .i64 v_42), (82, .bool (decide (q_17 ≥ v_42))), (83, .bool false), (88, .bool false), (89, .bool false)]) (by kernel_rfl)
            refine Vk.done (by kernel_rfl) ?_
            refine hK21 _ _ ?_
            refine Vk.condF hs (by kernel_rfl) (by kernel_rfl) ?_
            refine wp_skip ?_
            refine hK20 _ _ ?_
            refine Vk.region ?_
            refine Vk.pures 3 [(8, .int .i64 (IntKind.i64.wrap (q_17 + 1))), (56, .int .i64 (IntKind.i64.wrap (q_17 + 1))), (55, .int .i64 q_17)] hs (by kernel_rfl) fun a hs => ?_
            replace hs := hs.pick [1, 2, 3, 7, 8, 77, 78, 79, 80, 81, 82, 83, 88] (L' := [(1, .int .i64 x1), (2, .int .i64 x2), (3, .pointer (some ⟨b_2, 0, none⟩)), (7, .pointer (some ⟨b_13, 0, none⟩)), (8, .int .i64 (IntKind.i64.wrap (q_17 + 1))), (77, .int .i64 q_17), (78, .pointer (some ⟨b_2, 0, none⟩)), (79, .int .i64 x0.kind), (80, .int .i64 x2), (81, .int .i64 v_42), (82, .bool (decide (q_17 ≥ v_42))), (83, .bool false), (88, .bool false)]) (by kernel_rfl)
            refine Vk.done (by kernel_rfl) ?_
            refine ih (IntKind.i64.wrap (q_17 + 1)) _ _ ⟨hm, hs.go [1, 2, 3, 7, 8] [0, 1] 2 (by kernel_rfl) (by kernel_rfl) (by kernel_rfl)⟩
      · replace hm := bif_f hm hb
        refine wp_exit ?_
        exact hx16 (Option.some.inj hm).symm _ _ (hs.go [3] [0] 2 (by kernel_rfl) (by kernel_rfl) (by kernel_rfl))
  refine Vk.region ?_
  refine Vk.pures 3 [(11, .bool (x2 != 2)), (10, .bool (x2 != 2)), (9, .int .i64 x2)] hs (by kernel_rfl) fun a hs => ?_
  suffices hj_5 : ∀ a, St 111 a w κ [(1, .int .i64 x1), (2, .int .i64 x2), (3, .pointer (some ⟨b_2, 0, none⟩)), (9, .int .i64 x2), (10, .bool (x2 != 2)), (11, .bool (x2 != 2)), (14, .bool ((x2 != 2) && (x2 != 3)))] (pt b_2 (blk (Tapi_Op.cells x0) 32) :: S) → wpFrom Try.prog _ _ 6 a w by
    rcases Bool.eq_false_or_eq_true (x2 != 2) with hb | hb
    · replace hs := hs.known (t := 11) hb (by kernel_rfl)
      refine Vk.pures 3 [(14, .bool (x2 != 3)), (13, .bool (x2 != 3)), (12, .int .i64 x2)] hs (by kernel_rfl) fun a hs => ?_
      have hq := hs.pick [1, 2, 3, 9, 10, 11, 14] (L' := [(1, .int .i64 x1), (2, .int .i64 x2), (3, .pointer (some ⟨b_2, 0, none⟩)), (9, .int .i64 x2), (10, .bool (x2 != 2)), (11, .bool true), (14, .bool (x2 != 3))]) (by kernel_rfl)
      exact hj_5 _ (hq.conv (by first | (rw [hb] <;> rfl) | rfl))
    · replace hs := hs.known (t := 11) hb (by kernel_rfl)
      refine Vk.pures 3 [(14, .bool false), (13, undef), (12, undef)] hs (by kernel_rfl) fun a hs => ?_
      have hq := hs.pick [1, 2, 3, 9, 10, 11, 14] (L' := [(1, .int .i64 x1), (2, .int .i64 x2), (3, .pointer (some ⟨b_2, 0, none⟩)), (9, .int .i64 x2), (10, .bool (x2 != 2)), (11, .bool false), (14, .bool false)]) (by kernel_rfl)
      exact hj_5 _ (hq.conv (by first | (rw [hb] <;> rfl) | rfl))
  intro a hs
  refine Vk.pures 1 [(15, .bool ((x2 != 2) && (x2 != 3)))] hs (by kernel_rfl) fun a hs => ?_
  suffices hj_6 : ∀ a, St 111 a w κ [(1, .int .i64 x1), (2, .int .i64 x2), (3, .pointer (some ⟨b_2, 0, none⟩)), (9, .int .i64 x2), (10, .bool (x2 != 2)), (11, .bool (x2 != 2)), (14, .bool ((x2 != 2) && (x2 != 3))), (15, .bool ((x2 != 2) && (x2 != 3))), (19, .bool (((x2 != 2) && (x2 != 3)) || (decide (x0.kind < 1))))] (pt b_2 (blk (Tapi_Op.cells x0) 32) :: S) → wpFrom Try.prog _ _ 11 a w by
    rcases Bool.eq_false_or_eq_true ((x2 != 2) && (x2 != 3)) with hb | hb
    · replace hs := hs.known (t := 15) hb (by kernel_rfl)
      refine Vk.pures 4 [(19, .bool true), (18, undef), (17, undef), (16, undef)] hs (by kernel_rfl) fun a hs => ?_
      have hq := hs.pick [1, 2, 3, 9, 10, 11, 14, 15, 19] (L' := [(1, .int .i64 x1), (2, .int .i64 x2), (3, .pointer (some ⟨b_2, 0, none⟩)), (9, .int .i64 x2), (10, .bool (x2 != 2)), (11, .bool (x2 != 2)), (14, .bool ((x2 != 2) && (x2 != 3))), (15, .bool true), (19, .bool true)]) (by kernel_rfl)
      exact hj_6 _ (hq.conv (by first | (rw [hb] <;> rfl) | rfl))
    · replace hs := hs.known (t := 15) hb (by kernel_rfl)
      refine Vk.pures 1 [(16, .pointer (some ⟨b_2, 0, none⟩))] hs (by kernel_rfl) fun a hs => ?_
      refine Vk.step (Vk.value (some 17) (.int .i64 x0.kind) hs (by kernel_rfl) (op := (.load 3 (.tmp 16))) (by kernel_rfl) (fun o ho => run_load1 (b := b_2) (off := 0) (c := C.int .i64 x0.kind) ho (by kernel_rfl) (by kernel_rfl) (Cell.own 0 rfl (by kernel_rfl)) _ hs.own) fun a hs => ?_)
      refine Vk.pures 2 [(19, .bool (decide (x0.kind < 1))), (18, .bool (decide (x0.kind < 1)))] hs (by kernel_rfl) fun a hs => ?_
      have hq := hs.pick [1, 2, 3, 9, 10, 11, 14, 15, 19] (L' := [(1, .int .i64 x1), (2, .int .i64 x2), (3, .pointer (some ⟨b_2, 0, none⟩)), (9, .int .i64 x2), (10, .bool (x2 != 2)), (11, .bool (x2 != 2)), (14, .bool ((x2 != 2) && (x2 != 3))), (15, .bool false), (19, .bool (decide (x0.kind < 1)))]) (by kernel_rfl)
      exact hj_6 _ (hq.conv (by first | (rw [hb] <;> rfl) | rfl))
  intro a hs
  refine Vk.pures 1 [(20, .bool (((x2 != 2) && (x2 != 3)) || (decide (x0.kind < 1))))] hs (by kernel_rfl) fun a hs => ?_
  suffices hj_7 : ∀ a, St 111 a w κ [(1, .int .i64 x1), (2, .int .i64 x2), (3, .pointer (some ⟨b_2, 0, none⟩)), (9, .int .i64 x2), (10, .bool (x2 != 2)), (11, .bool (x2 != 2)), (14, .bool ((x2 != 2) && (x2 != 3))), (15, .bool ((x2 != 2) && (x2 != 3))), (19, .bool (((x2 != 2) && (x2 != 3)) || (decide (x0.kind < 1)))), (20, .bool (((x2 != 2) && (x2 != 3)) || (decide (x0.kind < 1)))), (24, .bool ((((x2 != 2) && (x2 != 3)) || (decide (x0.kind < 1))) || (decide (x0.kind > 12))))] (pt b_2 (blk (Tapi_Op.cells x0) 32) :: S) → wpFrom Try.prog _ _ 16 a w by
    rcases Bool.eq_false_or_eq_true (((x2 != 2) && (x2 != 3)) || (decide (x0.kind < 1))) with hb | hb
    · replace hs := hs.known (t := 20) hb (by kernel_rfl)
      refine Vk.pures 4 [(24, .bool true), (23, undef), (22, undef), (21, undef)] hs (by kernel_rfl) fun a hs => ?_
      have hq := hs.pick [1, 2, 3, 9, 10, 11, 14, 15, 19, 20, 24] (L' := [(1, .int .i64 x1), (2, .int .i64 x2), (3, .pointer (some ⟨b_2, 0, none⟩)), (9, .int .i64 x2), (10, .bool (x2 != 2)), (11, .bool (x2 != 2)), (14, .bool ((x2 != 2) && (x2 != 3))), (15, .bool ((x2 != 2) && (x2 != 3))), (19, .bool (((x2 != 2) && (x2 != 3)) || (decide (x0.kind < 1)))), (20, .bool true), (24, .bool true)]) (by kernel_rfl)
      exact hj_7 _ (hq.conv (by first | (rw [hb] <;> rfl) | rfl))
    · replace hs := hs.known (t := 20) hb (by kernel_rfl)
      refine Vk.pures 1 [(21, .pointer (some ⟨b_2, 0, none⟩))] hs (by kernel_rfl) fun a hs => ?_
      refine Vk.step (Vk.value (some 22) (.int .i64 x0.kind) hs (by kernel_rfl) (op := (.load 3 (.tmp 21))) (by kernel_rfl) (fun o ho => run_load1 (b := b_2) (off := 0) (c := C.int .i64 x0.kind) ho (by kernel_rfl) (by kernel_rfl) (Cell.own 0 rfl (by kernel_rfl)) _ hs.own) fun a hs => ?_)
      refine Vk.pures 2 [(24, .bool (decide (x0.kind > 12))), (23, .bool (decide (x0.kind > 12)))] hs (by kernel_rfl) fun a hs => ?_
      have hq := hs.pick [1, 2, 3, 9, 10, 11, 14, 15, 19, 20, 24] (L' := [(1, .int .i64 x1), (2, .int .i64 x2), (3, .pointer (some ⟨b_2, 0, none⟩)), (9, .int .i64 x2), (10, .bool (x2 != 2)), (11, .bool (x2 != 2)), (14, .bool ((x2 != 2) && (x2 != 3))), (15, .bool ((x2 != 2) && (x2 != 3))), (19, .bool (((x2 != 2) && (x2 != 3)) || (decide (x0.kind < 1)))), (20, .bool false), (24, .bool (decide (x0.kind > 12)))]) (by kernel_rfl)
      exact hj_7 _ (hq.conv (by first | (rw [hb] <;> rfl) | rfl))
  intro a hs
  refine Vk.pures 1 [(25, .bool ((((x2 != 2) && (x2 != 3)) || (decide (x0.kind < 1))) || (decide (x0.kind > 12))))] hs (by kernel_rfl) fun a hs => ?_
  suffices hj_8 : ∀ a, St 111 a w κ [(1, .int .i64 x1), (2, .int .i64 x2), (3, .pointer (some ⟨b_2, 0, none⟩)), (9, .int .i64 x2), (10, .bool (x2 != 2)), (11, .bool (x2 != 2)), (14, .bool ((x2 != 2) && (x2 != 3))), (15, .bool ((x2 != 2) && (x2 != 3))), (19, .bool (((x2 != 2) && (x2 != 3)) || (decide (x0.kind < 1)))), (20, .bool (((x2 != 2) && (x2 != 3)) || (decide (x0.kind < 1)))), (24, .bool ((((x2 != 2) && (x2 != 3)) || (decide (x0.kind < 1))) || (decide (x0.kind > 12)))), (25, .bool ((((x2 != 2) && (x2 != 3)) || (decide (x0.kind < 1))) || (decide (x0.kind > 12)))), (29, .bool (((((x2 != 2) && (x2 != 3)) || (decide (x0.kind < 1))) || (decide (x0.kind > 12))) || (decide (x0.dom < (-1)))))] (pt b_2 (blk (Tapi_Op.cells x0) 32) :: S) → wpFrom Try.prog _ _ 21 a w by
    rcases Bool.eq_false_or_eq_true ((((x2 != 2) && (x2 != 3)) || (decide (x0.kind < 1))) || (decide (x0.kind > 12))) with hb | hb
    · replace hs := hs.known (t := 25) hb (by kernel_rfl)
      refine Vk.pures 4 [(29, .bool true), (28, undef), (27, undef), (26, undef)] hs (by kernel_rfl) fun a hs => ?_
      have hq := hs.pick [1, 2, 3, 9, 10, 11, 14, 15, 19, 20, 24, 25, 29] (L' := [(1, .int .i64 x1), (2, .int .i64 x2), (3, .pointer (some ⟨b_2, 0, none⟩)), (9, .int .i64 x2), (10, .bool (x2 != 2)), (11, .bool (x2 != 2)), (14, .bool ((x2 != 2) && (x2 != 3))), (15, .bool ((x2 != 2) && (x2 != 3))), (19, .bool (((x2 != 2) && (x2 != 3)) || (decide (x0.kind < 1)))), (20, .bool (((x2 != 2) && (x2 != 3)) || (decide (x0.kind < 1)))), (24, .bool ((((x2 != 2) && (x2 != 3)) || (decide (x0.kind < 1))) || (decide (x0.kind > 12)))), (25, .bool true), (29, .bool true)]) (by kernel_rfl)
      exact hj_8 _ (hq.conv (by first | (rw [hb] <;> rfl) | rfl))
    · replace hs := hs.known (t := 25) hb (by kernel_rfl)
      refine Vk.pures 1 [(26, .pointer (some ⟨b_2, 1, none⟩))] hs (by kernel_rfl) fun a hs => ?_
      refine Vk.step (Vk.value (some 27) (.int .i64 x0.dom) hs (by kernel_rfl) (op := (.load 3 (.tmp 26))) (by kernel_rfl) (fun o ho => run_load1 (b := b_2) (off := 1) (c := C.int .i64 x0.dom) ho (by kernel_rfl) (by kernel_rfl) (Cell.own 0 rfl (by kernel_rfl)) _ hs.own) fun a hs => ?_)
      refine Vk.pures 2 [(29, .bool (decide (x0.dom < (-1)))), (28, .bool (decide (x0.dom < (-1))))] hs (by kernel_rfl) fun a hs => ?_
      have hq := hs.pick [1, 2, 3, 9, 10, 11, 14, 15, 19, 20, 24, 25, 29] (L' := [(1, .int .i64 x1), (2, .int .i64 x2), (3, .pointer (some ⟨b_2, 0, none⟩)), (9, .int .i64 x2), (10, .bool (x2 != 2)), (11, .bool (x2 != 2)), (14, .bool ((x2 != 2) && (x2 != 3))), (15, .bool ((x2 != 2) && (x2 != 3))), (19, .bool (((x2 != 2) && (x2 != 3)) || (decide (x0.kind < 1)))), (20, .bool (((x2 != 2) && (x2 != 3)) || (decide (x0.kind < 1)))), (24, .bool ((((x2 != 2) && (x2 != 3)) || (decide (x0.kind < 1))) || (decide (x0.kind > 12)))), (25, .bool false), (29, .bool (decide (x0.dom < (-1))))]) (by kernel_rfl)
      exact hj_8 _ (hq.conv (by first | (rw [hb] <;> rfl) | rfl))
  intro a hs
  refine Vk.pures 1 [(30, .bool (((((x2 != 2) && (x2 != 3)) || (decide (x0.kind < 1))) || (decide (x0.kind > 12))) || (decide (x0.dom < (-1)))))] hs (by kernel_rfl) fun a hs => ?_
  suffices hj_9 : ∀ a, St 111 a w κ [(1, .int .i64 x1), (2, .int .i64 x2), (3, .pointer (some ⟨b_2, 0, none⟩)), (9, .int .i64 x2), (10, .bool (x2 != 2)), (11, .bool (x2 != 2)), (14, .bool ((x2 != 2) && (x2 != 3))), (15, .bool ((x2 != 2) && (x2 != 3))), (19, .bool (((x2 != 2) && (x2 != 3)) || (decide (x0.kind < 1)))), (20, .bool (((x2 != 2) && (x2 != 3)) || (decide (x0.kind < 1)))), (24, .bool ((((x2 != 2) && (x2 != 3)) || (decide (x0.kind < 1))) || (decide (x0.kind > 12)))), (25, .bool ((((x2 != 2) && (x2 != 3)) || (decide (x0.kind < 1))) || (decide (x0.kind > 12)))), (29, .bool (((((x2 != 2) && (x2 != 3)) || (decide (x0.kind < 1))) || (decide (x0.kind > 12))) || (decide (x0.dom < (-1))))), (30, .bool (((((x2 != 2) && (x2 != 3)) || (decide (x0.kind < 1))) || (decide (x0.kind > 12))) || (decide (x0.dom < (-1))))), (35, .bool ((((((x2 != 2) && (x2 != 3)) || (decide (x0.kind < 1))) || (decide (x0.kind > 12))) || (decide (x0.dom < (-1)))) || (decide (x0.dom ≥ x2))))] (pt b_2 (blk (Tapi_Op.cells x0) 32) :: S) → wpFrom Try.prog _ _ 27 a w by
    rcases Bool.eq_false_or_eq_true (((((x2 != 2) && (x2 != 3)) || (decide (x0.kind < 1))) || (decide (x0.kind > 12))) || (decide (x0.dom < (-1)))) with hb | hb
    · replace hs := hs.known (t := 30) hb (by kernel_rfl)
      refine Vk.pures 5 [(35, .bool true), (34, undef), (33, undef), (32, undef), (31, undef)] hs (by kernel_rfl) fun a hs => ?_
      have hq := hs.pick [1, 2, 3, 9, 10, 11, 14, 15, 19, 20, 24, 25, 29, 30, 35] (L' := [(1, .int .i64 x1), (2, .int .i64 x2), (3, .pointer (some ⟨b_2, 0, none⟩)), (9, .int .i64 x2), (10, .bool (x2 != 2)), (11, .bool (x2 != 2)), (14, .bool ((x2 != 2) && (x2 != 3))), (15, .bool ((x2 != 2) && (x2 != 3))), (19, .bool (((x2 != 2) && (x2 != 3)) || (decide (x0.kind < 1)))), (20, .bool (((x2 != 2) && (x2 != 3)) || (decide (x0.kind < 1)))), (24, .bool ((((x2 != 2) && (x2 != 3)) || (decide (x0.kind < 1))) || (decide (x0.kind > 12)))), (25, .bool ((((x2 != 2) && (x2 != 3)) || (decide (x0.kind < 1))) || (decide (x0.kind > 12)))), (29, .bool (((((x2 != 2) && (x2 != 3)) || (decide (x0.kind < 1))) || (decide (x0.kind > 12))) || (decide (x0.dom < (-1))))), (30, .bool true), (35, .bool true)]) (by kernel_rfl)
      exact hj_9 _ (hq.conv (by first | (rw [hb] <;> rfl) | rfl))
    · replace hs := hs.known (t := 30) hb (by kernel_rfl)
      refine Vk.pures 1 [(31, .pointer (some ⟨b_2, 1, none⟩))] hs (by kernel_rfl) fun a hs => ?_
      refine Vk.step (Vk.value (some 32) (.int .i64 x0.dom) hs (by kernel_rfl) (op := (.load 3 (.tmp 31))) (by kernel_rfl) (fun o ho => run_load1 (b := b_2) (off := 1) (c := C.int .i64 x0.dom) ho (by kernel_rfl) (by kernel_rfl) (Cell.own 0 rfl (by kernel_rfl)) _ hs.own) fun a hs => ?_)
      refine Vk.pures 3 [(35, .bool (decide (x0.dom ≥ x2))), (34, .bool (decide (x0.dom ≥ x2))), (33, .int .i64 x2)] hs (by kernel_rfl) fun a hs => ?_
      have hq := hs.pick [1, 2, 3, 9, 10, 11, 14, 15, 19, 20, 24, 25, 29, 30, 35] (L' := [(1, .int .i64 x1), (2, .int .i64 x2), (3, .pointer (some ⟨b_2, 0, none⟩)), (9, .int .i64 x2), (10, .bool (x2 != 2)), (11, .bool (x2 != 2)), (14, .bool ((x2 != 2) && (x2 != 3))), (15, .bool ((x2 != 2) && (x2 != 3))), (19, .bool (((x2 != 2) && (x2 != 3)) || (decide (x0.kind < 1)))), (20, .bool (((x2 != 2) && (x2 != 3)) || (decide (x0.kind < 1)))), (24, .bool ((((x2 != 2) && (x2 != 3)) || (decide (x0.kind < 1))) || (decide (x0.kind > 12)))), (25, .bool ((((x2 != 2) && (x2 != 3)) || (decide (x0.kind < 1))) || (decide (x0.kind > 12)))), (29, .bool (((((x2 != 2) && (x2 != 3)) || (decide (x0.kind < 1))) || (decide (x0.kind > 12))) || (decide (x0.dom < (-1))))), (30, .bool false), (35, .bool (decide (x0.dom ≥ x2)))]) (by kernel_rfl)
      exact hj_9 _ (hq.conv (by first | (rw [hb] <;> rfl) | rfl))
  intro a hs
  refine Vk.pures 1 [(36, .bool ((((((x2 != 2) && (x2 != 3)) || (decide (x0.kind < 1))) || (decide (x0.kind > 12))) || (decide (x0.dom < (-1)))) || (decide (x0.dom ≥ x2))))] hs (by kernel_rfl) fun a hs => ?_
  rcases Bool.eq_false_or_eq_true ((((((x2 != 2) && (x2 != 3)) || (decide (x0.kind < 1))) || (decide (x0.kind > 12))) || (decide (x0.dom < (-1)))) || (decide (x0.dom ≥ x2))) with hb | hb
  · replace hm := bif_t hm hb
    replace hs := hs.known (t := 36) hb (by kernel_rfl)
    refine Vk.pures 9 [(45, .bool true), (44, undef), (43, undef), (42, undef), (41, undef), (40, undef), (39, undef), (38, undef), (37, undef)] hs (by kernel_rfl) fun a hs => ?_
    replace hs := hs.pick [1, 2, 3, 45] (L' := [(1, .int .i64 x1), (2, .int .i64 x2), (3, .pointer (some ⟨b_2, 0, none⟩)), (45, .bool true)]) (by kernel_rfl)
    refine Vk.done (by kernel_rfl) ?_
    exact hj4 true hm _ _ (hs.go [1, 2, 3, 45] [0] 1 (by kernel_rfl) (by kernel_rfl) (by kernel_rfl))
  · replace hm := bif_f hm hb
    replace hs := hs.known (t := 36) hb (by kernel_rfl)
    refine Vk.pures 1 [(37, .pointer (some ⟨b_2, 0, none⟩))] hs (by kernel_rfl) fun a hs => ?_
    refine Vk.step (Vk.value (some 38) (.int .i64 x0.kind) hs (by kernel_rfl) (op := (.load 3 (.tmp 37))) (by kernel_rfl) (fun o ho => run_load1 (b := b_2) (off := 0) (c := C.int .i64 x0.kind) ho (by kernel_rfl) (by kernel_rfl) (Cell.own 0 rfl (by kernel_rfl)) _ hs.own) fun a hs => ?_)
    refine Vk.pures 2 [(40, .bool (x0.kind == 12)), (39, .bool (x0.kind == 12))] hs (by kernel_rfl) fun a hs => ?_
    rcases Bool.eq_false_or_eq_true (x0.kind == 12) with hb | hb
    · replace hm := bif_t hm hb
      replace hs := hs.known (t := 40) hb (by kernel_rfl)
      refine Vk.pures 1 [(41, .pointer (some ⟨b_2, 1, none⟩))] hs (by kernel_rfl) fun a hs => ?_
      refine Vk.step (Vk.value (some 42) (.int .i64 x0.dom) hs (by kernel_rfl) (op := (.load 3 (.tmp 41))) (by kernel_rfl) (fun o ho => run_load1 (b := b_2) (off := 1) (c := C.int .i64 x0.dom) ho (by kernel_rfl) (by kernel_rfl) (Cell.own 0 rfl (by kernel_rfl)) _ hs.own) fun a hs => ?_)
      refine Vk.pures 3 [(45, .bool (x0.dom != (-1))), (44, .bool (x0.dom != (-1))), (43, .bool (x0.dom != (-1)))] hs (by kernel_rfl) fun a hs => ?_
      replace hs := hs.pick [1, 2, 3, 45] (L' := [(1, .int .i64 x1), (2, .int .i64 x2), (3, .pointer (some ⟨b_2, 0, none⟩)), (45, .bool (x0.dom != (-1)))]) (by kernel_rfl)
      refine Vk.done (by kernel_rfl) ?_
      exact hj4 (x0.dom != (-1)) hm _ _ (hs.go [1, 2, 3, 45] [0] 1 (by kernel_rfl) (by kernel_rfl) (by kernel_rfl))
    · replace hm := bif_f hm hb
      replace hs := hs.known (t := 40) hb (by kernel_rfl)
      refine Vk.pures 5 [(45, .bool false), (44, .bool false), (43, undef), (42, undef), (41, undef)] hs (by kernel_rfl) fun a hs => ?_
      replace hs := hs.pick [1, 2, 3, 45] (L' := [(1, .int .i64 x1), (2, .int .i64 x2), (3, .pointer (some ⟨b_2, 0, none⟩)), (45, .bool false)]) (by kernel_rfl)
      refine Vk.done (by kernel_rfl) ?_
      exact hj4 false hm _ _ (hs.go [1, 2, 3, 45] [0] 1 (by kernel_rfl) (by kernel_rfl) (by kernel_rfl))


def visorref19_M_Fails.j1 (k : Nat) (p_4 : Tvisorref19_M) : Option ((Int × Tvisorref19_M)) := some ((-1), p_4)
abbrev visorref19_M_Fails.R (κ : Ctx) (S : List HP) (x0 : Tvisorref19_M) (x1 : Int) (b_x0 : Nat) (A_x0oops : Option Addr) (c_x0oops : Nat) (A_x0oblocks : Option Addr) (c_x0oblocks : Nat) (A_x0oval : Option Addr) (c_x0oval : Nat) (A_x0otapel : Option Addr) (c_x0otapel : Nat) (r : (Int × Tvisorref19_M)) : Ending → World → Prop := fun e w' => ∃ (A_y0oops : Option Addr), ∃ (c_y0oops : Nat), ∃ (A_y0oblocks : Option Addr), ∃ (c_y0oblocks : Nat), ∃ (A_y0oval : Option Addr), ∃ (c_y0oval : Nat), ∃ (A_y0otapel : Option Addr), ∃ (c_y0otapel : Nat), e = .returned (.int .i64 r.1) ∧ Own κ w' (pt b_x0 (blk (Tvisorref19_M.obj r.2 A_y0oops c_y0oops A_y0oblocks c_y0oblocks A_y0oval c_y0oval A_y0otapel c_y0otapel) 123) :: rowp A_y0oops c_y0oops 32 6 Tapi_Op.cells r.2.ops :: rowp A_y0oblocks c_y0oblocks 144 3 Tapi_Span.cells r.2.blocks :: rowp A_y0oval c_y0oval 23 1 (eI .u64) r.2.val :: rdp κ A_y0otapel c_y0otapel 1 (eI .u64) r.2.tape.l :: S)
def visorref19_M_Fails.m (k : Nat) (x0 : Tvisorref19_M) (x1 : Int) : Option (Int × Tvisorref19_M) := (bif x0.e == 0 then visorref19_M_Fails.j1 k (⟨x0.n, x0.most, x0.words, x0.draws, x0.fromF, x0.skip, x0.kind, x1, x0.ops, x0.blocks, x0.val, x0.tape, x0.dry⟩ : Tvisorref19_M) else visorref19_M_Fails.j1 k x0)

set_option maxRecDepth 100000 in
set_option maxHeartbeats 4000000 in
theorem visorref19_M_Fails.ok (k : Nat) (x0 : Tvisorref19_M) (x1 : Int) (r : (Int × Tvisorref19_M)) (hm : visorref19_M_Fails.m k x0 x1 = some r) (κ : Ctx) (w : World) (S : List HP) (b_x0 : Nat) (A_x0oops : Option Addr) (c_x0oops : Nat) (A_x0oblocks : Option Addr) (c_x0oblocks : Nat) (A_x0oval : Option Addr) (c_x0oval : Nat) (A_x0otapel : Option Addr) (c_x0otapel : Nat) (ho : Own κ w (pt b_x0 (blk (Tvisorref19_M.obj x0 A_x0oops c_x0oops A_x0oblocks c_x0oblocks A_x0oval c_x0oval A_x0otapel c_x0otapel) 123) :: rowp A_x0oops c_x0oops 32 6 Tapi_Op.cells x0.ops :: rowp A_x0oblocks c_x0oblocks 144 3 Tapi_Span.cells x0.blocks :: rowp A_x0oval c_x0oval 23 1 (eI .u64) x0.val :: rdp κ A_x0otapel c_x0otapel 1 (eI .u64) x0.tape.l :: S)) :
    Calls Try.prog 123 #[.pointer (some ⟨b_x0, 0, none⟩), .int .i64 x1] w (visorref19_M_Fails.R κ S x0 x1 b_x0 A_x0oops c_x0oops A_x0oblocks c_x0oblocks A_x0oval c_x0oval A_x0otapel c_x0otapel r) := by
  unfold visorref19_M_Fails.m at hm
  refine Vk.enter [(0, .pointer (some ⟨b_x0, 0, none⟩)), (1, .int .i64 x1)] Try.func123 rfl Try.ntmps123 (by kernel_rfl) (Nat.le_of_ble_eq_true (by kernel_rfl)) ho fun a hs => ?_
  refine Vk.seq fun K1 hK1 => ?_
  refine Vk.region ?_
  refine Vk.pures 1 [(4, .int .i64 0)] hs (by kernel_rfl) fun a hs => ?_
  replace hs := hs.pick [0, 1] (L' := [(0, .pointer (some ⟨b_x0, 0, none⟩)), (1, .int .i64 x1)]) (by kernel_rfl)
  refine Vk.done (by kernel_rfl) ?_
  refine hK1 _ _ ?_
  clear hK1
  refine Vk.seq fun K2 hK2 => ?_
  have hj2 : ∀ (p_4 : Tvisorref19_M), visorref19_M_Fails.j1 k p_4 = some r → ∀ (a : Act) (w : World), St 14 a w κ [] (pt b_x0 (blk (Tvisorref19_M.obj p_4 A_x0oops c_x0oops A_x0oblocks c_x0oblocks A_x0oval c_x0oval A_x0otapel c_x0otapel) 123) :: rowp A_x0oops c_x0oops 32 6 Tapi_Op.cells p_4.ops :: rowp A_x0oblocks c_x0oblocks 144 3 Tapi_Span.cells p_4.blocks :: rowp A_x0oval c_x0oval 23 1 (eI .u64) p_4.val :: rdp κ A_x0otapel c_x0otapel 1 (eI .u64) p_4.tape.l :: S) → K2 a w := by
    intro p_4 hm a w hs
    unfold visorref19_M_Fails.j1 at hm
    refine hK2 _ _ ?_
    refine Vk.seq fun K5 hK5 => ?_
    refine Vk.region ?_
    refine Vk.pures 1 [(4, .int .i64 (-1))] hs (by kernel_rfl) fun a hs => ?_
    replace hs := hs.pick [4] (L' := [(4, .int .i64 (-1))]) (by kernel_rfl)
    refine Vk.done (by kernel_rfl) ?_
    refine hK5 _ _ ?_
    clear hK5
    refine wp_ret ?_
    exact Vk.ret1 (P := Try.prog) (fn := Try.f123) (R := visorref19_M_Fails.R κ S x0 x1 b_x0 A_x0oops c_x0oops A_x0oblocks c_x0oblocks A_x0oval c_x0oval A_x0otapel c_x0otapel r) (.int .i64 (-1)) hs rfl (by kernel_rfl) (by obtain rfl := Option.some.inj hm; exact ⟨A_x0oops, c_x0oops, A_x0oblocks, c_x0oblocks, A_x0oval, c_x0oval, A_x0otapel, c_x0otapel, rfl, (Own.to hs.own [0, 1, 2, 3, 4] 5 (by kernel_rfl) (by kernel_rfl))⟩)
  refine Vk.seq fun K3 hK3 => ?_
  refine Vk.region ?_
  refine Vk.pures 3 [(7, .pointer (some ⟨b_x0, 7, none⟩)), (6, .pointer (some ⟨b_x0, 0, none⟩)), (5, .pointer (some ⟨b_x0, 0, none⟩))] hs (by kernel_rfl) fun a hs => ?_
  refine Vk.step (Vk.value (some 8) (.int .i64 x0.e) hs (by kernel_rfl) (op := (.load 43 (.tmp 7))) (by kernel_rfl) (fun o ho => run_load1 (b := b_x0) (off := 7) (c := C.int .i64 x0.e) ho (by kernel_rfl) (by kernel_rfl) (Cell.own 0 rfl (by kernel_rfl)) _ hs.own) fun a hs => ?_)
  refine Vk.pures 1 [(9, .bool (x0.e == 0))] hs (by kernel_rfl) fun a hs => ?_
  replace hs := hs.pick [0, 1, 9] (L' := [(0, .pointer (some ⟨b_x0, 0, none⟩)), (1, .int .i64 x1), (9, .bool (x0.e == 0))]) (by kernel_rfl)
  refine Vk.done (by kernel_rfl) ?_
  refine hK3 _ _ ?_
  clear hK3
  refine Vk.condS (b := x0.e == 0) hs (by kernel_rfl) (by kernel_rfl) (fun hb => ?_) (fun hb => ?_)
  · replace hm := bif_t hm hb
    refine Vk.region ?_
    refine Vk.pures 4 [(13, .pointer (some ⟨b_x0, 7, none⟩)), (12, .pointer (some ⟨b_x0, 0, none⟩)), (11, .int .i64 x1), (10, .pointer (some ⟨b_x0, 0, none⟩))] hs (by kernel_rfl) fun a hs => ?_
    refine Vk.step (Vk.store1 (b := b_x0) (ty := 43) (x := (.tmp 13)) (y := (.tmp 11)) (off := 7) (C.int .i64 x1) 0 hs (by kernel_rfl) (by kernel_rfl) (by kernel_rfl) (by kernel_rfl) (by kernel_rfl) (by kernel_rfl) rfl (Nat.le_of_ble_eq_true (by kernel_rfl)) fun a w hs => ?_)
    replace hs := hs.pick [] (L' := []) (by kernel_rfl)
    refine Vk.done (by kernel_rfl) ?_
    exact hj2 (⟨x0.n, x0.most, x0.words, x0.draws, x0.fromF, x0.skip, x0.kind, x1, x0.ops, x0.blocks, x0.val, x0.tape, x0.dry⟩ : Tvisorref19_M) hm _ _ (hs.go [] [0, 1, 2, 3, 4] 5 (by kernel_rfl) (by kernel_rfl) (by kernel_rfl))
  · replace hm := bif_f hm hb
    refine wp_skip ?_
    exact hj2 x0 hm _ _ (hs.go [] [0, 1, 2, 3, 4] 5 (by kernel_rfl) (by kernel_rfl) (by kernel_rfl))


abbrev visorref02_T_Draw.R (κ : Ctx) (S : List HP) (x0 : Tvisorref02_T) (b_x0 : Nat) (A_x0ol : Option Addr) (c_x0ol : Nat) (r : (Int × Bool × Tvisorref02_T)) : Ending → World → Prop := fun e w' => ∃ (A_y0ol : Option Addr), ∃ (c_y0ol : Nat), e = .returned (.tuple #[.int .u64 r.1, .bool r.2.1]) ∧ Own κ w' (pt b_x0 (blk (Tvisorref02_T.obj r.2.2 A_y0ol c_y0ol) 121) :: rdp κ A_y0ol c_y0ol 1 (eI .u64) r.2.2.l :: S)
def visorref02_T_Draw.m (k : Nat) (x0 : Tvisorref02_T) : Option (Int × Bool × Tvisorref02_T) := (bif (decide (x0.free < 1)) || (((x0.l.length : Nat) : Int) == 0) then some (0, false, x0) else (if 0 ≤ (0 : Int) then (x0.l[0]?).bind fun e_10 => (if ((0 : Int) ≤ 1) ∧ 1 ≤ x0.l.length ∧ x0.l.length ≤ x0.l.length then some (e_10, true, (⟨cut x0.l (1) (x0.l.length), IntKind.i64.wrap (x0.used + 1), IntKind.i64.wrap (x0.free - 1)⟩ : Tvisorref02_T)) else none) else none))

set_option maxRecDepth 100000 in
set_option maxHeartbeats 4000000 in
theorem visorref02_T_Draw.ok (k : Nat) (x0 : Tvisorref02_T) (r : (Int × Bool × Tvisorref02_T)) (hm : visorref02_T_Draw.m k x0 = some r) (κ : Ctx) (w : World) (S : List HP) (b_x0 : Nat) (A_x0ol : Option Addr) (c_x0ol : Nat) (ho : Own κ w (pt b_x0 (blk (Tvisorref02_T.obj x0 A_x0ol c_x0ol) 121) :: rdp κ A_x0ol c_x0ol 1 (eI .u64) x0.l :: S)) :
    Calls Try.prog 124 #[.pointer (some ⟨b_x0, 0, none⟩)] w (visorref02_T_Draw.R κ S x0 b_x0 A_x0ol c_x0ol r) := by
  unfold visorref02_T_Draw.m at hm
  refine Vk.enter [(0, .pointer (some ⟨b_x0, 0, none⟩))] Try.func124 rfl Try.ntmps124 (by kernel_rfl) (Nat.le_of_ble_eq_true (by kernel_rfl)) ho fun a hs => ?_
  refine Vk.seq fun K1 hK1 => ?_
  refine Vk.region ?_
  refine Vk.pures 2 [(3, .bool false), (2, .int .u64 0)] hs (by kernel_rfl) fun a hs => ?_
  replace hs := hs.pick [0] (L' := [(0, .pointer (some ⟨b_x0, 0, none⟩))]) (by kernel_rfl)
  refine Vk.done (by kernel_rfl) ?_
  refine hK1 _ _ ?_
  clear hK1
  refine Vk.seq fun K2 hK2 => ?_
  refine Vk.seq fun K3 hK3 => ?_
  refine Vk.region ?_
  refine Vk.pures 3 [(7, .pointer (some ⟨b_x0, 2, none⟩)), (6, .pointer (some ⟨b_x0, 0, none⟩)), (5, .pointer (some ⟨b_x0, 0, none⟩))] hs (by kernel_rfl) fun a hs => ?_
  refine Vk.step (Vk.value (some 8) (.int .i64 x0.free) hs (by kernel_rfl) (op := (.load 3 (.tmp 7))) (by kernel_rfl) (fun o ho => run_load1 (b := b_x0) (off := 2) (c := C.int .i64 x0.free) ho (by kernel_rfl) (by kernel_rfl) (Cell.own 0 rfl (by kernel_rfl)) _ hs.own) fun a hs => ?_)
  refine Vk.pures 2 [(10, .bool (decide (x0.free < 1))), (9, .bool (decide (x0.free < 1)))] hs (by kernel_rfl) fun a hs => ?_
  suffices hj_4 : ∀ a, St 49 a w κ [(0, .pointer (some ⟨b_x0, 0, none⟩)), (5, .pointer (some ⟨b_x0, 0, none⟩)), (6, .pointer (some ⟨b_x0, 0, none⟩)), (7, .pointer (some ⟨b_x0, 2, none⟩)), (8, .int .i64 x0.free), (9, .bool (decide (x0.free < 1))), (10, .bool (decide (x0.free < 1))), (17, .bool ((decide (x0.free < 1)) || (((x0.l.length : Nat) : Int) == 0)))] (pt b_x0 (blk (Tvisorref02_T.obj x0 A_x0ol c_x0ol) 121) :: rdp κ A_x0ol c_x0ol 1 (eI .u64) x0.l :: S) → wpFrom Try.prog _ _ 13 a w by
    rcases Bool.eq_false_or_eq_true (decide (x0.free < 1)) with hb | hb
    · replace hs := hs.known (t := 10) hb (by kernel_rfl)
      refine Vk.pures 7 [(17, .bool true), (16, undef), (15, undef), (14, undef), (13, undef), (12, undef), (11, undef)] hs (by kernel_rfl) fun a hs => ?_
      have hq := hs.pick [0, 5, 6, 7, 8, 9, 10, 17] (L' := [(0, .pointer (some ⟨b_x0, 0, none⟩)), (5, .pointer (some ⟨b_x0, 0, none⟩)), (6, .pointer (some ⟨b_x0, 0, none⟩)), (7, .pointer (some ⟨b_x0, 2, none⟩)), (8, .int .i64 x0.free), (9, .bool (decide (x0.free < 1))), (10, .bool true), (17, .bool true)]) (by kernel_rfl)
      exact hj_4 _ (hq.conv (by first | (rw [hb] <;> rfl) | rfl))
    · replace hs := hs.known (t := 10) hb (by kernel_rfl)
      refine Vk.pures 3 [(13, .pointer (some ⟨b_x0, 0, none⟩)), (12, .pointer (some ⟨b_x0, 0, none⟩)), (11, .pointer (some ⟨b_x0, 0, none⟩))] hs (by kernel_rfl) fun a hs => ?_
      refine Vk.step (Vk.value (some 14) (.slice A_x0ol x0.l.length c_x0ol) hs (by kernel_rfl) (op := (.load 73 (.tmp 13))) (by kernel_rfl) (fun o ho => run_load1 (b := b_x0) (off := 0) (c := C.slc A_x0ol x0.l.length c_x0ol) ho (by kernel_rfl) (by kernel_rfl) (Cell.own 0 rfl (by kernel_rfl)) _ hs.own) fun a hs => ?_)
      refine Vk.pures 3 [(17, .bool (((x0.l.length : Nat) : Int) == 0)), (16, .bool (((x0.l.length : Nat) : Int) == 0)), (15, .int .i64 ((x0.l.length : Nat) : Int))] hs (by kernel_rfl) fun a hs => ?_
      have hq := hs.pick [0, 5, 6, 7, 8, 9, 10, 17] (L' := [(0, .pointer (some ⟨b_x0, 0, none⟩)), (5, .pointer (some ⟨b_x0, 0, none⟩)), (6, .pointer (some ⟨b_x0, 0, none⟩)), (7, .pointer (some ⟨b_x0, 2, none⟩)), (8, .int .i64 x0.free), (9, .bool (decide (x0.free < 1))), (10, .bool false), (17, .bool (((x0.l.length : Nat) : Int) == 0))]) (by kernel_rfl)
      exact hj_4 _ (hq.conv (by first | (rw [hb] <;> rfl) | rfl))
  intro a hs
  replace hs := hs.pick [0, 17] (L' := [(0, .pointer (some ⟨b_x0, 0, none⟩)), (17, .bool ((decide (x0.free < 1)) || (((x0.l.length : Nat) : Int) == 0)))]) (by kernel_rfl)
  refine Vk.done (by kernel_rfl) ?_
  refine hK3 _ _ ?_
  clear hK3
  refine Vk.condS (b := (decide (x0.free < 1)) || (((x0.l.length : Nat) : Int) == 0)) hs (by kernel_rfl) (by kernel_rfl) (fun hb => ?_) (fun hb => ?_)
  · replace hm := bif_t hm hb
    refine Vk.seq fun K5 hK5 => ?_
    refine Vk.region ?_
    refine Vk.pures 2 [(3, .bool false), (2, .int .u64 0)] hs (by kernel_rfl) fun a hs => ?_
    replace hs := hs.pick [2, 3] (L' := [(2, .int .u64 0), (3, .bool false)]) (by kernel_rfl)
    refine Vk.done (by kernel_rfl) ?_
    refine hK5 _ _ ?_
    clear hK5
    refine wp_ret ?_
    exact Vk.ret2 (P := Try.prog) (fn := Try.f124) (R := visorref02_T_Draw.R κ S x0 b_x0 A_x0ol c_x0ol r) (.int .u64 0) (.bool false) hs rfl (by kernel_rfl) (by kernel_rfl) (by obtain rfl := Option.some.inj hm; exact ⟨A_x0ol, c_x0ol, rfl, (Own.to hs.own [0, 1] 2 (by kernel_rfl) (by kernel_rfl))⟩)
  · replace hm := bif_f hm hb
    refine wp_skip ?_
    refine hK2 _ _ ?_
    clear hK2
    refine Vk.seq fun K6 hK6 => ?_
    refine Vk.region ?_
    refine Vk.pures 3 [(20, .pointer (some ⟨b_x0, 0, none⟩)), (19, .pointer (some ⟨b_x0, 0, none⟩)), (18, .pointer (some ⟨b_x0, 0, none⟩))] hs (by kernel_rfl) fun a hs => ?_
    refine Vk.step (Vk.value (some 21) (.slice A_x0ol x0.l.length c_x0ol) hs (by kernel_rfl) (op := (.load 73 (.tmp 20))) (by kernel_rfl) (fun o ho => run_load1 (b := b_x0) (off := 0) (c := C.slc A_x0ol x0.l.length c_x0ol) ho (by kernel_rfl) (by kernel_rfl) (Cell.own 0 rfl (by kernel_rfl)) _ hs.own) fun a hs => ?_)
    obtain ⟨h_7, hm⟩ := ite_t hm
    obtain ⟨e_10, h_8, hm⟩ := bind_t hm
    obtain ⟨b_11, o_12, hA_13, h_9⟩ := Sl.elem (Own.rdSl 0 hs.own.drop rfl) h_8
    refine Vk.step (Vk.value (some 22) (.pointer (some ⟨b_11, o_12 + 0 * 1, none⟩)) hs (by kernel_rfl) (op := (.indexAddr 73 (.tmp 21) (.const (.int .i64 0)))) (by kernel_rfl) (fun o ho => run_idxSlc (k := .i64) ho (cap := c_x0ol) (len := x0.l.length) ((congrArg (fun A => Value.slice A (x0.l.length) (c_x0ol)) hA_13) ▸ (by kernel_rfl)) (by kernel_rfl) (by kernel_rfl) (idx_ok h_7 h_8) _) fun a hs => ?_)
    refine Vk.step (Vk.value (some 23) (.int .u64 e_10) hs (by kernel_rfl) (op := (.load 23 (.tmp 22))) (by kernel_rfl) (fun o ho => run_load1 (c := C.int .u64 e_10) ho (by kernel_rfl) (by kernel_rfl) (fun w ho => h_9 w ho 0 _ rfl) _ hs.own.drop) fun a hs => ?_)
    refine Vk.pures 1 [(4, .int .u64 e_10)] hs (by kernel_rfl) fun a hs => ?_
    replace hs := hs.pick [0, 4] (L' := [(0, .pointer (some ⟨b_x0, 0, none⟩)), (4, .int .u64 e_10)]) (by kernel_rfl)
    refine Vk.done (by kernel_rfl) ?_
    refine hK6 _ _ ?_
    clear hK6
    refine Vk.seq fun K14 hK14 => ?_
    refine Vk.region ?_
    refine Vk.pures 4 [(27, .pointer (some ⟨b_x0, 0, none⟩)), (26, .pointer (some ⟨b_x0, 0, none⟩)), (25, .pointer (some ⟨b_x0, 0, none⟩)), (24, .pointer (some ⟨b_x0, 0, none⟩))] hs (by kernel_rfl) fun a hs => ?_
    refine Vk.step (Vk.value (some 28) (.slice A_x0ol x0.l.length c_x0ol) hs (by kernel_rfl) (op := (.load 73 (.tmp 27))) (by kernel_rfl) (fun o ho => run_load1 (b := b_x0) (off := 0) (c := C.slc A_x0ol x0.l.length c_x0ol) ho (by kernel_rfl) (by kernel_rfl) (Cell.own 0 rfl (by kernel_rfl)) _ hs.own) fun a hs => ?_)
    obtain ⟨h_15, hm⟩ := ite_t hm
    obtain ⟨A_16, c_17, eA_18, ec_19, hx_20⟩ := Sl.sub (Own.rdSl 0 hs.own.drop rfl) h_15.2
    refine Vk.step (Vk.value (some 29) (.slice A_16 ((cut x0.l (1) (x0.l.length)).length) c_17) hs (by kernel_rfl) (op := (.slice 73 (.tmp 28) (some (.const (.int .i64 1))) none none)) (by kernel_rfl) (fun o ho => run_sub (sz := 1) (e := 23) h_15.2 eA_18 ec_19 (Sl.le (Own.rdSl 0 hs.own.drop rfl)) ho (by kernel_rfl) (by kernel_rfl) (by kernel_rfl) ⟨.i64, 1, by kernel_rfl, h_15.1, rfl⟩ rfl _) fun a hs => ?_)
    replace hs := hs.cutRd 1 rfl h_15.2 eA_18 ec_19
    refine Vk.pures 2 [(31, .pointer (some ⟨b_x0, 0, none⟩)), (30, .pointer (some ⟨b_x0, 0, none⟩))] hs (by kernel_rfl) fun a hs => ?_
    refine Vk.step (Vk.store1 (b := b_x0) (ty := 73) (x := (.tmp 31)) (y := (.tmp 29)) (off := 0) (C.slc A_16 ((cut x0.l (1) (x0.l.length)).length) c_17) 0 hs (by kernel_rfl) (by kernel_rfl) (by kernel_rfl) (by kernel_rfl) (by kernel_rfl) (by kernel_rfl) rfl (Nat.le_of_ble_eq_true (by kernel_rfl)) fun a w hs => ?_)
    replace hs := hs.pick [0, 4] (L' := [(0, .pointer (some ⟨b_x0, 0, none⟩)), (4, .int .u64 e_10)]) (by kernel_rfl)
    refine Vk.done (by kernel_rfl) ?_
    refine hK14 _ _ ?_
    clear hK14
    refine Vk.seq fun K21 hK21 => ?_
    refine Vk.region ?_
    refine Vk.pures 4 [(35, .pointer (some ⟨b_x0, 2, none⟩)), (34, .pointer (some ⟨b_x0, 0, none⟩)), (33, .pointer (some ⟨b_x0, 0, none⟩)), (32, .pointer (some ⟨b_x0, 0, none⟩))] hs (by kernel_rfl) fun a hs => ?_
    refine Vk.step (Vk.value (some 36) (.int .i64 x0.free) hs (by kernel_rfl) (op := (.load 3 (.tmp 35))) (by kernel_rfl) (fun o ho => run_load1 (b := b_x0) (off := 2) (c := C.int .i64 x0.free) ho (by kernel_rfl) (by kernel_rfl) (Cell.own 0 rfl (by kernel_rfl)) _ hs.own) fun a hs => ?_)
    refine Vk.pures 3 [(39, .pointer (some ⟨b_x0, 2, none⟩)), (38, .pointer (some ⟨b_x0, 0, none⟩)), (37, .int .i64 (IntKind.i64.wrap (x0.free - 1)))] hs (by kernel_rfl) fun a hs => ?_
    refine Vk.step (Vk.store1 (b := b_x0) (ty := 3) (x := (.tmp 39)) (y := (.tmp 37)) (off := 2) (C.int .i64 (IntKind.i64.wrap (x0.free - 1))) 0 hs (by kernel_rfl) (by kernel_rfl) (by kernel_rfl) (by kernel_rfl) (by kernel_rfl) (by kernel_rfl) rfl (Nat.le_of_ble_eq_true (by kernel_rfl)) fun a w hs => ?_)
    replace hs := hs.pick [0, 4] (L' := [(0, .pointer (some ⟨b_x0, 0, none⟩)), (4, .int .u64 e_10)]) (by kernel_rfl)
    refine Vk.done (by kernel_rfl) ?_
    refine hK21 _ _ ?_
    clear hK21
    refine Vk.seq fun K22 hK22 => ?_
    refine Vk.region ?_
    refine Vk.pures 4 [(43, .pointer (some ⟨b_x0, 1, none⟩)), (42, .pointer (some ⟨b_x0, 0, none⟩)), (41, .pointer (some ⟨b_x0, 0, none⟩)), (40, .pointer (some ⟨b_x0, 0, none⟩))] hs (by kernel_rfl) fun a hs => ?_
    refine Vk.step (Vk.value (some 44) (.int .i64 x0.used) hs (by kernel_rfl) (op := (.load 3 (.tmp 43))) (by kernel_rfl) (fun o ho => run_load1 (b := b_x0) (off := 1) (c := C.int .i64 x0.used) ho (by kernel_rfl) (by kernel_rfl) (Cell.own 0 rfl (by kernel_rfl)) _ hs.own) fun a hs => ?_)
    refine Vk.pures 3 [(47, .pointer (some ⟨b_x0, 1, none⟩)), (46, .pointer (some ⟨b_x0, 0, none⟩)), (45, .int .i64 (IntKind.i64.wrap (x0.used + 1)))] hs (by kernel_rfl) fun a hs => ?_
    refine Vk.step (Vk.store1 (b := b_x0) (ty := 3) (x := (.tmp 47)) (y := (.tmp 45)) (off := 1) (C.int .i64 (IntKind.i64.wrap (x0.used + 1))) 0 hs (by kernel_rfl) (by kernel_rfl) (by kernel_rfl) (by kernel_rfl) (by kernel_rfl) (by kernel_rfl) rfl (Nat.le_of_ble_eq_true (by kernel_rfl)) fun a w hs => ?_)
    replace hs := hs.pick [4] (L' := [(4, .int .u64 e_10)]) (by kernel_rfl)
    refine Vk.done (by kernel_rfl) ?_
    refine hK22 _ _ ?_
    clear hK22
    refine Vk.seq fun K23 hK23 => ?_
    refine Vk.region ?_
    refine Vk.pures 3 [(3, .bool true), (2, .int .u64 e_10), (48, .int .u64 e_10)] hs (by kernel_rfl) fun a hs => ?_
    replace hs := hs.pick [2, 3] (L' := [(2, .int .u64 e_10), (3, .bool true)]) (by kernel_rfl)
    refine Vk.done (by kernel_rfl) ?_
    refine hK23 _ _ ?_
    clear hK23
    refine wp_ret ?_
    exact Vk.ret2 (P := Try.prog) (fn := Try.f124) (R := visorref02_T_Draw.R κ S x0 b_x0 A_x0ol c_x0ol r) (.int .u64 e_10) (.bool true) hs rfl (by kernel_rfl) (by kernel_rfl) (by obtain rfl := Option.some.inj hm; exact ⟨A_16, c_17, rfl, (Own.to hs.own [0, 1] 2 (by kernel_rfl) (by kernel_rfl))⟩)


abbrev visorref19_M_At.R (κ : Ctx) (S : List HP) (x0 : Tvisorref19_M) (x1 : Int) (b_x0 : Nat) (A_x0oops : Option Addr) (c_x0oops : Nat) (A_x0oblocks : Option Addr) (c_x0oblocks : Nat) (A_x0oval : Option Addr) (c_x0oval : Nat) (A_x0otapel : Option Addr) (c_x0otapel : Nat) (r : Int) : Ending → World → Prop := fun e w' => e = .returned (.int .u64 r) ∧ Own κ w' (pt b_x0 (blk (Tvisorref19_M.obj x0 A_x0oops c_x0oops A_x0oblocks c_x0oblocks A_x0oval c_x0oval A_x0otapel c_x0otapel) 123) :: rowp A_x0oops c_x0oops 32 6 Tapi_Op.cells x0.ops :: rowp A_x0oblocks c_x0oblocks 144 3 Tapi_Span.cells x0.blocks :: rowp A_x0oval c_x0oval 23 1 (eI .u64) x0.val :: rdp κ A_x0otapel c_x0otapel 1 (eI .u64) x0.tape.l :: S)
def visorref19_M_At.m (k : Nat) (x0 : Tvisorref19_M) (x1 : Int) : Option Int := (bif (decide (x1 < 0)) || (decide (x1 ≥ ((x0.val.length : Nat) : Int))) then some 0 else (if 0 ≤ x1 then (x0.val[x1.toNat]?).bind fun e_10 => some e_10 else none))

set_option maxRecDepth 100000 in
set_option maxHeartbeats 4000000 in
theorem visorref19_M_At.ok (k : Nat) (x0 : Tvisorref19_M) (x1 : Int) (r : Int) (hm : visorref19_M_At.m k x0 x1 = some r) (κ : Ctx) (w : World) (S : List HP) (b_x0 : Nat) (A_x0oops : Option Addr) (c_x0oops : Nat) (A_x0oblocks : Option Addr) (c_x0oblocks : Nat) (A_x0oval : Option Addr) (c_x0oval : Nat) (A_x0otapel : Option Addr) (c_x0otapel : Nat) (ho : Own κ w (pt b_x0 (blk (Tvisorref19_M.obj x0 A_x0oops c_x0oops A_x0oblocks c_x0oblocks A_x0oval c_x0oval A_x0otapel c_x0otapel) 123) :: rowp A_x0oops c_x0oops 32 6 Tapi_Op.cells x0.ops :: rowp A_x0oblocks c_x0oblocks 144 3 Tapi_Span.cells x0.blocks :: rowp A_x0oval c_x0oval 23 1 (eI .u64) x0.val :: rdp κ A_x0otapel c_x0otapel 1 (eI .u64) x0.tape.l :: S)) :
    Calls Try.prog 97 #[.pointer (some ⟨b_x0, 0, none⟩), .int .i64 x1] w (visorref19_M_At.R κ S x0 x1 b_x0 A_x0oops c_x0oops A_x0oblocks c_x0oblocks A_x0oval c_x0oval A_x0otapel c_x0otapel r) := by
  unfold visorref19_M_At.m at hm
  refine Vk.enter [(0, .pointer (some ⟨b_x0, 0, none⟩)), (1, .int .i64 x1)] Try.func97 rfl Try.ntmps97 (by kernel_rfl) (Nat.le_of_ble_eq_true (by kernel_rfl)) ho fun a hs => ?_
  refine Vk.seq fun K1 hK1 => ?_
  refine Vk.region ?_
  refine Vk.pures 1 [(4, .int .u64 0)] hs (by kernel_rfl) fun a hs => ?_
  replace hs := hs.pick [0, 1] (L' := [(0, .pointer (some ⟨b_x0, 0, none⟩)), (1, .int .i64 x1)]) (by kernel_rfl)
  refine Vk.done (by kernel_rfl) ?_
  refine hK1 _ _ ?_
  clear hK1
  refine Vk.seq fun K2 hK2 => ?_
  refine Vk.seq fun K3 hK3 => ?_
  refine Vk.region ?_
  refine Vk.pures 3 [(7, .bool (decide (x1 < 0))), (6, .bool (decide (x1 < 0))), (5, .int .i64 x1)] hs (by kernel_rfl) fun a hs => ?_
  suffices hj_4 : ∀ a, St 23 a w κ [(0, .pointer (some ⟨b_x0, 0, none⟩)), (1, .int .i64 x1), (5, .int .i64 x1), (6, .bool (decide (x1 < 0))), (7, .bool (decide (x1 < 0))), (15, .bool ((decide (x1 < 0)) || (decide (x1 ≥ ((x0.val.length : Nat) : Int)))))] (pt b_x0 (blk (Tvisorref19_M.obj x0 A_x0oops c_x0oops A_x0oblocks c_x0oblocks A_x0oval c_x0oval A_x0otapel c_x0otapel) 123) :: rowp A_x0oops c_x0oops 32 6 Tapi_Op.cells x0.ops :: rowp A_x0oblocks c_x0oblocks 144 3 Tapi_Span.cells x0.blocks :: rowp A_x0oval c_x0oval 23 1 (eI .u64) x0.val :: rdp κ A_x0otapel c_x0otapel 1 (eI .u64) x0.tape.l :: S) → wpFrom Try.prog _ _ 11 a w by
    rcases Bool.eq_false_or_eq_true (decide (x1 < 0)) with hb | hb
    · replace hs := hs.known (t := 7) hb (by kernel_rfl)
      refine Vk.pures 8 [(15, .bool true), (14, undef), (13, undef), (12, undef), (11, undef), (10, undef), (9, undef), (8, undef)] hs (by kernel_rfl) fun a hs => ?_
      have hq := hs.pick [0, 1, 5, 6, 7, 15] (L' := [(0, .pointer (some ⟨b_x0, 0, none⟩)), (1, .int .i64 x1), (5, .int .i64 x1), (6, .bool (decide (x1 < 0))), (7, .bool true), (15, .bool true)]) (by kernel_rfl)
      exact hj_4 _ (hq.conv (by first | (rw [hb] <;> rfl) | rfl))
    · replace hs := hs.known (t := 7) hb (by kernel_rfl)
      refine Vk.pures 4 [(11, .pointer (some ⟨b_x0, 10, none⟩)), (10, .pointer (some ⟨b_x0, 0, none⟩)), (9, .pointer (some ⟨b_x0, 0, none⟩)), (8, .int .i64 x1)] hs (by kernel_rfl) fun a hs => ?_
      refine Vk.step (Vk.value (some 12) (.slice A_x0oval x0.val.length c_x0oval) hs (by kernel_rfl) (op := (.load 73 (.tmp 11))) (by kernel_rfl) (fun o ho => run_load1 (b := b_x0) (off := 10) (c := C.slc A_x0oval x0.val.length c_x0oval) ho (by kernel_rfl) (by kernel_rfl) (Cell.own 0 rfl (by kernel_rfl)) _ hs.own) fun a hs => ?_)
      refine Vk.pures 3 [(15, .bool (decide (x1 ≥ ((x0.val.length : Nat) : Int)))), (14, .bool (decide (x1 ≥ ((x0.val.length : Nat) : Int)))), (13, .int .i64 ((x0.val.length : Nat) : Int))] hs (by kernel_rfl) fun a hs => ?_
      have hq := hs.pick [0, 1, 5, 6, 7, 15] (L' := [(0, .pointer (some ⟨b_x0, 0, none⟩)), (1, .int .i64 x1), (5, .int .i64 x1), (6, .bool (decide (x1 < 0))), (7, .bool false), (15, .bool (decide (x1 ≥ ((x0.val.length : Nat) : Int))))]) (by kernel_rfl)
      exact hj_4 _ (hq.conv (by first | (rw [hb] <;> rfl) | rfl))
  intro a hs
  replace hs := hs.pick [0, 1, 15] (L' := [(0, .pointer (some ⟨b_x0, 0, none⟩)), (1, .int .i64 x1), (15, .bool ((decide (x1 < 0)) || (decide (x1 ≥ ((x0.val.length : Nat) : Int)))))]) (by kernel_rfl)
  refine Vk.done (by kernel_rfl) ?_
  refine hK3 _ _ ?_
  clear hK3
  refine Vk.condS (b := (decide (x1 < 0)) || (decide (x1 ≥ ((x0.val.length : Nat) : Int)))) hs (by kernel_rfl) (by kernel_rfl) (fun hb => ?_) (fun hb => ?_)
  · replace hm := bif_t hm hb
    refine Vk.seq fun K5 hK5 => ?_
    refine Vk.region ?_
    refine Vk.pures 1 [(4, .int .u64 0)] hs (by kernel_rfl) fun a hs => ?_
    replace hs := hs.pick [4] (L' := [(4, .int .u64 0)]) (by kernel_rfl)
    refine Vk.done (by kernel_rfl) ?_
    refine hK5 _ _ ?_
    clear hK5
    refine wp_ret ?_
    exact Vk.ret1 (P := Try.prog) (fn := Try.f97) (R := visorref19_M_At.R κ S x0 x1 b_x0 A_x0oops c_x0oops A_x0oblocks c_x0oblocks A_x0oval c_x0oval A_x0otapel c_x0otapel r) (.int .u64 0) hs rfl (by kernel_rfl) (by obtain rfl := Option.some.inj hm; exact ⟨rfl, (Own.to hs.own [0, 1, 2, 3, 4] 5 (by kernel_rfl) (by kernel_rfl))⟩)
  · replace hm := bif_f hm hb
    refine wp_skip ?_
    refine hK2 _ _ ?_
    clear hK2
    refine Vk.seq fun K6 hK6 => ?_
    refine Vk.region ?_
    refine Vk.pures 3 [(18, .pointer (some ⟨b_x0, 10, none⟩)), (17, .pointer (some ⟨b_x0, 0, none⟩)), (16, .pointer (some ⟨b_x0, 0, none⟩))] hs (by kernel_rfl) fun a hs => ?_
    refine Vk.step (Vk.value (some 19) (.slice A_x0oval x0.val.length c_x0oval) hs (by kernel_rfl) (op := (.load 73 (.tmp 18))) (by kernel_rfl) (fun o ho => run_load1 (b := b_x0) (off := 10) (c := C.slc A_x0oval x0.val.length c_x0oval) ho (by kernel_rfl) (by kernel_rfl) (Cell.own 0 rfl (by kernel_rfl)) _ hs.own) fun a hs => ?_)
    refine Vk.pures 1 [(20, .int .i64 x1)] hs (by kernel_rfl) fun a hs => ?_
    obtain ⟨h_7, hm⟩ := ite_t hm
    obtain ⟨e_10, h_8, hm⟩ := bind_t hm
    obtain ⟨b_11, o_12, hA_13, h_9⟩ := Sl.elem (Own.rowSl 0 (Own.to (S' := rowp A_x0oval c_x0oval 23 1 (eI .u64) x0.val :: S) hs.own [3] 5 (by kernel_rfl) (by kernel_rfl)) rfl) h_8
    refine Vk.step (Vk.value (some 21) (.pointer (some ⟨b_11, o_12 + x1.toNat * 1, none⟩)) hs (by kernel_rfl) (op := (.indexAddr 73 (.tmp 19) (.tmp 20))) (by kernel_rfl) (fun o ho => run_idxSlc (k := .i64) ho (cap := c_x0oval) (len := x0.val.length) ((congrArg (fun A => Value.slice A (x0.val.length) (c_x0oval)) hA_13) ▸ (by kernel_rfl)) (by kernel_rfl) (by kernel_rfl) (idx_ok h_7 h_8) _) fun a hs => ?_)
    refine Vk.step (Vk.value (some 22) (.int .u64 e_10) hs (by kernel_rfl) (op := (.load 23 (.tmp 21))) (by kernel_rfl) (fun o ho => run_load1 (c := C.int .u64 e_10) ho (by kernel_rfl) (by kernel_rfl) (fun w ho => h_9 w ho 0 _ rfl) _ (Own.to (S' := rowp A_x0oval c_x0oval 23 1 (eI .u64) x0.val :: S) hs.own [3] 5 (by kernel_rfl) (by kernel_rfl))) fun a hs => ?_)
    refine Vk.pures 1 [(4, .int .u64 e_10)] hs (by kernel_rfl) fun a hs => ?_
    replace hs := hs.pick [4] (L' := [(4, .int .u64 e_10)]) (by kernel_rfl)
    refine Vk.done (by kernel_rfl) ?_
    refine hK6 _ _ ?_
    clear hK6
    refine wp_ret ?_
    exact Vk.ret1 (P := Try.prog) (fn := Try.f97) (R := visorref19_M_At.R κ S x0 x1 b_x0 A_x0oops c_x0oops A_x0oblocks c_x0oblocks A_x0oval c_x0oval A_x0otapel c_x0otapel r) (.int .u64 e_10) hs rfl (by kernel_rfl) (by obtain rfl := Option.some.inj hm; exact ⟨rfl, (Own.to hs.own [0, 1, 2, 3, 4] 5 (by kernel_rfl) (by kernel_rfl))⟩)


def visorref01_Low.l1 (x0 : Int) : Nat → Int → Int → Option (Int)
  | 0, _, _ => none
  | k + 1, q_6, q_7 => (bif (decide (q_7 < x0)) && (decide (q_7 < 64)) then visorref01_Low.l1 x0 k (IntKind.u64.wrap ((IntKind.u64.wrap (q_6 * 2)) + 1)) (IntKind.i64.wrap (q_7 + 1)) else some q_6)
abbrev visorref01_Low.R (κ : Ctx) (S : List HP) (x0 : Int) (r : Int) : Ending → World → Prop := fun e w' => e = .returned (.int .u64 r) ∧ Own κ w' (S)
def visorref01_Low.m (k : Nat) (x0 : Int) : Option Int := (visorref01_Low.l1 x0 k 0 0).bind fun p_12 => some p_12

set_option maxRecDepth 100000 in
set_option maxHeartbeats 4000000 in
theorem visorref01_Low.ok (k : Nat) (x0 : Int) (r : Int) (hm : visorref01_Low.m k x0 = some r) (κ : Ctx) (w : World) (S : List HP) (ho : Own κ w (S)) :
    Calls Try.prog 74 #[.int .i64 x0] w (visorref01_Low.R κ S x0 r) := by
  unfold visorref01_Low.m at hm
  refine Vk.enter [(0, .int .i64 x0)] Try.func74 rfl Try.ntmps74 (by kernel_rfl) (Nat.le_of_ble_eq_true (by kernel_rfl)) ho fun a hs => ?_
  refine Vk.seq fun K1 hK1 => ?_
  refine Vk.region ?_
  refine Vk.pures 1 [(2, .int .u64 0)] hs (by kernel_rfl) fun a hs => ?_
  replace hs := hs.pick [0] (L' := [(0, .int .i64 x0)]) (by kernel_rfl)
  refine Vk.done (by kernel_rfl) ?_
  refine hK1 _ _ ?_
  clear hK1
  refine Vk.seq fun K2 hK2 => ?_
  refine Vk.region ?_
  refine Vk.pures 1 [(3, .int .u64 0)] hs (by kernel_rfl) fun a hs => ?_
  replace hs := hs.pick [0, 3] (L' := [(0, .int .i64 x0), (3, .int .u64 0)]) (by kernel_rfl)
  refine Vk.done (by kernel_rfl) ?_
  refine hK2 _ _ ?_
  clear hK2
  refine Vk.seq fun K3 hK3 => ?_
  refine Vk.seq fun K4 hK4 => ?_
  refine Vk.region ?_
  refine Vk.pures 1 [(4, .int .i64 0)] hs (by kernel_rfl) fun a hs => ?_
  replace hs := hs.pick [0, 3, 4] (L' := [(0, .int .i64 x0), (3, .int .u64 0), (4, .int .i64 0)]) (by kernel_rfl)
  refine Vk.done (by kernel_rfl) ?_
  refine hK4 _ _ ?_
  clear hK4
  refine wp_block ?_
  obtain ⟨r5, hl5, hm⟩ := bind_t hm
  have hx5 : ∀ (p_12 : Int), r5 = p_12 → ∀ (a : Act) (w : World), St 18 a w κ [(3, .int .u64 p_12)] (S) → K3 a w := by
    intro p_12 he a w hs
    subst r5
    refine hK3 _ _ ?_
    clear hK3
    refine Vk.seq fun K15 hK15 => ?_
    refine Vk.region ?_
    refine Vk.pures 2 [(2, .int .u64 p_12), (17, .int .u64 p_12)] hs (by kernel_rfl) fun a hs => ?_
    replace hs := hs.pick [2] (L' := [(2, .int .u64 p_12)]) (by kernel_rfl)
    refine Vk.done (by kernel_rfl) ?_
    refine hK15 _ _ ?_
    clear hK15
    refine wp_ret ?_
    exact Vk.ret1 (P := Try.prog) (fn := Try.f74) (R := visorref01_Low.R κ S x0 r) (.int .u64 p_12) hs rfl (by kernel_rfl) (by obtain rfl := Option.some.inj hm; exact ⟨rfl, (Own.to hs.own [] 0 (by kernel_rfl) (by kernel_rfl))⟩)
  refine Vk.loopBy (fun k (s : Int × Int) a w => visorref01_Low.l1 x0 k s.1 s.2 = some r5 ∧ St 18 a w κ [(0, .int .i64 x0), (3, .int .u64 s.1), (4, .int .i64 s.2)] (S)) k (0, 0) ⟨hl5, hs.go [0, 3, 4] [] 0 (by kernel_rfl) (by kernel_rfl) (by kernel_rfl)⟩ (fun s a w h => by obtain ⟨h1, _⟩ := h; simp [visorref01_Low.l1] at h1) (fun k KL5 ih s a w h => ?_)
  obtain ⟨q_6, q_7⟩ := s
  obtain ⟨hm, hs⟩ := h
  try dsimp only at hm hs
  rw [visorref01_Low.l1] at hm
  refine Vk.seq fun K8 hK8 => ?_
  refine Vk.seq fun K9 hK9 => ?_
  refine Vk.region ?_
  refine Vk.pures 4 [(8, .bool (decide (q_7 < x0))), (7, .bool (decide (q_7 < x0))), (6, .int .i64 x0), (5, .int .i64 q_7)] hs (by kernel_rfl) fun a hs => ?_
  suffices hj_10 : ∀ a, St 18 a w κ [(0, .int .i64 x0), (3, .int .u64 q_6), (4, .int .i64 q_7), (5, .int .i64 q_7), (6, .int .i64 x0), (7, .bool (decide (q_7 < x0))), (8, .bool (decide (q_7 < x0))), (11, .bool ((decide (q_7 < x0)) && (decide (q_7 < 64))))] (S) → wpFrom Try.prog _ _ 7 a w by
    rcases Bool.eq_false_or_eq_true (decide (q_7 < x0)) with hb | hb
    · replace hs := hs.known (t := 8) hb (by kernel_rfl)
      refine Vk.pures 3 [(11, .bool (decide (q_7 < 64))), (10, .bool (decide (q_7 < 64))), (9, .int .i64 q_7)] hs (by kernel_rfl) fun a hs => ?_
      have hq := hs.pick [0, 3, 4, 5, 6, 7, 8, 11] (L' := [(0, .int .i64 x0), (3, .int .u64 q_6), (4, .int .i64 q_7), (5, .int .i64 q_7), (6, .int .i64 x0), (7, .bool (decide (q_7 < x0))), (8, .bool true), (11, .bool (decide (q_7 < 64)))]) (by kernel_rfl)
      exact hj_10 _ (hq.conv (by first | (rw [hb] <;> rfl) | rfl))
    · replace hs := hs.known (t := 8) hb (by kernel_rfl)
      refine Vk.pures 3 [(11, .bool false), (10, undef), (9, undef)] hs (by kernel_rfl) fun a hs => ?_
      have hq := hs.pick [0, 3, 4, 5, 6, 7, 8, 11] (L' := [(0, .int .i64 x0), (3, .int .u64 q_6), (4, .int .i64 q_7), (5, .int .i64 q_7), (6, .int .i64 x0), (7, .bool (decide (q_7 < x0))), (8, .bool false), (11, .bool false)]) (by kernel_rfl)
      exact hj_10 _ (hq.conv (by first | (rw [hb] <;> rfl) | rfl))
  intro a hs
  replace hs := hs.pick [0, 3, 4, 11] (L' := [(0, .int .i64 x0), (3, .int .u64 q_6), (4, .int .i64 q_7), (11, .bool ((decide (q_7 < x0)) && (decide (q_7 < 64))))]) (by kernel_rfl)
  refine Vk.done (by kernel_rfl) ?_
  refine hK9 _ _ ?_
  clear hK9
  refine Vk.condS (b := (decide (q_7 < x0)) && (decide (q_7 < 64))) hs (by kernel_rfl) (by kernel_rfl) (fun hb => ?_) (fun hb => ?_)
  · replace hm := bif_t hm hb
    refine wp_skip ?_
    refine hK8 _ _ ?_
    clear hK8
    refine Vk.seq fun K11 hK11 => ?_
    refine wp_block ?_
    refine Vk.region ?_
    refine Vk.pures 4 [(3, .int .u64 (IntKind.u64.wrap ((IntKind.u64.wrap (q_6 * 2)) + 1))), (16, .int .u64 (IntKind.u64.wrap ((IntKind.u64.wrap (q_6 * 2)) + 1))), (15, .int .u64 (IntKind.u64.wrap (q_6 * 2))), (14, .int .u64 q_6)] hs (by kernel_rfl) fun a hs => ?_
    replace hs := hs.pick [0, 3, 4] (L' := [(0, .int .i64 x0), (3, .int .u64 (IntKind.u64.wrap ((IntKind.u64.wrap (q_6 * 2)) + 1))), (4, .int .i64 q_7)]) (by kernel_rfl)
    refine Vk.done (by kernel_rfl) ?_
    refine hK11 _ _ ?_
    clear hK11
    refine Vk.region ?_
    refine Vk.pures 3 [(4, .int .i64 (IntKind.i64.wrap (q_7 + 1))), (13, .int .i64 (IntKind.i64.wrap (q_7 + 1))), (12, .int .i64 q_7)] hs (by kernel_rfl) fun a hs => ?_
    replace hs := hs.pick [0, 3, 4] (L' := [(0, .int .i64 x0), (3, .int .u64 (IntKind.u64.wrap ((IntKind.u64.wrap (q_6 * 2)) + 1))), (4, .int .i64 (IntKind.i64.wrap (q_7 + 1)))]) (by kernel_rfl)
    refine Vk.done (by kernel_rfl) ?_
    refine ih ((IntKind.u64.wrap ((IntKind.u64.wrap (q_6 * 2)) + 1)), (IntKind.i64.wrap (q_7 + 1))) _ _ ⟨hm, hs.go [0, 3, 4] [] 0 (by kernel_rfl) (by kernel_rfl) (by kernel_rfl)⟩
  · replace hm := bif_f hm hb
    refine wp_exit ?_
    exact hx5 q_6 (Option.some.inj hm).symm _ _ (hs.go [3] [] 0 (by kernel_rfl) (by kernel_rfl) (by kernel_rfl))


abbrev visorref01_Mod.R (κ : Ctx) (S : List HP) (x0 : Int) (x1 : Int) (r : Int) : Ending → World → Prop := fun e w' => e = .returned (.int .i64 r) ∧ Own κ w' (S)
def visorref01_Mod.m (k : Nat) (x0 : Int) (x1 : Int) : Option Int := (if x1 ≠ 0 then (bif decide ((Int.tmod x0 x1) < 0) then (if x1 ≠ 0 then some (IntKind.i64.wrap ((Int.tmod x0 x1) + x1)) else none) else (if x1 ≠ 0 then some (Int.tmod x0 x1) else none)) else none)

set_option maxRecDepth 100000 in
set_option maxHeartbeats 4000000 in
theorem visorref01_Mod.ok (k : Nat) (x0 : Int) (x1 : Int) (r : Int) (hm : visorref01_Mod.m k x0 x1 = some r) (κ : Ctx) (w : World) (S : List HP) (ho : Own κ w (S)) :
    Calls Try.prog 111 #[.int .i64 x0, .int .i64 x1] w (visorref01_Mod.R κ S x0 x1 r) := by
  unfold visorref01_Mod.m at hm
  refine Vk.enter [(0, .int .i64 x0), (1, .int .i64 x1)] Try.func111 rfl Try.ntmps111 (by kernel_rfl) (Nat.le_of_ble_eq_true (by kernel_rfl)) ho fun a hs => ?_
  refine Vk.seq fun K1 hK1 => ?_
  refine Vk.region ?_
  refine Vk.pures 1 [(4, .int .i64 0)] hs (by kernel_rfl) fun a hs => ?_
  replace hs := hs.pick [0, 1] (L' := [(0, .int .i64 x0), (1, .int .i64 x1)]) (by kernel_rfl)
  refine Vk.done (by kernel_rfl) ?_
  refine hK1 _ _ ?_
  clear hK1
  refine Vk.seq fun K2 hK2 => ?_
  refine Vk.seq fun K3 hK3 => ?_
  refine Vk.region ?_
  refine Vk.pures 2 [(6, .int .i64 x1), (5, .int .i64 x0)] hs (by kernel_rfl) fun a hs => ?_
  obtain ⟨h_4, hm⟩ := ite_t hm
  refine Vk.step (Vk.value (some 7) (.int .i64 (Int.tmod x0 x1)) hs (by kernel_rfl) (op := (.binOp .rem 3 (.tmp 5) (.tmp 6) 3)) (by kernel_rfl) (fun o ho => run_rem ho (by kernel_rfl) (by kernel_rfl) h_4 _) fun a hs => ?_)
  refine Vk.pures 1 [(8, .bool (decide ((Int.tmod x0 x1) < 0)))] hs (by kernel_rfl) fun a hs => ?_
  replace hs := hs.pick [0, 1, 8] (L' := [(0, .int .i64 x0), (1, .int .i64 x1), (8, .bool (decide ((Int.tmod x0 x1) < 0)))]) (by kernel_rfl)
  refine Vk.done (by kernel_rfl) ?_
  refine hK3 _ _ ?_
  clear hK3
  refine Vk.condS (b := decide ((Int.tmod x0 x1) < 0)) hs (by kernel_rfl) (by kernel_rfl) (fun hb => ?_) (fun hb => ?_)
  · replace hm := bif_t hm hb
    refine Vk.seq fun K5 hK5 => ?_
    refine Vk.region ?_
    refine Vk.pures 2 [(10, .int .i64 x1), (9, .int .i64 x0)] hs (by kernel_rfl) fun a hs => ?_
    obtain ⟨h_6, hm⟩ := ite_t hm
    refine Vk.step (Vk.value (some 11) (.int .i64 (Int.tmod x0 x1)) hs (by kernel_rfl) (op := (.binOp .rem 3 (.tmp 9) (.tmp 10) 3)) (by kernel_rfl) (fun o ho => run_rem ho (by kernel_rfl) (by kernel_rfl) h_6 _) fun a hs => ?_)
    refine Vk.pures 3 [(4, .int .i64 (IntKind.i64.wrap ((Int.tmod x0 x1) + x1))), (13, .int .i64 (IntKind.i64.wrap ((Int.tmod x0 x1) + x1))), (12, .int .i64 x1)] hs (by kernel_rfl) fun a hs => ?_
    replace hs := hs.pick [4] (L' := [(4, .int .i64 (IntKind.i64.wrap ((Int.tmod x0 x1) + x1)))]) (by kernel_rfl)
    refine Vk.done (by kernel_rfl) ?_
    refine hK5 _ _ ?_
    clear hK5
    refine wp_ret ?_
    exact Vk.ret1 (P := Try.prog) (fn := Try.f111) (R := visorref01_Mod.R κ S x0 x1 r) (.int .i64 (IntKind.i64.wrap ((Int.tmod x0 x1) + x1))) hs rfl (by kernel_rfl) (by obtain rfl := Option.some.inj hm; exact ⟨rfl, (Own.to hs.own [] 0 (by kernel_rfl) (by kernel_rfl))⟩)
  · replace hm := bif_f hm hb
    refine wp_skip ?_
    refine hK2 _ _ ?_
    clear hK2
    refine Vk.seq fun K7 hK7 => ?_
    refine Vk.region ?_
    refine Vk.pures 2 [(15, .int .i64 x1), (14, .int .i64 x0)] hs (by kernel_rfl) fun a hs => ?_
    obtain ⟨h_8, hm⟩ := ite_t hm
    refine Vk.step (Vk.value (some 16) (.int .i64 (Int.tmod x0 x1)) hs (by kernel_rfl) (op := (.binOp .rem 3 (.tmp 14) (.tmp 15) 3)) (by kernel_rfl) (fun o ho => run_rem ho (by kernel_rfl) (by kernel_rfl) h_8 _) fun a hs => ?_)
    refine Vk.pures 1 [(4, .int .i64 (Int.tmod x0 x1))] hs (by kernel_rfl) fun a hs => ?_
    replace hs := hs.pick [4] (L' := [(4, .int .i64 (Int.tmod x0 x1))]) (by kernel_rfl)
    refine Vk.done (by kernel_rfl) ?_
    refine hK7 _ _ ?_
    clear hK7
    refine wp_ret ?_
    exact Vk.ret1 (P := Try.prog) (fn := Try.f111) (R := visorref01_Mod.R κ S x0 x1 r) (.int .i64 (Int.tmod x0 x1)) hs rfl (by kernel_rfl) (by obtain rfl := Option.some.inj hm; exact ⟨rfl, (Own.to hs.own [] 0 (by kernel_rfl) (by kernel_rfl))⟩)


def visorref01_Rot.l1 (x1 : Int) : Nat → Int → Int → Option (Int)
  | 0, _, _ => none
  | k + 1, q_5, q_6 => (visorref01_Mod.m k x1 64).bind fun v_11 => (bif decide (q_6 < v_11) then visorref01_Rot.l1 x1 k (IntKind.u64.wrap ((IntKind.u64.wrap (q_5 * 2)) + (IntKind.u64.wrap (Int.tdiv q_5 9223372036854775808)))) (IntKind.i64.wrap (q_6 + 1)) else some q_5)
abbrev visorref01_Rot.R (κ : Ctx) (S : List HP) (x0 : Int) (x1 : Int) (r : Int) : Ending → World → Prop := fun e w' => e = .returned (.int .u64 r) ∧ Own κ w' (S)
def visorref01_Rot.m (k : Nat) (x0 : Int) (x1 : Int) : Option Int := (visorref01_Rot.l1 x1 k x0 0).bind fun p_13 => some p_13

set_option maxRecDepth 100000 in
set_option maxHeartbeats 4000000 in
theorem visorref01_Rot.ok (k : Nat) (x0 : Int) (x1 : Int) (r : Int) (hm : visorref01_Rot.m k x0 x1 = some r) (κ : Ctx) (w : World) (S : List HP) (ho : Own κ w (S)) :
    Calls Try.prog 73 #[.int .u64 x0, .int .i64 x1] w (visorref01_Rot.R κ S x0 x1 r) := by
  unfold visorref01_Rot.m at hm
  refine Vk.enter [(0, .int .u64 x0), (1, .int .i64 x1)] Try.func73 rfl Try.ntmps73 (by kernel_rfl) (Nat.le_of_ble_eq_true (by kernel_rfl)) ho fun a hs => ?_
  refine Vk.seq fun K1 hK1 => ?_
  refine Vk.region ?_
  refine Vk.pures 1 [(4, .int .u64 0)] hs (by kernel_rfl) fun a hs => ?_
  replace hs := hs.pick [0, 1] (L' := [(0, .int .u64 x0), (1, .int .i64 x1)]) (by kernel_rfl)
  refine Vk.done (by kernel_rfl) ?_
  refine hK1 _ _ ?_
  clear hK1
  refine Vk.seq fun K2 hK2 => ?_
  refine Vk.seq fun K3 hK3 => ?_
  refine Vk.region ?_
  refine Vk.pures 1 [(5, .int .i64 0)] hs (by kernel_rfl) fun a hs => ?_
  replace hs := hs.pick [0, 1, 5] (L' := [(0, .int .u64 x0), (1, .int .i64 x1), (5, .int .i64 0)]) (by kernel_rfl)
  refine Vk.done (by kernel_rfl) ?_
  refine hK3 _ _ ?_
  clear hK3
  refine wp_block ?_
  obtain ⟨r4, hl4, hm⟩ := bind_t hm
  have hx4 : ∀ (p_13 : Int), r4 = p_13 → ∀ (a : Act) (w : World), St 18 a w κ [(0, .int .u64 p_13)] (S) → K2 a w := by
    intro p_13 he a w hs
    subst r4
    refine hK2 _ _ ?_
    clear hK2
    refine Vk.seq fun K16 hK16 => ?_
    refine Vk.region ?_
    refine Vk.pures 2 [(4, .int .u64 p_13), (17, .int .u64 p_13)] hs (by kernel_rfl) fun a hs => ?_
    replace hs := hs.pick [4] (L' := [(4, .int .u64 p_13)]) (by kernel_rfl)
    refine Vk.done (by kernel_rfl) ?_
    refine hK16 _ _ ?_
    clear hK16
    refine wp_ret ?_
    exact Vk.ret1 (P := Try.prog) (fn := Try.f73) (R := visorref01_Rot.R κ S x0 x1 r) (.int .u64 p_13) hs rfl (by kernel_rfl) (by obtain rfl := Option.some.inj hm; exact ⟨rfl, (Own.to hs.own [] 0 (by kernel_rfl) (by kernel_rfl))⟩)
  refine Vk.loopBy (fun k (s : Int × Int) a w => visorref01_Rot.l1 x1 k s.1 s.2 = some r4 ∧ St 18 a w κ [(0, .int .u64 s.1), (1, .int .i64 x1), (5, .int .i64 s.2)] (S)) k (x0, 0) ⟨hl4, hs.go [0, 1, 5] [] 0 (by kernel_rfl) (by kernel_rfl) (by kernel_rfl)⟩ (fun s a w h => by obtain ⟨h1, _⟩ := h; simp [visorref01_Rot.l1] at h1) (fun k KL4 ih s a w h => ?_)
  obtain ⟨q_5, q_6⟩ := s
  obtain ⟨hm, hs⟩ := h
  try dsimp only at hm hs
  rw [visorref01_Rot.l1] at hm
  refine Vk.seq fun K7 hK7 => ?_
  refine Vk.seq fun K8 hK8 => ?_
  refine Vk.region ?_
  refine Vk.pures 2 [(7, .int .i64 x1), (6, .int .i64 q_6)] hs (by kernel_rfl) fun a hs => ?_
  obtain ⟨v_11, h_10, hm⟩ := bind_t hm
  refine Vk.step (Vk.call (some 8) 111 #[.int .i64 x1, .int .i64 64] hs (by kernel_rfl) (by kernel_rfl) (by kernel_rfl) ?_)
  refine (visorref01_Mod.ok k x1 64 v_11 h_10 κ w (S) hs.own).mono ?_
  rintro _ w ⟨rfl, how⟩
  refine ⟨_, _, _, rfl, how, fun a hs => ?_⟩
  refine Vk.pures 1 [(9, .bool (decide (q_6 < v_11)))] hs (by kernel_rfl) fun a hs => ?_
  replace hs := hs.pick [0, 1, 5, 9] (L' := [(0, .int .u64 q_5), (1, .int .i64 x1), (5, .int .i64 q_6), (9, .bool (decide (q_6 < v_11)))]) (by kernel_rfl)
  refine Vk.done (by kernel_rfl) ?_
  refine hK8 _ _ ?_
  clear hK8
  refine Vk.condS (b := decide (q_6 < v_11)) hs (by kernel_rfl) (by kernel_rfl) (fun hb => ?_) (fun hb => ?_)
  · replace hm := bif_t hm hb
    refine wp_skip ?_
    refine hK7 _ _ ?_
    clear hK7
    refine Vk.seq fun K12 hK12 => ?_
    refine wp_block ?_
    refine Vk.region ?_
    refine Vk.pures 6 [(0, .int .u64 (IntKind.u64.wrap ((IntKind.u64.wrap (q_5 * 2)) + (IntKind.u64.wrap (Int.tdiv q_5 9223372036854775808))))), (16, .int .u64 (IntKind.u64.wrap ((IntKind.u64.wrap (q_5 * 2)) + (IntKind.u64.wrap (Int.tdiv q_5 9223372036854775808))))), (15, .int .u64 (IntKind.u64.wrap (Int.tdiv q_5 9223372036854775808))), (14, .int .u64 q_5), (13, .int .u64 (IntKind.u64.wrap (q_5 * 2))), (12, .int .u64 q_5)] hs (by kernel_rfl) fun a hs => ?_
    replace hs := hs.pick [0, 1, 5] (L' := [(0, .int .u64 (IntKind.u64.wrap ((IntKind.u64.wrap (q_5 * 2)) + (IntKind.u64.wrap (Int.tdiv q_5 9223372036854775808))))), (1, .int .i64 x1), (5, .int .i64 q_6)]) (by kernel_rfl)
    refine Vk.done (by kernel_rfl) ?_
    refine hK12 _ _ ?_
    clear hK12
    refine Vk.region ?_
    refine Vk.pures 3 [(5, .int .i64 (IntKind.i64.wrap (q_6 + 1))), (11, .int .i64 (IntKind.i64.wrap (q_6 + 1))), (10, .int .i64 q_6)] hs (by kernel_rfl) fun a hs => ?_
    replace hs := hs.pick [0, 1, 5] (L' := [(0, .int .u64 (IntKind.u64.wrap ((IntKind.u64.wrap (q_5 * 2)) + (IntKind.u64.wrap (Int.tdiv q_5 9223372036854775808))))), (1, .int .i64 x1), (5, .int .i64 (IntKind.i64.wrap (q_6 + 1)))]) (by kernel_rfl)
    refine Vk.done (by kernel_rfl) ?_
    refine ih ((IntKind.u64.wrap ((IntKind.u64.wrap (q_5 * 2)) + (IntKind.u64.wrap (Int.tdiv q_5 9223372036854775808)))), (IntKind.i64.wrap (q_6 + 1))) _ _ ⟨hm, hs.go [0, 1, 5] [] 0 (by kernel_rfl) (by kernel_rfl) (by kernel_rfl)⟩
  · replace hm := bif_f hm hb
    refine wp_exit ?_
    exact hx4 q_5 (Option.some.inj hm).symm _ _ (hs.go [0] [] 0 (by kernel_rfl) (by kernel_rfl) (by kernel_rfl))


def visorref17_Eval.j1 (k : Nat) (x0 : Tapi_Op) (x1 : Int) (x2 : Int) (x3 : Int) (p_12 : Bool) : Option (Int) := (bif p_12 then some x0.c else (bif x0.kind == 5 then some (bxor .u64 x1 x2) else (bif x0.kind == 6 then some (IntKind.u64.wrap (18446744073709551615 - x1)) else (bif x0.kind == 7 then some (band .u64 x1 x2) else (bif x0.kind == 8 then some (band .u64 x1 x0.c) else (bif x0.kind == 9 then (visorref01_Low.m k (IntKind.i64.wrap (64 - (IntKind.i64.wrap (Int.tmod x0.c 64))))).bind fun v_26 => (visorref01_Rot.m k (band .u64 x1 v_26) (IntKind.i64.wrap (Int.tmod x0.c 64))).bind fun v_29 => some v_29 else (bif x0.kind == 10 then (visorref01_Rot.m k x1 (IntKind.i64.wrap (64 - (IntKind.i64.wrap (Int.tmod x0.c 64))))).bind fun v_34 => (visorref01_Low.m k (IntKind.i64.wrap (64 - (IntKind.i64.wrap (Int.tmod x0.c 64))))).bind fun v_37 => some (band .u64 v_34 v_37) else (bif x0.kind == 11 then (visorref01_Rot.m k x1 (IntKind.i64.wrap (Int.tmod x0.c 64))).bind fun v_42 => some v_42 else (bif x0.kind == 12 then some (bxor .u64 (bxor .u64 x1 x2) x3) else some 0)))))))))
abbrev visorref17_Eval.R (κ : Ctx) (S : List HP) (x0 : Tapi_Op) (x1 : Int) (x2 : Int) (x3 : Int) (x4 : Int) (r : Int) : Ending → World → Prop := fun e w' => e = .returned (.int .u64 r) ∧ Own κ w' (S)
def visorref17_Eval.m (k : Nat) (x0 : Tapi_Op) (x1 : Int) (x2 : Int) (x3 : Int) (x4 : Int) : Option Int := (bif x0.kind == 1 then some x4 else (bif x0.kind == 2 then some (bxor .u64 (bxor .u64 x4 x1) x2) else (bif x0.kind == 3 then visorref17_Eval.j1 k x0 x1 x2 x3 (x0.kind == 3) else visorref17_Eval.j1 k x0 x1 x2 x3 (x0.kind == 4))))

set_option maxRecDepth 100000 in
set_option maxHeartbeats 4000000 in
theorem visorref17_Eval.ok (k : Nat) (x0 : Tapi_Op) (x1 : Int) (x2 : Int) (x3 : Int) (x4 : Int) (r : Int) (hm : visorref17_Eval.m k x0 x1 x2 x3 x4 = some r) (κ : Ctx) (w : World) (S : List HP) (ho : Own κ w (S)) :
    Calls Try.prog 22 #[.agg (vals [C.int .i64 x0.kind, C.int .i64 x0.dom, C.int .i64 x0.a, C.int .i64 x0.b, C.int .i64 x0.d, C.int .u64 x0.c]), .int .u64 x1, .int .u64 x2, .int .u64 x3, .int .u64 x4] w (visorref17_Eval.R κ S x0 x1 x2 x3 x4 r) := by
  unfold visorref17_Eval.m at hm
  refine Vk.enter [(0, .agg (vals [C.int .i64 x0.kind, C.int .i64 x0.dom, C.int .i64 x0.a, C.int .i64 x0.b, C.int .i64 x0.d, C.int .u64 x0.c])), (1, .int .u64 x1), (2, .int .u64 x2), (3, .int .u64 x3), (4, .int .u64 x4)] Try.func22 rfl Try.ntmps22 (by kernel_rfl) (Nat.le_of_ble_eq_true (by kernel_rfl)) ho fun a hs => ?_
  refine Vk.seq fun K1 hK1 => ?_
  refine Vk.region ?_
  refine Vk.step (Vk.box (x := (.tmp 0)) 5 32 [C.int .i64 x0.kind, C.int .i64 x0.dom, C.int .i64 x0.a, C.int .i64 x0.b, C.int .i64 x0.d, C.int .u64 x0.c] hs (by kernel_rfl) (by kernel_rfl) (by kernel_rfl) fun b_2 w a hs => ?_)
  refine Vk.pures 1 [(10, .int .u64 0)] hs (by kernel_rfl) fun a hs => ?_
  replace hs := hs.pick [1, 2, 3, 4, 5] (L' := [(1, .int .u64 x1), (2, .int .u64 x2), (3, .int .u64 x3), (4, .int .u64 x4), (5, .pointer (some ⟨b_2, 0, none⟩))]) (by kernel_rfl)
  refine Vk.done (by kernel_rfl) ?_
  refine hK1 _ _ ?_
  clear hK1
  refine Vk.seq fun K3 hK3 => ?_
  refine Vk.region ?_
  refine Vk.pures 1 [(12, .pointer (some ⟨b_2, 5, none⟩))] hs (by kernel_rfl) fun a hs => ?_
  refine Vk.step (Vk.value (some 13) (.int .u64 x0.c) hs (by kernel_rfl) (op := (.load 23 (.tmp 12))) (by kernel_rfl) (fun o ho => run_load1 (b := b_2) (off := 5) (c := C.int .u64 x0.c) ho (by kernel_rfl) (by kernel_rfl) (Cell.own 0 rfl (by kernel_rfl)) _ hs.own) fun a hs => ?_)
  refine Vk.pures 3 [(11, .int .i64 (IntKind.i64.wrap (Int.tmod x0.c 64))), (15, .int .i64 (IntKind.i64.wrap (Int.tmod x0.c 64))), (14, .int .u64 (Int.tmod x0.c 64))] hs (by kernel_rfl) fun a hs => ?_
  replace hs := hs.pick [1, 2, 3, 4, 5, 11] (L' := [(1, .int .u64 x1), (2, .int .u64 x2), (3, .int .u64 x3), (4, .int .u64 x4), (5, .pointer (some ⟨b_2, 0, none⟩)), (11, .int .i64 (IntKind.i64.wrap (Int.tmod x0.c 64)))]) (by kernel_rfl)
  refine Vk.done (by kernel_rfl) ?_
  refine hK3 _ _ ?_
  clear hK3
  refine Vk.seq fun K4 hK4 => ?_
  refine Vk.seq fun K5 hK5 => ?_
  refine Vk.region ?_
  refine Vk.pures 1 [(16, .pointer (some ⟨b_2, 0, none⟩))] hs (by kernel_rfl) fun a hs => ?_
  refine Vk.step (Vk.value (some 17) (.int .i64 x0.kind) hs (by kernel_rfl) (op := (.load 3 (.tmp 16))) (by kernel_rfl) (fun o ho => run_load1 (b := b_2) (off := 0) (c := C.int .i64 x0.kind) ho (by kernel_rfl) (by kernel_rfl) (Cell.own 0 rfl (by kernel_rfl)) _ hs.own) fun a hs => ?_)
  replace hs := hs.pick [1, 2, 3, 4, 5, 11, 17] (L' := [(1, .int .u64 x1), (2, .int .u64 x2), (3, .int .u64 x3), (4, .int .u64 x4), (5, .pointer (some ⟨b_2, 0, none⟩)), (11, .int .i64 (IntKind.i64.wrap (Int.tmod x0.c 64))), (17, .int .i64 x0.kind)]) (by kernel_rfl)
  refine Vk.done (by kernel_rfl) ?_
  refine hK5 _ _ ?_
  clear hK5
  refine wp_block ?_
  refine Vk.seq fun K6 hK6 => ?_
  refine Vk.region ?_
  refine Vk.pures 2 [(18, .bool (x0.kind == 1)), (19, .bool (x0.kind == 1))] hs (by kernel_rfl) fun a hs => ?_
  replace hs := hs.pick [1, 2, 3, 4, 5, 11, 17, 18] (L' := [(1, .int .u64 x1), (2, .int .u64 x2), (3, .int .u64 x3), (4, .int .u64 x4), (5, .pointer (some ⟨b_2, 0, none⟩)), (11, .int .i64 (IntKind.i64.wrap (Int.tmod x0.c 64))), (17, .int .i64 x0.kind), (18, .bool (x0.kind == 1))]) (by kernel_rfl)
  refine Vk.done (by kernel_rfl) ?_
  refine hK6 _ _ ?_
  clear hK6
  refine Vk.condS (b := x0.kind == 1) hs (by kernel_rfl) (by kernel_rfl) (fun hb => ?_) (fun hb => ?_)
  · replace hm := bif_t hm hb
    refine Vk.seq fun K7 hK7 => ?_
    refine Vk.region ?_
    refine Vk.pures 2 [(10, .int .u64 x4), (20, .int .u64 x4)] hs (by kernel_rfl) fun a hs => ?_
    replace hs := hs.pick [10] (L' := [(10, .int .u64 x4)]) (by kernel_rfl)
    refine Vk.done (by kernel_rfl) ?_
    refine hK7 _ _ ?_
    clear hK7
    refine wp_ret ?_
    exact Vk.ret1 (P := Try.prog) (fn := Try.f22) (R := visorref17_Eval.R κ S x0 x1 x2 x3 x4 r) (.int .u64 x4) hs rfl (by kernel_rfl) (by obtain rfl := Option.some.inj hm; exact ⟨rfl, (Own.to hs.own [] 1 (by kernel_rfl) (by kernel_rfl))⟩)
  · replace hm := bif_f hm hb
    refine Vk.seq fun K8 hK8 => ?_
    refine Vk.region ?_
    refine Vk.pures 2 [(21, .bool (x0.kind == 2)), (22, .bool (x0.kind == 2))] hs (by kernel_rfl) fun a hs => ?_
    replace hs := hs.pick [1, 2, 3, 4, 5, 11, 17, 21] (L' := [(1, .int .u64 x1), (2, .int .u64 x2), (3, .int .u64 x3), (4, .int .u64 x4), (5, .pointer (some ⟨b_2, 0, none⟩)), (11, .int .i64 (IntKind.i64.wrap (Int.tmod x0.c 64))), (17, .int .i64 x0.kind), (21, .bool (x0.kind == 2))]) (by kernel_rfl)
    refine Vk.done (by kernel_rfl) ?_
    refine hK8 _ _ ?_
    clear hK8
    refine Vk.condS (b := x0.kind == 2) hs (by kernel_rfl) (by kernel_rfl) (fun hb => ?_) (fun hb => ?_)
    · replace hm := bif_t hm hb
      refine Vk.seq fun K9 hK9 => ?_
      refine Vk.region ?_
      refine Vk.pures 6 [(10, .int .u64 (bxor .u64 (bxor .u64 x4 x1) x2)), (27, .int .u64 (bxor .u64 (bxor .u64 x4 x1) x2)), (26, .int .u64 x2), (25, .int .u64 (bxor .u64 x4 x1)), (24, .int .u64 x1), (23, .int .u64 x4)] hs (by kernel_rfl) fun a hs => ?_
      replace hs := hs.pick [10] (L' := [(10, .int .u64 (bxor .u64 (bxor .u64 x4 x1) x2))]) (by kernel_rfl)
      refine Vk.done (by kernel_rfl) ?_
      refine hK9 _ _ ?_
      clear hK9
      refine wp_ret ?_
      exact Vk.ret1 (P := Try.prog) (fn := Try.f22) (R := visorref17_Eval.R κ S x0 x1 x2 x3 x4 r) (.int .u64 (bxor .u64 (bxor .u64 x4 x1) x2)) hs rfl (by kernel_rfl) (by obtain rfl := Option.some.inj hm; exact ⟨rfl, (Own.to hs.own [] 1 (by kernel_rfl) (by kernel_rfl))⟩)
    · replace hm := bif_f hm hb
      refine Vk.seq fun K10 hK10 => ?_
      have hj10 : ∀ (p_12 : Bool), visorref17_Eval.j1 k x0 x1 x2 x3 p_12 = some r → ∀ (a : Act) (w : World), St 84 a w κ [(1, .int .u64 x1), (2, .int .u64 x2), (3, .int .u64 x3), (5, .pointer (some ⟨b_2, 0, none⟩)), (11, .int .i64 (IntKind.i64.wrap (Int.tmod x0.c 64))), (17, .int .i64 x0.kind), (28, .bool p_12)] (pt b_2 (blk (Tapi_Op.cells x0) 32) :: S) → K10 a w := by
        intro p_12 hm a w hs
        unfold visorref17_Eval.j1 at hm
        refine hK10 _ _ ?_
        refine Vk.condS (b := p_12) hs (by kernel_rfl) (by kernel_rfl) (fun hb => ?_) (fun hb => ?_)
        · replace hm := bif_t hm hb
          refine Vk.seq fun K13 hK13 => ?_
          refine Vk.region ?_
          refine Vk.pures 1 [(31, .pointer (some ⟨b_2, 5, none⟩))] hs (by kernel_rfl) fun a hs => ?_
          refine Vk.step (Vk.value (some 32) (.int .u64 x0.c) hs (by kernel_rfl) (op := (.load 23 (.tmp 31))) (by kernel_rfl) (fun o ho => run_load1 (b := b_2) (off := 5) (c := C.int .u64 x0.c) ho (by kernel_rfl) (by kernel_rfl) (Cell.own 0 rfl (by kernel_rfl)) _ hs.own) fun a hs => ?_)
          refine Vk.pures 1 [(10, .int .u64 x0.c)] hs (by kernel_rfl) fun a hs => ?_
          replace hs := hs.pick [10] (L' := [(10, .int .u64 x0.c)]) (by kernel_rfl)
          refine Vk.done (by kernel_rfl) ?_
          refine hK13 _ _ ?_
          clear hK13
          refine wp_ret ?_
          exact Vk.ret1 (P := Try.prog) (fn := Try.f22) (R := visorref17_Eval.R κ S x0 x1 x2 x3 x4 r) (.int .u64 x0.c) hs rfl (by kernel_rfl) (by obtain rfl := Option.some.inj hm; exact ⟨rfl, (Own.to hs.own [] 1 (by kernel_rfl) (by kernel_rfl))⟩)
        · replace hm := bif_f hm hb
          refine Vk.seq fun K14 hK14 => ?_
          refine Vk.region ?_
          refine Vk.pures 2 [(33, .bool (x0.kind == 5)), (34, .bool (x0.kind == 5))] hs (by kernel_rfl) fun a hs => ?_
          replace hs := hs.pick [1, 2, 3, 5, 11, 17, 33] (L' := [(1, .int .u64 x1), (2, .int .u64 x2), (3, .int .u64 x3), (5, .pointer (some ⟨b_2, 0, none⟩)), (11, .int .i64 (IntKind.i64.wrap (Int.tmod x0.c 64))), (17, .int .i64 x0.kind), (33, .bool (x0.kind == 5))]) (by kernel_rfl)
          refine Vk.done (by kernel_rfl) ?_
          refine hK14 _ _ ?_
          clear hK14
          refine Vk.condS (b := x0.kind == 5) hs (by kernel_rfl) (by kernel_rfl) (fun hb => ?_) (fun hb => ?_)
          · replace hm := bif_t hm hb
            refine Vk.seq fun K15 hK15 => ?_
            refine Vk.region ?_
            refine Vk.pures 4 [(10, .int .u64 (bxor .u64 x1 x2)), (37, .int .u64 (bxor .u64 x1 x2)), (36, .int .u64 x2), (35, .int .u64 x1)] hs (by kernel_rfl) fun a hs => ?_
            replace hs := hs.pick [10] (L' := [(10, .int .u64 (bxor .u64 x1 x2))]) (by kernel_rfl)
            refine Vk.done (by kernel_rfl) ?_
            refine hK15 _ _ ?_
            clear hK15
            refine wp_ret ?_
            exact Vk.ret1 (P := Try.prog) (fn := Try.f22) (R := visorref17_Eval.R κ S x0 x1 x2 x3 x4 r) (.int .u64 (bxor .u64 x1 x2)) hs rfl (by kernel_rfl) (by obtain rfl := Option.some.inj hm; exact ⟨rfl, (Own.to hs.own [] 1 (by kernel_rfl) (by kernel_rfl))⟩)
          · replace hm := bif_f hm hb
            refine Vk.seq fun K16 hK16 => ?_
            refine Vk.region ?_
            refine Vk.pures 2 [(38, .bool (x0.kind == 6)), (39, .bool (x0.kind == 6))] hs (by kernel_rfl) fun a hs => ?_
            replace hs := hs.pick [1, 2, 3, 5, 11, 17, 38] (L' := [(1, .int .u64 x1), (2, .int .u64 x2), (3, .int .u64 x3), (5, .pointer (some ⟨b_2, 0, none⟩)), (11, .int .i64 (IntKind.i64.wrap (Int.tmod x0.c 64))), (17, .int .i64 x0.kind), (38, .bool (x0.kind == 6))]) (by kernel_rfl)
            refine Vk.done (by kernel_rfl) ?_
            refine hK16 _ _ ?_
            clear hK16
            refine Vk.condS (b := x0.kind == 6) hs (by kernel_rfl) (by kernel_rfl) (fun hb => ?_) (fun hb => ?_)
            · replace hm := bif_t hm hb
              refine Vk.seq fun K17 hK17 => ?_
              refine Vk.region ?_
              refine Vk.pures 3 [(10, .int .u64 (IntKind.u64.wrap (18446744073709551615 - x1))), (41, .int .u64 (IntKind.u64.wrap (18446744073709551615 - x1))), (40, .int .u64 x1)] hs (by kernel_rfl) fun a hs => ?_
              replace hs := hs.pick [10] (L' := [(10, .int .u64 (IntKind.u64.wrap (18446744073709551615 - x1)))]) (by kernel_rfl)
              refine Vk.done (by kernel_rfl) ?_
              refine hK17 _ _ ?_
              clear hK17
              refine wp_ret ?_
              exact Vk.ret1 (P := Try.prog) (fn := Try.f22) (R := visorref17_Eval.R κ S x0 x1 x2 x3 x4 r) (.int .u64 (IntKind.u64.wrap (18446744073709551615 - x1))) hs rfl (by kernel_rfl) (by obtain rfl := Option.some.inj hm; exact ⟨rfl, (Own.to hs.own [] 1 (by kernel_rfl) (by kernel_rfl))⟩)
            · replace hm := bif_f hm hb
              refine Vk.seq fun K18 hK18 => ?_
              refine Vk.region ?_
              refine Vk.pures 2 [(42, .bool (x0.kind == 7)), (43, .bool (x0.kind == 7))] hs (by kernel_rfl) fun a hs => ?_
              replace hs := hs.pick [1, 2, 3, 5, 11, 17, 42] (L' := [(1, .int .u64 x1), (2, .int .u64 x2), (3, .int .u64 x3), (5, .pointer (some ⟨b_2, 0, none⟩)), (11, .int .i64 (IntKind.i64.wrap (Int.tmod x0.c 64))), (17, .int .i64 x0.kind), (42, .bool (x0.kind == 7))]) (by kernel_rfl)
              refine Vk.done (by kernel_rfl) ?_
              refine hK18 _ _ ?_
              clear hK18
              refine Vk.condS (b := x0.kind == 7) hs (by kernel_rfl) (by kernel_rfl) (fun hb => ?_) (fun hb => ?_)
              · replace hm := bif_t hm hb
                refine Vk.seq fun K19 hK19 => ?_
                refine Vk.region ?_
                refine Vk.pures 4 [(10, .int .u64 (band .u64 x1 x2)), (46, .int .u64 (band .u64 x1 x2)), (45, .int .u64 x2), (44, .int .u64 x1)] hs (by kernel_rfl) fun a hs => ?_
                replace hs := hs.pick [10] (L' := [(10, .int .u64 (band .u64 x1 x2))]) (by kernel_rfl)
                refine Vk.done (by kernel_rfl) ?_
                refine hK19 _ _ ?_
                clear hK19
                refine wp_ret ?_
                exact Vk.ret1 (P := Try.prog) (fn := Try.f22) (R := visorref17_Eval.R κ S x0 x1 x2 x3 x4 r) (.int .u64 (band .u64 x1 x2)) hs rfl (by kernel_rfl) (by obtain rfl := Option.some.inj hm; exact ⟨rfl, (Own.to hs.own [] 1 (by kernel_rfl) (by kernel_rfl))⟩)
              · replace hm := bif_f hm hb
                refine Vk.seq fun K20 hK20 => ?_
                refine Vk.region ?_
                refine Vk.pures 2 [(47, .bool (x0.kind == 8)), (48, .bool (x0.kind == 8))] hs (by kernel_rfl) fun a hs => ?_
                replace hs := hs.pick [1, 2, 3, 5, 11, 17, 47] (L' := [(1, .int .u64 x1), (2, .int .u64 x2), (3, .int .u64 x3), (5, .pointer (some ⟨b_2, 0, none⟩)), (11, .int .i64 (IntKind.i64.wrap (Int.tmod x0.c 64))), (17, .int .i64 x0.kind), (47, .bool (x0.kind == 8))]) (by kernel_rfl)
                refine Vk.done (by kernel_rfl) ?_
                refine hK20 _ _ ?_
                clear hK20
                refine Vk.condS (b := x0.kind == 8) hs (by kernel_rfl) (by kernel_rfl) (fun hb => ?_) (fun hb => ?_)
                · replace hm := bif_t hm hb
                  refine Vk.seq fun K21 hK21 => ?_
                  refine Vk.region ?_
                  refine Vk.pures 2 [(50, .pointer (some ⟨b_2, 5, none⟩)), (49, .int .u64 x1)] hs (by kernel_rfl) fun a hs => ?_
                  refine Vk.step (Vk.value (some 51) (.int .u64 x0.c) hs (by kernel_rfl) (op := (.load 23 (.tmp 50))) (by kernel_rfl) (fun o ho => run_load1 (b := b_2) (off := 5) (c := C.int .u64 x0.c) ho (by kernel_rfl) (by kernel_rfl) (Cell.own 0 rfl (by kernel_rfl)) _ hs.own) fun a hs => ?_)
                  refine Vk.pures 2 [(10, .int .u64 (band .u64 x1 x0.c)), (52, .int .u64 (band .u64 x1 x0.c))] hs (by kernel_rfl) fun a hs => ?_
                  replace hs := hs.pick [10] (L' := [(10, .int .u64 (band .u64 x1 x0.c))]) (by kernel_rfl)
                  refine Vk.done (by kernel_rfl) ?_
                  refine hK21 _ _ ?_
                  clear hK21
                  refine wp_ret ?_
                  exact Vk.ret1 (P := Try.prog) (fn := Try.f22) (R := visorref17_Eval.R κ S x0 x1 x2 x3 x4 r) (.int .u64 (band .u64 x1 x0.c)) hs rfl (by kernel_rfl) (by obtain rfl := Option.some.inj hm; exact ⟨rfl, (Own.to hs.own [] 1 (by kernel_rfl) (by kernel_rfl))⟩)
                · replace hm := bif_f hm hb
                  refine Vk.seq fun K22 hK22 => ?_
                  refine Vk.region ?_
                  refine Vk.pures 2 [(53, .bool (x0.kind == 9)), (54, .bool (x0.kind == 9))] hs (by kernel_rfl) fun a hs => ?_
                  replace hs := hs.pick [1, 2, 3, 11, 17, 53] (L' := [(1, .int .u64 x1), (2, .int .u64 x2), (3, .int .u64 x3), (11, .int .i64 (IntKind.i64.wrap (Int.tmod x0.c 64))), (17, .int .i64 x0.kind), (53, .bool (x0.kind == 9))]) (by kernel_rfl)
                  refine Vk.done (by kernel_rfl) ?_
                  refine hK22 _ _ ?_
                  clear hK22
                  refine Vk.condS (b := x0.kind == 9) hs (by kernel_rfl) (by kernel_rfl) (fun hb => ?_) (fun hb => ?_)
                  · replace hm := bif_t hm hb
                    refine Vk.seq fun K23 hK23 => ?_
                    refine Vk.region ?_
                    refine Vk.pures 3 [(57, .int .i64 (IntKind.i64.wrap (64 - (IntKind.i64.wrap (Int.tmod x0.c 64))))), (56, .int .i64 (IntKind.i64.wrap (Int.tmod x0.c 64))), (55, .int .u64 x1)] hs (by kernel_rfl) fun a hs => ?_
                    obtain ⟨v_26, h_25, hm⟩ := bind_t hm
                    refine Vk.step (Vk.call (some 58) 74 #[.int .i64 (IntKind.i64.wrap (64 - (IntKind.i64.wrap (Int.tmod x0.c 64))))] hs (by kernel_rfl) (by kernel_rfl) (by kernel_rfl) ?_)
                    refine (visorref01_Low.ok k (IntKind.i64.wrap (64 - (IntKind.i64.wrap (Int.tmod x0.c 64)))) v_26 h_25 κ w (pt b_2 (blk (Tapi_Op.cells x0) 32) :: S) hs.own).mono ?_
                    rintro _ w ⟨rfl, how⟩
                    refine ⟨_, _, _, rfl, how, fun a hs => ?_⟩
                    refine Vk.pures 2 [(60, .int .i64 (IntKind.i64.wrap (Int.tmod x0.c 64))), (59, .int .u64 (band .u64 x1 v_26))] hs (by kernel_rfl) fun a hs => ?_
                    obtain ⟨v_29, h_28, hm⟩ := bind_t hm
                    refine Vk.step (Vk.call (some 61) 73 #[.int .u64 (band .u64 x1 v_26), .int .i64 (IntKind.i64.wrap (Int.tmod x0.c 64))] hs (by kernel_rfl) (by kernel_rfl) (by kernel_rfl) ?_)
                    refine (visorref01_Rot.ok k (band .u64 x1 v_26) (IntKind.i64.wrap (Int.tmod x0.c 64)) v_29 h_28 κ w (pt b_2 (blk (Tapi_Op.cells x0) 32) :: S) hs.own).mono ?_
                    rintro _ w ⟨rfl, how⟩
                    refine ⟨_, _, _, rfl, how, fun a hs => ?_⟩
                    refine Vk.pures 1 [(10, .int .u64 v_29)] hs (by kernel_rfl) fun a hs => ?_
                    replace hs := hs.pick [10] (L' := [(10, .int .u64 v_29)]) (by kernel_rfl)
                    refine Vk.done (by kernel_rfl) ?_
                    refine hK23 _ _ ?_
                    clear hK23
                    refine wp_ret ?_
                    exact Vk.ret1 (P := Try.prog) (fn := Try.f22) (R := visorref17_Eval.R κ S x0 x1 x2 x3 x4 r) (.int .u64 v_29) hs rfl (by kernel_rfl) (by obtain rfl := Option.some.inj hm; exact ⟨rfl, (Own.to hs.own [] 1 (by kernel_rfl) (by kernel_rfl))⟩)
                  · replace hm := bif_f hm hb
                    refine Vk.seq fun K30 hK30 => ?_
                    refine Vk.region ?_
                    refine Vk.pures 2 [(62, .bool (x0.kind == 10)), (63, .bool (x0.kind == 10))] hs (by kernel_rfl) fun a hs => ?_
                    replace hs := hs.pick [1, 2, 3, 11, 17, 62] (L' := [(1, .int .u64 x1), (2, .int .u64 x2), (3, .int .u64 x3), (11, .int .i64 (IntKind.i64.wrap (Int.tmod x0.c 64))), (17, .int .i64 x0.kind), (62, .bool (x0.kind == 10))]) (by kernel_rfl)
                    refine Vk.done (by kernel_rfl) ?_
                    refine hK30 _ _ ?_
                    clear hK30
                    refine Vk.condS (b := x0.kind == 10) hs (by kernel_rfl) (by kernel_rfl) (fun hb => ?_) (fun hb => ?_)
                    · replace hm := bif_t hm hb
                      refine Vk.seq fun K31 hK31 => ?_
                      refine Vk.region ?_
                      refine Vk.pures 3 [(66, .int .i64 (IntKind.i64.wrap (64 - (IntKind.i64.wrap (Int.tmod x0.c 64))))), (65, .int .i64 (IntKind.i64.wrap (Int.tmod x0.c 64))), (64, .int .u64 x1)] hs (by kernel_rfl) fun a hs => ?_
                      obtain ⟨v_34, h_33, hm⟩ := bind_t hm
                      refine Vk.step (Vk.call (some 67) 73 #[.int .u64 x1, .int .i64 (IntKind.i64.wrap (64 - (IntKind.i64.wrap (Int.tmod x0.c 64))))] hs (by kernel_rfl) (by kernel_rfl) (by kernel_rfl) ?_)
                      refine (visorref01_Rot.ok k x1 (IntKind.i64.wrap (64 - (IntKind.i64.wrap (Int.tmod x0.c 64)))) v_34 h_33 κ w (pt b_2 (blk (Tapi_Op.cells x0) 32) :: S) hs.own).mono ?_
                      rintro _ w ⟨rfl, how⟩
                      refine ⟨_, _, _, rfl, how, fun a hs => ?_⟩
                      refine Vk.pures 2 [(69, .int .i64 (IntKind.i64.wrap (64 - (IntKind.i64.wrap (Int.tmod x0.c 64))))), (68, .int .i64 (IntKind.i64.wrap (Int.tmod x0.c 64)))] hs (by kernel_rfl) fun a hs => ?_
                      obtain ⟨v_37, h_36, hm⟩ := bind_t hm
                      refine Vk.step (Vk.call (some 70) 74 #[.int .i64 (IntKind.i64.wrap (64 - (IntKind.i64.wrap (Int.tmod x0.c 64))))] hs (by kernel_rfl) (by kernel_rfl) (by kernel_rfl) ?_)
                      refine (visorref01_Low.ok k (IntKind.i64.wrap (64 - (IntKind.i64.wrap (Int.tmod x0.c 64)))) v_37 h_36 κ w (pt b_2 (blk (Tapi_Op.cells x0) 32) :: S) hs.own).mono ?_
                      rintro _ w ⟨rfl, how⟩
                      refine ⟨_, _, _, rfl, how, fun a hs => ?_⟩
                      refine Vk.pures 2 [(10, .int .u64 (band .u64 v_34 v_37)), (71, .int .u64 (band .u64 v_34 v_37))] hs (by kernel_rfl) fun a hs => ?_
                      replace hs := hs.pick [10] (L' := [(10, .int .u64 (band .u64 v_34 v_37))]) (by kernel_rfl)
                      refine Vk.done (by kernel_rfl) ?_
                      refine hK31 _ _ ?_
                      clear hK31
                      refine wp_ret ?_
                      exact Vk.ret1 (P := Try.prog) (fn := Try.f22) (R := visorref17_Eval.R κ S x0 x1 x2 x3 x4 r) (.int .u64 (band .u64 v_34 v_37)) hs rfl (by kernel_rfl) (by obtain rfl := Option.some.inj hm; exact ⟨rfl, (Own.to hs.own [] 1 (by kernel_rfl) (by kernel_rfl))⟩)
                    · replace hm := bif_f hm hb
                      refine Vk.seq fun K38 hK38 => ?_
                      refine Vk.region ?_
                      refine Vk.pures 2 [(72, .bool (x0.kind == 11)), (73, .bool (x0.kind == 11))] hs (by kernel_rfl) fun a hs => ?_
                      replace hs := hs.pick [1, 2, 3, 11, 17, 72] (L' := [(1, .int .u64 x1), (2, .int .u64 x2), (3, .int .u64 x3), (11, .int .i64 (IntKind.i64.wrap (Int.tmod x0.c 64))), (17, .int .i64 x0.kind), (72, .bool (x0.kind == 11))]) (by kernel_rfl)
                      refine Vk.done (by kernel_rfl) ?_
                      refine hK38 _ _ ?_
                      clear hK38
                      refine Vk.condS (b := x0.kind == 11) hs (by kernel_rfl) (by kernel_rfl) (fun hb => ?_) (fun hb => ?_)
                      · replace hm := bif_t hm hb
                        refine Vk.seq fun K39 hK39 => ?_
                        refine Vk.region ?_
                        refine Vk.pures 2 [(75, .int .i64 (IntKind.i64.wrap (Int.tmod x0.c 64))), (74, .int .u64 x1)] hs (by kernel_rfl) fun a hs => ?_
                        obtain ⟨v_42, h_41, hm⟩ := bind_t hm
                        refine Vk.step (Vk.call (some 76) 73 #[.int .u64 x1, .int .i64 (IntKind.i64.wrap (Int.tmod x0.c 64))] hs (by kernel_rfl) (by kernel_rfl) (by kernel_rfl) ?_)
                        refine (visorref01_Rot.ok k x1 (IntKind.i64.wrap (Int.tmod x0.c 64)) v_42 h_41 κ w (pt b_2 (blk (Tapi_Op.cells x0) 32) :: S) hs.own).mono ?_
                        rintro _ w ⟨rfl, how⟩
                        refine ⟨_, _, _, rfl, how, fun a hs => ?_⟩
                        refine Vk.pures 1 [(10, .int .u64 v_42)] hs (by kernel_rfl) fun a hs => ?_
                        replace hs := hs.pick [10] (L' := [(10, .int .u64 v_42)]) (by kernel_rfl)
                        refine Vk.done (by kernel_rfl) ?_
                        refine hK39 _ _ ?_
                        clear hK39
                        refine wp_ret ?_
                        exact Vk.ret1 (P := Try.prog) (fn := Try.f22) (R := visorref17_Eval.R κ S x0 x1 x2 x3 x4 r) (.int .u64 v_42) hs rfl (by kernel_rfl) (by obtain rfl := Option.some.inj hm; exact ⟨rfl, (Own.to hs.own [] 1 (by kernel_rfl) (by kernel_rfl))⟩)
                      · replace hm := bif_f hm hb
                        refine Vk.seq fun K43 hK43 => ?_
                        refine Vk.region ?_
                        refine Vk.pures 2 [(77, .bool (x0.kind == 12)), (78, .bool (x0.kind == 12))] hs (by kernel_rfl) fun a hs => ?_
                        replace hs := hs.pick [1, 2, 3, 77] (L' := [(1, .int .u64 x1), (2, .int .u64 x2), (3, .int .u64 x3), (77, .bool (x0.kind == 12))]) (by kernel_rfl)
                        refine Vk.done (by kernel_rfl) ?_
                        refine hK43 _ _ ?_
                        clear hK43
                        refine Vk.condS (b := x0.kind == 12) hs (by kernel_rfl) (by kernel_rfl) (fun hb => ?_) (fun hb => ?_)
                        · replace hm := bif_t hm hb
                          refine Vk.seq fun K44 hK44 => ?_
                          refine Vk.region ?_
                          refine Vk.pures 6 [(10, .int .u64 (bxor .u64 (bxor .u64 x1 x2) x3)), (83, .int .u64 (bxor .u64 (bxor .u64 x1 x2) x3)), (82, .int .u64 x3), (81, .int .u64 (bxor .u64 x1 x2)), (80, .int .u64 x2), (79, .int .u64 x1)] hs (by kernel_rfl) fun a hs => ?_
                          replace hs := hs.pick [10] (L' := [(10, .int .u64 (bxor .u64 (bxor .u64 x1 x2) x3))]) (by kernel_rfl)
                          refine Vk.done (by kernel_rfl) ?_
                          refine hK44 _ _ ?_
                          clear hK44
                          refine wp_ret ?_
                          exact Vk.ret1 (P := Try.prog) (fn := Try.f22) (R := visorref17_Eval.R κ S x0 x1 x2 x3 x4 r) (.int .u64 (bxor .u64 (bxor .u64 x1 x2) x3)) hs rfl (by kernel_rfl) (by obtain rfl := Option.some.inj hm; exact ⟨rfl, (Own.to hs.own [] 1 (by kernel_rfl) (by kernel_rfl))⟩)
                        · replace hm := bif_f hm hb
                          refine wp_skip ?_
                          refine hK4 _ _ ?_
                          clear hK4
                          refine Vk.seq fun K45 hK45 => ?_
                          refine Vk.region ?_
                          refine Vk.pures 1 [(10, .int .u64 0)] hs (by kernel_rfl) fun a hs => ?_
                          replace hs := hs.pick [10] (L' := [(10, .int .u64 0)]) (by kernel_rfl)
                          refine Vk.done (by kernel_rfl) ?_
                          refine hK45 _ _ ?_
                          clear hK45
                          refine wp_ret ?_
                          exact Vk.ret1 (P := Try.prog) (fn := Try.f22) (R := visorref17_Eval.R κ S x0 x1 x2 x3 x4 r) (.int .u64 0) hs rfl (by kernel_rfl) (by obtain rfl := Option.some.inj hm; exact ⟨rfl, (Own.to hs.own [] 1 (by kernel_rfl) (by kernel_rfl))⟩)
      refine Vk.seq fun K11 hK11 => ?_
      refine Vk.region ?_
      refine Vk.pures 2 [(28, .bool (x0.kind == 3)), (29, .bool (x0.kind == 3))] hs (by kernel_rfl) fun a hs => ?_
      replace hs := hs.pick [1, 2, 3, 5, 11, 17, 28] (L' := [(1, .int .u64 x1), (2, .int .u64 x2), (3, .int .u64 x3), (5, .pointer (some ⟨b_2, 0, none⟩)), (11, .int .i64 (IntKind.i64.wrap (Int.tmod x0.c 64))), (17, .int .i64 x0.kind), (28, .bool (x0.kind == 3))]) (by kernel_rfl)
      refine Vk.done (by kernel_rfl) ?_
      refine hK11 _ _ ?_
      clear hK11
      refine Vk.condS (b := x0.kind == 3) hs (by kernel_rfl) (by kernel_rfl) (fun hb => ?_) (fun hb => ?_)
      · replace hm := bif_t hm hb
        refine wp_skip ?_
        exact hj10 (x0.kind == 3) hm _ _ (hs.go [1, 2, 3, 5, 11, 17, 28] [0] 1 (by kernel_rfl) (by kernel_rfl) (by kernel_rfl))
      · replace hm := bif_f hm hb
        refine Vk.region ?_
        refine Vk.pures 2 [(28, .bool (x0.kind == 4)), (30, .bool (x0.kind == 4))] hs (by kernel_rfl) fun a hs => ?_
        replace hs := hs.pick [1, 2, 3, 5, 11, 17, 28] (L' := [(1, .int .u64 x1), (2, .int .u64 x2), (3, .int .u64 x3), (5, .pointer (some ⟨b_2, 0, none⟩)), (11, .int .i64 (IntKind.i64.wrap (Int.tmod x0.c 64))), (17, .int .i64 x0.kind), (28, .bool (x0.kind == 4))]) (by kernel_rfl)
        refine Vk.done (by kernel_rfl) ?_
        exact hj10 (x0.kind == 4) hm _ _ (hs.go [1, 2, 3, 5, 11, 17, 28] [0] 1 (by kernel_rfl) (by kernel_rfl) (by kernel_rfl))


def visorref19_M_Do.j6 (k : Nat) (x1 : Tapi_Op) (p_97 : Int) (p_103 : Tvisorref19_M) : Option ((Int × Tvisorref19_M)) := (visorref19_M_At.m k p_103 x1.a).bind fun v_108 => (visorref19_M_At.m k p_103 x1.b).bind fun v_111 => (visorref19_M_At.m k p_103 x1.d).bind fun v_114 => (visorref17_Eval.m k x1 v_108 v_111 v_114 p_97).bind fun v_117 => (if (p_103.val.length + ([v_117] : List Int).length) * 8 ≤ 140737488355328 then (if (p_103.ops.length + ([x1] : List Tapi_Op).length) * 48 ≤ 140737488355328 then (visorref19_M_Len.m k (⟨p_103.n, p_103.most, p_103.words, p_103.draws, p_103.fromF, p_103.skip, p_103.kind, p_103.e, p_103.ops ++ ([x1] : List Tapi_Op), p_103.blocks, p_103.val ++ ([v_117] : List Int), p_103.tape, p_103.dry⟩ : Tvisorref19_M)).bind fun v_133 => some (IntKind.i64.wrap (v_133 - 1), (⟨p_103.n, p_103.most, p_103.words, p_103.draws, p_103.fromF, p_103.skip, p_103.kind, p_103.e, p_103.ops ++ ([x1] : List Tapi_Op), p_103.blocks, p_103.val ++ ([v_117] : List Int), p_103.tape, p_103.dry⟩ : Tvisorref19_M)) else none) else none)
def visorref19_M_Do.j5 (k : Nat) (x1 : Tapi_Op) (p_97 : Int) (p_100 : Tvisorref19_M) : Option ((Int × Tvisorref19_M)) := (bif x1.kind == 2 then visorref19_M_Do.j6 k x1 p_97 (⟨p_100.n, p_100.most, IntKind.i64.wrap (p_100.words + 1), p_100.draws, p_100.fromF, p_100.skip, p_100.kind, p_100.e, p_100.ops, p_100.blocks, p_100.val, p_100.tape, p_100.dry⟩ : Tvisorref19_M) else visorref19_M_Do.j6 k x1 p_97 p_100)
def visorref19_M_Do.j4 (k : Nat) (x1 : Tapi_Op) (p_94 : Tvisorref19_M) (p_97 : Int) : Option ((Int × Tvisorref19_M)) := (bif x1.kind == 1 then visorref19_M_Do.j5 k x1 p_97 (⟨p_94.n, p_94.most, p_94.words, IntKind.i64.wrap (p_94.draws + 1), p_94.fromF, p_94.skip, p_94.kind, p_94.e, p_94.ops, p_94.blocks, p_94.val, p_94.tape, p_94.dry⟩ : Tvisorref19_M) else visorref19_M_Do.j5 k x1 p_97 p_94)
def visorref19_M_Do.j3 (k : Nat) (x1 : Tapi_Op) (p_75 : Int) (p_76 : Bool) (p_77 : Tvisorref19_M) : Option ((Int × Tvisorref19_M)) := (bif !p_76 then (visorref19_M_Fails.m k p_77 2).bind fun v_85 => some (v_85.1, v_85.2) else visorref19_M_Do.j4 k x1 p_77 p_75)
def visorref19_M_Do.j2 (k : Nat) (x0 : Tvisorref19_M) (x1 : Tapi_Op) (x2 : Int) (p_34 : Bool) : Option ((Int × Tvisorref19_M)) := (bif p_34 then (visorref19_M_Fails.m k x0 3).bind fun v_38 => some (v_38.1, v_38.2) else (bif (x1.kind == 1) && (!x0.dry) then (bif (decide (x0.tape.free < 1)) || (((x0.tape.l.length : Nat) : Int) == 0) then visorref19_M_Do.j3 k x1 0 false x0 else (if 0 ≤ (0 : Int) then (x0.tape.l[0]?).bind fun e_61 => (if ((0 : Int) ≤ 1) ∧ 1 ≤ x0.tape.l.length ∧ x0.tape.l.length ≤ x0.tape.l.length then visorref19_M_Do.j3 k x1 e_61 true (⟨x0.n, x0.most, x0.words, x0.draws, x0.fromF, x0.skip, x0.kind, x0.e, x0.ops, x0.blocks, x0.val, (⟨cut x0.tape.l (1) (x0.tape.l.length), IntKind.i64.wrap (x0.tape.used + 1), IntKind.i64.wrap (x0.tape.free - 1)⟩ : Tvisorref02_T), x0.dry⟩ : Tvisorref19_M) else none) else none)) else visorref19_M_Do.j4 k x1 x0 x2))
def visorref19_M_Do.j1 (k : Nat) (x0 : Tvisorref19_M) (x1 : Tapi_Op) (x2 : Int) (p_15 : Bool) : Option ((Int × Tvisorref19_M)) := (bif p_15 then (visorref19_M_Fails.m k x0 1).bind fun v_19 => some (v_19.1, v_19.2) else (bif !x0.dry then (visorref19_M_Len.m k x0).bind fun v_33 => visorref19_M_Do.j2 k x0 x1 x2 (decide (v_33 ≥ x0.most)) else visorref19_M_Do.j2 k x0 x1 x2 false))
abbrev visorref19_M_Do.R (κ : Ctx) (S : List HP) (x0 : Tvisorref19_M) (x1 : Tapi_Op) (x2 : Int) (b_x0 : Nat) (A_x0oops : Option Addr) (c_x0oops : Nat) (A_x0oblocks : Option Addr) (c_x0oblocks : Nat) (A_x0oval : Option Addr) (c_x0oval : Nat) (A_x0otapel : Option Addr) (c_x0otapel : Nat) (r : (Int × Tvisorref19_M)) : Ending → World → Prop := fun e w' => ∃ (A_y0oops : Option Addr), ∃ (c_y0oops : Nat), ∃ (A_y0oblocks : Option Addr), ∃ (c_y0oblocks : Nat), ∃ (A_y0oval : Option Addr), ∃ (c_y0oval : Nat), ∃ (A_y0otapel : Option Addr), ∃ (c_y0otapel : Nat), e = .returned (.int .i64 r.1) ∧ Own κ w' (pt b_x0 (blk (Tvisorref19_M.obj r.2 A_y0oops c_y0oops A_y0oblocks c_y0oblocks A_y0oval c_y0oval A_y0otapel c_y0otapel) 123) :: rowp A_y0oops c_y0oops 32 6 Tapi_Op.cells r.2.ops :: rowp A_y0oblocks c_y0oblocks 144 3 Tapi_Span.cells r.2.blocks :: rowp A_y0oval c_y0oval 23 1 (eI .u64) r.2.val :: rdp κ A_y0otapel c_y0otapel 1 (eI .u64) r.2.tape.l :: S)
def visorref19_M_Do.m (k : Nat) (x0 : Tvisorref19_M) (x1 : Tapi_Op) (x2 : Int) : Option (Int × Tvisorref19_M) := (bif x0.e != 0 then some ((-1), x0) else (visorref19_M_Len.m k x0).bind fun v_11 => (visorref17_Right.m k x1 v_11 x0.n).bind fun v_14 => (bif !v_14 then visorref19_M_Do.j1 k x0 x1 x2 true else (bif x1.kind == 2 then visorref19_M_Do.j1 k x0 x1 x2 (x1.c != (IntKind.u64.wrap x0.words)) else visorref19_M_Do.j1 k x0 x1 x2 false)))

set_option maxRecDepth 100000 in
set_option maxHeartbeats 4000000 in
theorem visorref19_M_Do.ok (k : Nat) (x0 : Tvisorref19_M) (x1 : Tapi_Op) (x2 : Int) (r : (Int × Tvisorref19_M)) (hm : visorref19_M_Do.m k x0 x1 x2 = some r) (κ : Ctx) (w : World) (S : List HP) (b_x0 : Nat) (A_x0oops : Option Addr) (c_x0oops : Nat) (A_x0oblocks : Option Addr) (c_x0oblocks : Nat) (A_x0oval : Option Addr) (c_x0oval : Nat) (A_x0otapel : Option Addr) (c_x0otapel : Nat) (ho : Own κ w (pt b_x0 (blk (Tvisorref19_M.obj x0 A_x0oops c_x0oops A_x0oblocks c_x0oblocks A_x0oval c_x0oval A_x0otapel c_x0otapel) 123) :: rowp A_x0oops c_x0oops 32 6 Tapi_Op.cells x0.ops :: rowp A_x0oblocks c_x0oblocks 144 3 Tapi_Span.cells x0.blocks :: rowp A_x0oval c_x0oval 23 1 (eI .u64) x0.val :: rdp κ A_x0otapel c_x0otapel 1 (eI .u64) x0.tape.l :: S)) :
    Calls Try.prog 103 #[.pointer (some ⟨b_x0, 0, none⟩), .agg (vals [C.int .i64 x1.kind, C.int .i64 x1.dom, C.int .i64 x1.a, C.int .i64 x1.b, C.int .i64 x1.d, C.int .u64 x1.c]), .int .u64 x2] w (visorref19_M_Do.R κ S x0 x1 x2 b_x0 A_x0oops c_x0oops A_x0oblocks c_x0oblocks A_x0oval c_x0oval A_x0otapel c_x0otapel r) := by
  unfold visorref19_M_Do.m at hm
  refine Vk.enter [(0, .pointer (some ⟨b_x0, 0, none⟩)), (1, .agg (vals [C.int .i64 x1.kind, C.int .i64 x1.dom, C.int .i64 x1.a, C.int .i64 x1.b, C.int .i64 x1.d, C.int .u64 x1.c])), (2, .int .u64 x2)] Try.func103 rfl Try.ntmps103 (by kernel_rfl) (Nat.le_of_ble_eq_true (by kernel_rfl)) ho fun a hs => ?_
  refine Vk.seq fun K1 hK1 => ?_
  refine Vk.region ?_
  refine Vk.step (Vk.box (x := (.tmp 1)) 4 32 [C.int .i64 x1.kind, C.int .i64 x1.dom, C.int .i64 x1.a, C.int .i64 x1.b, C.int .i64 x1.d, C.int .u64 x1.c] hs (by kernel_rfl) (by kernel_rfl) (by kernel_rfl) fun b_2 w a hs => ?_)
  refine Vk.pures 1 [(6, .int .i64 0)] hs (by kernel_rfl) fun a hs => ?_
  replace hs := hs.pick [0, 2, 4] (L' := [(0, .pointer (some ⟨b_x0, 0, none⟩)), (2, .int .u64 x2), (4, .pointer (some ⟨b_2, 0, none⟩))]) (by kernel_rfl)
  refine Vk.done (by kernel_rfl) ?_
  refine hK1 _ _ ?_
  clear hK1
  refine Vk.seq fun K3 hK3 => ?_
  refine Vk.seq fun K4 hK4 => ?_
  refine Vk.region ?_
  refine Vk.pures 3 [(11, .pointer (some ⟨b_x0, 7, none⟩)), (10, .pointer (some ⟨b_x0, 0, none⟩)), (9, .pointer (some ⟨b_x0, 0, none⟩))] hs (by kernel_rfl) fun a hs => ?_
  refine Vk.step (Vk.value (some 12) (.int .i64 x0.e) hs (by kernel_rfl) (op := (.load 43 (.tmp 11))) (by kernel_rfl) (fun o ho => run_load1 (b := b_x0) (off := 7) (c := C.int .i64 x0.e) ho (by kernel_rfl) (by kernel_rfl) (Cell.own 1 rfl (by kernel_rfl)) _ hs.own) fun a hs => ?_)
  refine Vk.pures 1 [(13, .bool (x0.e != 0))] hs (by kernel_rfl) fun a hs => ?_
  replace hs := hs.pick [0, 2, 4, 13] (L' := [(0, .pointer (some ⟨b_x0, 0, none⟩)), (2, .int .u64 x2), (4, .pointer (some ⟨b_2, 0, none⟩)), (13, .bool (x0.e != 0))]) (by kernel_rfl)
  refine Vk.done (by kernel_rfl) ?_
  refine hK4 _ _ ?_
  clear hK4
  refine Vk.condS (b := x0.e != 0) hs (by kernel_rfl) (by kernel_rfl) (fun hb => ?_) (fun hb => ?_)
  · replace hm := bif_t hm hb
    refine Vk.seq fun K5 hK5 => ?_
    refine Vk.region ?_
    refine Vk.pures 1 [(6, .int .i64 (-1))] hs (by kernel_rfl) fun a hs => ?_
    replace hs := hs.pick [6] (L' := [(6, .int .i64 (-1))]) (by kernel_rfl)
    refine Vk.done (by kernel_rfl) ?_
    refine hK5 _ _ ?_
    clear hK5
    refine wp_ret ?_
    exact Vk.ret1 (P := Try.prog) (fn := Try.f103) (R := visorref19_M_Do.R κ S x0 x1 x2 b_x0 A_x0oops c_x0oops A_x0oblocks c_x0oblocks A_x0oval c_x0oval A_x0otapel c_x0otapel r) (.int .i64 (-1)) hs rfl (by kernel_rfl) (by obtain rfl := Option.some.inj hm; exact ⟨A_x0oops, c_x0oops, A_x0oblocks, c_x0oblocks, A_x0oval, c_x0oval, A_x0otapel, c_x0otapel, rfl, (Own.to hs.own [1, 2, 3, 4, 5] 6 (by kernel_rfl) (by kernel_rfl))⟩)
  · replace hm := bif_f hm hb
    refine wp_skip ?_
    refine hK3 _ _ ?_
    clear hK3
    refine Vk.seq fun K6 hK6 => ?_
    refine Vk.seq fun K7 hK7 => ?_
    have hj7 : ∀ (p_15 : Bool), visorref19_M_Do.j1 k x0 x1 x2 p_15 = some r → ∀ (a : Act) (w : World), St 137 a w κ [(0, .pointer (some ⟨b_x0, 0, none⟩)), (2, .int .u64 x2), (4, .pointer (some ⟨b_2, 0, none⟩)), (37, .bool p_15)] (pt b_x0 (blk (Tvisorref19_M.obj x0 A_x0oops c_x0oops A_x0oblocks c_x0oblocks A_x0oval c_x0oval A_x0otapel c_x0otapel) 123) :: rowp A_x0oops c_x0oops 32 6 Tapi_Op.cells x0.ops :: rowp A_x0oblocks c_x0oblocks 144 3 Tapi_Span.cells x0.blocks :: rowp A_x0oval c_x0oval 23 1 (eI .u64) x0.val :: rdp κ A_x0otapel c_x0otapel 1 (eI .u64) x0.tape.l :: pt b_2 (blk (Tapi_Op.cells x1) 32) :: S) → K7 a w := by
      intro p_15 hm a w hs
      unfold visorref19_M_Do.j1 at hm
      refine hK7 _ _ ?_
      refine Vk.condS (b := p_15) hs (by kernel_rfl) (by kernel_rfl) (fun hb => ?_) (fun hb => ?_)
      · replace hm := bif_t hm hb
        refine Vk.seq fun K16 hK16 => ?_
        refine Vk.region ?_
        refine Vk.pures 1 [(38, .pointer (some ⟨b_x0, 0, none⟩))] hs (by kernel_rfl) fun a hs => ?_
        obtain ⟨v_19, h_18, hm⟩ := bind_t hm
        refine Vk.step (Vk.call (some 39) 123 #[.pointer (some ⟨b_x0, 0, none⟩), .int .i64 1] hs (by kernel_rfl) (by kernel_rfl) (by kernel_rfl) ?_)
        refine (visorref19_M_Fails.ok k x0 1 v_19 h_18 κ w (pt b_2 (blk (Tapi_Op.cells x1) 32) :: S) b_x0 A_x0oops c_x0oops A_x0oblocks c_x0oblocks A_x0oval c_x0oval A_x0otapel c_x0otapel (Own.to hs.own [0, 1, 2, 3, 4, 5] 6 (by kernel_rfl) (by kernel_rfl))).mono ?_
        rintro _ w ⟨Ar17o0oops_20, cr17o0oops_21, Ar17o0oblocks_22, cr17o0oblocks_23, Ar17o0oval_24, cr17o0oval_25, Ar17o0otapel_26, cr17o0otapel_27, rfl, how⟩
        refine ⟨_, _, _, rfl, how, fun a hs => ?_⟩
        refine Vk.pures 1 [(6, .int .i64 v_19.1)] hs (by kernel_rfl) fun a hs => ?_
        replace hs := hs.pick [6] (L' := [(6, .int .i64 v_19.1)]) (by kernel_rfl)
        refine Vk.done (by kernel_rfl) ?_
        refine hK16 _ _ ?_
        clear hK16
        refine wp_ret ?_
        exact Vk.ret1 (P := Try.prog) (fn := Try.f103) (R := visorref19_M_Do.R κ S x0 x1 x2 b_x0 A_x0oops c_x0oops A_x0oblocks c_x0oblocks A_x0oval c_x0oval A_x0otapel c_x0otapel r) (.int .i64 v_19.1) hs rfl (by kernel_rfl) (by obtain rfl := Option.some.inj hm; exact ⟨Ar17o0oops_20, cr17o0oops_21, Ar17o0oblocks_22, cr17o0oblocks_23, Ar17o0oval_24, cr17o0oval_25, Ar17o0otapel_26, cr17o0otapel_27, rfl, (Own.to hs.own [0, 1, 2, 3, 4] 6 (by kernel_rfl) (by kernel_rfl))⟩)
      · replace hm := bif_f hm hb
        refine wp_skip ?_
        refine hK6 _ _ ?_
        clear hK6
        refine Vk.seq fun K28 hK28 => ?_
        refine Vk.seq fun K29 hK29 => ?_
        have hj29 : ∀ (p_34 : Bool), visorref19_M_Do.j2 k x0 x1 x2 p_34 = some r → ∀ (a : Act) (w : World), St 137 a w κ [(0, .pointer (some ⟨b_x0, 0, none⟩)), (2, .int .u64 x2), (4, .pointer (some ⟨b_2, 0, none⟩)), (53, .bool p_34)] (pt b_x0 (blk (Tvisorref19_M.obj x0 A_x0oops c_x0oops A_x0oblocks c_x0oblocks A_x0oval c_x0oval A_x0otapel c_x0otapel) 123) :: rowp A_x0oops c_x0oops 32 6 Tapi_Op.cells x0.ops :: rowp A_x0oblocks c_x0oblocks 144 3 Tapi_Span.cells x0.blocks :: rowp A_x0oval c_x0oval 23 1 (eI .u64) x0.val :: rdp κ A_x0otapel c_x0otapel 1 (eI .u64) x0.tape.l :: pt b_2 (blk (Tapi_Op.cells x1) 32) :: S) → K29 a w := by
          intro p_34 hm a w hs
          unfold visorref19_M_Do.j2 at hm
          refine hK29 _ _ ?_
          refine Vk.condS (b := p_34) hs (by kernel_rfl) (by kernel_rfl) (fun hb => ?_) (fun hb => ?_)
          · replace hm := bif_t hm hb
            refine Vk.seq fun K35 hK35 => ?_
            refine Vk.region ?_
            refine Vk.pures 1 [(54, .pointer (some ⟨b_x0, 0, none⟩))] hs (by kernel_rfl) fun a hs => ?_
            obtain ⟨v_38, h_37, hm⟩ := bind_t hm
            refine Vk.step (Vk.call (some 55) 123 #[.pointer (some ⟨b_x0, 0, none⟩), .int .i64 3] hs (by kernel_rfl) (by kernel_rfl) (by kernel_rfl) ?_)
            refine (visorref19_M_Fails.ok k x0 3 v_38 h_37 κ w (pt b_2 (blk (Tapi_Op.cells x1) 32) :: S) b_x0 A_x0oops c_x0oops A_x0oblocks c_x0oblocks A_x0oval c_x0oval A_x0otapel c_x0otapel (Own.to hs.own [0, 1, 2, 3, 4, 5] 6 (by kernel_rfl) (by kernel_rfl))).mono ?_
            rintro _ w ⟨Ar36o0oops_39, cr36o0oops_40, Ar36o0oblocks_41, cr36o0oblocks_42, Ar36o0oval_43, cr36o0oval_44, Ar36o0otapel_45, cr36o0otapel_46, rfl, how⟩
            refine ⟨_, _, _, rfl, how, fun a hs => ?_⟩
            refine Vk.pures 1 [(6, .int .i64 v_38.1)] hs (by kernel_rfl) fun a hs => ?_
            replace hs := hs.pick [6] (L' := [(6, .int .i64 v_38.1)]) (by kernel_rfl)
            refine Vk.done (by kernel_rfl) ?_
            refine hK35 _ _ ?_
            clear hK35
            refine wp_ret ?_
            exact Vk.ret1 (P := Try.prog) (fn := Try.f103) (R := visorref19_M_Do.R κ S x0 x1 x2 b_x0 A_x0oops c_x0oops A_x0oblocks c_x0oblocks A_x0oval c_x0oval A_x0otapel c_x0otapel r) (.int .i64 v_38.1) hs rfl (by kernel_rfl) (by obtain rfl := Option.some.inj hm; exact ⟨Ar36o0oops_39, cr36o0oops_40, Ar36o0oblocks_41, cr36o0oblocks_42, Ar36o0oval_43, cr36o0oval_44, Ar36o0otapel_45, cr36o0otapel_46, rfl, (Own.to hs.own [0, 1, 2, 3, 4] 6 (by kernel_rfl) (by kernel_rfl))⟩)
          · replace hm := bif_f hm hb
            refine wp_skip ?_
            refine hK28 _ _ ?_
            clear hK28
            refine Vk.seq fun K47 hK47 => ?_
            have hj47 : ∀ (p_94 : Tvisorref19_M) (p_97 : Int), visorref19_M_Do.j4 k x1 p_94 p_97 = some r → ∀ (A_95 : Option Addr) (c_96 : Nat) (a : Act) (w : World), St 137 a w κ [(0, .pointer (some ⟨b_x0, 0, none⟩)), (2, .int .u64 p_97), (4, .pointer (some ⟨b_2, 0, none⟩))] (pt b_x0 (blk (Tvisorref19_M.obj p_94 A_x0oops c_x0oops A_x0oblocks c_x0oblocks A_x0oval c_x0oval A_95 c_96) 123) :: rowp A_x0oops c_x0oops 32 6 Tapi_Op.cells p_94.ops :: rowp A_x0oblocks c_x0oblocks 144 3 Tapi_Span.cells p_94.blocks :: rowp A_x0oval c_x0oval 23 1 (eI .u64) p_94.val :: rdp κ A_95 c_96 1 (eI .u64) p_94.tape.l :: pt b_2 (blk (Tapi_Op.cells x1) 32) :: S) → K47 a w := by
              intro p_94 p_97 hm A_95 c_96 a w hs
              unfold visorref19_M_Do.j4 at hm
              refine hK47 _ _ ?_
              refine Vk.seq fun K98 hK98 => ?_
              have hj98 : ∀ (p_100 : Tvisorref19_M), visorref19_M_Do.j5 k x1 p_97 p_100 = some r → ∀ (a : Act) (w : World), St 137 a w κ [(0, .pointer (some ⟨b_x0, 0, none⟩)), (2, .int .u64 p_97), (4, .pointer (some ⟨b_2, 0, none⟩))] (pt b_x0 (blk (Tvisorref19_M.obj p_100 A_x0oops c_x0oops A_x0oblocks c_x0oblocks A_x0oval c_x0oval A_95 c_96) 123) :: rowp A_x0oops c_x0oops 32 6 Tapi_Op.cells p_100.ops :: rowp A_x0oblocks c_x0oblocks 144 3 Tapi_Span.cells p_100.blocks :: rowp A_x0oval c_x0oval 23 1 (eI .u64) p_100.val :: rdp κ A_95 c_96 1 (eI .u64) p_100.tape.l :: pt b_2 (blk (Tapi_Op.cells x1) 32) :: S) → K98 a w := by
                intro p_100 hm a w hs
                unfold visorref19_M_Do.j5 at hm
                refine hK98 _ _ ?_
                refine Vk.seq fun K101 hK101 => ?_
                have hj101 : ∀ (p_103 : Tvisorref19_M), visorref19_M_Do.j6 k x1 p_97 p_103 = some r → ∀ (a : Act) (w : World), St 137 a w κ [(0, .pointer (some ⟨b_x0, 0, none⟩)), (2, .int .u64 p_97), (4, .pointer (some ⟨b_2, 0, none⟩))] (pt b_x0 (blk (Tvisorref19_M.obj p_103 A_x0oops c_x0oops A_x0oblocks c_x0oblocks A_x0oval c_x0oval A_95 c_96) 123) :: rowp A_x0oops c_x0oops 32 6 Tapi_Op.cells p_103.ops :: rowp A_x0oblocks c_x0oblocks 144 3 Tapi_Span.cells p_103.blocks :: rowp A_x0oval c_x0oval 23 1 (eI .u64) p_103.val :: rdp κ A_95 c_96 1 (eI .u64) p_103.tape.l :: pt b_2 (blk (Tapi_Op.cells x1) 32) :: S) → K101 a w := by
                  intro p_103 hm a w hs
                  unfold visorref19_M_Do.j6 at hm
                  refine hK101 _ _ ?_
                  refine Vk.seq fun K104 hK104 => ?_
                  obtain ⟨C_105, hC_105⟩ : ∃ X0 : List HP, X0 = (pt b_x0 (blk (Tvisorref19_M.obj p_103 A_x0oops c_x0oops A_x0oblocks c_x0oblocks A_x0oval c_x0oval A_95 c_96) 123) :: rowp A_x0oops c_x0oops 32 6 Tapi_Op.cells p_103.ops :: rowp A_x0oblocks c_x0oblocks 144 3 Tapi_Span.cells p_103.blocks :: rdp κ A_95 c_96 1 (eI .u64) p_103.tape.l :: pt b_2 (blk (Tapi_Op.cells x1) 32) :: S) := ⟨_, rfl⟩
                  refine Vk.drawnT 22 κ C_105 hs (by kernel_rfl) fun w hs => ?_
                  have hcz : Own κ w (pt b_x0 (blk (Tvisorref19_M.obj p_103 A_x0oops c_x0oops A_x0oblocks c_x0oblocks A_x0oval c_x0oval A_95 c_96) 123) :: rowp A_x0oops c_x0oops 32 6 Tapi_Op.cells p_103.ops :: rowp A_x0oblocks c_x0oblocks 144 3 Tapi_Span.cells p_103.blocks :: rdp κ A_95 c_96 1 (eI .u64) p_103.tape.l :: pt b_2 (blk (Tapi_Op.cells x1) 32) :: S) := (Own.to hs.own [0, 1, 2, 4, 5] 6 (by kernel_rfl) (by kernel_rfl))
                  have hcl : Own κ w C_105 := by rw [hC_105]; exact hcz
                  refine Vk.dPuresT [0, 1, 2, 3, 6, 7, 10, 11, 14, 15, 18] [(118, .int .u64 p_97), (115, .pointer (some ⟨b_2, 4, none⟩)), (114, .pointer (some ⟨b_x0, 0, none⟩)), (111, .pointer (some ⟨b_2, 3, none⟩)), (110, .pointer (some ⟨b_x0, 0, none⟩)), (107, .pointer (some ⟨b_2, 2, none⟩)), (106, .pointer (some ⟨b_x0, 0, none⟩)), (103, .pointer (some ⟨b_x0, 10, none⟩)), (102, .pointer (some ⟨b_x0, 0, none⟩)), (101, .pointer (some ⟨b_x0, 0, none⟩)), (100, .pointer (some ⟨b_x0, 0, none⟩))] hs (by kernel_rfl) (by repeat' (first | exact Vk.Calm.post | refine Vk.Calm.then ?_ | refine Vk.Calm.inBlock ?_)) hcl (by kernel_rfl) (by kernel_rfl) (fuel := 14) rfl fun a hs => ?_
                  refine Vk.dTakeT (i := 4) (some 104) (.slice A_x0oval p_103.val.length c_x0oval) hs (by kernel_rfl) (by repeat' (first | exact Vk.Calm.post | refine Vk.Calm.then ?_ | refine Vk.Calm.inBlock ?_)) hcl (by kernel_rfl) (by kernel_rfl) (op := (.load 73 (.tmp 103))) (by kernel_rfl) (by kernel_rfl) (fun w hw o ho => by rw [hC_105] at hw; exact run_load1 (b := b_x0) (off := 10) (c := C.slc A_x0oval p_103.val.length c_x0oval) ho (by kernel_rfl) (by kernel_rfl) (Cell.own 0 rfl (by kernel_rfl)) _ hw) fun a hs => ?_
                  refine Vk.dTakeT (i := 5) (some 105) (.agg (vals [C.int .i64 x1.kind, C.int .i64 x1.dom, C.int .i64 x1.a, C.int .i64 x1.b, C.int .i64 x1.d, C.int .u64 x1.c])) hs (by kernel_rfl) (by repeat' (first | exact Vk.Calm.post | refine Vk.Calm.then ?_ | refine Vk.Calm.inBlock ?_)) hcl (by kernel_rfl) (by kernel_rfl) (op := (.load 32 (.tmp 4))) (by kernel_rfl) (by kernel_rfl) (fun w hw o ho => by rw [hC_105] at hw; exact run_loadN (cs := [C.int .i64 x1.kind, C.int .i64 x1.dom, C.int .i64 x1.a, C.int .i64 x1.b, C.int .i64 x1.d, C.int .u64 x1.c]) ho (by kernel_rfl) (by kernel_rfl) rfl (CellsAt.all 4 rfl) _ hw) fun a hs => ?_
                  refine Vk.dTakeT (i := 8) (some 108) (.int .i64 x1.a) hs (by kernel_rfl) (by repeat' (first | exact Vk.Calm.post | refine Vk.Calm.then ?_ | refine Vk.Calm.inBlock ?_)) hcl (by kernel_rfl) (by kernel_rfl) (op := (.load 3 (.tmp 107))) (by kernel_rfl) (by kernel_rfl) (fun w hw o ho => by rw [hC_105] at hw; exact run_load1 (b := b_2) (off := 2) (c := C.int .i64 x1.a) ho (by kernel_rfl) (by kernel_rfl) (Cell.own 4 rfl (by kernel_rfl)) _ hw) fun a hs => ?_
                  refine Vk.dTakeT (i := 12) (some 112) (.int .i64 x1.b) hs (by kernel_rfl) (by repeat' (first | exact Vk.Calm.post | refine Vk.Calm.then ?_ | refine Vk.Calm.inBlock ?_)) hcl (by kernel_rfl) (by kernel_rfl) (op := (.load 3 (.tmp 111))) (by kernel_rfl) (by kernel_rfl) (fun w hw o ho => by rw [hC_105] at hw; exact run_load1 (b := b_2) (off := 3) (c := C.int .i64 x1.b) ho (by kernel_rfl) (by kernel_rfl) (Cell.own 4 rfl (by kernel_rfl)) _ hw) fun a hs => ?_
                  refine Vk.dTakeT (i := 16) (some 116) (.int .i64 x1.d) hs (by kernel_rfl) (by repeat' (first | exact Vk.Calm.post | refine Vk.Calm.then ?_ | refine Vk.Calm.inBlock ?_)) hcl (by kernel_rfl) (by kernel_rfl) (op := (.load 3 (.tmp 115))) (by kernel_rfl) (by kernel_rfl) (fun w hw o ho => by rw [hC_105] at hw; exact run_load1 (b := b_2) (off := 4) (c := C.int .i64 x1.d) ho (by kernel_rfl) (by kernel_rfl) (Cell.own 4 rfl (by kernel_rfl)) _ hw) fun a hs => ?_
                  obtain ⟨v_108, h_107, hm⟩ := bind_t hm
                  refine Vk.dOnly (i := 9) (by kernel_rfl) (Vk.call (some 109) 97 #[.pointer (some ⟨b_x0, 0, none⟩), .int .i64 x1.a] hs (by kernel_rfl) (by kernel_rfl) (by kernel_rfl) ?_)
                  refine (visorref19_M_At.ok k p_103 x1.a v_108 h_107 κ w (pt b_2 (blk (Tapi_Op.cells x1) 32) :: S) b_x0 A_x0oops c_x0oops A_x0oblocks c_x0oblocks A_x0oval c_x0oval A_95 c_96 (Own.to hs.own [0, 1, 2, 3, 4, 5] 6 (by kernel_rfl) (by kernel_rfl))).mono ?_
                  rintro _ w ⟨rfl, how⟩
                  refine ⟨_, _, _, rfl, how, fun a hs => ?_⟩
                  replace hcl : Own κ w C_105 := by rw [hC_105]; exact (Own.to hs.own [0, 1, 2, 4, 5] 6 (by kernel_rfl) (by kernel_rfl))
                  refine ⟨fun _ => hcl, ?_⟩
                  obtain ⟨v_111, h_110, hm⟩ := bind_t hm
                  refine Vk.dOnly (i := 13) (by kernel_rfl) (Vk.call (some 113) 97 #[.pointer (some ⟨b_x0, 0, none⟩), .int .i64 x1.b] hs (by kernel_rfl) (by kernel_rfl) (by kernel_rfl) ?_)
                  refine (visorref19_M_At.ok k p_103 x1.b v_111 h_110 κ w (pt b_2 (blk (Tapi_Op.cells x1) 32) :: S) b_x0 A_x0oops c_x0oops A_x0oblocks c_x0oblocks A_x0oval c_x0oval A_95 c_96 (Own.to hs.own [0, 1, 2, 3, 4, 5] 6 (by kernel_rfl) (by kernel_rfl))).mono ?_
                  rintro _ w ⟨rfl, how⟩
                  refine ⟨_, _, _, rfl, how, fun a hs => ?_⟩
                  replace hcl : Own κ w C_105 := by rw [hC_105]; exact (Own.to hs.own [0, 1, 2, 4, 5] 6 (by kernel_rfl) (by kernel_rfl))
                  refine ⟨fun _ => hcl, ?_⟩
                  obtain ⟨v_114, h_113, hm⟩ := bind_t hm
                  refine Vk.dOnly (i := 17) (by kernel_rfl) (Vk.call (some 117) 97 #[.pointer (some ⟨b_x0, 0, none⟩), .int .i64 x1.d] hs (by kernel_rfl) (by kernel_rfl) (by kernel_rfl) ?_)
                  refine (visorref19_M_At.ok k p_103 x1.d v_114 h_113 κ w (pt b_2 (blk (Tapi_Op.cells x1) 32) :: S) b_x0 A_x0oops c_x0oops A_x0oblocks c_x0oblocks A_x0oval c_x0oval A_95 c_96 (Own.to hs.own [0, 1, 2, 3, 4, 5] 6 (by kernel_rfl) (by kernel_rfl))).mono ?_
                  rintro _ w ⟨rfl, how⟩
                  refine ⟨_, _, _, rfl, how, fun a hs => ?_⟩
                  replace hcl : Own κ w C_105 := by rw [hC_105]; exact (Own.to hs.own [0, 1, 2, 4, 5] 6 (by kernel_rfl) (by kernel_rfl))
                  refine ⟨fun _ => hcl, ?_⟩
                  obtain ⟨v_117, h_116, hm⟩ := bind_t hm
                  refine Vk.dOnly (i := 19) (by kernel_rfl) (Vk.call (some 119) 22 #[.agg (vals [C.int .i64 x1.kind, C.int .i64 x1.dom, C.int .i64 x1.a, C.int .i64 x1.b, C.int .i64 x1.d, C.int .u64 x1.c]), .int .u64 v_108, .int .u64 v_111, .int .u64 v_114, .int .u64 p_97] hs (by kernel_rfl) (by kernel_rfl) (by kernel_rfl) ?_)
                  refine (visorref17_Eval.ok k x1 v_108 v_111 v_114 p_97 v_117 h_116 κ w (pt b_x0 (blk (Tvisorref19_M.obj p_103 A_x0oops c_x0oops A_x0oblocks c_x0oblocks A_x0oval c_x0oval A_95 c_96) 123) :: rowp A_x0oops c_x0oops 32 6 Tapi_Op.cells p_103.ops :: rowp A_x0oblocks c_x0oblocks 144 3 Tapi_Span.cells p_103.blocks :: rowp A_x0oval c_x0oval 23 1 (eI .u64) p_103.val :: rdp κ A_95 c_96 1 (eI .u64) p_103.tape.l :: pt b_2 (blk (Tapi_Op.cells x1) 32) :: S) hs.own).mono ?_
                  rintro _ w ⟨rfl, how⟩
                  refine ⟨_, _, _, rfl, how, fun a hs => ?_⟩
                  replace hcl : Own κ w C_105 := by rw [hC_105]; exact (Own.to hs.own [0, 1, 2, 4, 5] 6 (by kernel_rfl) (by kernel_rfl))
                  refine ⟨fun _ => hcl, ?_⟩
                  refine Vk.dOnly (i := 20) (by kernel_rfl) (Vk.buildOp (sz := 1) (by_ := 8) (t := 73) (e := 23) (parts := #[(0, (.tmp 119))]) (zs := vals [C.int .u64 0]) ([v_117] : List Int) (eI .u64) (some 120) hs (by kernel_rfl) (by kernel_rfl) (by kernel_rfl) (by kernel_rfl) (by decide) rfl (fun x _ => rfl) (Nat.le_of_ble_eq_true (by kernel_rfl)) (by kernel_rfl) fun A_118 w a hs => ?_)
                  replace hcl : Own κ w C_105 := by rw [hC_105]; exact (Own.to hs.own [1, 2, 3, 5, 6] 7 (by kernel_rfl) (by kernel_rfl))
                  refine ⟨fun _ => hcl, ?_⟩
                  obtain ⟨h_120, hm⟩ := ite_t hm
                  refine Vk.dOnly (i := 21) (by kernel_rfl) (Vk.appendOp (x := (.tmp 104)) (y := (.tmp 120)) (e := 23) (t := 73) (by_ := 8) (sz := 1) (enc := (eI .u64)) (A := A_x0oval) (cap := c_x0oval) (xs := p_103.val) (ys := ([v_117] : List Int)) (B := A_118) (c2 := 1) 4 (some 121) hs (by kernel_rfl) (by kernel_rfl) (by kernel_rfl) (by kernel_rfl) rfl (Sl.lift (fun w ho => (Own.to (S' := rowp A_118 1 23 1 (eI .u64) ([v_117] : List Int) :: S) ho [0] 7 (by kernel_rfl) (by kernel_rfl))) (Own.rowSl 0 (Own.to (S' := rowp A_118 1 23 1 (eI .u64) ([v_117] : List Int) :: S) hs.own [0] 7 (by kernel_rfl) (by kernel_rfl)) rfl)) (by kernel_rfl) (by kernel_rfl) (by decide) (by decide) h_120 fun A_121 c_122 w a hs => ?_)
                  replace hcl : Own κ w C_105 := by rw [hC_105]; exact (Own.to hs.own [1, 2, 3, 5, 6] 7 (by kernel_rfl) (by kernel_rfl))
                  refine ⟨fun _ => hcl, ?_⟩
                  refine Vk.dOnly (i := 22) (by kernel_rfl) (Vk.dPure1 [(122, .pointer (some ⟨b_x0, 0, none⟩))] hs (by kernel_rfl) fun a hs => ?_)
                  refine ⟨fun h => absurd h (by decide), ?_⟩
                  refine Vk.dOnly (i := 23) (by kernel_rfl) (Vk.dPure1 [(123, .pointer (some ⟨b_x0, 10, none⟩))] hs (by kernel_rfl) fun a hs => ?_)
                  refine ⟨fun h => absurd h (by decide), ?_⟩
                  refine Vk.dOnly (i := 24) (by kernel_rfl) (Vk.store1 (b := b_x0) (ty := 73) (x := (.tmp 123)) (y := (.tmp 121)) (off := 10) (C.slc A_121 ((p_103.val ++ ([v_117] : List Int)).length) c_122) 1 hs (by kernel_rfl) (by kernel_rfl) (by kernel_rfl) (by kernel_rfl) (by kernel_rfl) (by kernel_rfl) rfl (Nat.le_of_ble_eq_true (by kernel_rfl)) fun a w hs => ?_)
                  refine ⟨fun h => absurd h (by decide), ?_⟩
                  replace hs := hs.pick [0, 4] (L' := [(0, .pointer (some ⟨b_x0, 0, none⟩)), (4, .pointer (some ⟨b_2, 0, none⟩))]) (by kernel_rfl)
                  refine Vk.dDone (by kernel_rfl) ?_
                  refine hK104 _ _ ?_
                  clear hK104
                  refine Vk.seq fun K123 hK123 => ?_
                  obtain ⟨C_124, hC_124⟩ : ∃ X0 : List HP, X0 = (rowp A_118 1 23 1 (eI .u64) ([v_117] : List Int) :: pt b_x0 (blk ((Tvisorref19_M.obj p_103 A_x0oops c_x0oops A_x0oblocks c_x0oblocks none 0 A_95 c_96).set 10 (C.slc A_121 ((p_103.val ++ ([v_117] : List Int)).length) c_122)) 123) :: rowp A_x0oblocks c_x0oblocks 144 3 Tapi_Span.cells p_103.blocks :: rowp A_121 c_122 23 1 (eI .u64) (p_103.val ++ ([v_117] : List Int)) :: rdp κ A_95 c_96 1 (eI .u64) p_103.tape.l :: pt b_2 (blk (Tapi_Op.cells x1) 32) :: S) := ⟨_, rfl⟩
                  refine Vk.drawnT 8 κ C_124 hs (by kernel_rfl) fun w hs => ?_
                  have hcz : Own κ w (rowp A_118 1 23 1 (eI .u64) ([v_117] : List Int) :: pt b_x0 (blk ((Tvisorref19_M.obj p_103 A_x0oops c_x0oops A_x0oblocks c_x0oblocks none 0 A_95 c_96).set 10 (C.slc A_121 ((p_103.val ++ ([v_117] : List Int)).length) c_122)) 123) :: rowp A_x0oblocks c_x0oblocks 144 3 Tapi_Span.cells p_103.blocks :: rowp A_121 c_122 23 1 (eI .u64) (p_103.val ++ ([v_117] : List Int)) :: rdp κ A_95 c_96 1 (eI .u64) p_103.tape.l :: pt b_2 (blk (Tapi_Op.cells x1) 32) :: S) := (Own.to hs.own [0, 1, 3, 4, 5, 6] 7 (by kernel_rfl) (by kernel_rfl))
                  have hcl : Own κ w C_124 := by rw [hC_124]; exact hcz
                  refine Vk.dPuresT [0, 1, 2, 3] [(127, .pointer (some ⟨b_x0, 8, none⟩)), (126, .pointer (some ⟨b_x0, 0, none⟩)), (125, .pointer (some ⟨b_x0, 0, none⟩)), (124, .pointer (some ⟨b_x0, 0, none⟩))] hs (by kernel_rfl) (by repeat' (first | exact Vk.Calm.post | refine Vk.Calm.then ?_ | refine Vk.Calm.inBlock ?_)) hcl (by kernel_rfl) (by kernel_rfl) (fuel := 7) rfl fun a hs => ?_
                  refine Vk.dTakeT (i := 4) (some 128) (.slice A_x0oops p_103.ops.length c_x0oops) hs (by kernel_rfl) (by repeat' (first | exact Vk.Calm.post | refine Vk.Calm.then ?_ | refine Vk.Calm.inBlock ?_)) hcl (by kernel_rfl) (by kernel_rfl) (op := (.load 69 (.tmp 127))) (by kernel_rfl) (by kernel_rfl) (fun w hw o ho => by rw [hC_124] at hw; exact run_load1 (b := b_x0) (off := 8) (c := C.slc A_x0oops p_103.ops.length c_x0oops) ho (by kernel_rfl) (by kernel_rfl) (Cell.own 1 rfl (by kernel_rfl)) _ hw) fun a hs => ?_
                  refine Vk.dTakeT (i := 5) (some 129) (.agg (vals [C.int .i64 x1.kind, C.int .i64 x1.dom, C.int .i64 x1.a, C.int .i64 x1.b, C.int .i64 x1.d, C.int .u64 x1.c])) hs (by kernel_rfl) (by repeat' (first | exact Vk.Calm.post | refine Vk.Calm.then ?_ | refine Vk.Calm.inBlock ?_)) hcl (by kernel_rfl) (by kernel_rfl) (op := (.load 32 (.tmp 4))) (by kernel_rfl) (by kernel_rfl) (fun w hw o ho => by rw [hC_124] at hw; exact run_loadN (cs := [C.int .i64 x1.kind, C.int .i64 x1.dom, C.int .i64 x1.a, C.int .i64 x1.b, C.int .i64 x1.d, C.int .u64 x1.c]) ho (by kernel_rfl) (by kernel_rfl) rfl (CellsAt.all 5 rfl) _ hw) fun a hs => ?_
                  refine Vk.dOnly (i := 6) (by kernel_rfl) (Vk.buildOp (sz := 6) (by_ := 48) (t := 69) (e := 32) (parts := #[(0, (.tmp 129))]) (zs := vals [C.int .i64 0, C.int .i64 0, C.int .i64 0, C.int .i64 0, C.int .i64 0, C.int .u64 0]) ([x1] : List Tapi_Op) Tapi_Op.cells (some 130) hs (by kernel_rfl) (by kernel_rfl) (by kernel_rfl) (by kernel_rfl) (by decide) rfl (fun x _ => rfl) (Nat.le_of_ble_eq_true (by kernel_rfl)) (by kernel_rfl) fun A_125 w a hs => ?_)
                  replace hcl : Own κ w C_124 := by rw [hC_124]; exact (Own.to hs.own [1, 2, 4, 5, 6, 7] 8 (by kernel_rfl) (by kernel_rfl))
                  refine ⟨fun _ => hcl, ?_⟩
                  obtain ⟨h_127, hm⟩ := ite_t hm
                  refine Vk.dOnly (i := 7) (by kernel_rfl) (Vk.appendOp (x := (.tmp 128)) (y := (.tmp 130)) (e := 32) (t := 69) (by_ := 48) (sz := 6) (enc := Tapi_Op.cells) (A := A_x0oops) (cap := c_x0oops) (xs := p_103.ops) (ys := ([x1] : List Tapi_Op)) (B := A_125) (c2 := 1) 3 (some 131) hs (by kernel_rfl) (by kernel_rfl) (by kernel_rfl) (by kernel_rfl) rfl (Sl.lift (fun w ho => (Own.to (S' := rowp A_125 1 32 6 Tapi_Op.cells ([x1] : List Tapi_Op) :: S) ho [0] 8 (by kernel_rfl) (by kernel_rfl))) (Own.rowSl 0 (Own.to (S' := rowp A_125 1 32 6 Tapi_Op.cells ([x1] : List Tapi_Op) :: S) hs.own [0] 8 (by kernel_rfl) (by kernel_rfl)) rfl)) (by kernel_rfl) (by kernel_rfl) (by decide) (by decide) h_127 fun A_128 c_129 w a hs => ?_)
                  replace hcl : Own κ w C_124 := by rw [hC_124]; exact (Own.to hs.own [1, 2, 4, 5, 6, 7] 8 (by kernel_rfl) (by kernel_rfl))
                  refine ⟨fun _ => hcl, ?_⟩
                  refine Vk.dOnly (i := 8) (by kernel_rfl) (Vk.dPure1 [(132, .pointer (some ⟨b_x0, 0, none⟩))] hs (by kernel_rfl) fun a hs => ?_)
                  refine ⟨fun h => absurd h (by decide), ?_⟩
                  refine Vk.dOnly (i := 9) (by kernel_rfl) (Vk.dPure1 [(133, .pointer (some ⟨b_x0, 8, none⟩))] hs (by kernel_rfl) fun a hs => ?_)
                  refine ⟨fun h => absurd h (by decide), ?_⟩
                  refine Vk.dOnly (i := 10) (by kernel_rfl) (Vk.store1 (b := b_x0) (ty := 69) (x := (.tmp 133)) (y := (.tmp 131)) (off := 8) (C.slc A_128 ((p_103.ops ++ ([x1] : List Tapi_Op)).length) c_129) 2 hs (by kernel_rfl) (by kernel_rfl) (by kernel_rfl) (by kernel_rfl) (by kernel_rfl) (by kernel_rfl) rfl (Nat.le_of_ble_eq_true (by kernel_rfl)) fun a w hs => ?_)
                  refine ⟨fun h => absurd h (by decide), ?_⟩
                  replace hs := hs.pick [0] (L' := [(0, .pointer (some ⟨b_x0, 0, none⟩))]) (by kernel_rfl)
                  refine Vk.dDone (by kernel_rfl) ?_
                  refine hK123 _ _ ?_
                  clear hK123
                  refine Vk.seq fun K130 hK130 => ?_
                  refine Vk.region ?_
                  refine Vk.pures 1 [(134, .pointer (some ⟨b_x0, 0, none⟩))] hs (by kernel_rfl) fun a hs => ?_
                  obtain ⟨v_133, h_132, hm⟩ := bind_t hm
                  refine Vk.step (Vk.call (some 135) 69 #[.pointer (some ⟨b_x0, 0, none⟩)] hs (by kernel_rfl) (by kernel_rfl) (by kernel_rfl) ?_)
                  refine (visorref19_M_Len.ok k (⟨p_103.n, p_103.most, p_103.words, p_103.draws, p_103.fromF, p_103.skip, p_103.kind, p_103.e, p_103.ops ++ ([x1] : List Tapi_Op), p_103.blocks, p_103.val ++ ([v_117] : List Int), p_103.tape, p_103.dry⟩ : Tvisorref19_M) v_133 h_132 κ w (rowp A_125 1 32 6 Tapi_Op.cells ([x1] : List Tapi_Op) :: rowp A_118 1 23 1 (eI .u64) ([v_117] : List Int) :: pt b_2 (blk (Tapi_Op.cells x1) 32) :: S) b_x0 A_128 c_129 A_x0oblocks c_x0oblocks A_121 c_122 A_95 c_96 (Own.to hs.own [2, 3, 4, 5, 6, 0, 1, 7] 8 (by kernel_rfl) (by kernel_rfl))).mono ?_
                  rintro _ w ⟨rfl, how⟩
                  refine ⟨_, _, _, rfl, how, fun a hs => ?_⟩
                  refine Vk.pures 2 [(6, .int .i64 (IntKind.i64.wrap (v_133 - 1))), (136, .int .i64 (IntKind.i64.wrap (v_133 - 1)))] hs (by kernel_rfl) fun a hs => ?_
                  replace hs := hs.pick [6] (L' := [(6, .int .i64 (IntKind.i64.wrap (v_133 - 1)))]) (by kernel_rfl)
                  refine Vk.done (by kernel_rfl) ?_
                  refine hK130 _ _ ?_
                  clear hK130
                  refine wp_ret ?_
                  exact Vk.ret1 (P := Try.prog) (fn := Try.f103) (R := visorref19_M_Do.R κ S x0 x1 x2 b_x0 A_x0oops c_x0oops A_x0oblocks c_x0oblocks A_x0oval c_x0oval A_x0otapel c_x0otapel r) (.int .i64 (IntKind.i64.wrap (v_133 - 1))) hs rfl (by kernel_rfl) (by obtain rfl := Option.some.inj hm; exact ⟨A_128, c_129, A_x0oblocks, c_x0oblocks, A_121, c_122, A_95, c_96, rfl, (Own.to hs.own [0, 1, 2, 3, 4] 8 (by kernel_rfl) (by kernel_rfl))⟩)
                refine Vk.seq fun K102 hK102 => ?_
                refine Vk.region ?_
                refine Vk.pures 1 [(89, .pointer (some ⟨b_2, 0, none⟩))] hs (by kernel_rfl) fun a hs => ?_
                refine Vk.step (Vk.value (some 90) (.int .i64 x1.kind) hs (by kernel_rfl) (op := (.load 3 (.tmp 89))) (by kernel_rfl) (fun o ho => run_load1 (b := b_2) (off := 0) (c := C.int .i64 x1.kind) ho (by kernel_rfl) (by kernel_rfl) (Cell.own 5 rfl (by kernel_rfl)) _ hs.own) fun a hs => ?_)
                refine Vk.pures 1 [(91, .bool (x1.kind == 2))] hs (by kernel_rfl) fun a hs => ?_
                replace hs := hs.pick [0, 2, 4, 91] (L' := [(0, .pointer (some ⟨b_x0, 0, none⟩)), (2, .int .u64 p_97), (4, .pointer (some ⟨b_2, 0, none⟩)), (91, .bool (x1.kind == 2))]) (by kernel_rfl)
                refine Vk.done (by kernel_rfl) ?_
                refine hK102 _ _ ?_
                clear hK102
                refine Vk.condS (b := x1.kind == 2) hs (by kernel_rfl) (by kernel_rfl) (fun hb => ?_) (fun hb => ?_)
                · replace hm := bif_t hm hb
                  refine Vk.region ?_
                  refine Vk.pures 4 [(95, .pointer (some ⟨b_x0, 2, none⟩)), (94, .pointer (some ⟨b_x0, 0, none⟩)), (93, .pointer (some ⟨b_x0, 0, none⟩)), (92, .pointer (some ⟨b_x0, 0, none⟩))] hs (by kernel_rfl) fun a hs => ?_
                  refine Vk.step (Vk.value (some 96) (.int .i64 p_100.words) hs (by kernel_rfl) (op := (.load 3 (.tmp 95))) (by kernel_rfl) (fun o ho => run_load1 (b := b_x0) (off := 2) (c := C.int .i64 p_100.words) ho (by kernel_rfl) (by kernel_rfl) (Cell.own 0 rfl (by kernel_rfl)) _ hs.own) fun a hs => ?_)
                  refine Vk.pures 3 [(99, .pointer (some ⟨b_x0, 2, none⟩)), (98, .pointer (some ⟨b_x0, 0, none⟩)), (97, .int .i64 (IntKind.i64.wrap (p_100.words + 1)))] hs (by kernel_rfl) fun a hs => ?_
                  refine Vk.step (Vk.store1 (b := b_x0) (ty := 3) (x := (.tmp 99)) (y := (.tmp 97)) (off := 2) (C.int .i64 (IntKind.i64.wrap (p_100.words + 1))) 0 hs (by kernel_rfl) (by kernel_rfl) (by kernel_rfl) (by kernel_rfl) (by kernel_rfl) (by kernel_rfl) rfl (Nat.le_of_ble_eq_true (by kernel_rfl)) fun a w hs => ?_)
                  replace hs := hs.pick [0, 2, 4] (L' := [(0, .pointer (some ⟨b_x0, 0, none⟩)), (2, .int .u64 p_97), (4, .pointer (some ⟨b_2, 0, none⟩))]) (by kernel_rfl)
                  refine Vk.done (by kernel_rfl) ?_
                  exact hj101 (⟨p_100.n, p_100.most, IntKind.i64.wrap (p_100.words + 1), p_100.draws, p_100.fromF, p_100.skip, p_100.kind, p_100.e, p_100.ops, p_100.blocks, p_100.val, p_100.tape, p_100.dry⟩ : Tvisorref19_M) hm _ _ (hs.go [0, 2, 4] [0, 1, 2, 3, 4, 5] 6 (by kernel_rfl) (by kernel_rfl) (by kernel_rfl))
                · replace hm := bif_f hm hb
                  refine wp_skip ?_
                  exact hj101 p_100 hm _ _ (hs.go [0, 2, 4] [0, 1, 2, 3, 4, 5] 6 (by kernel_rfl) (by kernel_rfl) (by kernel_rfl))
              refine Vk.seq fun K99 hK99 => ?_
              refine Vk.region ?_
              refine Vk.pures 1 [(78, .pointer (some ⟨b_2, 0, none⟩))] hs (by kernel_rfl) fun a hs => ?_
              refine Vk.step (Vk.value (some 79) (.int .i64 x1.kind) hs (by kernel_rfl) (op := (.load 3 (.tmp 78))) (by kernel_rfl) (fun o ho => run_load1 (b := b_2) (off := 0) (c := C.int .i64 x1.kind) ho (by kernel_rfl) (by kernel_rfl) (Cell.own 5 rfl (by kernel_rfl)) _ hs.own) fun a hs => ?_)
              refine Vk.pures 1 [(80, .bool (x1.kind == 1))] hs (by kernel_rfl) fun a hs => ?_
              replace hs := hs.pick [0, 2, 4, 80] (L' := [(0, .pointer (some ⟨b_x0, 0, none⟩)), (2, .int .u64 p_97), (4, .pointer (some ⟨b_2, 0, none⟩)), (80, .bool (x1.kind == 1))]) (by kernel_rfl)
              refine Vk.done (by kernel_rfl) ?_
              refine hK99 _ _ ?_
              clear hK99
              refine Vk.condS (b := x1.kind == 1) hs (by kernel_rfl) (by kernel_rfl) (fun hb => ?_) (fun hb => ?_)
              · replace hm := bif_t hm hb
                refine Vk.region ?_
                refine Vk.pures 4 [(84, .pointer (some ⟨b_x0, 3, none⟩)), (83, .pointer (some ⟨b_x0, 0, none⟩)), (82, .pointer (some ⟨b_x0, 0, none⟩)), (81, .pointer (some ⟨b_x0, 0, none⟩))] hs (by kernel_rfl) fun a hs => ?_
                refine Vk.step (Vk.value (some 85) (.int .i64 p_94.draws) hs (by kernel_rfl) (op := (.load 3 (.tmp 84))) (by kernel_rfl) (fun o ho => run_load1 (b := b_x0) (off := 3) (c := C.int .i64 p_94.draws) ho (by kernel_rfl) (by kernel_rfl) (Cell.own 0 rfl (by kernel_rfl)) _ hs.own) fun a hs => ?_)
                refine Vk.pures 3 [(88, .pointer (some ⟨b_x0, 3, none⟩)), (87, .pointer (some ⟨b_x0, 0, none⟩)), (86, .int .i64 (IntKind.i64.wrap (p_94.draws + 1)))] hs (by kernel_rfl) fun a hs => ?_
                refine Vk.step (Vk.store1 (b := b_x0) (ty := 3) (x := (.tmp 88)) (y := (.tmp 86)) (off := 3) (C.int .i64 (IntKind.i64.wrap (p_94.draws + 1))) 0 hs (by kernel_rfl) (by kernel_rfl) (by kernel_rfl) (by kernel_rfl) (by kernel_rfl) (by kernel_rfl) rfl (Nat.le_of_ble_eq_true (by kernel_rfl)) fun a w hs => ?_)
                replace hs := hs.pick [0, 2, 4] (L' := [(0, .pointer (some ⟨b_x0, 0, none⟩)), (2, .int .u64 p_97), (4, .pointer (some ⟨b_2, 0, none⟩))]) (by kernel_rfl)
                refine Vk.done (by kernel_rfl) ?_
                exact hj98 (⟨p_94.n, p_94.most, p_94.words, IntKind.i64.wrap (p_94.draws + 1), p_94.fromF, p_94.skip, p_94.kind, p_94.e, p_94.ops, p_94.blocks, p_94.val, p_94.tape, p_94.dry⟩ : Tvisorref19_M) hm _ _ (hs.go [0, 2, 4] [0, 1, 2, 3, 4, 5] 6 (by kernel_rfl) (by kernel_rfl) (by kernel_rfl))
              · replace hm := bif_f hm hb
                refine wp_skip ?_
                exact hj98 p_94 hm _ _ (hs.go [0, 2, 4] [0, 1, 2, 3, 4, 5] 6 (by kernel_rfl) (by kernel_rfl) (by kernel_rfl))
            refine Vk.seq fun K48 hK48 => ?_
            refine Vk.region ?_
            refine Vk.pures 1 [(56, .pointer (some ⟨b_2, 0, none⟩))] hs (by kernel_rfl) fun a hs => ?_
            refine Vk.step (Vk.value (some 57) (.int .i64 x1.kind) hs (by kernel_rfl) (op := (.load 3 (.tmp 56))) (by kernel_rfl) (fun o ho => run_load1 (b := b_2) (off := 0) (c := C.int .i64 x1.kind) ho (by kernel_rfl) (by kernel_rfl) (Cell.own 5 rfl (by kernel_rfl)) _ hs.own) fun a hs => ?_)
            refine Vk.pures 2 [(59, .bool (x1.kind == 1)), (58, .bool (x1.kind == 1))] hs (by kernel_rfl) fun a hs => ?_
            suffices hj_49 : ∀ a, St 137 a w κ [(0, .pointer (some ⟨b_x0, 0, none⟩)), (2, .int .u64 x2), (4, .pointer (some ⟨b_2, 0, none⟩)), (53, .bool p_34), (56, .pointer (some ⟨b_2, 0, none⟩)), (57, .int .i64 x1.kind), (58, .bool (x1.kind == 1)), (59, .bool (x1.kind == 1)), (65, .bool ((x1.kind == 1) && (!x0.dry)))] (pt b_x0 (blk (Tvisorref19_M.obj x0 A_x0oops c_x0oops A_x0oblocks c_x0oblocks A_x0oval c_x0oval A_x0otapel c_x0otapel) 123) :: rowp A_x0oops c_x0oops 32 6 Tapi_Op.cells x0.ops :: rowp A_x0oblocks c_x0oblocks 144 3 Tapi_Span.cells x0.blocks :: rowp A_x0oval c_x0oval 23 1 (eI .u64) x0.val :: rdp κ A_x0otapel c_x0otapel 1 (eI .u64) x0.tape.l :: pt b_2 (blk (Tapi_Op.cells x1) 32) :: S) → wpFrom Try.prog _ _ 10 a w by
              rcases Bool.eq_false_or_eq_true (x1.kind == 1) with hb | hb
              · replace hs := hs.known (t := 59) hb (by kernel_rfl)
                refine Vk.pures 3 [(62, .pointer (some ⟨b_x0, 14, none⟩)), (61, .pointer (some ⟨b_x0, 0, none⟩)), (60, .pointer (some ⟨b_x0, 0, none⟩))] hs (by kernel_rfl) fun a hs => ?_
                refine Vk.step (Vk.value (some 63) (.bool x0.dry) hs (by kernel_rfl) (op := (.load 4 (.tmp 62))) (by kernel_rfl) (fun o ho => run_load1 (b := b_x0) (off := 14) (c := C.bool x0.dry) ho (by kernel_rfl) (by kernel_rfl) (Cell.own 0 rfl (by kernel_rfl)) _ hs.own) fun a hs => ?_)
                refine Vk.pures 2 [(65, .bool (!x0.dry)), (64, .bool (!x0.dry))] hs (by kernel_rfl) fun a hs => ?_
                have hq := hs.pick [0, 2, 4, 53, 56, 57, 58, 59, 65] (L' := [(0, .pointer (some ⟨b_x0, 0, none⟩)), (2, .int .u64 x2), (4, .pointer (some ⟨b_2, 0, none⟩)), (53, .bool p_34), (56, .pointer (some ⟨b_2, 0, none⟩)), (57, .int .i64 x1.kind), (58, .bool (x1.kind == 1)), (59, .bool true), (65, .bool (!x0.dry))]) (by kernel_rfl)
                exact hj_49 _ (hq.conv (by first | (rw [hb] <;> rfl) | rfl))
              · replace hs := hs.known (t := 59) hb (by kernel_rfl)
                refine Vk.pures 6 [(65, .bool false), (64, undef), (63, undef), (62, undef), (61, undef), (60, undef)] hs (by kernel_rfl) fun a hs => ?_
                have hq := hs.pick [0, 2, 4, 53, 56, 57, 58, 59, 65] (L' := [(0, .pointer (some ⟨b_x0, 0, none⟩)), (2, .int .u64 x2), (4, .pointer (some ⟨b_2, 0, none⟩)), (53, .bool p_34), (56, .pointer (some ⟨b_2, 0, none⟩)), (57, .int .i64 x1.kind), (58, .bool (x1.kind == 1)), (59, .bool false), (65, .bool false)]) (by kernel_rfl)
                exact hj_49 _ (hq.conv (by first | (rw [hb] <;> rfl) | rfl))
            intro a hs
            replace hs := hs.pick [0, 2, 4, 65] (L' := [(0, .pointer (some ⟨b_x0, 0, none⟩)), (2, .int .u64 x2), (4, .pointer (some ⟨b_2, 0, none⟩)), (65, .bool ((x1.kind == 1) && (!x0.dry)))]) (by kernel_rfl)
            refine Vk.done (by kernel_rfl) ?_
            refine hK48 _ _ ?_
            clear hK48
            refine Vk.condS (b := (x1.kind == 1) && (!x0.dry)) hs (by kernel_rfl) (by kernel_rfl) (fun hb => ?_) (fun hb => ?_)
            · replace hm := bif_t hm hb
              refine Vk.seq fun K50 hK50 => ?_
              refine Vk.region ?_
              refine Vk.pures 3 [(69, .pointer (some ⟨b_x0, 11, none⟩)), (68, .pointer (some ⟨b_x0, 0, none⟩)), (67, .pointer (some ⟨b_x0, 0, none⟩))] hs (by kernel_rfl) fun a hs => ?_
              refine Vk.step (Vk.call (some 70) 124 #[.pointer (some ⟨b_x0, 11, none⟩)] hs (by kernel_rfl) (by kernel_rfl) (by kernel_rfl) ?_)
              refine Vk.enterI [(0, .pointer (some ⟨b_x0, 11, none⟩))] Try.func124 rfl Try.ntmps124 (by kernel_rfl) (Nat.le_of_ble_eq_true (by kernel_rfl)) hs.own fun KR51 hKR51 hKP51 a hs => ?_
              have hj51 : ∀ (p_75 : Int) (p_76 : Bool) (p_77 : Tvisorref19_M), visorref19_M_Do.j3 k x1 p_75 p_76 p_77 = some r → ∀ (A_78 : Option Addr) (c_79 : Nat) (a : Act) (w : World), St 49 a w κ [(2, .int .u64 p_75), (3, .bool p_76)] (pt b_x0 (blk (Tvisorref19_M.obj p_77 A_x0oops c_x0oops A_x0oblocks c_x0oblocks A_x0oval c_x0oval A_78 c_79) 123) :: rowp A_x0oops c_x0oops 32 6 Tapi_Op.cells p_77.ops :: rowp A_x0oblocks c_x0oblocks 144 3 Tapi_Span.cells p_77.blocks :: rowp A_x0oval c_x0oval 23 1 (eI .u64) p_77.val :: rdp κ A_78 c_79 1 (eI .u64) p_77.tape.l :: pt b_2 (blk (Tapi_Op.cells x1) 32) :: S) → KR51 a w := by
                intro p_75 p_76 p_77 hm A_78 c_79 a w hs
                unfold visorref19_M_Do.j3 at hm
                refine hKR51 _ _ ?_
                refine Vk.ret2 (P := Try.prog) (fn := Try.f124) (.int .u64 p_75) (.bool p_76) hs rfl (by kernel_rfl) (by kernel_rfl) ⟨_, _, _, rfl, hs.own, fun a hs => ?_⟩
                refine Vk.pures 5 [(8, .bool p_76), (7, .int .u64 p_75), (72, .bool p_76), (71, .int .u64 p_75), (66, .tuple #[.int .u64 p_75, .bool p_76])] hs (by kernel_rfl) fun a hs => ?_
                replace hs := hs.pick [0, 4, 7, 8] (L' := [(0, .pointer (some ⟨b_x0, 0, none⟩)), (4, .pointer (some ⟨b_2, 0, none⟩)), (7, .int .u64 p_75), (8, .bool p_76)]) (by kernel_rfl)
                refine Vk.done (by kernel_rfl) ?_
                refine hK50 _ _ ?_
                clear hK50
                refine Vk.seq fun K80 hK80 => ?_
                refine Vk.seq fun K81 hK81 => ?_
                refine Vk.region ?_
                refine Vk.pures 2 [(74, .bool (!p_76)), (73, .bool p_76)] hs (by kernel_rfl) fun a hs => ?_
                replace hs := hs.pick [0, 4, 7, 74] (L' := [(0, .pointer (some ⟨b_x0, 0, none⟩)), (4, .pointer (some ⟨b_2, 0, none⟩)), (7, .int .u64 p_75), (74, .bool (!p_76))]) (by kernel_rfl)
                refine Vk.done (by kernel_rfl) ?_
                refine hK81 _ _ ?_
                clear hK81
                refine Vk.condS (b := !p_76) hs (by kernel_rfl) (by kernel_rfl) (fun hb => ?_) (fun hb => ?_)
                · replace hm := bif_t hm hb
                  refine Vk.seq fun K82 hK82 => ?_
                  refine Vk.region ?_
                  refine Vk.pures 1 [(75, .pointer (some ⟨b_x0, 0, none⟩))] hs (by kernel_rfl) fun a hs => ?_
                  obtain ⟨v_85, h_84, hm⟩ := bind_t hm
                  refine Vk.step (Vk.call (some 76) 123 #[.pointer (some ⟨b_x0, 0, none⟩), .int .i64 2] hs (by kernel_rfl) (by kernel_rfl) (by kernel_rfl) ?_)
                  refine (visorref19_M_Fails.ok k p_77 2 v_85 h_84 κ w (pt b_2 (blk (Tapi_Op.cells x1) 32) :: S) b_x0 A_x0oops c_x0oops A_x0oblocks c_x0oblocks A_x0oval c_x0oval A_78 c_79 (Own.to hs.own [0, 1, 2, 3, 4, 5] 6 (by kernel_rfl) (by kernel_rfl))).mono ?_
                  rintro _ w ⟨Ar83o0oops_86, cr83o0oops_87, Ar83o0oblocks_88, cr83o0oblocks_89, Ar83o0oval_90, cr83o0oval_91, Ar83o0otapel_92, cr83o0otapel_93, rfl, how⟩
                  refine ⟨_, _, _, rfl, how, fun a hs => ?_⟩
                  refine Vk.pures 1 [(6, .int .i64 v_85.1)] hs (by kernel_rfl) fun a hs => ?_
                  replace hs := hs.pick [6] (L' := [(6, .int .i64 v_85.1)]) (by kernel_rfl)
                  refine Vk.done (by kernel_rfl) ?_
                  refine hK82 _ _ ?_
                  clear hK82
                  refine wp_ret ?_
                  exact Vk.ret1 (P := Try.prog) (fn := Try.f103) (R := visorref19_M_Do.R κ S x0 x1 x2 b_x0 A_x0oops c_x0oops A_x0oblocks c_x0oblocks A_x0oval c_x0oval A_x0otapel c_x0otapel r) (.int .i64 v_85.1) hs rfl (by kernel_rfl) (by obtain rfl := Option.some.inj hm; exact ⟨Ar83o0oops_86, cr83o0oops_87, Ar83o0oblocks_88, cr83o0oblocks_89, Ar83o0oval_90, cr83o0oval_91, Ar83o0otapel_92, cr83o0otapel_93, rfl, (Own.to hs.own [0, 1, 2, 3, 4] 6 (by kernel_rfl) (by kernel_rfl))⟩)
                · replace hm := bif_f hm hb
                  refine wp_skip ?_
                  refine hK80 _ _ ?_
                  clear hK80
                  refine Vk.region ?_
                  refine Vk.pures 2 [(2, .int .u64 p_75), (77, .int .u64 p_75)] hs (by kernel_rfl) fun a hs => ?_
                  replace hs := hs.pick [0, 2, 4] (L' := [(0, .pointer (some ⟨b_x0, 0, none⟩)), (2, .int .u64 p_75), (4, .pointer (some ⟨b_2, 0, none⟩))]) (by kernel_rfl)
                  refine Vk.done (by kernel_rfl) ?_
                  exact hj47 p_77 p_75 hm A_78 c_79 _ _ (hs.go [0, 2, 4] [0, 1, 2, 3, 4, 5] 6 (by kernel_rfl) (by kernel_rfl) (by kernel_rfl))
              refine Vk.seq fun K52 hK52 => ?_
              refine Vk.region ?_
              refine Vk.pures 2 [(3, .bool false), (2, .int .u64 0)] hs (by kernel_rfl) fun a hs => ?_
              replace hs := hs.pick [0] (L' := [(0, .pointer (some ⟨b_x0, 11, none⟩))]) (by kernel_rfl)
              refine Vk.done (by kernel_rfl) ?_
              refine hK52 _ _ ?_
              clear hK52
              refine Vk.seq fun K53 hK53 => ?_
              refine Vk.seq fun K54 hK54 => ?_
              refine Vk.region ?_
              refine Vk.pures 3 [(7, .pointer (some ⟨b_x0, 13, none⟩)), (6, .pointer (some ⟨b_x0, 11, none⟩)), (5, .pointer (some ⟨b_x0, 11, none⟩))] hs (by kernel_rfl) fun a hs => ?_
              refine Vk.step (Vk.value (some 8) (.int .i64 x0.tape.free) hs (by kernel_rfl) (op := (.load 3 (.tmp 7))) (by kernel_rfl) (fun o ho => run_load1 (b := b_x0) (off := 13) (c := C.int .i64 x0.tape.free) ho (by kernel_rfl) (by kernel_rfl) (Cell.own 0 rfl (by kernel_rfl)) _ hs.own) fun a hs => ?_)
              refine Vk.pures 2 [(10, .bool (decide (x0.tape.free < 1))), (9, .bool (decide (x0.tape.free < 1)))] hs (by kernel_rfl) fun a hs => ?_
              suffices hj_55 : ∀ a, St 49 a w κ [(0, .pointer (some ⟨b_x0, 11, none⟩)), (5, .pointer (some ⟨b_x0, 11, none⟩)), (6, .pointer (some ⟨b_x0, 11, none⟩)), (7, .pointer (some ⟨b_x0, 13, none⟩)), (8, .int .i64 x0.tape.free), (9, .bool (decide (x0.tape.free < 1))), (10, .bool (decide (x0.tape.free < 1))), (17, .bool ((decide (x0.tape.free < 1)) || (((x0.tape.l.length : Nat) : Int) == 0)))] (pt b_x0 (blk (Tvisorref19_M.obj x0 A_x0oops c_x0oops A_x0oblocks c_x0oblocks A_x0oval c_x0oval A_x0otapel c_x0otapel) 123) :: rowp A_x0oops c_x0oops 32 6 Tapi_Op.cells x0.ops :: rowp A_x0oblocks c_x0oblocks 144 3 Tapi_Span.cells x0.blocks :: rowp A_x0oval c_x0oval 23 1 (eI .u64) x0.val :: rdp κ A_x0otapel c_x0otapel 1 (eI .u64) x0.tape.l :: pt b_2 (blk (Tapi_Op.cells x1) 32) :: S) → wpFrom Try.prog _ _ 13 a w by
                rcases Bool.eq_false_or_eq_true (decide (x0.tape.free < 1)) with hb | hb
                · replace hs := hs.known (t := 10) hb (by kernel_rfl)
                  refine Vk.pures 7 [(17, .bool true), (16, undef), (15, undef), (14, undef), (13, undef), (12, undef), (11, undef)] hs (by kernel_rfl) fun a hs => ?_
                  have hq := hs.pick [0, 5, 6, 7, 8, 9, 10, 17] (L' := [(0, .pointer (some ⟨b_x0, 11, none⟩)), (5, .pointer (some ⟨b_x0, 11, none⟩)), (6, .pointer (some ⟨b_x0, 11, none⟩)), (7, .pointer (some ⟨b_x0, 13, none⟩)), (8, .int .i64 x0.tape.free), (9, .bool (decide (x0.tape.free < 1))), (10, .bool true), (17, .bool true)]) (by kernel_rfl)
                  exact hj_55 _ (hq.conv (by first | (rw [hb] <;> rfl) | rfl))
                · replace hs := hs.known (t := 10) hb (by kernel_rfl)
                  refine Vk.pures 3 [(13, .pointer (some ⟨b_x0, 11, none⟩)), (12, .pointer (some ⟨b_x0, 11, none⟩)), (11, .pointer (some ⟨b_x0, 11, none⟩))] hs (by kernel_rfl) fun a hs => ?_
                  refine Vk.step (Vk.value (some 14) (.slice A_x0otapel x0.tape.l.length c_x0otapel) hs (by kernel_rfl) (op := (.load 73 (.tmp 13))) (by kernel_rfl) (fun o ho => run_load1 (b := b_x0) (off := 11) (c := C.slc A_x0otapel x0.tape.l.length c_x0otapel) ho (by kernel_rfl) (by kernel_rfl) (Cell.own 0 rfl (by kernel_rfl)) _ hs.own) fun a hs => ?_)
                  refine Vk.pures 3 [(17, .bool (((x0.tape.l.length : Nat) : Int) == 0)), (16, .bool (((x0.tape.l.length : Nat) : Int) == 0)), (15, .int .i64 ((x0.tape.l.length : Nat) : Int))] hs (by kernel_rfl) fun a hs => ?_
                  have hq := hs.pick [0, 5, 6, 7, 8, 9, 10, 17] (L' := [(0, .pointer (some ⟨b_x0, 11, none⟩)), (5, .pointer (some ⟨b_x0, 11, none⟩)), (6, .pointer (some ⟨b_x0, 11, none⟩)), (7, .pointer (some ⟨b_x0, 13, none⟩)), (8, .int .i64 x0.tape.free), (9, .bool (decide (x0.tape.free < 1))), (10, .bool false), (17, .bool (((x0.tape.l.length : Nat) : Int) == 0))]) (by kernel_rfl)
                  exact hj_55 _ (hq.conv (by first | (rw [hb] <;> rfl) | rfl))
              intro a hs
              replace hs := hs.pick [0, 17] (L' := [(0, .pointer (some ⟨b_x0, 11, none⟩)), (17, .bool ((decide (x0.tape.free < 1)) || (((x0.tape.l.length : Nat) : Int) == 0)))]) (by kernel_rfl)
              refine Vk.done (by kernel_rfl) ?_
              refine hK54 _ _ ?_
              clear hK54
              refine Vk.condS (b := (decide (x0.tape.free < 1)) || (((x0.tape.l.length : Nat) : Int) == 0)) hs (by kernel_rfl) (by kernel_rfl) (fun hb => ?_) (fun hb => ?_)
              · replace hm := bif_t hm hb
                refine Vk.seq fun K56 hK56 => ?_
                refine Vk.region ?_
                refine Vk.pures 2 [(3, .bool false), (2, .int .u64 0)] hs (by kernel_rfl) fun a hs => ?_
                replace hs := hs.pick [2, 3] (L' := [(2, .int .u64 0), (3, .bool false)]) (by kernel_rfl)
                refine Vk.done (by kernel_rfl) ?_
                refine hK56 _ _ ?_
                clear hK56
                refine wp_ret ?_
                refine hKP51 _ _ ?_
                exact hj51 0 false x0 hm A_x0otapel c_x0otapel _ _ (hs.go [2, 3] [0, 1, 2, 3, 4, 5] 6 (by kernel_rfl) (by kernel_rfl) (by kernel_rfl))
              · replace hm := bif_f hm hb
                refine wp_skip ?_
                refine hK53 _ _ ?_
                clear hK53
                refine Vk.seq fun K57 hK57 => ?_
                refine Vk.region ?_
                refine Vk.pures 3 [(20, .pointer (some ⟨b_x0, 11, none⟩)), (19, .pointer (some ⟨b_x0, 11, none⟩)), (18, .pointer (some ⟨b_x0, 11, none⟩))] hs (by kernel_rfl) fun a hs => ?_
                refine Vk.step (Vk.value (some 21) (.slice A_x0otapel x0.tape.l.length c_x0otapel) hs (by kernel_rfl) (op := (.load 73 (.tmp 20))) (by kernel_rfl) (fun o ho => run_load1 (b := b_x0) (off := 11) (c := C.slc A_x0otapel x0.tape.l.length c_x0otapel) ho (by kernel_rfl) (by kernel_rfl) (Cell.own 0 rfl (by kernel_rfl)) _ hs.own) fun a hs => ?_)
                obtain ⟨h_58, hm⟩ := ite_t hm
                obtain ⟨e_61, h_59, hm⟩ := bind_t hm
                obtain ⟨b_62, o_63, hA_64, h_60⟩ := Sl.elem (Own.rdSl 0 (Own.to (S' := rdp κ A_x0otapel c_x0otapel 1 (eI .u64) x0.tape.l :: S) hs.own [4] 6 (by kernel_rfl) (by kernel_rfl)) rfl) h_59
                refine Vk.step (Vk.value (some 22) (.pointer (some ⟨b_62, o_63 + 0 * 1, none⟩)) hs (by kernel_rfl) (op := (.indexAddr 73 (.tmp 21) (.const (.int .i64 0)))) (by kernel_rfl) (fun o ho => run_idxSlc (k := .i64) ho (cap := c_x0otapel) (len := x0.tape.l.length) ((congrArg (fun A => Value.slice A (x0.tape.l.length) (c_x0otapel)) hA_64) ▸ (by kernel_rfl)) (by kernel_rfl) (by kernel_rfl) (idx_ok h_58 h_59) _) fun a hs => ?_)
                refine Vk.step (Vk.value (some 23) (.int .u64 e_61) hs (by kernel_rfl) (op := (.load 23 (.tmp 22))) (by kernel_rfl) (fun o ho => run_load1 (c := C.int .u64 e_61) ho (by kernel_rfl) (by kernel_rfl) (fun w ho => h_60 w ho 0 _ rfl) _ (Own.to (S' := rdp κ A_x0otapel c_x0otapel 1 (eI .u64) x0.tape.l :: S) hs.own [4] 6 (by kernel_rfl) (by kernel_rfl))) fun a hs => ?_)
                refine Vk.pures 1 [(4, .int .u64 e_61)] hs (by kernel_rfl) fun a hs => ?_
                replace hs := hs.pick [0, 4] (L' := [(0, .pointer (some ⟨b_x0, 11, none⟩)), (4, .int .u64 e_61)]) (by kernel_rfl)
                refine Vk.done (by kernel_rfl) ?_
                refine hK57 _ _ ?_
                clear hK57
                refine Vk.seq fun K65 hK65 => ?_
                refine Vk.region ?_
                refine Vk.pures 4 [(27, .pointer (some ⟨b_x0, 11, none⟩)), (26, .pointer (some ⟨b_x0, 11, none⟩)), (25, .pointer (some ⟨b_x0, 11, none⟩)), (24, .pointer (some ⟨b_x0, 11, none⟩))] hs (by kernel_rfl) fun a hs => ?_
                refine Vk.step (Vk.value (some 28) (.slice A_x0otapel x0.tape.l.length c_x0otapel) hs (by kernel_rfl) (op := (.load 73 (.tmp 27))) (by kernel_rfl) (fun o ho => run_load1 (b := b_x0) (off := 11) (c := C.slc A_x0otapel x0.tape.l.length c_x0otapel) ho (by kernel_rfl) (by kernel_rfl) (Cell.own 0 rfl (by kernel_rfl)) _ hs.own) fun a hs => ?_)
                obtain ⟨h_66, hm⟩ := ite_t hm
                obtain ⟨A_67, c_68, eA_69, ec_70, hx_71⟩ := Sl.sub (Own.rdSl 0 (Own.to (S' := rdp κ A_x0otapel c_x0otapel 1 (eI .u64) x0.tape.l :: S) hs.own [4] 6 (by kernel_rfl) (by kernel_rfl)) rfl) h_66.2
                refine Vk.step (Vk.value (some 29) (.slice A_67 ((cut x0.tape.l (1) (x0.tape.l.length)).length) c_68) hs (by kernel_rfl) (op := (.slice 73 (.tmp 28) (some (.const (.int .i64 1))) none none)) (by kernel_rfl) (fun o ho => run_sub (sz := 1) (e := 23) h_66.2 eA_69 ec_70 (Sl.le (Own.rdSl 0 (Own.to (S' := rdp κ A_x0otapel c_x0otapel 1 (eI .u64) x0.tape.l :: S) hs.own [4] 6 (by kernel_rfl) (by kernel_rfl)) rfl)) ho (by kernel_rfl) (by kernel_rfl) (by kernel_rfl) ⟨.i64, 1, by kernel_rfl, h_66.1, rfl⟩ rfl _) fun a hs => ?_)
                replace hs := hs.cutRd 4 rfl h_66.2 eA_69 ec_70
                refine Vk.pures 2 [(31, .pointer (some ⟨b_x0, 11, none⟩)), (30, .pointer (some ⟨b_x0, 11, none⟩))] hs (by kernel_rfl) fun a hs => ?_
                refine Vk.step (Vk.store1 (b := b_x0) (ty := 73) (x := (.tmp 31)) (y := (.tmp 29)) (off := 11) (C.slc A_67 ((cut x0.tape.l (1) (x0.tape.l.length)).length) c_68) 0 hs (by kernel_rfl) (by kernel_rfl) (by kernel_rfl) (by kernel_rfl) (by kernel_rfl) (by kernel_rfl) rfl (Nat.le_of_ble_eq_true (by kernel_rfl)) fun a w hs => ?_)
                replace hs := hs.pick [0, 4] (L' := [(0, .pointer (some ⟨b_x0, 11, none⟩)), (4, .int .u64 e_61)]) (by kernel_rfl)
                refine Vk.done (by kernel_rfl) ?_
                refine hK65 _ _ ?_
                clear hK65
                refine Vk.seq fun K72 hK72 => ?_
                refine Vk.region ?_
                refine Vk.pures 4 [(35, .pointer (some ⟨b_x0, 13, none⟩)), (34, .pointer (some ⟨b_x0, 11, none⟩)), (33, .pointer (some ⟨b_x0, 11, none⟩)), (32, .pointer (some ⟨b_x0, 11, none⟩))] hs (by kernel_rfl) fun a hs => ?_
                refine Vk.step (Vk.value (some 36) (.int .i64 x0.tape.free) hs (by kernel_rfl) (op := (.load 3 (.tmp 35))) (by kernel_rfl) (fun o ho => run_load1 (b := b_x0) (off := 13) (c := C.int .i64 x0.tape.free) ho (by kernel_rfl) (by kernel_rfl) (Cell.own 0 rfl (by kernel_rfl)) _ hs.own) fun a hs => ?_)
                refine Vk.pures 3 [(39, .pointer (some ⟨b_x0, 13, none⟩)), (38, .pointer (some ⟨b_x0, 11, none⟩)), (37, .int .i64 (IntKind.i64.wrap (x0.tape.free - 1)))] hs (by kernel_rfl) fun a hs => ?_
                refine Vk.step (Vk.store1 (b := b_x0) (ty := 3) (x := (.tmp 39)) (y := (.tmp 37)) (off := 13) (C.int .i64 (IntKind.i64.wrap (x0.tape.free - 1))) 0 hs (by kernel_rfl) (by kernel_rfl) (by kernel_rfl) (by kernel_rfl) (by kernel_rfl) (by kernel_rfl) rfl (Nat.le_of_ble_eq_true (by kernel_rfl)) fun a w hs => ?_)
                replace hs := hs.pick [0, 4] (L' := [(0, .pointer (some ⟨b_x0, 11, none⟩)), (4, .int .u64 e_61)]) (by kernel_rfl)
                refine Vk.done (by kernel_rfl) ?_
                refine hK72 _ _ ?_
                clear hK72
                refine Vk.seq fun K73 hK73 => ?_
                refine Vk.region ?_
                refine Vk.pures 4 [(43, .pointer (some ⟨b_x0, 12, none⟩)), (42, .pointer (some ⟨b_x0, 11, none⟩)), (41, .pointer (some ⟨b_x0, 11, none⟩)), (40, .pointer (some ⟨b_x0, 11, none⟩))] hs (by kernel_rfl) fun a hs => ?_
                refine Vk.step (Vk.value (some 44) (.int .i64 x0.tape.used) hs (by kernel_rfl) (op := (.load 3 (.tmp 43))) (by kernel_rfl) (fun o ho => run_load1 (b := b_x0) (off := 12) (c := C.int .i64 x0.tape.used) ho (by kernel_rfl) (by kernel_rfl) (Cell.own 0 rfl (by kernel_rfl)) _ hs.own) fun a hs => ?_)
                refine Vk.pures 3 [(47, .pointer (some ⟨b_x0, 12, none⟩)), (46, .pointer (some ⟨b_x0, 11, none⟩)), (45, .int .i64 (IntKind.i64.wrap (x0.tape.used + 1)))] hs (by kernel_rfl) fun a hs => ?_
                refine Vk.step (Vk.store1 (b := b_x0) (ty := 3) (x := (.tmp 47)) (y := (.tmp 45)) (off := 12) (C.int .i64 (IntKind.i64.wrap (x0.tape.used + 1))) 0 hs (by kernel_rfl) (by kernel_rfl) (by kernel_rfl) (by kernel_rfl) (by kernel_rfl) (by kernel_rfl) rfl (Nat.le_of_ble_eq_true (by kernel_rfl)) fun a w hs => ?_)
                replace hs := hs.pick [4] (L' := [(4, .int .u64 e_61)]) (by kernel_rfl)
                refine Vk.done (by kernel_rfl) ?_
                refine hK73 _ _ ?_
                clear hK73
                refine Vk.seq fun K74 hK74 => ?_
                refine Vk.region ?_
                refine Vk.pures 3 [(3, .bool true), (2, .int .u64 e_61), (48, .int .u64 e_61)] hs (by kernel_rfl) fun a hs => ?_
                replace hs := hs.pick [2, 3] (L' := [(2, .int .u64 e_61), (3, .bool true)]) (by kernel_rfl)
                refine Vk.done (by kernel_rfl) ?_
                refine hK74 _ _ ?_
                clear hK74
                refine wp_ret ?_
                refine hKP51 _ _ ?_
                exact hj51 e_61 true (⟨x0.n, x0.most, x0.words, x0.draws, x0.fromF, x0.skip, x0.kind, x0.e, x0.ops, x0.blocks, x0.val, (⟨cut x0.tape.l (1) (x0.tape.l.length), IntKind.i64.wrap (x0.tape.used + 1), IntKind.i64.wrap (x0.tape.free - 1)⟩ : Tvisorref02_T), x0.dry⟩ : Tvisorref19_M) hm A_67 c_68 _ _ (hs.go [2, 3] [0, 1, 2, 3, 4, 5] 6 (by kernel_rfl) (by kernel_rfl) (by kernel_rfl))
            · replace hm := bif_f hm hb
              refine wp_skip ?_
              exact hj47 x0 x2 hm A_x0otapel c_x0otapel _ _ (hs.go [0, 2, 4] [0, 1, 2, 3, 4, 5] 6 (by kernel_rfl) (by kernel_rfl) (by kernel_rfl))
        obtain ⟨C_30, hC_30⟩ : ∃ X0 : List HP, X0 = (pt b_x0 (blk (Tvisorref19_M.obj x0 A_x0oops c_x0oops A_x0oblocks c_x0oblocks A_x0oval c_x0oval A_x0otapel c_x0otapel) 123) :: rowp A_x0oops c_x0oops 32 6 Tapi_Op.cells x0.ops :: rowp A_x0oblocks c_x0oblocks 144 3 Tapi_Span.cells x0.blocks :: rowp A_x0oval c_x0oval 23 1 (eI .u64) x0.val :: rdp κ A_x0otapel c_x0otapel 1 (eI .u64) x0.tape.l :: pt b_2 (blk (Tapi_Op.cells x1) 32) :: S) := ⟨_, rfl⟩
        refine Vk.drawnT 14 κ C_30 hs (by kernel_rfl) fun w hs => ?_
        have hcz : Own κ w (pt b_x0 (blk (Tvisorref19_M.obj x0 A_x0oops c_x0oops A_x0oblocks c_x0oblocks A_x0oval c_x0oval A_x0otapel c_x0otapel) 123) :: rowp A_x0oops c_x0oops 32 6 Tapi_Op.cells x0.ops :: rowp A_x0oblocks c_x0oblocks 144 3 Tapi_Span.cells x0.blocks :: rowp A_x0oval c_x0oval 23 1 (eI .u64) x0.val :: rdp κ A_x0otapel c_x0otapel 1 (eI .u64) x0.tape.l :: pt b_2 (blk (Tapi_Op.cells x1) 32) :: S) := (Own.to hs.own [0, 1, 2, 3, 4, 5] 6 (by kernel_rfl) (by kernel_rfl))
        have hcl : Own κ w C_30 := by rw [hC_30]; exact hcz
        refine Vk.dPuresT [0, 1, 2] [(42, .pointer (some ⟨b_x0, 14, none⟩)), (41, .pointer (some ⟨b_x0, 0, none⟩)), (40, .pointer (some ⟨b_x0, 0, none⟩))] hs (by kernel_rfl) (by repeat' (first | exact Vk.Calm.post | refine Vk.Calm.then ?_ | refine Vk.Calm.inBlock ?_)) hcl (by kernel_rfl) (by kernel_rfl) (fuel := 11) rfl fun a hs => ?_
        refine Vk.dTakeT (i := 3) (some 43) (.bool x0.dry) hs (by kernel_rfl) (by repeat' (first | exact Vk.Calm.post | refine Vk.Calm.then ?_ | refine Vk.Calm.inBlock ?_)) hcl (by kernel_rfl) (by kernel_rfl) (op := (.load 4 (.tmp 42))) (by kernel_rfl) (by kernel_rfl) (fun w hw o ho => by rw [hC_30] at hw; exact run_load1 (b := b_x0) (off := 14) (c := C.bool x0.dry) ho (by kernel_rfl) (by kernel_rfl) (Cell.own 0 rfl (by kernel_rfl)) _ hw) fun a hs => ?_
        refine Vk.dPuresT [4, 5] [(45, .bool (!x0.dry)), (44, .bool (!x0.dry))] hs (by kernel_rfl) (by repeat' (first | exact Vk.Calm.post | refine Vk.Calm.then ?_ | refine Vk.Calm.inBlock ?_)) hcl (by kernel_rfl) (by kernel_rfl) (fuel := 8) rfl fun a hs => ?_
        rcases Bool.eq_false_or_eq_true (!x0.dry) with hb | hb
        · replace hm := bif_t hm hb
          replace hs := hs.known (t := 45) hb (by kernel_rfl)
          refine Vk.dPuresT [6, 8, 9, 10] [(50, .pointer (some ⟨b_x0, 1, none⟩)), (49, .pointer (some ⟨b_x0, 0, none⟩)), (48, .pointer (some ⟨b_x0, 0, none⟩)), (46, .pointer (some ⟨b_x0, 0, none⟩))] hs (by kernel_rfl) (by repeat' (first | exact Vk.Calm.post | refine Vk.Calm.then ?_ | refine Vk.Calm.inBlock ?_)) hcl (by kernel_rfl) (by kernel_rfl) (fuel := 4) rfl fun a hs => ?_
          refine Vk.dTakeT (i := 11) (some 51) (.int .i64 x0.most) hs (by kernel_rfl) (by repeat' (first | exact Vk.Calm.post | refine Vk.Calm.then ?_ | refine Vk.Calm.inBlock ?_)) hcl (by kernel_rfl) (by kernel_rfl) (op := (.load 3 (.tmp 50))) (by kernel_rfl) (by kernel_rfl) (fun w hw o ho => by rw [hC_30] at hw; exact run_load1 (b := b_x0) (off := 1) (c := C.int .i64 x0.most) ho (by kernel_rfl) (by kernel_rfl) (Cell.own 0 rfl (by kernel_rfl)) _ hw) fun a hs => ?_
          obtain ⟨v_33, h_32, hm⟩ := bind_t hm
          refine Vk.dOnly (i := 7) (by kernel_rfl) (Vk.call (some 47) 69 #[.pointer (some ⟨b_x0, 0, none⟩)] hs (by kernel_rfl) (by kernel_rfl) (by kernel_rfl) ?_)
          refine (visorref19_M_Len.ok k x0 v_33 h_32 κ w (pt b_2 (blk (Tapi_Op.cells x1) 32) :: S) b_x0 A_x0oops c_x0oops A_x0oblocks c_x0oblocks A_x0oval c_x0oval A_x0otapel c_x0otapel (Own.to hs.own [0, 1, 2, 3, 4, 5] 6 (by kernel_rfl) (by kernel_rfl))).mono ?_
          rintro _ w ⟨rfl, how⟩
          refine ⟨_, _, _, rfl, how, fun a hs => ?_⟩
          replace hcl : Own κ w C_30 := by rw [hC_30]; exact (Own.to hs.own [0, 1, 2, 3, 4, 5] 6 (by kernel_rfl) (by kernel_rfl))
          refine ⟨fun _ => hcl, ?_⟩
          refine Vk.dPuresT [12, 13] [(53, .bool (decide (v_33 ≥ x0.most))), (52, .bool (decide (v_33 ≥ x0.most)))] hs (by kernel_rfl) (by repeat' (first | exact Vk.Calm.post | refine Vk.Calm.then ?_ | refine Vk.Calm.inBlock ?_)) hcl (by kernel_rfl) (by kernel_rfl) (fuel := 0) rfl fun a hs => ?_
          replace hs := hs.pick [0, 2, 4, 53] (L' := [(0, .pointer (some ⟨b_x0, 0, none⟩)), (2, .int .u64 x2), (4, .pointer (some ⟨b_2, 0, none⟩)), (53, .bool (decide (v_33 ≥ x0.most)))]) (by kernel_rfl)
          refine Vk.dDone (by kernel_rfl) ?_
          exact hj29 (decide (v_33 ≥ x0.most)) hm _ _ (hs.go [0, 2, 4, 53] [0, 1, 2, 3, 4, 5] 6 (by kernel_rfl) (by kernel_rfl) (by kernel_rfl))
        · replace hm := bif_f hm hb
          replace hs := hs.known (t := 45) hb (by kernel_rfl)
          refine Vk.dPuresT [6, 7, 8, 9, 10, 11, 12, 13] [(53, .bool false), (52, undef), (51, undef), (50, undef), (49, undef), (48, undef), (47, undef), (46, undef)] hs (by kernel_rfl) (by repeat' (first | exact Vk.Calm.post | refine Vk.Calm.then ?_ | refine Vk.Calm.inBlock ?_)) hcl (by kernel_rfl) (by kernel_rfl) (fuel := 0) rfl fun a hs => ?_
          replace hs := hs.pick [0, 2, 4, 53] (L' := [(0, .pointer (some ⟨b_x0, 0, none⟩)), (2, .int .u64 x2), (4, .pointer (some ⟨b_2, 0, none⟩)), (53, .bool false)]) (by kernel_rfl)
          refine Vk.dDone (by kernel_rfl) ?_
          exact hj29 false hm _ _ (hs.go [0, 2, 4, 53] [0, 1, 2, 3, 4, 5] 6 (by kernel_rfl) (by kernel_rfl) (by kernel_rfl))
    obtain ⟨C_8, hC_8⟩ : ∃ X0 : List HP, X0 = (pt b_2 (blk (Tapi_Op.cells x1) 32) :: pt b_x0 (blk (Tvisorref19_M.obj x0 A_x0oops c_x0oops A_x0oblocks c_x0oblocks A_x0oval c_x0oval A_x0otapel c_x0otapel) 123) :: rowp A_x0oops c_x0oops 32 6 Tapi_Op.cells x0.ops :: rowp A_x0oblocks c_x0oblocks 144 3 Tapi_Span.cells x0.blocks :: rowp A_x0oval c_x0oval 23 1 (eI .u64) x0.val :: rdp κ A_x0otapel c_x0otapel 1 (eI .u64) x0.tape.l :: S) := ⟨_, rfl⟩
    refine Vk.drawnT 24 κ C_8 hs (by kernel_rfl) fun w hs => ?_
    have hcz : Own κ w (pt b_2 (blk (Tapi_Op.cells x1) 32) :: pt b_x0 (blk (Tvisorref19_M.obj x0 A_x0oops c_x0oops A_x0oblocks c_x0oblocks A_x0oval c_x0oval A_x0otapel c_x0otapel) 123) :: rowp A_x0oops c_x0oops 32 6 Tapi_Op.cells x0.ops :: rowp A_x0oblocks c_x0oblocks 144 3 Tapi_Span.cells x0.blocks :: rowp A_x0oval c_x0oval 23 1 (eI .u64) x0.val :: rdp κ A_x0otapel c_x0otapel 1 (eI .u64) x0.tape.l :: S) := (Own.to hs.own [0, 1, 2, 3, 4, 5] 6 (by kernel_rfl) (by kernel_rfl))
    have hcl : Own κ w C_8 := by rw [hC_8]; exact hcz
    refine Vk.dPuresT [1, 3, 4, 5] [(19, .pointer (some ⟨b_x0, 0, none⟩)), (18, .pointer (some ⟨b_x0, 0, none⟩)), (17, .pointer (some ⟨b_x0, 0, none⟩)), (15, .pointer (some ⟨b_x0, 0, none⟩))] hs (by kernel_rfl) (by repeat' (first | exact Vk.Calm.post | refine Vk.Calm.then ?_ | refine Vk.Calm.inBlock ?_)) hcl (by kernel_rfl) (by kernel_rfl) (fuel := 20) rfl fun a hs => ?_
    refine Vk.dTakeT (i := 0) (some 14) (.agg (vals [C.int .i64 x1.kind, C.int .i64 x1.dom, C.int .i64 x1.a, C.int .i64 x1.b, C.int .i64 x1.d, C.int .u64 x1.c])) hs (by kernel_rfl) (by repeat' (first | exact Vk.Calm.post | refine Vk.Calm.then ?_ | refine Vk.Calm.inBlock ?_)) hcl (by kernel_rfl) (by kernel_rfl) (op := (.load 32 (.tmp 4))) (by kernel_rfl) (by kernel_rfl) (fun w hw o ho => by rw [hC_8] at hw; exact run_loadN (cs := [C.int .i64 x1.kind, C.int .i64 x1.dom, C.int .i64 x1.a, C.int .i64 x1.b, C.int .i64 x1.d, C.int .u64 x1.c]) ho (by kernel_rfl) (by kernel_rfl) rfl (CellsAt.all 0 rfl) _ hw) fun a hs => ?_
    refine Vk.dTakeT (i := 6) (some 20) (.int .i64 x0.n) hs (by kernel_rfl) (by repeat' (first | exact Vk.Calm.post | refine Vk.Calm.then ?_ | refine Vk.Calm.inBlock ?_)) hcl (by kernel_rfl) (by kernel_rfl) (op := (.load 3 (.tmp 19))) (by kernel_rfl) (by kernel_rfl) (fun w hw o ho => by rw [hC_8] at hw; exact run_load1 (b := b_x0) (off := 0) (c := C.int .i64 x0.n) ho (by kernel_rfl) (by kernel_rfl) (Cell.own 1 rfl (by kernel_rfl)) _ hw) fun a hs => ?_
    obtain ⟨v_11, h_10, hm⟩ := bind_t hm
    refine Vk.dOnly (i := 2) (by kernel_rfl) (Vk.call (some 16) 69 #[.pointer (some ⟨b_x0, 0, none⟩)] hs (by kernel_rfl) (by kernel_rfl) (by kernel_rfl) ?_)
    refine (visorref19_M_Len.ok k x0 v_11 h_10 κ w (pt b_2 (blk (Tapi_Op.cells x1) 32) :: S) b_x0 A_x0oops c_x0oops A_x0oblocks c_x0oblocks A_x0oval c_x0oval A_x0otapel c_x0otapel (Own.to hs.own [1, 2, 3, 4, 5, 0] 6 (by kernel_rfl) (by kernel_rfl))).mono ?_
    rintro _ w ⟨rfl, how⟩
    refine ⟨_, _, _, rfl, how, fun a hs => ?_⟩
    replace hcl : Own κ w C_8 := by rw [hC_8]; exact (Own.to hs.own [5, 0, 1, 2, 3, 4] 6 (by kernel_rfl) (by kernel_rfl))
    refine ⟨fun _ => hcl, ?_⟩
    obtain ⟨v_14, h_13, hm⟩ := bind_t hm
    refine Vk.dOnly (i := 7) (by kernel_rfl) (Vk.call (some 21) 85 #[.agg (vals [C.int .i64 x1.kind, C.int .i64 x1.dom, C.int .i64 x1.a, C.int .i64 x1.b, C.int .i64 x1.d, C.int .u64 x1.c]), .int .i64 v_11, .int .i64 x0.n] hs (by kernel_rfl) (by kernel_rfl) (by kernel_rfl) ?_)
    refine (visorref17_Right.ok k x1 v_11 x0.n v_14 h_13 κ w (pt b_x0 (blk (Tvisorref19_M.obj x0 A_x0oops c_x0oops A_x0oblocks c_x0oblocks A_x0oval c_x0oval A_x0otapel c_x0otapel) 123) :: rowp A_x0oops c_x0oops 32 6 Tapi_Op.cells x0.ops :: rowp A_x0oblocks c_x0oblocks 144 3 Tapi_Span.cells x0.blocks :: rowp A_x0oval c_x0oval 23 1 (eI .u64) x0.val :: rdp κ A_x0otapel c_x0otapel 1 (eI .u64) x0.tape.l :: pt b_2 (blk (Tapi_Op.cells x1) 32) :: S) hs.own).mono ?_
    rintro _ w ⟨rfl, how⟩
    refine ⟨_, _, _, rfl, how, fun a hs => ?_⟩
    replace hcl : Own κ w C_8 := by rw [hC_8]; exact (Own.to hs.own [5, 0, 1, 2, 3, 4] 6 (by kernel_rfl) (by kernel_rfl))
    refine ⟨fun _ => hcl, ?_⟩
    refine Vk.dPuresT [8, 9] [(23, .bool (!v_14)), (22, .bool (!v_14))] hs (by kernel_rfl) (by repeat' (first | exact Vk.Calm.post | refine Vk.Calm.then ?_ | refine Vk.Calm.inBlock ?_)) hcl (by kernel_rfl) (by kernel_rfl) (fuel := 14) rfl fun a hs => ?_
    rcases Bool.eq_false_or_eq_true (!v_14) with hb | hb
    · replace hm := bif_t hm hb
      replace hs := hs.known (t := 23) hb (by kernel_rfl)
      refine Vk.dPuresT [10, 11, 12, 13, 14, 15, 16, 17, 18, 19, 20, 21, 22, 23] [(37, .bool true), (36, undef), (35, undef), (34, undef), (33, undef), (32, undef), (31, undef), (30, undef), (29, undef), (28, undef), (27, undef), (26, undef), (25, undef), (24, undef)] hs (by kernel_rfl) (by repeat' (first | exact Vk.Calm.post | refine Vk.Calm.then ?_ | refine Vk.Calm.inBlock ?_)) hcl (by kernel_rfl) (by kernel_rfl) (fuel := 0) rfl fun a hs => ?_
      replace hs := hs.pick [0, 2, 4, 37] (L' := [(0, .pointer (some ⟨b_x0, 0, none⟩)), (2, .int .u64 x2), (4, .pointer (some ⟨b_2, 0, none⟩)), (37, .bool true)]) (by kernel_rfl)
      refine Vk.dDone (by kernel_rfl) ?_
      exact hj7 true hm _ _ (hs.go [0, 2, 4, 37] [0, 1, 2, 3, 4, 5] 6 (by kernel_rfl) (by kernel_rfl) (by kernel_rfl))
    · replace hm := bif_f hm hb
      replace hs := hs.known (t := 23) hb (by kernel_rfl)
      refine Vk.dPuresT [10] [(24, .pointer (some ⟨b_2, 0, none⟩))] hs (by kernel_rfl) (by repeat' (first | exact Vk.Calm.post | refine Vk.Calm.then ?_ | refine Vk.Calm.inBlock ?_)) hcl (by kernel_rfl) (by kernel_rfl) (fuel := 13) rfl fun a hs => ?_
      refine Vk.dTakeT (i := 11) (some 25) (.int .i64 x1.kind) hs (by kernel_rfl) (by repeat' (first | exact Vk.Calm.post | refine Vk.Calm.then ?_ | refine Vk.Calm.inBlock ?_)) hcl (by kernel_rfl) (by kernel_rfl) (op := (.load 3 (.tmp 24))) (by kernel_rfl) (by kernel_rfl) (fun w hw o ho => by rw [hC_8] at hw; exact run_load1 (b := b_2) (off := 0) (c := C.int .i64 x1.kind) ho (by kernel_rfl) (by kernel_rfl) (Cell.own 0 rfl (by kernel_rfl)) _ hw) fun a hs => ?_
      refine Vk.dPuresT [12, 13] [(27, .bool (x1.kind == 2)), (26, .bool (x1.kind == 2))] hs (by kernel_rfl) (by repeat' (first | exact Vk.Calm.post | refine Vk.Calm.then ?_ | refine Vk.Calm.inBlock ?_)) hcl (by kernel_rfl) (by kernel_rfl) (fuel := 10) rfl fun a hs => ?_
      rcases Bool.eq_false_or_eq_true (x1.kind == 2) with hb | hb
      · replace hm := bif_t hm hb
        replace hs := hs.known (t := 27) hb (by kernel_rfl)
        refine Vk.dPuresT [14, 16, 17, 18] [(32, .pointer (some ⟨b_x0, 2, none⟩)), (31, .pointer (some ⟨b_x0, 0, none⟩)), (30, .pointer (some ⟨b_x0, 0, none⟩)), (28, .pointer (some ⟨b_2, 5, none⟩))] hs (by kernel_rfl) (by repeat' (first | exact Vk.Calm.post | refine Vk.Calm.then ?_ | refine Vk.Calm.inBlock ?_)) hcl (by kernel_rfl) (by kernel_rfl) (fuel := 6) rfl fun a hs => ?_
        refine Vk.dTakeT (i := 15) (some 29) (.int .u64 x1.c) hs (by kernel_rfl) (by repeat' (first | exact Vk.Calm.post | refine Vk.Calm.then ?_ | refine Vk.Calm.inBlock ?_)) hcl (by kernel_rfl) (by kernel_rfl) (op := (.load 23 (.tmp 28))) (by kernel_rfl) (by kernel_rfl) (fun w hw o ho => by rw [hC_8] at hw; exact run_load1 (b := b_2) (off := 5) (c := C.int .u64 x1.c) ho (by kernel_rfl) (by kernel_rfl) (Cell.own 0 rfl (by kernel_rfl)) _ hw) fun a hs => ?_
        refine Vk.dTakeT (i := 19) (some 33) (.int .i64 x0.words) hs (by kernel_rfl) (by repeat' (first | exact Vk.Calm.post | refine Vk.Calm.then ?_ | refine Vk.Calm.inBlock ?_)) hcl (by kernel_rfl) (by kernel_rfl) (op := (.load 3 (.tmp 32))) (by kernel_rfl) (by kernel_rfl) (fun w hw o ho => by rw [hC_8] at hw; exact run_load1 (b := b_x0) (off := 2) (c := C.int .i64 x0.words) ho (by kernel_rfl) (by kernel_rfl) (Cell.own 1 rfl (by kernel_rfl)) _ hw) fun a hs => ?_
        refine Vk.dPuresT [20, 21, 22, 23] [(37, .bool (x1.c != (IntKind.u64.wrap x0.words))), (36, .bool (x1.c != (IntKind.u64.wrap x0.words))), (35, .bool (x1.c != (IntKind.u64.wrap x0.words))), (34, .int .u64 (IntKind.u64.wrap x0.words))] hs (by kernel_rfl) (by repeat' (first | exact Vk.Calm.post | refine Vk.Calm.then ?_ | refine Vk.Calm.inBlock ?_)) hcl (by kernel_rfl) (by kernel_rfl) (fuel := 0) rfl fun a hs => ?_
        replace hs := hs.pick [0, 2, 4, 37] (L' := [(0, .pointer (some ⟨b_x0, 0, none⟩)), (2, .int .u64 x2), (4, .pointer (some ⟨b_2, 0, none⟩)), (37, .bool (x1.c != (IntKind.u64.wrap x0.words)))]) (by kernel_rfl)
        refine Vk.dDone (by kernel_rfl) ?_
        exact hj7 (x1.c != (IntKind.u64.wrap x0.words)) hm _ _ (hs.go [0, 2, 4, 37] [0, 1, 2, 3, 4, 5] 6 (by kernel_rfl) (by kernel_rfl) (by kernel_rfl))
      · replace hm := bif_f hm hb
        replace hs := hs.known (t := 27) hb (by kernel_rfl)
        refine Vk.dPuresT [14, 15, 16, 17, 18, 19, 20, 21, 22, 23] [(37, .bool false), (36, .bool false), (35, undef), (34, undef), (33, undef), (32, undef), (31, undef), (30, undef), (29, undef), (28, undef)] hs (by kernel_rfl) (by repeat' (first | exact Vk.Calm.post | refine Vk.Calm.then ?_ | refine Vk.Calm.inBlock ?_)) hcl (by kernel_rfl) (by kernel_rfl) (fuel := 0) rfl fun a hs => ?_
        replace hs := hs.pick [0, 2, 4, 37] (L' := [(0, .pointer (some ⟨b_x0, 0, none⟩)), (2, .int .u64 x2), (4, .pointer (some ⟨b_2, 0, none⟩)), (37, .bool false)]) (by kernel_rfl)
        refine Vk.dDone (by kernel_rfl) ?_
        exact hj7 false hm _ _ (hs.go [0, 2, 4, 37] [0, 1, 2, 3, 4, 5] 6 (by kernel_rfl) (by kernel_rfl) (by kernel_rfl))


abbrev visorref19_Op.R (κ : Ctx) (S : List HP) (x0 : Int) (x1 : Int) (x2 : Int) (x3 : Int) (x4 : Int) (r : Tapi_Op) : Ending → World → Prop := fun e w' => e = .returned (.agg (vals [C.int .i64 r.kind, C.int .i64 r.dom, C.int .i64 r.a, C.int .i64 r.b, C.int .i64 r.d, C.int .u64 r.c])) ∧ Own κ w' (S)
def visorref19_Op.m (k : Nat) (x0 : Int) (x1 : Int) (x2 : Int) (x3 : Int) (x4 : Int) : Option Tapi_Op := some (⟨x0, x1, x2, x3, (-1), x4⟩ : Tapi_Op)

set_option maxRecDepth 100000 in
set_option maxHeartbeats 4000000 in
theorem visorref19_Op.ok (k : Nat) (x0 : Int) (x1 : Int) (x2 : Int) (x3 : Int) (x4 : Int) (r : Tapi_Op) (hm : visorref19_Op.m k x0 x1 x2 x3 x4 = some r) (κ : Ctx) (w : World) (S : List HP) (ho : Own κ w (S)) :
    Calls Try.prog 104 #[.int .i64 x0, .int .i64 x1, .int .i64 x2, .int .i64 x3, .int .u64 x4] w (visorref19_Op.R κ S x0 x1 x2 x3 x4 r) := by
  unfold visorref19_Op.m at hm
  refine Vk.enter [(0, .int .i64 x0), (1, .int .i64 x1), (2, .int .i64 x2), (3, .int .i64 x3), (4, .int .u64 x4)] Try.func104 rfl Try.ntmps104 (by kernel_rfl) (Nat.le_of_ble_eq_true (by kernel_rfl)) ho fun a hs => ?_
  refine Vk.seq fun K1 hK1 => ?_
  refine Vk.region ?_
  refine Vk.step (Vk.alloc 10 32 [C.int .i64 0, C.int .i64 0, C.int .i64 0, C.int .i64 0, C.int .i64 0, C.int .u64 0] hs (by kernel_rfl) (by kernel_rfl) (by kernel_rfl) fun b_2 w a hs => ?_)
  replace hs := hs.pick [0, 1, 2, 3, 4, 10] (L' := [(0, .int .i64 x0), (1, .int .i64 x1), (2, .int .i64 x2), (3, .int .i64 x3), (4, .int .u64 x4), (10, .pointer (some ⟨b_2, 0, none⟩))]) (by kernel_rfl)
  refine Vk.done (by kernel_rfl) ?_
  refine hK1 _ _ ?_
  clear hK1
  refine Vk.seq fun K3 hK3 => ?_
  refine Vk.region ?_
  refine Vk.pures 6 [(16, .agg (vals [C.int .i64 x0, C.int .i64 x1, C.int .i64 x2, C.int .i64 x3, C.int .i64 (-1), C.int .u64 x4])), (15, .int .u64 x4), (14, .int .i64 x3), (13, .int .i64 x2), (12, .int .i64 x1), (11, .int .i64 x0)] hs (by kernel_rfl) fun a hs => ?_
  refine Vk.step (Vk.storeA (b := b_2) (ty := 32) (x := (.tmp 10)) (y := (.tmp 16)) (sz := 6) [C.int .i64 x0, C.int .i64 x1, C.int .i64 x2, C.int .i64 x3, C.int .i64 (-1), C.int .u64 x4] 0 hs (by kernel_rfl) (by kernel_rfl) (by kernel_rfl) (by kernel_rfl) (by kernel_rfl) rfl (by kernel_rfl) rfl (Eq.trans (b := 6) rfl (Eq.symm rfl)) fun a w hs => ?_)
  replace hs := hs.pick [10] (L' := [(10, .pointer (some ⟨b_2, 0, none⟩))]) (by kernel_rfl)
  refine Vk.done (by kernel_rfl) ?_
  refine hK3 _ _ ?_
  clear hK3
  refine wp_ret ?_
  exact Vk.retC (P := Try.prog) (fn := Try.f104) (R := visorref19_Op.R κ S x0 x1 x2 x3 x4 r) [C.int .i64 x0, C.int .i64 x1, C.int .i64 x2, C.int .i64 x3, C.int .i64 (-1), C.int .u64 x4] hs rfl (by kernel_rfl) (sz := 6) (by kernel_rfl) rfl (CellsAt.all 0 rfl) (by obtain rfl := Option.some.inj hm; exact ⟨rfl, (Own.to hs.own [] 1 (by kernel_rfl) (by kernel_rfl))⟩)


abbrev wire_Machine_Told.R (κ : Ctx) (S : List HP) (x0 : Twire_Machine) (x1 : Int) (x2 : Int) (b_x0 : Nat) (b_x0otape : Nat) (A_x0otapeowords : Option Addr) (c_x0otapeowords : Nat) (A_x0oops : Option Addr) (c_x0oops : Nat) (A_x0ovalues : Option Addr) (c_x0ovalues : Nat) (A_x0oblocks : Option Addr) (c_x0oblocks : Nat) (r : (Int × Twire_Machine)) : Ending → World → Prop := fun e w' => ∃ (A_y0otapeowords : Option Addr), ∃ (c_y0otapeowords : Nat), ∃ (A_y0oops : Option Addr), ∃ (c_y0oops : Nat), ∃ (A_y0ovalues : Option Addr), ∃ (c_y0ovalues : Nat), ∃ (A_y0oblocks : Option Addr), ∃ (c_y0oblocks : Nat), e = .returned (.int .i64 r.1) ∧ Own κ w' (pt b_x0 (blk (Twire_Machine.obj r.2 b_x0otape A_y0oops c_y0oops A_y0ovalues c_y0ovalues A_y0oblocks c_y0oblocks) 151) :: pto r.2.dry b_x0otape (blk (Ttape_Tape.obj r.2.tape A_y0otapeowords c_y0otapeowords) 158) :: rowp A_y0otapeowords c_y0otapeowords 23 1 (eI .u64) r.2.tape.words :: rowp A_y0oops c_y0oops 32 6 Tapi_Op.cells r.2.ops :: rowp A_y0ovalues c_y0ovalues 23 1 (eI .u64) r.2.values :: rowp A_y0oblocks c_y0oblocks 144 3 Tapi_Span.cells r.2.blocks :: S)
def wire_Machine_Told.m (k : Nat) (x0 : Twire_Machine) (x1 : Int) (x2 : Int) : Option (Int × Twire_Machine) := (wire_Machine_Do.m k x0 (⟨4, x1, (-1), (-1), (-1), x2⟩ : Tapi_Op) 0).bind fun v_5 => some (v_5.1, v_5.2)

set_option maxRecDepth 100000 in
set_option maxHeartbeats 4000000 in
theorem wire_Machine_Told.ok (k : Nat) (x0 : Twire_Machine) (x1 : Int) (x2 : Int) (r : (Int × Twire_Machine)) (hm : wire_Machine_Told.m k x0 x1 x2 = some r) (κ : Ctx) (w : World) (S : List HP) (b_x0 : Nat) (b_x0otape : Nat) (A_x0otapeowords : Option Addr) (c_x0otapeowords : Nat) (A_x0oops : Option Addr) (c_x0oops : Nat) (A_x0ovalues : Option Addr) (c_x0ovalues : Nat) (A_x0oblocks : Option Addr) (c_x0oblocks : Nat) (ho : Own κ w (pt b_x0 (blk (Twire_Machine.obj x0 b_x0otape A_x0oops c_x0oops A_x0ovalues c_x0ovalues A_x0oblocks c_x0oblocks) 151) :: pto x0.dry b_x0otape (blk (Ttape_Tape.obj x0.tape A_x0otapeowords c_x0otapeowords) 158) :: rowp A_x0otapeowords c_x0otapeowords 23 1 (eI .u64) x0.tape.words :: rowp A_x0oops c_x0oops 32 6 Tapi_Op.cells x0.ops :: rowp A_x0ovalues c_x0ovalues 23 1 (eI .u64) x0.values :: rowp A_x0oblocks c_x0oblocks 144 3 Tapi_Span.cells x0.blocks :: S)) :
    Calls Try.prog 105 #[.pointer (some ⟨b_x0, 0, none⟩), .int .i64 x1, .int .u64 x2] w (wire_Machine_Told.R κ S x0 x1 x2 b_x0 b_x0otape A_x0otapeowords c_x0otapeowords A_x0oops c_x0oops A_x0ovalues c_x0ovalues A_x0oblocks c_x0oblocks r) := by
  unfold wire_Machine_Told.m at hm
  refine Vk.enter [(0, .pointer (some ⟨b_x0, 0, none⟩)), (1, .int .i64 x1), (2, .int .u64 x2)] Try.func105 rfl Try.ntmps105 (by kernel_rfl) (Nat.le_of_ble_eq_true (by kernel_rfl)) ho fun a hs => ?_
  refine Vk.seq fun K1 hK1 => ?_
  refine Vk.region ?_
  refine Vk.pures 1 [(6, .int .i64 0)] hs (by kernel_rfl) fun a hs => ?_
  replace hs := hs.pick [0, 1, 2] (L' := [(0, .pointer (some ⟨b_x0, 0, none⟩)), (1, .int .i64 x1), (2, .int .u64 x2)]) (by kernel_rfl)
  refine Vk.done (by kernel_rfl) ?_
  refine hK1 _ _ ?_
  clear hK1
  refine Vk.seq fun K2 hK2 => ?_
  refine Vk.region ?_
  refine Vk.pures 4 [(10, .agg (vals [C.int .i64 4, C.int .i64 x1, C.int .i64 (-1), C.int .i64 (-1), C.int .i64 (-1), C.int .u64 x2])), (9, .int .u64 x2), (8, .int .i64 x1), (7, .pointer (some ⟨b_x0, 0, none⟩))] hs (by kernel_rfl) fun a hs => ?_
  obtain ⟨v_5, h_4, hm⟩ := bind_t hm
  refine Vk.step (Vk.call (some 11) 60 #[.pointer (some ⟨b_x0, 0, none⟩), .agg (vals [C.int .i64 4, C.int .i64 x1, C.int .i64 (-1), C.int .i64 (-1), C.int .i64 (-1), C.int .u64 x2]), .int .u64 0] hs (by kernel_rfl) (by kernel_rfl) (by kernel_rfl) ?_)
  refine (wire_Machine_Do.ok k x0 (⟨4, x1, (-1), (-1), (-1), x2⟩ : Tapi_Op) 0 v_5 h_4 κ w (S) b_x0 b_x0otape A_x0otapeowords c_x0otapeowords A_x0oops c_x0oops A_x0ovalues c_x0ovalues A_x0oblocks c_x0oblocks (Own.to hs.own [0, 1, 2, 3, 4, 5] 6 (by kernel_rfl) (by kernel_rfl))).mono ?_
  rintro _ w ⟨Ar3o0otapeowords_6, cr3o0otapeowords_7, Ar3o0oops_8, cr3o0oops_9, Ar3o0ovalues_10, cr3o0ovalues_11, Ar3o0oblocks_12, cr3o0oblocks_13, rfl, how⟩
  refine ⟨_, _, _, rfl, how, fun a hs => ?_⟩
  refine Vk.pures 1 [(6, .int .i64 v_5.1)] hs (by kernel_rfl) fun a hs => ?_
  replace hs := hs.pick [6] (L' := [(6, .int .i64 v_5.1)]) (by kernel_rfl)
  refine Vk.done (by kernel_rfl) ?_
  refine hK2 _ _ ?_
  clear hK2
  refine wp_ret ?_
  exact Vk.ret1 (P := Try.prog) (fn := Try.f105) (R := wire_Machine_Told.R κ S x0 x1 x2 b_x0 b_x0otape A_x0otapeowords c_x0otapeowords A_x0oops c_x0oops A_x0ovalues c_x0ovalues A_x0oblocks c_x0oblocks r) (.int .i64 v_5.1) hs rfl (by kernel_rfl) (by obtain rfl := Option.some.inj hm; exact ⟨Ar3o0otapeowords_6, cr3o0otapeowords_7, Ar3o0oops_8, cr3o0oops_9, Ar3o0ovalues_10, cr3o0ovalues_11, Ar3o0oblocks_12, cr3o0oblocks_13, rfl, (Own.to hs.own [0, 1, 2, 3, 4, 5] 6 (by kernel_rfl) (by kernel_rfl))⟩)


abbrev wire_Machine_One.R (κ : Ctx) (S : List HP) (x0 : Twire_Machine) (x1 : Int) (x2 : Int) (x3 : Int) (x4 : Int) (b_x0 : Nat) (b_x0otape : Nat) (A_x0otapeowords : Option Addr) (c_x0otapeowords : Nat) (A_x0oops : Option Addr) (c_x0oops : Nat) (A_x0ovalues : Option Addr) (c_x0ovalues : Nat) (A_x0oblocks : Option Addr) (c_x0oblocks : Nat) (r : (Int × Twire_Machine)) : Ending → World → Prop := fun e w' => ∃ (A_y0otapeowords : Option Addr), ∃ (c_y0otapeowords : Nat), ∃ (A_y0oops : Option Addr), ∃ (c_y0oops : Nat), ∃ (A_y0ovalues : Option Addr), ∃ (c_y0ovalues : Nat), ∃ (A_y0oblocks : Option Addr), ∃ (c_y0oblocks : Nat), e = .returned (.int .i64 r.1) ∧ Own κ w' (pt b_x0 (blk (Twire_Machine.obj r.2 b_x0otape A_y0oops c_y0oops A_y0ovalues c_y0ovalues A_y0oblocks c_y0oblocks) 151) :: pto r.2.dry b_x0otape (blk (Ttape_Tape.obj r.2.tape A_y0otapeowords c_y0otapeowords) 158) :: rowp A_y0otapeowords c_y0otapeowords 23 1 (eI .u64) r.2.tape.words :: rowp A_y0oops c_y0oops 32 6 Tapi_Op.cells r.2.ops :: rowp A_y0ovalues c_y0ovalues 23 1 (eI .u64) r.2.values :: rowp A_y0oblocks c_y0oblocks 144 3 Tapi_Span.cells r.2.blocks :: S)
def wire_Machine_One.m (k : Nat) (x0 : Twire_Machine) (x1 : Int) (x2 : Int) (x3 : Int) (x4 : Int) : Option (Int × Twire_Machine) := (wire_Machine_Do.m k x0 (⟨x1, x2, x3, (-1), (-1), x4⟩ : Tapi_Op) 0).bind fun v_5 => some (v_5.1, v_5.2)

set_option maxRecDepth 100000 in
set_option maxHeartbeats 4000000 in
theorem wire_Machine_One.ok (k : Nat) (x0 : Twire_Machine) (x1 : Int) (x2 : Int) (x3 : Int) (x4 : Int) (r : (Int × Twire_Machine)) (hm : wire_Machine_One.m k x0 x1 x2 x3 x4 = some r) (κ : Ctx) (w : World) (S : List HP) (b_x0 : Nat) (b_x0otape : Nat) (A_x0otapeowords : Option Addr) (c_x0otapeowords : Nat) (A_x0oops : Option Addr) (c_x0oops : Nat) (A_x0ovalues : Option Addr) (c_x0ovalues : Nat) (A_x0oblocks : Option Addr) (c_x0oblocks : Nat) (ho : Own κ w (pt b_x0 (blk (Twire_Machine.obj x0 b_x0otape A_x0oops c_x0oops A_x0ovalues c_x0ovalues A_x0oblocks c_x0oblocks) 151) :: pto x0.dry b_x0otape (blk (Ttape_Tape.obj x0.tape A_x0otapeowords c_x0otapeowords) 158) :: rowp A_x0otapeowords c_x0otapeowords 23 1 (eI .u64) x0.tape.words :: rowp A_x0oops c_x0oops 32 6 Tapi_Op.cells x0.ops :: rowp A_x0ovalues c_x0ovalues 23 1 (eI .u64) x0.values :: rowp A_x0oblocks c_x0oblocks 144 3 Tapi_Span.cells x0.blocks :: S)) :
    Calls Try.prog 106 #[.pointer (some ⟨b_x0, 0, none⟩), .int .i64 x1, .int .i64 x2, .int .i64 x3, .int .u64 x4] w (wire_Machine_One.R κ S x0 x1 x2 x3 x4 b_x0 b_x0otape A_x0otapeowords c_x0otapeowords A_x0oops c_x0oops A_x0ovalues c_x0ovalues A_x0oblocks c_x0oblocks r) := by
  unfold wire_Machine_One.m at hm
  refine Vk.enter [(0, .pointer (some ⟨b_x0, 0, none⟩)), (1, .int .i64 x1), (2, .int .i64 x2), (3, .int .i64 x3), (4, .int .u64 x4)] Try.func106 rfl Try.ntmps106 (by kernel_rfl) (Nat.le_of_ble_eq_true (by kernel_rfl)) ho fun a hs => ?_
  refine Vk.seq fun K1 hK1 => ?_
  refine Vk.region ?_
  refine Vk.pures 1 [(10, .int .i64 0)] hs (by kernel_rfl) fun a hs => ?_
  replace hs := hs.pick [0, 1, 2, 3, 4] (L' := [(0, .pointer (some ⟨b_x0, 0, none⟩)), (1, .int .i64 x1), (2, .int .i64 x2), (3, .int .i64 x3), (4, .int .u64 x4)]) (by kernel_rfl)
  refine Vk.done (by kernel_rfl) ?_
  refine hK1 _ _ ?_
  clear hK1
  refine Vk.seq fun K2 hK2 => ?_
  refine Vk.region ?_
  refine Vk.pures 6 [(16, .agg (vals [C.int .i64 x1, C.int .i64 x2, C.int .i64 x3, C.int .i64 (-1), C.int .i64 (-1), C.int .u64 x4])), (15, .int .u64 x4), (14, .int .i64 x3), (13, .int .i64 x2), (12, .int .i64 x1), (11, .pointer (some ⟨b_x0, 0, none⟩))] hs (by kernel_rfl) fun a hs => ?_
  obtain ⟨v_5, h_4, hm⟩ := bind_t hm
  refine Vk.step (Vk.call (some 17) 60 #[.pointer (some ⟨b_x0, 0, none⟩), .agg (vals [C.int .i64 x1, C.int .i64 x2, C.int .i64 x3, C.int .i64 (-1), C.int .i64 (-1), C.int .u64 x4]), .int .u64 0] hs (by kernel_rfl) (by kernel_rfl) (by kernel_rfl) ?_)
  refine (wire_Machine_Do.ok k x0 (⟨x1, x2, x3, (-1), (-1), x4⟩ : Tapi_Op) 0 v_5 h_4 κ w (S) b_x0 b_x0otape A_x0otapeowords c_x0otapeowords A_x0oops c_x0oops A_x0ovalues c_x0ovalues A_x0oblocks c_x0oblocks (Own.to hs.own [0, 1, 2, 3, 4, 5] 6 (by kernel_rfl) (by kernel_rfl))).mono ?_
  rintro _ w ⟨Ar3o0otapeowords_6, cr3o0otapeowords_7, Ar3o0oops_8, cr3o0oops_9, Ar3o0ovalues_10, cr3o0ovalues_11, Ar3o0oblocks_12, cr3o0oblocks_13, rfl, how⟩
  refine ⟨_, _, _, rfl, how, fun a hs => ?_⟩
  refine Vk.pures 1 [(10, .int .i64 v_5.1)] hs (by kernel_rfl) fun a hs => ?_
  replace hs := hs.pick [10] (L' := [(10, .int .i64 v_5.1)]) (by kernel_rfl)
  refine Vk.done (by kernel_rfl) ?_
  refine hK2 _ _ ?_
  clear hK2
  refine wp_ret ?_
  exact Vk.ret1 (P := Try.prog) (fn := Try.f106) (R := wire_Machine_One.R κ S x0 x1 x2 x3 x4 b_x0 b_x0otape A_x0otapeowords c_x0otapeowords A_x0oops c_x0oops A_x0ovalues c_x0ovalues A_x0oblocks c_x0oblocks r) (.int .i64 v_5.1) hs rfl (by kernel_rfl) (by obtain rfl := Option.some.inj hm; exact ⟨Ar3o0otapeowords_6, cr3o0otapeowords_7, Ar3o0oops_8, cr3o0oops_9, Ar3o0ovalues_10, cr3o0ovalues_11, Ar3o0oblocks_12, cr3o0oblocks_13, rfl, (Own.to hs.own [0, 1, 2, 3, 4, 5] 6 (by kernel_rfl) (by kernel_rfl))⟩)


abbrev visorref19_M_Begin.R (κ : Ctx) (S : List HP) (x0 : Tvisorref19_M) (x1 : Int) (b_x0 : Nat) (A_x0oops : Option Addr) (c_x0oops : Nat) (A_x0oblocks : Option Addr) (c_x0oblocks : Nat) (A_x0oval : Option Addr) (c_x0oval : Nat) (A_x0otapel : Option Addr) (c_x0otapel : Nat) (r : Tvisorref19_M) : Ending → World → Prop := fun e w' => ∃ (A_y0oops : Option Addr), ∃ (c_y0oops : Nat), ∃ (A_y0oblocks : Option Addr), ∃ (c_y0oblocks : Nat), ∃ (A_y0oval : Option Addr), ∃ (c_y0oval : Nat), ∃ (A_y0otapel : Option Addr), ∃ (c_y0otapel : Nat), e = .returned (.tuple #[]) ∧ Own κ w' (pt b_x0 (blk (Tvisorref19_M.obj r A_y0oops c_y0oops A_y0oblocks c_y0oblocks A_y0oval c_y0oval A_y0otapel c_y0otapel) 123) :: rowp A_y0oops c_y0oops 32 6 Tapi_Op.cells r.ops :: rowp A_y0oblocks c_y0oblocks 144 3 Tapi_Span.cells r.blocks :: rowp A_y0oval c_y0oval 23 1 (eI .u64) r.val :: rdp κ A_y0otapel c_y0otapel 1 (eI .u64) r.tape.l :: S)
def visorref19_M_Begin.m (k : Nat) (x0 : Tvisorref19_M) (x1 : Int) : Option Tvisorref19_M := (bif x0.e != 0 then some x0 else (bif ((x0.kind != 0) || (decide (x1 < 1))) || (decide (x1 > 3)) then some (⟨x0.n, x0.most, x0.words, x0.draws, x0.fromF, x0.skip, x0.kind, 1, x0.ops, x0.blocks, x0.val, x0.tape, x0.dry⟩ : Tvisorref19_M) else (visorref19_M_Len.m k (⟨x0.n, x0.most, x0.words, x0.draws, x0.fromF, x0.skip, x1, x0.e, x0.ops, x0.blocks, x0.val, x0.tape, x0.dry⟩ : Tvisorref19_M)).bind fun v_11 => some (⟨x0.n, x0.most, x0.words, x0.draws, v_11, x0.skip, x1, x0.e, x0.ops, x0.blocks, x0.val, x0.tape, x0.dry⟩ : Tvisorref19_M)))

set_option maxRecDepth 100000 in
set_option maxHeartbeats 4000000 in
theorem visorref19_M_Begin.ok (k : Nat) (x0 : Tvisorref19_M) (x1 : Int) (r : Tvisorref19_M) (hm : visorref19_M_Begin.m k x0 x1 = some r) (κ : Ctx) (w : World) (S : List HP) (b_x0 : Nat) (A_x0oops : Option Addr) (c_x0oops : Nat) (A_x0oblocks : Option Addr) (c_x0oblocks : Nat) (A_x0oval : Option Addr) (c_x0oval : Nat) (A_x0otapel : Option Addr) (c_x0otapel : Nat) (ho : Own κ w (pt b_x0 (blk (Tvisorref19_M.obj x0 A_x0oops c_x0oops A_x0oblocks c_x0oblocks A_x0oval c_x0oval A_x0otapel c_x0otapel) 123) :: rowp A_x0oops c_x0oops 32 6 Tapi_Op.cells x0.ops :: rowp A_x0oblocks c_x0oblocks 144 3 Tapi_Span.cells x0.blocks :: rowp A_x0oval c_x0oval 23 1 (eI .u64) x0.val :: rdp κ A_x0otapel c_x0otapel 1 (eI .u64) x0.tape.l :: S)) :
    Calls Try.prog 107 #[.pointer (some ⟨b_x0, 0, none⟩), .int .i64 x1] w (visorref19_M_Begin.R κ S x0 x1 b_x0 A_x0oops c_x0oops A_x0oblocks c_x0oblocks A_x0oval c_x0oval A_x0otapel c_x0otapel r) := by
  unfold visorref19_M_Begin.m at hm
  refine Vk.enter [(0, .pointer (some ⟨b_x0, 0, none⟩)), (1, .int .i64 x1)] Try.func107 rfl Try.ntmps107 (by kernel_rfl) (Nat.le_of_ble_eq_true (by kernel_rfl)) ho fun a hs => ?_
  refine Vk.seq fun K1 hK1 => ?_
  refine Vk.seq fun K2 hK2 => ?_
  refine Vk.region ?_
  refine Vk.pures 3 [(6, .pointer (some ⟨b_x0, 7, none⟩)), (5, .pointer (some ⟨b_x0, 0, none⟩)), (4, .pointer (some ⟨b_x0, 0, none⟩))] hs (by kernel_rfl) fun a hs => ?_
  refine Vk.step (Vk.value (some 7) (.int .i64 x0.e) hs (by kernel_rfl) (op := (.load 43 (.tmp 6))) (by kernel_rfl) (fun o ho => run_load1 (b := b_x0) (off := 7) (c := C.int .i64 x0.e) ho (by kernel_rfl) (by kernel_rfl) (Cell.own 0 rfl (by kernel_rfl)) _ hs.own) fun a hs => ?_)
  refine Vk.pures 1 [(8, .bool (x0.e != 0))] hs (by kernel_rfl) fun a hs => ?_
  replace hs := hs.pick [0, 1, 8] (L' := [(0, .pointer (some ⟨b_x0, 0, none⟩)), (1, .int .i64 x1), (8, .bool (x0.e != 0))]) (by kernel_rfl)
  refine Vk.done (by kernel_rfl) ?_
  refine hK2 _ _ ?_
  clear hK2
  refine Vk.condS (b := x0.e != 0) hs (by kernel_rfl) (by kernel_rfl) (fun hb => ?_) (fun hb => ?_)
  · replace hm := bif_t hm hb
    refine wp_ret ?_
    exact Vk.ret0 (P := Try.prog) (fn := Try.f107) (R := visorref19_M_Begin.R κ S x0 x1 b_x0 A_x0oops c_x0oops A_x0oblocks c_x0oblocks A_x0oval c_x0oval A_x0otapel c_x0otapel r) hs rfl (by obtain rfl := Option.some.inj hm; exact ⟨A_x0oops, c_x0oops, A_x0oblocks, c_x0oblocks, A_x0oval, c_x0oval, A_x0otapel, c_x0otapel, rfl, (Own.to hs.own [0, 1, 2, 3, 4] 5 (by kernel_rfl) (by kernel_rfl))⟩)
  · replace hm := bif_f hm hb
    refine wp_skip ?_
    refine hK1 _ _ ?_
    clear hK1
    refine Vk.seq fun K3 hK3 => ?_
    refine Vk.seq fun K4 hK4 => ?_
    refine Vk.region ?_
    refine Vk.pures 3 [(11, .pointer (some ⟨b_x0, 6, none⟩)), (10, .pointer (some ⟨b_x0, 0, none⟩)), (9, .pointer (some ⟨b_x0, 0, none⟩))] hs (by kernel_rfl) fun a hs => ?_
    refine Vk.step (Vk.value (some 12) (.int .i64 x0.kind) hs (by kernel_rfl) (op := (.load 3 (.tmp 11))) (by kernel_rfl) (fun o ho => run_load1 (b := b_x0) (off := 6) (c := C.int .i64 x0.kind) ho (by kernel_rfl) (by kernel_rfl) (Cell.own 0 rfl (by kernel_rfl)) _ hs.own) fun a hs => ?_)
    refine Vk.pures 2 [(14, .bool (x0.kind != 0)), (13, .bool (x0.kind != 0))] hs (by kernel_rfl) fun a hs => ?_
    suffices hj_5 : ∀ a, St 34 a w κ [(0, .pointer (some ⟨b_x0, 0, none⟩)), (1, .int .i64 x1), (8, .bool (x0.e != 0)), (9, .pointer (some ⟨b_x0, 0, none⟩)), (10, .pointer (some ⟨b_x0, 0, none⟩)), (11, .pointer (some ⟨b_x0, 6, none⟩)), (12, .int .i64 x0.kind), (13, .bool (x0.kind != 0)), (14, .bool (x0.kind != 0)), (17, .bool ((x0.kind != 0) || (decide (x1 < 1))))] (pt b_x0 (blk (Tvisorref19_M.obj x0 A_x0oops c_x0oops A_x0oblocks c_x0oblocks A_x0oval c_x0oval A_x0otapel c_x0otapel) 123) :: rowp A_x0oops c_x0oops 32 6 Tapi_Op.cells x0.ops :: rowp A_x0oblocks c_x0oblocks 144 3 Tapi_Span.cells x0.blocks :: rowp A_x0oval c_x0oval 23 1 (eI .u64) x0.val :: rdp κ A_x0otapel c_x0otapel 1 (eI .u64) x0.tape.l :: S) → wpFrom Try.prog _ _ 9 a w by
      rcases Bool.eq_false_or_eq_true (x0.kind != 0) with hb | hb
      · replace hs := hs.known (t := 14) hb (by kernel_rfl)
        refine Vk.pures 3 [(17, .bool true), (16, undef), (15, undef)] hs (by kernel_rfl) fun a hs => ?_
        have hq := hs.pick [0, 1, 8, 9, 10, 11, 12, 13, 14, 17] (L' := [(0, .pointer (some ⟨b_x0, 0, none⟩)), (1, .int .i64 x1), (8, .bool (x0.e != 0)), (9, .pointer (some ⟨b_x0, 0, none⟩)), (10, .pointer (some ⟨b_x0, 0, none⟩)), (11, .pointer (some ⟨b_x0, 6, none⟩)), (12, .int .i64 x0.kind), (13, .bool (x0.kind != 0)), (14, .bool true), (17, .bool true)]) (by kernel_rfl)
        exact hj_5 _ (hq.conv (by first | (rw [hb] <;> rfl) | rfl))
      · replace hs := hs.known (t := 14) hb (by kernel_rfl)
        refine Vk.pures 3 [(17, .bool (decide (x1 < 1))), (16, .bool (decide (x1 < 1))), (15, .int .i64 x1)] hs (by kernel_rfl) fun a hs => ?_
        have hq := hs.pick [0, 1, 8, 9, 10, 11, 12, 13, 14, 17] (L' := [(0, .pointer (some ⟨b_x0, 0, none⟩)), (1, .int .i64 x1), (8, .bool (x0.e != 0)), (9, .pointer (some ⟨b_x0, 0, none⟩)), (10, .pointer (some ⟨b_x0, 0, none⟩)), (11, .pointer (some ⟨b_x0, 6, none⟩)), (12, .int .i64 x0.kind), (13, .bool (x0.kind != 0)), (14, .bool false), (17, .bool (decide (x1 < 1)))]) (by kernel_rfl)
        exact hj_5 _ (hq.conv (by first | (rw [hb] <;> rfl) | rfl))
    intro a hs
    refine Vk.pures 1 [(18, .bool ((x0.kind != 0) || (decide (x1 < 1))))] hs (by kernel_rfl) fun a hs => ?_
    suffices hj_6 : ∀ a, St 34 a w κ [(0, .pointer (some ⟨b_x0, 0, none⟩)), (1, .int .i64 x1), (8, .bool (x0.e != 0)), (9, .pointer (some ⟨b_x0, 0, none⟩)), (10, .pointer (some ⟨b_x0, 0, none⟩)), (11, .pointer (some ⟨b_x0, 6, none⟩)), (12, .int .i64 x0.kind), (13, .bool (x0.kind != 0)), (14, .bool (x0.kind != 0)), (17, .bool ((x0.kind != 0) || (decide (x1 < 1)))), (18, .bool ((x0.kind != 0) || (decide (x1 < 1)))), (21, .bool (((x0.kind != 0) || (decide (x1 < 1))) || (decide (x1 > 3))))] (pt b_x0 (blk (Tvisorref19_M.obj x0 A_x0oops c_x0oops A_x0oblocks c_x0oblocks A_x0oval c_x0oval A_x0otapel c_x0otapel) 123) :: rowp A_x0oops c_x0oops 32 6 Tapi_Op.cells x0.ops :: rowp A_x0oblocks c_x0oblocks 144 3 Tapi_Span.cells x0.blocks :: rowp A_x0oval c_x0oval 23 1 (eI .u64) x0.val :: rdp κ A_x0otapel c_x0otapel 1 (eI .u64) x0.tape.l :: S) → wpFrom Try.prog _ _ 13 a w by
      rcases Bool.eq_false_or_eq_true ((x0.kind != 0) || (decide (x1 < 1))) with hb | hb
      · replace hs := hs.known (t := 18) hb (by kernel_rfl)
        refine Vk.pures 3 [(21, .bool true), (20, undef), (19, undef)] hs (by kernel_rfl) fun a hs => ?_
        have hq := hs.pick [0, 1, 8, 9, 10, 11, 12, 13, 14, 17, 18, 21] (L' := [(0, .pointer (some ⟨b_x0, 0, none⟩)), (1, .int .i64 x1), (8, .bool (x0.e != 0)), (9, .pointer (some ⟨b_x0, 0, none⟩)), (10, .pointer (some ⟨b_x0, 0, none⟩)), (11, .pointer (some ⟨b_x0, 6, none⟩)), (12, .int .i64 x0.kind), (13, .bool (x0.kind != 0)), (14, .bool (x0.kind != 0)), (17, .bool ((x0.kind != 0) || (decide (x1 < 1)))), (18, .bool true), (21, .bool true)]) (by kernel_rfl)
        exact hj_6 _ (hq.conv (by first | (rw [hb] <;> rfl) | rfl))
      · replace hs := hs.known (t := 18) hb (by kernel_rfl)
        refine Vk.pures 3 [(21, .bool (decide (x1 > 3))), (20, .bool (decide (x1 > 3))), (19, .int .i64 x1)] hs (by kernel_rfl) fun a hs => ?_
        have hq := hs.pick [0, 1, 8, 9, 10, 11, 12, 13, 14, 17, 18, 21] (L' := [(0, .pointer (some ⟨b_x0, 0, none⟩)), (1, .int .i64 x1), (8, .bool (x0.e != 0)), (9, .pointer (some ⟨b_x0, 0, none⟩)), (10, .pointer (some ⟨b_x0, 0, none⟩)), (11, .pointer (some ⟨b_x0, 6, none⟩)), (12, .int .i64 x0.kind), (13, .bool (x0.kind != 0)), (14, .bool (x0.kind != 0)), (17, .bool ((x0.kind != 0) || (decide (x1 < 1)))), (18, .bool false), (21, .bool (decide (x1 > 3)))]) (by kernel_rfl)
        exact hj_6 _ (hq.conv (by first | (rw [hb] <;> rfl) | rfl))
    intro a hs
    replace hs := hs.pick [0, 1, 21] (L' := [(0, .pointer (some ⟨b_x0, 0, none⟩)), (1, .int .i64 x1), (21, .bool (((x0.kind != 0) || (decide (x1 < 1))) || (decide (x1 > 3))))]) (by kernel_rfl)
    refine Vk.done (by kernel_rfl) ?_
    refine hK4 _ _ ?_
    clear hK4
    refine Vk.condS (b := ((x0.kind != 0) || (decide (x1 < 1))) || (decide (x1 > 3))) hs (by kernel_rfl) (by kernel_rfl) (fun hb => ?_) (fun hb => ?_)
    · replace hm := bif_t hm hb
      refine Vk.seq fun K7 hK7 => ?_
      refine Vk.region ?_
      refine Vk.pures 3 [(24, .pointer (some ⟨b_x0, 7, none⟩)), (23, .pointer (some ⟨b_x0, 0, none⟩)), (22, .pointer (some ⟨b_x0, 0, none⟩))] hs (by kernel_rfl) fun a hs => ?_
      refine Vk.step (Vk.store1 (b := b_x0) (ty := 43) (x := (.tmp 24)) (y := (.const (.int .i64 1))) (off := 7) (C.int .i64 1) 0 hs (by kernel_rfl) (by kernel_rfl) (by kernel_rfl) (by kernel_rfl) (by kernel_rfl) (by kernel_rfl) rfl (Nat.le_of_ble_eq_true (by kernel_rfl)) fun a w hs => ?_)
      replace hs := hs.pick [] (L' := []) (by kernel_rfl)
      refine Vk.done (by kernel_rfl) ?_
      refine hK7 _ _ ?_
      clear hK7
      refine wp_ret ?_
      exact Vk.ret0 (P := Try.prog) (fn := Try.f107) (R := visorref19_M_Begin.R κ S x0 x1 b_x0 A_x0oops c_x0oops A_x0oblocks c_x0oblocks A_x0oval c_x0oval A_x0otapel c_x0otapel r) hs rfl (by obtain rfl := Option.some.inj hm; exact ⟨A_x0oops, c_x0oops, A_x0oblocks, c_x0oblocks, A_x0oval, c_x0oval, A_x0otapel, c_x0otapel, rfl, (Own.to hs.own [0, 1, 2, 3, 4] 5 (by kernel_rfl) (by kernel_rfl))⟩)
    · replace hm := bif_f hm hb
      refine wp_skip ?_
      refine hK3 _ _ ?_
      clear hK3
      refine Vk.seq fun K8 hK8 => ?_
      refine Vk.region ?_
      refine Vk.pures 4 [(28, .pointer (some ⟨b_x0, 6, none⟩)), (27, .pointer (some ⟨b_x0, 0, none⟩)), (26, .int .i64 x1), (25, .pointer (some ⟨b_x0, 0, none⟩))] hs (by kernel_rfl) fun a hs => ?_
      refine Vk.step (Vk.store1 (b := b_x0) (ty := 3) (x := (.tmp 28)) (y := (.tmp 26)) (off := 6) (C.int .i64 x1) 0 hs (by kernel_rfl) (by kernel_rfl) (by kernel_rfl) (by kernel_rfl) (by kernel_rfl) (by kernel_rfl) rfl (Nat.le_of_ble_eq_true (by kernel_rfl)) fun a w hs => ?_)
      replace hs := hs.pick [0] (L' := [(0, .pointer (some ⟨b_x0, 0, none⟩))]) (by kernel_rfl)
      refine Vk.done (by kernel_rfl) ?_
      refine hK8 _ _ ?_
      clear hK8
      refine Vk.region ?_
      refine Vk.pures 2 [(30, .pointer (some ⟨b_x0, 0, none⟩)), (29, .pointer (some ⟨b_x0, 0, none⟩))] hs (by kernel_rfl) fun a hs => ?_
      obtain ⟨v_11, h_10, hm⟩ := bind_t hm
      refine Vk.step (Vk.call (some 31) 69 #[.pointer (some ⟨b_x0, 0, none⟩)] hs (by kernel_rfl) (by kernel_rfl) (by kernel_rfl) ?_)
      refine (visorref19_M_Len.ok k (⟨x0.n, x0.most, x0.words, x0.draws, x0.fromF, x0.skip, x1, x0.e, x0.ops, x0.blocks, x0.val, x0.tape, x0.dry⟩ : Tvisorref19_M) v_11 h_10 κ w (S) b_x0 A_x0oops c_x0oops A_x0oblocks c_x0oblocks A_x0oval c_x0oval A_x0otapel c_x0otapel (Own.to hs.own [0, 1, 2, 3, 4] 5 (by kernel_rfl) (by kernel_rfl))).mono ?_
      rintro _ w ⟨rfl, how⟩
      refine ⟨_, _, _, rfl, how, fun a hs => ?_⟩
      refine Vk.pures 2 [(33, .pointer (some ⟨b_x0, 4, none⟩)), (32, .pointer (some ⟨b_x0, 0, none⟩))] hs (by kernel_rfl) fun a hs => ?_
      refine Vk.step (Vk.store1 (b := b_x0) (ty := 3) (x := (.tmp 33)) (y := (.tmp 31)) (off := 4) (C.int .i64 v_11) 0 hs (by kernel_rfl) (by kernel_rfl) (by kernel_rfl) (by kernel_rfl) (by kernel_rfl) (by kernel_rfl) rfl (Nat.le_of_ble_eq_true (by kernel_rfl)) fun a w hs => ?_)
      replace hs := hs.pick [] (L' := []) (by kernel_rfl)
      refine Vk.done (by kernel_rfl) ?_
      exact Vk.end0 (P := Try.prog) (fn := Try.f107) (R := visorref19_M_Begin.R κ S x0 x1 b_x0 A_x0oops c_x0oops A_x0oblocks c_x0oblocks A_x0oval c_x0oval A_x0otapel c_x0otapel r) hs rfl (by obtain rfl := Option.some.inj hm; exact ⟨A_x0oops, c_x0oops, A_x0oblocks, c_x0oblocks, A_x0oval, c_x0oval, A_x0otapel, c_x0otapel, rfl, (Own.to hs.own [0, 1, 2, 3, 4] 5 (by kernel_rfl) (by kernel_rfl))⟩)

end Go.Proofs.Ytjjdlidjlepgeaa
